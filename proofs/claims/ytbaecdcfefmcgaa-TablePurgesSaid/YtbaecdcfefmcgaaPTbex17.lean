-- PRINTED by print.py (a twelfth state) out of the translation. Not trusted: Lean checks it.
import Derived.Test.YtbaecdcfefmcgaaPTbex0
import Derived.Test.YtbaecdcfefmcgaaPTbex4
import Derived.Test.YtbaecdcfefmcgaaPTbex5
import Derived.Test.YtbaecdcfefmcgaaPTbex6
import Derived.Test.YtbaecdcfefmcgaaPTbex7
import Derived.Test.YtbaecdcfefmcgaaPTbex9
import Derived.Test.YtbaecdcfefmcgaaPTbex10
import Derived.Test.YtbaecdcfefmcgaaPTbex11
import Derived.Test.YtbaecdcfefmcgaaPTbex12
import Derived.Test.YtbaecdcfefmcgaaPTbex13
import Derived.Test.YtbaecdcfefmcgaaPTbex15
import Derived.Test.YtbaecdcfefmcgaaPTbex16
import Derived.Test.YtbaecdcfefmcgaaHTabW
namespace Go.Proofs.Ytbaecdcfefmcgaa.PTbe
open Go.RowKit Go.Proofs.YtbaecdcfefmcgaaW.PrintWords Go.Proofs.YtbaecdcfefmcgaaW.PrintLast Go.Proofs.YtbaecdcfefmcgaaW.PrintMore
attribute [local go_sem] max2_int min2_int max_two min_two max_three min_three max_four min_four   -- for this text's walks alone
set_option maxHeartbeats 8000000
set_option maxRecDepth 100000
set_option linter.unusedVariables false
set_option linter.unusedSimpArgs false
/-! ### quorumlaw9_step: function 30 -/
mutual
def quorumlaw9_step.j6 : Nat → Bool → Int → Int → List (S99) → List (S99) → List (S99) → List (S99) → Option ((List (S99)) × Bool)
 | 0, _, _, _, _, _, _, _ => none
 | k + 1, x7, x8, x11, x484000, x490000, x492000, x493000 => (quorumlaw9_num.f x11).bind fun t542 => (if t542 = x8 then ((quorumref0_EqTable.f k x492000 x493000).bind fun t543 => (if t543 = true then ((quorumref0_EqTable.f k x490000 x484000).bind fun t544 => (if t544 = true then ((table_Check.f k x490000).bind fun t545 => ((quorumlaw9_num.f t545).bind fun t546 => (quorumlaw9_step.j7 k x8 ((t546 == 0) != x7) x484000 x490000 x492000 x493000))) else (quorumlaw9_step.j7 k x8 true x484000 x490000 x492000 x493000))) else (quorumlaw9_step.j7 k x8 true x484000 x490000 x492000 x493000))) else (quorumlaw9_step.j7 k x8 true x484000 x490000 x492000 x493000))
def quorumlaw9_step.j7 : Nat → Int → Bool → List (S99) → List (S99) → List (S99) → List (S99) → Option ((List (S99)) × Bool)
 | 0, _, _, _, _, _, _ => none
 | k + 1, x8, x226, x484000, x490000, x492000, x493000 => if x226 = true then (some (x484000, false)) else ((quorumlaw0_Table.f k x492000).bind fun t547 => ((quorumref0_EqTable.f k x490000 x484000).bind fun t548 => (if t548 = true then (if x8 = 0 then ((quorumref0_CopyTable.f k x493000).bind fun t549 => (some (t549, true))) else (some (x484000, true))) else (some (x484000, false)))))
def quorumlaw9_step.j0 : Nat → Bool → Int → Int → Bool → List (S99) → Int → Int → Int → ByteArray → Int → ByteArray → Bool → ByteArray → ByteArray → Bool → Bool → List (S99) → Option ((List (S99)) × Bool)
 | 0, _, _, _, _, _, _, _, _, _, _, _, _, _, _, _, _, _ => none
 | k + 1, x7, x8, x34, x73, x484000, x485000, x485001, x485002, x485003, x485004, x485005, x485006, x485007, x485008, x485009, x485010, x490000 => if x73 = true then ((table_Get.f k x490000 x485003 x485001).bind fun bt501 => ((table_Count.f k x490000).bind fun bt503 => (if x7 = true then ((quorumref8_Count.f k x484000).bind fun t505 => ((quorumref1_Key.f x485003).bind fun t506 => (if t506 = true then ((quorumref8_Get.f k x484000 x485003 x485001).bind fun bt507 => (if bt507.2 = true then (quorumlaw9_step.j1 k 0 bt501.1 bt501.2 bt503.1 bt503.2 0 t505 bt507.1 x484000 x490000) else (quorumlaw9_step.j1 k 3 bt501.1 bt501.2 bt503.1 bt503.2 0 t505 (⟨#[]⟩ : ByteArray) x484000 x490000))) else (quorumlaw9_step.j1 k x8 bt501.1 bt501.2 bt503.1 bt503.2 0 t505 (⟨#[]⟩ : ByteArray) x484000 x490000)))) else (quorumlaw9_step.j1 k x8 bt501.1 bt501.2 bt503.1 bt503.2 1 0 (⟨#[]⟩ : ByteArray) x484000 x490000)))) else (if x34 = 7 then (quorumlaw9_step.j2 k x7 x8 (x34 == 7) x484000 x485000 x485001 x485002 x485003 x485004 x485005 x485006 x485007 x485008 x485009 x485010 x490000) else (quorumlaw9_step.j2 k x7 x8 (x34 == 8) x484000 x485000 x485001 x485002 x485003 x485004 x485005 x485006 x485007 x485008 x485009 x485010 x490000))
def quorumlaw9_step.j1 : Nat → Int → ByteArray → Int → Int → Int → Int → Int → ByteArray → List (S99) → List (S99) → Option ((List (S99)) × Bool)
 | 0, _, _, _, _, _, _, _, _, _, _ => none
 | k + 1, x8, x12, x13, x14, x15, x16, x17, x18, x484000, x490000 => (quorumlaw9_num.f x13).bind fun t509 => (if t509 = x8 then (if x12.toList = x18.toList then ((quorumlaw9_num.f x15).bind fun t510 => (if t510 = x16 then (if x14 = x17 then ((quorumref0_EqTable.f k x490000 x484000).bind fun t511 => (some (x484000, t511))) else (some (x484000, false))) else (some (x484000, false)))) else (some (x484000, false))) else (some (x484000, false)))
def quorumlaw9_step.j2 : Nat → Bool → Int → Bool → List (S99) → Int → Int → Int → ByteArray → Int → ByteArray → Bool → ByteArray → ByteArray → Bool → Bool → List (S99) → Option ((List (S99)) × Bool)
 | 0, _, _, _, _, _, _, _, _, _, _, _, _, _, _, _, _ => none
 | k + 1, x7, x8, x133, x484000, x485000, x485001, x485002, x485003, x485004, x485005, x485006, x485007, x485008, x485009, x485010, x490000 => if x133 = true then ((table_Scan.f k x490000 x485007 x485008 x485009 x485001 x485002 x485010).bind fun bt512 => ((table_Map.f k x490000 x485001).bind fun bt516 => (if x7 = true then ((quorumref8_Map.f k x484000 x485001).bind fun t520 => ((quorumref1_Range.f k x485007 x485008 x485009).bind fun t523 => (if t523 = true then ((quorumref0_Num.f x485002 1073741824).bind fun t524 => (quorumlaw9_step.j3 k x8 bt512.1 bt512.2 bt516.1 bt516.2 0 ([] : List (S82)) t520 t524 x484000 x485000 x485001 x485002 x485003 x485004 x485005 x485006 x485007 x485008 x485009 x485010 x490000)) else (quorumlaw9_step.j3 k x8 bt512.1 bt512.2 bt516.1 bt516.2 0 ([] : List (S82)) t520 false x484000 x485000 x485001 x485002 x485003 x485004 x485005 x485006 x485007 x485008 x485009 x485010 x490000)))) else (quorumlaw9_step.j4 k x8 bt512.1 bt512.2 bt516.1 bt516.2 1 ([] : List (S82)) ([] : List (S82)) x484000 x490000)))) else ((table_Put.f k x490000 x485003 x485004 x485005 x485006).bind fun bt533 => (if x7 = true then ((quorumref1_Key.f x485003).bind fun t537 => (quorumlaw9_step.j5 k x7 x8 bt533.2 t537 x484000 x485000 x485001 x485002 x485003 x485004 x485005 x485006 x485007 x485008 x485009 x485010 x490000 bt533.1)) else (quorumlaw9_step.j5 k x7 x8 bt533.2 false x484000 x485000 x485001 x485002 x485003 x485004 x485005 x485006 x485007 x485008 x485009 x485010 x490000 bt533.1)))
def quorumlaw9_step.j4 : Nat → Int → List (S82) → Int → List (S82) → Int → Int → List (S82) → List (S82) → List (S99) → List (S99) → Option ((List (S99)) × Bool)
 | 0, _, _, _, _, _, _, _, _, _, _ => none
 | k + 1, x8, x21, x22, x23, x24, x25, x26, x27, x484000, x490000 => (quorumlaw9_num.f x22).bind fun t528 => (if t528 = x8 then ((quorumref0_EqRows.f k x21 x26).bind fun t529 => (if t529 = true then ((quorumlaw9_num.f x24).bind fun t530 => (if t530 = x25 then ((quorumref0_EqRows.f k x23 x27).bind fun t531 => (if t531 = true then ((quorumref0_EqTable.f k x490000 x484000).bind fun t532 => (some (x484000, t532))) else (some (x484000, false)))) else (some (x484000, false)))) else (some (x484000, false)))) else (some (x484000, false)))
def quorumlaw9_step.j3 : Nat → Int → List (S82) → Int → List (S82) → Int → Int → List (S82) → List (S82) → Bool → List (S99) → Int → Int → Int → ByteArray → Int → ByteArray → Bool → ByteArray → ByteArray → Bool → Bool → List (S99) → Option ((List (S99)) × Bool)
 | 0, _, _, _, _, _, _, _, _, _, _, _, _, _, _, _, _, _, _, _, _, _, _ => none
 | k + 1, x8, x21, x22, x23, x24, x25, x26, x27, x168, x484000, x485000, x485001, x485002, x485003, x485004, x485005, x485006, x485007, x485008, x485009, x485010, x490000 => if x168 = true then ((quorumref6_Rows.f k x27 x485007 x485008 x485009 x485002 x485010).bind fun t525 => (quorumlaw9_step.j4 k 0 x21 x22 x23 x24 x25 t525 x27 x484000 x490000)) else (quorumlaw9_step.j4 k x8 x21 x22 x23 x24 x25 x26 x27 x484000 x490000)
def quorumlaw9_step.j5 : Nat → Bool → Int → Int → Bool → List (S99) → Int → Int → Int → ByteArray → Int → ByteArray → Bool → ByteArray → ByteArray → Bool → Bool → List (S99) → List (S99) → Option ((List (S99)) × Bool)
 | 0, _, _, _, _, _, _, _, _, _, _, _, _, _, _, _, _, _, _ => none
 | k + 1, x7, x8, x11, x49, x484000, x485000, x485001, x485002, x485003, x485004, x485005, x485006, x485007, x485008, x485009, x485010, x490000, x492000 => if x49 = true then ((quorumref8_Put.f k x484000 x485003 x485004 x485005 x485006).bind fun bt538 => (quorumlaw9_step.j6 k x7 bt538.2 x11 x484000 x490000 x492000 bt538.1)) else (quorumlaw9_step.j6 k x7 x8 x11 x484000 x490000 x492000 ([] : List (S99)))
end
def quorumlaw9_step.f (k : Nat) (l0_0 : List (S99)) (a1_0 : Int) (a1_1 : Int) (a1_2 : Int) (a1_3 : ByteArray) (a1_4 : Int) (a1_5 : ByteArray) (a1_6 : Bool) (a1_7 : ByteArray) (a1_8 : ByteArray) (a1_9 : Bool) (a1_10 : Bool) : Option ((List (S99)) × Bool) := (quorumref0_CopyTable.f k l0_0).bind fun t486 => ((quorumref8_Table.f k l0_0).bind fun t490 => ((quorumlaw0_Within.f a1_0 9).bind fun t493 => (if t493 = 4 then ((table_Purge.f k t486 a1_1).bind fun bt494 => (if t490 = true then ((quorumref8_PurgeAll.f k l0_0 a1_1).bind fun t498 => (quorumlaw9_step.j6 k t490 0 bt494.2 l0_0 t486 bt494.1 t498)) else (quorumlaw9_step.j6 k t490 1 bt494.2 l0_0 t486 bt494.1 ([] : List (S99))))) else (if t493 = 5 then (quorumlaw9_step.j0 k t490 1 t493 (t493 == 5) l0_0 a1_0 a1_1 a1_2 a1_3 a1_4 a1_5 a1_6 a1_7 a1_8 a1_9 a1_10 t486) else (quorumlaw9_step.j0 k t490 1 t493 (t493 == 6) l0_0 a1_0 a1_1 a1_2 a1_3 a1_4 a1_5 a1_6 a1_7 a1_8 a1_9 a1_10 t486)))))
theorem quorumlaw9_step.mono_l : ∀ k, (∀ y0 y1 y2 y3 y4 y5 y6, LeO (quorumlaw9_step.j6 k y0 y1 y2 y3 y4 y5 y6) (quorumlaw9_step.j6 (k + 1) y0 y1 y2 y3 y4 y5 y6)) ∧ (∀ y0 y1 y2 y3 y4 y5, LeO (quorumlaw9_step.j7 k y0 y1 y2 y3 y4 y5) (quorumlaw9_step.j7 (k + 1) y0 y1 y2 y3 y4 y5)) ∧ (∀ y0 y1 y2 y3 y4 y5 y6 y7 y8 y9 y10 y11 y12 y13 y14 y15 y16, LeO (quorumlaw9_step.j0 k y0 y1 y2 y3 y4 y5 y6 y7 y8 y9 y10 y11 y12 y13 y14 y15 y16) (quorumlaw9_step.j0 (k + 1) y0 y1 y2 y3 y4 y5 y6 y7 y8 y9 y10 y11 y12 y13 y14 y15 y16)) ∧ (∀ y0 y1 y2 y3 y4 y5 y6 y7 y8 y9, LeO (quorumlaw9_step.j1 k y0 y1 y2 y3 y4 y5 y6 y7 y8 y9) (quorumlaw9_step.j1 (k + 1) y0 y1 y2 y3 y4 y5 y6 y7 y8 y9)) ∧ (∀ y0 y1 y2 y3 y4 y5 y6 y7 y8 y9 y10 y11 y12 y13 y14 y15, LeO (quorumlaw9_step.j2 k y0 y1 y2 y3 y4 y5 y6 y7 y8 y9 y10 y11 y12 y13 y14 y15) (quorumlaw9_step.j2 (k + 1) y0 y1 y2 y3 y4 y5 y6 y7 y8 y9 y10 y11 y12 y13 y14 y15)) ∧ (∀ y0 y1 y2 y3 y4 y5 y6 y7 y8 y9, LeO (quorumlaw9_step.j4 k y0 y1 y2 y3 y4 y5 y6 y7 y8 y9) (quorumlaw9_step.j4 (k + 1) y0 y1 y2 y3 y4 y5 y6 y7 y8 y9)) ∧ (∀ y0 y1 y2 y3 y4 y5 y6 y7 y8 y9 y10 y11 y12 y13 y14 y15 y16 y17 y18 y19 y20 y21, LeO (quorumlaw9_step.j3 k y0 y1 y2 y3 y4 y5 y6 y7 y8 y9 y10 y11 y12 y13 y14 y15 y16 y17 y18 y19 y20 y21) (quorumlaw9_step.j3 (k + 1) y0 y1 y2 y3 y4 y5 y6 y7 y8 y9 y10 y11 y12 y13 y14 y15 y16 y17 y18 y19 y20 y21)) ∧ (∀ y0 y1 y2 y3 y4 y5 y6 y7 y8 y9 y10 y11 y12 y13 y14 y15 y16 y17, LeO (quorumlaw9_step.j5 k y0 y1 y2 y3 y4 y5 y6 y7 y8 y9 y10 y11 y12 y13 y14 y15 y16 y17) (quorumlaw9_step.j5 (k + 1) y0 y1 y2 y3 y4 y5 y6 y7 y8 y9 y10 y11 y12 y13 y14 y15 y16 y17))
 | 0 => ⟨fun _ _ _ _ _ _ _ r h => by simp [quorumlaw9_step.j6] at h, fun _ _ _ _ _ _ r h => by simp [quorumlaw9_step.j7] at h, fun _ _ _ _ _ _ _ _ _ _ _ _ _ _ _ _ _ r h => by simp [quorumlaw9_step.j0] at h, fun _ _ _ _ _ _ _ _ _ _ r h => by simp [quorumlaw9_step.j1] at h, fun _ _ _ _ _ _ _ _ _ _ _ _ _ _ _ _ r h => by simp [quorumlaw9_step.j2] at h, fun _ _ _ _ _ _ _ _ _ _ r h => by simp [quorumlaw9_step.j4] at h, fun _ _ _ _ _ _ _ _ _ _ _ _ _ _ _ _ _ _ _ _ _ _ r h => by simp [quorumlaw9_step.j3] at h, fun _ _ _ _ _ _ _ _ _ _ _ _ _ _ _ _ _ _ r h => by simp [quorumlaw9_step.j5] at h⟩
 | k + 1 => by
  obtain ⟨ih0, ih1, ih2, ih3, ih4, ih5, ih6, ih7⟩ := quorumlaw9_step.mono_l k
  refine ⟨?_, ?_, ?_, ?_, ?_, ?_, ?_, ?_⟩
  all_goals (intros; first | unfold quorumlaw9_step.j6 | unfold quorumlaw9_step.j7 | unfold quorumlaw9_step.j0 | unfold quorumlaw9_step.j1 | unfold quorumlaw9_step.j2 | unfold quorumlaw9_step.j4 | unfold quorumlaw9_step.j3 | unfold quorumlaw9_step.j5)
  all_goals (repeat' first | (with_reducible exact ih0 ..) | (with_reducible exact ih1 ..) | (with_reducible exact ih2 ..) | (with_reducible exact ih3 ..) | (with_reducible exact ih4 ..) | (with_reducible exact ih5 ..) | (with_reducible exact ih6 ..) | (with_reducible exact ih7 ..) | (with_reducible exact quorumlaw0_Table.mono ..) | (with_reducible exact quorumref0_CopyTable.mono ..) | (with_reducible exact quorumref0_EqRows.mono ..) | (with_reducible exact quorumref0_EqTable.mono ..) | (with_reducible exact quorumref1_Range.mono ..) | (with_reducible exact quorumref6_Rows.mono ..) | (with_reducible exact quorumref8_Count.mono ..) | (with_reducible exact quorumref8_Get.mono ..) | (with_reducible exact quorumref8_Map.mono ..) | (with_reducible exact quorumref8_PurgeAll.mono ..) | (with_reducible exact quorumref8_Put.mono ..) | (with_reducible exact quorumref8_Table.mono ..) | (with_reducible exact table_Check.mono ..) | (with_reducible exact table_Count.mono ..) | (with_reducible exact table_Get.mono ..) | (with_reducible exact table_Map.mono ..) | (with_reducible exact table_Purge.mono ..) | (with_reducible exact table_Put.mono ..) | (with_reducible exact table_Scan.mono ..) | (with_reducible exact LeO.refl _) | (with_reducible exact LeO.none _) | (with_reducible refine LeO.ite ?_ ?_) | (with_reducible refine LeO.bind ?_ (fun _ => ?_)) | exact LeO.none _ | refine LeO.ite ?_ ?_ | refine LeO.bind ?_ (fun _ => ?_))
theorem quorumlaw9_step.mono : ∀ a0 a1 a2 a3 a4 a5 a6 a7 a8 a9 a10 a11 k, LeO (quorumlaw9_step.f k a0 a1 a2 a3 a4 a5 a6 a7 a8 a9 a10 a11) (quorumlaw9_step.f (k + 1) a0 a1 a2 a3 a4 a5 a6 a7 a8 a9 a10 a11) := by
 intro a0 a1 a2 a3 a4 a5 a6 a7 a8 a9 a10 a11 k
 obtain ⟨ih0, ih1, ih2, ih3, ih4, ih5, ih6, ih7⟩ := quorumlaw9_step.mono_l k
 unfold quorumlaw9_step.f
 repeat' first | (with_reducible exact ih0 ..) | (with_reducible exact ih1 ..) | (with_reducible exact ih2 ..) | (with_reducible exact ih3 ..) | (with_reducible exact ih4 ..) | (with_reducible exact ih5 ..) | (with_reducible exact ih6 ..) | (with_reducible exact ih7 ..) | (with_reducible exact quorumlaw0_Table.mono ..) | (with_reducible exact quorumref0_CopyTable.mono ..) | (with_reducible exact quorumref0_EqRows.mono ..) | (with_reducible exact quorumref0_EqTable.mono ..) | (with_reducible exact quorumref1_Range.mono ..) | (with_reducible exact quorumref6_Rows.mono ..) | (with_reducible exact quorumref8_Count.mono ..) | (with_reducible exact quorumref8_Get.mono ..) | (with_reducible exact quorumref8_Map.mono ..) | (with_reducible exact quorumref8_PurgeAll.mono ..) | (with_reducible exact quorumref8_Put.mono ..) | (with_reducible exact quorumref8_Table.mono ..) | (with_reducible exact table_Check.mono ..) | (with_reducible exact table_Count.mono ..) | (with_reducible exact table_Get.mono ..) | (with_reducible exact table_Map.mono ..) | (with_reducible exact table_Purge.mono ..) | (with_reducible exact table_Put.mono ..) | (with_reducible exact table_Scan.mono ..) | (with_reducible exact LeO.refl _) | (with_reducible exact LeO.none _) | (with_reducible refine LeO.ite ?_ ?_) | (with_reducible refine LeO.bind ?_ (fun _ => ?_)) | exact LeO.none _ | refine LeO.ite ?_ ?_ | refine LeO.bind ?_ (fun _ => ?_)
def quorumlaw9_step.T26 : Bool × List (List Nat × List Nat) := (true, [([], []), ([], []), ([1], [1]), ([], []), ([2, 3], [2, 3]), ([4, 2], [4]), ([5], [5]), ([5], [5]), ([6, 7, 5], [5, 6, 7]), ([5, 8], [5, 8]), ([9, 5], [9]), ([10], [10]), ([11, 10, 10], [10, 11]), ([10], [10]), ([12, 13, 10], [10, 12, 13]), ([10, 14], [10, 14]), ([15, 12], [15]), ([16], [16]), ([16], [16]), ([17, 18, 16], [16, 17, 18]), ([16, 19], [16, 19]), ([20, 16], [20]), ([21], [21]), ([21], [21]), ([22, 23, 21, 21], [21, 22, 23]), ([21, 24], [21, 24]), ([0, 24, 0], [0]), ([25, 26, 0, 1, 2, 3, 4, 5, 6, 7, 8, 9, 10, 11, 12, 13, 14, 15, 16, 17, 18, 19, 20, 21, 22, 23, 24, 25, 26], [25])])
def quorumlaw9_step.B26 : List Nat := [0, 0, 2, 0, 14, 30, 62, 62, 254, 510, 1022, 2046, 4094, 2046, 16382, 32766, 65534, 131070, 131070, 524286, 1048574, 2097150, 4194302, 4194302, 16777214, 33554430, 33554431, 134217727]
theorem quorumlaw9_step.tab26 : rtab .any (opsOf Try.f30 26) = quorumlaw9_step.T26 := by kernel_rfl
theorem quorumlaw9_step.bits26 : waitsOk quorumlaw9_step.T26.2 quorumlaw9_step.B26 = true := by kernel_rfl
def quorumlaw9_step.T37 : Bool × List (List Nat × List Nat) := (true, [([], []), ([], []), ([1], [1]), ([], []), ([2, 3], [2, 3]), ([4, 2], [4]), ([5], [5]), ([5], [5]), ([6, 7, 5, 5], [5, 6, 7]), ([5, 8], [5, 8]), ([9, 8], [9]), ([10], [10]), ([11, 10, 10], [10, 11]), ([10], [10]), ([12, 13, 10], [10, 12, 13]), ([10, 14], [10, 14]), ([15, 12], [15]), ([16], [16]), ([16], [16]), ([17, 18, 16, 16], [16, 17, 18]), ([16, 19], [16, 19]), ([20, 19], [20]), ([21], [21]), ([21], [21]), ([22, 23, 21, 21], [21, 22, 23]), ([21, 24], [21, 24]), ([0, 24, 0], [0]), ([25, 26, 0, 1, 2, 3, 4, 5, 6, 7, 8, 9, 10, 11, 12, 13, 14, 15, 16, 17, 18, 19, 20, 21, 22, 23, 24, 25, 26], [25])])
def quorumlaw9_step.B37 : List Nat := [0, 0, 2, 0, 14, 30, 62, 62, 254, 510, 1022, 2046, 4094, 2046, 16382, 32766, 65534, 131070, 131070, 524286, 1048574, 2097150, 4194302, 4194302, 16777214, 33554430, 33554431, 134217727]
theorem quorumlaw9_step.tab37 : rtab .any (opsOf Try.f30 37) = quorumlaw9_step.T37 := by kernel_rfl
theorem quorumlaw9_step.bits37 : waitsOk quorumlaw9_step.T37.2 quorumlaw9_step.B37 = true := by kernel_rfl
theorem quorumlaw9_step.calls (k : Nat) (P0_0_ : Nat → Prop) (A0_0 : Option Addr) (c0_0 : Nat) (l0_0 : List (S99)) (a1_0 : Int) (a1_1 : Int) (a1_2 : Int) (a1_3 : ByteArray) (a1_4 : Int) (a1_5 : ByteArray) (a1_6 : Bool) (a1_7 : ByteArray) (a1_8 : ByteArray) (a1_9 : Bool) (a1_10 : Bool) (r1 : List (S99)) (r2 : Bool) (w : World) (hs0_0 : Kd.V k99 99 w w.heap.size (fun k_ => P0_0_ k_) (.slice A0_0 l0_0.length c0_0) l0_0) (h : quorumlaw9_step.f k l0_0 a1_0 a1_1 a1_2 a1_3 a1_4 a1_5 a1_6 a1_7 a1_8 a1_9 a1_10 = some (r1, r2)) :
  Calls Try.prog 30 #[.agg #[.slice A0_0 l0_0.length c0_0], .agg #[.int .i64 a1_0, .int .i64 a1_1, .int .i64 a1_2, .string a1_3, .int .i64 a1_4, .string a1_5, .bool a1_6, .string a1_7, .string a1_8, .bool a1_9, .bool a1_10]] w fun e w' => ∃ v0_ : Value, e = .returned (.tuple #[.agg #[v0_], .bool r2]) ∧ Kd.V k99 99 w' w.heap.size (fun k_ => (P0_0_ k_ ∨ w.heap.size ≤ k_)) v0_ r1 ∧ Below w.heap.size w w' := by
 have hu47 := Try.underlying47
 have hu76 := Try.underlying76
 have hu74 := Try.underlying74
 have hu72 := Try.underlying72
 have aS := mk0 (show Kd.V k99 99 w w.heap.size (fun k_ => (P0_0_ k_ ∨ w.heap.size ≤ k_)) (.slice A0_0 l0_0.length c0_0) l0_0 from Kd.V_mono hs0_0 (fun k_ hk => .inl hk))
 have HB := mk0 (Below.refl w.heap.size w)
 have H : ((quorumref0_CopyTable.f k l0_0).bind fun am => ((quorumref8_Table.f k l0_0).bind fun bp => ((quorumlaw0_Within.f a1_0 9).bind fun bq => (if bq = 4 then ((table_Purge.f k am a1_1).bind fun bt494 => (if bp = true then ((quorumref8_PurgeAll.f k l0_0 a1_1).bind fun bN => (quorumlaw9_step.j6 k bp 0 bt494.2 l0_0 am bt494.1 bN)) else (quorumlaw9_step.j6 k bp 1 bt494.2 l0_0 am bt494.1 ([] : List (S99))))) else (if bq = 5 then (quorumlaw9_step.j0 k bp 1 bq (bq == 5) l0_0 a1_0 a1_1 a1_2 a1_3 a1_4 a1_5 a1_6 a1_7 a1_8 a1_9 a1_10 am) else (quorumlaw9_step.j0 k bp 1 bq (bq == 6) l0_0 a1_0 a1_1 a1_2 a1_3 a1_4 a1_5 a1_6 a1_7 a1_8 a1_9 a1_10 am)))))) = some (r1, r2) := h
 clear h
 replace H := ob_ H
 obtain ⟨am, A3, H⟩ := H
 try dsimp only at H
 replace H := ob_ H
 obtain ⟨bp, A4, H⟩ := H
 try dsimp only at H
 replace H := ob_ H
 obtain ⟨bq, A5, H⟩ := H
 try dsimp only at H
 have HC6 := mk0 H
 clear H
 go_enter Try.func30, Try.ntmps30
 go_upto_block 0 with (first | ((with_reducible refine gate_dst (N := 2) rfl ?_); refine bx_ (N := 2) (cs := #[.slice A0_0 l0_0.length c0_0]) (t := 47) (h := ?_); intro ar hg w7 hbox hb; have cr := mk0 (gz_ HB hg); have bU := mk0 (gz_ HB hg); replace aS := mk0 (Kd.V_below (Kd.V_elderB (v_ aS) ar (Nat.le_of_eq hg.symm)) hb); replace HB := mk0 (bt_ (b_ HB) hb); have ac := mk0 (hbox); have fr := bU; clear cr bU; clear hb hbox hg) | ((with_reducible refine gate_dst (N := 3) rfl ?_); refine bx_ (N := 3) (cs := #[.int .i64 a1_0, .int .i64 a1_1, .int .i64 a1_2, .string a1_3, .int .i64 a1_4, .string a1_5, .bool a1_6, .string a1_7, .string a1_8, .bool a1_9, .bool a1_10]) (t := 76) (h := ?_); intro ax hg w8 hbox hb; have bU := mk0 (gz_ HB hg); have d2 := mk0 (gz_ HB hg); have b8 := mk0 (ne1_ ac hg); have ct := mk0 (ne2_ ac hg); replace aS := mk0 (Kd.V_below (Kd.V_elderB (v_ aS) ax (Nat.le_of_eq hg.symm)) hb); replace ac := mk0 (u_ ac hb); replace HB := mk0 (bt_ (b_ HB) hb); have ae := mk0 (hbox); have fs := d2; have aJ := b8; have aK := ct; clear bU d2 b8 ct; clear hb hbox hg) | ((with_reducible refine gate_dst (N := 4) rfl ?_); refine bx_ (N := 4) (cs := #[.slice none 0 0]) (t := 47) (h := ?_); intro ai hg w9 hbox hb; have d2 := mk0 (gz_ HB hg); have b8 := mk0 (gz_ HB hg); have ct := mk0 (ne1_ ac hg); have cu := mk0 (ne2_ ac hg); have bV := mk0 (ne1_ ae hg); have bE := mk0 (ne2_ ae hg); replace aS := mk0 (Kd.V_below (Kd.V_elderB (v_ aS) ai (Nat.le_of_eq hg.symm)) hb); replace ac := mk0 (u_ ac hb); replace ae := mk0 (u_ ae hb); replace HB := mk0 (bt_ (b_ HB) hb); have ad := mk0 (hbox); have dl := b8; have an := ct; have aC := cu; have ap := bV; have aq := bE; clear d2 b8 ct cu bV bE hb hbox hg; have vh := aJ.out; have vi := aK.out; have vj := an.out; have vk := aC.out; obtain ⟨dr, dt⟩ := c1_ ac) | ((with_reducible refine gate_callee (f := 29) rfl ?_); refine gL_ (some 29) Try.func29 #[.agg #[.slice A0_0 l0_0.length c0_0]] (h := ?_); (with_reducible refine (quorumref0_CopyTable.calls k _ _ l0_0 am _ ?side1 ?side2 A3.out).mono ?_); (case side1 => exact cv_ aS); (case side2 => exact (Kd.V_reads' aS.out).2.1); rintro e xR ⟨xj, rfl, ho0, hb⟩; refine ⟨_, rfl, ?_⟩; have nW := mk0 (Kd.N_lower (Kd.N_mono (ok' := fun k_ => (P0_0_ k_ ∨ w.heap.size ≤ k_) ∧ k_ ≠ ar ∧ k_ ≠ ax ∧ k_ ≠ ai) (Kd.S_N (Kd.S_bound ho0)) (fun k_ hk_ => ⟨(.inr (Nat.le_trans (bz_ (b_ HB)) hk_.2.1)), (fb_ ac k_ hk_.2.1), (fb_ ae k_ hk_.2.1), (fb_ ad k_ hk_.2.1)⟩)) (bz_ (b_ HB))); replace aS := mk0 (Kd.V_elder' (v_ aS) (Kd.S_base ho0) hb); replace ac := mk0 (u_ ac hb); replace ae := mk0 (u_ ae hb); replace ad := mk0 (u_ ad hb); replace HB := mk0 (bt_ (b_ HB) hb); have aY := nW; clear nW; (try clear hb); (try clear ho0)) | ((with_reducible refine gate_dst (N := 6) rfl ?_); refine bx_ (N := 6) (cs := #[.slice none 0 0]) (t := 47) (h := ?_); intro au hg xS hbox hb; have ct := mk0 (gz_ HB hg); have cu := mk0 (gz_ HB hg); have bV := mk0 (ne1_ ac hg); have bE := mk0 (ne2_ ac hg); have bX := mk0 (ne1_ ae hg); have bY := mk0 (ne2_ ae hg); have bZ := mk0 (ne1_ ad hg); have b0 := mk0 (ne2_ ad hg); replace aS := mk0 (Kd.V_below (Kd.V_elderB (v_ aS) au (Nat.le_of_eq hg.symm)) hb); replace aY := mk0 (Kd.N_below (Kd.N_elderB (nn_ aY) au (Nat.le_of_eq hg.symm)) hb); replace ac := mk0 (u_ ac hb); replace ae := mk0 (u_ ae hb); replace ad := mk0 (u_ ad hb); replace HB := mk0 (bt_ (b_ HB) hb); have af := mk0 (hbox); have ft := cu; have aQ := bV; have aU := bE; have aM := bX; have aN := bY; have aD := bZ; have ay := b0; clear ct cu bV bE bX bY bZ b0 hb hbox hg; obtain ⟨aA, aB, nX⟩ := Kd.N_slice aY.out; subst nX; have vl := aU.out; have vm := aQ.out; have vn := aN.out; have vo := aM.out; have vp := ay.out; have vq := aD.out; obtain ⟨du, dv⟩ := c1_ af; obtain ⟨dw, dx⟩ := c1_ ac) | ((with_reducible refine gate_callee (f := 37) rfl ?_); refine gL_ (some 31) Try.func37 #[.agg #[.slice A0_0 l0_0.length c0_0]] (h := ?_); (with_reducible refine (quorumref8_Table.calls k _ _ l0_0 bp _ ?side1 ?side2 A4.out).mono ?_); (case side1 => refine (Kd.V_reads' (e := 99) (base := w.heap.size) (ok := fun k_ => (((((((P0_0_ k_ ∨ w.heap.size ≤ k_)) ∧ k_ ≠ ar) ∧ k_ ≠ ax) ∧ k_ ≠ ai) ∧ some k_ ≠ (.slice aA am.length aB : Value).ownBlock) ∧ k_ ≠ au)) (n := l0_0.length) (c := c0_0) ?_).2.2; exact (v2_ (Kd.V_mono (Kd.V_far (p := ⟨au, 0, none⟩) (Kd.V_mono aS.out (fun k_ hk => (⟨hk, hk.2⟩ : _ ∧ k_ ≠ au))) (fun _ hk => hk.2) (.slice aA am.length aB)) (fun _ h_ => h_.1)))); (case side2 => exact (Kd.V_reads' aS.out).2.1); rintro e xT ⟨rfl, hb⟩; refine ⟨_, rfl, ?_⟩; replace aS := mk0 (Kd.V_below (v2_ (Kd.V_mono (Kd.V_far (p := ⟨au, 0, none⟩) (Kd.V_mono aS.out (fun k_ hk => (⟨hk, hk.2⟩ : _ ∧ k_ ≠ au))) (fun _ hk => hk.2) (.slice aA am.length aB)) (fun _ h_ => h_.1))) hb); replace aY := mk0 (Kd.N_below (n2_ (Kd.N_mono (Kd.N_far (p := ⟨au, 0, none⟩) (Kd.N_mono aY.out (fun k_ hk => (⟨hk, hk.2⟩ : _ ∧ k_ ≠ au))) (fun _ hk => hk.2) (.slice aA am.length aB)) (fun _ h_ => h_.1))) hb); replace ac := mk0 (blk_below (fa_ (h_ ac) aQ.out) hb); replace ae := mk0 (blk_below (fa_ (h_ ae) aM.out) hb); replace ad := mk0 (blk_below (fa_ (h_ ad) aD.out) hb); replace af := mk0 (blk_below (g := au) (o := .cells #[.slice aA am.length aB] 47 (0, 0)) (pu_ (cs := #[.slice none 0 0]) (h_ af)) hb); replace HB := mk0 (bt_ (b_ HB) hb); (try clear hb)) | ((with_reducible refine gate_dst (N := 9) rfl ?_); refine bx_ (N := 9) (cs := #[.slice none 0 0]) (t := 47) (h := ?_); intro al hg xU hbox hb; have cu := mk0 (gz_ HB hg); have bV := mk0 (gz_ HB hg); have bE := mk0 (ne1_ ac hg); have bX := mk0 (ne2_ ac hg); have bY := mk0 (ne1_ ae hg); have bZ := mk0 (ne2_ ae hg); have b0 := mk0 (ne1_ ad hg); have dy := mk0 (ne2_ ad hg); have dz := mk0 (ne1_ af hg); have dA := mk0 (ne2_ af hg); replace aS := mk0 (Kd.V_below (Kd.V_elderB (v_ aS) al (Nat.le_of_eq hg.symm)) hb); replace aY := mk0 (Kd.N_below (Kd.N_elderB (nn_ aY) al (Nat.le_of_eq hg.symm)) hb); replace ac := mk0 (u_ ac hb); replace ae := mk0 (u_ ae hb); replace ad := mk0 (u_ ad hb); replace af := mk0 (u_ af hb); replace HB := mk0 (bt_ (b_ HB) hb); have ag := mk0 (hbox); have fu := bV; have aF := bE; have aV := bX; have av := bY; have aG := bZ; have aw := b0; have aH := dy; have aR := dz; have bd := dA; clear cu bV bE bX bY bZ b0 dy dz dA; clear hb hbox hg) | ((with_reducible refine gate_dst (N := 10) rfl ?_); refine bx_ (N := 10) (cs := #[.slice none 0 0]) (t := 47) (h := ?_); intro ao hg xV hbox hb; have bV := mk0 (gz_ HB hg); have bE := mk0 (gz_ HB hg); have bX := mk0 (ne1_ ac hg); have bY := mk0 (ne2_ ac hg); have bZ := mk0 (ne1_ ae hg); have b0 := mk0 (ne2_ ae hg); have dy := mk0 (ne1_ ad hg); have dz := mk0 (ne2_ ad hg); have dA := mk0 (ne1_ af hg); have gN := mk0 (ne2_ af hg); have gO := mk0 (ne1_ ag hg); have gP := mk0 (ne2_ ag hg); replace aS := mk0 (Kd.V_below (Kd.V_elderB (v_ aS) ao (Nat.le_of_eq hg.symm)) hb); replace aY := mk0 (Kd.N_below (Kd.N_elderB (nn_ aY) ao (Nat.le_of_eq hg.symm)) hb); replace ac := mk0 (u_ ac hb); replace ae := mk0 (u_ ae hb); replace ad := mk0 (u_ ad hb); replace af := mk0 (u_ af hb); replace ag := mk0 (u_ ag hb); replace HB := mk0 (bt_ (b_ HB) hb); have ah := mk0 (hbox); have fv := bE; have aZ := bX; have be := bY; have az := bZ; have aI := b0; have aE := dy; have aL := dz; have bb := dA; have bg := gN; have bc := gO; have aW := gP; clear bV bE bX bY bZ b0 dy dz dA gN gO gP hb hbox hg; have vr := ap.out; have vs := aq.out; have vt := av.out; have vu := aG.out; have vv := az.out; have vw := aI.out; obtain ⟨dB, dC, dD, dE, dF, dG, dH, dI, dJ, dK, cv, dL, dM, dN, dO, dP, dQ, dR, dS, dT, dU, cw⟩ := c11_ ae) | ((with_reducible refine gate_callee (f := 52) rfl ?_); refine gL_ (some 34) Try.func52 #[.int .i64 a1_0, .int .i64 9] (h := ?_); (with_reducible refine (quorumlaw0_Within.calls a1_0 9 bq _ A5.out).mono ?_); rintro e w' ⟨rfl, ⟨nd, rfl⟩⟩; refine ⟨_, rfl, ?_⟩))
 (try simp only [Act.put, List.setIfInBounds_toArray, List.set_cons_zero, List.set_cons_succ])
 go_cut [8, 11] (fun v8 v11 wc => ∃ (kq : Nat) (cx : Int) (br : Int) (bf : List (S99)) (ba : List (S99)) (bh : Value) (bi : Value), v8 = .int .i64 cx ∧ v11 = .int .i64 br ∧ Fc (quorumlaw9_step.j6 kq bp cx br l0_0 am bf ba = some (r1, r2)) ∧ Fc (kq ≤ k) ∧ Fc (Kd.V k99 99 wc w.heap.size (fun k_ => (P0_0_ k_ ∨ w.heap.size ≤ k_) ∧ some k_ ≠ ((.slice aA am.length aB) : Value).ownBlock ∧ some k_ ≠ (bh : Value).ownBlock ∧ some k_ ≠ (bi : Value).ownBlock ∧ k_ ≠ ar ∧ k_ ≠ ax ∧ k_ ≠ ai ∧ k_ ≠ au ∧ k_ ≠ al ∧ k_ ≠ ao) (.slice A0_0 l0_0.length c0_0) l0_0) ∧ Fc (Kd.N k99 99 wc w.heap.size (fun k_ => (P0_0_ k_ ∨ w.heap.size ≤ k_) ∧ some k_ ≠ (bh : Value).ownBlock ∧ some k_ ≠ (bi : Value).ownBlock ∧ k_ ≠ ar ∧ k_ ≠ ax ∧ k_ ≠ ai ∧ k_ ≠ au ∧ k_ ≠ al ∧ k_ ≠ ao) (.slice aA am.length aB) am) ∧ Fc (Kd.N k99 99 wc w.heap.size (fun k_ => (P0_0_ k_ ∨ w.heap.size ≤ k_) ∧ some k_ ≠ ((.slice aA am.length aB) : Value).ownBlock ∧ some k_ ≠ (bi : Value).ownBlock ∧ k_ ≠ ar ∧ k_ ≠ ax ∧ k_ ≠ ai ∧ k_ ≠ au ∧ k_ ≠ al ∧ k_ ≠ ao) bh bf) ∧ Fc (Kd.N k99 99 wc w.heap.size (fun k_ => (P0_0_ k_ ∨ w.heap.size ≤ k_) ∧ some k_ ≠ ((.slice aA am.length aB) : Value).ownBlock ∧ some k_ ≠ (bh : Value).ownBlock ∧ k_ ≠ ar ∧ k_ ≠ ax ∧ k_ ≠ ai ∧ k_ ≠ au ∧ k_ ≠ al ∧ k_ ≠ ao) bi ba) ∧ Fc (wc.heap[ar]? = some (.cells #[(.slice A0_0 l0_0.length c0_0)] 47 (0, 0))) ∧ Fc (wc.heap[ax]? = some (.cells #[.int .i64 a1_0, .int .i64 a1_1, .int .i64 a1_2, .string a1_3, .int .i64 a1_4, .string a1_5, .bool a1_6, .string a1_7, .string a1_8, .bool a1_9, .bool a1_10] 76 (0, 0))) ∧ Fc (wc.heap[ai]? = some (.cells #[(.slice none 0 0)] 47 (0, 0))) ∧ Fc (wc.heap[au]? = some (.cells #[(.slice aA am.length aB)] 47 (0, 0))) ∧ Fc (wc.heap[al]? = some (.cells #[bh] 47 (0, 0))) ∧ Fc (wc.heap[ao]? = some (.cells #[bi] 47 (0, 0))) ∧ Fc (Below w.heap.size w wc) ∧ Fc (HTabU.Apart w wc (fun k_ => k_ = ar ∨ k_ = ax ∨ k_ = ai ∨ k_ = au ∨ k_ = al ∨ k_ = ao) bh bf (.slice aA am.length aB) am bi ba))
 case first =>
  have H := HC6.out
  clear HC6
  by_cases dm : bq = 4
  ·rw [if_pos dm] at H
   have bL := beq_iff_eq.mpr dm
   have d3 := bne_eq_false_iff_eq.mpr dm
   clear dm
   (first | rw [bL] | (simp only [i64_w, i32_w]; rw [bL]) | skip)
   replace H := ob_ H
   obtain ⟨⟨bl, ed⟩, nY, H⟩ := H
   try dsimp only at H
   by_cases gp : bp = true
   rotate_left
   ·replace gp := Bool.eq_false_iff.mpr gp
    subst gp
    rw [if_neg nf_] at H
    have H' := mk0 H
    clear H
    have vx := aU.out
    have vy := aQ.out
    have vz := aN.out
    have vA := aM.out
    have vB := ay.out
    have vC := aD.out
    have vD := aR.out
    have vE := bd.out
    have vF := bb.out
    have vG := bg.out
    obtain ⟨nZ, n0⟩ := c1_ af
    have vH := aK.out
    have vI := aJ.out
    have vJ := ap.out
    have vK := aq.out
    have vL := av.out
    have vM := aG.out
    have vN := az.out
    have vO := aI.out
    obtain ⟨n1, n2, n3, n4, n5, n6, n7, n8, n9, oa, ik, ob, oc, od, oe, og, oh, oi, oj, ol, om, il⟩ := c11_ ae
    go_wp2_with (first | ((with_reducible refine gate_callee (f := 71) rfl ?_); refine gL_ (some 65) Try.func71 #[.agg #[.slice aA am.length aB], .int .i64 a1_1] (h := ?_); (with_reducible refine (table_Purge.calls k _ _ am a1_1 bl ed _ ?side1 ?side2 nY.out).mono ?_); (case side1 => exact cn_ aY); (case side2 => exact (Kd.N_reads' aY.out).2.1); rintro e xW ⟨oo, rfl, ho0, hb⟩; refine ⟨_, rfl, ?_⟩; have HBN := mk0 (HTabU.Born.make_S (w := w) (B := (fun k_ => k_ = ar ∨ k_ = ax ∨ k_ = ai ∨ k_ = au ∨ k_ = al ∨ k_ = ao)) ho0 hb (bz_ (b_ HB)) (HTabU.box6 (blk_lt (h_ ac)) (blk_lt (h_ ae)) (blk_lt (h_ ad)) (blk_lt (h_ af)) (blk_lt (h_ ag)) (blk_lt (h_ ah))) (nn_ aY) (by intro k_ hk_ hb_; (obtain h | h | h | h | h | h := hb_) <;> (rw [h] at hk_; simp at hk_))); have n2_ := mk0 (Kd.N_lower (Kd.N_mono (ok' := fun k_ => (P0_0_ k_ ∨ w.heap.size ≤ k_) ∧ some k_ ≠ (.slice aA am.length aB : Value).ownBlock ∧ k_ ≠ ar ∧ k_ ≠ ax ∧ k_ ≠ ai ∧ k_ ≠ au ∧ k_ ≠ al ∧ k_ ≠ ao) (Kd.S_N (Kd.S_bound ho0)) (fun k_ hk_ => ⟨(.inr (Nat.le_trans (bz_ (b_ HB)) hk_.2.1)), (Kd.fresh' (Kd.N_lt (nn_ aY)) k_ hk_.2.1), (fb_ ac k_ hk_.2.1), (fb_ ae k_ hk_.2.1), (fb_ ad k_ hk_.2.1), (fb_ af k_ hk_.2.1), (fb_ ag k_ hk_.2.1), (fb_ ah k_ hk_.2.1)⟩)) (bz_ (b_ HB))); replace aS := mk0 (Kd.V_elder' (v_ aS) (Kd.S_base ho0) hb); replace aY := mk0 (Kd.N_elder' (nn_ aY) (Kd.S_base ho0) hb); replace ac := mk0 (u_ ac hb); replace ae := mk0 (u_ ae hb); replace ad := mk0 (u_ ad hb); replace af := mk0 (u_ af hb); replace ag := mk0 (u_ ag hb); replace ah := mk0 (u_ ah hb); replace HB := mk0 (bt_ (b_ HB) hb); have bF := n2_; clear n2_; (try clear hb); (try clear ho0); obtain ⟨ee, ef, op⟩ := Kd.N_slice bF.out; subst op; have vP := aV.out; have vQ := aF.out; have vR := aH.out; have vS := aw.out; have vT := bc.out; have vU := aW.out; obtain ⟨oq, os⟩ := c1_ ag))
    go_meet
    case rel => exact ⟨_, (1), (ed), (bl), (([] : List (S99))), (.slice ee bl.length ef), (.slice none 0 0), sm_, sm_, H', ⟨by first | omega | exact Nat.le_refl _⟩, ⟨by (with_reducible repeat (first | apply Kd.V_alloc | apply Kd.V_drewN | apply Kd.V_drew)); exact Kd.V_mono (Kd.V_far (p := ⟨al, 0, none⟩) (Kd.V_mono aS.out (fun k_ hk => (⟨hk, hk.1.1.2⟩ : _ ∧ k_ ≠ al))) (fun _ hk => hk.2) (.slice ee bl.length ef)) (fun _ hk => ⟨hk.1.1.1.1.1.1.1.1.1, ⟨hk.1.1.1.1.1.2, ⟨hk.1.2, ⟨(by simp [Value.ownBlock]), ⟨hk.1.1.1.1.1.1.1.1.2, ⟨hk.1.1.1.1.1.1.1.2, ⟨hk.1.1.1.1.1.1.2, ⟨hk.1.1.1.1.2, ⟨hk.1.1.1.2, hk.1.1.2⟩⟩⟩⟩⟩⟩⟩⟩⟩)⟩, ⟨by (with_reducible repeat (first | apply Kd.N_alloc | apply Kd.N_drewN | apply Kd.N_drew)); exact Kd.N_mono (Kd.N_far (p := ⟨al, 0, none⟩) (Kd.N_mono aY.out (fun k_ hk => (⟨hk, hk.1.1.2⟩ : _ ∧ k_ ≠ al))) (fun _ hk => hk.2) (.slice ee bl.length ef)) (fun _ hk => ⟨hk.1.1.1.1.1.1, ⟨hk.1.2, ⟨(by simp [Value.ownBlock]), ⟨hk.1.1.1.1.1.2.1, ⟨hk.1.1.1.1.1.2.2.1, ⟨hk.1.1.1.1.1.2.2.2, ⟨hk.1.1.1.1.2, ⟨hk.1.1.1.2, hk.1.1.2⟩⟩⟩⟩⟩⟩⟩⟩)⟩, ⟨by (with_reducible repeat (first | apply Kd.N_alloc | apply Kd.N_drewN | apply Kd.N_drew)); exact Kd.N_mono (Kd.N_far (p := ⟨al, 0, none⟩) (Kd.N_mono bF.out (fun k_ hk => (⟨hk, hk.2.2.2.2.2.2.1⟩ : _ ∧ k_ ≠ al))) (fun _ hk => hk.2) (.slice ee bl.length ef)) (fun _ hk => ⟨hk.1.1, ⟨hk.1.2.1, ⟨(by simp [Value.ownBlock]), ⟨hk.1.2.2.1, ⟨hk.1.2.2.2.1, ⟨hk.1.2.2.2.2.1, ⟨hk.1.2.2.2.2.2.1, ⟨hk.1.2.2.2.2.2.2.1, hk.1.2.2.2.2.2.2.2⟩⟩⟩⟩⟩⟩⟩⟩)⟩, ⟨nl_⟩, ⟨(fa_ (h_ ac) aF.out)⟩, ⟨(fa_ (h_ ae) av.out)⟩, ⟨(fa_ (h_ ad) aw.out)⟩, ⟨(fa_ (h_ af) aR.out)⟩, ⟨(pu_ (cs := #[.slice none 0 0]) (h_ ag))⟩, ⟨(fa_ (h_ ah) aW.out)⟩, ⟨b_ HB⟩, ⟨HTabU.Apart.nil (HTabU.bset_ (HTabU.born_ HBN) (by simp))⟩⟩
   subst gp
   rw [if_pos rfl] at H
   replace H := ob_ H
   obtain ⟨bN, vV, H⟩ := H
   try dsimp only at H
   have H' := mk0 H
   clear H
   have vW := aU.out
   have vX := aQ.out
   have vY := aN.out
   have vZ := aM.out
   have wa := ay.out
   have wb := aD.out
   have wd := aR.out
   have we := bd.out
   have wf := bb.out
   have wg := bg.out
   obtain ⟨ot, ou⟩ := c1_ af
   have wh := aK.out
   have wi := aJ.out
   have wj := ap.out
   have wk := aq.out
   have wl := av.out
   have wm := aG.out
   have wn := az.out
   have wo := aI.out
   obtain ⟨ov, ow, ox, oy, oz, oA, oB, oC, oD, oE, im, oF, oG, oH, oI, oJ, oK, oL, oM, oN, oO, io⟩ := c11_ ae
   go_wp2_with (first | ((with_reducible refine gate_callee (f := 71) rfl ?_); refine gL_ (some 65) Try.func71 #[.agg #[.slice aA am.length aB], .int .i64 a1_1] (h := ?_); (with_reducible refine (table_Purge.calls k _ _ am a1_1 bl ed _ ?side1 ?side2 nY.out).mono ?_); (case side1 => exact cn_ aY); (case side2 => exact (Kd.N_reads' aY.out).2.1); rintro e xX ⟨oo, rfl, ho0, hb⟩; refine ⟨_, rfl, ?_⟩; have HBN := mk0 (HTabU.Born.make_S (w := w) (B := (fun k_ => k_ = ar ∨ k_ = ax ∨ k_ = ai ∨ k_ = au ∨ k_ = al ∨ k_ = ao)) ho0 hb (bz_ (b_ HB)) (HTabU.box6 (blk_lt (h_ ac)) (blk_lt (h_ ae)) (blk_lt (h_ ad)) (blk_lt (h_ af)) (blk_lt (h_ ag)) (blk_lt (h_ ah))) (nn_ aY) (by intro k_ hk_ hb_; (obtain h | h | h | h | h | h := hb_) <;> (rw [h] at hk_; simp at hk_))); have n2_ := mk0 (Kd.N_lower (Kd.N_mono (ok' := fun k_ => (P0_0_ k_ ∨ w.heap.size ≤ k_) ∧ some k_ ≠ (.slice aA am.length aB : Value).ownBlock ∧ k_ ≠ ar ∧ k_ ≠ ax ∧ k_ ≠ ai ∧ k_ ≠ au ∧ k_ ≠ al ∧ k_ ≠ ao) (Kd.S_N (Kd.S_bound ho0)) (fun k_ hk_ => ⟨(.inr (Nat.le_trans (bz_ (b_ HB)) hk_.2.1)), (Kd.fresh' (Kd.N_lt (nn_ aY)) k_ hk_.2.1), (fb_ ac k_ hk_.2.1), (fb_ ae k_ hk_.2.1), (fb_ ad k_ hk_.2.1), (fb_ af k_ hk_.2.1), (fb_ ag k_ hk_.2.1), (fb_ ah k_ hk_.2.1)⟩)) (bz_ (b_ HB))); replace aS := mk0 (Kd.V_elder' (v_ aS) (Kd.S_base ho0) hb); replace aY := mk0 (Kd.N_elder' (nn_ aY) (Kd.S_base ho0) hb); replace ac := mk0 (u_ ac hb); replace ae := mk0 (u_ ae hb); replace ad := mk0 (u_ ad hb); replace af := mk0 (u_ af hb); replace ag := mk0 (u_ ag hb); replace ah := mk0 (u_ ah hb); replace HB := mk0 (bt_ (b_ HB) hb); have bF := n2_; clear n2_; (try clear hb); (try clear ho0); obtain ⟨bG, bH, oP⟩ := Kd.N_slice bF.out; subst oP; have wp := aV.out; have wq := aF.out; have wr := aH.out; have ws := aw.out; have wt := bc.out; have wu := aW.out; obtain ⟨oQ, oR⟩ := c1_ ag; have wv := an.out; have ww := aC.out; have wx := aZ.out; have wy := be.out; obtain ⟨oS, oT⟩ := c1_ ac; obtain ⟨oU, oV, oW, oX, oY, oZ, o0, o1, o2, o3, ip, o4, o5, o6, o7, o8, o9, pa, pb, pc, pd, iq⟩ := c11_ ae) | ((with_reducible refine gate_callee (f := 72) rfl ?_); refine gL_ (some 72) Try.func72 #[.agg #[.slice A0_0 l0_0.length c0_0], .int .i64 a1_1] (h := ?_); (with_reducible refine (quorumref8_PurgeAll.calls k _ _ l0_0 a1_1 bN _ ?side1 ?side2 vV.out).mono ?_); (case side1 => refine (Kd.V_reads' (e := 99) (base := w.heap.size) (ok := fun k_ => ((((((((((P0_0_ k_ ∨ w.heap.size ≤ k_)) ∧ k_ ≠ ar) ∧ k_ ≠ ax) ∧ k_ ≠ ai) ∧ some k_ ≠ (.slice aA am.length aB : Value).ownBlock) ∧ k_ ≠ au) ∧ k_ ≠ al) ∧ k_ ≠ ao) ∧ some k_ ≠ (.slice bG bl.length bH : Value).ownBlock)) (n := l0_0.length) (c := c0_0) ?_).2.2; exact (v2_ (Kd.V_mono (Kd.V_far (p := ⟨al, 0, none⟩) (Kd.V_mono aS.out (fun k_ hk => (⟨hk, hk.1.1.2⟩ : _ ∧ k_ ≠ al))) (fun _ hk => hk.2) (.slice bG bl.length bH)) (fun _ h_ => h_.1)))); (case side2 => exact (Kd.V_reads' aS.out).2.1); rintro e xY ⟨xk, rfl, ho0, hb⟩; refine ⟨_, rfl, ?_⟩; have HAP := mk0 (HTabU.Apart.of_S (HTabU.bset_ (HTabU.born_ HBN) (by simp)) ho0 hb); clear HBN; have cr := mk0 (Kd.N_lower (Kd.N_mono (ok' := fun k_ => (P0_0_ k_ ∨ w.heap.size ≤ k_) ∧ some k_ ≠ (.slice aA am.length aB : Value).ownBlock ∧ some k_ ≠ (.slice bG bl.length bH : Value).ownBlock ∧ k_ ≠ ar ∧ k_ ≠ ax ∧ k_ ≠ ai ∧ k_ ≠ au ∧ k_ ≠ al ∧ k_ ≠ ao) (Kd.S_N (Kd.S_bound ho0)) (fun k_ hk_ => ⟨(.inr (Nat.le_trans (bz_ (b_ HB)) hk_.2.1)), (Kd.fresh' (Kd.N_lt (n2_ (Kd.N_mono (Kd.N_far (p := ⟨al, 0, none⟩) (Kd.N_mono aY.out (fun k_ hk => (⟨hk, hk.1.1.2⟩ : _ ∧ k_ ≠ al))) (fun _ hk => hk.2) (.slice bG bl.length bH)) (fun _ h_ => h_.1)))) k_ hk_.2.1), (Kd.fresh' (Kd.N_lt (n2_ (Kd.N_mono (Kd.N_far (p := ⟨al, 0, none⟩) (Kd.N_mono bF.out (fun k_ hk => (⟨hk, hk.2.2.2.2.2.2.1⟩ : _ ∧ k_ ≠ al))) (fun _ hk => hk.2) (.slice bG bl.length bH)) (fun _ h_ => h_.1)))) k_ hk_.2.1), (Kd.freshB (g := ar) (o := .cells #[.slice A0_0 l0_0.length c0_0] 47 (0, 0)) (fa_ (h_ ac) aF.out) k_ hk_.2.1), (Kd.freshB (g := ax) (o := .cells #[.int .i64 a1_0, .int .i64 a1_1, .int .i64 a1_2, .string a1_3, .int .i64 a1_4, .string a1_5, .bool a1_6, .string a1_7, .string a1_8, .bool a1_9, .bool a1_10] 76 (0, 0)) (fa_ (h_ ae) av.out) k_ hk_.2.1), (Kd.freshB (g := ai) (o := .cells #[.slice none 0 0] 47 (0, 0)) (fa_ (h_ ad) aw.out) k_ hk_.2.1), (Kd.freshB (g := au) (o := .cells #[.slice aA am.length aB] 47 (0, 0)) (fa_ (h_ af) aR.out) k_ hk_.2.1), (Kd.freshB (g := al) (o := .cells #[.slice bG bl.length bH] 47 (0, 0)) (pu_ (cs := #[.slice none 0 0]) (h_ ag)) k_ hk_.2.1), (Kd.freshB (g := ao) (o := .cells #[.slice none 0 0] 47 (0, 0)) (fa_ (h_ ah) aW.out) k_ hk_.2.1)⟩)) (bz_ (b_ HB))); replace aS := mk0 (Kd.V_elder' (v2_ (Kd.V_mono (Kd.V_far (p := ⟨al, 0, none⟩) (Kd.V_mono aS.out (fun k_ hk => (⟨hk, hk.1.1.2⟩ : _ ∧ k_ ≠ al))) (fun _ hk => hk.2) (.slice bG bl.length bH)) (fun _ h_ => h_.1))) (Kd.S_base ho0) hb); replace aY := mk0 (Kd.N_elder' (n2_ (Kd.N_mono (Kd.N_far (p := ⟨al, 0, none⟩) (Kd.N_mono aY.out (fun k_ hk => (⟨hk, hk.1.1.2⟩ : _ ∧ k_ ≠ al))) (fun _ hk => hk.2) (.slice bG bl.length bH)) (fun _ h_ => h_.1))) (Kd.S_base ho0) hb); replace bF := mk0 (Kd.N_elder' (n2_ (Kd.N_mono (Kd.N_far (p := ⟨al, 0, none⟩) (Kd.N_mono bF.out (fun k_ hk => (⟨hk, hk.2.2.2.2.2.2.1⟩ : _ ∧ k_ ≠ al))) (fun _ hk => hk.2) (.slice bG bl.length bH)) (fun _ h_ => h_.1))) (Kd.S_base ho0) hb); replace ac := mk0 (blk_below (fa_ (h_ ac) aF.out) hb); replace ae := mk0 (blk_below (fa_ (h_ ae) av.out) hb); replace ad := mk0 (blk_below (fa_ (h_ ad) aw.out) hb); replace af := mk0 (blk_below (fa_ (h_ af) aR.out) hb); replace ag := mk0 (blk_below (g := al) (o := .cells #[.slice bG bl.length bH] 47 (0, 0)) (pu_ (cs := #[.slice none 0 0]) (h_ ag)) hb); replace ah := mk0 (blk_below (fa_ (h_ ah) aW.out) hb); replace HB := mk0 (bt_ (b_ HB) hb); have fw := cr; clear cr; (try clear hb); (try clear ho0); obtain ⟨dV, dW, pe⟩ := Kd.N_slice fw.out; subst pe; have wz := aL.out; have wA := aE.out; obtain ⟨pf, pg⟩ := c1_ ah))
   go_meet
   case rel => exact ⟨_, (0), (ed), (bl), (bN), (.slice bG bl.length bH), (.slice dV bN.length dW), sm_, sm_, H', ⟨by first | omega | exact Nat.le_refl _⟩, ⟨by (with_reducible repeat (first | apply Kd.V_alloc | apply Kd.V_drewN | apply Kd.V_drew)); exact Kd.V_mono (Kd.V_far (p := ⟨ao, 0, none⟩) (Kd.V_mono aS.out (fun k_ hk => (⟨hk, hk.1.1.2⟩ : _ ∧ k_ ≠ ao))) (fun _ hk => hk.2) (.slice dV bN.length dW)) (fun _ hk => ⟨hk.1.1.1.1.1.1.1.1.1.1, ⟨hk.1.1.1.1.1.1.2, ⟨hk.1.1.2, ⟨hk.1.2, ⟨hk.1.1.1.1.1.1.1.1.1.2, ⟨hk.1.1.1.1.1.1.1.1.2, ⟨hk.1.1.1.1.1.1.1.2, ⟨hk.1.1.1.1.1.2, ⟨hk.1.1.1.1.2, hk.1.1.1.2⟩⟩⟩⟩⟩⟩⟩⟩⟩)⟩, ⟨by (with_reducible repeat (first | apply Kd.N_alloc | apply Kd.N_drewN | apply Kd.N_drew)); exact Kd.N_mono (Kd.N_far (p := ⟨ao, 0, none⟩) (Kd.N_mono aY.out (fun k_ hk => (⟨hk, hk.1.1.2⟩ : _ ∧ k_ ≠ ao))) (fun _ hk => hk.2) (.slice dV bN.length dW)) (fun _ hk => ⟨hk.1.1.1.1.1.1.1, ⟨hk.1.1.2, ⟨hk.1.2, ⟨hk.1.1.1.1.1.1.2.1, ⟨hk.1.1.1.1.1.1.2.2.1, ⟨hk.1.1.1.1.1.1.2.2.2, ⟨hk.1.1.1.1.1.2, ⟨hk.1.1.1.1.2, hk.1.1.1.2⟩⟩⟩⟩⟩⟩⟩⟩)⟩, ⟨by (with_reducible repeat (first | apply Kd.N_alloc | apply Kd.N_drewN | apply Kd.N_drew)); exact Kd.N_mono (Kd.N_far (p := ⟨ao, 0, none⟩) (Kd.N_mono bF.out (fun k_ hk => (⟨hk, hk.1.2.2.2.2.2.2.2⟩ : _ ∧ k_ ≠ ao))) (fun _ hk => hk.2) (.slice dV bN.length dW)) (fun _ hk => ⟨hk.1.1.1, ⟨hk.1.1.2.1, ⟨hk.1.2, ⟨hk.1.1.2.2.1, ⟨hk.1.1.2.2.2.1, ⟨hk.1.1.2.2.2.2.1, ⟨hk.1.1.2.2.2.2.2.1, ⟨hk.1.1.2.2.2.2.2.2.1, hk.1.1.2.2.2.2.2.2.2⟩⟩⟩⟩⟩⟩⟩⟩)⟩, ⟨by (with_reducible repeat (first | apply Kd.N_alloc | apply Kd.N_drewN | apply Kd.N_drew)); exact Kd.N_mono (Kd.N_far (p := ⟨ao, 0, none⟩) (Kd.N_mono fw.out (fun k_ hk => (⟨hk, hk.2.2.2.2.2.2.2.2⟩ : _ ∧ k_ ≠ ao))) (fun _ hk => hk.2) (.slice dV bN.length dW)) (fun _ hk => ⟨hk.1.1, ⟨hk.1.2.1, ⟨hk.1.2.2.1, ⟨hk.1.2.2.2.1, ⟨hk.1.2.2.2.2.1, ⟨hk.1.2.2.2.2.2.1, ⟨hk.1.2.2.2.2.2.2.1, ⟨hk.1.2.2.2.2.2.2.2.1, hk.1.2.2.2.2.2.2.2.2⟩⟩⟩⟩⟩⟩⟩⟩)⟩, ⟨(fa_ (h_ ac) aZ.out)⟩, ⟨(fa_ (h_ ae) az.out)⟩, ⟨(fa_ (h_ ad) aE.out)⟩, ⟨(fa_ (h_ af) bb.out)⟩, ⟨(fa_ (h_ ag) bc.out)⟩, ⟨(pu_ (cs := #[.slice none 0 0]) (h_ ah))⟩, ⟨b_ HB⟩, ⟨HTabU.aset_ (HTabU.ap_ HAP) (by simp)⟩⟩
  rw [if_neg dm] at H
  have bL := beq_eq_false_iff_ne.mpr dm
  have d3 := bne_iff_ne.mpr dm
  (first | rw [bL] | (simp only [i64_w, i32_w]; rw [bL]) | skip)
  have HC74 := mk0 H
  clear H
  go_upto_if 73 with (fail)
  go_cut [73] (fun v73 wc => ∃ (kq : Nat) (b3 : Bool), v73 = .bool b3 ∧ Fc (quorumlaw9_step.j0 kq bp 1 bq b3 l0_0 a1_0 a1_1 a1_2 a1_3 a1_4 a1_5 a1_6 a1_7 a1_8 a1_9 a1_10 am = some (r1, r2)) ∧ Fc (kq ≤ k) ∧ Fc (Kd.V k99 99 wc w.heap.size (fun k_ => (P0_0_ k_ ∨ w.heap.size ≤ k_) ∧ some k_ ≠ ((.slice aA am.length aB) : Value).ownBlock ∧ k_ ≠ ar ∧ k_ ≠ ax ∧ k_ ≠ ai ∧ k_ ≠ au ∧ k_ ≠ al ∧ k_ ≠ ao) (.slice A0_0 l0_0.length c0_0) l0_0) ∧ Fc (Kd.N k99 99 wc w.heap.size (fun k_ => (P0_0_ k_ ∨ w.heap.size ≤ k_) ∧ k_ ≠ ar ∧ k_ ≠ ax ∧ k_ ≠ ai ∧ k_ ≠ au ∧ k_ ≠ al ∧ k_ ≠ ao) (.slice aA am.length aB) am) ∧ Fc (wc.heap[ar]? = some (.cells #[(.slice A0_0 l0_0.length c0_0)] 47 (0, 0))) ∧ Fc (wc.heap[ax]? = some (.cells #[.int .i64 a1_0, .int .i64 a1_1, .int .i64 a1_2, .string a1_3, .int .i64 a1_4, .string a1_5, .bool a1_6, .string a1_7, .string a1_8, .bool a1_9, .bool a1_10] 76 (0, 0))) ∧ Fc (wc.heap[ai]? = some (.cells #[(.slice none 0 0)] 47 (0, 0))) ∧ Fc (wc.heap[au]? = some (.cells #[(.slice aA am.length aB)] 47 (0, 0))) ∧ Fc (wc.heap[al]? = some (.cells #[(.slice none 0 0)] 47 (0, 0))) ∧ Fc (wc.heap[ao]? = some (.cells #[(.slice none 0 0)] 47 (0, 0))) ∧ Fc (Below w.heap.size w wc))
  case first =>
   have H := HC74.out
   clear HC74
   by_cases d4 : bq = 5
   rotate_left
   ·rw [if_neg d4] at H
    have b9 := beq_eq_false_iff_ne.mpr d4
    have gZ := bne_iff_ne.mpr d4
    (first | rw [b9] | (simp only [i64_w, i32_w]; rw [b9]) | skip)
    have H' := mk0 H
    clear H
    go_wp2
    go_meet
    case rel => exact ⟨_, ((bq == 6)), sm_, H', ⟨by first | omega | exact Nat.le_refl _⟩, ⟨by (with_reducible repeat (first | apply Kd.V_alloc | apply Kd.V_drewN | apply Kd.V_drew)); exact Kd.V_mono aS.out (fun _ hk => ⟨hk.1.1.1.1.1.1.1, ⟨hk.1.1.1.2, ⟨hk.1.1.1.1.1.1.2, ⟨hk.1.1.1.1.1.2, ⟨hk.1.1.1.1.2, ⟨hk.1.1.2, ⟨hk.1.2, hk.2⟩⟩⟩⟩⟩⟩⟩)⟩, ⟨by (with_reducible repeat (first | apply Kd.N_alloc | apply Kd.N_drewN | apply Kd.N_drew)); exact Kd.N_mono aY.out (fun _ hk => ⟨hk.1.1.1.1, ⟨hk.1.1.1.2.1, ⟨hk.1.1.1.2.2.1, ⟨hk.1.1.1.2.2.2, ⟨hk.1.1.2, ⟨hk.1.2, hk.2⟩⟩⟩⟩⟩⟩)⟩, ⟨h_ ac⟩, ⟨h_ ae⟩, ⟨h_ ad⟩, ⟨h_ af⟩, ⟨h_ ag⟩, ⟨h_ ah⟩, ⟨b_ HB⟩⟩
   rw [if_pos d4] at H
   have b9 := beq_iff_eq.mpr d4
   have gZ := bne_eq_false_iff_eq.mpr d4
   clear d4
   (first | rw [b9] | (simp only [i64_w, i32_w]; rw [b9]) | skip)
   have H' := mk0 H
   clear H
   go_wp2
   go_meet
   case rel => exact ⟨_, ((bq == 5)), sm_, H', ⟨by first | omega | exact Nat.le_refl _⟩, ⟨by (with_reducible repeat (first | apply Kd.V_alloc | apply Kd.V_drewN | apply Kd.V_drew)); exact Kd.V_mono aS.out (fun _ hk => ⟨hk.1.1.1.1.1.1.1, ⟨hk.1.1.1.2, ⟨hk.1.1.1.1.1.1.2, ⟨hk.1.1.1.1.1.2, ⟨hk.1.1.1.1.2, ⟨hk.1.1.2, ⟨hk.1.2, hk.2⟩⟩⟩⟩⟩⟩⟩)⟩, ⟨by (with_reducible repeat (first | apply Kd.N_alloc | apply Kd.N_drewN | apply Kd.N_drew)); exact Kd.N_mono aY.out (fun _ hk => ⟨hk.1.1.1.1, ⟨hk.1.1.1.2.1, ⟨hk.1.1.1.2.2.1, ⟨hk.1.1.1.2.2.2, ⟨hk.1.1.2, ⟨hk.1.2, hk.2⟩⟩⟩⟩⟩⟩)⟩, ⟨h_ ac⟩, ⟨h_ ae⟩, ⟨h_ ad⟩, ⟨h_ af⟩, ⟨h_ ag⟩, ⟨h_ ah⟩, ⟨b_ HB⟩⟩
  clear HC74
  try clear dm
  try clear bL
  try clear d3
  try clear dr dt
  try clear du dv
  try clear dw dx
  try clear dB dC cv dD dE dF dG dH dI dJ dK dL dM cw dN dO dP dQ dR dS dT dU
  obtain ⟨kq, b3, rfl, HA, bs, aa, ab, ac, ae, ad, af, ag, ah, HB⟩ := hcut
  cases kq with
  | zero => exact absurd HA.out (by simp [quorumlaw9_step.j0])
  | succ b1 =>
  have H := HA.out
  clear HA
  simp only [quorumlaw9_step.j0] at H
  as_aux_lemma =>
  by_cases dn : b3 = true
  ·subst dn
   rw [if_pos rfl] at H
   replace H := ob_ H
   obtain ⟨⟨fx, bB⟩, wB, H⟩ := H
   try dsimp only at H
   replace H := ob_ H
   obtain ⟨⟨fy, b2⟩, wC, H⟩ := H
   try dsimp only at H
   have HC79 := mk0 H
   clear H
   have wD := aU.out
   have wE := aQ.out
   have wF := aN.out
   have wG := aM.out
   have wH := ay.out
   have wI := aD.out
   have wJ := aR.out
   have wK := bd.out
   have wL := bb.out
   have wM := bg.out
   obtain ⟨fz, fA⟩ := c1_ af
   have wN := aK.out
   have wO := aJ.out
   have wP := ap.out
   have wQ := aq.out
   have wR := av.out
   have wS := aG.out
   have wT := az.out
   have wU := aI.out
   obtain ⟨fB, fC, fD, fE, fF, fG, fH, fI, fJ, fK, ez, fL, fM, fN, fO, fP, fQ, fR, fS, fT, fU, eA⟩ := c11_ ae
   go_upto_if 90 with (first | ((with_reducible refine gate_callee (f := 73) rfl ?_); refine gL_ (some 82) Try.func73 #[.agg #[.slice aA am.length aB], .string a1_3, .int .i64 a1_1] (h := ?_); (with_reducible refine (table_Get.calls b1 _ _ am a1_3 a1_1 fx bB _ ?side1 ?side2 wB.out).mono ?_); (case side1 => exact cn_ ab); (case side2 => exact (Kd.N_reads' ab.out).2.1); rintro e xZ ⟨rfl, hb⟩; refine ⟨_, rfl, ?_⟩; replace aa := mk0 (Kd.V_below (v_ aa) hb); replace ab := mk0 (Kd.N_below (nn_ ab) hb); replace ac := mk0 (u_ ac hb); replace ae := mk0 (u_ ae hb); replace ad := mk0 (u_ ad hb); replace af := mk0 (u_ af hb); replace ag := mk0 (u_ ag hb); replace ah := mk0 (u_ ah hb); replace HB := mk0 (bt_ (b_ HB) hb); (try clear hb); obtain ⟨fV, fW⟩ := c1_ af) | ((with_reducible refine gate_callee (f := 74) rfl ?_); refine gL_ (some 87) Try.func74 #[.agg #[.slice aA am.length aB]] (h := ?_); (with_reducible refine (table_Count.calls b1 _ _ am fy b2 _ ?side1 ?side2 wC.out).mono ?_); (case side1 => exact cn_ ab); (case side2 => exact (Kd.N_reads' ab.out).2.1); rintro e x1 ⟨rfl, hb⟩; refine ⟨_, rfl, ?_⟩; replace aa := mk0 (Kd.V_below (v_ aa) hb); replace ab := mk0 (Kd.N_below (nn_ ab) hb); replace ac := mk0 (u_ ac hb); replace ae := mk0 (u_ ae hb); replace ad := mk0 (u_ ad hb); replace af := mk0 (u_ af hb); replace ag := mk0 (u_ ag hb); replace ah := mk0 (u_ ah hb); replace HB := mk0 (bt_ (b_ HB) hb); (try clear hb)))
   (try simp only [Act.put, List.setIfInBounds_toArray, List.set_cons_zero, List.set_cons_succ])
   go_cut [8, 16, 17, 18] (fun v8 v16 v17 v18 wc => ∃ (kq : Nat) (dp : Int) (b4 : Int) (b5 : Int) (b6 : ByteArray), v8 = .int .i64 dp ∧ v16 = .int .i64 b4 ∧ v17 = .int .i64 b5 ∧ v18 = .string b6 ∧ Fc (quorumlaw9_step.j1 kq dp fx bB fy b2 b4 b5 b6 l0_0 am = some (r1, r2)) ∧ Fc (kq ≤ b1) ∧ Fc (Kd.V k99 99 wc w.heap.size (fun k_ => (P0_0_ k_ ∨ w.heap.size ≤ k_) ∧ some k_ ≠ ((.slice aA am.length aB) : Value).ownBlock ∧ k_ ≠ ar ∧ k_ ≠ ax ∧ k_ ≠ ai ∧ k_ ≠ au ∧ k_ ≠ al ∧ k_ ≠ ao) (.slice A0_0 l0_0.length c0_0) l0_0) ∧ Fc (Kd.N k99 99 wc w.heap.size (fun k_ => (P0_0_ k_ ∨ w.heap.size ≤ k_) ∧ k_ ≠ ar ∧ k_ ≠ ax ∧ k_ ≠ ai ∧ k_ ≠ au ∧ k_ ≠ al ∧ k_ ≠ ao) (.slice aA am.length aB) am) ∧ Fc (wc.heap[ar]? = some (.cells #[(.slice A0_0 l0_0.length c0_0)] 47 (0, 0))) ∧ Fc (wc.heap[ax]? = some (.cells #[.int .i64 a1_0, .int .i64 a1_1, .int .i64 a1_2, .string a1_3, .int .i64 a1_4, .string a1_5, .bool a1_6, .string a1_7, .string a1_8, .bool a1_9, .bool a1_10] 76 (0, 0))) ∧ Fc (wc.heap[ai]? = some (.cells #[(.slice none 0 0)] 47 (0, 0))) ∧ Fc (wc.heap[au]? = some (.cells #[(.slice aA am.length aB)] 47 (0, 0))) ∧ Fc (wc.heap[al]? = some (.cells #[(.slice none 0 0)] 47 (0, 0))) ∧ Fc (wc.heap[ao]? = some (.cells #[(.slice none 0 0)] 47 (0, 0))) ∧ Fc (Below w.heap.size w wc))
   case first =>
    have H := HC79.out
    clear HC79
    by_cases gq : bp = true
    focus
     subst gq
     rw [if_pos rfl] at H
     replace H := ob_ H
     obtain ⟨dX, ph, H⟩ := H
     try dsimp only at H
     replace H := ob_ H
     obtain ⟨pi, g0, H⟩ := H
     try dsimp only at H
     by_cases gr : pi = true
     focus
      subst gr
      rw [if_pos rfl] at H
      replace H := ob_ H
      obtain ⟨⟨fX, pj⟩, pk, H⟩ := H
      try dsimp only at H
      by_cases gs : pj = true
      ·subst gs
       rw [if_pos rfl] at H
       have H' := mk0 H
       clear H
       have pV := aJ.out
       have pW := aK.out
       have pX := an.out
       have pY := aC.out
       have pZ := aQ.out
       have p0 := aU.out
       have p1 := aF.out
       have p2 := aV.out
       have p3 := aZ.out
       have p4 := be.out
       obtain ⟨ir, iu⟩ := c1_ ac
       go_wp2_with (first | ((with_reducible refine gate_callee (f := 75) rfl ?_); refine gL_ (some 92) Try.func75 #[.agg #[.slice A0_0 l0_0.length c0_0]] (h := ?_); (with_reducible refine (quorumref8_Count.calls b1 _ _ l0_0 dX _ ?side1 ?side2 ph.out).mono ?_); (case side1 => exact cv_ aa); (case side2 => exact (Kd.V_reads' aa.out).2.1); rintro e xl ⟨rfl, hb⟩; refine ⟨_, rfl, ?_⟩; replace aa := mk0 (Kd.V_below (v_ aa) hb); replace ab := mk0 (Kd.N_below (nn_ ab) hb); replace ac := mk0 (u_ ac hb); replace ae := mk0 (u_ ae hb); replace ad := mk0 (u_ ad hb); replace af := mk0 (u_ af hb); replace ag := mk0 (u_ ag hb); replace ah := mk0 (u_ ah hb); replace HB := mk0 (bt_ (b_ HB) hb); (try clear hb); have p5 := ap.out; have p6 := aq.out; have p7 := aM.out; have p8 := aN.out; have p9 := av.out; have qa := aG.out; have qb := az.out; have qc := aI.out; obtain ⟨iv, iw, ix, iy, iz, iA, iB, iC, iD, iE, g1, iF, iG, iH, iI, iJ, iK, iL, iM, iN, iO, g2⟩ := c11_ ae) | ((with_reducible refine gate_callee (f := 62) rfl ?_); refine gL_ (some 95) Try.func62 #[.string a1_3] (h := ?_); (with_reducible refine (quorumref1_Key.calls a1_3 true _ g0.out).mono ?_); rintro e w' ⟨rfl, ⟨nd, rfl⟩⟩; refine ⟨_, rfl, ?_⟩; obtain ⟨iP, iQ⟩ := c1_ ac) | ((with_reducible refine gate_callee (f := 20) rfl ?_); refine gL_ (some 102) Try.func20 #[.agg #[.slice A0_0 l0_0.length c0_0], .string a1_3, .int .i64 a1_1] (h := ?_); (with_reducible refine (quorumref8_Get.calls b1 _ _ l0_0 a1_3 a1_1 fX true _ ?side1 ?side2 pk.out).mono ?_); (case side1 => exact cv_ aa); (case side2 => exact (Kd.V_reads' aa.out).2.1); rintro e xm ⟨rfl, hb⟩; refine ⟨_, rfl, ?_⟩; replace aa := mk0 (Kd.V_below (v_ aa) hb); replace ab := mk0 (Kd.N_below (nn_ ab) hb); replace ac := mk0 (u_ ac hb); replace ae := mk0 (u_ ae hb); replace ad := mk0 (u_ ad hb); replace af := mk0 (u_ af hb); replace ag := mk0 (u_ ag hb); replace ah := mk0 (u_ ah hb); replace HB := mk0 (bt_ (b_ HB) hb); (try clear hb)))
       go_meet
       case rel => exact ⟨_, (0), (0), (dX), (fX), sm_, sm_, sm_, sm_, H', ⟨by have := bs.out; first | omega | exact Nat.le_refl _⟩, ⟨v2_ aa.out⟩, ⟨n2_ ab.out⟩, ⟨h_ ac⟩, ⟨h_ ae⟩, ⟨h_ ad⟩, ⟨h_ af⟩, ⟨h_ ag⟩, ⟨h_ ah⟩, ⟨b_ HB⟩⟩
      focus
       replace gs := Bool.eq_false_iff.mpr gs
       subst gs
       rw [if_neg nf_] at H
       have H' := mk0 H
       clear H
       have qd := aJ.out
       have qe := aK.out
       have qf := an.out
       have qg := aC.out
       have qh := aQ.out
       have qi := aU.out
       have qj := aF.out
       have qk := aV.out
       have ql := aZ.out
       have qm := be.out
       obtain ⟨iR, iS⟩ := c1_ ac
     rotate_left 1
     focus
      replace gr := Bool.eq_false_iff.mpr gr
      subst gr
      rw [if_neg nf_] at H
      have H' := mk0 H
      clear H
      have qn := aJ.out
      have qo := aK.out
      have qp := an.out
      have qq := aC.out
      have qr := aQ.out
      have qs := aU.out
      have qt := aF.out
      have qu := aV.out
      have qv := aZ.out
      have qw := be.out
      obtain ⟨iT, iU⟩ := c1_ ac
     rotate_right 1
    rotate_left 2
    ·replace gq := Bool.eq_false_iff.mpr gq
     subst gq
     rw [if_neg nf_] at H
     have H' := mk0 H
     clear H
     go_wp2
     go_meet
     case rel => exact ⟨_, (1), (1), (0), ((⟨#[]⟩ : ByteArray)), sm_, sm_, sm_, sm_, H', ⟨by have := bs.out; first | omega | exact Nat.le_refl _⟩, ⟨v2_ aa.out⟩, ⟨n2_ ab.out⟩, ⟨h_ ac⟩, ⟨h_ ae⟩, ⟨h_ ad⟩, ⟨h_ af⟩, ⟨h_ ag⟩, ⟨h_ ah⟩, ⟨b_ HB⟩⟩
    all_goals go_wp2_with (first | ((with_reducible refine gate_callee (f := 75) rfl ?_); refine gL_ (some 92) Try.func75 #[.agg #[.slice A0_0 l0_0.length c0_0]] (h := ?_); (with_reducible refine (quorumref8_Count.calls b1 _ _ l0_0 dX _ ?side1 ?side2 ph.out).mono ?_); (case side1 => exact cv_ aa); (case side2 => exact (Kd.V_reads' aa.out).2.1); rintro e xn ⟨rfl, hb⟩; refine ⟨_, rfl, ?_⟩; replace aa := mk0 (Kd.V_below (v_ aa) hb); replace ab := mk0 (Kd.N_below (nn_ ab) hb); replace ac := mk0 (u_ ac hb); replace ae := mk0 (u_ ae hb); replace ad := mk0 (u_ ad hb); replace af := mk0 (u_ af hb); replace ag := mk0 (u_ ag hb); replace ah := mk0 (u_ ah hb); replace HB := mk0 (bt_ (b_ HB) hb); (try clear hb); have qx := ap.out; have qy := aq.out; have qz := aM.out; have qA := aN.out; have qB := av.out; have qC := aG.out; have qD := az.out; have qE := aI.out; obtain ⟨iV, iW, iX, iY, iZ, i0, i1, i2, i3, i4, g3, i5, i6, i7, i8, i9, ja, jb, jc, jd, je, g4⟩ := c11_ ae) | ((with_reducible refine gate_callee (f := 62) rfl ?_); refine gL_ (some 95) Try.func62 #[.string a1_3] (h := ?_); (with_reducible refine (quorumref1_Key.calls a1_3 true _ g0.out).mono ?_); rintro e w' ⟨rfl, ⟨nd, rfl⟩⟩; refine ⟨_, rfl, ?_⟩; obtain ⟨eB, eC⟩ := c1_ ac) | ((with_reducible refine gate_callee (f := 20) rfl ?_); refine gL_ (some 102) Try.func20 #[.agg #[.slice A0_0 l0_0.length c0_0], .string a1_3, .int .i64 a1_1] (h := ?_); (with_reducible refine (quorumref8_Get.calls b1 _ _ l0_0 a1_3 a1_1 fX false _ ?side1 ?side2 pk.out).mono ?_); (case side1 => exact cv_ aa); (case side2 => exact (Kd.V_reads' aa.out).2.1); rintro e xo ⟨rfl, hb⟩; refine ⟨_, rfl, ?_⟩; replace aa := mk0 (Kd.V_below (v_ aa) hb); replace ab := mk0 (Kd.N_below (nn_ ab) hb); replace ac := mk0 (u_ ac hb); replace ae := mk0 (u_ ae hb); replace ad := mk0 (u_ ad hb); replace af := mk0 (u_ af hb); replace ag := mk0 (u_ ag hb); replace ah := mk0 (u_ ah hb); replace HB := mk0 (bt_ (b_ HB) hb); (try clear hb)) | ((with_reducible refine gate_callee (f := 62) rfl ?_); refine gL_ (some 95) Try.func62 #[.string a1_3] (h := ?_); (with_reducible refine (quorumref1_Key.calls a1_3 false _ g0.out).mono ?_); rintro e w' ⟨rfl, ⟨nd, rfl⟩⟩; refine ⟨_, rfl, ?_⟩; (try obtain ⟨eB, eC⟩ := c1_ ac)))
    ·go_meet
     case rel => exact ⟨_, (3), (0), (dX), ((⟨#[]⟩ : ByteArray)), sm_, sm_, sm_, sm_, H', ⟨by have := bs.out; first | omega | exact Nat.le_refl _⟩, ⟨v2_ aa.out⟩, ⟨n2_ ab.out⟩, ⟨h_ ac⟩, ⟨h_ ae⟩, ⟨h_ ad⟩, ⟨h_ af⟩, ⟨h_ ag⟩, ⟨h_ ah⟩, ⟨b_ HB⟩⟩
    ·go_meet
     case rel => exact ⟨_, (1), (0), (dX), ((⟨#[]⟩ : ByteArray)), sm_, sm_, sm_, sm_, H', ⟨by have := bs.out; first | omega | exact Nat.le_refl _⟩, ⟨v2_ aa.out⟩, ⟨n2_ ab.out⟩, ⟨h_ ac⟩, ⟨h_ ae⟩, ⟨h_ ad⟩, ⟨h_ af⟩, ⟨h_ ag⟩, ⟨h_ ah⟩, ⟨b_ HB⟩⟩
   clear HC79
   try clear dm
   try clear bL
   try clear d3
   try clear dn
   try clear dr dt
   try clear du dv
   try clear dw dx
   try clear dB dC cv dD dE dF dG dH dI dJ dK dL dM cw dN dO dP dQ dR dS dT dU
   try clear fz fA
   try clear fB fC ez fD fE fF fG fH fI fJ fK fL fM eA fN fO fP fQ fR fS fT fU
   try clear fV fW
   obtain ⟨kq, dp, b4, b5, b6, rfl, rfl, rfl, rfl, HA, xp, aa, ab, ac, ae, ad, af, ag, ah, HB⟩ := hcut
   cases kq with
   | zero => exact absurd HA.out (by simp [quorumlaw9_step.j1])
   | succ pl =>
   have H := HA.out
   clear HA
   simp only [quorumlaw9_step.j1] at H
   as_aux_lemma =>
   replace H := ob_ H
   obtain ⟨cy, dY, H⟩ := H
   try dsimp only at H
   by_cases ca : cy = dp
   rotate_left
   ·rw [if_neg ca] at H
    have gu := beq_eq_false_iff_ne.mpr ca
    have gv := bne_iff_ne.mpr ca
    simp only [Option.some.injEq, Prod.mk.injEq] at H
    obtain ⟨rfl, rfl⟩ := H
    try go_wp2
    replace aa := mk0 (Kd.V_drew aa.out)
    replace ab := mk0 (Kd.N_drew ab.out)
    replace ac := mk0 (bD_ ac.out)
    replace ae := mk0 (bD_ ae.out)
    replace ad := mk0 (bD_ ad.out)
    replace af := mk0 (bD_ af.out)
    replace ag := mk0 (bD_ ag.out)
    replace ah := mk0 (bD_ ah.out)
    replace HB := mk0 (b1_ HB.out)
    refine start_ (n := 28) (S := fun w' => w'.cell? ⟨ar, 0, none⟩ = some (.slice A0_0 l0_0.length c0_0)) (ds := []) (bt 28 0) (by kernel_rfl) rfl rfl (bk_ ac 0) (fun hHeld => ?_); refine with_tabW quorumlaw9_step.tab26 quorumlaw9_step.bits26 (fun HT_ HW_ => ?_)
    generalize wc.drew = pm at aa ab ac ae ad af ag ah HB hHeld ⊢
    refine pq_ HT_.out 1 108 (bt 28 2) (h := ?_)
    refine pq_ HT_.out 3 110 (bt 28 10) (h := ?_)
    refine t1 HT_.out HW_.out 0 107 (bt 28 11) rfl rfl (by kernel_rfl) (fun _ _ _ h => h) (by rfl) (by intro w' s0; go_simp; with_reducible rfl) hHeld (by simp only [z_]; rfl) ?_
    refine one_ (i := 2) (N := some 109) (bt 28 15) rfl rfl (one_of HT_.out (by kernel_rfl)) (by decide) (fun K hK => ?_)
    refine goes_ Try.func76 (by kernel_rfl) rfl #[.int .i64 bB] (by rfl) rfl rfl gs_ ?_
    with_reducible refine (quorumlaw9_num.calls bB cy _ dY.out).mono ?_
    rintro e w' ⟨rfl, ⟨nd, rfl⟩⟩
    refine ⟨_, rfl, ?_⟩
    refine hK.out _ _ (bk_ ac 0) (fun hHeld => ?_)
    clear hK K
    refine norm_ (a' := ?_) ?_ ?_
    rotate_left
    ·show Act.put _ (some 109) _ = _
     simp only [z_]
     rfl
    refine pq_ HT_.out 4 111 (bt 28 31) (h := ?_)
    refine pq_ HT_.out 5 112 (bt 28 63) (h := ?_)
    refine uq_ HT_.out 6 113 (bt 28 127) (h := ?_)
    refine uq_ HT_.out 7 114 (bt 28 255) (h := ?_)
    refine uq_ HT_.out 8 115 (bt 28 511) (h := ?_)
    refine pq_ HT_.out 9 116 (bt 28 1023) (h := ?_)
    refine pq_ HT_.out 10 117 (bt 28 2047) (h := ?_)
    refine uq_ HT_.out 11 118 (bt 28 4095) (h := ?_)
    refine uq_ HT_.out 12 119 (bt 28 8191) (h := ?_)
    refine uq_ HT_.out 13 120 (bt 28 16383) (h := ?_)
    refine uq_ HT_.out 14 121 (bt 28 32767) (h := ?_)
    refine pq_ HT_.out 15 122 (bt 28 65535) (h := ?_)
    refine pq_ HT_.out 16 123 (bt 28 131071) (h := ?_)
    refine uq_ HT_.out 17 124 (bt 28 262143) (h := ?_)
    refine uq_ HT_.out 18 125 (bt 28 524287) (h := ?_)
    refine uq_ HT_.out 19 126 (bt 28 1048575) (h := ?_)
    refine pq_ HT_.out 20 127 (bt 28 2097151) (h := ?_)
    refine pq_ HT_.out 21 128 (bt 28 4194303) (h := ?_)
    refine uq_ HT_.out 22 129 (bt 28 8388607) (h := ?_)
    refine uq_ HT_.out 23 130 (bt 28 16777215) (h := ?_)
    refine uq_ HT_.out 24 131 (bt 28 33554431) (h := ?_)
    refine pq_ HT_.out 25 132 (bt 28 67108863) (h := ?_)
    refine one_ (i := 26) (N := none) (bt 28 134217727) rfl rfl (one_of HT_.out (by kernel_rfl)) (by decide) (fun K hK => ?_)
    have hs157 : pm.cell? ⟨ai, 0, none⟩ = some (.slice none 0 0) := bk_ ad 0
    have hfs157 := blk_frozen ad.out 0
    have jf := an.out
    have jg := ap.out
    have jh := ay.out
    have ji := aH.out
    have jj := aL.out
    have jk := aC.out
    have jl := aq.out
    have jm := aD.out
    have jn := aw.out
    have jo := aE.out
    refine skip_ (w1 := ?_) (by rfl) rfl ?_ ?_
    rotate_left
    ·go_simp
     rfl
    refine hK.out _ _ (cf_ an.out hHeld) (fun hHeld => ?_)
    clear hK K
    refine pq_ HT_.out 27 5 (bt 28 268435455) (h := ?_)
    refine done_ (done_of HT_.out (by kernel_rfl)) ?_
    try go_wp2
    refine bodyPost_ret (results_ct rfl _ _ ai 47 #[.slice A0_0 l0_0.length c0_0] (0, 0) _ rfl (pu_ (cs := #[.slice none 0 0]) (h_ ad)) Try.underlying47 rfl (by kernel_rfl)) rfl ?_
    exact ⟨_, sa_, by (with_reducible repeat (first | apply Kd.V_alloc | apply Kd.V_drewN | apply Kd.V_drew)); exact Kd.V_mono (Kd.V_far (p := ⟨ai, 0, none⟩) (Kd.V_mono aa.out (fun k_ hk => (⟨hk, hk.2.2.2.2.1⟩ : _ ∧ k_ ≠ ai))) (fun _ hk => hk.2) (.slice A0_0 l0_0.length c0_0)) (fun _ hk => hk.1.1), b_ HB⟩
   rw [if_pos ca] at H
   have gu := beq_iff_eq.mpr ca
   have gv := bne_eq_false_iff_eq.mpr ca
   clear ca
   by_cases cb : fx.toList = b6.toList
   rotate_left
   ·rw [if_neg cb] at H
    have gw := beq_eq_false_iff_ne.mpr cb
    have gx := bne_iff_ne.mpr cb
    simp only [Option.some.injEq, Prod.mk.injEq] at H
    obtain ⟨rfl, rfl⟩ := H
    try go_wp2
    replace aa := mk0 (Kd.V_drew aa.out)
    replace ab := mk0 (Kd.N_drew ab.out)
    replace ac := mk0 (bD_ ac.out)
    replace ae := mk0 (bD_ ae.out)
    replace ad := mk0 (bD_ ad.out)
    replace af := mk0 (bD_ af.out)
    replace ag := mk0 (bD_ ag.out)
    replace ah := mk0 (bD_ ah.out)
    replace HB := mk0 (b1_ HB.out)
    refine start_ (n := 28) (S := fun w' => w'.cell? ⟨ar, 0, none⟩ = some (.slice A0_0 l0_0.length c0_0)) (ds := []) (bt 28 0) (by kernel_rfl) rfl rfl (bk_ ac 0) (fun hHeld => ?_); refine with_tabW quorumlaw9_step.tab26 quorumlaw9_step.bits26 (fun HT_ HW_ => ?_)
    generalize wc.drew = pn at aa ab ac ae ad af ag ah HB hHeld ⊢
    refine pq_ HT_.out 1 108 (bt 28 2) (h := ?_)
    refine pq_ HT_.out 3 110 (bt 28 10) (h := ?_)
    refine t1 HT_.out HW_.out 0 107 (bt 28 11) rfl rfl (by kernel_rfl) (fun _ _ _ h => h) (by rfl) (by intro w' s0; go_simp; with_reducible rfl) hHeld (by simp only [z_]; rfl) ?_
    refine one_ (i := 2) (N := some 109) (bt 28 15) rfl rfl (one_of HT_.out (by kernel_rfl)) (by decide) (fun K hK => ?_)
    refine goes_ Try.func76 (by kernel_rfl) rfl #[.int .i64 bB] (by rfl) rfl rfl gs_ ?_
    with_reducible refine (quorumlaw9_num.calls bB cy _ dY.out).mono ?_
    rintro e w' ⟨rfl, ⟨nd, rfl⟩⟩
    refine ⟨_, rfl, ?_⟩
    refine hK.out _ _ (bk_ ac 0) (fun hHeld => ?_)
    clear hK K
    refine norm_ (a' := ?_) ?_ ?_
    rotate_left
    ·show Act.put _ (some 109) _ = _
     simp only [z_]
     rfl
    refine pq_ HT_.out 4 111 (bt 28 31) (h := ?_)
    refine pq_ HT_.out 5 112 (bt 28 63) (h := ?_)
    refine pq_ HT_.out 6 113 (bt 28 127) (h := ?_)
    refine pq_ HT_.out 7 114 (bt 28 255) (h := ?_)
    refine pq_ HT_.out 8 115 (bt 28 511) (h := ?_)
    refine pq_ HT_.out 9 116 (bt 28 1023) (h := ?_)
    refine pq_ HT_.out 10 117 (bt 28 2047) (h := ?_)
    refine uq_ HT_.out 11 118 (bt 28 4095) (h := ?_)
    refine uq_ HT_.out 12 119 (bt 28 8191) (h := ?_)
    refine uq_ HT_.out 13 120 (bt 28 16383) (h := ?_)
    refine uq_ HT_.out 14 121 (bt 28 32767) (h := ?_)
    refine pq_ HT_.out 15 122 (bt 28 65535) (h := ?_)
    refine pq_ HT_.out 16 123 (bt 28 131071) (h := ?_)
    refine uq_ HT_.out 17 124 (bt 28 262143) (h := ?_)
    refine uq_ HT_.out 18 125 (bt 28 524287) (h := ?_)
    refine uq_ HT_.out 19 126 (bt 28 1048575) (h := ?_)
    refine pq_ HT_.out 20 127 (bt 28 2097151) (h := ?_)
    refine pq_ HT_.out 21 128 (bt 28 4194303) (h := ?_)
    refine uq_ HT_.out 22 129 (bt 28 8388607) (h := ?_)
    refine uq_ HT_.out 23 130 (bt 28 16777215) (h := ?_)
    refine uq_ HT_.out 24 131 (bt 28 33554431) (h := ?_)
    refine pq_ HT_.out 25 132 (bt 28 67108863) (h := ?_)
    refine one_ (i := 26) (N := none) (bt 28 134217727) rfl rfl (one_of HT_.out (by kernel_rfl)) (by decide) (fun K hK => ?_)
    have hs155 : pn.cell? ⟨ai, 0, none⟩ = some (.slice none 0 0) := bk_ ad 0
    have hfs155 := blk_frozen ad.out 0
    have jp := an.out
    have jq := ap.out
    have jr := ay.out
    have js := aH.out
    have jt := aL.out
    have ju := aC.out
    have jv := aq.out
    have jw := aD.out
    have jx := aw.out
    have jy := aE.out
    refine skip_ (w1 := ?_) (by rfl) rfl ?_ ?_
    rotate_left
    ·go_simp
     rfl
    refine hK.out _ _ (cf_ an.out hHeld) (fun hHeld => ?_)
    clear hK K
    refine pq_ HT_.out 27 5 (bt 28 268435455) (h := ?_)
    refine done_ (done_of HT_.out (by kernel_rfl)) ?_
    try go_wp2
    refine bodyPost_ret (results_ct rfl _ _ ai 47 #[.slice A0_0 l0_0.length c0_0] (0, 0) _ rfl (pu_ (cs := #[.slice none 0 0]) (h_ ad)) Try.underlying47 rfl (by kernel_rfl)) rfl ?_
    exact ⟨_, sa_, by (with_reducible repeat (first | apply Kd.V_alloc | apply Kd.V_drewN | apply Kd.V_drew)); exact Kd.V_mono (Kd.V_far (p := ⟨ai, 0, none⟩) (Kd.V_mono aa.out (fun k_ hk => (⟨hk, hk.2.2.2.2.1⟩ : _ ∧ k_ ≠ ai))) (fun _ hk => hk.2) (.slice A0_0 l0_0.length c0_0)) (fun _ hk => hk.1.1), b_ HB⟩
   rw [if_pos cb] at H
   have gw := beq_iff_eq.mpr cb
   have gx := bne_eq_false_iff_eq.mpr cb
   clear cb
   replace H := ob_ H
   obtain ⟨eg, fY, H⟩ := H
   try dsimp only at H
   by_cases cc : eg = b4
   rotate_left
   ·rw [if_neg cc] at H
    have gy := beq_eq_false_iff_ne.mpr cc
    have gz := bne_iff_ne.mpr cc
    simp only [Option.some.injEq, Prod.mk.injEq] at H
    obtain ⟨rfl, rfl⟩ := H
    try go_wp2
    replace aa := mk0 (Kd.V_drew aa.out)
    replace ab := mk0 (Kd.N_drew ab.out)
    replace ac := mk0 (bD_ ac.out)
    replace ae := mk0 (bD_ ae.out)
    replace ad := mk0 (bD_ ad.out)
    replace af := mk0 (bD_ af.out)
    replace ag := mk0 (bD_ ag.out)
    replace ah := mk0 (bD_ ah.out)
    replace HB := mk0 (b1_ HB.out)
    refine start_ (n := 28) (S := fun w' => w'.cell? ⟨ar, 0, none⟩ = some (.slice A0_0 l0_0.length c0_0)) (ds := []) (bt 28 0) (by kernel_rfl) rfl rfl (bk_ ac 0) (fun hHeld => ?_); refine with_tabW quorumlaw9_step.tab26 quorumlaw9_step.bits26 (fun HT_ HW_ => ?_)
    generalize wc.drew = po at aa ab ac ae ad af ag ah HB hHeld ⊢
    refine pq_ HT_.out 1 108 (bt 28 2) (h := ?_)
    refine pq_ HT_.out 3 110 (bt 28 10) (h := ?_)
    refine t1 HT_.out HW_.out 0 107 (bt 28 11) rfl rfl (by kernel_rfl) (fun _ _ _ h => h) (by rfl) (by intro w' s0; go_simp; with_reducible rfl) hHeld (by simp only [z_]; rfl) ?_
    refine one_ (i := 2) (N := some 109) (bt 28 15) rfl rfl (one_of HT_.out (by kernel_rfl)) (by decide) (fun K hK => ?_)
    refine goes_ Try.func76 (by kernel_rfl) rfl #[.int .i64 bB] (by rfl) rfl rfl gs_ ?_
    with_reducible refine (quorumlaw9_num.calls bB cy _ dY.out).mono ?_
    rintro e w' ⟨rfl, ⟨nd, rfl⟩⟩
    refine ⟨_, rfl, ?_⟩
    refine hK.out _ _ (bk_ ac 0) (fun hHeld => ?_)
    clear hK K
    refine norm_ (a' := ?_) ?_ ?_
    rotate_left
    ·show Act.put _ (some 109) _ = _
     simp only [z_]
     rfl
    refine pq_ HT_.out 4 111 (bt 28 31) (h := ?_)
    refine pq_ HT_.out 5 112 (bt 28 63) (h := ?_)
    refine pq_ HT_.out 6 113 (bt 28 127) (h := ?_)
    refine pq_ HT_.out 7 114 (bt 28 255) (h := ?_)
    refine pq_ HT_.out 8 115 (bt 28 511) (h := ?_)
    refine pq_ HT_.out 9 116 (bt 28 1023) (h := ?_)
    refine pq_ HT_.out 10 117 (bt 28 2047) (h := ?_)
    refine pq_ HT_.out 11 118 (bt 28 4095) (h := ?_)
    refine pq_ HT_.out 13 120 (bt 28 12287) (h := ?_)
    refine one_ (i := 12) (N := some 119) (bt 28 16383) rfl rfl (one_of HT_.out (by kernel_rfl)) (by decide) (fun K hK => ?_)
    refine goes_ Try.func76 (by kernel_rfl) rfl #[.int .i64 b2] (by rfl) rfl rfl gs_ ?_
    with_reducible refine (quorumlaw9_num.calls b2 eg _ fY.out).mono ?_
    rintro e w' ⟨rfl, ⟨nd, rfl⟩⟩
    refine ⟨_, rfl, ?_⟩
    refine hK.out _ _ (bk_ ac 0) (fun hHeld => ?_)
    clear hK K
    refine norm_ (a' := ?_) ?_ ?_
    rotate_left
    ·show Act.put _ (some 119) _ = _
     simp only [z_]
     rfl
    refine pq_ HT_.out 14 121 (bt 28 32767) (h := ?_)
    refine pq_ HT_.out 15 122 (bt 28 65535) (h := ?_)
    refine pq_ HT_.out 16 123 (bt 28 131071) (h := ?_)
    refine uq_ HT_.out 17 124 (bt 28 262143) (h := ?_)
    refine uq_ HT_.out 18 125 (bt 28 524287) (h := ?_)
    refine uq_ HT_.out 19 126 (bt 28 1048575) (h := ?_)
    refine pq_ HT_.out 20 127 (bt 28 2097151) (h := ?_)
    refine pq_ HT_.out 21 128 (bt 28 4194303) (h := ?_)
    refine uq_ HT_.out 22 129 (bt 28 8388607) (h := ?_)
    refine uq_ HT_.out 23 130 (bt 28 16777215) (h := ?_)
    refine uq_ HT_.out 24 131 (bt 28 33554431) (h := ?_)
    refine pq_ HT_.out 25 132 (bt 28 67108863) (h := ?_)
    refine one_ (i := 26) (N := none) (bt 28 134217727) rfl rfl (one_of HT_.out (by kernel_rfl)) (by decide) (fun K hK => ?_)
    have hs153 : po.cell? ⟨ai, 0, none⟩ = some (.slice none 0 0) := bk_ ad 0
    have hfs153 := blk_frozen ad.out 0
    have jz := an.out
    have jA := ap.out
    have jB := ay.out
    have jC := aH.out
    have jD := aL.out
    have jE := aC.out
    have jF := aq.out
    have jG := aD.out
    have jH := aw.out
    have jI := aE.out
    refine skip_ (w1 := ?_) (by rfl) rfl ?_ ?_
    rotate_left
    ·go_simp
     rfl
    refine hK.out _ _ (cf_ an.out hHeld) (fun hHeld => ?_)
    clear hK K
    refine pq_ HT_.out 27 5 (bt 28 268435455) (h := ?_)
    refine done_ (done_of HT_.out (by kernel_rfl)) ?_
    try go_wp2
    refine bodyPost_ret (results_ct rfl _ _ ai 47 #[.slice A0_0 l0_0.length c0_0] (0, 0) _ rfl (pu_ (cs := #[.slice none 0 0]) (h_ ad)) Try.underlying47 rfl (by kernel_rfl)) rfl ?_
    exact ⟨_, sa_, by (with_reducible repeat (first | apply Kd.V_alloc | apply Kd.V_drewN | apply Kd.V_drew)); exact Kd.V_mono (Kd.V_far (p := ⟨ai, 0, none⟩) (Kd.V_mono aa.out (fun k_ hk => (⟨hk, hk.2.2.2.2.1⟩ : _ ∧ k_ ≠ ai))) (fun _ hk => hk.2) (.slice A0_0 l0_0.length c0_0)) (fun _ hk => hk.1.1), b_ HB⟩
   rw [if_pos cc] at H
   have gy := beq_iff_eq.mpr cc
   have gz := bne_eq_false_iff_eq.mpr cc
   clear cc
   by_cases cd : fy = b5
   rotate_left
   ·rw [if_neg cd] at H
    have gA := beq_eq_false_iff_ne.mpr cd
    have gB := bne_iff_ne.mpr cd
    simp only [Option.some.injEq, Prod.mk.injEq] at H
    obtain ⟨rfl, rfl⟩ := H
    try go_wp2
    replace aa := mk0 (Kd.V_drew aa.out)
    replace ab := mk0 (Kd.N_drew ab.out)
    replace ac := mk0 (bD_ ac.out)
    replace ae := mk0 (bD_ ae.out)
    replace ad := mk0 (bD_ ad.out)
    replace af := mk0 (bD_ af.out)
    replace ag := mk0 (bD_ ag.out)
    replace ah := mk0 (bD_ ah.out)
    replace HB := mk0 (b1_ HB.out)
    refine start_ (n := 28) (S := fun w' => w'.cell? ⟨ar, 0, none⟩ = some (.slice A0_0 l0_0.length c0_0)) (ds := []) (bt 28 0) (by kernel_rfl) rfl rfl (bk_ ac 0) (fun hHeld => ?_); refine with_tabW quorumlaw9_step.tab26 quorumlaw9_step.bits26 (fun HT_ HW_ => ?_)
    generalize wc.drew = pp at aa ab ac ae ad af ag ah HB hHeld ⊢
    refine pq_ HT_.out 1 108 (bt 28 2) (h := ?_)
    refine pq_ HT_.out 3 110 (bt 28 10) (h := ?_)
    refine t1 HT_.out HW_.out 0 107 (bt 28 11) rfl rfl (by kernel_rfl) (fun _ _ _ h => h) (by rfl) (by intro w' s0; go_simp; with_reducible rfl) hHeld (by simp only [z_]; rfl) ?_
    refine one_ (i := 2) (N := some 109) (bt 28 15) rfl rfl (one_of HT_.out (by kernel_rfl)) (by decide) (fun K hK => ?_)
    refine goes_ Try.func76 (by kernel_rfl) rfl #[.int .i64 bB] (by rfl) rfl rfl gs_ ?_
    with_reducible refine (quorumlaw9_num.calls bB cy _ dY.out).mono ?_
    rintro e w' ⟨rfl, ⟨nd, rfl⟩⟩
    refine ⟨_, rfl, ?_⟩
    refine hK.out _ _ (bk_ ac 0) (fun hHeld => ?_)
    clear hK K
    refine norm_ (a' := ?_) ?_ ?_
    rotate_left
    ·show Act.put _ (some 109) _ = _
     simp only [z_]
     rfl
    refine pq_ HT_.out 4 111 (bt 28 31) (h := ?_)
    refine pq_ HT_.out 5 112 (bt 28 63) (h := ?_)
    refine pq_ HT_.out 6 113 (bt 28 127) (h := ?_)
    refine pq_ HT_.out 7 114 (bt 28 255) (h := ?_)
    refine pq_ HT_.out 8 115 (bt 28 511) (h := ?_)
    refine pq_ HT_.out 9 116 (bt 28 1023) (h := ?_)
    refine pq_ HT_.out 10 117 (bt 28 2047) (h := ?_)
    refine pq_ HT_.out 11 118 (bt 28 4095) (h := ?_)
    refine pq_ HT_.out 13 120 (bt 28 12287) (h := ?_)
    refine one_ (i := 12) (N := some 119) (bt 28 16383) rfl rfl (one_of HT_.out (by kernel_rfl)) (by decide) (fun K hK => ?_)
    refine goes_ Try.func76 (by kernel_rfl) rfl #[.int .i64 b2] (by rfl) rfl rfl gs_ ?_
    with_reducible refine (quorumlaw9_num.calls b2 eg _ fY.out).mono ?_
    rintro e w' ⟨rfl, ⟨nd, rfl⟩⟩
    refine ⟨_, rfl, ?_⟩
    refine hK.out _ _ (bk_ ac 0) (fun hHeld => ?_)
    clear hK K
    refine norm_ (a' := ?_) ?_ ?_
    rotate_left
    ·show Act.put _ (some 119) _ = _
     simp only [z_]
     rfl
    refine pq_ HT_.out 14 121 (bt 28 32767) (h := ?_)
    refine pq_ HT_.out 15 122 (bt 28 65535) (h := ?_)
    refine pq_ HT_.out 16 123 (bt 28 131071) (h := ?_)
    refine pq_ HT_.out 17 124 (bt 28 262143) (h := ?_)
    refine pq_ HT_.out 18 125 (bt 28 524287) (h := ?_)
    refine pq_ HT_.out 19 126 (bt 28 1048575) (h := ?_)
    refine pq_ HT_.out 20 127 (bt 28 2097151) (h := ?_)
    refine pq_ HT_.out 21 128 (bt 28 4194303) (h := ?_)
    refine uq_ HT_.out 22 129 (bt 28 8388607) (h := ?_)
    refine uq_ HT_.out 23 130 (bt 28 16777215) (h := ?_)
    refine uq_ HT_.out 24 131 (bt 28 33554431) (h := ?_)
    refine pq_ HT_.out 25 132 (bt 28 67108863) (h := ?_)
    refine one_ (i := 26) (N := none) (bt 28 134217727) rfl rfl (one_of HT_.out (by kernel_rfl)) (by decide) (fun K hK => ?_)
    have hs151 : pp.cell? ⟨ai, 0, none⟩ = some (.slice none 0 0) := bk_ ad 0
    have hfs151 := blk_frozen ad.out 0
    have jJ := an.out
    have jK := ap.out
    have jL := ay.out
    have jM := aH.out
    have jN := aL.out
    have jO := aC.out
    have jP := aq.out
    have jQ := aD.out
    have jR := aw.out
    have jS := aE.out
    refine skip_ (w1 := ?_) (by rfl) rfl ?_ ?_
    rotate_left
    ·go_simp
     rfl
    refine hK.out _ _ (cf_ an.out hHeld) (fun hHeld => ?_)
    clear hK K
    refine pq_ HT_.out 27 5 (bt 28 268435455) (h := ?_)
    refine done_ (done_of HT_.out (by kernel_rfl)) ?_
    try go_wp2
    refine bodyPost_ret (results_ct rfl _ _ ai 47 #[.slice A0_0 l0_0.length c0_0] (0, 0) _ rfl (pu_ (cs := #[.slice none 0 0]) (h_ ad)) Try.underlying47 rfl (by kernel_rfl)) rfl ?_
    exact ⟨_, sa_, by (with_reducible repeat (first | apply Kd.V_alloc | apply Kd.V_drewN | apply Kd.V_drew)); exact Kd.V_mono (Kd.V_far (p := ⟨ai, 0, none⟩) (Kd.V_mono aa.out (fun k_ hk => (⟨hk, hk.2.2.2.2.1⟩ : _ ∧ k_ ≠ ai))) (fun _ hk => hk.2) (.slice A0_0 l0_0.length c0_0)) (fun _ hk => hk.1.1), b_ HB⟩
   rw [if_pos cd] at H
   have gA := beq_iff_eq.mpr cd
   have gB := bne_eq_false_iff_eq.mpr cd
   clear cd
   replace H := ob_ H
   obtain ⟨pq, pr, H⟩ := H
   try dsimp only at H
   simp only [Option.some.injEq, Prod.mk.injEq] at H
   obtain ⟨rfl, rfl⟩ := H
   try go_wp2
   replace aa := mk0 (Kd.V_drew aa.out)
   replace ab := mk0 (Kd.N_drew ab.out)
   replace ac := mk0 (bD_ ac.out)
   replace ae := mk0 (bD_ ae.out)
   replace ad := mk0 (bD_ ad.out)
   replace af := mk0 (bD_ af.out)
   replace ag := mk0 (bD_ ag.out)
   replace ah := mk0 (bD_ ah.out)
   replace HB := mk0 (b1_ HB.out)
   refine start_ (n := 28) (S := fun w' => w'.cell? ⟨ar, 0, none⟩ = some (.slice A0_0 l0_0.length c0_0) ∧ w'.cell? ⟨au, 0, none⟩ = some (.slice aA am.length aB)) (ds := []) (bt 28 0) (by kernel_rfl) rfl rfl ⟨bk_ ac 0, bk_ af 0⟩ (fun hHeld => ?_); refine with_tabW quorumlaw9_step.tab26 quorumlaw9_step.bits26 (fun HT_ HW_ => ?_)
   generalize wc.drew = xq at aa ab ac ae ad af ag ah HB hHeld ⊢
   refine pq_ HT_.out 1 108 (bt 28 2) (h := ?_)
   refine pq_ HT_.out 3 110 (bt 28 10) (h := ?_)
   refine tq2_ HT_.out HW_.out 0 107 (bt 28 11) hHeld (h := ?_)
   refine one_ (i := 2) (N := some 109) (bt 28 15) rfl rfl (one_of HT_.out (by kernel_rfl)) (by decide) (fun K hK => ?_)
   refine goes_ Try.func76 (by kernel_rfl) rfl #[.int .i64 bB] (by rfl) rfl rfl gs_ ?_
   with_reducible refine (quorumlaw9_num.calls bB cy _ dY.out).mono ?_
   rintro e w' ⟨rfl, ⟨nd, rfl⟩⟩
   refine ⟨_, rfl, ?_⟩
   refine hK.out _ _ ⟨bk_ ac 0, bk_ af 0⟩ (fun hHeld => ?_)
   clear hK K
   refine norm_ (a' := ?_) ?_ ?_
   rotate_left
   ·show Act.put _ (some 109) _ = _
    simp only [z_]
    rfl
   refine pq_ HT_.out 4 111 (bt 28 31) (h := ?_)
   refine pq_ HT_.out 5 112 (bt 28 63) (h := ?_)
   refine pq_ HT_.out 6 113 (bt 28 127) (h := ?_)
   refine pq_ HT_.out 7 114 (bt 28 255) (h := ?_)
   refine pq_ HT_.out 8 115 (bt 28 511) (h := ?_)
   refine pq_ HT_.out 9 116 (bt 28 1023) (h := ?_)
   refine pq_ HT_.out 10 117 (bt 28 2047) (h := ?_)
   refine pq_ HT_.out 11 118 (bt 28 4095) (h := ?_)
   refine pq_ HT_.out 13 120 (bt 28 12287) (h := ?_)
   refine one_ (i := 12) (N := some 119) (bt 28 16383) rfl rfl (one_of HT_.out (by kernel_rfl)) (by decide) (fun K hK => ?_)
   refine goes_ Try.func76 (by kernel_rfl) rfl #[.int .i64 b2] (by rfl) rfl rfl gs_ ?_
   with_reducible refine (quorumlaw9_num.calls b2 eg _ fY.out).mono ?_
   rintro e w' ⟨rfl, ⟨nd, rfl⟩⟩
   refine ⟨_, rfl, ?_⟩
   refine hK.out _ _ ⟨bk_ ac 0, bk_ af 0⟩ (fun hHeld => ?_)
   clear hK K
   refine norm_ (a' := ?_) ?_ ?_
   rotate_left
   ·show Act.put _ (some 119) _ = _
    simp only [z_]
    rfl
   refine pq_ HT_.out 14 121 (bt 28 32767) (h := ?_)
   refine pq_ HT_.out 15 122 (bt 28 65535) (h := ?_)
   refine pq_ HT_.out 16 123 (bt 28 131071) (h := ?_)
   refine pq_ HT_.out 17 124 (bt 28 262143) (h := ?_)
   refine pq_ HT_.out 18 125 (bt 28 524287) (h := ?_)
   refine pq_ HT_.out 19 126 (bt 28 1048575) (h := ?_)
   refine pq_ HT_.out 20 127 (bt 28 2097151) (h := ?_)
   refine pq_ HT_.out 21 128 (bt 28 4194303) (h := ?_)
   refine tq2_ HT_.out HW_.out 22 129 (bt 28 8388607) hHeld (h := ?_)
   refine tq2_ HT_.out HW_.out 23 130 (bt 28 16777215) hHeld (h := ?_)
   refine one_ (i := 24) (N := some 131) (bt 28 33554431) rfl rfl (one_of HT_.out (by kernel_rfl)) (by decide) (fun K hK => ?_)
   refine goes_ Try.func77 (by kernel_rfl) rfl #[.agg #[.slice aA am.length aB], .agg #[.slice A0_0 l0_0.length c0_0]] (by rfl) rfl rfl gs_ ?_
   with_reducible refine (quorumref0_EqTable.calls pl _ _ am _ _ l0_0 pq _ ?side1 ?side2 ?side3 ?side4 pr.out).mono ?_
   (case side1 => exact cn_ ab)
   (case side2 => exact (Kd.N_reads' ab.out).2.1)
   (case side3 => exact cv_ aa)
   (case side4 => exact (Kd.V_reads' aa.out).2.1)
   rintro e ps ⟨rfl, hb⟩
   refine ⟨_, rfl, ?_⟩
   replace aa := mk0 (Kd.V_below (v_ aa) hb)
   replace ab := mk0 (Kd.N_below (nn_ ab) hb)
   replace ac := mk0 (u_ ac hb)
   replace ae := mk0 (u_ ae hb)
   replace ad := mk0 (u_ ad hb)
   replace af := mk0 (u_ af hb)
   replace ag := mk0 (u_ ag hb)
   replace ah := mk0 (u_ ah hb)
   replace HB := mk0 (bt_ (b_ HB) hb)
   (try clear hb)
   (try clear hk)
   (try clear hi)
   refine hK.out _ _ ⟨bk_ ac 0, bk_ af 0⟩ (fun hHeld => ?_)
   clear hK K
   refine norm_ (a' := ?_) ?_ ?_
   rotate_left
   ·show Act.put _ (some 131) _ = _
    simp only [z_]
    rfl
   refine pq_ HT_.out 25 132 (bt 28 67108863) (h := ?_)
   refine one_ (i := 26) (N := none) (bt 28 134217727) rfl rfl (one_of HT_.out (by kernel_rfl)) (by decide) (fun K hK => ?_)
   have hs149 : ps.cell? ⟨ai, 0, none⟩ = some (.slice none 0 0) := bk_ ad 0
   have hfs149 := blk_frozen ad.out 0
   have jT := an.out
   have jU := ap.out
   have jV := ay.out
   have jW := aH.out
   have jX := aL.out
   have jY := aC.out
   have jZ := aq.out
   have j8 := aD.out
   have j9 := aw.out
   have ka := aE.out
   refine skip_ (w1 := ?_) (by rfl) rfl ?_ ?_
   rotate_left
   ·go_simp
    rfl
   refine hK.out _ _ ⟨(cf_ an.out hHeld.1), (cf_ ay.out hHeld.2)⟩ (fun hHeld => ?_)
   clear hK K
   refine pq_ HT_.out 27 5 (bt 28 268435455) (h := ?_)
   refine done_ (done_of HT_.out (by kernel_rfl)) ?_
   try go_wp2
   refine bodyPost_ret (results_ct rfl _ _ ai 47 #[.slice A0_0 l0_0.length c0_0] (0, 0) _ rfl (pu_ (cs := #[.slice none 0 0]) (h_ ad)) Try.underlying47 rfl (by kernel_rfl)) rfl ?_
   exact ⟨_, sa_, by (with_reducible repeat (first | apply Kd.V_alloc | apply Kd.V_drewN | apply Kd.V_drew)); exact Kd.V_mono (Kd.V_far (p := ⟨ai, 0, none⟩) (Kd.V_mono aa.out (fun k_ hk => (⟨hk, hk.2.2.2.2.1⟩ : _ ∧ k_ ≠ ai))) (fun _ hk => hk.2) (.slice A0_0 l0_0.length c0_0)) (fun _ hk => hk.1.1), b_ HB⟩
  replace dn := Bool.eq_false_iff.mpr dn
  subst dn
  rw [if_neg nf_] at H
  have HC158 := mk0 H
  clear H
  go_upto_if 133 with (fail)
  go_cut [133] (fun pt wc => ∃ (kq : Nat) (bI : Bool), pt = .bool bI ∧ Fc (quorumlaw9_step.j2 kq bp 1 bI l0_0 a1_0 a1_1 a1_2 a1_3 a1_4 a1_5 a1_6 a1_7 a1_8 a1_9 a1_10 am = some (r1, r2)) ∧ Fc (kq ≤ b1) ∧ Fc (Kd.V k99 99 wc w.heap.size (fun k_ => (P0_0_ k_ ∨ w.heap.size ≤ k_) ∧ some k_ ≠ ((.slice aA am.length aB) : Value).ownBlock ∧ k_ ≠ ar ∧ k_ ≠ ax ∧ k_ ≠ ai ∧ k_ ≠ au ∧ k_ ≠ al ∧ k_ ≠ ao) (.slice A0_0 l0_0.length c0_0) l0_0) ∧ Fc (Kd.N k99 99 wc w.heap.size (fun k_ => (P0_0_ k_ ∨ w.heap.size ≤ k_) ∧ k_ ≠ ar ∧ k_ ≠ ax ∧ k_ ≠ ai ∧ k_ ≠ au ∧ k_ ≠ al ∧ k_ ≠ ao) (.slice aA am.length aB) am) ∧ Fc (wc.heap[ar]? = some (.cells #[(.slice A0_0 l0_0.length c0_0)] 47 (0, 0))) ∧ Fc (wc.heap[ax]? = some (.cells #[.int .i64 a1_0, .int .i64 a1_1, .int .i64 a1_2, .string a1_3, .int .i64 a1_4, .string a1_5, .bool a1_6, .string a1_7, .string a1_8, .bool a1_9, .bool a1_10] 76 (0, 0))) ∧ Fc (wc.heap[ai]? = some (.cells #[(.slice none 0 0)] 47 (0, 0))) ∧ Fc (wc.heap[au]? = some (.cells #[(.slice aA am.length aB)] 47 (0, 0))) ∧ Fc (wc.heap[al]? = some (.cells #[(.slice none 0 0)] 47 (0, 0))) ∧ Fc (wc.heap[ao]? = some (.cells #[(.slice none 0 0)] 47 (0, 0))) ∧ Fc (Below w.heap.size w wc))
  case first =>
   have H := HC158.out
   clear HC158
   by_cases ce : bq = 7
   rotate_left
   ·rw [if_neg ce] at H
    have bO := beq_eq_false_iff_ne.mpr ce
    have gC := bne_iff_ne.mpr ce
    (first | rw [bO] | (simp only [i64_w, i32_w]; rw [bO]) | skip)
    have H' := mk0 H
    clear H
    go_wp2
    go_meet
    case rel => exact ⟨_, ((bq == 8)), sm_, H', ⟨by have := bs.out; first | omega | exact Nat.le_refl _⟩, ⟨v2_ aa.out⟩, ⟨n2_ ab.out⟩, ⟨h_ ac⟩, ⟨h_ ae⟩, ⟨h_ ad⟩, ⟨h_ af⟩, ⟨h_ ag⟩, ⟨h_ ah⟩, ⟨b_ HB⟩⟩
   rw [if_pos ce] at H
   have bO := beq_iff_eq.mpr ce
   have gC := bne_eq_false_iff_eq.mpr ce
   clear ce
   (first | rw [bO] | (simp only [i64_w, i32_w]; rw [bO]) | skip)
   have H' := mk0 H
   clear H
   go_wp2
   go_meet
   case rel => exact ⟨_, ((bq == 7)), sm_, H', ⟨by have := bs.out; first | omega | exact Nat.le_refl _⟩, ⟨v2_ aa.out⟩, ⟨n2_ ab.out⟩, ⟨h_ ac⟩, ⟨h_ ae⟩, ⟨h_ ad⟩, ⟨h_ af⟩, ⟨h_ ag⟩, ⟨h_ ah⟩, ⟨b_ HB⟩⟩
  clear HC158
  try clear dn
  obtain ⟨kq, bI, rfl, HA, bz, aa, ab, ac, ae, ad, af, ag, ah, HB⟩ := hcut
  cases kq with
  | zero => exact absurd HA.out (by simp [quorumlaw9_step.j2])
  | succ bA =>
  have H := HA.out
  clear HA
  simp only [quorumlaw9_step.j2] at H
  as_aux_lemma =>
  by_cases dZ : bI = true
  rotate_left
  ·replace dZ := Bool.eq_false_iff.mpr dZ
   subst dZ
   rw [if_neg nf_] at H
   replace H := ob_ H
   obtain ⟨⟨bk, eh⟩, pu, H⟩ := H
   try dsimp only at H
   have HC255 := mk0 H
   clear H
   have qF := aU.out
   have qG := aQ.out
   have qH := aN.out
   have qI := aM.out
   have qJ := ay.out
   have qK := aD.out
   have qL := aR.out
   have qM := bd.out
   have qN := bb.out
   have qO := bg.out
   obtain ⟨eD, eE⟩ := c1_ af
   have qP := aK.out
   have qQ := aJ.out
   have qR := ap.out
   have qS := aq.out
   have qT := av.out
   have qU := aG.out
   have qV := az.out
   have qW := aI.out
   obtain ⟨eF, eG, eH, eI, eJ, eK, eL, eM, eN, eO, d5, eP, eQ, eR, eS, eT, eU, eV, eW, eX, eY, d6⟩ := c11_ ae
   go_upto_region 8 with (first | ((with_reducible refine gate_callee (f := 84) rfl ?_); refine gL_ (some 41) Try.func84 #[.agg #[.slice aA am.length aB], .string a1_3, .agg #[.int .i64 a1_4, .string a1_5, .bool a1_6]] (h := ?_); (with_reducible refine (table_Put.calls bA _ _ am a1_3 a1_4 a1_5 a1_6 bk eh _ ?side1 ?side2 pu.out).mono ?_); (case side1 => exact cn_ ab); (case side2 => exact (Kd.N_reads' ab.out).2.1); rintro e xr ⟨xs, rfl, ho0, hb⟩; refine ⟨_, rfl, ?_⟩; have HBN := mk0 (HTabU.Born.make_N (w := w) (B := (fun k_ => k_ = ar ∨ k_ = ax ∨ k_ = ai ∨ k_ = au ∨ k_ = al ∨ k_ = ao)) ho0 hb (bz_ (b_ HB)) (HTabU.box6 (blk_lt (h_ ac)) (blk_lt (h_ ae)) (blk_lt (h_ ad)) (blk_lt (h_ af)) (blk_lt (h_ ag)) (blk_lt (h_ ah))) (nn_ ab) (by intro k_ hk_ hb_; (obtain h | h | h | h | h | h := hb_) <;> (rw [h] at hk_; simp at hk_))); have n2_ := mk0 (Kd.N_lower (Kd.N_mono (ok' := fun k_ => (P0_0_ k_ ∨ w.heap.size ≤ k_) ∧ some k_ ≠ (.slice aA am.length aB : Value).ownBlock ∧ k_ ≠ ar ∧ k_ ≠ ax ∧ k_ ≠ ai ∧ k_ ≠ au ∧ k_ ≠ al ∧ k_ ≠ ao) (HTabU.N_of ho0) (fun k_ hk_ => ⟨(.inr (Nat.le_trans (bz_ (b_ HB)) hk_)), (Kd.fresh' (Kd.N_lt (nn_ ab)) k_ hk_), (fb_ ac k_ hk_), (fb_ ae k_ hk_), (fb_ ad k_ hk_), (fb_ af k_ hk_), (fb_ ag k_ hk_), (fb_ ah k_ hk_)⟩)) (bz_ (b_ HB))); replace aa := mk0 (Kd.V_elder' (v_ aa) (Kd.N_base ho0) hb); replace ab := mk0 (Kd.N_elder' (nn_ ab) (Kd.N_base ho0) hb); replace ac := mk0 (u_ ac hb); replace ae := mk0 (u_ ae hb); replace ad := mk0 (u_ ad hb); replace af := mk0 (u_ af hb); replace ag := mk0 (u_ ag hb); replace ah := mk0 (u_ ah hb); replace HB := mk0 (bt_ (b_ HB) hb); have d7 := n2_; clear n2_; (try clear hb); (try clear ho0); obtain ⟨bm, bn, g5⟩ := Kd.N_slice d7.out; subst g5; have qX := aV.out; have qY := aF.out; have qZ := aH.out; have q0 := aw.out; have q1 := bc.out; have q2 := aW.out; obtain ⟨eZ, e0⟩ := c1_ ag))
   (try simp only [Act.put, List.setIfInBounds_toArray, List.set_cons_zero, List.set_cons_succ])
   go_cut [49] (fun v49 wc => ∃ (kq : Nat) (bP : Bool), v49 = .bool bP ∧ Fc (quorumlaw9_step.j5 kq bp 1 eh bP l0_0 a1_0 a1_1 a1_2 a1_3 a1_4 a1_5 a1_6 a1_7 a1_8 a1_9 a1_10 am bk = some (r1, r2)) ∧ Fc (kq ≤ bA) ∧ Fc (Kd.V k99 99 wc w.heap.size (fun k_ => (P0_0_ k_ ∨ w.heap.size ≤ k_) ∧ some k_ ≠ ((.slice aA am.length aB) : Value).ownBlock ∧ some k_ ≠ ((.slice bm bk.length bn) : Value).ownBlock ∧ k_ ≠ ar ∧ k_ ≠ ax ∧ k_ ≠ ai ∧ k_ ≠ au ∧ k_ ≠ al ∧ k_ ≠ ao) (.slice A0_0 l0_0.length c0_0) l0_0) ∧ Fc (Kd.N k99 99 wc w.heap.size (fun k_ => (P0_0_ k_ ∨ w.heap.size ≤ k_) ∧ some k_ ≠ ((.slice bm bk.length bn) : Value).ownBlock ∧ k_ ≠ ar ∧ k_ ≠ ax ∧ k_ ≠ ai ∧ k_ ≠ au ∧ k_ ≠ al ∧ k_ ≠ ao) (.slice aA am.length aB) am) ∧ Fc (Kd.N k99 99 wc w.heap.size (fun k_ => (P0_0_ k_ ∨ w.heap.size ≤ k_) ∧ some k_ ≠ ((.slice aA am.length aB) : Value).ownBlock ∧ k_ ≠ ar ∧ k_ ≠ ax ∧ k_ ≠ ai ∧ k_ ≠ au ∧ k_ ≠ al ∧ k_ ≠ ao) (.slice bm bk.length bn) bk) ∧ Fc (wc.heap[ar]? = some (.cells #[(.slice A0_0 l0_0.length c0_0)] 47 (0, 0))) ∧ Fc (wc.heap[ax]? = some (.cells #[.int .i64 a1_0, .int .i64 a1_1, .int .i64 a1_2, .string a1_3, .int .i64 a1_4, .string a1_5, .bool a1_6, .string a1_7, .string a1_8, .bool a1_9, .bool a1_10] 76 (0, 0))) ∧ Fc (wc.heap[ai]? = some (.cells #[(.slice none 0 0)] 47 (0, 0))) ∧ Fc (wc.heap[au]? = some (.cells #[(.slice aA am.length aB)] 47 (0, 0))) ∧ Fc (wc.heap[al]? = some (.cells #[(.slice bm bk.length bn)] 47 (0, 0))) ∧ Fc (wc.heap[ao]? = some (.cells #[(.slice none 0 0)] 47 (0, 0))) ∧ Fc (Below w.heap.size w wc) ∧ Fc (HTabU.Born w wc (fun k_ => k_ = ar ∨ k_ = ax ∨ k_ = ai ∨ k_ = au ∨ k_ = al ∨ k_ = ao) (.slice bm bk.length bn) bk (.slice aA am.length aB) am))
   case first =>
    have H := HC255.out
    clear HC255
    by_cases ei : bp = true
    rotate_left
    ·replace ei := Bool.eq_false_iff.mpr ei
     subst ei
     rw [if_neg nf_] at H
     have H' := mk0 H
     clear H
     go_wp2
     go_meet
     case rel => exact ⟨_, (false), sm_, H', ⟨by have := bs.out; have := bz.out; first | omega | exact Nat.le_refl _⟩, ⟨by (with_reducible repeat (first | apply Kd.V_alloc | apply Kd.V_drewN | apply Kd.V_drew)); exact Kd.V_mono (Kd.V_far (p := ⟨al, 0, none⟩) (Kd.V_mono aa.out (fun k_ hk => (⟨hk, hk.1.2.2.2.2.2.2.1⟩ : _ ∧ k_ ≠ al))) (fun _ hk => hk.2) (.slice bm bk.length bn)) (fun _ hk => ⟨hk.1.1.1, ⟨hk.1.1.2.1, ⟨hk.1.2, ⟨hk.1.1.2.2.1, ⟨hk.1.1.2.2.2.1, ⟨hk.1.1.2.2.2.2.1, ⟨hk.1.1.2.2.2.2.2.1, ⟨hk.1.1.2.2.2.2.2.2.1, hk.1.1.2.2.2.2.2.2.2⟩⟩⟩⟩⟩⟩⟩⟩)⟩, ⟨by (with_reducible repeat (first | apply Kd.N_alloc | apply Kd.N_drewN | apply Kd.N_drew)); exact Kd.N_mono (Kd.N_far (p := ⟨al, 0, none⟩) (Kd.N_mono ab.out (fun k_ hk => (⟨hk, hk.1.2.2.2.2.2.1⟩ : _ ∧ k_ ≠ al))) (fun _ hk => hk.2) (.slice bm bk.length bn)) (fun _ hk => ⟨hk.1.1.1, ⟨hk.1.2, ⟨hk.1.1.2.1, ⟨hk.1.1.2.2.1, ⟨hk.1.1.2.2.2.1, ⟨hk.1.1.2.2.2.2.1, ⟨hk.1.1.2.2.2.2.2.1, hk.1.1.2.2.2.2.2.2⟩⟩⟩⟩⟩⟩⟩)⟩, ⟨by (with_reducible repeat (first | apply Kd.N_alloc | apply Kd.N_drewN | apply Kd.N_drew)); exact Kd.N_mono (Kd.N_far (p := ⟨al, 0, none⟩) (Kd.N_mono d7.out (fun k_ hk => (⟨hk, hk.2.2.2.2.2.2.1⟩ : _ ∧ k_ ≠ al))) (fun _ hk => hk.2) (.slice bm bk.length bn)) (fun _ hk => ⟨hk.1.1, ⟨hk.1.2.1, ⟨hk.1.2.2.1, ⟨hk.1.2.2.2.1, ⟨hk.1.2.2.2.2.1, ⟨hk.1.2.2.2.2.2.1, ⟨hk.1.2.2.2.2.2.2.1, hk.1.2.2.2.2.2.2.2⟩⟩⟩⟩⟩⟩⟩)⟩, ⟨(fa_ (h_ ac) aF.out)⟩, ⟨(fa_ (h_ ae) av.out)⟩, ⟨(fa_ (h_ ad) aw.out)⟩, ⟨(fa_ (h_ af) aR.out)⟩, ⟨(pu_ (cs := #[.slice none 0 0]) (h_ ag))⟩, ⟨(fa_ (h_ ah) aW.out)⟩, ⟨b_ HB⟩, ⟨HTabU.bset_ (HTabU.born_ HBN) (by simp)⟩⟩
    subst ei
    rw [if_pos rfl] at H
    replace H := ob_ H
    obtain ⟨gQ, pv, H⟩ := H
    try dsimp only at H
    have H' := mk0 H
    clear H
    have q3 := aK.out
    have q4 := aJ.out
    have q5 := ap.out
    have q6 := aq.out
    have q7 := aM.out
    have q8 := aN.out
    have q9 := av.out
    have ra := aG.out
    have rb := az.out
    have rc := aI.out
    obtain ⟨kb, kc, kd, ke, kf, kg, kh, ki, kj, kk, g6, kl, km, kn, ko, kp, kr, ks, kt, ku, kv, g7⟩ := c11_ ae
    go_wp2_with (first | (go_at_call 62; (with_reducible refine (quorumref1_Key.calls a1_3 gQ _ pv.out).mono ?_); rintro e w' ⟨rfl, ⟨nd, rfl⟩⟩))
    go_meet
    case rel => exact ⟨_, (gQ), sm_, H', ⟨by have := bs.out; have := bz.out; first | omega | exact Nat.le_refl _⟩, ⟨by (with_reducible repeat (first | apply Kd.V_alloc | apply Kd.V_drewN | apply Kd.V_drew)); exact Kd.V_mono (Kd.V_far (p := ⟨al, 0, none⟩) (Kd.V_mono aa.out (fun k_ hk => (⟨hk, hk.1.2.2.2.2.2.2.1⟩ : _ ∧ k_ ≠ al))) (fun _ hk => hk.2) (.slice bm bk.length bn)) (fun _ hk => ⟨hk.1.1.1, ⟨hk.1.1.2.1, ⟨hk.1.2, ⟨hk.1.1.2.2.1, ⟨hk.1.1.2.2.2.1, ⟨hk.1.1.2.2.2.2.1, ⟨hk.1.1.2.2.2.2.2.1, ⟨hk.1.1.2.2.2.2.2.2.1, hk.1.1.2.2.2.2.2.2.2⟩⟩⟩⟩⟩⟩⟩⟩)⟩, ⟨by (with_reducible repeat (first | apply Kd.N_alloc | apply Kd.N_drewN | apply Kd.N_drew)); exact Kd.N_mono (Kd.N_far (p := ⟨al, 0, none⟩) (Kd.N_mono ab.out (fun k_ hk => (⟨hk, hk.1.2.2.2.2.2.1⟩ : _ ∧ k_ ≠ al))) (fun _ hk => hk.2) (.slice bm bk.length bn)) (fun _ hk => ⟨hk.1.1.1, ⟨hk.1.2, ⟨hk.1.1.2.1, ⟨hk.1.1.2.2.1, ⟨hk.1.1.2.2.2.1, ⟨hk.1.1.2.2.2.2.1, ⟨hk.1.1.2.2.2.2.2.1, hk.1.1.2.2.2.2.2.2⟩⟩⟩⟩⟩⟩⟩)⟩, ⟨by (with_reducible repeat (first | apply Kd.N_alloc | apply Kd.N_drewN | apply Kd.N_drew)); exact Kd.N_mono (Kd.N_far (p := ⟨al, 0, none⟩) (Kd.N_mono d7.out (fun k_ hk => (⟨hk, hk.2.2.2.2.2.2.1⟩ : _ ∧ k_ ≠ al))) (fun _ hk => hk.2) (.slice bm bk.length bn)) (fun _ hk => ⟨hk.1.1, ⟨hk.1.2.1, ⟨hk.1.2.2.1, ⟨hk.1.2.2.2.1, ⟨hk.1.2.2.2.2.1, ⟨hk.1.2.2.2.2.2.1, ⟨hk.1.2.2.2.2.2.2.1, hk.1.2.2.2.2.2.2.2⟩⟩⟩⟩⟩⟩⟩)⟩, ⟨(fa_ (h_ ac) aF.out)⟩, ⟨(fa_ (h_ ae) av.out)⟩, ⟨(fa_ (h_ ad) aw.out)⟩, ⟨(fa_ (h_ af) aR.out)⟩, ⟨(pu_ (cs := #[.slice none 0 0]) (h_ ag))⟩, ⟨(fa_ (h_ ah) aW.out)⟩, ⟨b_ HB⟩, ⟨HTabU.bset_ (HTabU.born_ HBN) (by simp)⟩⟩
   clear HC255
   try clear dn
   try clear dZ
   try clear eD eE
   try clear eF eG d5 eH eI eJ eK eL eM eN eO eP eQ d6 eR eS eT eU eV eW eX eY
   try clear eZ e0
   obtain ⟨kq, bP, rfl, HA, fZ, aa, ab, ak, ac, ae, ad, af, ag, ah, HB, HBN⟩ := hcut
   cases kq with
   | zero => exact absurd HA.out (by simp [quorumlaw9_step.j5])
   | succ g8 =>
   have H := HA.out
   clear HA
   simp only [quorumlaw9_step.j5] at H
   as_aux_lemma =>
   by_cases ej : bP = true
   rotate_left
   ·replace ej := Bool.eq_false_iff.mpr ej
    subst ej
    rw [if_neg nf_] at H
    have H' := mk0 H
    clear H
    go_wp2
    go_meet
    case rel => exact ⟨_, (1), (eh), (bk), (([] : List (S99))), (.slice bm bk.length bn), (.slice none 0 0), sm_, sm_, H', ⟨by have := bs.out; have := bz.out; have := fZ.out; first | omega | exact Nat.le_refl _⟩, ⟨by (with_reducible repeat (first | apply Kd.V_alloc | apply Kd.V_drewN | apply Kd.V_drew)); exact Kd.V_mono aa.out (fun _ hk => ⟨hk.1, ⟨hk.2.1, ⟨hk.2.2.1, ⟨(by simp [Value.ownBlock]), ⟨hk.2.2.2.1, ⟨hk.2.2.2.2.1, ⟨hk.2.2.2.2.2.1, ⟨hk.2.2.2.2.2.2.1, ⟨hk.2.2.2.2.2.2.2.1, hk.2.2.2.2.2.2.2.2⟩⟩⟩⟩⟩⟩⟩⟩⟩)⟩, ⟨by (with_reducible repeat (first | apply Kd.N_alloc | apply Kd.N_drewN | apply Kd.N_drew)); exact Kd.N_mono ab.out (fun _ hk => ⟨hk.1, ⟨hk.2.1, ⟨(by simp [Value.ownBlock]), ⟨hk.2.2.1, ⟨hk.2.2.2.1, ⟨hk.2.2.2.2.1, ⟨hk.2.2.2.2.2.1, ⟨hk.2.2.2.2.2.2.1, hk.2.2.2.2.2.2.2⟩⟩⟩⟩⟩⟩⟩⟩)⟩, ⟨by (with_reducible repeat (first | apply Kd.N_alloc | apply Kd.N_drewN | apply Kd.N_drew)); exact Kd.N_mono ak.out (fun _ hk => ⟨hk.1, ⟨hk.2.1, ⟨(by simp [Value.ownBlock]), ⟨hk.2.2.1, ⟨hk.2.2.2.1, ⟨hk.2.2.2.2.1, ⟨hk.2.2.2.2.2.1, ⟨hk.2.2.2.2.2.2.1, hk.2.2.2.2.2.2.2⟩⟩⟩⟩⟩⟩⟩⟩)⟩, ⟨nl_⟩, ⟨h_ ac⟩, ⟨h_ ae⟩, ⟨h_ ad⟩, ⟨h_ af⟩, ⟨h_ ag⟩, ⟨h_ ah⟩, ⟨b_ HB⟩, ⟨HTabU.Apart.nil (HTabU.born_ HBN)⟩⟩
   subst ej
   rw [if_pos rfl] at H
   replace H := ob_ H
   obtain ⟨⟨cf, gR⟩, pw, H⟩ := H
   try dsimp only at H
   have H' := mk0 H
   clear H
   have rd := aJ.out
   have re := aK.out
   have rf := an.out
   have rg := aC.out
   have rh := aQ.out
   have ri := aU.out
   have rj := aF.out
   have rk := aV.out
   have rl := aZ.out
   have rm := be.out
   obtain ⟨kw, kx⟩ := c1_ ac
   have rn := ap.out
   have ro := aq.out
   have rp := aM.out
   have rq := aN.out
   have rr := av.out
   have rs := aG.out
   have rt := az.out
   have ru := aI.out
   obtain ⟨ky, kz, kA, kB, kC, kD, kE, kF, kG, kH, g9, kI, kJ, kK, kL, kM, kN, kO, kP, kQ, kR, ha⟩ := c11_ ae
   go_wp2_with (first | ((with_reducible refine gate_callee (f := 85) rfl ?_); refine gL_ (some 56) Try.func85 #[.agg #[.slice A0_0 l0_0.length c0_0], .string a1_3, .agg #[.int .i64 a1_4, .string a1_5, .bool a1_6]] (h := ?_); (with_reducible refine (quorumref8_Put.calls g8 (fun k_ => P0_0_ k_ ∧ k_ < w.heap.size) _ _ l0_0 a1_3 a1_4 a1_5 a1_6 cf gR _ ?side1 pw.out).mono ?_); (case side1 => exact Kd.V_below (Kd.V_bound hs0_0) (b_ HB)); rintro e xt ⟨xu, rfl, ho0, hb⟩; refine ⟨_, rfl, ?_⟩; have HAP := mk0 (HTabU.Apart.of_N (HTabU.born_ HBN) (HTabU.box6g fr.out fs.out dl.out ft.out fu.out fv.out) ho0 hb); clear HBN; have cr := mk0 (Kd.N_lower (Kd.N_mono (ok' := fun k_ => (P0_0_ k_ ∨ w.heap.size ≤ k_) ∧ some k_ ≠ (.slice aA am.length aB : Value).ownBlock ∧ some k_ ≠ (.slice bm bk.length bn : Value).ownBlock ∧ k_ ≠ ar ∧ k_ ≠ ax ∧ k_ ≠ ai ∧ k_ ≠ au ∧ k_ ≠ al ∧ k_ ≠ ao) (ho0) (fun k_ hk_ => ⟨Or.elim hk_ (fun hs_ => .inl hs_.1) (fun hn_ => (.inr (Nat.le_trans (bz_ (b_ HB)) hn_))), Or.elim hk_ (fun hs_ e_ => by have h1_ := Kd.N_base ab.out k_ e_.symm; have h2_ := hs_.2; omega) (fun hn_ => (Kd.fresh' (Kd.N_lt (nn_ ab)) k_ hn_)), Or.elim hk_ (fun hs_ e_ => by have h1_ := Kd.N_base ak.out k_ e_.symm; have h2_ := hs_.2; omega) (fun hn_ => (Kd.fresh' (Kd.N_lt (nn_ ak)) k_ hn_)), Or.elim hk_ (fun hs_ e_ => by have h1_ := fr.out; have h2_ := hs_.2; omega) (fun hn_ => (fb_ ac k_ hn_)), Or.elim hk_ (fun hs_ e_ => by have h1_ := fs.out; have h2_ := hs_.2; omega) (fun hn_ => (fb_ ae k_ hn_)), Or.elim hk_ (fun hs_ e_ => by have h1_ := dl.out; have h2_ := hs_.2; omega) (fun hn_ => (fb_ ad k_ hn_)), Or.elim hk_ (fun hs_ e_ => by have h1_ := ft.out; have h2_ := hs_.2; omega) (fun hn_ => (fb_ af k_ hn_)), Or.elim hk_ (fun hs_ e_ => by have h1_ := fu.out; have h2_ := hs_.2; omega) (fun hn_ => (fb_ ag k_ hn_)), Or.elim hk_ (fun hs_ e_ => by have h1_ := fv.out; have h2_ := hs_.2; omega) (fun hn_ => (fb_ ah k_ hn_))⟩)) (bz_ (b_ HB))); replace aa := mk0 (Kd.V_elder' (v_ aa) (Kd.N_base ho0) hb); replace ab := mk0 (Kd.N_elder' (nn_ ab) (Kd.N_base ho0) hb); replace ak := mk0 (Kd.N_elder' (nn_ ak) (Kd.N_base ho0) hb); replace ac := mk0 (u_ ac hb); replace ae := mk0 (u_ ae hb); replace ad := mk0 (u_ ad hb); replace af := mk0 (u_ af hb); replace ag := mk0 (u_ ag hb); replace ah := mk0 (u_ ah hb); replace HB := mk0 (bt_ (b_ HB) hb); have f0 := cr; clear cr; (try clear hb); (try clear ho0); obtain ⟨cg, ch, hc⟩ := Kd.N_slice f0.out; subst hc; have rv := aL.out; have rx := aE.out; have ry := bg.out; have rz := bb.out; have rA := aW.out; have rB := bc.out; obtain ⟨kS, kT⟩ := c1_ ah))
   go_meet
   case rel => exact ⟨_, (gR), (eh), (bk), (cf), (.slice bm bk.length bn), (.slice cg cf.length ch), sm_, sm_, H', ⟨by have := bs.out; have := bz.out; have := fZ.out; first | omega | exact Nat.le_refl _⟩, ⟨by (with_reducible repeat (first | apply Kd.V_alloc | apply Kd.V_drewN | apply Kd.V_drew)); exact Kd.V_mono (Kd.V_far (p := ⟨ao, 0, none⟩) (Kd.V_mono aa.out (fun k_ hk => (⟨hk, hk.1.2.2.2.2.2.2.2.2⟩ : _ ∧ k_ ≠ ao))) (fun _ hk => hk.2) (.slice cg cf.length ch)) (fun _ hk => ⟨hk.1.1.1, ⟨hk.1.1.2.1, ⟨hk.1.1.2.2.1, ⟨hk.1.2, ⟨hk.1.1.2.2.2.1, ⟨hk.1.1.2.2.2.2.1, ⟨hk.1.1.2.2.2.2.2.1, ⟨hk.1.1.2.2.2.2.2.2.1, ⟨hk.1.1.2.2.2.2.2.2.2.1, hk.1.1.2.2.2.2.2.2.2.2⟩⟩⟩⟩⟩⟩⟩⟩⟩)⟩, ⟨by (with_reducible repeat (first | apply Kd.N_alloc | apply Kd.N_drewN | apply Kd.N_drew)); exact Kd.N_mono (Kd.N_far (p := ⟨ao, 0, none⟩) (Kd.N_mono ab.out (fun k_ hk => (⟨hk, hk.1.2.2.2.2.2.2.2⟩ : _ ∧ k_ ≠ ao))) (fun _ hk => hk.2) (.slice cg cf.length ch)) (fun _ hk => ⟨hk.1.1.1, ⟨hk.1.1.2.1, ⟨hk.1.2, ⟨hk.1.1.2.2.1, ⟨hk.1.1.2.2.2.1, ⟨hk.1.1.2.2.2.2.1, ⟨hk.1.1.2.2.2.2.2.1, ⟨hk.1.1.2.2.2.2.2.2.1, hk.1.1.2.2.2.2.2.2.2⟩⟩⟩⟩⟩⟩⟩⟩)⟩, ⟨by (with_reducible repeat (first | apply Kd.N_alloc | apply Kd.N_drewN | apply Kd.N_drew)); exact Kd.N_mono (Kd.N_far (p := ⟨ao, 0, none⟩) (Kd.N_mono ak.out (fun k_ hk => (⟨hk, hk.1.2.2.2.2.2.2.2⟩ : _ ∧ k_ ≠ ao))) (fun _ hk => hk.2) (.slice cg cf.length ch)) (fun _ hk => ⟨hk.1.1.1, ⟨hk.1.1.2.1, ⟨hk.1.2, ⟨hk.1.1.2.2.1, ⟨hk.1.1.2.2.2.1, ⟨hk.1.1.2.2.2.2.1, ⟨hk.1.1.2.2.2.2.2.1, ⟨hk.1.1.2.2.2.2.2.2.1, hk.1.1.2.2.2.2.2.2.2⟩⟩⟩⟩⟩⟩⟩⟩)⟩, ⟨by (with_reducible repeat (first | apply Kd.N_alloc | apply Kd.N_drewN | apply Kd.N_drew)); exact Kd.N_mono (Kd.N_far (p := ⟨ao, 0, none⟩) (Kd.N_mono f0.out (fun k_ hk => (⟨hk, hk.2.2.2.2.2.2.2.2⟩ : _ ∧ k_ ≠ ao))) (fun _ hk => hk.2) (.slice cg cf.length ch)) (fun _ hk => ⟨hk.1.1, ⟨hk.1.2.1, ⟨hk.1.2.2.1, ⟨hk.1.2.2.2.1, ⟨hk.1.2.2.2.2.1, ⟨hk.1.2.2.2.2.2.1, ⟨hk.1.2.2.2.2.2.2.1, ⟨hk.1.2.2.2.2.2.2.2.1, hk.1.2.2.2.2.2.2.2.2⟩⟩⟩⟩⟩⟩⟩⟩)⟩, ⟨(fa_ (h_ ac) aZ.out)⟩, ⟨(fa_ (h_ ae) az.out)⟩, ⟨(fa_ (h_ ad) aE.out)⟩, ⟨(fa_ (h_ af) bb.out)⟩, ⟨(fa_ (h_ ag) bc.out)⟩, ⟨(pu_ (cs := #[.slice none 0 0]) (h_ ah))⟩, ⟨b_ HB⟩, ⟨HTabU.aset_ (HTabU.ap_ HAP) (by simp)⟩⟩
  subst dZ
  rw [if_pos rfl] at H
  replace H := ob_ H
  obtain ⟨⟨bw, bx⟩, px, H⟩ := H
  try dsimp only at H
  replace H := ob_ H
  obtain ⟨⟨bQ, bR⟩, pz, H⟩ := H
  try dsimp only at H
  have HC163 := mk0 H
  clear H
  have rC := aU.out
  have rD := aQ.out
  have rE := aN.out
  have rF := aM.out
  have rG := ay.out
  have rH := aD.out
  have rI := aR.out
  have rJ := bd.out
  have rK := bb.out
  have rL := bg.out
  obtain ⟨cz, cA⟩ := c1_ af
  have rM := aK.out
  have rN := aJ.out
  have rO := ap.out
  have rP := aq.out
  have rQ := av.out
  have rR := aG.out
  have rS := az.out
  have rT := aI.out
  obtain ⟨cB, cC, cD, cE, cF, cG, cH, cI, cJ, cK, ci, cL, cM, cN, cO, cP, cQ, cR, cS, cT, cU, cj⟩ := c11_ ae
  go_upto_if 156 with (first | ((with_reducible refine gate_callee (f := 78) rfl ?_); refine gL_ (some 146) Try.func78 #[.agg #[.slice aA am.length aB], .agg #[.string a1_7, .string a1_8, .bool a1_9], .int .i64 a1_1, .int .i64 a1_2, .bool a1_10] (h := ?_); (with_reducible refine (table_Scan.calls bA _ _ am a1_7 a1_8 a1_9 a1_1 a1_2 a1_10 bw bx _ ?side1 ?side2 px.out).mono ?_); (case side1 => exact cn_ ab); (case side2 => exact (Kd.N_reads' ab.out).2.1); rintro e xv ⟨bC, rfl, ho0, hb⟩; refine ⟨_, rfl, ?_⟩; have n2_ := mk0 (Kd.R_lower (Kd.R_newM (M := fun k_ => (w.heap.size ≤ k_)) ho0 (bz_ (b_ HB)) (fun k_ h_ => h_)) (bz_ (b_ HB))); replace aa := mk0 (Kd.V_elder' (v_ aa) (Kd.R_base ho0) hb); replace ab := mk0 (Kd.N_elder' (nn_ ab) (Kd.R_base ho0) hb); replace ac := mk0 (u_ ac hb); replace ae := mk0 (u_ ae hb); replace ad := mk0 (u_ ad hb); replace af := mk0 (u_ af hb); replace ag := mk0 (u_ ag hb); replace ah := mk0 (u_ ah hb); replace HB := mk0 (bt_ (b_ HB) hb); have bo := n2_; clear n2_; (try clear hb); (try clear ho0); obtain ⟨cV, cW⟩ := c1_ af; obtain ⟨cX, cY, cZ, c0, c1, c2, c3, c4, c5, c6, ck, c7, c8, c9, da, db, dc, dd, de, df, dg, cl⟩ := c11_ ae) | ((with_reducible refine gate_callee (f := 79) rfl ?_); refine gL_ (some 153) Try.func79 #[.agg #[.slice aA am.length aB], .int .i64 a1_1] (h := ?_); (with_reducible refine (table_Map.calls bA _ _ am a1_1 bQ bR _ ?side1 ?side2 pz.out).mono ?_); (case side1 => exact cn_ ab); (case side2 => exact (Kd.N_reads' ab.out).2.1); rintro e xw ⟨bD, rfl, ho0, hb⟩; refine ⟨_, rfl, ?_⟩; have cr := mk0 (Kd.R_lower (Kd.R_new' (Kd.R_newM (M := fun k_ => (w.heap.size ≤ k_)) ho0 (bz_ (b_ HB)) (fun k_ h_ => h_)) (Kd.R_lt (r_ bo))) (bz_ (b_ HB))); replace aa := mk0 (Kd.V_elder' (v_ aa) (Kd.R_base ho0) hb); replace ab := mk0 (Kd.N_elder' (nn_ ab) (Kd.R_base ho0) hb); replace bo := mk0 (Kd.R_elder' (r_ bo) (Kd.R_base ho0) hb); replace ac := mk0 (u_ ac hb); replace ae := mk0 (u_ ae hb); replace ad := mk0 (u_ ad hb); replace af := mk0 (u_ af hb); replace ag := mk0 (u_ ag hb); replace ah := mk0 (u_ ah hb); replace HB := mk0 (bt_ (b_ HB) hb); have bv := cr; clear cr; (try clear hb); (try clear ho0)))
  (try simp only [Act.put, List.setIfInBounds_toArray, List.set_cons_zero, List.set_cons_succ])
  go_cut [8, 25, 26, 27] (fun v8 v25 v26 v27 wc => ∃ (kq : Nat) (b7 : Int) (bS : Int) (bj : List (S82)) (bu : List (S82)), v8 = .int .i64 b7 ∧ v25 = .int .i64 bS ∧ Fc (quorumlaw9_step.j4 kq b7 bw bx bQ bR bS bj bu l0_0 am = some (r1, r2)) ∧ Fc (kq ≤ bA) ∧ Fc (Kd.R k82 82 wc w.heap.size (fun k_ => (w.heap.size ≤ k_) ∧ some k_ ≠ (bD : Value).ownBlock ∧ some k_ ≠ (v26 : Value).ownBlock ∧ some k_ ≠ (v27 : Value).ownBlock) bC bw) ∧ Fc (Kd.R k82 82 wc w.heap.size (fun k_ => (w.heap.size ≤ k_) ∧ some k_ ≠ (bC : Value).ownBlock ∧ some k_ ≠ (v26 : Value).ownBlock ∧ some k_ ≠ (v27 : Value).ownBlock) bD bQ) ∧ Fc (Kd.R k82 82 wc w.heap.size (fun k_ => (w.heap.size ≤ k_) ∧ some k_ ≠ (bC : Value).ownBlock ∧ some k_ ≠ (bD : Value).ownBlock ∧ some k_ ≠ (v27 : Value).ownBlock) v26 bj) ∧ Fc (Kd.R k82 82 wc w.heap.size (fun k_ => (w.heap.size ≤ k_) ∧ some k_ ≠ (bC : Value).ownBlock ∧ some k_ ≠ (bD : Value).ownBlock ∧ some k_ ≠ (v26 : Value).ownBlock) v27 bu) ∧ Fc (Kd.V k99 99 wc w.heap.size (fun k_ => (P0_0_ k_ ∨ w.heap.size ≤ k_) ∧ some k_ ≠ (bC : Value).ownBlock ∧ some k_ ≠ (bD : Value).ownBlock ∧ some k_ ≠ (v26 : Value).ownBlock ∧ some k_ ≠ (v27 : Value).ownBlock ∧ some k_ ≠ ((.slice aA am.length aB) : Value).ownBlock ∧ k_ ≠ ar ∧ k_ ≠ ax ∧ k_ ≠ ai ∧ k_ ≠ au ∧ k_ ≠ al ∧ k_ ≠ ao) (.slice A0_0 l0_0.length c0_0) l0_0) ∧ Fc (Kd.N k99 99 wc w.heap.size (fun k_ => (P0_0_ k_ ∨ w.heap.size ≤ k_) ∧ some k_ ≠ (bC : Value).ownBlock ∧ some k_ ≠ (bD : Value).ownBlock ∧ some k_ ≠ (v26 : Value).ownBlock ∧ some k_ ≠ (v27 : Value).ownBlock ∧ k_ ≠ ar ∧ k_ ≠ ax ∧ k_ ≠ ai ∧ k_ ≠ au ∧ k_ ≠ al ∧ k_ ≠ ao) (.slice aA am.length aB) am) ∧ Fc (wc.heap[ar]? = some (.cells #[(.slice A0_0 l0_0.length c0_0)] 47 (0, 0))) ∧ Fc (wc.heap[ax]? = some (.cells #[.int .i64 a1_0, .int .i64 a1_1, .int .i64 a1_2, .string a1_3, .int .i64 a1_4, .string a1_5, .bool a1_6, .string a1_7, .string a1_8, .bool a1_9, .bool a1_10] 76 (0, 0))) ∧ Fc (wc.heap[ai]? = some (.cells #[(.slice none 0 0)] 47 (0, 0))) ∧ Fc (wc.heap[au]? = some (.cells #[(.slice aA am.length aB)] 47 (0, 0))) ∧ Fc (wc.heap[al]? = some (.cells #[(.slice none 0 0)] 47 (0, 0))) ∧ Fc (wc.heap[ao]? = some (.cells #[(.slice none 0 0)] 47 (0, 0))) ∧ Fc (Below w.heap.size w wc))
  case first =>
   have H := HC163.out
   clear HC163
   by_cases ek : bp = true
   rotate_left
   ·replace ek := Bool.eq_false_iff.mpr ek
    subst ek
    rw [if_neg nf_] at H
    have H' := mk0 H
    clear H
    go_wp2
    go_meet
    case rel => exact ⟨_, (1), (1), (([] : List (S82))), (([] : List (S82))), sm_, sm_, H', ⟨by have := bs.out; have := bz.out; first | omega | exact Nat.le_refl _⟩, ⟨by (with_reducible repeat (first | apply Ra_ | apply Rn_ | apply Rd_)); exact Kd.R_mono bo.out (fun _ hk => ⟨hk.1.1, ⟨hk.2, ⟨(by simp [Value.ownBlock]), (by simp [Value.ownBlock])⟩⟩⟩)⟩, ⟨by (with_reducible repeat (first | apply Ra_ | apply Rn_ | apply Rd_)); exact Kd.R_mono bv.out (fun _ hk => ⟨hk.1.1, ⟨hk.2, ⟨(by simp [Value.ownBlock]), (by simp [Value.ownBlock])⟩⟩⟩)⟩, ⟨nl_⟩, ⟨nl_⟩, ⟨by (with_reducible repeat (first | apply Kd.V_alloc | apply Kd.V_drewN | apply Kd.V_drew)); exact Kd.V_mono aa.out (fun _ hk => ⟨hk.1.1.1, ⟨hk.1.2, ⟨hk.2, ⟨(by simp [Value.ownBlock]), ⟨(by simp [Value.ownBlock]), ⟨hk.1.1.2.1, ⟨hk.1.1.2.2.1, ⟨hk.1.1.2.2.2.1, ⟨hk.1.1.2.2.2.2.1, ⟨hk.1.1.2.2.2.2.2.1, ⟨hk.1.1.2.2.2.2.2.2.1, hk.1.1.2.2.2.2.2.2.2⟩⟩⟩⟩⟩⟩⟩⟩⟩⟩⟩)⟩, ⟨by (with_reducible repeat (first | apply Kd.N_alloc | apply Kd.N_drewN | apply Kd.N_drew)); exact Kd.N_mono ab.out (fun _ hk => ⟨hk.1.1.1, ⟨hk.1.2, ⟨hk.2, ⟨(by simp [Value.ownBlock]), ⟨(by simp [Value.ownBlock]), ⟨hk.1.1.2.1, ⟨hk.1.1.2.2.1, ⟨hk.1.1.2.2.2.1, ⟨hk.1.1.2.2.2.2.1, ⟨hk.1.1.2.2.2.2.2.1, hk.1.1.2.2.2.2.2.2⟩⟩⟩⟩⟩⟩⟩⟩⟩⟩)⟩, ⟨h_ ac⟩, ⟨h_ ae⟩, ⟨h_ ad⟩, ⟨h_ af⟩, ⟨h_ ag⟩, ⟨h_ ah⟩, ⟨b_ HB⟩⟩
   subst ek
   rw [if_pos rfl] at H
   replace H := ob_ H
   obtain ⟨cm, pA, H⟩ := H
   try dsimp only at H
   have HC181 := mk0 H
   clear H
   have rU := aJ.out
   have rV := aK.out
   have rW := an.out
   have rX := aC.out
   have rY := aQ.out
   have rZ := aU.out
   have r0 := aF.out
   have r3 := aV.out
   have r4 := aZ.out
   have r5 := be.out
   obtain ⟨e1, e2⟩ := c1_ ac
   have r6 := ap.out
   have r7 := aq.out
   have r8 := aM.out
   have r9 := aN.out
   have sa := av.out
   have sb := aG.out
   have sc := az.out
   have sd := aI.out
   obtain ⟨e3, e4, e5, e6, e7, e8, e9, fa, fb, fc, d8, fd, fe, ff, fg, fh, fi, fj, fk, fl, fm, d9⟩ := c11_ ae
   go_upto_region 35 with (first | ((with_reducible refine gate_callee (f := 80) rfl ?_); refine gL_ (some 160) Try.func80 #[.agg #[.slice A0_0 l0_0.length c0_0], .int .i64 a1_1] (h := ?_); (with_reducible refine (quorumref8_Map.calls bA _ _ l0_0 a1_1 cm _ ?side1 ?side2 pA.out).mono ?_); (case side1 => exact cv_ aa); (case side2 => exact (Kd.V_reads' aa.out).2.1); rintro e xx ⟨dh, rfl, ho0, hb⟩; refine ⟨_, rfl, ?_⟩; have bU := mk0 (Kd.R_lower (Kd.R_new' (Kd.R_new' (Kd.R_newM (M := fun k_ => (w.heap.size ≤ k_)) ho0 (bz_ (b_ HB)) (fun k_ h_ => h_)) (Kd.R_lt (r_ bo))) (Kd.R_lt (r_ bv))) (bz_ (b_ HB))); replace aa := mk0 (Kd.V_elder' (v_ aa) (Kd.R_base ho0) hb); replace ab := mk0 (Kd.N_elder' (nn_ ab) (Kd.R_base ho0) hb); replace bo := mk0 (Kd.R_elder' (r_ bo) (Kd.R_base ho0) hb); replace bv := mk0 (Kd.R_elder' (r_ bv) (Kd.R_base ho0) hb); replace ac := mk0 (u_ ac hb); replace ae := mk0 (u_ ae hb); replace ad := mk0 (u_ ad hb); replace af := mk0 (u_ af hb); replace ag := mk0 (u_ ag hb); replace ah := mk0 (u_ ah hb); replace HB := mk0 (bt_ (b_ HB) hb); have bW := bU; clear bU; (try clear hb); (try clear ho0)))
   (try simp only [Act.put, List.setIfInBounds_toArray, List.set_cons_zero, List.set_cons_succ])
   go_cut [168] (fun pB wc => ∃ (kq : Nat) (bJ : Bool), pB = .bool bJ ∧ Fc (quorumlaw9_step.j3 kq 1 bw bx bQ bR 0 ([] : List (S82)) cm bJ l0_0 a1_0 a1_1 a1_2 a1_3 a1_4 a1_5 a1_6 a1_7 a1_8 a1_9 a1_10 am = some (r1, r2)) ∧ Fc (kq ≤ bA) ∧ Fc (Kd.R k82 82 wc w.heap.size (fun k_ => (w.heap.size ≤ k_) ∧ some k_ ≠ (bD : Value).ownBlock ∧ some k_ ≠ ((.slice none 0 0) : Value).ownBlock ∧ some k_ ≠ (dh : Value).ownBlock) bC bw) ∧ Fc (Kd.R k82 82 wc w.heap.size (fun k_ => (w.heap.size ≤ k_) ∧ some k_ ≠ (bC : Value).ownBlock ∧ some k_ ≠ ((.slice none 0 0) : Value).ownBlock ∧ some k_ ≠ (dh : Value).ownBlock) bD bQ) ∧ Fc (Kd.R k82 82 wc w.heap.size (fun k_ => (w.heap.size ≤ k_) ∧ some k_ ≠ (bC : Value).ownBlock ∧ some k_ ≠ (bD : Value).ownBlock ∧ some k_ ≠ (dh : Value).ownBlock) (.slice none 0 0) ([] : List (S82))) ∧ Fc (Kd.R k82 82 wc w.heap.size (fun k_ => (w.heap.size ≤ k_) ∧ some k_ ≠ (bC : Value).ownBlock ∧ some k_ ≠ (bD : Value).ownBlock ∧ some k_ ≠ ((.slice none 0 0) : Value).ownBlock) dh cm) ∧ Fc (Kd.V k99 99 wc w.heap.size (fun k_ => (P0_0_ k_ ∨ w.heap.size ≤ k_) ∧ some k_ ≠ (bC : Value).ownBlock ∧ some k_ ≠ (bD : Value).ownBlock ∧ some k_ ≠ ((.slice none 0 0) : Value).ownBlock ∧ some k_ ≠ (dh : Value).ownBlock ∧ some k_ ≠ ((.slice aA am.length aB) : Value).ownBlock ∧ k_ ≠ ar ∧ k_ ≠ ax ∧ k_ ≠ ai ∧ k_ ≠ au ∧ k_ ≠ al ∧ k_ ≠ ao) (.slice A0_0 l0_0.length c0_0) l0_0) ∧ Fc (Kd.N k99 99 wc w.heap.size (fun k_ => (P0_0_ k_ ∨ w.heap.size ≤ k_) ∧ some k_ ≠ (bC : Value).ownBlock ∧ some k_ ≠ (bD : Value).ownBlock ∧ some k_ ≠ ((.slice none 0 0) : Value).ownBlock ∧ some k_ ≠ (dh : Value).ownBlock ∧ k_ ≠ ar ∧ k_ ≠ ax ∧ k_ ≠ ai ∧ k_ ≠ au ∧ k_ ≠ al ∧ k_ ≠ ao) (.slice aA am.length aB) am) ∧ Fc (wc.heap[ar]? = some (.cells #[(.slice A0_0 l0_0.length c0_0)] 47 (0, 0))) ∧ Fc (wc.heap[ax]? = some (.cells #[.int .i64 a1_0, .int .i64 a1_1, .int .i64 a1_2, .string a1_3, .int .i64 a1_4, .string a1_5, .bool a1_6, .string a1_7, .string a1_8, .bool a1_9, .bool a1_10] 76 (0, 0))) ∧ Fc (wc.heap[ai]? = some (.cells #[(.slice none 0 0)] 47 (0, 0))) ∧ Fc (wc.heap[au]? = some (.cells #[(.slice aA am.length aB)] 47 (0, 0))) ∧ Fc (wc.heap[al]? = some (.cells #[(.slice none 0 0)] 47 (0, 0))) ∧ Fc (wc.heap[ao]? = some (.cells #[(.slice none 0 0)] 47 (0, 0))) ∧ Fc (Below w.heap.size w wc))
   case first =>
    have H := HC181.out
    clear HC181
    replace H := ob_ H
    obtain ⟨pC, gS, H⟩ := H
    try dsimp only at H
    by_cases el : pC = true
    rotate_left
    ·replace el := Bool.eq_false_iff.mpr el
     subst el
     rw [if_neg nf_] at H
     have H' := mk0 H
     clear H
     have se := aK.out
     have sf := aJ.out
     have sg := ap.out
     have sh := aq.out
     have si := aM.out
     have sj := aN.out
     have sk := av.out
     have sl := aG.out
     have sm := az.out
     have sn := aI.out
     obtain ⟨kU, kV, kW, kX, kY, kZ, la, lb, lc, ld, hd, lf, lg, lh, li, lj, lk, ll, lm, ln, lo, he⟩ := c11_ ae
     go_wp2_with (first | ((with_reducible refine gate_callee (f := 81) rfl ?_); refine gL_ (some 163) Try.func81 #[.agg #[.string a1_7, .string a1_8, .bool a1_9]] (h := ?_); (with_reducible refine (quorumref1_Range.calls bA a1_7 a1_8 a1_9 false _ gS.out).mono ?_); rintro e xy ⟨rfl, hb⟩; refine ⟨_, rfl, ?_⟩; replace aa := mk0 (Kd.V_below (v_ aa) hb); replace ab := mk0 (Kd.N_below (nn_ ab) hb); replace bo := mk0 (Kd.R_below (r_ bo) hb); replace bv := mk0 (Kd.R_below (r_ bv) hb); replace bW := mk0 (Kd.R_below (r_ bW) hb); replace ac := mk0 (u_ ac hb); replace ae := mk0 (u_ ae hb); replace ad := mk0 (u_ ad hb); replace af := mk0 (u_ af hb); replace ag := mk0 (u_ ag hb); replace ah := mk0 (u_ ah hb); replace HB := mk0 (bt_ (b_ HB) hb); (try clear hb)))
     go_meet
     case rel => exact ⟨_, (false), sm_, H', ⟨by have := bs.out; have := bz.out; first | omega | exact Nat.le_refl _⟩, ⟨by (with_reducible repeat (first | apply Ra_ | apply Rn_ | apply Rd_)); exact Kd.R_mono bo.out (fun _ hk => ⟨hk.1.1.1, ⟨hk.1.2, ⟨(by simp [Value.ownBlock]), hk.2⟩⟩⟩)⟩, ⟨by (with_reducible repeat (first | apply Ra_ | apply Rn_ | apply Rd_)); exact Kd.R_mono bv.out (fun _ hk => ⟨hk.1.1.1, ⟨hk.1.2, ⟨(by simp [Value.ownBlock]), hk.2⟩⟩⟩)⟩, ⟨nl_⟩, ⟨by (with_reducible repeat (first | apply Ra_ | apply Rn_ | apply Rd_)); exact Kd.R_mono bW.out (fun _ hk => ⟨hk.1.1.1, ⟨hk.1.2, ⟨hk.2, (by simp [Value.ownBlock])⟩⟩⟩)⟩, ⟨by (with_reducible repeat (first | apply Kd.V_alloc | apply Kd.V_drewN | apply Kd.V_drew)); exact Kd.V_mono aa.out (fun _ hk => ⟨hk.1.1.1.1, ⟨hk.1.1.2, ⟨hk.1.2, ⟨(by simp [Value.ownBlock]), ⟨hk.2, ⟨hk.1.1.1.2.1, ⟨hk.1.1.1.2.2.1, ⟨hk.1.1.1.2.2.2.1, ⟨hk.1.1.1.2.2.2.2.1, ⟨hk.1.1.1.2.2.2.2.2.1, ⟨hk.1.1.1.2.2.2.2.2.2.1, hk.1.1.1.2.2.2.2.2.2.2⟩⟩⟩⟩⟩⟩⟩⟩⟩⟩⟩)⟩, ⟨by (with_reducible repeat (first | apply Kd.N_alloc | apply Kd.N_drewN | apply Kd.N_drew)); exact Kd.N_mono ab.out (fun _ hk => ⟨hk.1.1.1.1, ⟨hk.1.1.2, ⟨hk.1.2, ⟨(by simp [Value.ownBlock]), ⟨hk.2, ⟨hk.1.1.1.2.1, ⟨hk.1.1.1.2.2.1, ⟨hk.1.1.1.2.2.2.1, ⟨hk.1.1.1.2.2.2.2.1, ⟨hk.1.1.1.2.2.2.2.2.1, hk.1.1.1.2.2.2.2.2.2⟩⟩⟩⟩⟩⟩⟩⟩⟩⟩)⟩, ⟨h_ ac⟩, ⟨h_ ae⟩, ⟨h_ ad⟩, ⟨h_ af⟩, ⟨h_ ag⟩, ⟨h_ ah⟩, ⟨b_ HB⟩⟩
    subst el
    rw [if_pos rfl] at H
    replace H := ob_ H
    obtain ⟨gT, pD, H⟩ := H
    try dsimp only at H
    have H' := mk0 H
    clear H
    have so := aK.out
    have sp := aJ.out
    have sq := ap.out
    have sr := aq.out
    have ss := aM.out
    have st := aN.out
    have su := av.out
    have sv := aG.out
    have sw := az.out
    have sx := aI.out
    obtain ⟨lp, lq, lr, ls, lu, lv, lw, lx, ly, lz, hh, lA, lB, lC, lD, lE, lF, lG, lH, lI, lJ, hj⟩ := c11_ ae
    go_wp2_with (first | ((with_reducible refine gate_callee (f := 81) rfl ?_); refine gL_ (some 163) Try.func81 #[.agg #[.string a1_7, .string a1_8, .bool a1_9]] (h := ?_); (with_reducible refine (quorumref1_Range.calls bA a1_7 a1_8 a1_9 true _ gS.out).mono ?_); rintro e xz ⟨rfl, hb⟩; refine ⟨_, rfl, ?_⟩; replace aa := mk0 (Kd.V_below (v_ aa) hb); replace ab := mk0 (Kd.N_below (nn_ ab) hb); replace bo := mk0 (Kd.R_below (r_ bo) hb); replace bv := mk0 (Kd.R_below (r_ bv) hb); replace bW := mk0 (Kd.R_below (r_ bW) hb); replace ac := mk0 (u_ ac hb); replace ae := mk0 (u_ ae hb); replace ad := mk0 (u_ ad hb); replace af := mk0 (u_ af hb); replace ag := mk0 (u_ ag hb); replace ah := mk0 (u_ ah hb); replace HB := mk0 (bt_ (b_ HB) hb); (try clear hb); obtain ⟨lK, lL, lM, lN, lO, lP, lQ, lR, lS, lT, hl, lU, lV, lW, lX, lY, lZ, l0, l1, l2, l3, hm⟩ := c11_ ae) | (go_at_call 39; (with_reducible refine (quorumref0_Num.calls a1_2 1073741824 gT _ pD.out).mono ?_); rintro e w' ⟨rfl, ⟨nd, rfl⟩⟩))
    go_meet
    case rel => exact ⟨_, (gT), sm_, H', ⟨by have := bs.out; have := bz.out; first | omega | exact Nat.le_refl _⟩, ⟨by (with_reducible repeat (first | apply Ra_ | apply Rn_ | apply Rd_)); exact Kd.R_mono bo.out (fun _ hk => ⟨hk.1.1.1, ⟨hk.1.2, ⟨(by simp [Value.ownBlock]), hk.2⟩⟩⟩)⟩, ⟨by (with_reducible repeat (first | apply Ra_ | apply Rn_ | apply Rd_)); exact Kd.R_mono bv.out (fun _ hk => ⟨hk.1.1.1, ⟨hk.1.2, ⟨(by simp [Value.ownBlock]), hk.2⟩⟩⟩)⟩, ⟨nl_⟩, ⟨by (with_reducible repeat (first | apply Ra_ | apply Rn_ | apply Rd_)); exact Kd.R_mono bW.out (fun _ hk => ⟨hk.1.1.1, ⟨hk.1.2, ⟨hk.2, (by simp [Value.ownBlock])⟩⟩⟩)⟩, ⟨by (with_reducible repeat (first | apply Kd.V_alloc | apply Kd.V_drewN | apply Kd.V_drew)); exact Kd.V_mono aa.out (fun _ hk => ⟨hk.1.1.1.1, ⟨hk.1.1.2, ⟨hk.1.2, ⟨(by simp [Value.ownBlock]), ⟨hk.2, ⟨hk.1.1.1.2.1, ⟨hk.1.1.1.2.2.1, ⟨hk.1.1.1.2.2.2.1, ⟨hk.1.1.1.2.2.2.2.1, ⟨hk.1.1.1.2.2.2.2.2.1, ⟨hk.1.1.1.2.2.2.2.2.2.1, hk.1.1.1.2.2.2.2.2.2.2⟩⟩⟩⟩⟩⟩⟩⟩⟩⟩⟩)⟩, ⟨by (with_reducible repeat (first | apply Kd.N_alloc | apply Kd.N_drewN | apply Kd.N_drew)); exact Kd.N_mono ab.out (fun _ hk => ⟨hk.1.1.1.1, ⟨hk.1.1.2, ⟨hk.1.2, ⟨(by simp [Value.ownBlock]), ⟨hk.2, ⟨hk.1.1.1.2.1, ⟨hk.1.1.1.2.2.1, ⟨hk.1.1.1.2.2.2.1, ⟨hk.1.1.1.2.2.2.2.1, ⟨hk.1.1.1.2.2.2.2.2.1, hk.1.1.1.2.2.2.2.2.2⟩⟩⟩⟩⟩⟩⟩⟩⟩⟩)⟩, ⟨h_ ac⟩, ⟨h_ ae⟩, ⟨h_ ad⟩, ⟨h_ af⟩, ⟨h_ ag⟩, ⟨h_ ah⟩, ⟨b_ HB⟩⟩
   clear HC181
   try clear dn
   try clear cz cA
   try clear cB cC ci cD cE cF cG cH cI cJ cK cL cM cj cN cO cP cQ cR cS cT cU
   try clear cV cW
   try clear cX cY ck cZ c0 c1 c2 c3 c4 c5 c6 c7 c8 cl c9 da db dc dd de df dg
   try clear e1 e2
   try clear e3 e4 d8 e5 e6 e7 e8 e9 fa fb fc fd fe d9 ff fg fh fi fj fk fl fm
   obtain ⟨kq, bJ, rfl, HA, f1, aO, aX, aP, aT, aa, ab, ac, ae, ad, af, ag, ah, HB⟩ := hcut
   cases kq with
   | zero => exact absurd HA.out (by simp [quorumlaw9_step.j3])
   | succ hn =>
   have H := HA.out
   clear HA
   simp only [quorumlaw9_step.j3] at H
   as_aux_lemma =>
   by_cases em : bJ = true
   rotate_left
   ·replace em := Bool.eq_false_iff.mpr em
    subst em
    rw [if_neg nf_] at H
    have H' := mk0 H
    clear H
    go_wp2
    go_meet
    case rel => exact ⟨_, (1), (0), (([] : List (S82))), (cm), sm_, sm_, H', ⟨by have := bs.out; have := bz.out; have := f1.out; first | omega | exact Nat.le_refl _⟩, ⟨r2_ aO.out⟩, ⟨r2_ aX.out⟩, ⟨r2_ aP.out⟩, ⟨r2_ aT.out⟩, ⟨v2_ aa.out⟩, ⟨n2_ ab.out⟩, ⟨h_ ac⟩, ⟨h_ ae⟩, ⟨h_ ad⟩, ⟨h_ af⟩, ⟨h_ ag⟩, ⟨h_ ah⟩, ⟨b_ HB⟩⟩
   subst em
   rw [if_pos rfl] at H
   replace H := ob_ H
   obtain ⟨gU, pE, H⟩ := H
   try dsimp only at H
   have H' := mk0 H
   clear H
   have sy := aK.out
   have sz := aJ.out
   have sA := ap.out
   have sB := aq.out
   have sC := aM.out
   have sD := aN.out
   have sE := av.out
   have sF := aG.out
   have sG := az.out
   have sH := aI.out
   obtain ⟨l4, l5, l6, l7, l8, l9, ma, mb, mc, md, ho, me, mf, mg, mh, mi, mj, ml, mm, mn, mo, hp⟩ := c11_ ae
   obtain ⟨hq, ht, hu⟩ := Kd.R_slice aT.out
   subst hu
   go_wp2_with (first | ((with_reducible refine gate_callee (f := 82) rfl ?_); refine gL_ (some 176) Try.func82 #[.slice hq cm.length ht, .agg #[.string a1_7, .string a1_8, .bool a1_9], .int .i64 a1_2, .bool a1_10] (h := ?_); (with_reducible refine (quorumref6_Rows.calls hn _ _ cm a1_7 a1_8 a1_9 a1_2 a1_10 gU _ ?side1 ?side2 pE.out).mono ?_); (case side1 => exact cr_ aT); (case side2 => exact (Kd.R_reads' aT.out).2.1); rintro e xA ⟨xB, rfl, ho0, hb⟩; refine ⟨_, rfl, ?_⟩; have b8 := mk0 (Kd.R_lower (Kd.R_new' (Kd.R_new' (Kd.R_new' (Kd.R_new' (Kd.R_newM (M := fun k_ => (w.heap.size ≤ k_)) ho0 (bz_ (b_ HB)) (fun k_ h_ => h_)) (Kd.R_lt (r_ aO))) (Kd.R_lt (r_ aX))) (Kd.R_lt (r_ aP))) (Kd.R_lt (r_ aT))) (bz_ (b_ HB))); replace aO := mk0 (Kd.R_elder' (r_ aO) (Kd.R_base ho0) hb); replace aX := mk0 (Kd.R_elder' (r_ aX) (Kd.R_base ho0) hb); replace aP := mk0 (Kd.R_elder' (r_ aP) (Kd.R_base ho0) hb); replace aT := mk0 (Kd.R_elder' (r_ aT) (Kd.R_base ho0) hb); replace aa := mk0 (Kd.V_elder' (v_ aa) (Kd.R_base ho0) hb); replace ab := mk0 (Kd.N_elder' (nn_ ab) (Kd.R_base ho0) hb); replace ac := mk0 (u_ ac hb); replace ae := mk0 (u_ ae hb); replace ad := mk0 (u_ ad hb); replace af := mk0 (u_ af hb); replace ag := mk0 (u_ ag hb); replace ah := mk0 (u_ ah hb); replace HB := mk0 (bt_ (b_ HB) hb); have hv := b8; clear b8; (try clear hb); (try clear ho0)))
   go_meet
   case rel => exact ⟨_, (0), (0), (gU), (cm), sm_, sm_, H', ⟨by have := bs.out; have := bz.out; have := f1.out; first | omega | exact Nat.le_refl _⟩, ⟨by (with_reducible repeat (first | apply Ra_ | apply Rn_ | apply Rd_)); exact Kd.R_mono aO.out (fun _ hk => ⟨hk.1.1, ⟨hk.1.2.1, ⟨hk.2, hk.1.2.2.2⟩⟩⟩)⟩, ⟨by (with_reducible repeat (first | apply Ra_ | apply Rn_ | apply Rd_)); exact Kd.R_mono aX.out (fun _ hk => ⟨hk.1.1, ⟨hk.1.2.1, ⟨hk.2, hk.1.2.2.2⟩⟩⟩)⟩, ⟨by (with_reducible repeat (first | apply Ra_ | apply Rn_ | apply Rd_)); exact Kd.R_mono hv.out (fun _ hk => ⟨hk.1.1.1.1.1, ⟨hk.1.1.1.2, ⟨hk.1.1.2, hk.2⟩⟩⟩)⟩, ⟨by (with_reducible repeat (first | apply Ra_ | apply Rn_ | apply Rd_)); exact Kd.R_mono aT.out (fun _ hk => ⟨hk.1.1, ⟨hk.1.2.1, ⟨hk.1.2.2.1, hk.2⟩⟩⟩)⟩, ⟨by (with_reducible repeat (first | apply Kd.V_alloc | apply Kd.V_drewN | apply Kd.V_drew)); exact Kd.V_mono aa.out (fun _ hk => ⟨hk.1.1, ⟨hk.1.2.1, ⟨hk.1.2.2.1, ⟨hk.2, ⟨hk.1.2.2.2.2.1, ⟨hk.1.2.2.2.2.2.1, ⟨hk.1.2.2.2.2.2.2.1, ⟨hk.1.2.2.2.2.2.2.2.1, ⟨hk.1.2.2.2.2.2.2.2.2.1, ⟨hk.1.2.2.2.2.2.2.2.2.2.1, ⟨hk.1.2.2.2.2.2.2.2.2.2.2.1, hk.1.2.2.2.2.2.2.2.2.2.2.2⟩⟩⟩⟩⟩⟩⟩⟩⟩⟩⟩)⟩, ⟨by (with_reducible repeat (first | apply Kd.N_alloc | apply Kd.N_drewN | apply Kd.N_drew)); exact Kd.N_mono ab.out (fun _ hk => ⟨hk.1.1, ⟨hk.1.2.1, ⟨hk.1.2.2.1, ⟨hk.2, ⟨hk.1.2.2.2.2.1, ⟨hk.1.2.2.2.2.2.1, ⟨hk.1.2.2.2.2.2.2.1, ⟨hk.1.2.2.2.2.2.2.2.1, ⟨hk.1.2.2.2.2.2.2.2.2.1, ⟨hk.1.2.2.2.2.2.2.2.2.2.1, hk.1.2.2.2.2.2.2.2.2.2.2⟩⟩⟩⟩⟩⟩⟩⟩⟩⟩)⟩, ⟨h_ ac⟩, ⟨h_ ae⟩, ⟨h_ ad⟩, ⟨h_ af⟩, ⟨h_ ag⟩, ⟨h_ ah⟩, ⟨b_ HB⟩⟩
  clear HC163
  try clear dn
  try clear cz cA
  try clear cB cC ci cD cE cF cG cH cI cJ cK cL cM cj cN cO cP cQ cR cS cT cU
  try clear cV cW
  try clear cX cY ck cZ c0 c1 c2 c3 c4 c5 c6 c7 c8 cl c9 da db dc dd de df dg
  obtain ⟨kq, b7, bS, bj, bu, rfl, rfl, HA, wV, aO, aX, aP, aT, aa, ab, ac, ae, ad, af, ag, ah, HB⟩ := hcut
  cases kq with
  | zero => exact absurd HA.out (by simp [quorumlaw9_step.j4])
  | succ bM =>
  have H := HA.out
  clear HA
  simp only [quorumlaw9_step.j4] at H
  as_aux_lemma =>
  replace H := ob_ H
  obtain ⟨di, d0, H⟩ := H
  try dsimp only at H
  by_cases cn : di = b7
  rotate_left
  ·rw [if_neg cn] at H
   have gD := beq_eq_false_iff_ne.mpr cn
   have gE := bne_iff_ne.mpr cn
   simp only [Option.some.injEq, Prod.mk.injEq] at H
   obtain ⟨rfl, rfl⟩ := H
   try go_wp2
   replace aO := mk0 (Rd_ aO.out)
   replace aX := mk0 (Rd_ aX.out)
   replace aP := mk0 (Rd_ aP.out)
   replace aT := mk0 (Rd_ aT.out)
   replace aa := mk0 (Kd.V_drew aa.out)
   replace ab := mk0 (Kd.N_drew ab.out)
   replace ac := mk0 (bD_ ac.out)
   replace ae := mk0 (bD_ ae.out)
   replace ad := mk0 (bD_ ad.out)
   replace af := mk0 (bD_ af.out)
   replace ag := mk0 (bD_ ag.out)
   replace ah := mk0 (bD_ ah.out)
   replace HB := mk0 (b1_ HB.out)
   refine start_ (n := 28) (S := fun w' => w'.cell? ⟨ar, 0, none⟩ = some (.slice A0_0 l0_0.length c0_0)) (ds := []) (bt 28 0) (by kernel_rfl) rfl rfl (bk_ ac 0) (fun hHeld => ?_); refine with_tabW quorumlaw9_step.tab37 quorumlaw9_step.bits37 (fun HT_ HW_ => ?_)
   generalize wc.drew = pF at aO aX aP aT aa ab ac ae ad af ag ah HB hHeld ⊢
   refine pq_ HT_.out 1 178 (bt 28 2) (h := ?_)
   refine pq_ HT_.out 3 180 (bt 28 10) (h := ?_)
   refine t1 HT_.out HW_.out 0 177 (bt 28 11) rfl rfl (by kernel_rfl) (fun _ _ _ h => h) (by rfl) (by intro w' s0; go_simp; with_reducible rfl) hHeld (by simp only [z_]; rfl) ?_
   refine one_ (i := 2) (N := some 179) (bt 28 15) rfl rfl (one_of HT_.out (by kernel_rfl)) (by decide) (fun K hK => ?_)
   refine goes_ Try.func76 (by kernel_rfl) rfl #[.int .i64 bx] (by rfl) rfl rfl gs_ ?_
   with_reducible refine (quorumlaw9_num.calls bx di _ d0.out).mono ?_
   rintro e w' ⟨rfl, ⟨nd, rfl⟩⟩
   refine ⟨_, rfl, ?_⟩
   refine hK.out _ _ (bk_ ac 0) (fun hHeld => ?_)
   clear hK K
   refine norm_ (a' := ?_) ?_ ?_
   rotate_left
   ·show Act.put _ (some 179) _ = _
    simp only [z_]
    rfl
   refine pq_ HT_.out 4 181 (bt 28 31) (h := ?_)
   refine pq_ HT_.out 5 182 (bt 28 63) (h := ?_)
   refine uq_ HT_.out 6 183 (bt 28 127) (h := ?_)
   refine uq_ HT_.out 7 184 (bt 28 255) (h := ?_)
   refine uq_ HT_.out 8 185 (bt 28 511) (h := ?_)
   refine pq_ HT_.out 9 186 (bt 28 1023) (h := ?_)
   refine pq_ HT_.out 10 187 (bt 28 2047) (h := ?_)
   refine uq_ HT_.out 11 188 (bt 28 4095) (h := ?_)
   refine uq_ HT_.out 12 189 (bt 28 8191) (h := ?_)
   refine uq_ HT_.out 13 190 (bt 28 16383) (h := ?_)
   refine uq_ HT_.out 14 191 (bt 28 32767) (h := ?_)
   refine pq_ HT_.out 15 192 (bt 28 65535) (h := ?_)
   refine pq_ HT_.out 16 193 (bt 28 131071) (h := ?_)
   refine uq_ HT_.out 17 194 (bt 28 262143) (h := ?_)
   refine uq_ HT_.out 18 195 (bt 28 524287) (h := ?_)
   refine uq_ HT_.out 19 196 (bt 28 1048575) (h := ?_)
   refine pq_ HT_.out 20 197 (bt 28 2097151) (h := ?_)
   refine pq_ HT_.out 21 198 (bt 28 4194303) (h := ?_)
   refine uq_ HT_.out 22 199 (bt 28 8388607) (h := ?_)
   refine uq_ HT_.out 23 200 (bt 28 16777215) (h := ?_)
   refine uq_ HT_.out 24 201 (bt 28 33554431) (h := ?_)
   refine pq_ HT_.out 25 202 (bt 28 67108863) (h := ?_)
   refine one_ (i := 26) (N := none) (bt 28 134217727) rfl rfl (one_of HT_.out (by kernel_rfl)) (by decide) (fun K hK => ?_)
   have hs253 : pF.cell? ⟨ai, 0, none⟩ = some (.slice none 0 0) := bk_ ad 0
   have hfs253 := blk_frozen ad.out 0
   have mp := an.out
   have mq := ap.out
   have mr := ay.out
   have ms := aH.out
   have mt := aL.out
   have mu := aC.out
   have mv := aq.out
   have mw := aD.out
   have mx := aw.out
   have my := aE.out
   refine skip_ (w1 := ?_) (by rfl) rfl ?_ ?_
   rotate_left
   ·go_simp
    rfl
   refine hK.out _ _ (cf_ an.out hHeld) (fun hHeld => ?_)
   clear hK K
   refine pq_ HT_.out 27 5 (bt 28 268435455) (h := ?_)
   refine done_ (done_of HT_.out (by kernel_rfl)) ?_
   try go_wp2
   refine bodyPost_ret (results_ct rfl _ _ ai 47 #[.slice A0_0 l0_0.length c0_0] (0, 0) _ rfl (pu_ (cs := #[.slice none 0 0]) (h_ ad)) Try.underlying47 rfl (by kernel_rfl)) rfl ?_
   exact ⟨_, sa_, by (with_reducible repeat (first | apply Kd.V_alloc | apply Kd.V_drewN | apply Kd.V_drew)); exact Kd.V_mono (Kd.V_far (p := ⟨ai, 0, none⟩) (Kd.V_mono aa.out (fun k_ hk => (⟨hk, hk.2.2.2.2.2.2.2.2.1⟩ : _ ∧ k_ ≠ ai))) (fun _ hk => hk.2) (.slice A0_0 l0_0.length c0_0)) (fun _ hk => hk.1.1), b_ HB⟩
  rw [if_pos cn] at H
  have gD := beq_iff_eq.mpr cn
  have gE := bne_eq_false_iff_eq.mpr cn
  clear cn
  replace H := ob_ H
  obtain ⟨pG, en, H⟩ := H
  try dsimp only at H
  by_cases eo : pG = true
  rotate_left
  ·replace eo := Bool.eq_false_iff.mpr eo
   subst eo
   rw [if_neg nf_] at H
   simp only [Option.some.injEq, Prod.mk.injEq] at H
   obtain ⟨rfl, rfl⟩ := H
   try go_wp2
   replace aO := mk0 (Rd_ aO.out)
   replace aX := mk0 (Rd_ aX.out)
   replace aP := mk0 (Rd_ aP.out)
   replace aT := mk0 (Rd_ aT.out)
   replace aa := mk0 (Kd.V_drew aa.out)
   replace ab := mk0 (Kd.N_drew ab.out)
   replace ac := mk0 (bD_ ac.out)
   replace ae := mk0 (bD_ ae.out)
   replace ad := mk0 (bD_ ad.out)
   replace af := mk0 (bD_ af.out)
   replace ag := mk0 (bD_ ag.out)
   replace ah := mk0 (bD_ ah.out)
   replace HB := mk0 (b1_ HB.out)
   refine start_ (n := 28) (S := fun w' => w'.cell? ⟨ar, 0, none⟩ = some (.slice A0_0 l0_0.length c0_0)) (ds := []) (bt 28 0) (by kernel_rfl) rfl rfl (bk_ ac 0) (fun hHeld => ?_); refine with_tabW quorumlaw9_step.tab37 quorumlaw9_step.bits37 (fun HT_ HW_ => ?_)
   generalize wc.drew = pH at aO aX aP aT aa ab ac ae ad af ag ah HB hHeld ⊢
   refine pq_ HT_.out 1 178 (bt 28 2) (h := ?_)
   refine pq_ HT_.out 3 180 (bt 28 10) (h := ?_)
   refine t1 HT_.out HW_.out 0 177 (bt 28 11) rfl rfl (by kernel_rfl) (fun _ _ _ h => h) (by rfl) (by intro w' s0; go_simp; with_reducible rfl) hHeld (by simp only [z_]; rfl) ?_
   refine one_ (i := 2) (N := some 179) (bt 28 15) rfl rfl (one_of HT_.out (by kernel_rfl)) (by decide) (fun K hK => ?_)
   refine goes_ Try.func76 (by kernel_rfl) rfl #[.int .i64 bx] (by rfl) rfl rfl gs_ ?_
   with_reducible refine (quorumlaw9_num.calls bx di _ d0.out).mono ?_
   rintro e w' ⟨rfl, ⟨nd, rfl⟩⟩
   refine ⟨_, rfl, ?_⟩
   obtain ⟨hw, hx, f2⟩ := Kd.R_slice aO.out
   (first | subst f2 | (injection f2 with f1_ f2_ f3_; have f4_ := f1_.symm; have f5_ := f3_.symm; clear f1_ f2_ f3_; subst f4_; subst f5_))
   obtain ⟨hy, hz, f3⟩ := Kd.R_slice aP.out
   (first | subst f3 | (injection f3 with f1_ f2_ f3_; have f4_ := f1_.symm; have f5_ := f3_.symm; clear f1_ f2_ f3_; subst f4_; subst f5_))
   refine hK.out _ _ (bk_ ac 0) (fun hHeld => ?_)
   clear hK K
   refine norm_ (a' := ?_) ?_ ?_
   rotate_left
   ·show Act.put _ (some 179) _ = _
    simp only [z_]
    rfl
   refine pq_ HT_.out 4 181 (bt 28 31) (h := ?_)
   refine pq_ HT_.out 5 182 (bt 28 63) (h := ?_)
   refine pq_ HT_.out 6 183 (bt 28 127) (h := ?_)
   refine pq_ HT_.out 7 184 (bt 28 255) (h := ?_)
   refine one_ (i := 8) (N := some 185) (bt 28 511) rfl rfl (one_of HT_.out (by kernel_rfl)) (by decide) (fun K hK => ?_)
   refine goes_ Try.func83 (by kernel_rfl) rfl #[.slice hw bw.length hx, .slice hy bj.length hz] (by rfl) rfl rfl gs_ ?_
   with_reducible refine (quorumref0_EqRows.calls bM _ _ bw _ _ bj false _ ?side1 ?side2 ?side3 ?side4 en.out).mono ?_
   (case side1 => exact cr_ aO)
   (case side2 => exact (Kd.R_reads' aO.out).2.1)
   (case side3 => exact cr_ aP)
   (case side4 => exact (Kd.R_reads' aP.out).2.1)
   rintro e w' ⟨rfl, ⟨nd, rfl⟩⟩
   refine ⟨_, rfl, ?_⟩
   refine hK.out _ _ (bk_ ac 0) (fun hHeld => ?_)
   clear hK K
   refine norm_ (a' := ?_) ?_ ?_
   rotate_left
   ·show Act.put _ (some 185) _ = _
    simp only [z_]
    rfl
   refine pq_ HT_.out 9 186 (bt 28 1023) (h := ?_)
   refine pq_ HT_.out 10 187 (bt 28 2047) (h := ?_)
   refine uq_ HT_.out 11 188 (bt 28 4095) (h := ?_)
   refine uq_ HT_.out 12 189 (bt 28 8191) (h := ?_)
   refine uq_ HT_.out 13 190 (bt 28 16383) (h := ?_)
   refine uq_ HT_.out 14 191 (bt 28 32767) (h := ?_)
   refine pq_ HT_.out 15 192 (bt 28 65535) (h := ?_)
   refine pq_ HT_.out 16 193 (bt 28 131071) (h := ?_)
   refine uq_ HT_.out 17 194 (bt 28 262143) (h := ?_)
   refine uq_ HT_.out 18 195 (bt 28 524287) (h := ?_)
   refine uq_ HT_.out 19 196 (bt 28 1048575) (h := ?_)
   refine pq_ HT_.out 20 197 (bt 28 2097151) (h := ?_)
   refine pq_ HT_.out 21 198 (bt 28 4194303) (h := ?_)
   refine uq_ HT_.out 22 199 (bt 28 8388607) (h := ?_)
   refine uq_ HT_.out 23 200 (bt 28 16777215) (h := ?_)
   refine uq_ HT_.out 24 201 (bt 28 33554431) (h := ?_)
   refine pq_ HT_.out 25 202 (bt 28 67108863) (h := ?_)
   refine one_ (i := 26) (N := none) (bt 28 134217727) rfl rfl (one_of HT_.out (by kernel_rfl)) (by decide) (fun K hK => ?_)
   have hs251 : pH.cell? ⟨ai, 0, none⟩ = some (.slice none 0 0) := bk_ ad 0
   have hfs251 := blk_frozen ad.out 0
   have mz := an.out
   have mA := ap.out
   have mB := ay.out
   have mC := aH.out
   have mD := aL.out
   have mE := aC.out
   have mF := aq.out
   have mG := aD.out
   have mH := aw.out
   have mI := aE.out
   refine skip_ (w1 := ?_) (by rfl) rfl ?_ ?_
   rotate_left
   ·go_simp
    rfl
   refine hK.out _ _ (cf_ an.out hHeld) (fun hHeld => ?_)
   clear hK K
   refine pq_ HT_.out 27 5 (bt 28 268435455) (h := ?_)
   refine done_ (done_of HT_.out (by kernel_rfl)) ?_
   try go_wp2
   refine bodyPost_ret (results_ct rfl _ _ ai 47 #[.slice A0_0 l0_0.length c0_0] (0, 0) _ rfl (pu_ (cs := #[.slice none 0 0]) (h_ ad)) Try.underlying47 rfl (by kernel_rfl)) rfl ?_
   exact ⟨_, sa_, by (with_reducible repeat (first | apply Kd.V_alloc | apply Kd.V_drewN | apply Kd.V_drew)); exact Kd.V_mono (Kd.V_far (p := ⟨ai, 0, none⟩) (Kd.V_mono aa.out (fun k_ hk => (⟨hk, hk.2.2.2.2.2.2.2.2.1⟩ : _ ∧ k_ ≠ ai))) (fun _ hk => hk.2) (.slice A0_0 l0_0.length c0_0)) (fun _ hk => hk.1.1), b_ HB⟩
  subst eo
  rw [if_pos rfl] at H
  replace H := ob_ H
  obtain ⟨ep, f4, H⟩ := H
  try dsimp only at H
  by_cases co : ep = bS
  rotate_left
  ·rw [if_neg co] at H
   have gF := beq_eq_false_iff_ne.mpr co
   have gG := bne_iff_ne.mpr co
   simp only [Option.some.injEq, Prod.mk.injEq] at H
   obtain ⟨rfl, rfl⟩ := H
   try go_wp2
   replace aO := mk0 (Rd_ aO.out)
   replace aX := mk0 (Rd_ aX.out)
   replace aP := mk0 (Rd_ aP.out)
   replace aT := mk0 (Rd_ aT.out)
   replace aa := mk0 (Kd.V_drew aa.out)
   replace ab := mk0 (Kd.N_drew ab.out)
   replace ac := mk0 (bD_ ac.out)
   replace ae := mk0 (bD_ ae.out)
   replace ad := mk0 (bD_ ad.out)
   replace af := mk0 (bD_ af.out)
   replace ag := mk0 (bD_ ag.out)
   replace ah := mk0 (bD_ ah.out)
   replace HB := mk0 (b1_ HB.out)
   refine start_ (n := 28) (S := fun w' => w'.cell? ⟨ar, 0, none⟩ = some (.slice A0_0 l0_0.length c0_0)) (ds := []) (bt 28 0) (by kernel_rfl) rfl rfl (bk_ ac 0) (fun hHeld => ?_); refine with_tabW quorumlaw9_step.tab37 quorumlaw9_step.bits37 (fun HT_ HW_ => ?_)
   generalize wc.drew = pI at aO aX aP aT aa ab ac ae ad af ag ah HB hHeld ⊢
   refine pq_ HT_.out 1 178 (bt 28 2) (h := ?_)
   refine pq_ HT_.out 3 180 (bt 28 10) (h := ?_)
   refine t1 HT_.out HW_.out 0 177 (bt 28 11) rfl rfl (by kernel_rfl) (fun _ _ _ h => h) (by rfl) (by intro w' s0; go_simp; with_reducible rfl) hHeld (by simp only [z_]; rfl) ?_
   refine one_ (i := 2) (N := some 179) (bt 28 15) rfl rfl (one_of HT_.out (by kernel_rfl)) (by decide) (fun K hK => ?_)
   refine goes_ Try.func76 (by kernel_rfl) rfl #[.int .i64 bx] (by rfl) rfl rfl gs_ ?_
   with_reducible refine (quorumlaw9_num.calls bx di _ d0.out).mono ?_
   rintro e w' ⟨rfl, ⟨nd, rfl⟩⟩
   refine ⟨_, rfl, ?_⟩
   obtain ⟨hA, hC, f5⟩ := Kd.R_slice aO.out
   (first | subst f5 | (injection f5 with f1_ f2_ f3_; have f4_ := f1_.symm; have f5_ := f3_.symm; clear f1_ f2_ f3_; subst f4_; subst f5_))
   obtain ⟨hD, hE, f6⟩ := Kd.R_slice aP.out
   (first | subst f6 | (injection f6 with f1_ f2_ f3_; have f4_ := f1_.symm; have f5_ := f3_.symm; clear f1_ f2_ f3_; subst f4_; subst f5_))
   refine hK.out _ _ (bk_ ac 0) (fun hHeld => ?_)
   clear hK K
   refine norm_ (a' := ?_) ?_ ?_
   rotate_left
   ·show Act.put _ (some 179) _ = _
    simp only [z_]
    rfl
   refine pq_ HT_.out 4 181 (bt 28 31) (h := ?_)
   refine pq_ HT_.out 5 182 (bt 28 63) (h := ?_)
   refine pq_ HT_.out 6 183 (bt 28 127) (h := ?_)
   refine pq_ HT_.out 7 184 (bt 28 255) (h := ?_)
   refine one_ (i := 8) (N := some 185) (bt 28 511) rfl rfl (one_of HT_.out (by kernel_rfl)) (by decide) (fun K hK => ?_)
   refine goes_ Try.func83 (by kernel_rfl) rfl #[.slice hA bw.length hC, .slice hD bj.length hE] (by rfl) rfl rfl gs_ ?_
   with_reducible refine (quorumref0_EqRows.calls bM _ _ bw _ _ bj true _ ?side1 ?side2 ?side3 ?side4 en.out).mono ?_
   (case side1 => exact cr_ aO)
   (case side2 => exact (Kd.R_reads' aO.out).2.1)
   (case side3 => exact cr_ aP)
   (case side4 => exact (Kd.R_reads' aP.out).2.1)
   rintro e w' ⟨rfl, ⟨nd, rfl⟩⟩
   refine ⟨_, rfl, ?_⟩
   refine hK.out _ _ (bk_ ac 0) (fun hHeld => ?_)
   clear hK K
   refine norm_ (a' := ?_) ?_ ?_
   rotate_left
   ·show Act.put _ (some 185) _ = _
    simp only [z_]
    rfl
   refine pq_ HT_.out 9 186 (bt 28 1023) (h := ?_)
   refine pq_ HT_.out 10 187 (bt 28 2047) (h := ?_)
   refine pq_ HT_.out 11 188 (bt 28 4095) (h := ?_)
   refine pq_ HT_.out 13 190 (bt 28 12287) (h := ?_)
   refine one_ (i := 12) (N := some 189) (bt 28 16383) rfl rfl (one_of HT_.out (by kernel_rfl)) (by decide) (fun K hK => ?_)
   refine goes_ Try.func76 (by kernel_rfl) rfl #[.int .i64 bR] (by rfl) rfl rfl gs_ ?_
   with_reducible refine (quorumlaw9_num.calls bR ep _ f4.out).mono ?_
   rintro e w' ⟨rfl, ⟨nd, rfl⟩⟩
   refine ⟨_, rfl, ?_⟩
   refine hK.out _ _ (bk_ ac 0) (fun hHeld => ?_)
   clear hK K
   refine norm_ (a' := ?_) ?_ ?_
   rotate_left
   ·show Act.put _ (some 189) _ = _
    simp only [z_]
    rfl
   refine pq_ HT_.out 14 191 (bt 28 32767) (h := ?_)
   refine pq_ HT_.out 15 192 (bt 28 65535) (h := ?_)
   refine pq_ HT_.out 16 193 (bt 28 131071) (h := ?_)
   refine uq_ HT_.out 17 194 (bt 28 262143) (h := ?_)
   refine uq_ HT_.out 18 195 (bt 28 524287) (h := ?_)
   refine uq_ HT_.out 19 196 (bt 28 1048575) (h := ?_)
   refine pq_ HT_.out 20 197 (bt 28 2097151) (h := ?_)
   refine pq_ HT_.out 21 198 (bt 28 4194303) (h := ?_)
   refine uq_ HT_.out 22 199 (bt 28 8388607) (h := ?_)
   refine uq_ HT_.out 23 200 (bt 28 16777215) (h := ?_)
   refine uq_ HT_.out 24 201 (bt 28 33554431) (h := ?_)
   refine pq_ HT_.out 25 202 (bt 28 67108863) (h := ?_)
   refine one_ (i := 26) (N := none) (bt 28 134217727) rfl rfl (one_of HT_.out (by kernel_rfl)) (by decide) (fun K hK => ?_)
   have hs247 : pI.cell? ⟨ai, 0, none⟩ = some (.slice none 0 0) := bk_ ad 0
   have hfs247 := blk_frozen ad.out 0
   have mJ := an.out
   have mK := ap.out
   have mL := ay.out
   have mM := aH.out
   have mN := aL.out
   have mO := aC.out
   have mP := aq.out
   have mQ := aD.out
   have mR := aw.out
   have mS := aE.out
   refine skip_ (w1 := ?_) (by rfl) rfl ?_ ?_
   rotate_left
   ·go_simp
    rfl
   refine hK.out _ _ (cf_ an.out hHeld) (fun hHeld => ?_)
   clear hK K
   refine pq_ HT_.out 27 5 (bt 28 268435455) (h := ?_)
   refine done_ (done_of HT_.out (by kernel_rfl)) ?_
   try go_wp2
   refine bodyPost_ret (results_ct rfl _ _ ai 47 #[.slice A0_0 l0_0.length c0_0] (0, 0) _ rfl (pu_ (cs := #[.slice none 0 0]) (h_ ad)) Try.underlying47 rfl (by kernel_rfl)) rfl ?_
   exact ⟨_, sa_, by (with_reducible repeat (first | apply Kd.V_alloc | apply Kd.V_drewN | apply Kd.V_drew)); exact Kd.V_mono (Kd.V_far (p := ⟨ai, 0, none⟩) (Kd.V_mono aa.out (fun k_ hk => (⟨hk, hk.2.2.2.2.2.2.2.2.1⟩ : _ ∧ k_ ≠ ai))) (fun _ hk => hk.2) (.slice A0_0 l0_0.length c0_0)) (fun _ hk => hk.1.1), b_ HB⟩
  rw [if_pos co] at H
  have gF := beq_iff_eq.mpr co
  have gG := bne_eq_false_iff_eq.mpr co
  clear co
  replace H := ob_ H
  obtain ⟨pJ, gV, H⟩ := H
  try dsimp only at H
  by_cases er : pJ = true
  rotate_left
  ·replace er := Bool.eq_false_iff.mpr er
   subst er
   rw [if_neg nf_] at H
   simp only [Option.some.injEq, Prod.mk.injEq] at H
   obtain ⟨rfl, rfl⟩ := H
   try go_wp2
   replace aO := mk0 (Rd_ aO.out)
   replace aX := mk0 (Rd_ aX.out)
   replace aP := mk0 (Rd_ aP.out)
   replace aT := mk0 (Rd_ aT.out)
   replace aa := mk0 (Kd.V_drew aa.out)
   replace ab := mk0 (Kd.N_drew ab.out)
   replace ac := mk0 (bD_ ac.out)
   replace ae := mk0 (bD_ ae.out)
   replace ad := mk0 (bD_ ad.out)
   replace af := mk0 (bD_ af.out)
   replace ag := mk0 (bD_ ag.out)
   replace ah := mk0 (bD_ ah.out)
   replace HB := mk0 (b1_ HB.out)
   refine start_ (n := 28) (S := fun w' => w'.cell? ⟨ar, 0, none⟩ = some (.slice A0_0 l0_0.length c0_0)) (ds := []) (bt 28 0) (by kernel_rfl) rfl rfl (bk_ ac 0) (fun hHeld => ?_); refine with_tabW quorumlaw9_step.tab37 quorumlaw9_step.bits37 (fun HT_ HW_ => ?_)
   generalize wc.drew = pK at aO aX aP aT aa ab ac ae ad af ag ah HB hHeld ⊢
   refine pq_ HT_.out 1 178 (bt 28 2) (h := ?_)
   refine pq_ HT_.out 3 180 (bt 28 10) (h := ?_)
   refine t1 HT_.out HW_.out 0 177 (bt 28 11) rfl rfl (by kernel_rfl) (fun _ _ _ h => h) (by rfl) (by intro w' s0; go_simp; with_reducible rfl) hHeld (by simp only [z_]; rfl) ?_
   refine one_ (i := 2) (N := some 179) (bt 28 15) rfl rfl (one_of HT_.out (by kernel_rfl)) (by decide) (fun K hK => ?_)
   refine goes_ Try.func76 (by kernel_rfl) rfl #[.int .i64 bx] (by rfl) rfl rfl gs_ ?_
   with_reducible refine (quorumlaw9_num.calls bx di _ d0.out).mono ?_
   rintro e w' ⟨rfl, ⟨nd, rfl⟩⟩
   refine ⟨_, rfl, ?_⟩
   obtain ⟨hF, hG, f7⟩ := Kd.R_slice aO.out
   (first | subst f7 | (injection f7 with f1_ f2_ f3_; have f4_ := f1_.symm; have f5_ := f3_.symm; clear f1_ f2_ f3_; subst f4_; subst f5_))
   obtain ⟨hH, hI, f8⟩ := Kd.R_slice aP.out
   (first | subst f8 | (injection f8 with f1_ f2_ f3_; have f4_ := f1_.symm; have f5_ := f3_.symm; clear f1_ f2_ f3_; subst f4_; subst f5_))
   refine hK.out _ _ (bk_ ac 0) (fun hHeld => ?_)
   clear hK K
   refine norm_ (a' := ?_) ?_ ?_
   rotate_left
   ·show Act.put _ (some 179) _ = _
    simp only [z_]
    rfl
   refine pq_ HT_.out 4 181 (bt 28 31) (h := ?_)
   refine pq_ HT_.out 5 182 (bt 28 63) (h := ?_)
   refine pq_ HT_.out 6 183 (bt 28 127) (h := ?_)
   refine pq_ HT_.out 7 184 (bt 28 255) (h := ?_)
   refine one_ (i := 8) (N := some 185) (bt 28 511) rfl rfl (one_of HT_.out (by kernel_rfl)) (by decide) (fun K hK => ?_)
   refine goes_ Try.func83 (by kernel_rfl) rfl #[.slice hF bw.length hG, .slice hH bj.length hI] (by rfl) rfl rfl gs_ ?_
   with_reducible refine (quorumref0_EqRows.calls bM _ _ bw _ _ bj true _ ?side1 ?side2 ?side3 ?side4 en.out).mono ?_
   (case side1 => exact cr_ aO)
   (case side2 => exact (Kd.R_reads' aO.out).2.1)
   (case side3 => exact cr_ aP)
   (case side4 => exact (Kd.R_reads' aP.out).2.1)
   rintro e w' ⟨rfl, ⟨nd, rfl⟩⟩
   refine ⟨_, rfl, ?_⟩
   refine hK.out _ _ (bk_ ac 0) (fun hHeld => ?_)
   clear hK K
   refine norm_ (a' := ?_) ?_ ?_
   rotate_left
   ·show Act.put _ (some 185) _ = _
    simp only [z_]
    rfl
   refine pq_ HT_.out 9 186 (bt 28 1023) (h := ?_)
   refine pq_ HT_.out 10 187 (bt 28 2047) (h := ?_)
   refine pq_ HT_.out 11 188 (bt 28 4095) (h := ?_)
   refine pq_ HT_.out 13 190 (bt 28 12287) (h := ?_)
   refine one_ (i := 12) (N := some 189) (bt 28 16383) rfl rfl (one_of HT_.out (by kernel_rfl)) (by decide) (fun K hK => ?_)
   refine goes_ Try.func76 (by kernel_rfl) rfl #[.int .i64 bR] (by rfl) rfl rfl gs_ ?_
   with_reducible refine (quorumlaw9_num.calls bR ep _ f4.out).mono ?_
   rintro e w' ⟨rfl, ⟨nd, rfl⟩⟩
   refine ⟨_, rfl, ?_⟩
   obtain ⟨hJ, hL, f9⟩ := Kd.R_slice aX.out
   (first | subst f9 | (injection f9 with f1_ f2_ f3_; have f4_ := f1_.symm; have f5_ := f3_.symm; clear f1_ f2_ f3_; subst f4_; subst f5_))
   obtain ⟨hM, hN, ga⟩ := Kd.R_slice aT.out
   (first | subst ga | (injection ga with f1_ f2_ f3_; have f4_ := f1_.symm; have f5_ := f3_.symm; clear f1_ f2_ f3_; subst f4_; subst f5_))
   refine hK.out _ _ (bk_ ac 0) (fun hHeld => ?_)
   clear hK K
   refine norm_ (a' := ?_) ?_ ?_
   rotate_left
   ·show Act.put _ (some 189) _ = _
    simp only [z_]
    rfl
   refine pq_ HT_.out 14 191 (bt 28 32767) (h := ?_)
   refine pq_ HT_.out 15 192 (bt 28 65535) (h := ?_)
   refine pq_ HT_.out 16 193 (bt 28 131071) (h := ?_)
   refine pq_ HT_.out 17 194 (bt 28 262143) (h := ?_)
   refine pq_ HT_.out 18 195 (bt 28 524287) (h := ?_)
   refine one_ (i := 19) (N := some 196) (bt 28 1048575) rfl rfl (one_of HT_.out (by kernel_rfl)) (by decide) (fun K hK => ?_)
   refine goes_ Try.func83 (by kernel_rfl) rfl #[.slice hJ bQ.length hL, .slice hM bu.length hN] (by rfl) rfl rfl gs_ ?_
   with_reducible refine (quorumref0_EqRows.calls bM _ _ bQ _ _ bu false _ ?side1 ?side2 ?side3 ?side4 gV.out).mono ?_
   (case side1 => exact cr_ aX)
   (case side2 => exact (Kd.R_reads' aX.out).2.1)
   (case side3 => exact cr_ aT)
   (case side4 => exact (Kd.R_reads' aT.out).2.1)
   rintro e w' ⟨rfl, ⟨nd, rfl⟩⟩
   refine ⟨_, rfl, ?_⟩
   refine hK.out _ _ (bk_ ac 0) (fun hHeld => ?_)
   clear hK K
   refine norm_ (a' := ?_) ?_ ?_
   rotate_left
   ·show Act.put _ (some 196) _ = _
    simp only [z_]
    rfl
   refine pq_ HT_.out 20 197 (bt 28 2097151) (h := ?_)
   refine pq_ HT_.out 21 198 (bt 28 4194303) (h := ?_)
   refine uq_ HT_.out 22 199 (bt 28 8388607) (h := ?_)
   refine uq_ HT_.out 23 200 (bt 28 16777215) (h := ?_)
   refine uq_ HT_.out 24 201 (bt 28 33554431) (h := ?_)
   refine pq_ HT_.out 25 202 (bt 28 67108863) (h := ?_)
   refine one_ (i := 26) (N := none) (bt 28 134217727) rfl rfl (one_of HT_.out (by kernel_rfl)) (by decide) (fun K hK => ?_)
   have hs243 : pK.cell? ⟨ai, 0, none⟩ = some (.slice none 0 0) := bk_ ad 0
   have hfs243 := blk_frozen ad.out 0
   have mT := an.out
   have mU := ap.out
   have mV := ay.out
   have mW := aH.out
   have mX := aL.out
   have mY := aC.out
   have mZ := aq.out
   have m0 := aD.out
   have m1 := aw.out
   have m2 := aE.out
   refine skip_ (w1 := ?_) (by rfl) rfl ?_ ?_
   rotate_left
   ·go_simp
    rfl
   refine hK.out _ _ (cf_ an.out hHeld) (fun hHeld => ?_)
   clear hK K
   refine pq_ HT_.out 27 5 (bt 28 268435455) (h := ?_)
   refine done_ (done_of HT_.out (by kernel_rfl)) ?_
   try go_wp2
   refine bodyPost_ret (results_ct rfl _ _ ai 47 #[.slice A0_0 l0_0.length c0_0] (0, 0) _ rfl (pu_ (cs := #[.slice none 0 0]) (h_ ad)) Try.underlying47 rfl (by kernel_rfl)) rfl ?_
   exact ⟨_, sa_, by (with_reducible repeat (first | apply Kd.V_alloc | apply Kd.V_drewN | apply Kd.V_drew)); exact Kd.V_mono (Kd.V_far (p := ⟨ai, 0, none⟩) (Kd.V_mono aa.out (fun k_ hk => (⟨hk, hk.2.2.2.2.2.2.2.2.1⟩ : _ ∧ k_ ≠ ai))) (fun _ hk => hk.2) (.slice A0_0 l0_0.length c0_0)) (fun _ hk => hk.1.1), b_ HB⟩
  subst er
  rw [if_pos rfl] at H
  replace H := ob_ H
  obtain ⟨pL, pM, H⟩ := H
  try dsimp only at H
  simp only [Option.some.injEq, Prod.mk.injEq] at H
  obtain ⟨rfl, rfl⟩ := H
  try go_wp2
  replace aO := mk0 (Rd_ aO.out)
  replace aX := mk0 (Rd_ aX.out)
  replace aP := mk0 (Rd_ aP.out)
  replace aT := mk0 (Rd_ aT.out)
  replace aa := mk0 (Kd.V_drew aa.out)
  replace ab := mk0 (Kd.N_drew ab.out)
  replace ac := mk0 (bD_ ac.out)
  replace ae := mk0 (bD_ ae.out)
  replace ad := mk0 (bD_ ad.out)
  replace af := mk0 (bD_ af.out)
  replace ag := mk0 (bD_ ag.out)
  replace ah := mk0 (bD_ ah.out)
  replace HB := mk0 (b1_ HB.out)
  refine start_ (n := 28) (S := fun w' => w'.cell? ⟨ar, 0, none⟩ = some (.slice A0_0 l0_0.length c0_0) ∧ w'.cell? ⟨au, 0, none⟩ = some (.slice aA am.length aB)) (ds := []) (bt 28 0) (by kernel_rfl) rfl rfl ⟨bk_ ac 0, bk_ af 0⟩ (fun hHeld => ?_); refine with_tabW quorumlaw9_step.tab37 quorumlaw9_step.bits37 (fun HT_ HW_ => ?_)
  generalize wc.drew = xC at aO aX aP aT aa ab ac ae ad af ag ah HB hHeld ⊢
  refine pq_ HT_.out 1 178 (bt 28 2) (h := ?_)
  refine pq_ HT_.out 3 180 (bt 28 10) (h := ?_)
  refine tq2_ HT_.out HW_.out 0 177 (bt 28 11) hHeld (h := ?_)
  refine one_ (i := 2) (N := some 179) (bt 28 15) rfl rfl (one_of HT_.out (by kernel_rfl)) (by decide) (fun K hK => ?_)
  refine goes_ Try.func76 (by kernel_rfl) rfl #[.int .i64 bx] (by rfl) rfl rfl gs_ ?_
  with_reducible refine (quorumlaw9_num.calls bx di _ d0.out).mono ?_
  rintro e w' ⟨rfl, ⟨nd, rfl⟩⟩
  refine ⟨_, rfl, ?_⟩
  obtain ⟨hO, hP, gb⟩ := Kd.R_slice aO.out
  (first | subst gb | (injection gb with f1_ f2_ f3_; have f4_ := f1_.symm; have f5_ := f3_.symm; clear f1_ f2_ f3_; subst f4_; subst f5_))
  obtain ⟨hQ, hR, gc⟩ := Kd.R_slice aP.out
  (first | subst gc | (injection gc with f1_ f2_ f3_; have f4_ := f1_.symm; have f5_ := f3_.symm; clear f1_ f2_ f3_; subst f4_; subst f5_))
  refine hK.out _ _ ⟨bk_ ac 0, bk_ af 0⟩ (fun hHeld => ?_)
  clear hK K
  refine norm_ (a' := ?_) ?_ ?_
  rotate_left
  ·show Act.put _ (some 179) _ = _
   simp only [z_]
   rfl
  refine pq_ HT_.out 4 181 (bt 28 31) (h := ?_)
  refine pq_ HT_.out 5 182 (bt 28 63) (h := ?_)
  refine pq_ HT_.out 6 183 (bt 28 127) (h := ?_)
  refine pq_ HT_.out 7 184 (bt 28 255) (h := ?_)
  refine one_ (i := 8) (N := some 185) (bt 28 511) rfl rfl (one_of HT_.out (by kernel_rfl)) (by decide) (fun K hK => ?_)
  refine goes_ Try.func83 (by kernel_rfl) rfl #[.slice hO bw.length hP, .slice hQ bj.length hR] (by rfl) rfl rfl gs_ ?_
  with_reducible refine (quorumref0_EqRows.calls bM _ _ bw _ _ bj true _ ?side1 ?side2 ?side3 ?side4 en.out).mono ?_
  (case side1 => exact cr_ aO)
  (case side2 => exact (Kd.R_reads' aO.out).2.1)
  (case side3 => exact cr_ aP)
  (case side4 => exact (Kd.R_reads' aP.out).2.1)
  rintro e w' ⟨rfl, ⟨nd, rfl⟩⟩
  refine ⟨_, rfl, ?_⟩
  refine hK.out _ _ ⟨bk_ ac 0, bk_ af 0⟩ (fun hHeld => ?_)
  clear hK K
  refine norm_ (a' := ?_) ?_ ?_
  rotate_left
  ·show Act.put _ (some 185) _ = _
   simp only [z_]
   rfl
  refine pq_ HT_.out 9 186 (bt 28 1023) (h := ?_)
  refine pq_ HT_.out 10 187 (bt 28 2047) (h := ?_)
  refine pq_ HT_.out 11 188 (bt 28 4095) (h := ?_)
  refine pq_ HT_.out 13 190 (bt 28 12287) (h := ?_)
  refine one_ (i := 12) (N := some 189) (bt 28 16383) rfl rfl (one_of HT_.out (by kernel_rfl)) (by decide) (fun K hK => ?_)
  refine goes_ Try.func76 (by kernel_rfl) rfl #[.int .i64 bR] (by rfl) rfl rfl gs_ ?_
  with_reducible refine (quorumlaw9_num.calls bR ep _ f4.out).mono ?_
  rintro e w' ⟨rfl, ⟨nd, rfl⟩⟩
  refine ⟨_, rfl, ?_⟩
  obtain ⟨hS, hT, gd⟩ := Kd.R_slice aX.out
  (first | subst gd | (injection gd with f1_ f2_ f3_; have f4_ := f1_.symm; have f5_ := f3_.symm; clear f1_ f2_ f3_; subst f4_; subst f5_))
  obtain ⟨hU, hV, gf⟩ := Kd.R_slice aT.out
  (first | subst gf | (injection gf with f1_ f2_ f3_; have f4_ := f1_.symm; have f5_ := f3_.symm; clear f1_ f2_ f3_; subst f4_; subst f5_))
  refine hK.out _ _ ⟨bk_ ac 0, bk_ af 0⟩ (fun hHeld => ?_)
  clear hK K
  refine norm_ (a' := ?_) ?_ ?_
  rotate_left
  ·show Act.put _ (some 189) _ = _
   simp only [z_]
   rfl
  refine pq_ HT_.out 14 191 (bt 28 32767) (h := ?_)
  refine pq_ HT_.out 15 192 (bt 28 65535) (h := ?_)
  refine pq_ HT_.out 16 193 (bt 28 131071) (h := ?_)
  refine pq_ HT_.out 17 194 (bt 28 262143) (h := ?_)
  refine pq_ HT_.out 18 195 (bt 28 524287) (h := ?_)
  refine one_ (i := 19) (N := some 196) (bt 28 1048575) rfl rfl (one_of HT_.out (by kernel_rfl)) (by decide) (fun K hK => ?_)
  refine goes_ Try.func83 (by kernel_rfl) rfl #[.slice hS bQ.length hT, .slice hU bu.length hV] (by rfl) rfl rfl gs_ ?_
  with_reducible refine (quorumref0_EqRows.calls bM _ _ bQ _ _ bu true _ ?side1 ?side2 ?side3 ?side4 gV.out).mono ?_
  (case side1 => exact cr_ aX)
  (case side2 => exact (Kd.R_reads' aX.out).2.1)
  (case side3 => exact cr_ aT)
  (case side4 => exact (Kd.R_reads' aT.out).2.1)
  rintro e w' ⟨rfl, ⟨nd, rfl⟩⟩
  refine ⟨_, rfl, ?_⟩
  refine hK.out _ _ ⟨bk_ ac 0, bk_ af 0⟩ (fun hHeld => ?_)
  clear hK K
  refine norm_ (a' := ?_) ?_ ?_
  rotate_left
  ·show Act.put _ (some 196) _ = _
   simp only [z_]
   rfl
  refine pq_ HT_.out 20 197 (bt 28 2097151) (h := ?_)
  refine pq_ HT_.out 21 198 (bt 28 4194303) (h := ?_)
  refine tq2_ HT_.out HW_.out 22 199 (bt 28 8388607) hHeld (h := ?_)
  refine tq2_ HT_.out HW_.out 23 200 (bt 28 16777215) hHeld (h := ?_)
  refine one_ (i := 24) (N := some 201) (bt 28 33554431) rfl rfl (one_of HT_.out (by kernel_rfl)) (by decide) (fun K hK => ?_)
  refine goes_ Try.func77 (by kernel_rfl) rfl #[.agg #[.slice aA am.length aB], .agg #[.slice A0_0 l0_0.length c0_0]] (by rfl) rfl rfl gs_ ?_
  with_reducible refine (quorumref0_EqTable.calls bM _ _ am _ _ l0_0 pL _ ?side1 ?side2 ?side3 ?side4 pM.out).mono ?_
  (case side1 => exact cn_ ab)
  (case side2 => exact (Kd.N_reads' ab.out).2.1)
  (case side3 => exact cv_ aa)
  (case side4 => exact (Kd.V_reads' aa.out).2.1)
  rintro e pN ⟨rfl, hb⟩
  refine ⟨_, rfl, ?_⟩
  replace aO := mk0 (Kd.R_below (r_ aO) hb)
  replace aX := mk0 (Kd.R_below (r_ aX) hb)
  replace aP := mk0 (Kd.R_below (r_ aP) hb)
  replace aT := mk0 (Kd.R_below (r_ aT) hb)
  replace aa := mk0 (Kd.V_below (v_ aa) hb)
  replace ab := mk0 (Kd.N_below (nn_ ab) hb)
  replace ac := mk0 (u_ ac hb)
  replace ae := mk0 (u_ ae hb)
  replace ad := mk0 (u_ ad hb)
  replace af := mk0 (u_ af hb)
  replace ag := mk0 (u_ ag hb)
  replace ah := mk0 (u_ ah hb)
  replace HB := mk0 (bt_ (b_ HB) hb)
  (try clear hb)
  (try clear hk)
  (try clear hi)
  refine hK.out _ _ ⟨bk_ ac 0, bk_ af 0⟩ (fun hHeld => ?_)
  clear hK K
  refine norm_ (a' := ?_) ?_ ?_
  rotate_left
  ·show Act.put _ (some 201) _ = _
   simp only [z_]
   rfl
  refine pq_ HT_.out 25 202 (bt 28 67108863) (h := ?_)
  refine one_ (i := 26) (N := none) (bt 28 134217727) rfl rfl (one_of HT_.out (by kernel_rfl)) (by decide) (fun K hK => ?_)
  have hs237 : pN.cell? ⟨ai, 0, none⟩ = some (.slice none 0 0) := bk_ ad 0
  have hfs237 := blk_frozen ad.out 0
  have m3 := an.out
  have m4 := ap.out
  have m5 := ay.out
  have m6 := aH.out
  have m7 := aL.out
  have m8 := aC.out
  have m9 := aq.out
  have na := aD.out
  have nb := aw.out
  have nc := aE.out
  refine skip_ (w1 := ?_) (by rfl) rfl ?_ ?_
  rotate_left
  ·go_simp
   rfl
  refine hK.out _ _ ⟨(cf_ an.out hHeld.1), (cf_ ay.out hHeld.2)⟩ (fun hHeld => ?_)
  clear hK K
  refine pq_ HT_.out 27 5 (bt 28 268435455) (h := ?_)
  refine done_ (done_of HT_.out (by kernel_rfl)) ?_
  try go_wp2
  refine bodyPost_ret (results_ct rfl _ _ ai 47 #[.slice A0_0 l0_0.length c0_0] (0, 0) _ rfl (pu_ (cs := #[.slice none 0 0]) (h_ ad)) Try.underlying47 rfl (by kernel_rfl)) rfl ?_
  exact ⟨_, sa_, by (with_reducible repeat (first | apply Kd.V_alloc | apply Kd.V_drewN | apply Kd.V_drew)); exact Kd.V_mono (Kd.V_far (p := ⟨ai, 0, none⟩) (Kd.V_mono aa.out (fun k_ hk => (⟨hk, hk.2.2.2.2.2.2.2.2.1⟩ : _ ∧ k_ ≠ ai))) (fun _ hk => hk.2) (.slice A0_0 l0_0.length c0_0)) (fun _ hk => hk.1.1), b_ HB⟩
 clear HC6
 obtain ⟨kq, cx, br, bf, ba, bh, bi, rfl, rfl, HA, gH, aa, ab, ak, aj, ac, ae, ad, af, ag, ah, HB, HAP⟩ := hcut
 cases kq with
 | zero => exact absurd HA.out (by simp [quorumlaw9_step.j6])
 | succ ea =>
 have H := HA.out
 clear HA
 simp only [quorumlaw9_step.j6] at H
 as_aux_lemma =>
 have HC300 := mk0 H
 clear H
 go_upto_region 38 with (fail)
 go_cut [226] (fun pO wc => ∃ (kq : Nat) (bK : Bool), pO = .bool bK ∧ Fc (quorumlaw9_step.j7 kq cx bK l0_0 am bf ba = some (r1, r2)) ∧ Fc (kq ≤ ea) ∧ Fc (Kd.V k99 99 wc w.heap.size (fun k_ => (P0_0_ k_ ∨ w.heap.size ≤ k_) ∧ some k_ ≠ ((.slice aA am.length aB) : Value).ownBlock ∧ some k_ ≠ (bh : Value).ownBlock ∧ some k_ ≠ (bi : Value).ownBlock ∧ k_ ≠ ar ∧ k_ ≠ ax ∧ k_ ≠ ai ∧ k_ ≠ au ∧ k_ ≠ al ∧ k_ ≠ ao) (.slice A0_0 l0_0.length c0_0) l0_0) ∧ Fc (Kd.N k99 99 wc w.heap.size (fun k_ => (P0_0_ k_ ∨ w.heap.size ≤ k_) ∧ some k_ ≠ (bh : Value).ownBlock ∧ some k_ ≠ (bi : Value).ownBlock ∧ k_ ≠ ar ∧ k_ ≠ ax ∧ k_ ≠ ai ∧ k_ ≠ au ∧ k_ ≠ al ∧ k_ ≠ ao) (.slice aA am.length aB) am) ∧ Fc (Kd.N k99 99 wc w.heap.size (fun k_ => (P0_0_ k_ ∨ w.heap.size ≤ k_) ∧ some k_ ≠ ((.slice aA am.length aB) : Value).ownBlock ∧ some k_ ≠ (bi : Value).ownBlock ∧ k_ ≠ ar ∧ k_ ≠ ax ∧ k_ ≠ ai ∧ k_ ≠ au ∧ k_ ≠ al ∧ k_ ≠ ao) bh bf) ∧ Fc (Kd.N k99 99 wc w.heap.size (fun k_ => (P0_0_ k_ ∨ w.heap.size ≤ k_) ∧ some k_ ≠ ((.slice aA am.length aB) : Value).ownBlock ∧ some k_ ≠ (bh : Value).ownBlock ∧ k_ ≠ ar ∧ k_ ≠ ax ∧ k_ ≠ ai ∧ k_ ≠ au ∧ k_ ≠ al ∧ k_ ≠ ao) bi ba) ∧ Fc (wc.heap[ar]? = some (.cells #[(.slice A0_0 l0_0.length c0_0)] 47 (0, 0))) ∧ Fc (wc.heap[ax]? = some (.cells #[.int .i64 a1_0, .int .i64 a1_1, .int .i64 a1_2, .string a1_3, .int .i64 a1_4, .string a1_5, .bool a1_6, .string a1_7, .string a1_8, .bool a1_9, .bool a1_10] 76 (0, 0))) ∧ Fc (wc.heap[ai]? = some (.cells #[(.slice none 0 0)] 47 (0, 0))) ∧ Fc (wc.heap[au]? = some (.cells #[(.slice aA am.length aB)] 47 (0, 0))) ∧ Fc (wc.heap[al]? = some (.cells #[bh] 47 (0, 0))) ∧ Fc (wc.heap[ao]? = some (.cells #[bi] 47 (0, 0))) ∧ Fc (Below w.heap.size w wc) ∧ Fc (HTabU.Apart w wc (fun k_ => k_ = ar ∨ k_ = ax ∨ k_ = ai ∨ k_ = au ∨ k_ = al ∨ k_ = ao) bh bf (.slice aA am.length aB) am bi ba))
 case first =>
  have H := HC300.out
  clear HC300
  replace H := ob_ H
  obtain ⟨d1, es, H⟩ := H
  try dsimp only at H
  by_cases cp : d1 = cx
  rotate_left
  ·rw [if_neg cp] at H
   have bT := beq_eq_false_iff_ne.mpr cp
   have gI := bne_iff_ne.mpr cp
   (first | rw [bT] | (simp only [i64_w, i32_w]; rw [bT]) | skip)
   have H' := mk0 H
   clear H
   go_wp2_with (first | ((with_reducible refine gate_callee (f := 76) rfl ?_); refine gL_ (some 204) Try.func76 #[.int .i64 br] (h := ?_); (with_reducible refine (quorumlaw9_num.calls br d1 _ es.out).mono ?_); rintro e w' ⟨rfl, ⟨nd, rfl⟩⟩; refine ⟨_, rfl, ?_⟩))
   go_meet
   case rel => exact ⟨_, (true), sm_, H', ⟨by have := gH.out; first | omega | exact Nat.le_refl _⟩, ⟨v2_ aa.out⟩, ⟨n2_ ab.out⟩, ⟨n2_ ak.out⟩, ⟨n2_ aj.out⟩, ⟨h_ ac⟩, ⟨h_ ae⟩, ⟨h_ ad⟩, ⟨h_ af⟩, ⟨h_ ag⟩, ⟨h_ ah⟩, ⟨b_ HB⟩, ⟨HTabU.ap_ HAP⟩⟩
  rw [if_pos cp] at H
  have bT := beq_iff_eq.mpr cp
  have gI := bne_eq_false_iff_eq.mpr cp
  clear cp
  (first | rw [bT] | (simp only [i64_w, i32_w]; rw [bT]) | skip)
  replace H := ob_ H
  obtain ⟨pP, gg, H⟩ := H
  try dsimp only at H
  by_cases et : pP = true
  rotate_left
  ·replace et := Bool.eq_false_iff.mpr et
   subst et
   rw [if_neg nf_] at H
   have H' := mk0 H
   clear H
   go_wp2_with (first | ((with_reducible refine gate_callee (f := 76) rfl ?_); refine gL_ (some 204) Try.func76 #[.int .i64 br] (h := ?_); (with_reducible refine (quorumlaw9_num.calls br d1 _ es.out).mono ?_); rintro e w' ⟨rfl, ⟨nd, rfl⟩⟩; refine ⟨_, rfl, ?_⟩; have sI := aV.out; have sJ := aF.out; have sK := aG.out; have sL := av.out; have sM := aH.out; have sN := aw.out; have sO := bd.out; have sP := aR.out; have sQ := bc.out; have sR := aW.out; obtain ⟨nf, ng⟩ := c1_ ag; have sS := be.out; have sT := aZ.out; have sU := aI.out; have sV := az.out; have sW := aL.out; have sX := aE.out; have sY := bg.out; have sZ := bb.out; obtain ⟨nh, ni⟩ := c1_ ah; obtain ⟨wW, wX, hW⟩ := Kd.N_slice ak.out; subst hW; obtain ⟨wY, wZ, hX⟩ := Kd.N_slice aj.out; subst hX) | (go_at_call 77; (with_reducible refine (quorumref0_EqTable.calls ea _ _ bf _ _ ba false _ ?side1 ?side2 ?side3 ?side4 gg.out).mono ?_); (case side1 => exact cn_ ak); (case side2 => exact (Kd.N_reads' ak.out).2.1); (case side3 => exact cn_ aj); (case side4 => exact (Kd.N_reads' aj.out).2.1); rintro e xD ⟨rfl, hb⟩; replace aa := mk0 (Kd.V_below (v_ aa) hb); replace ab := mk0 (Kd.N_below (nn_ ab) hb); replace ak := mk0 (Kd.N_below (nn_ ak) hb); replace aj := mk0 (Kd.N_below (nn_ aj) hb); replace ac := mk0 (u_ ac hb); replace ae := mk0 (u_ ae hb); replace ad := mk0 (u_ ad hb); replace af := mk0 (u_ af hb); replace ag := mk0 (u_ ag hb); replace ah := mk0 (u_ ah hb); replace HAP := mk0 (HTabU.Apart.below (HTabU.ap_ HAP) hb); replace HB := mk0 (bt_ (b_ HB) hb); (try clear hb)))
   go_meet
   case rel => exact ⟨_, (true), sm_, H', ⟨by have := gH.out; first | omega | exact Nat.le_refl _⟩, ⟨v2_ aa.out⟩, ⟨n2_ ab.out⟩, ⟨n2_ ak.out⟩, ⟨n2_ aj.out⟩, ⟨h_ ac⟩, ⟨h_ ae⟩, ⟨h_ ad⟩, ⟨h_ af⟩, ⟨h_ ag⟩, ⟨h_ ah⟩, ⟨b_ HB⟩, ⟨HTabU.ap_ HAP⟩⟩
  subst et
  rw [if_pos rfl] at H
  replace H := ob_ H
  obtain ⟨pQ, gW, H⟩ := H
  try dsimp only at H
  by_cases eu : pQ = true
  rotate_left
  ·replace eu := Bool.eq_false_iff.mpr eu
   subst eu
   rw [if_neg nf_] at H
   have H' := mk0 H
   clear H
   go_wp2_with (first | ((with_reducible refine gate_callee (f := 76) rfl ?_); refine gL_ (some 204) Try.func76 #[.int .i64 br] (h := ?_); (with_reducible refine (quorumlaw9_num.calls br d1 _ es.out).mono ?_); rintro e w' ⟨rfl, ⟨nd, rfl⟩⟩; refine ⟨_, rfl, ?_⟩; have s1 := aV.out; have s2 := aF.out; have s3 := aG.out; have s4 := av.out; have s5 := aH.out; have s6 := aw.out; have s7 := bd.out; have s8 := aR.out; have s9 := bc.out; have ta := aW.out; obtain ⟨nj, nk⟩ := c1_ ag; have tb := be.out; have tc := aZ.out; have td := aI.out; have te := az.out; have tf := aL.out; have tg := aE.out; have th := bg.out; have ti := bb.out; obtain ⟨nl, nm⟩ := c1_ ah; obtain ⟨xa, xb, hY⟩ := Kd.N_slice ak.out; subst hY; obtain ⟨xc, xd, hZ⟩ := Kd.N_slice aj.out; subst hZ) | (go_at_call 77; (with_reducible refine (quorumref0_EqTable.calls ea _ _ bf _ _ ba true _ ?side1 ?side2 ?side3 ?side4 gg.out).mono ?_); (case side1 => exact cn_ ak); (case side2 => exact (Kd.N_reads' ak.out).2.1); (case side3 => exact cn_ aj); (case side4 => exact (Kd.N_reads' aj.out).2.1); rintro e xE ⟨rfl, hb⟩; replace aa := mk0 (Kd.V_below (v_ aa) hb); replace ab := mk0 (Kd.N_below (nn_ ab) hb); replace ak := mk0 (Kd.N_below (nn_ ak) hb); replace aj := mk0 (Kd.N_below (nn_ aj) hb); replace ac := mk0 (u_ ac hb); replace ae := mk0 (u_ ae hb); replace ad := mk0 (u_ ad hb); replace af := mk0 (u_ af hb); replace ag := mk0 (u_ ag hb); replace ah := mk0 (u_ ah hb); replace HAP := mk0 (HTabU.Apart.below (HTabU.ap_ HAP) hb); replace HB := mk0 (bt_ (b_ HB) hb); (try clear hb); have tj := aU.out; have tk := aQ.out; have tl := aN.out; have tm := aM.out; have tn := ay.out; have tp := aD.out; obtain ⟨nn, np⟩ := c1_ af; have tq := aJ.out; have tr := aK.out; have ts := an.out; have tt := aC.out; obtain ⟨nq, nr⟩ := c1_ ac) | (go_at_call 77; (with_reducible refine (quorumref0_EqTable.calls ea _ _ am _ _ l0_0 false _ ?side1 ?side2 ?side3 ?side4 gW.out).mono ?_); (case side1 => exact cn_ ab); (case side2 => exact (Kd.N_reads' ab.out).2.1); (case side3 => exact cv_ aa); (case side4 => exact (Kd.V_reads' aa.out).2.1); rintro e xF ⟨rfl, hb⟩; replace aa := mk0 (Kd.V_below (v_ aa) hb); replace ab := mk0 (Kd.N_below (nn_ ab) hb); replace ak := mk0 (Kd.N_below (nn_ ak) hb); replace aj := mk0 (Kd.N_below (nn_ aj) hb); replace ac := mk0 (u_ ac hb); replace ae := mk0 (u_ ae hb); replace ad := mk0 (u_ ad hb); replace af := mk0 (u_ af hb); replace ag := mk0 (u_ ag hb); replace ah := mk0 (u_ ah hb); replace HAP := mk0 (HTabU.Apart.below (HTabU.ap_ HAP) hb); replace HB := mk0 (bt_ (b_ HB) hb); (try clear hb)))
   go_meet
   case rel => exact ⟨_, (true), sm_, H', ⟨by have := gH.out; first | omega | exact Nat.le_refl _⟩, ⟨v2_ aa.out⟩, ⟨n2_ ab.out⟩, ⟨n2_ ak.out⟩, ⟨n2_ aj.out⟩, ⟨h_ ac⟩, ⟨h_ ae⟩, ⟨h_ ad⟩, ⟨h_ af⟩, ⟨h_ ag⟩, ⟨h_ ah⟩, ⟨b_ HB⟩, ⟨HTabU.ap_ HAP⟩⟩
  subst eu
  rw [if_pos rfl] at H
  replace H := ob_ H
  obtain ⟨gX, pR, H⟩ := H
  try dsimp only at H
  replace H := ob_ H
  obtain ⟨gY, pS, H⟩ := H
  try dsimp only at H
  have H' := mk0 H
  clear H
  go_wp2_with (first | ((with_reducible refine gate_callee (f := 76) rfl ?_); refine gL_ (some 204) Try.func76 #[.int .i64 br] (h := ?_); (with_reducible refine (quorumlaw9_num.calls br d1 _ es.out).mono ?_); rintro e w' ⟨rfl, ⟨nd, rfl⟩⟩; refine ⟨_, rfl, ?_⟩; have tu := aV.out; have tv := aF.out; have tw := aG.out; have tx := av.out; have ty := aH.out; have tz := aw.out; have tA := bd.out; have tB := aR.out; have tC := bc.out; have tD := aW.out; obtain ⟨ns, nt⟩ := c1_ ag; have tE := be.out; have tF := aZ.out; have tG := aI.out; have tH := az.out; have tI := aL.out; have tJ := aE.out; have tK := bg.out; have tL := bb.out; obtain ⟨nu, nv⟩ := c1_ ah; obtain ⟨xe, xf, ia⟩ := Kd.N_slice ak.out; subst ia; obtain ⟨xg, xh, ib⟩ := Kd.N_slice aj.out; subst ib) | (go_at_call 77; (with_reducible refine (quorumref0_EqTable.calls ea _ _ bf _ _ ba true _ ?side1 ?side2 ?side3 ?side4 gg.out).mono ?_); (case side1 => exact cn_ ak); (case side2 => exact (Kd.N_reads' ak.out).2.1); (case side3 => exact cn_ aj); (case side4 => exact (Kd.N_reads' aj.out).2.1); rintro e xG ⟨rfl, hb⟩; replace aa := mk0 (Kd.V_below (v_ aa) hb); replace ab := mk0 (Kd.N_below (nn_ ab) hb); replace ak := mk0 (Kd.N_below (nn_ ak) hb); replace aj := mk0 (Kd.N_below (nn_ aj) hb); replace ac := mk0 (u_ ac hb); replace ae := mk0 (u_ ae hb); replace ad := mk0 (u_ ad hb); replace af := mk0 (u_ af hb); replace ag := mk0 (u_ ag hb); replace ah := mk0 (u_ ah hb); replace HAP := mk0 (HTabU.Apart.below (HTabU.ap_ HAP) hb); replace HB := mk0 (bt_ (b_ HB) hb); (try clear hb); have tM := aU.out; have tN := aQ.out; have tO := aN.out; have tP := aM.out; have tQ := ay.out; have tR := aD.out; obtain ⟨nw, nx⟩ := c1_ af; have tS := aJ.out; have tT := aK.out; have tU := an.out; have tV := aC.out; obtain ⟨ny, nz⟩ := c1_ ac) | (go_at_call 77; (with_reducible refine (quorumref0_EqTable.calls ea _ _ am _ _ l0_0 true _ ?side1 ?side2 ?side3 ?side4 gW.out).mono ?_); (case side1 => exact cn_ ab); (case side2 => exact (Kd.N_reads' ab.out).2.1); (case side3 => exact cv_ aa); (case side4 => exact (Kd.V_reads' aa.out).2.1); rintro e xH ⟨rfl, hb⟩; replace aa := mk0 (Kd.V_below (v_ aa) hb); replace ab := mk0 (Kd.N_below (nn_ ab) hb); replace ak := mk0 (Kd.N_below (nn_ ak) hb); replace aj := mk0 (Kd.N_below (nn_ aj) hb); replace ac := mk0 (u_ ac hb); replace ae := mk0 (u_ ae hb); replace ad := mk0 (u_ ad hb); replace af := mk0 (u_ af hb); replace ag := mk0 (u_ ag hb); replace ah := mk0 (u_ ah hb); replace HAP := mk0 (HTabU.Apart.below (HTabU.ap_ HAP) hb); replace HB := mk0 (bt_ (b_ HB) hb); (try clear hb); obtain ⟨nA, nB⟩ := c1_ af) | (go_at_call 86; (with_reducible refine (table_Check.calls ea _ _ am gX _ ?side1 ?side2 pR.out).mono ?_); (case side1 => exact cn_ ab); (case side2 => exact (Kd.N_reads' ab.out).2.1); rintro e xI ⟨rfl, hb⟩; replace aa := mk0 (Kd.V_below (v_ aa) hb); replace ab := mk0 (Kd.N_below (nn_ ab) hb); replace ak := mk0 (Kd.N_below (nn_ ak) hb); replace aj := mk0 (Kd.N_below (nn_ aj) hb); replace ac := mk0 (u_ ac hb); replace ae := mk0 (u_ ae hb); replace ad := mk0 (u_ ad hb); replace af := mk0 (u_ af hb); replace ag := mk0 (u_ ag hb); replace ah := mk0 (u_ ah hb); replace HAP := mk0 (HTabU.Apart.below (HTabU.ap_ HAP) hb); replace HB := mk0 (bt_ (b_ HB) hb); (try clear hb)) | (go_at_call 76; (with_reducible refine (quorumlaw9_num.calls gX gY _ pS.out).mono ?_); rintro e w' ⟨rfl, ⟨nd, rfl⟩⟩))
  go_meet
  case rel => exact ⟨_, (((gY == 0) != bp)), sm_, H', ⟨by have := gH.out; first | omega | exact Nat.le_refl _⟩, ⟨v2_ aa.out⟩, ⟨n2_ ab.out⟩, ⟨n2_ ak.out⟩, ⟨n2_ aj.out⟩, ⟨h_ ac⟩, ⟨h_ ae⟩, ⟨h_ ad⟩, ⟨h_ af⟩, ⟨h_ ag⟩, ⟨h_ ah⟩, ⟨b_ HB⟩, ⟨HTabU.ap_ HAP⟩⟩
 clear HC300
 clear aa ab ak aj HAP
 obtain ⟨kq, bK, rfl, HA, xi, aa, ab, ak, aj, ac, ae, ad, af, ag, ah, HB, HAP⟩ := hcut
 cases kq with
 | zero => exact absurd HA.out (by simp [quorumlaw9_step.j7])
 | succ dq =>
 have H := HA.out
 clear HA
 simp only [quorumlaw9_step.j7] at H
 as_aux_lemma =>
 by_cases ev : bK = true
 ·subst ev
  rw [if_pos rfl] at H
  simp only [Option.some.injEq, Prod.mk.injEq] at H
  obtain ⟨rfl, rfl⟩ := H
  have tW := aJ.out
  have tX := aK.out
  have tY := an.out
  have tZ := aC.out
  have t0 := aQ.out
  have t2 := aU.out
  have t3 := aF.out
  have t4 := aV.out
  have t5 := aZ.out
  have t6 := be.out
  obtain ⟨nC, nD⟩ := c1_ ac
  have t7 := aq.out
  have t8 := ap.out
  have t9 := aD.out
  have ua := ay.out
  have ub := aw.out
  have uc := aH.out
  have ud := aE.out
  have ue := aL.out
  obtain ⟨nE, nF⟩ := c1_ ad
  go_wp2
  refine bodyPost_ret (results_ct rfl _ _ ai 47 #[.slice A0_0 l0_0.length c0_0] (0, 0) _ rfl (pu_ (cs := #[.slice none 0 0]) (h_ ad)) Try.underlying47 rfl (by kernel_rfl)) rfl ?_
  exact ⟨_, sa_, by (with_reducible repeat (first | apply Kd.V_alloc | apply Kd.V_drewN | apply Kd.V_drew)); exact Kd.V_mono (Kd.V_far (p := ⟨ai, 0, none⟩) (Kd.V_mono aa.out (fun k_ hk => (⟨hk, hk.2.2.2.2.2.2.1⟩ : _ ∧ k_ ≠ ai))) (fun _ hk => hk.2) (.slice A0_0 l0_0.length c0_0)) (fun _ hk => hk.1.1), b_ HB⟩
 focus
  replace ev := Bool.eq_false_iff.mpr ev
  subst ev
  rw [if_neg nf_] at H
  replace H := ob_ H
  obtain ⟨xJ, xK, H⟩ := H
  try dsimp only at H
  replace H := ob_ H
  obtain ⟨pT, gh, H⟩ := H
  try dsimp only at H
  by_cases ew : pT = true
  focus
   subst ew
   rw [if_pos rfl] at H
   by_cases cq : cx = 0
   focus
    rw [if_pos cq] at H
    have gJ := beq_iff_eq.mpr cq
    have gK := bne_eq_false_iff_eq.mpr cq
    clear cq
    replace H := ob_ H
    obtain ⟨gi, pU, H⟩ := H
    try dsimp only at H
    simp only [Option.some.injEq, Prod.mk.injEq] at H
    obtain ⟨rfl, rfl⟩ := H
    have uf := aV.out
    have ug := aF.out
    have uh := aG.out
    have ui := av.out
    have uj := aH.out
    have uk := aw.out
    have ul := bd.out
    have um := aR.out
    have un := bc.out
    have uo := aW.out
    obtain ⟨nG, nH⟩ := c1_ ag
    obtain ⟨eb, ec, ic⟩ := Kd.N_slice ak.out
    subst ic
   rotate_left 1
   focus
    rw [if_neg cq] at H
    have gJ := beq_eq_false_iff_ne.mpr cq
    have gK := bne_iff_ne.mpr cq
    simp only [Option.some.injEq, Prod.mk.injEq] at H
    obtain ⟨rfl, rfl⟩ := H
    have up := aV.out
    have uq := aF.out
    have ur := aG.out
    have us := av.out
    have ut := aH.out
    have uu := aw.out
    have uv := bd.out
    have uw := aR.out
    have ux := bc.out
    have uy := aW.out
    obtain ⟨nI, nJ⟩ := c1_ ag
    obtain ⟨eb, ec, ie⟩ := Kd.N_slice ak.out
    subst ie
   rotate_right 1
  rotate_left 2
  focus
   replace ew := Bool.eq_false_iff.mpr ew
   subst ew
   rw [if_neg nf_] at H
   simp only [Option.some.injEq, Prod.mk.injEq] at H
   obtain ⟨rfl, rfl⟩ := H
   have uz := aV.out
   have uA := aF.out
   have uB := aG.out
   have uC := av.out
   have uD := aH.out
   have uE := aw.out
   have uF := bd.out
   have uG := aR.out
   have uH := bc.out
   have uI := aW.out
   obtain ⟨nK, nL⟩ := c1_ ag
   obtain ⟨eb, ec, ig⟩ := Kd.N_slice ak.out
   subst ig
  rotate_right 2
 all_goals go_wp2_with (first | ((with_reducible refine gate_callee (f := 87) rfl ?_); refine gL_ (some 229) Try.func87 #[.agg #[.slice eb bf.length ec]] (h := ?_); (with_reducible refine (HTabU.spoil_apart (HTabU.ap_ HAP) (b_ HB)).mono ?_); rintro e xL ⟨rfl, hb, hkp, hin_, hwt_⟩; refine ⟨_, rfl, ?_⟩; have bU := mk0 (HTabU.keepBox hkp (h_ ac) (.inl rfl)); have d2 := mk0 (HTabU.keepBox hkp (h_ ae) (.inr (.inl rfl))); have b8 := mk0 (HTabU.keepBox hkp (h_ ad) (.inr (.inr (.inl rfl)))); have ct := mk0 (HTabU.keepBox hkp (h_ af) (.inr (.inr (.inr (.inl rfl))))); have cu := mk0 (HTabU.keepBox hkp (h_ ag) (.inr (.inr (.inr (.inr (.inl rfl)))))); have bV := mk0 (HTabU.keepBox hkp (h_ ah) (.inr (.inr (.inr (.inr (.inr rfl)))))); replace aa := mk0 (Kd.V_below (Kd.V_bound hs0_0) hb); replace ab := mk0 hin_; replace aj := mk0 hwt_; replace HB := mk0 hb; clear HAP ak ac ae ad af ag ah; have ac := bU; have ae := d2; have ad := b8; have af := ct; have ag := cu; have ah := bV; clear bU d2 b8 ct cu bV; (try clear hb); (try clear hkp); (try clear x2); have uJ := aU.out; have uK := aQ.out; have uL := aN.out; have uM := aM.out; have uN := ay.out; have uO := aD.out; have uP := bb.out; have uQ := bg.out; obtain ⟨nM, nN⟩ := c1_ af; have uR := aJ.out; have uS := aK.out; have uT := an.out; have uU := aC.out; have uV := aZ.out; have uW := be.out; obtain ⟨nO, nP⟩ := c1_ ac) | ((with_reducible refine gate_callee (f := 77) rfl ?_); refine gL_ (some 232) Try.func77 #[.agg #[.slice aA am.length aB], .agg #[.slice A0_0 l0_0.length c0_0]] (h := ?_); (with_reducible refine (quorumref0_EqTable.calls dq _ _ am _ _ l0_0 true _ ?side1 ?side2 ?side3 ?side4 gh.out).mono ?_); (case side1 => exact cn_ ab); (case side2 => exact (Kd.N_reads' ab.out).2.1); (case side3 => exact cv_ aa); (case side4 => exact (Kd.V_reads' aa.out).2.1); rintro e xM ⟨rfl, hb⟩; refine ⟨_, rfl, ?_⟩; replace aa := mk0 (Kd.V_below (v_ aa) hb); replace ab := mk0 (Kd.N_below (nn_ ab) hb); replace aj := mk0 (Kd.N_below (nn_ aj) hb); replace ac := mk0 (u_ ac hb); replace ae := mk0 (u_ ae hb); replace ad := mk0 (u_ ad hb); replace af := mk0 (u_ af hb); replace ag := mk0 (u_ ag hb); replace ah := mk0 (u_ ah hb); replace HB := mk0 (bt_ (b_ HB) hb); (try clear hb); have ex := aI.out; have ey := az.out; have uX := aL.out; have uY := aE.out; obtain ⟨dj, dk⟩ := c1_ ah; obtain ⟨gj, gk, ii⟩ := Kd.N_slice aj.out; subst ii; (try obtain ⟨fn, fo⟩ := c1_ ac); (try have gL := aq.out); (try have gM := ap.out); (try obtain ⟨fp, fq⟩ := c1_ ad)) | ((with_reducible refine gate_callee (f := 29) rfl ?_); refine gL_ (some 239) Try.func29 #[.agg #[.slice gj ba.length gk]] (h := ?_); (with_reducible refine (quorumref0_CopyTable.calls dq _ _ ba gi _ ?side1 ?side2 pU.out).mono ?_); (case side1 => exact cn_ aj); (case side2 => exact (Kd.N_reads' aj.out).2.1); rintro e xN ⟨xO, rfl, ho0, hb⟩; refine ⟨_, rfl, ?_⟩; have bU := mk0 (Kd.N_lower (Kd.N_mono (ok' := fun k_ => (P0_0_ k_ ∨ w.heap.size ≤ k_) ∧ some k_ ≠ (.slice aA am.length aB : Value).ownBlock ∧ some k_ ≠ (.slice gj ba.length gk : Value).ownBlock ∧ k_ ≠ ar ∧ k_ ≠ ax ∧ k_ ≠ ai ∧ k_ ≠ au ∧ k_ ≠ al ∧ k_ ≠ ao) (Kd.S_N (Kd.S_bound ho0)) (fun k_ hk_ => ⟨(.inr (Nat.le_trans (bz_ (b_ HB)) hk_.2.1)), (Kd.fresh' (Kd.N_lt (nn_ ab)) k_ hk_.2.1), (Kd.fresh' (Kd.N_lt (nn_ aj)) k_ hk_.2.1), (fb_ ac k_ hk_.2.1), (fb_ ae k_ hk_.2.1), (fb_ ad k_ hk_.2.1), (fb_ af k_ hk_.2.1), (fb_ ag k_ hk_.2.1), (fb_ ah k_ hk_.2.1)⟩)) (bz_ (b_ HB))); replace aa := mk0 (Kd.V_elder' (v_ aa) (Kd.S_base ho0) hb); replace ab := mk0 (Kd.N_elder' (nn_ ab) (Kd.S_base ho0) hb); replace aj := mk0 (Kd.N_elder' (nn_ aj) (Kd.S_base ho0) hb); replace ac := mk0 (u_ ac hb); replace ae := mk0 (u_ ae hb); replace ad := mk0 (u_ ad hb); replace af := mk0 (u_ af hb); replace ag := mk0 (u_ ag hb); replace ah := mk0 (u_ ah hb); replace HB := mk0 (bt_ (b_ HB) hb); have gl := bU; clear bU; (try clear hb); (try clear ho0); obtain ⟨gm, gn, ij⟩ := Kd.N_slice gl.out; subst ij; have uZ := aq.out; have va := ap.out; obtain ⟨nQ, nR⟩ := c1_ ad) | ((with_reducible refine gate_callee (f := 77) rfl ?_); refine gL_ (some 232) Try.func77 #[.agg #[.slice aA am.length aB], .agg #[.slice A0_0 l0_0.length c0_0]] (h := ?_); (with_reducible refine (quorumref0_EqTable.calls dq _ _ am _ _ l0_0 true _ ?side1 ?side2 ?side3 ?side4 gh.out).mono ?_); (case side1 => exact cn_ ab); (case side2 => exact (Kd.N_reads' ab.out).2.1); (case side3 => exact cv_ aa); (case side4 => exact (Kd.V_reads' aa.out).2.1); rintro e xP ⟨rfl, hb⟩; refine ⟨_, rfl, ?_⟩; replace aa := mk0 (Kd.V_below (v_ aa) hb); replace ab := mk0 (Kd.N_below (nn_ ab) hb); replace aj := mk0 (Kd.N_below (nn_ aj) hb); replace ac := mk0 (u_ ac hb); replace ae := mk0 (u_ ae hb); replace ad := mk0 (u_ ad hb); replace af := mk0 (u_ af hb); replace ag := mk0 (u_ ag hb); replace ah := mk0 (u_ ah hb); replace HB := mk0 (bt_ (b_ HB) hb); (try clear hb); obtain ⟨fn, fo⟩ := c1_ ac; have gL := aq.out; have gM := ap.out; have vb := aE.out; have vc := aL.out; obtain ⟨fp, fq⟩ := c1_ ad; (try have ex := aI.out); (try have ey := az.out); (try obtain ⟨dj, dk⟩ := c1_ ah)) | ((with_reducible refine gate_callee (f := 77) rfl ?_); refine gL_ (some 232) Try.func77 #[.agg #[.slice aA am.length aB], .agg #[.slice A0_0 l0_0.length c0_0]] (h := ?_); (with_reducible refine (quorumref0_EqTable.calls dq _ _ am _ _ l0_0 false _ ?side1 ?side2 ?side3 ?side4 gh.out).mono ?_); (case side1 => exact cn_ ab); (case side2 => exact (Kd.N_reads' ab.out).2.1); (case side3 => exact cv_ aa); (case side4 => exact (Kd.V_reads' aa.out).2.1); rintro e xQ ⟨rfl, hb⟩; refine ⟨_, rfl, ?_⟩; replace aa := mk0 (Kd.V_below (v_ aa) hb); replace ab := mk0 (Kd.N_below (nn_ ab) hb); replace aj := mk0 (Kd.N_below (nn_ aj) hb); replace ac := mk0 (u_ ac hb); replace ae := mk0 (u_ ae hb); replace ad := mk0 (u_ ad hb); replace af := mk0 (u_ af hb); replace ag := mk0 (u_ ag hb); replace ah := mk0 (u_ ah hb); replace HB := mk0 (bt_ (b_ HB) hb); (try clear hb); obtain ⟨nS, nT⟩ := c1_ ac; have vd := aq.out; have ve := ap.out; have vf := aE.out; have vg := aL.out; obtain ⟨nU, nV⟩ := c1_ ad; (try have ex := aI.out); (try have ey := az.out); (try obtain ⟨dj, dk⟩ := c1_ ah)))
 ·refine bodyPost_ret (results_ct rfl _ _ ai 47 #[.slice gm gi.length gn] (0, 0) _ rfl (pu_ (cs := #[.slice none 0 0]) (h_ ad)) Try.underlying47 rfl (by kernel_rfl)) rfl ?_
  exact ⟨_, sa_, Kd.N_V (n2_ (Kd.N_mono (Kd.N_far (p := ⟨ai, 0, none⟩) (Kd.N_mono gl.out (fun k_ hk => (⟨hk, hk.2.2.2.2.2.1⟩ : _ ∧ k_ ≠ ai))) (fun _ hk => hk.2) (.slice gm gi.length gn)) (fun _ hk => hk.1.1))), b_ HB⟩
 ·refine bodyPost_ret (results_ct rfl _ _ ai 47 #[.slice A0_0 l0_0.length c0_0] (0, 0) _ rfl (pu_ (cs := #[.slice none 0 0]) (h_ ad)) Try.underlying47 rfl (by kernel_rfl)) rfl ?_
  exact ⟨_, sa_, by (with_reducible repeat (first | apply Kd.V_alloc | apply Kd.V_drewN | apply Kd.V_drew)); exact Kd.V_mono (Kd.V_far (p := ⟨ai, 0, none⟩) (Kd.V_mono aa.out (fun k_ hk => (⟨hk, fun e_ => by have h1_ := dl.out; have h2_ := hk.2; omega⟩ : _ ∧ k_ ≠ ai))) (fun _ hk => hk.2) (.slice A0_0 l0_0.length c0_0)) (fun _ hk => .inl hk.1.1), b_ HB⟩
 ·refine bodyPost_ret (results_ct rfl _ _ ai 47 #[.slice A0_0 l0_0.length c0_0] (0, 0) _ rfl (pu_ (cs := #[.slice none 0 0]) (h_ ad)) Try.underlying47 rfl (by kernel_rfl)) rfl ?_
  exact ⟨_, sa_, by (with_reducible repeat (first | apply Kd.V_alloc | apply Kd.V_drewN | apply Kd.V_drew)); exact Kd.V_mono (Kd.V_far (p := ⟨ai, 0, none⟩) (Kd.V_mono aa.out (fun k_ hk => (⟨hk, fun e_ => by have h1_ := dl.out; have h2_ := hk.2; omega⟩ : _ ∧ k_ ≠ ai))) (fun _ hk => hk.2) (.slice A0_0 l0_0.length c0_0)) (fun _ hk => .inl hk.1.1), b_ HB⟩
end Go.Proofs.Ytbaecdcfefmcgaa.PTbe
