-- PRINTED by print.py (a twelfth state) out of the translation. Not trusted: Lean checks it.
import Derived.Test.YtbaecdcfefmcgaaPVowx0
import Derived.Test.YtbaecdcfefmcgaaPVowx3
import Derived.Test.YtbaecdcfefmcgaaPVowx5
import Derived.Test.YtbaecdcfefmcgaaPVowx6
import Derived.Test.YtbaecdcfefmcgaaPVowx8
import Derived.Test.YtbaecdcfefmcgaaPVowx9
namespace Go.Proofs.Ytbaecdcfefmcgaa.PVow
open Go.RowKit Go.Proofs.YtbaecdcfefmcgaaW.PrintWords Go.Proofs.YtbaecdcfefmcgaaW.PrintLast Go.Proofs.YtbaecdcfefmcgaaW.PrintMore
attribute [local go_sem] max2_int min2_int max_two min_two max_three min_three max_four min_four   -- for this text's walks alone
set_option linter.unusedVariables false
set_option linter.unusedSimpArgs false

/-! ### quorumlaw11_ViewOwn: function 3 -/
mutual
def quorumlaw11_ViewOwn.j0 : Nat → Bool → List (S47) → List (S34) → List Int → List ByteArray → List (S74) → List Int → Option (Bool)
 | 0, _, _, _, _, _, _, _ => none
 | k + 1, x21, x258000, x258001, x258002, x258003, x258004, x258005 => if x21 = true then (some true) else (quorumlaw11_ViewOwn.l0 k 0 x258000 x258001 x258002 x258003 x258004 x258005)
def quorumlaw11_ViewOwn.l0 : Nat → Int → List (S47) → List (S34) → List Int → List ByteArray → List (S74) → List Int → Option (Bool)
 | 0, _, _, _, _, _, _, _ => none
 | k + 1, x3, x258000, x258001, x258002, x258003, x258004, x258005 => if x3 < (x258001.length : Int) then (quorumlaw11_ViewOwn.j2 k x3 (decide (x3 < 6)) x258000 x258001 x258002 x258003 x258004 x258005) else (quorumlaw11_ViewOwn.j2 k x3 false x258000 x258001 x258002 x258003 x258004 x258005)
def quorumlaw11_ViewOwn.j2 : Nat → Int → Bool → List (S47) → List (S34) → List Int → List ByteArray → List (S74) → List Int → Option (Bool)
 | 0, _, _, _, _, _, _, _, _ => none
 | k + 1, x3, x30, x258000, x258001, x258002, x258003, x258004, x258005 => if x30 = true then (if 0 ≤ x3 then (if x3 < (x258001.length : Int) then ((quorumref8_Pend.f k ((rd_T34 x258001 x3).f0) ((rd_T34 x258001 x3).f1)).bind fun t261 => (if t261 = true then (quorumlaw11_ViewOwn.l1 k x3 0 x258000 x258001 x258002 x258003 x258004 x258005) else (quorumlaw11_ViewOwn.l0 k (wrap64 (x3 + 1)) x258000 x258001 x258002 x258003 x258004 x258005))) else (none)) else (none)) else ((quorumlaw11_wakes.f k).bind fun t284 => (some t284))
def quorumlaw11_ViewOwn.l1 : Nat → Int → Int → List (S47) → List (S34) → List Int → List ByteArray → List (S74) → List Int → Option (Bool)
 | 0, _, _, _, _, _, _, _, _ => none
 | k + 1, x3, x4, x258000, x258001, x258002, x258003, x258004, x258005 => if 0 ≤ x3 then (if x3 < (x258001.length : Int) then (if x4 < (((rd_T34 x258001 x3).f0).length : Int) then (if 0 ≤ x4 then (if ((rd_T36 ((rd_T34 x258001 x3).f0) x4).f0) ≥ (x258000.length : Int) then (quorumlaw11_ViewOwn.l1 k x3 (wrap64 (x4 + 1)) x258000 x258001 x258002 x258003 x258004 x258005) else ((quorumref8_Last.f k ((rd_T34 x258001 x3).f0) ((rd_T34 x258001 x3).f1) ((rd_T36 ((rd_T34 x258001 x3).f0) x4).f0) ((rd_T36 ((rd_T34 x258001 x3).f0) x4).f1)).bind fun bt267 => ((view_Get.f k x258000 ((rd_T34 x258001 x3).f0) ((rd_T34 x258001 x3).f1) ((rd_T36 ((rd_T34 x258001 x3).f0) x4).f0) ((rd_T36 ((rd_T34 x258001 x3).f0) x4).f1) 5).bind fun bt274 => (if bt267.2.2.2.1 = true then ((quorumlaw11_num.f bt274.2).bind fun t276 => (if t276 = 3 then (quorumlaw11_ViewOwn.j4 k x3 x4 false x258000 x258001 x258002 x258003 x258004 x258005 ((rd_T36 ((rd_T34 x258001 x3).f0) x4).f0) ((rd_T36 ((rd_T34 x258001 x3).f0) x4).f1) ((rd_T36 ((rd_T34 x258001 x3).f0) x4).f2) ((rd_T36 ((rd_T34 x258001 x3).f0) x4).f3)) else (quorumlaw11_ViewOwn.j4 k x3 x4 true x258000 x258001 x258002 x258003 x258004 x258005 ((rd_T36 ((rd_T34 x258001 x3).f0) x4).f0) ((rd_T36 ((rd_T34 x258001 x3).f0) x4).f1) ((rd_T36 ((rd_T34 x258001 x3).f0) x4).f2) ((rd_T36 ((rd_T34 x258001 x3).f0) x4).f3)))) else ((quorumlaw11_num.f bt274.2).bind fun t277 => (if t277 = 0 then (quorumlaw11_ViewOwn.j4 k x3 x4 (bt274.1.toList != bt267.2.2.1.toList) x258000 x258001 x258002 x258003 x258004 x258005 ((rd_T36 ((rd_T34 x258001 x3).f0) x4).f0) ((rd_T36 ((rd_T34 x258001 x3).f0) x4).f1) ((rd_T36 ((rd_T34 x258001 x3).f0) x4).f2) ((rd_T36 ((rd_T34 x258001 x3).f0) x4).f3)) else (quorumlaw11_ViewOwn.j4 k x3 x4 true x258000 x258001 x258002 x258003 x258004 x258005 ((rd_T36 ((rd_T34 x258001 x3).f0) x4).f0) ((rd_T36 ((rd_T34 x258001 x3).f0) x4).f1) ((rd_T36 ((rd_T34 x258001 x3).f0) x4).f2) ((rd_T36 ((rd_T34 x258001 x3).f0) x4).f3)))))))) else (none)) else (quorumlaw11_ViewOwn.l0 k (wrap64 (x3 + 1)) x258000 x258001 x258002 x258003 x258004 x258005)) else (none)) else (none)
def quorumlaw11_ViewOwn.j4 : Nat → Int → Int → Bool → List (S47) → List (S34) → List Int → List ByteArray → List (S74) → List Int → Int → ByteArray → ByteArray → Bool → Option (Bool)
 | 0, _, _, _, _, _, _, _, _, _, _, _, _, _ => none
 | k + 1, x3, x4, x116, x258000, x258001, x258002, x258003, x258004, x258005, x266000, x266001, x266002, x266003 => if x116 = true then (some false) else ((view_Get.f k x258000 ([] : List (S36)) ([] : List Int) x266000 x266001 5).bind fun bt278 => (if 0 ≤ x266000 then (if x266000 < (x258000.length : Int) then ((quorumref8_Get.f k ((rd_T47 x258000 x266000).f0) x266001 5).bind fun bt281 => ((quorumlaw11_num.f bt278.2).bind fun t283 => (if (bt281.2 != (t283 == 0)) = true then (quorumlaw11_ViewOwn.j5 k x3 x4 true x258000 x258001 x258002 x258003 x258004 x258005) else (quorumlaw11_ViewOwn.j5 k x3 x4 (bt278.1.toList != bt281.1.toList) x258000 x258001 x258002 x258003 x258004 x258005)))) else (none)) else (none)))
def quorumlaw11_ViewOwn.j5 : Nat → Int → Int → Bool → List (S47) → List (S34) → List Int → List ByteArray → List (S74) → List Int → Option (Bool)
 | 0, _, _, _, _, _, _, _, _, _ => none
 | k + 1, x3, x4, x149, x258000, x258001, x258002, x258003, x258004, x258005 => if x149 = true then (some false) else (quorumlaw11_ViewOwn.l1 k x3 (wrap64 (x4 + 1)) x258000 x258001 x258002 x258003 x258004 x258005)
end
def quorumlaw11_ViewOwn.f (k : Nat) (l0_0 : List (S47)) (l0_1 : List (S34)) (l0_2 : List Int) (l0_3 : List ByteArray) (l0_4 : List (S74)) (l0_5 : List Int) : Option (Bool) := (quorumlaw11_Heavy.f k l0_0 l0_1 l0_2 l0_3 l0_4 l0_5).bind fun t258 => (if t258 = true then (quorumlaw11_ViewOwn.j0 k true l0_0 l0_1 l0_2 l0_3 l0_4 l0_5) else ((quorumref8_Tables.f k l0_0).bind fun t259 => (quorumlaw11_ViewOwn.j0 k (!t259) l0_0 l0_1 l0_2 l0_3 l0_4 l0_5)))
theorem quorumlaw11_ViewOwn.mono_l : ∀ k, (∀ y0 y1 y2 y3 y4 y5 y6, LeO (quorumlaw11_ViewOwn.j0 k y0 y1 y2 y3 y4 y5 y6) (quorumlaw11_ViewOwn.j0 (k + 1) y0 y1 y2 y3 y4 y5 y6)) ∧ (∀ y0 y1 y2 y3 y4 y5 y6, LeO (quorumlaw11_ViewOwn.l0 k y0 y1 y2 y3 y4 y5 y6) (quorumlaw11_ViewOwn.l0 (k + 1) y0 y1 y2 y3 y4 y5 y6)) ∧ (∀ y0 y1 y2 y3 y4 y5 y6 y7, LeO (quorumlaw11_ViewOwn.j2 k y0 y1 y2 y3 y4 y5 y6 y7) (quorumlaw11_ViewOwn.j2 (k + 1) y0 y1 y2 y3 y4 y5 y6 y7)) ∧ (∀ y0 y1 y2 y3 y4 y5 y6 y7, LeO (quorumlaw11_ViewOwn.l1 k y0 y1 y2 y3 y4 y5 y6 y7) (quorumlaw11_ViewOwn.l1 (k + 1) y0 y1 y2 y3 y4 y5 y6 y7)) ∧ (∀ y0 y1 y2 y3 y4 y5 y6 y7 y8 y9 y10 y11 y12, LeO (quorumlaw11_ViewOwn.j4 k y0 y1 y2 y3 y4 y5 y6 y7 y8 y9 y10 y11 y12) (quorumlaw11_ViewOwn.j4 (k + 1) y0 y1 y2 y3 y4 y5 y6 y7 y8 y9 y10 y11 y12)) ∧ (∀ y0 y1 y2 y3 y4 y5 y6 y7 y8, LeO (quorumlaw11_ViewOwn.j5 k y0 y1 y2 y3 y4 y5 y6 y7 y8) (quorumlaw11_ViewOwn.j5 (k + 1) y0 y1 y2 y3 y4 y5 y6 y7 y8))
 | 0 => ⟨fun _ _ _ _ _ _ _ r h => by simp [quorumlaw11_ViewOwn.j0] at h, fun _ _ _ _ _ _ _ r h => by simp [quorumlaw11_ViewOwn.l0] at h, fun _ _ _ _ _ _ _ _ r h => by simp [quorumlaw11_ViewOwn.j2] at h, fun _ _ _ _ _ _ _ _ r h => by simp [quorumlaw11_ViewOwn.l1] at h, fun _ _ _ _ _ _ _ _ _ _ _ _ _ r h => by simp [quorumlaw11_ViewOwn.j4] at h, fun _ _ _ _ _ _ _ _ _ r h => by simp [quorumlaw11_ViewOwn.j5] at h⟩
 | k + 1 => by
  obtain ⟨ih0, ih1, ih2, ih3, ih4, ih5⟩ := quorumlaw11_ViewOwn.mono_l k
  refine ⟨?_, ?_, ?_, ?_, ?_, ?_⟩
  ·intro y0 y1 y2 y3 y4 y5 y6
   unfold quorumlaw11_ViewOwn.j0
   repeat' first
   | (with_reducible exact ih0 _ _ _ _ _ _ _)
   | (with_reducible exact ih1 _ _ _ _ _ _ _)
   | (with_reducible exact ih2 _ _ _ _ _ _ _ _)
   | (with_reducible exact ih3 _ _ _ _ _ _ _ _)
   | (with_reducible exact ih4 _ _ _ _ _ _ _ _ _ _ _ _ _)
   | (with_reducible exact ih5 _ _ _ _ _ _ _ _ _)
   | (with_reducible exact quorumlaw11_Heavy.mono _ _ _ _ _ _ _)
   | (with_reducible exact quorumlaw11_wakes.mono _)
   | (with_reducible exact quorumref8_Get.mono _ _ _ _)
   | (with_reducible exact quorumref8_Last.mono _ _ _ _ _)
   | (with_reducible exact quorumref8_Pend.mono _ _ _)
   | (with_reducible exact quorumref8_Tables.mono _ _)
   | (with_reducible exact view_Get.mono _ _ _ _ _ _ _)
   | (with_reducible exact LeO.refl _)
   | (with_reducible exact LeO.none _)
   | (with_reducible refine LeO.ite ?_ ?_)
   | (with_reducible refine LeO.bind ?_ (fun _ => ?_))
   | exact ih0 _ _ _ _ _ _ _
   | exact ih1 _ _ _ _ _ _ _
   | exact ih2 _ _ _ _ _ _ _ _
   | exact ih3 _ _ _ _ _ _ _ _
   | exact ih4 _ _ _ _ _ _ _ _ _ _ _ _ _
   | exact ih5 _ _ _ _ _ _ _ _ _
   | exact quorumlaw11_Heavy.mono _ _ _ _ _ _ _
   | exact quorumlaw11_wakes.mono _
   | exact quorumref8_Get.mono _ _ _ _
   | exact quorumref8_Last.mono _ _ _ _ _
   | exact quorumref8_Pend.mono _ _ _
   | exact quorumref8_Tables.mono _ _
   | exact view_Get.mono _ _ _ _ _ _ _
   | exact LeO.none _
   | refine LeO.ite ?_ ?_
   | refine LeO.bind ?_ (fun _ => ?_)
  ·intro y0 y1 y2 y3 y4 y5 y6
   unfold quorumlaw11_ViewOwn.l0
   repeat' first
   | (with_reducible exact ih0 _ _ _ _ _ _ _)
   | (with_reducible exact ih1 _ _ _ _ _ _ _)
   | (with_reducible exact ih2 _ _ _ _ _ _ _ _)
   | (with_reducible exact ih3 _ _ _ _ _ _ _ _)
   | (with_reducible exact ih4 _ _ _ _ _ _ _ _ _ _ _ _ _)
   | (with_reducible exact ih5 _ _ _ _ _ _ _ _ _)
   | (with_reducible exact quorumlaw11_Heavy.mono _ _ _ _ _ _ _)
   | (with_reducible exact quorumlaw11_wakes.mono _)
   | (with_reducible exact quorumref8_Get.mono _ _ _ _)
   | (with_reducible exact quorumref8_Last.mono _ _ _ _ _)
   | (with_reducible exact quorumref8_Pend.mono _ _ _)
   | (with_reducible exact quorumref8_Tables.mono _ _)
   | (with_reducible exact view_Get.mono _ _ _ _ _ _ _)
   | (with_reducible exact LeO.refl _)
   | (with_reducible exact LeO.none _)
   | (with_reducible refine LeO.ite ?_ ?_)
   | (with_reducible refine LeO.bind ?_ (fun _ => ?_))
   | exact ih0 _ _ _ _ _ _ _
   | exact ih1 _ _ _ _ _ _ _
   | exact ih2 _ _ _ _ _ _ _ _
   | exact ih3 _ _ _ _ _ _ _ _
   | exact ih4 _ _ _ _ _ _ _ _ _ _ _ _ _
   | exact ih5 _ _ _ _ _ _ _ _ _
   | exact quorumlaw11_Heavy.mono _ _ _ _ _ _ _
   | exact quorumlaw11_wakes.mono _
   | exact quorumref8_Get.mono _ _ _ _
   | exact quorumref8_Last.mono _ _ _ _ _
   | exact quorumref8_Pend.mono _ _ _
   | exact quorumref8_Tables.mono _ _
   | exact view_Get.mono _ _ _ _ _ _ _
   | exact LeO.none _
   | refine LeO.ite ?_ ?_
   | refine LeO.bind ?_ (fun _ => ?_)
  ·intro y0 y1 y2 y3 y4 y5 y6 y7
   unfold quorumlaw11_ViewOwn.j2
   repeat' first
   | (with_reducible exact ih0 _ _ _ _ _ _ _)
   | (with_reducible exact ih1 _ _ _ _ _ _ _)
   | (with_reducible exact ih2 _ _ _ _ _ _ _ _)
   | (with_reducible exact ih3 _ _ _ _ _ _ _ _)
   | (with_reducible exact ih4 _ _ _ _ _ _ _ _ _ _ _ _ _)
   | (with_reducible exact ih5 _ _ _ _ _ _ _ _ _)
   | (with_reducible exact quorumlaw11_Heavy.mono _ _ _ _ _ _ _)
   | (with_reducible exact quorumlaw11_wakes.mono _)
   | (with_reducible exact quorumref8_Get.mono _ _ _ _)
   | (with_reducible exact quorumref8_Last.mono _ _ _ _ _)
   | (with_reducible exact quorumref8_Pend.mono _ _ _)
   | (with_reducible exact quorumref8_Tables.mono _ _)
   | (with_reducible exact view_Get.mono _ _ _ _ _ _ _)
   | (with_reducible exact LeO.refl _)
   | (with_reducible exact LeO.none _)
   | (with_reducible refine LeO.ite ?_ ?_)
   | (with_reducible refine LeO.bind ?_ (fun _ => ?_))
   | exact ih0 _ _ _ _ _ _ _
   | exact ih1 _ _ _ _ _ _ _
   | exact ih2 _ _ _ _ _ _ _ _
   | exact ih3 _ _ _ _ _ _ _ _
   | exact ih4 _ _ _ _ _ _ _ _ _ _ _ _ _
   | exact ih5 _ _ _ _ _ _ _ _ _
   | exact quorumlaw11_Heavy.mono _ _ _ _ _ _ _
   | exact quorumlaw11_wakes.mono _
   | exact quorumref8_Get.mono _ _ _ _
   | exact quorumref8_Last.mono _ _ _ _ _
   | exact quorumref8_Pend.mono _ _ _
   | exact quorumref8_Tables.mono _ _
   | exact view_Get.mono _ _ _ _ _ _ _
   | exact LeO.none _
   | refine LeO.ite ?_ ?_
   | refine LeO.bind ?_ (fun _ => ?_)
  ·intro y0 y1 y2 y3 y4 y5 y6 y7
   unfold quorumlaw11_ViewOwn.l1
   repeat' first
   | (with_reducible exact ih0 _ _ _ _ _ _ _)
   | (with_reducible exact ih1 _ _ _ _ _ _ _)
   | (with_reducible exact ih2 _ _ _ _ _ _ _ _)
   | (with_reducible exact ih3 _ _ _ _ _ _ _ _)
   | (with_reducible exact ih4 _ _ _ _ _ _ _ _ _ _ _ _ _)
   | (with_reducible exact ih5 _ _ _ _ _ _ _ _ _)
   | (with_reducible exact quorumlaw11_Heavy.mono _ _ _ _ _ _ _)
   | (with_reducible exact quorumlaw11_wakes.mono _)
   | (with_reducible exact quorumref8_Get.mono _ _ _ _)
   | (with_reducible exact quorumref8_Last.mono _ _ _ _ _)
   | (with_reducible exact quorumref8_Pend.mono _ _ _)
   | (with_reducible exact quorumref8_Tables.mono _ _)
   | (with_reducible exact view_Get.mono _ _ _ _ _ _ _)
   | (with_reducible exact LeO.refl _)
   | (with_reducible exact LeO.none _)
   | (with_reducible refine LeO.ite ?_ ?_)
   | (with_reducible refine LeO.bind ?_ (fun _ => ?_))
   | exact ih0 _ _ _ _ _ _ _
   | exact ih1 _ _ _ _ _ _ _
   | exact ih2 _ _ _ _ _ _ _ _
   | exact ih3 _ _ _ _ _ _ _ _
   | exact ih4 _ _ _ _ _ _ _ _ _ _ _ _ _
   | exact ih5 _ _ _ _ _ _ _ _ _
   | exact quorumlaw11_Heavy.mono _ _ _ _ _ _ _
   | exact quorumlaw11_wakes.mono _
   | exact quorumref8_Get.mono _ _ _ _
   | exact quorumref8_Last.mono _ _ _ _ _
   | exact quorumref8_Pend.mono _ _ _
   | exact quorumref8_Tables.mono _ _
   | exact view_Get.mono _ _ _ _ _ _ _
   | exact LeO.none _
   | refine LeO.ite ?_ ?_
   | refine LeO.bind ?_ (fun _ => ?_)
  ·intro y0 y1 y2 y3 y4 y5 y6 y7 y8 y9 y10 y11 y12
   unfold quorumlaw11_ViewOwn.j4
   repeat' first
   | (with_reducible exact ih0 _ _ _ _ _ _ _)
   | (with_reducible exact ih1 _ _ _ _ _ _ _)
   | (with_reducible exact ih2 _ _ _ _ _ _ _ _)
   | (with_reducible exact ih3 _ _ _ _ _ _ _ _)
   | (with_reducible exact ih4 _ _ _ _ _ _ _ _ _ _ _ _ _)
   | (with_reducible exact ih5 _ _ _ _ _ _ _ _ _)
   | (with_reducible exact quorumlaw11_Heavy.mono _ _ _ _ _ _ _)
   | (with_reducible exact quorumlaw11_wakes.mono _)
   | (with_reducible exact quorumref8_Get.mono _ _ _ _)
   | (with_reducible exact quorumref8_Last.mono _ _ _ _ _)
   | (with_reducible exact quorumref8_Pend.mono _ _ _)
   | (with_reducible exact quorumref8_Tables.mono _ _)
   | (with_reducible exact view_Get.mono _ _ _ _ _ _ _)
   | (with_reducible exact LeO.refl _)
   | (with_reducible exact LeO.none _)
   | (with_reducible refine LeO.ite ?_ ?_)
   | (with_reducible refine LeO.bind ?_ (fun _ => ?_))
   | exact ih0 _ _ _ _ _ _ _
   | exact ih1 _ _ _ _ _ _ _
   | exact ih2 _ _ _ _ _ _ _ _
   | exact ih3 _ _ _ _ _ _ _ _
   | exact ih4 _ _ _ _ _ _ _ _ _ _ _ _ _
   | exact ih5 _ _ _ _ _ _ _ _ _
   | exact quorumlaw11_Heavy.mono _ _ _ _ _ _ _
   | exact quorumlaw11_wakes.mono _
   | exact quorumref8_Get.mono _ _ _ _
   | exact quorumref8_Last.mono _ _ _ _ _
   | exact quorumref8_Pend.mono _ _ _
   | exact quorumref8_Tables.mono _ _
   | exact view_Get.mono _ _ _ _ _ _ _
   | exact LeO.none _
   | refine LeO.ite ?_ ?_
   | refine LeO.bind ?_ (fun _ => ?_)
  ·intro y0 y1 y2 y3 y4 y5 y6 y7 y8
   unfold quorumlaw11_ViewOwn.j5
   repeat' first
   | (with_reducible exact ih0 _ _ _ _ _ _ _)
   | (with_reducible exact ih1 _ _ _ _ _ _ _)
   | (with_reducible exact ih2 _ _ _ _ _ _ _ _)
   | (with_reducible exact ih3 _ _ _ _ _ _ _ _)
   | (with_reducible exact ih4 _ _ _ _ _ _ _ _ _ _ _ _ _)
   | (with_reducible exact ih5 _ _ _ _ _ _ _ _ _)
   | (with_reducible exact quorumlaw11_Heavy.mono _ _ _ _ _ _ _)
   | (with_reducible exact quorumlaw11_wakes.mono _)
   | (with_reducible exact quorumref8_Get.mono _ _ _ _)
   | (with_reducible exact quorumref8_Last.mono _ _ _ _ _)
   | (with_reducible exact quorumref8_Pend.mono _ _ _)
   | (with_reducible exact quorumref8_Tables.mono _ _)
   | (with_reducible exact view_Get.mono _ _ _ _ _ _ _)
   | (with_reducible exact LeO.refl _)
   | (with_reducible exact LeO.none _)
   | (with_reducible refine LeO.ite ?_ ?_)
   | (with_reducible refine LeO.bind ?_ (fun _ => ?_))
   | exact ih0 _ _ _ _ _ _ _
   | exact ih1 _ _ _ _ _ _ _
   | exact ih2 _ _ _ _ _ _ _ _
   | exact ih3 _ _ _ _ _ _ _ _
   | exact ih4 _ _ _ _ _ _ _ _ _ _ _ _ _
   | exact ih5 _ _ _ _ _ _ _ _ _
   | exact quorumlaw11_Heavy.mono _ _ _ _ _ _ _
   | exact quorumlaw11_wakes.mono _
   | exact quorumref8_Get.mono _ _ _ _
   | exact quorumref8_Last.mono _ _ _ _ _
   | exact quorumref8_Pend.mono _ _ _
   | exact quorumref8_Tables.mono _ _
   | exact view_Get.mono _ _ _ _ _ _ _
   | exact LeO.none _
   | refine LeO.ite ?_ ?_
   | refine LeO.bind ?_ (fun _ => ?_)
theorem quorumlaw11_ViewOwn.mono : ∀ a0 a1 a2 a3 a4 a5 k, LeO (quorumlaw11_ViewOwn.f k a0 a1 a2 a3 a4 a5) (quorumlaw11_ViewOwn.f (k + 1) a0 a1 a2 a3 a4 a5) := by
 intro a0 a1 a2 a3 a4 a5 k
 obtain ⟨ih0, ih1, ih2, ih3, ih4, ih5⟩ := quorumlaw11_ViewOwn.mono_l k
 unfold quorumlaw11_ViewOwn.f
 repeat' first
   | (with_reducible exact ih0 _ _ _ _ _ _ _)
   | (with_reducible exact ih1 _ _ _ _ _ _ _)
   | (with_reducible exact ih2 _ _ _ _ _ _ _ _)
   | (with_reducible exact ih3 _ _ _ _ _ _ _ _)
   | (with_reducible exact ih4 _ _ _ _ _ _ _ _ _ _ _ _ _)
   | (with_reducible exact ih5 _ _ _ _ _ _ _ _ _)
   | (with_reducible exact quorumlaw11_Heavy.mono _ _ _ _ _ _ _)
   | (with_reducible exact quorumlaw11_wakes.mono _)
   | (with_reducible exact quorumref8_Get.mono _ _ _ _)
   | (with_reducible exact quorumref8_Last.mono _ _ _ _ _)
   | (with_reducible exact quorumref8_Pend.mono _ _ _)
   | (with_reducible exact quorumref8_Tables.mono _ _)
   | (with_reducible exact view_Get.mono _ _ _ _ _ _ _)
   | (with_reducible exact LeO.refl _)
   | (with_reducible exact LeO.none _)
   | (with_reducible refine LeO.ite ?_ ?_)
   | (with_reducible refine LeO.bind ?_ (fun _ => ?_))
   | exact ih0 _ _ _ _ _ _ _
   | exact ih1 _ _ _ _ _ _ _
   | exact ih2 _ _ _ _ _ _ _ _
   | exact ih3 _ _ _ _ _ _ _ _
   | exact ih4 _ _ _ _ _ _ _ _ _ _ _ _ _
   | exact ih5 _ _ _ _ _ _ _ _ _
   | exact quorumlaw11_Heavy.mono _ _ _ _ _ _ _
   | exact quorumlaw11_wakes.mono _
   | exact quorumref8_Get.mono _ _ _ _
   | exact quorumref8_Last.mono _ _ _ _ _
   | exact quorumref8_Pend.mono _ _ _
   | exact quorumref8_Tables.mono _ _
   | exact view_Get.mono _ _ _ _ _ _ _
   | exact LeO.none _
   | refine LeO.ite ?_ ?_
   | refine LeO.bind ?_ (fun _ => ?_)
def quorumlaw11_ViewOwn.T12 : Bool × List (List Nat × List Nat) := (true, [([], []), ([0], [0]), ([], []), ([1, 2], [1, 2]), ([3], [3]), ([], []), ([5], [5]), ([], []), ([7], [7]), ([4, 6, 8], [4, 6, 8]), ([9], [9]), ([10], [10]), ([10], [10]), ([], []), ([13, 11, 9, 0, 1, 2, 3, 4, 5, 6, 7, 8, 9, 10, 11, 13], [11, 13]), ([12, 14, 0, 1, 2, 3, 4, 5, 6, 7, 8, 9, 10, 11, 12, 13, 14], [12])])
def quorumlaw11_ViewOwn.B12 : List Nat := [0, 1, 0, 7, 15, 0, 32, 0, 128, 511, 1023, 2047, 2047, 0, 12287, 32767]
theorem quorumlaw11_ViewOwn.tab12 : rtab .any (opsOf Try.f3 12) = quorumlaw11_ViewOwn.T12 := by kernel_rfl
theorem quorumlaw11_ViewOwn.bits12 : waitsOk quorumlaw11_ViewOwn.T12.2 quorumlaw11_ViewOwn.B12 = true := by kernel_rfl
def quorumlaw11_ViewOwn.T13 : Bool × List (List Nat × List Nat) := (true, [([], []), ([0], [0]), ([], []), ([2], [2]), ([], []), ([3, 4], [3, 4]), ([5], [5]), ([], []), ([7], [7]), ([], []), ([9], [9]), ([1, 6, 8, 10], [1, 6, 8, 10]), ([11], [11]), ([12], [12]), ([12], [12]), ([13, 11, 0, 1, 2, 3, 4, 5, 6, 7, 8, 9, 10, 11, 12, 13], [13]), ([14, 15, 0, 1, 2, 3, 4, 5, 6, 7, 8, 9, 10, 11, 12, 13, 14, 15], [14])])
def quorumlaw11_ViewOwn.B13 : List Nat := [0, 1, 0, 4, 0, 28, 60, 0, 128, 0, 512, 2047, 4095, 8191, 8191, 16383, 65535]
theorem quorumlaw11_ViewOwn.tab13 : rtab .any (opsOf Try.f3 13) = quorumlaw11_ViewOwn.T13 := by kernel_rfl
theorem quorumlaw11_ViewOwn.bits13 : waitsOk quorumlaw11_ViewOwn.T13.2 quorumlaw11_ViewOwn.B13 = true := by kernel_rfl
def quorumlaw11_ViewOwn.T17 : Bool × List (List Nat × List Nat) := (true, [([], []), ([0], [0]), ([], []), ([2], [2]), ([1, 3], [1, 3]), ([4], [4]), ([], []), ([6], [6]), ([5, 7], [5, 7]), ([8], [8]), ([9], [9]), ([9], [9]), ([10, 8, 0, 1, 2, 3, 4, 5, 6, 7, 8, 9, 10], [10]), ([11, 12, 0, 1, 2, 3, 4, 5, 6, 7, 8, 9, 10, 11, 12], [11])])
def quorumlaw11_ViewOwn.B17 : List Nat := [0, 1, 0, 4, 15, 31, 0, 64, 255, 511, 1023, 1023, 2047, 8191]
theorem quorumlaw11_ViewOwn.tab17 : rtab .any (opsOf Try.f3 17) = quorumlaw11_ViewOwn.T17 := by kernel_rfl
theorem quorumlaw11_ViewOwn.bits17 : waitsOk quorumlaw11_ViewOwn.T17.2 quorumlaw11_ViewOwn.B17 = true := by kernel_rfl
set_option maxHeartbeats 8000000 in
set_option maxRecDepth 100000 in
theorem quorumlaw11_ViewOwn.calls (k : Nat) (A0_0 : Option Addr) (c0_0 : Nat) (l0_0 : List (S47)) (A0_1 : Option Addr) (c0_1 : Nat) (l0_1 : List (S34)) (A0_2 : Option Addr) (c0_2 : Nat) (l0_2 : List Int) (A0_3 : Option Addr) (c0_3 : Nat) (l0_3 : List ByteArray) (A0_4 : Option Addr) (c0_4 : Nat) (l0_4 : List (S74)) (A0_5 : Option Addr) (c0_5 : Nat) (l0_5 : List Int) (r : Bool) (w : World) (hr0_0 : Kd.C k47 w A0_0 l0_0.length l0_0) (hc0_0 : l0_0.length ≤ c0_0) (hr0_1 : Kd.C k34 w A0_1 l0_1.length l0_1) (hc0_1 : l0_1.length ≤ c0_1) (hr0_2 : Kd.C (Kd.int .i64) w A0_2 l0_2.length l0_2) (hc0_2 : l0_2.length ≤ c0_2) (hr0_3 : Kd.C Kd.string w A0_3 l0_3.length l0_3) (hc0_3 : l0_3.length ≤ c0_3) (hr0_4 : Kd.C k74 w A0_4 l0_4.length l0_4) (hc0_4 : l0_4.length ≤ c0_4) (hr0_5 : Kd.C (Kd.int .i64) w A0_5 l0_5.length l0_5) (hc0_5 : l0_5.length ≤ c0_5) (h : quorumlaw11_ViewOwn.f k l0_0 l0_1 l0_2 l0_3 l0_4 l0_5 = some r) :
  Calls Try.prog 3 #[.agg #[.slice A0_0 l0_0.length c0_0, .slice A0_1 l0_1.length c0_1, .slice A0_2 l0_2.length c0_2, .slice A0_3 l0_3.length c0_3, .slice A0_4 l0_4.length c0_4, .slice A0_5 l0_5.length c0_5]] w fun e w' => e = .returned (.bool r) ∧ Below w.heap.size w w' := by
 have hu28 := Try.underlying28
 have hu34 := Try.underlying34
 have hu36 := Try.underlying36
 have hu47 := Try.underlying47
 have HR0_0 := mk0 hr0_0
 have HC0_0 := mk0 hc0_0
 clear hr0_0 hc0_0
 have HR0_1 := mk0 hr0_1
 have HC0_1 := mk0 hc0_1
 clear hr0_1 hc0_1
 have HR0_2 := mk0 hr0_2
 have HC0_2 := mk0 hc0_2
 clear hr0_2 hc0_2
 have HR0_3 := mk0 hr0_3
 have HC0_3 := mk0 hc0_3
 clear hr0_3 hc0_3
 have HR0_4 := mk0 hr0_4
 have HC0_4 := mk0 hc0_4
 clear hr0_4 hc0_4
 have HR0_5 := mk0 hr0_5
 have HC0_5 := mk0 hc0_5
 clear hr0_5 hc0_5
 have HB := mk0 (Below.refl w.heap.size w)
 have H : ((quorumlaw11_Heavy.f k l0_0 l0_1 l0_2 l0_3 l0_4 l0_5).bind fun t258 => (if t258 = true then (quorumlaw11_ViewOwn.j0 k true l0_0 l0_1 l0_2 l0_3 l0_4 l0_5) else ((quorumref8_Tables.f k l0_0).bind fun t259 => (quorumlaw11_ViewOwn.j0 k (!t259) l0_0 l0_1 l0_2 l0_3 l0_4 l0_5)))) = some r := h
 clear h
 have HC2 := mk0 H
 clear H
 go_enter Try.func3, Try.ntmps3
 go_upto_region 1 with (first | ((with_reducible refine gate_dst (N := 1) rfl ?_); refine bx_ (N := 1) (cs := #[.slice A0_0 l0_0.length c0_0, .slice A0_1 l0_1.length c0_1, .slice A0_2 l0_2.length c0_2, .slice A0_3 l0_3.length c0_3, .slice A0_4 l0_4.length c0_4, .slice A0_5 l0_5.length c0_5]) (t := 28) (h := ?_); intro gb257 hg w3 hbox hb; have n2_ := mk0 (gz_ HB hg); have n3_ := mk0 (gz_ HB hg); replace HB := mk0 (bt_ (b_ HB) hb); have BK257 := mk0 (hbox); have GW257 := n2_; have GE257 := n3_; clear n2_ n3_; clear hb hbox hg))
 (try simp only [Act.put, List.setIfInBounds_toArray, List.set_cons_zero, List.set_cons_succ])
 go_cut [21] (fun v21 wc => ∃ (kq : Nat) (x21_1 : Bool), v21 = .bool x21_1 ∧ Fc (quorumlaw11_ViewOwn.j0 kq x21_1 l0_0 l0_1 l0_2 l0_3 l0_4 l0_5 = some r) ∧ Fc (kq ≤ k) ∧ Fc (wc.heap[gb257]? = some (.cells #[(.slice A0_0 l0_0.length c0_0), (.slice A0_1 l0_1.length c0_1), (.slice A0_2 l0_2.length c0_2), (.slice A0_3 l0_3.length c0_3), (.slice A0_4 l0_4.length c0_4), (.slice A0_5 l0_5.length c0_5)] 28 (0, 0))) ∧ Fc (Below w.heap.size w wc))
 case first =>
  have H := HC2.out
  clear HC2
  replace H := Option.bind_eq_some_iff.mp H
  obtain ⟨t258, A40, H⟩ := H
  try dsimp only at H
  have A4 := mk0 A40
  clear A40
  by_cases c5 : t258 = true
  ·subst c5
   rw [if_pos rfl] at H
   have H' := mk0 H
   clear H
   obtain ⟨hcz6_0, hcz6_1, hcz6_2, hcz6_3, hcz6_4, hcz6_5, hfz6_0, hfz6_1, hfz6_2, hfz6_3, hfz6_4, hfz6_5⟩ := c6_ BK257
   go_wp2_with (first | ((with_reducible refine gate_callee (f := 14) rfl ?_); refine gL_ (some 15) Try.func14 #[.agg #[.slice A0_0 l0_0.length c0_0, .slice A0_1 l0_1.length c0_1, .slice A0_2 l0_2.length c0_2, .slice A0_3 l0_3.length c0_3, .slice A0_4 l0_4.length c0_4, .slice A0_5 l0_5.length c0_5]] (h := ?_); (with_reducible refine (quorumlaw11_Heavy.calls k _ _ l0_0 _ _ l0_1 _ _ l0_2 _ _ l0_3 _ _ l0_4 _ _ l0_5 true _ ?side1 ?side2 ?side3 ?side4 ?side5 ?side6 ?side7 ?side8 ?side9 ?side10 ?side11 ?side12 A4.out).mono ?_); (case side1 => exact cb_ HR0_0 HB); (case side2 => exact HC0_0.out); (case side3 => exact cb_ HR0_1 HB); (case side4 => exact HC0_1.out); (case side5 => exact cb_ HR0_2 HB); (case side6 => exact HC0_2.out); (case side7 => exact cb_ HR0_3 HB); (case side8 => exact HC0_3.out); (case side9 => exact cb_ HR0_4 HB); (case side10 => exact HC0_4.out); (case side11 => exact cb_ HR0_5 HB); (case side12 => exact HC0_5.out); rintro e w7 ⟨rfl, hb⟩; refine ⟨_, rfl, ?_⟩; replace BK257 := mk0 (u_ BK257 hb); replace HB := mk0 (bt_ (b_ HB) hb); (try clear hb)))
   go_meet
   case rel => exact ⟨_, (true), (by first | rfl | (simp; done) | (simp [*]; done)), H', ⟨by first | omega | exact Nat.le_refl _⟩, ⟨h_ BK257⟩, ⟨b_ HB⟩⟩
  ·replace c5 := Bool.eq_false_iff.mpr c5
   subst c5
   rw [if_neg (show ¬ (false = true) by decide)] at H
   replace H := Option.bind_eq_some_iff.mp H
   obtain ⟨t259, A80, H⟩ := H
   try dsimp only at H
   have A8 := mk0 A80
   clear A80
   have H' := mk0 H
   clear H
   obtain ⟨hcz9_0, hcz9_1, hcz9_2, hcz9_3, hcz9_4, hcz9_5, hfz9_0, hfz9_1, hfz9_2, hfz9_3, hfz9_4, hfz9_5⟩ := c6_ BK257
   go_wp2_with (first | ((with_reducible refine gate_callee (f := 14) rfl ?_); refine gL_ (some 15) Try.func14 #[.agg #[.slice A0_0 l0_0.length c0_0, .slice A0_1 l0_1.length c0_1, .slice A0_2 l0_2.length c0_2, .slice A0_3 l0_3.length c0_3, .slice A0_4 l0_4.length c0_4, .slice A0_5 l0_5.length c0_5]] (h := ?_); (with_reducible refine (quorumlaw11_Heavy.calls k _ _ l0_0 _ _ l0_1 _ _ l0_2 _ _ l0_3 _ _ l0_4 _ _ l0_5 false _ ?side1 ?side2 ?side3 ?side4 ?side5 ?side6 ?side7 ?side8 ?side9 ?side10 ?side11 ?side12 A4.out).mono ?_); (case side1 => exact cb_ HR0_0 HB); (case side2 => exact HC0_0.out); (case side3 => exact cb_ HR0_1 HB); (case side4 => exact HC0_1.out); (case side5 => exact cb_ HR0_2 HB); (case side6 => exact HC0_2.out); (case side7 => exact cb_ HR0_3 HB); (case side8 => exact HC0_3.out); (case side9 => exact cb_ HR0_4 HB); (case side10 => exact HC0_4.out); (case side11 => exact cb_ HR0_5 HB); (case side12 => exact HC0_5.out); rintro e w10 ⟨rfl, hb⟩; refine ⟨_, rfl, ?_⟩; replace BK257 := mk0 (u_ BK257 hb); replace HB := mk0 (bt_ (b_ HB) hb); (try clear hb); obtain ⟨hcz11_0, hcz11_1, hcz11_2, hcz11_3, hcz11_4, hcz11_5, hfz11_0, hfz11_1, hfz11_2, hfz11_3, hfz11_4, hfz11_5⟩ := c6_ BK257) | (go_at_call 15; (with_reducible refine (quorumref8_Tables.calls k _ _ l0_0 t259 _ ?side1 ?side2 A8.out).mono ?_); (case side1 => exact cb_ HR0_0 HB); (case side2 => exact HC0_0.out); rintro e w12 ⟨rfl, hb⟩; replace BK257 := mk0 (u_ BK257 hb); replace HB := mk0 (bt_ (b_ HB) hb); (try clear hb)))
   go_meet
   case rel => exact ⟨_, (!t259), (by first | rfl | (simp; done) | (simp [*]; done)), H', ⟨by first | omega | exact Nat.le_refl _⟩, ⟨h_ BK257⟩, ⟨b_ HB⟩⟩
 case rest =>
  clear HC2
  try clear c5
  try clear hcz11_0
  try clear hcz11_1
  try clear hcz11_2
  try clear hcz11_3
  try clear hcz11_4
  try clear hcz11_5
  try clear hcz6_0
  try clear hcz6_1
  try clear hcz6_2
  try clear hcz6_3
  try clear hcz6_4
  try clear hcz6_5
  try clear hcz9_0
  try clear hcz9_1
  try clear hcz9_2
  try clear hcz9_3
  try clear hcz9_4
  try clear hcz9_5
  try clear hfz11_0
  try clear hfz11_1
  try clear hfz11_2
  try clear hfz11_3
  try clear hfz11_4
  try clear hfz11_5
  try clear hfz6_0
  try clear hfz6_1
  try clear hfz6_2
  try clear hfz6_3
  try clear hfz6_4
  try clear hfz6_5
  try clear hfz9_0
  try clear hfz9_1
  try clear hfz9_2
  try clear hfz9_3
  try clear hfz9_4
  try clear hfz9_5
  obtain ⟨kq, x21_1, rfl, HA, HJ1, BK257, HB⟩ := hcut
  cases kq with
  | zero => exact absurd HA.out (by simp [quorumlaw11_ViewOwn.j0])
  | succ kj1 =>
   have H := HA.out
   clear HA
   simp only [quorumlaw11_ViewOwn.j0] at H
   as_aux_lemma =>
    by_cases c13 : x21_1 = true
    ·subst c13
     rw [if_pos rfl] at H
     obtain rfl := Option.some.inj H
     go_wp2
     go_ret
     exact ⟨by first | rfl | (simp [errW_none, errW_some] <;> rfl) | (simp [*, errW_none, errW_some] <;> rfl), b_ HB⟩
    ·replace c13 := Bool.eq_false_iff.mpr c13
     subst c13
     rw [if_neg (show ¬ (false = true) by decide)] at H
     have H' := mk0 H
     clear H
     go_wp2
     go_loopg [3] kj1 (fun kq v3 w' => ∃ (x3_2 : Int), v3 = .int .i64 x3_2 ∧ Fc (quorumlaw11_ViewOwn.l0 kq x3_2 l0_0 l0_1 l0_2 l0_3 l0_4 l0_5 = some r) ∧ Fc (kq ≤ kj1) ∧ Fc (w'.heap[gb257]? = some (.cells #[(.slice A0_0 l0_0.length c0_0), (.slice A0_1 l0_1.length c0_1), (.slice A0_2 l0_2.length c0_2), (.slice A0_3 l0_3.length c0_3), (.slice A0_4 l0_4.length c0_4), (.slice A0_5 l0_5.length c0_5)] 28 (0, 0))) ∧ Fc (Below w.heap.size w w'))
     case atStart => exact ⟨(0), (by first | rfl | (simp; done) | (simp [*]; done)), H', ⟨Nat.le_refl _⟩, ⟨h_ BK257⟩, ⟨b_ HB⟩⟩
     case round =>
      clear H'
      try clear c5
      try clear c13
      try clear hcz11_0
      try clear hcz11_1
      try clear hcz11_2
      try clear hcz11_3
      try clear hcz11_4
      try clear hcz11_5
      try clear hcz6_0
      try clear hcz6_1
      try clear hcz6_2
      try clear hcz6_3
      try clear hcz6_4
      try clear hcz6_5
      try clear hcz9_0
      try clear hcz9_1
      try clear hcz9_2
      try clear hcz9_3
      try clear hcz9_4
      try clear hcz9_5
      try clear hfz11_0
      try clear hfz11_1
      try clear hfz11_2
      try clear hfz11_3
      try clear hfz11_4
      try clear hfz11_5
      try clear hfz6_0
      try clear hfz6_1
      try clear hfz6_2
      try clear hfz6_3
      try clear hfz6_4
      try clear hfz6_5
      try clear hfz9_0
      try clear hfz9_1
      try clear hfz9_2
      try clear hfz9_3
      try clear hfz9_4
      try clear hfz9_5
      obtain ⟨x3_2, rfl, HA, HK2, BK257, HB⟩ := hrel
      cases gk with
      | zero => exact absurd HA.out (by simp [quorumlaw11_ViewOwn.l0])
      | succ k2 =>
       have H := HA.out
       clear HA
       simp only [quorumlaw11_ViewOwn.l0] at H
       as_aux_lemma =>
        have HC14 := mk0 H
        clear H
        go_upto_region 4 with (fail)
        go_cut [30] (fun v30 wc => ∃ (kq : Nat) (x30_13 : Bool), v30 = .bool x30_13 ∧ Fc (quorumlaw11_ViewOwn.j2 kq x3_2 x30_13 l0_0 l0_1 l0_2 l0_3 l0_4 l0_5 = some r) ∧ Fc (kq ≤ k2) ∧ Fc (wc.heap[gb257]? = some (.cells #[(.slice A0_0 l0_0.length c0_0), (.slice A0_1 l0_1.length c0_1), (.slice A0_2 l0_2.length c0_2), (.slice A0_3 l0_3.length c0_3), (.slice A0_4 l0_4.length c0_4), (.slice A0_5 l0_5.length c0_5)] 28 (0, 0))) ∧ Fc (Below w.heap.size w wc))
        case first =>
         have H := HC14.out
         clear HC14
         by_cases c15 : x3_2 < (l0_1.length : Int)
         ·rw [if_pos c15] at H
          have c15b0 : decide (x3_2 < (l0_1.length : Int)) = true := decide_eq_true c15
          clear c15
          (first | rw [c15b0] | (simp only [i64_w, i32_w]; rw [c15b0]) | skip)
          have H' := mk0 H
          clear H
          obtain ⟨hcz16_0, hcz16_1, hcz16_2, hcz16_3, hcz16_4, hcz16_5, hfz16_0, hfz16_1, hfz16_2, hfz16_3, hfz16_4, hfz16_5⟩ := c6_ BK257
          go_wp2
          go_meet
          case rel => exact ⟨_, (decide (x3_2 < 6)), (by first | rfl | (simp; done) | (simp [*]; done)), H', ⟨by have := HJ1.out; have := HK2.out; first | omega | exact Nat.le_refl _⟩, ⟨h_ BK257⟩, ⟨b_ HB⟩⟩
         ·rw [if_neg c15] at H
          have c15b0 : decide (x3_2 < (l0_1.length : Int)) = false := decide_eq_false c15
          clear c15
          (first | rw [c15b0] | (simp only [i64_w, i32_w]; rw [c15b0]) | skip)
          have H' := mk0 H
          clear H
          obtain ⟨hcz17_0, hcz17_1, hcz17_2, hcz17_3, hcz17_4, hcz17_5, hfz17_0, hfz17_1, hfz17_2, hfz17_3, hfz17_4, hfz17_5⟩ := c6_ BK257
          go_wp2
          go_meet
          case rel => exact ⟨_, (false), (by first | rfl | (simp; done) | (simp [*]; done)), H', ⟨by have := HJ1.out; have := HK2.out; first | omega | exact Nat.le_refl _⟩, ⟨h_ BK257⟩, ⟨b_ HB⟩⟩
        case rest =>
         clear HC14
         try clear c5
         try clear c13
         try clear c15
         try clear c15b0
         try clear hcz11_0
         try clear hcz11_1
         try clear hcz11_2
         try clear hcz11_3
         try clear hcz11_4
         try clear hcz11_5
         try clear hcz16_0
         try clear hcz16_1
         try clear hcz16_2
         try clear hcz16_3
         try clear hcz16_4
         try clear hcz16_5
         try clear hcz17_0
         try clear hcz17_1
         try clear hcz17_2
         try clear hcz17_3
         try clear hcz17_4
         try clear hcz17_5
         try clear hcz6_0
         try clear hcz6_1
         try clear hcz6_2
         try clear hcz6_3
         try clear hcz6_4
         try clear hcz6_5
         try clear hcz9_0
         try clear hcz9_1
         try clear hcz9_2
         try clear hcz9_3
         try clear hcz9_4
         try clear hcz9_5
         try clear hfz11_0
         try clear hfz11_1
         try clear hfz11_2
         try clear hfz11_3
         try clear hfz11_4
         try clear hfz11_5
         try clear hfz16_0
         try clear hfz16_1
         try clear hfz16_2
         try clear hfz16_3
         try clear hfz16_4
         try clear hfz16_5
         try clear hfz17_0
         try clear hfz17_1
         try clear hfz17_2
         try clear hfz17_3
         try clear hfz17_4
         try clear hfz17_5
         try clear hfz6_0
         try clear hfz6_1
         try clear hfz6_2
         try clear hfz6_3
         try clear hfz6_4
         try clear hfz6_5
         try clear hfz9_0
         try clear hfz9_1
         try clear hfz9_2
         try clear hfz9_3
         try clear hfz9_4
         try clear hfz9_5
         obtain ⟨kq, x30_13, rfl, HA, HJ13, BK257, HB⟩ := hcut
         cases kq with
         | zero => exact absurd HA.out (by simp [quorumlaw11_ViewOwn.j2])
         | succ kj13 =>
          have H := HA.out
          clear HA
          simp only [quorumlaw11_ViewOwn.j2] at H
          as_aux_lemma =>
           by_cases c18 : x30_13 = true
           ·subst c18
            rw [if_pos rfl] at H
            by_cases c19 : 0 ≤ x3_2
            ·rw [if_pos c19] at H
             have c19b0 : decide (0 ≤ x3_2) = true := decide_eq_true c19
             clear c19
             by_cases c20 : x3_2 < (l0_1.length : Int)
             ·rw [if_pos c20] at H
              have c20b0 : decide (x3_2 < (l0_1.length : Int)) = true := decide_eq_true c20
              clear c20
              replace H := Option.bind_eq_some_iff.mp H
              obtain ⟨t261, A210, H⟩ := H
              try dsimp only at H
              have A21 := mk0 A210
              clear A210
              by_cases c22 : t261 = true
              ·subst c22
               rw [if_pos rfl] at H
               have H' := mk0 H
               clear H
               obtain ⟨hcz23_0, hcz23_1, hcz23_2, hcz23_3, hcz23_4, hcz23_5, hfz23_0, hfz23_1, hfz23_2, hfz23_3, hfz23_4, hfz23_5⟩ := c6_ BK257
               have p260 : 0 ≤ (x3_2 : Int) := of_decide_eq_true (by first | (with_reducible assumption) | assumption)
               have q260 : x3_2 < (l0_1.length : Int) := of_decide_eq_true (by first | (with_reducible assumption) | assumption)
               obtain ⟨ad260, A260_0, c260_0, A260_1, c260_1, e260, hx260_0, hx260_1, hl260_0, hi260_0, hl260_1, hi260_1⟩ := at_T34 HR0_1.out x3_2 p260 q260
               cases e260
               replace hx260_0 := (bc_ HB hx260_0 :)
               replace hx260_1 := (bc_ HB hx260_1 :)
               have HR260_0 := mk0 hi260_0
               have HC260_0 := mk0 hl260_0
               clear hi260_0 hl260_0
               have HR260_1 := mk0 hi260_1
               have HC260_1 := mk0 hl260_1
               clear hi260_1 hl260_1
               replace p260 := eq_true p260
               replace q260 := eq_true q260
               go_wp2_with (first | ((with_reducible refine gate_callee (f := 16) rfl ?_); refine gL_ (some 38) Try.func16 #[.agg #[.slice A260_0 ((rd_T34 l0_1 x3_2).f0).length c260_0, .slice A260_1 ((rd_T34 l0_1 x3_2).f1).length c260_1]] (h := ?_); (with_reducible refine (quorumref8_Pend.calls kj13 _ _ ((rd_T34 l0_1 x3_2).f0) _ _ ((rd_T34 l0_1 x3_2).f1) true _ ?side1 ?side2 ?side3 ?side4 A21.out).mono ?_); (case side1 => exact cb_ HR260_0 HB); (case side2 => exact HC260_0.out); (case side3 => exact cb_ HR260_1 HB); (case side4 => exact HC260_1.out); rintro e w24 ⟨rfl, hb⟩; refine ⟨_, rfl, ?_⟩; replace BK257 := mk0 (u_ BK257 hb); replace HB := mk0 (bt_ (b_ HB) hb); (try clear hb)))
               go_loopg [4] kj13 (fun kq v4 w' => ∃ (x4_4 : Int), v4 = .int .i64 x4_4 ∧ Fc (quorumlaw11_ViewOwn.l1 kq x3_2 x4_4 l0_0 l0_1 l0_2 l0_3 l0_4 l0_5 = some r) ∧ Fc (kq ≤ kj13) ∧ Fc (w'.heap[gb257]? = some (.cells #[(.slice A0_0 l0_0.length c0_0), (.slice (some ad260) l0_1.length c0_1), (.slice A0_2 l0_2.length c0_2), (.slice A0_3 l0_3.length c0_3), (.slice A0_4 l0_4.length c0_4), (.slice A0_5 l0_5.length c0_5)] 28 (0, 0))) ∧ Fc (Below w.heap.size w w'))
               case atStart => exact ⟨(0), (by first | rfl | (simp; done) | (simp [*]; done)), H', ⟨Nat.le_refl _⟩, ⟨h_ BK257⟩, ⟨b_ HB⟩⟩
               case round =>
                clear H'
                try clear c5
                try clear c13
                try clear c15
                try clear c15b0
                try clear c18
                try clear c19
                try clear c19b0
                try clear c20
                try clear c20b0
                try clear c22
                try clear hcz11_0
                try clear hcz11_1
                try clear hcz11_2
                try clear hcz11_3
                try clear hcz11_4
                try clear hcz11_5
                try clear hcz16_0
                try clear hcz16_1
                try clear hcz16_2
                try clear hcz16_3
                try clear hcz16_4
                try clear hcz16_5
                try clear hcz17_0
                try clear hcz17_1
                try clear hcz17_2
                try clear hcz17_3
                try clear hcz17_4
                try clear hcz17_5
                try clear hcz23_0
                try clear hcz23_1
                try clear hcz23_2
                try clear hcz23_3
                try clear hcz23_4
                try clear hcz23_5
                try clear hcz6_0
                try clear hcz6_1
                try clear hcz6_2
                try clear hcz6_3
                try clear hcz6_4
                try clear hcz6_5
                try clear hcz9_0
                try clear hcz9_1
                try clear hcz9_2
                try clear hcz9_3
                try clear hcz9_4
                try clear hcz9_5
                try clear hfz11_0
                try clear hfz11_1
                try clear hfz11_2
                try clear hfz11_3
                try clear hfz11_4
                try clear hfz11_5
                try clear hfz16_0
                try clear hfz16_1
                try clear hfz16_2
                try clear hfz16_3
                try clear hfz16_4
                try clear hfz16_5
                try clear hfz17_0
                try clear hfz17_1
                try clear hfz17_2
                try clear hfz17_3
                try clear hfz17_4
                try clear hfz17_5
                try clear hfz23_0
                try clear hfz23_1
                try clear hfz23_2
                try clear hfz23_3
                try clear hfz23_4
                try clear hfz23_5
                try clear hfz6_0
                try clear hfz6_1
                try clear hfz6_2
                try clear hfz6_3
                try clear hfz6_4
                try clear hfz6_5
                try clear hfz9_0
                try clear hfz9_1
                try clear hfz9_2
                try clear hfz9_3
                try clear hfz9_4
                try clear hfz9_5
                try clear hx260_0
                try clear hx260_1
                try clear p260
                try clear q260
                obtain ⟨x4_4, rfl, HA, HK4, BK257, HB⟩ := hrel
                cases gk with
                | zero => exact absurd HA.out (by simp [quorumlaw11_ViewOwn.l1])
                | succ k4 =>
                 have H := HA.out
                 clear HA
                 simp only [quorumlaw11_ViewOwn.l1] at H
                 as_aux_lemma =>
                  by_cases c25 : 0 ≤ x3_2
                  ·rw [if_pos c25] at H
                   have c25b0 : decide (0 ≤ x3_2) = true := decide_eq_true c25
                   clear c25
                   by_cases c26 : x3_2 < (l0_1.length : Int)
                   ·rw [if_pos c26] at H
                    have c26b0 : decide (x3_2 < (l0_1.length : Int)) = true := decide_eq_true c26
                    clear c26
                    by_cases c27 : x4_4 < (((rd_T34 l0_1 x3_2).f0).length : Int)
                    ·rw [if_pos c27] at H
                     have c27b0 : decide (x4_4 < (((rd_T34 l0_1 x3_2).f0).length : Int)) = true := decide_eq_true c27
                     clear c27
                     by_cases c28 : 0 ≤ x4_4
                     ·rw [if_pos c28] at H
                      have c28b0 : decide (0 ≤ x4_4) = true := decide_eq_true c28
                      clear c28
                      by_cases c29 : ((rd_T36 ((rd_T34 l0_1 x3_2).f0) x4_4).f0) ≥ (l0_0.length : Int)
                      ·rw [if_pos c29] at H
                       have c29b0 : decide ((l0_0.length : Int) ≤ ((rd_T36 ((rd_T34 l0_1 x3_2).f0) x4_4).f0)) = true := decide_eq_true c29
                       clear c29
                       have H' := mk0 H
                       clear H
                       obtain ⟨hcz30_0, hcz30_1, hcz30_2, hcz30_3, hcz30_4, hcz30_5, hfz30_0, hfz30_1, hfz30_2, hfz30_3, hfz30_4, hfz30_5⟩ := c6_ BK257
                       have p262 : 0 ≤ (x3_2 : Int) := of_decide_eq_true (by first | (with_reducible assumption) | assumption)
                       have q262 : x3_2 < (l0_1.length : Int) := of_decide_eq_true (by first | (with_reducible assumption) | assumption)
                       obtain ⟨ad262, A262_0, c262_0, A262_1, c262_1, e262, hx262_0, hx262_1, hl262_0, hi262_0, hl262_1, hi262_1⟩ := at_T34 HR0_1.out x3_2 p262 q262
                       obtain rfl : ad260 = ad262 := (by injection e262)
                       replace hx262_0 := (bc_ HB hx262_0 :)
                       replace hx262_1 := (bc_ HB hx262_1 :)
                       have HR262_0 := mk0 hi262_0
                       have HC262_0 := mk0 hl262_0
                       clear hi262_0 hl262_0
                       have HR262_1 := mk0 hi262_1
                       have HC262_1 := mk0 hl262_1
                       clear hi262_1 hl262_1
                       replace p262 := eq_true p262
                       replace q262 := eq_true q262
                       have p263 : 0 ≤ (x3_2 : Int) := of_decide_eq_true (by first | (with_reducible assumption) | assumption)
                       have q263 : x3_2 < (l0_1.length : Int) := of_decide_eq_true (by first | (with_reducible assumption) | assumption)
                       obtain ⟨ad263, A263_0, c263_0, A263_1, c263_1, e263, hx263_0, hx263_1, hl263_0, hi263_0, hl263_1, hi263_1⟩ := at_T34 HR0_1.out x3_2 p263 q263
                       obtain rfl : ad260 = ad263 := (by injection e263)
                       replace hx263_0 := (bc_ HB hx263_0 :)
                       replace hx263_1 := (bc_ HB hx263_1 :)
                       have HR263_0 := mk0 hi263_0
                       have HC263_0 := mk0 hl263_0
                       clear hi263_0 hl263_0
                       have HR263_1 := mk0 hi263_1
                       have HC263_1 := mk0 hl263_1
                       clear hi263_1 hl263_1
                       replace p263 := eq_true p263
                       replace q263 := eq_true q263
                       have ea_ := Option.some.inj (hx262_0.symm.trans hx263_0)
                       injection ea_ with ea_ en_ ec_
                       subst ea_
                       subst ec_
                       clear en_
                       have ea_ := Option.some.inj (hx262_1.symm.trans hx263_1)
                       injection ea_ with ea_ en_ ec_
                       subst ea_
                       subst ec_
                       clear en_
                       have p264 : 0 ≤ (x4_4 : Int) := of_decide_eq_true (by first | (with_reducible assumption) | assumption)
                       have q264 : x4_4 < (((rd_T34 l0_1 x3_2).f0).length : Int) := of_decide_eq_true (by first | (with_reducible assumption) | assumption)
                       obtain ⟨ad264, e264, hx264_0, hx264_1, hx264_2, hx264_3⟩ := at_T36 HR263_0.out x4_4 p264 q264
                       cases e264
                       replace hx264_0 := (bc_ HB hx264_0 :)
                       replace hx264_1 := (bc_ HB hx264_1 :)
                       replace hx264_2 := (bc_ HB hx264_2 :)
                       replace hx264_3 := (bc_ HB hx264_3 :)
                       replace p264 := eq_true p264
                       replace q264 := eq_true q264
                       go_wp2_with (first | ((with_reducible refine gate_dst (N := 5) rfl ?_); refine bx_ (N := 5) (cs := #[.int .i64 0, .string (⟨#[]⟩ : ByteArray), .string (⟨#[]⟩ : ByteArray), .bool false]) (t := 36) (h := ?_); intro gb265 hg w31 hbox hb; have n3_ := mk0 (gz_ HB hg); have n4_ := mk0 (gz_ HB hg); have n5_ := mk0 (ne1_ BK257 hg); have n6_ := mk0 (ne2_ BK257 hg); replace BK257 := mk0 (u_ BK257 hb); replace HB := mk0 (bt_ (b_ HB) hb); have BK265 := mk0 (hbox); have GW265 := n3_; have GE265 := n4_; have NB257_265 := n5_; have NB265_257 := n6_; clear n3_ n4_ n5_ n6_ hb hbox hg; have hnb32 := NB265_257.out; have hnc32 := NB257_265.out; obtain ⟨hcz33_0, hcz33_1, hcz33_2, hcz33_3, hfz33_0, hfz33_1, hfz33_2, hfz33_3⟩ := c4_ BK265; obtain ⟨hcz34_0, hcz34_1, hcz34_2, hcz34_3, hcz34_4, hcz34_5, hfz34_0, hfz34_1, hfz34_2, hfz34_3, hfz34_4, hfz34_5⟩ := c6_ BK257))
                       go_roundg k4
                       case measure => have := HJ1.out; have := HK2.out; have := HJ13.out; have := HK4.out; omega
                       case rel => exact ⟨(wrap64 (x4_4 + 1)), (by first | rfl | (simp; done) | (simp [*]; done)), H', ⟨by have := HJ1.out; have := HK2.out; have := HJ13.out; have := HK4.out; omega⟩, ⟨(fa_ (fa_ (fa_ (fa_ (h_ BK257) NB257_265.out) NB257_265.out) NB257_265.out) NB257_265.out)⟩, ⟨b_ HB⟩⟩
                      ·rw [if_neg c29] at H
                       have c29b0 : decide ((l0_0.length : Int) ≤ ((rd_T36 ((rd_T34 l0_1 x3_2).f0) x4_4).f0)) = false := decide_eq_false c29
                       clear c29
                       replace H := Option.bind_eq_some_iff.mp H
                       obtain ⟨⟨t267, t268, t269, t270, t271⟩, A350, H⟩ := H
                       try dsimp only at H
                       have A35 := mk0 A350
                       clear A350
                       replace H := Option.bind_eq_some_iff.mp H
                       obtain ⟨⟨t274, t275⟩, A360, H⟩ := H
                       try dsimp only at H
                       have A36 := mk0 A360
                       clear A360
                       have HC37 := mk0 H
                       clear H
                       obtain ⟨hcz38_0, hcz38_1, hcz38_2, hcz38_3, hcz38_4, hcz38_5, hfz38_0, hfz38_1, hfz38_2, hfz38_3, hfz38_4, hfz38_5⟩ := c6_ BK257
                       have p262 : 0 ≤ (x3_2 : Int) := of_decide_eq_true (by first | (with_reducible assumption) | assumption)
                       have q262 : x3_2 < (l0_1.length : Int) := of_decide_eq_true (by first | (with_reducible assumption) | assumption)
                       obtain ⟨ad262, A262_0, c262_0, A262_1, c262_1, e262, hx262_0, hx262_1, hl262_0, hi262_0, hl262_1, hi262_1⟩ := at_T34 HR0_1.out x3_2 p262 q262
                       obtain rfl : ad260 = ad262 := (by injection e262)
                       replace hx262_0 := (bc_ HB hx262_0 :)
                       replace hx262_1 := (bc_ HB hx262_1 :)
                       have HR262_0 := mk0 hi262_0
                       have HC262_0 := mk0 hl262_0
                       clear hi262_0 hl262_0
                       have HR262_1 := mk0 hi262_1
                       have HC262_1 := mk0 hl262_1
                       clear hi262_1 hl262_1
                       replace p262 := eq_true p262
                       replace q262 := eq_true q262
                       have p263 : 0 ≤ (x3_2 : Int) := of_decide_eq_true (by first | (with_reducible assumption) | assumption)
                       have q263 : x3_2 < (l0_1.length : Int) := of_decide_eq_true (by first | (with_reducible assumption) | assumption)
                       obtain ⟨ad263, A263_0, c263_0, A263_1, c263_1, e263, hx263_0, hx263_1, hl263_0, hi263_0, hl263_1, hi263_1⟩ := at_T34 HR0_1.out x3_2 p263 q263
                       obtain rfl : ad260 = ad263 := (by injection e263)
                       replace hx263_0 := (bc_ HB hx263_0 :)
                       replace hx263_1 := (bc_ HB hx263_1 :)
                       have HR263_0 := mk0 hi263_0
                       have HC263_0 := mk0 hl263_0
                       clear hi263_0 hl263_0
                       have HR263_1 := mk0 hi263_1
                       have HC263_1 := mk0 hl263_1
                       clear hi263_1 hl263_1
                       replace p263 := eq_true p263
                       replace q263 := eq_true q263
                       have ea_ := Option.some.inj (hx262_0.symm.trans hx263_0)
                       injection ea_ with ea_ en_ ec_
                       subst ea_
                       subst ec_
                       clear en_
                       have ea_ := Option.some.inj (hx262_1.symm.trans hx263_1)
                       injection ea_ with ea_ en_ ec_
                       subst ea_
                       subst ec_
                       clear en_
                       have p264 : 0 ≤ (x4_4 : Int) := of_decide_eq_true (by first | (with_reducible assumption) | assumption)
                       have q264 : x4_4 < (((rd_T34 l0_1 x3_2).f0).length : Int) := of_decide_eq_true (by first | (with_reducible assumption) | assumption)
                       obtain ⟨ad264, e264, hx264_0, hx264_1, hx264_2, hx264_3⟩ := at_T36 HR263_0.out x4_4 p264 q264
                       cases e264
                       replace hx264_0 := (bc_ HB hx264_0 :)
                       replace hx264_1 := (bc_ HB hx264_1 :)
                       replace hx264_2 := (bc_ HB hx264_2 :)
                       replace hx264_3 := (bc_ HB hx264_3 :)
                       replace p264 := eq_true p264
                       replace q264 := eq_true q264
                       try go_wp2_with (first | ((with_reducible refine gate_dst (N := 5) rfl ?_); refine bx_ (N := 5) (cs := #[.int .i64 0, .string (⟨#[]⟩ : ByteArray), .string (⟨#[]⟩ : ByteArray), .bool false]) (t := 36) (h := ?_); intro gb265 hg w39 hbox hb; have n3_ := mk0 (gz_ HB hg); have n4_ := mk0 (gz_ HB hg); have n5_ := mk0 (ne1_ BK257 hg); have n6_ := mk0 (ne2_ BK257 hg); replace BK257 := mk0 (u_ BK257 hb); replace HB := mk0 (bt_ (b_ HB) hb); have BK265 := mk0 (hbox); have GW265 := n3_; have GE265 := n4_; have NB257_265 := n5_; have NB265_257 := n6_; clear n3_ n4_ n5_ n6_ hb hbox hg; have hnb40 := NB265_257.out; have hnc40 := NB257_265.out; obtain ⟨hcz41_0, hcz41_1, hcz41_2, hcz41_3, hfz41_0, hfz41_1, hfz41_2, hfz41_3⟩ := c4_ BK265; obtain ⟨hcz42_0, hcz42_1, hcz42_2, hcz42_3, hcz42_4, hcz42_5, hfz42_0, hfz42_1, hfz42_2, hfz42_3, hfz42_4, hfz42_5⟩ := c6_ BK257))
                       have n0_ : Fc (((((w39.setCell ⟨gb265, 0, none⟩ (.int .i64 ((rd_T36 ((rd_T34 l0_1 x3_2).f0) x4_4).f0))).setCell ⟨gb265, 1, none⟩ (.string ((rd_T36 ((rd_T34 l0_1 x3_2).f0) x4_4).f1))).setCell ⟨gb265, 2, none⟩ (.string ((rd_T36 ((rd_T34 l0_1 x3_2).f0) x4_4).f2))).setCell ⟨gb265, 3, none⟩ (.bool ((rd_T36 ((rd_T34 l0_1 x3_2).f0) x4_4).f3))).heap[gb257]? = some (.cells #[.slice A0_0 l0_0.length c0_0, .slice (some ad260) l0_1.length c0_1, .slice A0_2 l0_2.length c0_2, .slice A0_3 l0_3.length c0_3, .slice A0_4 l0_4.length c0_4, .slice A0_5 l0_5.length c0_5] 28 (0, 0))) := ⟨(fa_ (fa_ (fa_ (fa_ (h_ BK257) NB257_265.out) NB257_265.out) NB257_265.out) NB257_265.out)⟩
                       have n1_ : Fc (((((w39.setCell ⟨gb265, 0, none⟩ (.int .i64 ((rd_T36 ((rd_T34 l0_1 x3_2).f0) x4_4).f0))).setCell ⟨gb265, 1, none⟩ (.string ((rd_T36 ((rd_T34 l0_1 x3_2).f0) x4_4).f1))).setCell ⟨gb265, 2, none⟩ (.string ((rd_T36 ((rd_T34 l0_1 x3_2).f0) x4_4).f2))).setCell ⟨gb265, 3, none⟩ (.bool ((rd_T36 ((rd_T34 l0_1 x3_2).f0) x4_4).f3))).heap[gb265]? = some (.cells #[.int .i64 ((rd_T36 ((rd_T34 l0_1 x3_2).f0) x4_4).f0), .string ((rd_T36 ((rd_T34 l0_1 x3_2).f0) x4_4).f1), .string ((rd_T36 ((rd_T34 l0_1 x3_2).f0) x4_4).f2), .bool ((rd_T36 ((rd_T34 l0_1 x3_2).f0) x4_4).f3)] 36 (0, 0))) := ⟨(pu_ (cs := #[.int .i64 ((rd_T36 ((rd_T34 l0_1 x3_2).f0) x4_4).f0), .string ((rd_T36 ((rd_T34 l0_1 x3_2).f0) x4_4).f1), .string ((rd_T36 ((rd_T34 l0_1 x3_2).f0) x4_4).f2), .bool false]) (pu_ (cs := #[.int .i64 ((rd_T36 ((rd_T34 l0_1 x3_2).f0) x4_4).f0), .string ((rd_T36 ((rd_T34 l0_1 x3_2).f0) x4_4).f1), .string (⟨#[]⟩ : ByteArray), .bool false]) (pu_ (cs := #[.int .i64 ((rd_T36 ((rd_T34 l0_1 x3_2).f0) x4_4).f0), .string (⟨#[]⟩ : ByteArray), .string (⟨#[]⟩ : ByteArray), .bool false]) (pu_ (cs := #[.int .i64 0, .string (⟨#[]⟩ : ByteArray), .string (⟨#[]⟩ : ByteArray), .bool false]) (h_ BK265)))))⟩
                       have n2_ : Fc (Below w.heap.size w ((((w39.setCell ⟨gb265, 0, none⟩ (.int .i64 ((rd_T36 ((rd_T34 l0_1 x3_2).f0) x4_4).f0))).setCell ⟨gb265, 1, none⟩ (.string ((rd_T36 ((rd_T34 l0_1 x3_2).f0) x4_4).f1))).setCell ⟨gb265, 2, none⟩ (.string ((rd_T36 ((rd_T34 l0_1 x3_2).f0) x4_4).f2))).setCell ⟨gb265, 3, none⟩ (.bool ((rd_T36 ((rd_T34 l0_1 x3_2).f0) x4_4).f3)))) := ⟨b_ HB⟩
                       (try clear BK257)
                       (try clear BK265)
                       (try clear HB)
                       generalize ((((w39.setCell ⟨gb265, 0, none⟩ (.int .i64 ((rd_T36 ((rd_T34 l0_1 x3_2).f0) x4_4).f0))).setCell ⟨gb265, 1, none⟩ (.string ((rd_T36 ((rd_T34 l0_1 x3_2).f0) x4_4).f1))).setCell ⟨gb265, 2, none⟩ (.string ((rd_T36 ((rd_T34 l0_1 x3_2).f0) x4_4).f2))).setCell ⟨gb265, 3, none⟩ (.bool ((rd_T36 ((rd_T34 l0_1 x3_2).f0) x4_4).f3))) = w43 at n0_ n1_ n2_ ⊢
                       have BK257 := n0_
                       have BK265 := n1_
                       have HB := n2_
                       clear n0_ n1_ n2_
                       replace BK257 := mk0 (bD_ BK257.out)
                       replace BK265 := mk0 (bD_ BK265.out)
                       replace HB := mk0 (b1_ HB.out)
                       have p266 : 0 ≤ (x3_2 : Int) := of_decide_eq_true (by first | (with_reducible assumption) | assumption)
                       have q266 : x3_2 < (l0_1.length : Int) := of_decide_eq_true (by first | (with_reducible assumption) | assumption)
                       obtain ⟨ad266, A266_0, c266_0, A266_1, c266_1, e266, hx266_0, hx266_1, hl266_0, hi266_0, hl266_1, hi266_1⟩ := at_T34 HR0_1.out x3_2 p266 q266
                       have hw266_1 := hx266_1
                       have hw266_0 := hx266_0
                       obtain rfl : ad260 = ad266 := (by injection e266)
                       replace hx266_0 := (bc_ HB hx266_0 :)
                       replace hx266_1 := (bc_ HB hx266_1 :)
                       have HR266_0 := mk0 hi266_0
                       have HC266_0 := mk0 hl266_0
                       clear hi266_0 hl266_0
                       have HR266_1 := mk0 hi266_1
                       have HC266_1 := mk0 hl266_1
                       clear hi266_1 hl266_1
                       replace p266 := eq_true p266
                       replace q266 := eq_true q266
                       refine start_ (n := 16) (S := fun w' => w'.cell? ⟨gb257, 0, none⟩ = some (.slice A0_0 l0_0.length c0_0) ∧ w'.cell? ⟨gb257, 1, none⟩ = some (.slice (some ad260) l0_1.length c0_1) ∧ w'.cell? ⟨gb257, 2, none⟩ = some (.slice A0_2 l0_2.length c0_2) ∧ w'.cell? ⟨gb257, 3, none⟩ = some (.slice A0_3 l0_3.length c0_3) ∧ w'.cell? ⟨gb257, 4, none⟩ = some (.slice A0_4 l0_4.length c0_4) ∧ w'.cell? ⟨gb257, 5, none⟩ = some (.slice A0_5 l0_5.length c0_5) ∧ w'.cell? ⟨gb265, 0, none⟩ = some (.int .i64 ((rd_T36 ((rd_T34 l0_1 x3_2).f0) x4_4).f0)) ∧ w'.cell? ⟨gb265, 1, none⟩ = some (.string ((rd_T36 ((rd_T34 l0_1 x3_2).f0) x4_4).f1)) ∧ w'.cell? ⟨gb265, 2, none⟩ = some (.string ((rd_T36 ((rd_T34 l0_1 x3_2).f0) x4_4).f2)) ∧ w'.cell? ⟨gb265, 3, none⟩ = some (.bool ((rd_T36 ((rd_T34 l0_1 x3_2).f0) x4_4).f3)) ∧ w'.cell? (ad260.add ((x3_2).toNat * 2)) = some (.slice A266_0 ((rd_T34 l0_1 x3_2).f0).length c266_0) ∧ w'.cell? ⟨(ad260.add ((x3_2).toNat * 2)).block, (ad260.add ((x3_2).toNat * 2)).off + 1, none⟩ = some (.slice A266_1 ((rd_T34 l0_1 x3_2).f1).length c266_1)) (ds := []) (bt 16 0) (by kernel_rfl) rfl rfl ⟨bk_ BK257 0, bk_ BK257 1, bk_ BK257 2, bk_ BK257 3, bk_ BK257 4, bk_ BK257 5, bk_ BK265 0, bk_ BK265 1, bk_ BK265 2, bk_ BK265 3, ((bc_ HB hw266_0 :)), ((bc_ HB hw266_1 :))⟩ (fun hHeld => ?_); refine with_tabW quorumlaw11_ViewOwn.tab12 quorumlaw11_ViewOwn.bits12 (fun HT_ HW_ => ?_)
                       generalize w43.drew = w44 at BK257 BK265 HB HR266_0 HR266_1 hx266_0 hx266_1 hHeld ⊢
                       refine pq_ HT_.out 0 67 (bt 16 1) (h := ?_)
                       refine pq_ HT_.out 2 69 (bt 16 5) (h := ?_)
                       refine pq_ HT_.out 5 72 (bt 16 37) (h := ?_)
                       refine pq_ HT_.out 7 74 (bt 16 165) (h := ?_)
                       refine tq12_ HT_.out HW_.out 1 68 (bt 16 167) hHeld (h := ?_)
                       refine pq_ HT_.out 3 70 (bt 16 175) (h := ?_)
                       refine tq12_ HT_.out HW_.out 4 71 (bt 16 191) hHeld (h := ?_)
                       refine tq12_ HT_.out HW_.out 6 73 (bt 16 255) hHeld (h := ?_)
                       refine tq12_ HT_.out HW_.out 8 75 (bt 16 511) hHeld (h := ?_)
                       refine join_ (σ := Nat) 2 (bt 16 16383) (fun s_ => [(76, .tuple #[.agg #[.int .i64 t267, .string t268, .string t269, .bool t270], .bool t271]), (6, .pointer (some ⟨s_, 0, none⟩)), (66, .tuple #[.agg #[.int .i64 t267, .string t268, .string t269, .bool t270], .bool t271]), (77, .agg #[.int .i64 t267, .string t268, .string t269, .bool t270]), (78, .bool t271)]) (fun s_ w' => (w'.cell? ⟨gb257, 0, none⟩ = some (.slice A0_0 l0_0.length c0_0) ∧ w'.cell? ⟨gb257, 1, none⟩ = some (.slice (some ad260) l0_1.length c0_1) ∧ w'.cell? ⟨gb257, 2, none⟩ = some (.slice A0_2 l0_2.length c0_2) ∧ w'.cell? ⟨gb257, 3, none⟩ = some (.slice A0_3 l0_3.length c0_3) ∧ w'.cell? ⟨gb257, 4, none⟩ = some (.slice A0_4 l0_4.length c0_4) ∧ w'.cell? ⟨gb257, 5, none⟩ = some (.slice A0_5 l0_5.length c0_5) ∧ w'.cell? ⟨gb265, 0, none⟩ = some (.int .i64 ((rd_T36 ((rd_T34 l0_1 x3_2).f0) x4_4).f0)) ∧ w'.cell? ⟨gb265, 1, none⟩ = some (.string ((rd_T36 ((rd_T34 l0_1 x3_2).f0) x4_4).f1)) ∧ w'.cell? ⟨gb265, 2, none⟩ = some (.string ((rd_T36 ((rd_T34 l0_1 x3_2).f0) x4_4).f2)) ∧ w'.cell? ⟨gb265, 3, none⟩ = some (.bool ((rd_T36 ((rd_T34 l0_1 x3_2).f0) x4_4).f3)) ∧ w'.cell? (ad260.add ((x3_2).toNat * 2)) = some (.slice A266_0 ((rd_T34 l0_1 x3_2).f0).length c266_0) ∧ w'.cell? ⟨(ad260.add ((x3_2).toNat * 2)).block, (ad260.add ((x3_2).toNat * 2)).off + 1, none⟩ = some (.slice A266_1 ((rd_T34 l0_1 x3_2).f1).length c266_1)) ∧ (w'.heap[gb257]? = some (.cells #[.slice A0_0 l0_0.length c0_0, .slice (some ad260) l0_1.length c0_1, .slice A0_2 l0_2.length c0_2, .slice A0_3 l0_3.length c0_3, .slice A0_4 l0_4.length c0_4, .slice A0_5 l0_5.length c0_5] 28 (0, 0))) ∧ (w'.heap[gb265]? = some (.cells #[.int .i64 ((rd_T36 ((rd_T34 l0_1 x3_2).f0) x4_4).f0), .string ((rd_T36 ((rd_T34 l0_1 x3_2).f0) x4_4).f1), .string ((rd_T36 ((rd_T34 l0_1 x3_2).f0) x4_4).f2), .bool ((rd_T36 ((rd_T34 l0_1 x3_2).f0) x4_4).f3)] 36 (0, 0))) ∧ (w'.heap[s_]? = some (.cells #[.int .i64 0, .string (⟨#[]⟩ : ByteArray), .string (⟨#[]⟩ : ByteArray), .bool false] 36 (0, 0))) ∧ (w.heap.size ≤ s_) ∧ (w.heap.size ≤ s_) ∧ (gb257 ≠ s_) ∧ (s_ ≠ gb257) ∧ (gb265 ≠ s_) ∧ (s_ ≠ gb265) ∧ (Below w.heap.size w w')) ?_ ?_
                       rotate_left
                       ·intro hCont
                        refine two_ (i := 9) (j := 13) (Ni := some 76) (Nj := some 6) (bt 16 1023) (bt 16 8703) rfl rfl rfl rfl (two_of HT_.out (by kernel_rfl)) (by decide) (by decide) (fun K hK => ?_) (fun K hK => ?_)
                        ·skip
                         refine goes_ Try.func17 (by kernel_rfl) rfl #[.agg #[.slice A266_0 ((rd_T34 l0_1 x3_2).f0).length c266_0, .slice A266_1 ((rd_T34 l0_1 x3_2).f1).length c266_1], .int .i64 ((rd_T36 ((rd_T34 l0_1 x3_2).f0) x4_4).f0), .string ((rd_T36 ((rd_T34 l0_1 x3_2).f0) x4_4).f1)] (by rfl) rfl rfl (by (try simp only [List.map_toArray, List.map_cons, List.map_nil]); first | done | rfl | (simp only [List.length_drop, List.length_take]; rfl)) ?_
                         with_reducible refine (quorumref8_Last.calls k4 _ _ ((rd_T34 l0_1 x3_2).f0) _ _ ((rd_T34 l0_1 x3_2).f1) ((rd_T36 ((rd_T34 l0_1 x3_2).f0) x4_4).f0) ((rd_T36 ((rd_T34 l0_1 x3_2).f0) x4_4).f1) t267 t268 t269 t270 t271 _ ?side1 ?side2 ?side3 ?side4 A35.out).mono ?_
                         (case side1 => exact cb_ HR266_0 HB)
                         (case side2 => exact HC266_0.out)
                         (case side3 => exact cb_ HR266_1 HB)
                         (case side4 => exact HC266_1.out)
                         rintro e w45 ⟨rfl, hb⟩
                         refine ⟨_, rfl, ?_⟩
                         replace BK257 := mk0 (u_ BK257 hb)
                         replace BK265 := mk0 (u_ BK265 hb)
                         replace HB := mk0 (bt_ (b_ HB) hb)
                         (try clear hb)
                         (try clear hb2)
                         (try clear hk)
                         (try clear hi)
                         refine hK.out _ _ ⟨bk_ BK257 0, bk_ BK257 1, bk_ BK257 2, bk_ BK257 3, bk_ BK257 4, bk_ BK257 5, bk_ BK265 0, bk_ BK265 1, bk_ BK265 2, bk_ BK265 3, ((bc_ HB hw266_0 :)), ((bc_ HB hw266_1 :))⟩ (fun hHeld => ?_)
                         clear hK K
                         refine norm_ (a' := ?_) ?_ ?_
                         rotate_left
                         ·show Act.put _ (some 76) _ = _
                          simp only [z_]
                          rfl
                         refine pq_ HT_.out 10 66 (bt 16 2047) (h := ?_)
                         refine pq_ HT_.out 11 77 (bt 16 4095) (h := ?_)
                         refine pq_ HT_.out 12 78 (bt 16 8191) (h := ?_)
                         refine one_ (i := 13) (N := some 6) (bt 16 16383) rfl rfl (one_of HT_.out (by kernel_rfl)) (by decide) (fun K hK => ?_)
                         refine box_step ?hg (N := 6) ?hd (cs := #[.int .i64 0, .string (⟨#[]⟩ : ByteArray), .string (⟨#[]⟩ : ByteArray), .bool false]) (t := 36) ?hr ?_; (case hd => rfl); (case hg => rfl); (case hr => first | (go_simp; done) | (go_simp; rfl))
                         intro gb272 hg w46 hbox hb
                         have n4_ := mk0 (gz_ HB hg)
                         have n5_ := mk0 (gz_ HB hg)
                         have n6_ := mk0 (ne1_ BK257 hg)
                         have n7_ := mk0 (ne2_ BK257 hg)
                         have n8_ := mk0 (ne1_ BK265 hg)
                         have n9_ := mk0 (ne2_ BK265 hg)
                         replace BK257 := mk0 (u_ BK257 hb)
                         replace BK265 := mk0 (u_ BK265 hb)
                         replace HB := mk0 (bt_ (b_ HB) hb)
                         have BK272 := mk0 (hbox)
                         have GW272 := n4_
                         have GE272 := n5_
                         have NB257_272 := n6_
                         have NB272_257 := n7_
                         have NB265_272 := n8_
                         have NB272_265 := n9_
                         clear n4_ n5_ n6_ n7_ n8_ n9_ hb hbox hg
                         refine hK.out _ _ ⟨bk_ BK257 0, bk_ BK257 1, bk_ BK257 2, bk_ BK257 3, bk_ BK257 4, bk_ BK257 5, bk_ BK265 0, bk_ BK265 1, bk_ BK265 2, bk_ BK265 3, ((bc_ HB hw266_0 :)), ((bc_ HB hw266_1 :))⟩ (fun hHeld => ?_)
                         clear hK K
                         refine norm_ (a' := ?_) ?_ ?_
                         rotate_left
                         ·show Act.put _ (some 6) _ = _
                          simp only [z_]
                          rfl
                         exact norm_ (by simp only [putAll, Act.put, List.setIfInBounds_toArray, List.set_cons_zero, List.set_cons_succ]) (hCont (gb272) _ ⟨hHeld, (h_ BK257), (h_ BK265), (h_ BK272), GW272.out, GE272.out, NB257_272.out, NB272_257.out, NB265_272.out, NB272_265.out, (b_ HB)⟩)
                        ·skip
                         refine box_step ?hg (N := 6) ?hd (cs := #[.int .i64 0, .string (⟨#[]⟩ : ByteArray), .string (⟨#[]⟩ : ByteArray), .bool false]) (t := 36) ?hr ?_; (case hd => rfl); (case hg => rfl); (case hr => first | (go_simp; done) | (go_simp; rfl))
                         intro gb272 hg w45 hbox hb
                         have n4_ := mk0 (gz_ HB hg)
                         have n5_ := mk0 (gz_ HB hg)
                         have n6_ := mk0 (ne1_ BK257 hg)
                         have n7_ := mk0 (ne2_ BK257 hg)
                         have n8_ := mk0 (ne1_ BK265 hg)
                         have n9_ := mk0 (ne2_ BK265 hg)
                         replace BK257 := mk0 (u_ BK257 hb)
                         replace BK265 := mk0 (u_ BK265 hb)
                         replace HB := mk0 (bt_ (b_ HB) hb)
                         have BK272 := mk0 (hbox)
                         have GW272 := n4_
                         have GE272 := n5_
                         have NB257_272 := n6_
                         have NB272_257 := n7_
                         have NB265_272 := n8_
                         have NB272_265 := n9_
                         clear n4_ n5_ n6_ n7_ n8_ n9_ hb hbox hg
                         refine hK.out _ _ ⟨bk_ BK257 0, bk_ BK257 1, bk_ BK257 2, bk_ BK257 3, bk_ BK257 4, bk_ BK257 5, bk_ BK265 0, bk_ BK265 1, bk_ BK265 2, bk_ BK265 3, ((bc_ HB hw266_0 :)), ((bc_ HB hw266_1 :))⟩ (fun hHeld => ?_)
                         clear hK K
                         refine norm_ (a' := ?_) ?_ ?_
                         rotate_left
                         ·show Act.put _ (some 6) _ = _
                          simp only [z_]
                          rfl
                         refine one_ (i := 9) (N := some 76) (bt 16 9215) rfl rfl (one_of HT_.out (by kernel_rfl)) (by decide) (fun K hK => ?_)
                         refine goes_ Try.func17 (by kernel_rfl) rfl #[.agg #[.slice A266_0 ((rd_T34 l0_1 x3_2).f0).length c266_0, .slice A266_1 ((rd_T34 l0_1 x3_2).f1).length c266_1], .int .i64 ((rd_T36 ((rd_T34 l0_1 x3_2).f0) x4_4).f0), .string ((rd_T36 ((rd_T34 l0_1 x3_2).f0) x4_4).f1)] (by rfl) rfl rfl (by (try simp only [List.map_toArray, List.map_cons, List.map_nil]); first | done | rfl | (simp only [List.length_drop, List.length_take]; rfl)) ?_
                         with_reducible refine (quorumref8_Last.calls k4 _ _ ((rd_T34 l0_1 x3_2).f0) _ _ ((rd_T34 l0_1 x3_2).f1) ((rd_T36 ((rd_T34 l0_1 x3_2).f0) x4_4).f0) ((rd_T36 ((rd_T34 l0_1 x3_2).f0) x4_4).f1) t267 t268 t269 t270 t271 _ ?side1 ?side2 ?side3 ?side4 A35.out).mono ?_
                         (case side1 => exact cb_ HR266_0 HB)
                         (case side2 => exact HC266_0.out)
                         (case side3 => exact cb_ HR266_1 HB)
                         (case side4 => exact HC266_1.out)
                         rintro e w46 ⟨rfl, hb⟩
                         refine ⟨_, rfl, ?_⟩
                         replace BK257 := mk0 (u_ BK257 hb)
                         replace BK265 := mk0 (u_ BK265 hb)
                         replace BK272 := mk0 (blk_below (g := gb272) (o := .cells #[.int .i64 0, .string (⟨#[]⟩ : ByteArray), .string (⟨#[]⟩ : ByteArray), .bool false] 36 (0, 0)) (h_ BK272) hb)
                         replace HB := mk0 (bt_ (b_ HB) hb)
                         (try clear hb)
                         (try clear hb2)
                         (try clear hk)
                         (try clear hi)
                         refine hK.out _ _ ⟨bk_ BK257 0, bk_ BK257 1, bk_ BK257 2, bk_ BK257 3, bk_ BK257 4, bk_ BK257 5, bk_ BK265 0, bk_ BK265 1, bk_ BK265 2, bk_ BK265 3, ((bc_ HB hw266_0 :)), ((bc_ HB hw266_1 :))⟩ (fun hHeld => ?_)
                         clear hK K
                         refine norm_ (a' := ?_) ?_ ?_
                         rotate_left
                         ·show Act.put _ (some 76) _ = _
                          simp only [z_]
                          rfl
                         refine pq_ HT_.out 10 66 (bt 16 10239) (h := ?_)
                         refine pq_ HT_.out 11 77 (bt 16 12287) (h := ?_)
                         refine pq_ HT_.out 12 78 (bt 16 16383) (h := ?_)
                         exact norm_ (by simp only [putAll, Act.put, List.setIfInBounds_toArray, List.set_cons_zero, List.set_cons_succ]) (hCont (gb272) _ ⟨hHeld, (h_ BK257), (h_ BK265), (h_ BK272), GW272.out, GE272.out, NB257_272.out, NB272_257.out, NB265_272.out, NB272_265.out, (b_ HB)⟩)
                       rintro gb272 w47 ⟨hS_, h0_, h1_, h2_, h3_, h4_, h5_, h6_, h7_, h8_, h9_⟩
                       have n0_ : Fc (w47.heap[gb257]? = some (.cells #[.slice A0_0 l0_0.length c0_0, .slice (some ad260) l0_1.length c0_1, .slice A0_2 l0_2.length c0_2, .slice A0_3 l0_3.length c0_3, .slice A0_4 l0_4.length c0_4, .slice A0_5 l0_5.length c0_5] 28 (0, 0))) := ⟨h0_⟩
                       have n1_ : Fc (w47.heap[gb265]? = some (.cells #[.int .i64 ((rd_T36 ((rd_T34 l0_1 x3_2).f0) x4_4).f0), .string ((rd_T36 ((rd_T34 l0_1 x3_2).f0) x4_4).f1), .string ((rd_T36 ((rd_T34 l0_1 x3_2).f0) x4_4).f2), .bool ((rd_T36 ((rd_T34 l0_1 x3_2).f0) x4_4).f3)] 36 (0, 0))) := ⟨h1_⟩
                       have n2_ : Fc (w47.heap[gb272]? = some (.cells #[.int .i64 0, .string (⟨#[]⟩ : ByteArray), .string (⟨#[]⟩ : ByteArray), .bool false] 36 (0, 0))) := ⟨h2_⟩
                       have n3_ : Fc (w.heap.size ≤ gb272) := ⟨h3_⟩
                       have n4_ : Fc (w.heap.size ≤ gb272) := ⟨h4_⟩
                       have n5_ : Fc (gb257 ≠ gb272) := ⟨h5_⟩
                       have n6_ : Fc (gb272 ≠ gb257) := ⟨h6_⟩
                       have n7_ : Fc (gb265 ≠ gb272) := ⟨h7_⟩
                       have n8_ : Fc (gb272 ≠ gb265) := ⟨h8_⟩
                       have n9_ : Fc (Below w.heap.size w w47) := ⟨h9_⟩
                       clear BK257 BK265 HB h0_ h1_ h2_ h3_ h4_ h5_ h6_ h7_ h8_ h9_
                       have BK257 := n0_
                       have BK265 := n1_
                       have BK272 := n2_
                       have GW272 := n3_
                       have GE272 := n4_
                       have NB257_272 := n5_
                       have NB272_257 := n6_
                       have NB265_272 := n7_
                       have NB272_265 := n8_
                       have HB := n9_
                       clear n0_ n1_ n2_ n3_ n4_ n5_ n6_ n7_ n8_ n9_
                       have hHeld : w47.cell? ⟨gb257, 0, none⟩ = some (.slice A0_0 l0_0.length c0_0) ∧ w47.cell? ⟨gb257, 1, none⟩ = some (.slice (some ad260) l0_1.length c0_1) ∧ w47.cell? ⟨gb257, 2, none⟩ = some (.slice A0_2 l0_2.length c0_2) ∧ w47.cell? ⟨gb257, 3, none⟩ = some (.slice A0_3 l0_3.length c0_3) ∧ w47.cell? ⟨gb257, 4, none⟩ = some (.slice A0_4 l0_4.length c0_4) ∧ w47.cell? ⟨gb257, 5, none⟩ = some (.slice A0_5 l0_5.length c0_5) ∧ w47.cell? ⟨gb265, 0, none⟩ = some (.int .i64 ((rd_T36 ((rd_T34 l0_1 x3_2).f0) x4_4).f0)) ∧ w47.cell? ⟨gb265, 1, none⟩ = some (.string ((rd_T36 ((rd_T34 l0_1 x3_2).f0) x4_4).f1)) ∧ w47.cell? ⟨gb265, 2, none⟩ = some (.string ((rd_T36 ((rd_T34 l0_1 x3_2).f0) x4_4).f2)) ∧ w47.cell? ⟨gb265, 3, none⟩ = some (.bool ((rd_T36 ((rd_T34 l0_1 x3_2).f0) x4_4).f3)) ∧ w47.cell? (ad260.add ((x3_2).toNat * 2)) = some (.slice A266_0 ((rd_T34 l0_1 x3_2).f0).length c266_0) ∧ w47.cell? ⟨(ad260.add ((x3_2).toNat * 2)).block, (ad260.add ((x3_2).toNat * 2)).off + 1, none⟩ = some (.slice A266_1 ((rd_T34 l0_1 x3_2).f1).length c266_1) := hS_
                       refine norm_ (a' := ?_) ?_ ?_
                       rotate_left
                       ·simp only [putAll, Act.put, List.setIfInBounds_toArray, List.set_cons_zero, List.set_cons_succ]
                        rfl
                       refine one_ (i := 14) (N := none) (bt 16 32767) rfl rfl (one_of HT_.out (by kernel_rfl)) (by decide) (fun K hK => ?_)
                       have hs48 : w47.cell? ⟨gb272, 0, none⟩ = some (.int .i64 0) := bk_ BK272 0
                       have hfs48 := blk_frozen BK272.out 0
                       have hns48_0 := NB257_272.out
                       have hns48_1 := NB265_272.out
                       have hms48_0 := NB272_257.out
                       have hms48_1 := NB272_265.out
                       have hs49 : w47.cell? ⟨gb272, 1, none⟩ = some (.string (⟨#[]⟩ : ByteArray)) := bk_ BK272 1
                       have hfs49 := blk_frozen BK272.out 1
                       have hns49_0 := NB257_272.out
                       have hns49_1 := NB265_272.out
                       have hms49_0 := NB272_257.out
                       have hms49_1 := NB272_265.out
                       have hs50 : w47.cell? ⟨gb272, 2, none⟩ = some (.string (⟨#[]⟩ : ByteArray)) := bk_ BK272 2
                       have hfs50 := blk_frozen BK272.out 2
                       have hns50_0 := NB257_272.out
                       have hns50_1 := NB265_272.out
                       have hms50_0 := NB272_257.out
                       have hms50_1 := NB272_265.out
                       have hs51 : w47.cell? ⟨gb272, 3, none⟩ = some (.bool false) := bk_ BK272 3
                       have hfs51 := blk_frozen BK272.out 3
                       have hns51_0 := NB257_272.out
                       have hns51_1 := NB265_272.out
                       have hms51_0 := NB272_257.out
                       have hms51_1 := NB272_265.out
                       refine skip_ (w1 := ?_) (by rfl) rfl ?_ ?_
                       rotate_left
                       ·go_simp
                        rfl
                       refine hK.out _ _ ⟨(cf_ NB257_272.out ((cf_ NB257_272.out ((cf_ NB257_272.out (cf_ NB257_272.out hHeld.1)))))), (cf_ NB257_272.out ((cf_ NB257_272.out ((cf_ NB257_272.out (cf_ NB257_272.out hHeld.2.1)))))), (cf_ NB257_272.out ((cf_ NB257_272.out ((cf_ NB257_272.out (cf_ NB257_272.out hHeld.2.2.1)))))), (cf_ NB257_272.out ((cf_ NB257_272.out ((cf_ NB257_272.out (cf_ NB257_272.out hHeld.2.2.2.1)))))), (cf_ NB257_272.out ((cf_ NB257_272.out ((cf_ NB257_272.out (cf_ NB257_272.out hHeld.2.2.2.2.1)))))), (cf_ NB257_272.out ((cf_ NB257_272.out ((cf_ NB257_272.out (cf_ NB257_272.out hHeld.2.2.2.2.2.1)))))), (cf_ NB265_272.out ((cf_ NB265_272.out ((cf_ NB265_272.out (cf_ NB265_272.out hHeld.2.2.2.2.2.2.1)))))), (cf_ NB265_272.out ((cf_ NB265_272.out ((cf_ NB265_272.out (cf_ NB265_272.out hHeld.2.2.2.2.2.2.2.1)))))), (cf_ NB265_272.out ((cf_ NB265_272.out ((cf_ NB265_272.out (cf_ NB265_272.out hHeld.2.2.2.2.2.2.2.2.1)))))), (cf_ NB265_272.out ((cf_ NB265_272.out ((cf_ NB265_272.out (cf_ NB265_272.out hHeld.2.2.2.2.2.2.2.2.2.1)))))), (cf_ (nb_ hw266_0 GW272) ((cf_ (nb_ hw266_0 GW272) ((cf_ (nb_ hw266_0 GW272) (cf_ (nb_ hw266_0 GW272) hHeld.2.2.2.2.2.2.2.2.2.2.1)))))), (cf_ (nb_ hw266_1 GW272) ((cf_ (nb_ hw266_1 GW272) ((cf_ (nb_ hw266_1 GW272) (cf_ (nb_ hw266_1 GW272) hHeld.2.2.2.2.2.2.2.2.2.2.2))))))⟩ (fun hHeld => ?_)
                       clear hK K
                       refine pq_ HT_.out 15 7 (bt 16 65535) (h := ?_)
                       refine done_ (done_of HT_.out (by kernel_rfl)) ?_
                       try go_wp2
                       have n0_ : Fc (((((w47.setCell ⟨gb272, 0, none⟩ (.int .i64 t267)).setCell ⟨gb272, 1, none⟩ (.string t268)).setCell ⟨gb272, 2, none⟩ (.string t269)).setCell ⟨gb272, 3, none⟩ (.bool t270)).heap[gb257]? = some (.cells #[.slice A0_0 l0_0.length c0_0, .slice (some ad260) l0_1.length c0_1, .slice A0_2 l0_2.length c0_2, .slice A0_3 l0_3.length c0_3, .slice A0_4 l0_4.length c0_4, .slice A0_5 l0_5.length c0_5] 28 (0, 0))) := ⟨(fa_ (fa_ (fa_ (fa_ (h_ BK257) NB257_272.out) NB257_272.out) NB257_272.out) NB257_272.out)⟩
                       have n1_ : Fc (((((w47.setCell ⟨gb272, 0, none⟩ (.int .i64 t267)).setCell ⟨gb272, 1, none⟩ (.string t268)).setCell ⟨gb272, 2, none⟩ (.string t269)).setCell ⟨gb272, 3, none⟩ (.bool t270)).heap[gb265]? = some (.cells #[.int .i64 ((rd_T36 ((rd_T34 l0_1 x3_2).f0) x4_4).f0), .string ((rd_T36 ((rd_T34 l0_1 x3_2).f0) x4_4).f1), .string ((rd_T36 ((rd_T34 l0_1 x3_2).f0) x4_4).f2), .bool ((rd_T36 ((rd_T34 l0_1 x3_2).f0) x4_4).f3)] 36 (0, 0))) := ⟨(fa_ (fa_ (fa_ (fa_ (h_ BK265) NB265_272.out) NB265_272.out) NB265_272.out) NB265_272.out)⟩
                       have n2_ : Fc (((((w47.setCell ⟨gb272, 0, none⟩ (.int .i64 t267)).setCell ⟨gb272, 1, none⟩ (.string t268)).setCell ⟨gb272, 2, none⟩ (.string t269)).setCell ⟨gb272, 3, none⟩ (.bool t270)).heap[gb272]? = some (.cells #[.int .i64 t267, .string t268, .string t269, .bool t270] 36 (0, 0))) := ⟨(pu_ (cs := #[.int .i64 t267, .string t268, .string t269, .bool false]) (pu_ (cs := #[.int .i64 t267, .string t268, .string (⟨#[]⟩ : ByteArray), .bool false]) (pu_ (cs := #[.int .i64 t267, .string (⟨#[]⟩ : ByteArray), .string (⟨#[]⟩ : ByteArray), .bool false]) (pu_ (cs := #[.int .i64 0, .string (⟨#[]⟩ : ByteArray), .string (⟨#[]⟩ : ByteArray), .bool false]) (h_ BK272)))))⟩
                       have n3_ : Fc (Below w.heap.size w ((((w47.setCell ⟨gb272, 0, none⟩ (.int .i64 t267)).setCell ⟨gb272, 1, none⟩ (.string t268)).setCell ⟨gb272, 2, none⟩ (.string t269)).setCell ⟨gb272, 3, none⟩ (.bool t270))) := ⟨b_ HB⟩
                       (try clear BK257)
                       (try clear BK265)
                       (try clear BK272)
                       (try clear HB)
                       generalize ((((w47.setCell ⟨gb272, 0, none⟩ (.int .i64 t267)).setCell ⟨gb272, 1, none⟩ (.string t268)).setCell ⟨gb272, 2, none⟩ (.string t269)).setCell ⟨gb272, 3, none⟩ (.bool t270)) = w52 at n0_ n1_ n2_ n3_ ⊢
                       have BK257 := n0_
                       have BK265 := n1_
                       have BK272 := n2_
                       have HB := n3_
                       clear n0_ n1_ n2_ n3_
                       replace BK257 := mk0 (bD_ BK257.out)
                       replace BK265 := mk0 (bD_ BK265.out)
                       replace BK272 := mk0 (bD_ BK272.out)
                       replace HB := mk0 (b1_ HB.out)
                       have p273 : 0 ≤ (x3_2 : Int) := of_decide_eq_true (by first | (with_reducible assumption) | assumption)
                       have q273 : x3_2 < (l0_1.length : Int) := of_decide_eq_true (by first | (with_reducible assumption) | assumption)
                       obtain ⟨ad273, A273_0, c273_0, A273_1, c273_1, e273, hx273_0, hx273_1, hl273_0, hi273_0, hl273_1, hi273_1⟩ := at_T34 HR0_1.out x3_2 p273 q273
                       have hw273_1 := hx273_1
                       have hw273_0 := hx273_0
                       obtain rfl : ad260 = ad273 := (by injection e273)
                       replace hx273_0 := (bc_ HB hx273_0 :)
                       replace hx273_1 := (bc_ HB hx273_1 :)
                       have HR273_0 := mk0 hi273_0
                       have HC273_0 := mk0 hl273_0
                       clear hi273_0 hl273_0
                       have HR273_1 := mk0 hi273_1
                       have HC273_1 := mk0 hl273_1
                       clear hi273_1 hl273_1
                       replace p273 := eq_true p273
                       replace q273 := eq_true q273
                       refine start_ (n := 17) (S := fun w' => w'.cell? ⟨gb257, 0, none⟩ = some (.slice A0_0 l0_0.length c0_0) ∧ w'.cell? ⟨gb257, 1, none⟩ = some (.slice (some ad260) l0_1.length c0_1) ∧ w'.cell? ⟨gb257, 2, none⟩ = some (.slice A0_2 l0_2.length c0_2) ∧ w'.cell? ⟨gb257, 3, none⟩ = some (.slice A0_3 l0_3.length c0_3) ∧ w'.cell? ⟨gb257, 4, none⟩ = some (.slice A0_4 l0_4.length c0_4) ∧ w'.cell? ⟨gb257, 5, none⟩ = some (.slice A0_5 l0_5.length c0_5) ∧ w'.cell? ⟨gb265, 0, none⟩ = some (.int .i64 ((rd_T36 ((rd_T34 l0_1 x3_2).f0) x4_4).f0)) ∧ w'.cell? ⟨gb265, 1, none⟩ = some (.string ((rd_T36 ((rd_T34 l0_1 x3_2).f0) x4_4).f1)) ∧ w'.cell? ⟨gb265, 2, none⟩ = some (.string ((rd_T36 ((rd_T34 l0_1 x3_2).f0) x4_4).f2)) ∧ w'.cell? ⟨gb265, 3, none⟩ = some (.bool ((rd_T36 ((rd_T34 l0_1 x3_2).f0) x4_4).f3)) ∧ w'.cell? (ad260.add ((x3_2).toNat * 2)) = some (.slice A273_0 ((rd_T34 l0_1 x3_2).f0).length c273_0) ∧ w'.cell? ⟨(ad260.add ((x3_2).toNat * 2)).block, (ad260.add ((x3_2).toNat * 2)).off + 1, none⟩ = some (.slice A273_1 ((rd_T34 l0_1 x3_2).f1).length c273_1)) (ds := []) (bt 17 0) (by kernel_rfl) rfl rfl ⟨bk_ BK257 0, bk_ BK257 1, bk_ BK257 2, bk_ BK257 3, bk_ BK257 4, bk_ BK257 5, bk_ BK265 0, bk_ BK265 1, bk_ BK265 2, bk_ BK265 3, ((bc_ HB hw273_0 :)), ((bc_ HB hw273_1 :))⟩ (fun hHeld => ?_); refine with_tabW quorumlaw11_ViewOwn.tab13 quorumlaw11_ViewOwn.bits13 (fun HT_ HW_ => ?_)
                       generalize w52.drew = w53 at BK257 BK265 BK272 HB HR273_0 HR273_1 hx273_0 hx273_1 hHeld ⊢
                       refine pq_ HT_.out 0 80 (bt 17 1) (h := ?_)
                       refine pq_ HT_.out 2 82 (bt 17 5) (h := ?_)
                       refine pq_ HT_.out 4 84 (bt 17 21) (h := ?_)
                       refine pq_ HT_.out 7 87 (bt 17 149) (h := ?_)
                       refine pq_ HT_.out 9 89 (bt 17 661) (h := ?_)
                       refine tq12_ HT_.out HW_.out 1 81 (bt 17 663) hHeld (h := ?_)
                       refine tq12_ HT_.out HW_.out 3 83 (bt 17 671) hHeld (h := ?_)
                       refine pq_ HT_.out 5 85 (bt 17 703) (h := ?_)
                       refine tq12_ HT_.out HW_.out 6 86 (bt 17 767) hHeld (h := ?_)
                       refine tq12_ HT_.out HW_.out 8 88 (bt 17 1023) hHeld (h := ?_)
                       refine tq12_ HT_.out HW_.out 10 90 (bt 17 2047) hHeld (h := ?_)
                       refine one_ (i := 11) (N := some 91) (bt 17 4095) rfl rfl (one_of HT_.out (by kernel_rfl)) (by decide) (fun K hK => ?_)
                       refine goes_ Try.func18 (by kernel_rfl) rfl #[.slice A0_0 l0_0.length c0_0, .agg #[.slice A273_0 ((rd_T34 l0_1 x3_2).f0).length c273_0, .slice A273_1 ((rd_T34 l0_1 x3_2).f1).length c273_1], .int .i64 ((rd_T36 ((rd_T34 l0_1 x3_2).f0) x4_4).f0), .string ((rd_T36 ((rd_T34 l0_1 x3_2).f0) x4_4).f1), .int .i64 5] (by rfl) rfl rfl (by (try simp only [List.map_toArray, List.map_cons, List.map_nil]); first | done | rfl | (simp only [List.length_drop, List.length_take]; rfl)) ?_
                       with_reducible refine (view_Get.calls k4 _ _ l0_0 _ _ ((rd_T34 l0_1 x3_2).f0) _ _ ((rd_T34 l0_1 x3_2).f1) ((rd_T36 ((rd_T34 l0_1 x3_2).f0) x4_4).f0) ((rd_T36 ((rd_T34 l0_1 x3_2).f0) x4_4).f1) 5 t274 t275 _ ?side1 ?side2 ?side3 ?side4 ?side5 ?side6 A36.out).mono ?_
                       (case side1 => exact cb_ HR0_0 HB)
                       (case side2 => exact HC0_0.out)
                       (case side3 => exact cb_ HR273_0 HB)
                       (case side4 => exact HC273_0.out)
                       (case side5 => exact cb_ HR273_1 HB)
                       (case side6 => exact HC273_1.out)
                       rintro e w54 ⟨rfl, hb⟩
                       refine ⟨_, rfl, ?_⟩
                       replace BK257 := mk0 (u_ BK257 hb)
                       replace BK265 := mk0 (u_ BK265 hb)
                       replace BK272 := mk0 (u_ BK272 hb)
                       replace HB := mk0 (bt_ (b_ HB) hb)
                       (try clear hb)
                       (try clear hb2)
                       (try clear hk)
                       (try clear hi)
                       refine hK.out _ _ ⟨bk_ BK257 0, bk_ BK257 1, bk_ BK257 2, bk_ BK257 3, bk_ BK257 4, bk_ BK257 5, bk_ BK265 0, bk_ BK265 1, bk_ BK265 2, bk_ BK265 3, ((bc_ HB hw273_0 :)), ((bc_ HB hw273_1 :))⟩ (fun hHeld => ?_)
                       clear hK K
                       refine norm_ (a' := ?_) ?_ ?_
                       rotate_left
                       ·show Act.put _ (some 91) _ = _
                        simp only [z_]
                        rfl
                       refine pq_ HT_.out 12 79 (bt 17 8191) (h := ?_)
                       refine pq_ HT_.out 13 92 (bt 17 16383) (h := ?_)
                       refine pq_ HT_.out 14 93 (bt 17 32767) (h := ?_)
                       refine pq_ HT_.out 15 8 (bt 17 65535) (h := ?_)
                       refine pq_ HT_.out 16 9 (bt 17 131071) (h := ?_)
                       refine done_ (done_of HT_.out (by kernel_rfl)) ?_
                       go_upto_region 14 with (fail)
                       go_cut [116] (fun v116 wc => ∃ (kq : Nat) (x116_36 : Bool), v116 = .bool x116_36 ∧ Fc (quorumlaw11_ViewOwn.j4 kq x3_2 x4_4 x116_36 l0_0 l0_1 l0_2 l0_3 l0_4 l0_5 ((rd_T36 ((rd_T34 l0_1 x3_2).f0) x4_4).f0) ((rd_T36 ((rd_T34 l0_1 x3_2).f0) x4_4).f1) ((rd_T36 ((rd_T34 l0_1 x3_2).f0) x4_4).f2) ((rd_T36 ((rd_T34 l0_1 x3_2).f0) x4_4).f3) = some r) ∧ Fc (kq ≤ k4) ∧ Fc (wc.heap[gb257]? = some (.cells #[(.slice A0_0 l0_0.length c0_0), (.slice (some ad260) l0_1.length c0_1), (.slice A0_2 l0_2.length c0_2), (.slice A0_3 l0_3.length c0_3), (.slice A0_4 l0_4.length c0_4), (.slice A0_5 l0_5.length c0_5)] 28 (0, 0))) ∧ Fc (wc.heap[gb265]? = some (.cells #[.int .i64 ((rd_T36 ((rd_T34 l0_1 x3_2).f0) x4_4).f0), .string ((rd_T36 ((rd_T34 l0_1 x3_2).f0) x4_4).f1), .string ((rd_T36 ((rd_T34 l0_1 x3_2).f0) x4_4).f2), .bool ((rd_T36 ((rd_T34 l0_1 x3_2).f0) x4_4).f3)] 36 (0, 0))) ∧ Fc (wc.heap[gb272]? = some (.cells #[.int .i64 t267, .string t268, .string t269, .bool t270] 36 (0, 0))) ∧ Fc (Below w.heap.size w wc))
                       case first =>
                        have H := HC37.out
                        clear HC37
                        by_cases c55 : t270 = true
                        ·subst c55
                         rw [if_pos rfl] at H
                         replace H := Option.bind_eq_some_iff.mp H
                         obtain ⟨t276, A560, H⟩ := H
                         try dsimp only at H
                         have A56 := mk0 A560
                         clear A560
                         by_cases c57 : t276 = 3
                         ·rw [if_pos c57] at H
                          have c57b0 : (t276 == 3) = true := beq_iff_eq.mpr c57
                          have c57b1 : (t276 != 3) = false := bne_eq_false_iff_eq.mpr c57
                          clear c57
                          (first | rw [c57b0] | (simp only [i64_w, i32_w]; rw [c57b0]) | skip)
                          have H' := mk0 H
                          clear H
                          have hnb58 := NB272_257.out
                          have hnc58 := NB257_272.out
                          have hnb59 := NB272_265.out
                          have hnc59 := NB265_272.out
                          obtain ⟨hcz60_0, hcz60_1, hcz60_2, hcz60_3, hfz60_0, hfz60_1, hfz60_2, hfz60_3⟩ := c4_ BK272
                          go_wp2_with (first | (go_at_call 19; (with_reducible refine (quorumlaw11_num.calls t275 t276 _ A56.out).mono ?_); rintro e w' ⟨rfl, ⟨nd, rfl⟩⟩))
                          go_meet
                          case rel => exact ⟨_, (false), (by first | rfl | (simp; done) | (simp [*]; done)), H', ⟨by have := HJ1.out; have := HK2.out; have := HJ13.out; have := HK4.out; first | omega | exact Nat.le_refl _⟩, ⟨h_ BK257⟩, ⟨h_ BK265⟩, ⟨h_ BK272⟩, ⟨b_ HB⟩⟩
                         ·rw [if_neg c57] at H
                          have c57b0 : (t276 == 3) = false := beq_eq_false_iff_ne.mpr c57
                          have c57b1 : (t276 != 3) = true := bne_iff_ne.mpr c57
                          (first | rw [c57b0] | (simp only [i64_w, i32_w]; rw [c57b0]) | skip)
                          have H' := mk0 H
                          clear H
                          have hnb61 := NB272_257.out
                          have hnc61 := NB257_272.out
                          have hnb62 := NB272_265.out
                          have hnc62 := NB265_272.out
                          obtain ⟨hcz63_0, hcz63_1, hcz63_2, hcz63_3, hfz63_0, hfz63_1, hfz63_2, hfz63_3⟩ := c4_ BK272
                          go_wp2_with (first | (go_at_call 19; (with_reducible refine (quorumlaw11_num.calls t275 t276 _ A56.out).mono ?_); rintro e w' ⟨rfl, ⟨nd, rfl⟩⟩))
                          go_meet
                          case rel => exact ⟨_, (true), (by first | rfl | (simp; done) | (simp [*]; done)), H', ⟨by have := HJ1.out; have := HK2.out; have := HJ13.out; have := HK4.out; first | omega | exact Nat.le_refl _⟩, ⟨h_ BK257⟩, ⟨h_ BK265⟩, ⟨h_ BK272⟩, ⟨b_ HB⟩⟩
                        ·replace c55 := Bool.eq_false_iff.mpr c55
                         subst c55
                         rw [if_neg (show ¬ (false = true) by decide)] at H
                         replace H := Option.bind_eq_some_iff.mp H
                         obtain ⟨t277, A640, H⟩ := H
                         try dsimp only at H
                         have A64 := mk0 A640
                         clear A640
                         by_cases c65 : t277 = 0
                         ·rw [if_pos c65] at H
                          have c65b0 : (t277 == 0) = true := beq_iff_eq.mpr c65
                          have c65b1 : (t277 != 0) = false := bne_eq_false_iff_eq.mpr c65
                          clear c65
                          have H' := mk0 H
                          clear H
                          have hnb66 := NB272_257.out
                          have hnc66 := NB257_272.out
                          have hnb67 := NB272_265.out
                          have hnc67 := NB265_272.out
                          obtain ⟨hcz68_0, hcz68_1, hcz68_2, hcz68_3, hfz68_0, hfz68_1, hfz68_2, hfz68_3⟩ := c4_ BK272
                          go_wp2_with (first | (go_at_call 19; (with_reducible refine (quorumlaw11_num.calls t275 t277 _ A64.out).mono ?_); rintro e w' ⟨rfl, ⟨nd, rfl⟩⟩))
                          go_meet
                          case rel => exact ⟨_, ((t274.toList != t269.toList)), (by first | rfl | (simp; done) | (simp [*]; done)), H', ⟨by have := HJ1.out; have := HK2.out; have := HJ13.out; have := HK4.out; first | omega | exact Nat.le_refl _⟩, ⟨h_ BK257⟩, ⟨h_ BK265⟩, ⟨h_ BK272⟩, ⟨b_ HB⟩⟩
                         ·rw [if_neg c65] at H
                          have c65b0 : (t277 == 0) = false := beq_eq_false_iff_ne.mpr c65
                          have c65b1 : (t277 != 0) = true := bne_iff_ne.mpr c65
                          have H' := mk0 H
                          clear H
                          have hnb69 := NB272_257.out
                          have hnc69 := NB257_272.out
                          have hnb70 := NB272_265.out
                          have hnc70 := NB265_272.out
                          obtain ⟨hcz71_0, hcz71_1, hcz71_2, hcz71_3, hfz71_0, hfz71_1, hfz71_2, hfz71_3⟩ := c4_ BK272
                          go_wp2_with (first | (go_at_call 19; (with_reducible refine (quorumlaw11_num.calls t275 t277 _ A64.out).mono ?_); rintro e w' ⟨rfl, ⟨nd, rfl⟩⟩))
                          go_meet
                          case rel => exact ⟨_, (true), (by first | rfl | (simp; done) | (simp [*]; done)), H', ⟨by have := HJ1.out; have := HK2.out; have := HJ13.out; have := HK4.out; first | omega | exact Nat.le_refl _⟩, ⟨h_ BK257⟩, ⟨h_ BK265⟩, ⟨h_ BK272⟩, ⟨b_ HB⟩⟩
                       case rest =>
                        clear HC37
                        try clear c5
                        try clear c18
                        try clear c26
                        try clear c27
                        try clear c55
                        try clear c57
                        try clear c57b0
                        try clear c57b1
                        try clear c65
                        try clear c65b0
                        try clear c65b1
                        try clear hcz60_0
                        try clear hcz60_1
                        try clear hcz60_2
                        try clear hcz60_3
                        try clear hcz63_0
                        try clear hcz63_1
                        try clear hcz63_2
                        try clear hcz63_3
                        try clear hcz68_0
                        try clear hcz68_1
                        try clear hcz68_2
                        try clear hcz68_3
                        try clear hcz71_0
                        try clear hcz71_1
                        try clear hcz71_2
                        try clear hcz71_3
                        try clear hfz60_0
                        try clear hfz60_1
                        try clear hfz60_2
                        try clear hfz60_3
                        try clear hfz63_0
                        try clear hfz63_1
                        try clear hfz63_2
                        try clear hfz63_3
                        try clear hfz68_0
                        try clear hfz68_1
                        try clear hfz68_2
                        try clear hfz68_3
                        try clear hfz71_0
                        try clear hfz71_1
                        try clear hfz71_2
                        try clear hfz71_3
                        try clear hx273_0
                        try clear hx273_1
                        try clear p273
                        try clear q273
                        obtain ⟨kq, x116_36, rfl, HA, HJ36, BK257, BK265, BK272, HB⟩ := hcut
                        cases kq with
                        | zero => exact absurd HA.out (by simp [quorumlaw11_ViewOwn.j4])
                        | succ kj36 =>
                         have H := HA.out
                         clear HA
                         simp only [quorumlaw11_ViewOwn.j4] at H
                         as_aux_lemma =>
                          by_cases c72 : x116_36 = true
                          ·subst c72
                           rw [if_pos rfl] at H
                           obtain rfl := Option.some.inj H
                           go_wp2
                           go_ret
                           exact ⟨by first | rfl | (simp [errW_none, errW_some] <;> rfl) | (simp [*, errW_none, errW_some] <;> rfl), b_ HB⟩
                          ·replace c72 := Bool.eq_false_iff.mpr c72
                           subst c72
                           rw [if_neg (show ¬ (false = true) by decide)] at H
                           replace H := Option.bind_eq_some_iff.mp H
                           obtain ⟨⟨t278, t279⟩, A730, H⟩ := H
                           try dsimp only at H
                           have A73 := mk0 A730
                           clear A730
                           by_cases c74 : 0 ≤ ((rd_T36 ((rd_T34 l0_1 x3_2).f0) x4_4).f0)
                           ·rw [if_pos c74] at H
                            have c74b0 : decide (0 ≤ ((rd_T36 ((rd_T34 l0_1 x3_2).f0) x4_4).f0)) = true := decide_eq_true c74
                            clear c74
                            by_cases c75 : ((rd_T36 ((rd_T34 l0_1 x3_2).f0) x4_4).f0) < (l0_0.length : Int)
                            ·rw [if_pos c75] at H
                             have c75b0 : decide (((rd_T36 ((rd_T34 l0_1 x3_2).f0) x4_4).f0) < (l0_0.length : Int)) = true := decide_eq_true c75
                             clear c75
                             replace H := Option.bind_eq_some_iff.mp H
                             obtain ⟨⟨t281, t282⟩, A760, H⟩ := H
                             try dsimp only at H
                             have A76 := mk0 A760
                             clear A760
                             have HC77 := mk0 H
                             clear H
                             have hnb78 := NB257_265.out
                             have hnc78 := NB265_257.out
                             have hnb79 := NB257_272.out
                             have hnc79 := NB272_257.out
                             obtain ⟨hcz80_0, hcz80_1, hcz80_2, hcz80_3, hcz80_4, hcz80_5, hfz80_0, hfz80_1, hfz80_2, hfz80_3, hfz80_4, hfz80_5⟩ := c6_ BK257
                             have hnb81 := NB265_272.out
                             have hnc81 := NB272_265.out
                             obtain ⟨hcz82_0, hcz82_1, hcz82_2, hcz82_3, hfz82_0, hfz82_1, hfz82_2, hfz82_3⟩ := c4_ BK265
                             try go_wp2_with (first | ((with_reducible refine gate_callee (f := 18) rfl ?_); refine gL_ (some 125) Try.func18 #[.slice A0_0 l0_0.length c0_0, .agg #[.slice none 0 0, .slice none 0 0], .int .i64 ((rd_T36 ((rd_T34 l0_1 x3_2).f0) x4_4).f0), .string ((rd_T36 ((rd_T34 l0_1 x3_2).f0) x4_4).f1), .int .i64 5] (h := ?_); (refine (view_Get.calls kj36 _ _ l0_0 _ _ ([] : List (S36)) _ _ ([] : List Int) ((rd_T36 ((rd_T34 l0_1 x3_2).f0) x4_4).f0) ((rd_T36 ((rd_T34 l0_1 x3_2).f0) x4_4).f1) 5 t278 t279 _ ?side1 ?side2 ?side3 ?side4 ?side5 ?side6 A73.out).mono ?_); (case side1 => exact cb_ HR0_0 HB); (case side2 => exact HC0_0.out); (case side3 => exact Kd.C_nil _ _); (case side4 => exact Nat.le_refl _); (case side5 => exact Kd.C_nil _ _); (case side6 => exact Nat.le_refl _); rintro e w83 ⟨rfl, hb⟩; refine ⟨_, rfl, ?_⟩; replace BK257 := mk0 (u_ BK257 hb); replace BK265 := mk0 (u_ BK265 hb); replace BK272 := mk0 (u_ BK272 hb); replace HB := mk0 (bt_ (b_ HB) hb); (try clear hb)))
                             replace BK257 := mk0 (bD_ BK257.out)
                             replace BK265 := mk0 (bD_ BK265.out)
                             replace BK272 := mk0 (bD_ BK272.out)
                             replace HB := mk0 (b1_ HB.out)
                             have p280 : 0 ≤ (((rd_T36 ((rd_T34 l0_1 x3_2).f0) x4_4).f0) : Int) := of_decide_eq_true (by first | (with_reducible assumption) | assumption)
                             have q280 : ((rd_T36 ((rd_T34 l0_1 x3_2).f0) x4_4).f0) < (l0_0.length : Int) := of_decide_eq_true (by first | (with_reducible assumption) | assumption)
                             obtain ⟨ad280, A280_0, c280_0, e280, hx280_0, hl280_0, hi280_0⟩ := at_T47 HR0_0.out ((rd_T36 ((rd_T34 l0_1 x3_2).f0) x4_4).f0) p280 q280
                             have hw280_0 := hx280_0
                             cases e280
                             replace hx280_0 := (bc_ HB hx280_0 :)
                             have HR280_0 := mk0 hi280_0
                             have HC280_0 := mk0 hl280_0
                             clear hi280_0 hl280_0
                             replace p280 := eq_true p280
                             replace q280 := eq_true q280
                             refine start_ (n := 14) (S := fun w' => w'.cell? ⟨gb257, 0, none⟩ = some (.slice (some ad280) l0_0.length c0_0) ∧ w'.cell? ⟨gb257, 1, none⟩ = some (.slice (some ad260) l0_1.length c0_1) ∧ w'.cell? ⟨gb257, 2, none⟩ = some (.slice A0_2 l0_2.length c0_2) ∧ w'.cell? ⟨gb257, 3, none⟩ = some (.slice A0_3 l0_3.length c0_3) ∧ w'.cell? ⟨gb257, 4, none⟩ = some (.slice A0_4 l0_4.length c0_4) ∧ w'.cell? ⟨gb257, 5, none⟩ = some (.slice A0_5 l0_5.length c0_5) ∧ w'.cell? ⟨gb265, 0, none⟩ = some (.int .i64 ((rd_T36 ((rd_T34 l0_1 x3_2).f0) x4_4).f0)) ∧ w'.cell? ⟨gb265, 1, none⟩ = some (.string ((rd_T36 ((rd_T34 l0_1 x3_2).f0) x4_4).f1)) ∧ w'.cell? ⟨gb265, 2, none⟩ = some (.string ((rd_T36 ((rd_T34 l0_1 x3_2).f0) x4_4).f2)) ∧ w'.cell? ⟨gb265, 3, none⟩ = some (.bool ((rd_T36 ((rd_T34 l0_1 x3_2).f0) x4_4).f3)) ∧ w'.cell? (ad280.add (((rd_T36 ((rd_T34 l0_1 x3_2).f0) x4_4).f0)).toNat) = some (.slice A280_0 ((rd_T47 l0_0 ((rd_T36 ((rd_T34 l0_1 x3_2).f0) x4_4).f0)).f0).length c280_0)) (ds := []) (bt 14 0) (by kernel_rfl) rfl rfl ⟨bk_ BK257 0, bk_ BK257 1, bk_ BK257 2, bk_ BK257 3, bk_ BK257 4, bk_ BK257 5, bk_ BK265 0, bk_ BK265 1, bk_ BK265 2, bk_ BK265 3, ((bc_ HB hw280_0 :))⟩ (fun hHeld => ?_); refine with_tabW quorumlaw11_ViewOwn.tab17 quorumlaw11_ViewOwn.bits17 (fun HT_ HW_ => ?_)
                             generalize w83.drew = w84 at BK257 BK265 BK272 HB HR280_0 hx280_0 hHeld ⊢
                             refine pq_ HT_.out 0 129 (bt 14 1) (h := ?_)
                             refine pq_ HT_.out 2 131 (bt 14 5) (h := ?_)
                             refine pq_ HT_.out 6 135 (bt 14 69) (h := ?_)
                             refine tq11_ HT_.out HW_.out 1 130 (bt 14 71) hHeld (h := ?_)
                             refine tq11_ HT_.out HW_.out 3 132 (bt 14 79) hHeld (h := ?_)
                             refine pq_ HT_.out 4 133 (bt 14 95) (h := ?_)
                             refine tq11_ HT_.out HW_.out 5 134 (bt 14 127) hHeld (h := ?_)
                             refine tq11_ HT_.out HW_.out 7 136 (bt 14 255) hHeld (h := ?_)
                             refine one_ (i := 8) (N := some 137) (bt 14 511) rfl rfl (one_of HT_.out (by kernel_rfl)) (by decide) (fun K hK => ?_)
                             refine goes_ Try.func20 (by kernel_rfl) rfl #[.agg #[.slice A280_0 ((rd_T47 l0_0 ((rd_T36 ((rd_T34 l0_1 x3_2).f0) x4_4).f0)).f0).length c280_0], .string ((rd_T36 ((rd_T34 l0_1 x3_2).f0) x4_4).f1), .int .i64 5] (by rfl) rfl rfl (by (try simp only [List.map_toArray, List.map_cons, List.map_nil]); first | done | rfl | (simp only [List.length_drop, List.length_take]; rfl)) ?_
                             with_reducible refine (quorumref8_Get.calls kj36 _ _ ((rd_T47 l0_0 ((rd_T36 ((rd_T34 l0_1 x3_2).f0) x4_4).f0)).f0) ((rd_T36 ((rd_T34 l0_1 x3_2).f0) x4_4).f1) 5 t281 t282 _ ?side1 ?side2 A76.out).mono ?_
                             (case side1 => exact cb_ HR280_0 HB)
                             (case side2 => exact HC280_0.out)
                             rintro e w85 ⟨rfl, hb⟩
                             refine ⟨_, rfl, ?_⟩
                             replace BK257 := mk0 (u_ BK257 hb)
                             replace BK265 := mk0 (u_ BK265 hb)
                             replace BK272 := mk0 (u_ BK272 hb)
                             replace HB := mk0 (bt_ (b_ HB) hb)
                             (try clear hb)
                             (try clear hb2)
                             (try clear hk)
                             (try clear hi)
                             refine hK.out _ _ ⟨bk_ BK257 0, bk_ BK257 1, bk_ BK257 2, bk_ BK257 3, bk_ BK257 4, bk_ BK257 5, bk_ BK265 0, bk_ BK265 1, bk_ BK265 2, bk_ BK265 3, ((bc_ HB hw280_0 :))⟩ (fun hHeld => ?_)
                             clear hK K
                             refine norm_ (a' := ?_) ?_ ?_
                             rotate_left
                             ·show Act.put _ (some 137) _ = _
                              simp only [z_]
                              rfl
                             refine pq_ HT_.out 9 128 (bt 14 1023) (h := ?_)
                             refine pq_ HT_.out 10 138 (bt 14 2047) (h := ?_)
                             refine pq_ HT_.out 11 139 (bt 14 4095) (h := ?_)
                             refine pq_ HT_.out 12 12 (bt 14 8191) (h := ?_)
                             refine pq_ HT_.out 13 13 (bt 14 16383) (h := ?_)
                             refine done_ (done_of HT_.out (by kernel_rfl)) ?_
                             go_upto_region 18 with (fail)
                             go_cut [149] (fun v149 wc => ∃ (kq : Nat) (x149_76 : Bool), v149 = .bool x149_76 ∧ Fc (quorumlaw11_ViewOwn.j5 kq x3_2 x4_4 x149_76 l0_0 l0_1 l0_2 l0_3 l0_4 l0_5 = some r) ∧ Fc (kq ≤ kj36) ∧ Fc (wc.heap[gb257]? = some (.cells #[(.slice (some ad280) l0_0.length c0_0), (.slice (some ad260) l0_1.length c0_1), (.slice A0_2 l0_2.length c0_2), (.slice A0_3 l0_3.length c0_3), (.slice A0_4 l0_4.length c0_4), (.slice A0_5 l0_5.length c0_5)] 28 (0, 0))) ∧ Fc (wc.heap[gb265]? = some (.cells #[.int .i64 ((rd_T36 ((rd_T34 l0_1 x3_2).f0) x4_4).f0), .string ((rd_T36 ((rd_T34 l0_1 x3_2).f0) x4_4).f1), .string ((rd_T36 ((rd_T34 l0_1 x3_2).f0) x4_4).f2), .bool ((rd_T36 ((rd_T34 l0_1 x3_2).f0) x4_4).f3)] 36 (0, 0))) ∧ Fc (wc.heap[gb272]? = some (.cells #[.int .i64 t267, .string t268, .string t269, .bool t270] 36 (0, 0))) ∧ Fc (Below w.heap.size w wc))
                             case first =>
                              have H := HC77.out
                              clear HC77
                              replace H := Option.bind_eq_some_iff.mp H
                              obtain ⟨t283, A860, H⟩ := H
                              try dsimp only at H
                              have A86 := mk0 A860
                              clear A860
                              by_cases c87 : (t282 != (t283 == 0)) = true
                              ·rw [if_pos c87] at H
                               have c87b0 : (t282 != (t283 == 0)) = true := c87
                               (try (have c87b1 : decide (t282 = (t283 == 0)) = false := by simpa using c87))
                               (try (have c87b2 : (t282 == (t283 == 0)) = false := by simpa using c87))
                               (try (have c87b3 : ¬ (t282 = (t283 == 0)) := by simpa using c87))
                               clear c87
                               (first | rw [c87b0] | (simp only [i64_w, i32_w]; rw [c87b0]) | skip)
                               have H' := mk0 H
                               clear H
                               go_wp2_with (first | ((with_reducible refine gate_callee (f := 19) rfl ?_); refine gL_ (some 142) Try.func19 #[.int .i64 t279] (h := ?_); (with_reducible refine (quorumlaw11_num.calls t279 t283 _ A86.out).mono ?_); rintro e w' ⟨rfl, ⟨nd, rfl⟩⟩; refine ⟨_, rfl, ?_⟩))
                               go_meet
                               case rel => exact ⟨_, (true), (by first | rfl | (simp; done) | (simp [*]; done)), H', ⟨by have := HJ1.out; have := HK2.out; have := HJ13.out; have := HK4.out; have := HJ36.out; first | omega | exact Nat.le_refl _⟩, ⟨h_ BK257⟩, ⟨h_ BK265⟩, ⟨h_ BK272⟩, ⟨b_ HB⟩⟩
                              ·rw [if_neg c87] at H
                               have c87b0 : (t282 != (t283 == 0)) = false := by simpa using c87
                               (try (have c87b1 : decide (t282 = (t283 == 0)) = true := by simpa using c87))
                               (try (have c87b2 : (t282 == (t283 == 0)) = true := by simpa using c87))
                               clear c87
                               (first | rw [c87b0] | (simp only [i64_w, i32_w]; rw [c87b0]) | skip)
                               have H' := mk0 H
                               clear H
                               go_wp2_with (first | ((with_reducible refine gate_callee (f := 19) rfl ?_); refine gL_ (some 142) Try.func19 #[.int .i64 t279] (h := ?_); (with_reducible refine (quorumlaw11_num.calls t279 t283 _ A86.out).mono ?_); rintro e w' ⟨rfl, ⟨nd, rfl⟩⟩; refine ⟨_, rfl, ?_⟩))
                               go_meet
                               case rel => exact ⟨_, ((t278.toList != t281.toList)), (by first | rfl | (simp; done) | (simp [*]; done)), H', ⟨by have := HJ1.out; have := HK2.out; have := HJ13.out; have := HK4.out; have := HJ36.out; first | omega | exact Nat.le_refl _⟩, ⟨h_ BK257⟩, ⟨h_ BK265⟩, ⟨h_ BK272⟩, ⟨b_ HB⟩⟩
                             case rest =>
                              clear HC77
                              try clear c5
                              try clear c18
                              try clear c19
                              try clear c20
                              try clear c26
                              try clear c27
                              try clear c28
                              try clear c55
                              try clear c57
                              try clear c57b0
                              try clear c57b1
                              try clear c65
                              try clear c65b0
                              try clear c65b1
                              try clear c72
                              try clear c74
                              try clear c74b0
                              try clear c75
                              try clear c75b0
                              try clear c87
                              try clear c87b0
                              try clear c87b1
                              try clear c87b2
                              try clear hcz60_0
                              try clear hcz60_1
                              try clear hcz60_2
                              try clear hcz60_3
                              try clear hcz63_0
                              try clear hcz63_1
                              try clear hcz63_2
                              try clear hcz63_3
                              try clear hcz68_0
                              try clear hcz68_1
                              try clear hcz68_2
                              try clear hcz68_3
                              try clear hcz71_0
                              try clear hcz71_1
                              try clear hcz71_2
                              try clear hcz71_3
                              try clear hcz80_0
                              try clear hcz80_1
                              try clear hcz80_2
                              try clear hcz80_3
                              try clear hcz80_4
                              try clear hcz80_5
                              try clear hcz82_0
                              try clear hcz82_1
                              try clear hcz82_2
                              try clear hcz82_3
                              try clear hfz60_0
                              try clear hfz60_1
                              try clear hfz60_2
                              try clear hfz60_3
                              try clear hfz63_0
                              try clear hfz63_1
                              try clear hfz63_2
                              try clear hfz63_3
                              try clear hfz68_0
                              try clear hfz68_1
                              try clear hfz68_2
                              try clear hfz68_3
                              try clear hfz71_0
                              try clear hfz71_1
                              try clear hfz71_2
                              try clear hfz71_3
                              try clear hfz80_0
                              try clear hfz80_1
                              try clear hfz80_2
                              try clear hfz80_3
                              try clear hfz80_4
                              try clear hfz80_5
                              try clear hfz82_0
                              try clear hfz82_1
                              try clear hfz82_2
                              try clear hfz82_3
                              try clear hx273_0
                              try clear hx273_1
                              try clear hx280_0
                              try clear p273
                              try clear p280
                              try clear q273
                              try clear q280
                              obtain ⟨kq, x149_76, rfl, HA, HJ76, BK257, BK265, BK272, HB⟩ := hcut
                              cases kq with
                              | zero => exact absurd HA.out (by simp [quorumlaw11_ViewOwn.j5])
                              | succ kj76 =>
                               have H := HA.out
                               clear HA
                               simp only [quorumlaw11_ViewOwn.j5] at H
                               as_aux_lemma =>
                                by_cases c88 : x149_76 = true
                                ·subst c88
                                 rw [if_pos rfl] at H
                                 obtain rfl := Option.some.inj H
                                 go_wp2
                                 go_ret
                                 exact ⟨by first | rfl | (simp [errW_none, errW_some] <;> rfl) | (simp [*, errW_none, errW_some] <;> rfl), b_ HB⟩
                                ·replace c88 := Bool.eq_false_iff.mpr c88
                                 subst c88
                                 rw [if_neg (show ¬ (false = true) by decide)] at H
                                 have H' := mk0 H
                                 clear H
                                 go_wp2
                                 go_roundg kj76
                                 case measure => have := HJ1.out; have := HK2.out; have := HJ13.out; have := HK4.out; have := HJ36.out; have := HJ76.out; omega
                                 case rel => exact ⟨(wrap64 (x4_4 + 1)), (by first | rfl | (simp; done) | (simp [*]; done)), H', ⟨by have := HJ1.out; have := HK2.out; have := HJ13.out; have := HK4.out; have := HJ36.out; have := HJ76.out; omega⟩, ⟨h_ BK257⟩, ⟨b_ HB⟩⟩
                            ·rw [if_neg c75] at H
                             exact absurd H (by simp)
                           ·rw [if_neg c74] at H
                            exact absurd H (by simp)
                     ·rw [if_neg c28] at H
                      exact absurd H (by simp)
                    ·rw [if_neg c27] at H
                     have c27b0 : decide (x4_4 < (((rd_T34 l0_1 x3_2).f0).length : Int)) = false := decide_eq_false c27
                     clear c27
                     have H' := mk0 H
                     clear H
                     obtain ⟨hcz89_0, hcz89_1, hcz89_2, hcz89_3, hcz89_4, hcz89_5, hfz89_0, hfz89_1, hfz89_2, hfz89_3, hfz89_4, hfz89_5⟩ := c6_ BK257
                     have p262 : 0 ≤ (x3_2 : Int) := of_decide_eq_true (by first | (with_reducible assumption) | assumption)
                     have q262 : x3_2 < (l0_1.length : Int) := of_decide_eq_true (by first | (with_reducible assumption) | assumption)
                     obtain ⟨ad262, A262_0, c262_0, A262_1, c262_1, e262, hx262_0, hx262_1, hl262_0, hi262_0, hl262_1, hi262_1⟩ := at_T34 HR0_1.out x3_2 p262 q262
                     obtain rfl : ad260 = ad262 := (by injection e262)
                     replace hx262_0 := (bc_ HB hx262_0 :)
                     replace hx262_1 := (bc_ HB hx262_1 :)
                     have HR262_0 := mk0 hi262_0
                     have HC262_0 := mk0 hl262_0
                     clear hi262_0 hl262_0
                     have HR262_1 := mk0 hi262_1
                     have HC262_1 := mk0 hl262_1
                     clear hi262_1 hl262_1
                     replace p262 := eq_true p262
                     replace q262 := eq_true q262
                     go_wp2
                     go_roundg k4
                     case measure => have := HJ1.out; have := HK2.out; have := HJ13.out; have := HK4.out; omega
                     case rel => exact ⟨(wrap64 (x3_2 + 1)), (by first | rfl | (simp; done) | (simp [*]; done)), H', ⟨by have := HJ1.out; have := HK2.out; have := HJ13.out; have := HK4.out; omega⟩, ⟨h_ BK257⟩, ⟨b_ HB⟩⟩
                   ·rw [if_neg c26] at H
                    exact absurd H (by simp)
                  ·rw [if_neg c25] at H
                   exact absurd H (by simp)
              ·replace c22 := Bool.eq_false_iff.mpr c22
               subst c22
               rw [if_neg (show ¬ (false = true) by decide)] at H
               have H' := mk0 H
               clear H
               obtain ⟨hcz90_0, hcz90_1, hcz90_2, hcz90_3, hcz90_4, hcz90_5, hfz90_0, hfz90_1, hfz90_2, hfz90_3, hfz90_4, hfz90_5⟩ := c6_ BK257
               have p260 : 0 ≤ (x3_2 : Int) := of_decide_eq_true (by first | (with_reducible assumption) | assumption)
               have q260 : x3_2 < (l0_1.length : Int) := of_decide_eq_true (by first | (with_reducible assumption) | assumption)
               obtain ⟨ad260, A260_0, c260_0, A260_1, c260_1, e260, hx260_0, hx260_1, hl260_0, hi260_0, hl260_1, hi260_1⟩ := at_T34 HR0_1.out x3_2 p260 q260
               cases e260
               replace hx260_0 := (bc_ HB hx260_0 :)
               replace hx260_1 := (bc_ HB hx260_1 :)
               have HR260_0 := mk0 hi260_0
               have HC260_0 := mk0 hl260_0
               clear hi260_0 hl260_0
               have HR260_1 := mk0 hi260_1
               have HC260_1 := mk0 hl260_1
               clear hi260_1 hl260_1
               replace p260 := eq_true p260
               replace q260 := eq_true q260
               go_wp2_with (first | ((with_reducible refine gate_callee (f := 16) rfl ?_); refine gL_ (some 38) Try.func16 #[.agg #[.slice A260_0 ((rd_T34 l0_1 x3_2).f0).length c260_0, .slice A260_1 ((rd_T34 l0_1 x3_2).f1).length c260_1]] (h := ?_); (with_reducible refine (quorumref8_Pend.calls kj13 _ _ ((rd_T34 l0_1 x3_2).f0) _ _ ((rd_T34 l0_1 x3_2).f1) false _ ?side1 ?side2 ?side3 ?side4 A21.out).mono ?_); (case side1 => exact cb_ HR260_0 HB); (case side2 => exact HC260_0.out); (case side3 => exact cb_ HR260_1 HB); (case side4 => exact HC260_1.out); rintro e w91 ⟨rfl, hb⟩; refine ⟨_, rfl, ?_⟩; replace BK257 := mk0 (u_ BK257 hb); replace HB := mk0 (bt_ (b_ HB) hb); (try clear hb)))
               go_roundg kj13
               case measure => have := HJ1.out; have := HK2.out; have := HJ13.out; omega
               case rel => exact ⟨(wrap64 (x3_2 + 1)), (by first | rfl | (simp; done) | (simp [*]; done)), H', ⟨by have := HJ1.out; have := HK2.out; have := HJ13.out; omega⟩, ⟨h_ BK257⟩, ⟨b_ HB⟩⟩
             ·rw [if_neg c20] at H
              exact absurd H (by simp)
            ·rw [if_neg c19] at H
             exact absurd H (by simp)
           ·replace c18 := Bool.eq_false_iff.mpr c18
            subst c18
            rw [if_neg (show ¬ (false = true) by decide)] at H
            replace H := Option.bind_eq_some_iff.mp H
            obtain ⟨t284, A920, H⟩ := H
            try dsimp only at H
            have A92 := mk0 A920
            clear A920
            obtain rfl := Option.some.inj H
            go_wp2_with (first | ((with_reducible refine gate_callee (f := 21) rfl ?_); refine gL_ (some 150) Try.func21 #[] (h := ?_); (with_reducible refine (quorumlaw11_wakes.calls kj13  t284 _ A92.out).mono ?_); rintro e w93 ⟨rfl, hb⟩; refine ⟨_, rfl, ?_⟩; replace BK257 := mk0 (u_ BK257 hb); replace HB := mk0 (bt_ (b_ HB) hb); (try clear hb)))
            go_ret
            exact ⟨by first | rfl | (simp [errW_none, errW_some] <;> rfl) | (simp [*, errW_none, errW_some] <;> rfl), b_ HB⟩

end Go.Proofs.Ytbaecdcfefmcgaa.PVow
