-- PRINTED by print.py (a twelfth state) out of the translation. Not trusted: Lean checks it.
import Derived.Test.YtoodkefpkgbjcaaPPgbx0
import Derived.Test.YtoodkefpkgbjcaaPPgbx1
import Derived.Test.YtoodkefpkgbjcaaPPgbx3
import Derived.Test.YtoodkefpkgbjcaaPPgbx4
import Derived.Test.YtoodkefpkgbjcaaPPgbx6
import Derived.Test.YtoodkefpkgbjcaaPPgbx7
import Derived.Test.YtoodkefpkgbjcaaPPgbx8
import Derived.Test.YtoodkefpkgbjcaaPPgbx10
import Derived.Test.YtoodkefpkgbjcaaPPgbx11
namespace Go.Proofs.Ytoodkefpkgbjcaa.PPgb
open Go.RowKit Go.Proofs.YtoodkefpkgbjcaaW.PrintWords Go.Proofs.YtoodkefpkgbjcaaW.PrintLast Go.Proofs.YtoodkefpkgbjcaaW.PrintMore
attribute [local go_sem] max2_int min2_int max_two min_two max_three min_three max_four min_four   -- for this text's walks alone
set_option linter.unusedVariables false
set_option linter.unusedSimpArgs false

/-! ### quorumlaw5_step: function 43 -/
mutual
def quorumlaw5_step.j3 : Nat → Bool → Int → Int → Int → Int → List ByteArray → List Int → List ByteArray → List Int → List ByteArray → List Int → List ByteArray → List Int → Option (List ByteArray × List Int × Bool)
 | 0, _, _, _, _, _, _, _, _, _, _, _, _, _ => none
 | k + 1, x7, x8, x11, x12, x13, x331000, x331001, x340000, x340001, x342000, x342001, x343000, x343001 => (quorumlaw5_num.f x13).bind fun t398 => (if t398 = x8 then ((quorumref0_EqPage.f k x342000 x342001 x343000 x343001).bind fun t399 => (if t399 = true then (if x11 = x12 then ((quorumref0_EqPage.f k x340000 x340001 x331000 x331001).bind fun t400 => (if t400 = true then ((page_Check.f k x340000 x340001).bind fun t401 => ((quorumlaw5_num.f t401).bind fun t402 => (quorumlaw5_step.j4 k x8 ((t402 == 0) != x7) x331000 x331001 x340000 x340001 x342000 x342001 x343000 x343001))) else (quorumlaw5_step.j4 k x8 true x331000 x331001 x340000 x340001 x342000 x342001 x343000 x343001))) else (quorumlaw5_step.j4 k x8 true x331000 x331001 x340000 x340001 x342000 x342001 x343000 x343001)) else (quorumlaw5_step.j4 k x8 true x331000 x331001 x340000 x340001 x342000 x342001 x343000 x343001))) else (quorumlaw5_step.j4 k x8 true x331000 x331001 x340000 x340001 x342000 x342001 x343000 x343001))
def quorumlaw5_step.j4 : Nat → Int → Bool → List ByteArray → List Int → List ByteArray → List Int → List ByteArray → List Int → List ByteArray → List Int → Option (List ByteArray × List Int × Bool)
 | 0, _, _, _, _, _, _, _, _, _, _ => none
 | k + 1, x8, x166, x331000, x331001, x340000, x340001, x342000, x342001, x343000, x343001 => if x166 = true then (some (x331000, x331001, false)) else ((quorumlaw0_Page.f k x342000 x342001).bind fun bt403 => ((quorumref0_EqPage.f k x340000 x340001 x331000 x331001).bind fun t405 => (if t405 = true then (if x8 = 0 then ((quorumref0_CopyPage.f k x343000 x343001).bind fun bt406 => (some (bt406.1, bt406.2, true))) else (some (x331000, x331001, true))) else (some (x331000, x331001, false)))))
def quorumlaw5_step.j0 : Nat → Bool → Int → Int → Int → Int → Bool → List ByteArray → List Int → Int → Int → ByteArray → List ByteArray → List Int → Option (List ByteArray × List Int × Bool)
 | 0, _, _, _, _, _, _, _, _, _, _, _, _, _ => none
 | k + 1, x7, x8, x11, x12, x27, x45, x331000, x331001, x332000, x332001, x332002, x340000, x340001 => if x45 = true then ((page_Set.f k x340000 x340001 x332001 x332002).bind fun bt344 => (if x7 = true then ((quorumref4_Set.f k x331000 x331001 x332001 x332002).bind fun bt351 => (quorumlaw5_step.j3 k x7 bt351.2.2 x11 x12 bt344.2.2 x331000 x331001 x340000 x340001 bt344.1 bt344.2.1 bt351.1 bt351.2.1)) else (quorumlaw5_step.j3 k x7 x8 x11 x12 bt344.2.2 x331000 x331001 x340000 x340001 bt344.1 bt344.2.1 ([] : List ByteArray) ([] : List Int)))) else (if x27 = 6 then (quorumlaw5_step.j1 k x7 x8 x11 x12 x27 (x27 == 6) x331000 x331001 x332000 x332001 x332002 x340000 x340001) else (quorumlaw5_step.j1 k x7 x8 x11 x12 x27 (x27 == 7) x331000 x331001 x332000 x332001 x332002 x340000 x340001))
def quorumlaw5_step.j1 : Nat → Bool → Int → Int → Int → Int → Bool → List ByteArray → List Int → Int → Int → ByteArray → List ByteArray → List Int → Option (List ByteArray × List Int × Bool)
 | 0, _, _, _, _, _, _, _, _, _, _, _, _, _ => none
 | k + 1, x7, x8, x11, x12, x27, x67, x331000, x331001, x332000, x332001, x332002, x340000, x340001 => if x67 = true then ((page_Cut.f k x340000 x340001 x332001).bind fun bt358 => (if x7 = true then ((quorumref4_Cut.f k x331000 x331001 x332001).bind fun bt365 => (quorumlaw5_step.j3 k x7 bt365.2.2 x11 x12 bt358.2.2 x331000 x331001 x340000 x340001 bt358.1 bt358.2.1 bt365.1 bt365.2.1)) else (quorumlaw5_step.j3 k x7 x8 x11 x12 bt358.2.2 x331000 x331001 x340000 x340001 bt358.1 bt358.2.1 ([] : List ByteArray) ([] : List Int)))) else (if x27 = 8 then ((page_Get.f k x340000 x340001 x332001).bind fun bt372 => ((page_Bytes.f k x340000 x340001).bind fun bt374 => (if x7 = true then ((quorumref4_Bytes.f k x331000 x331001).bind fun t376 => ((quorumref4_There.f k x331000 x331001 x332001).bind fun t377 => (if t377 = true then (if 0 ≤ x332001 then (if x332001 < (x331000.length : Int) then (quorumlaw5_step.j2 k 0 bt372.1 bt372.2 bt374.1 bt374.2 (rdOf ByteArray.empty x331000 x332001) 0 t376 x331000 x331001 x340000 x340001) else (none)) else (none)) else (quorumlaw5_step.j2 k 3 bt372.1 bt372.2 bt374.1 bt374.2 (⟨#[]⟩ : ByteArray) 0 t376 x331000 x331001 x340000 x340001)))) else (quorumlaw5_step.j2 k x8 bt372.1 bt372.2 bt374.1 bt374.2 (⟨#[]⟩ : ByteArray) 1 0 x331000 x331001 x340000 x340001)))) else ((page_Add.f k x340000 x340001 x332002).bind fun bt382 => (if x7 = true then ((quorumref4_Add.f k x331000 x331001 x332002).bind fun bt390 => (quorumlaw5_step.j3 k x7 bt390.2.2.2 bt382.2.2.1 bt390.2.2.1 bt382.2.2.2 x331000 x331001 x340000 x340001 bt382.1 bt382.2.1 bt390.1 bt390.2.1)) else (quorumlaw5_step.j3 k x7 x8 bt382.2.2.1 x12 bt382.2.2.2 x331000 x331001 x340000 x340001 bt382.1 bt382.2.1 ([] : List ByteArray) ([] : List Int)))))
def quorumlaw5_step.j2 : Nat → Int → ByteArray → Int → Int → Int → ByteArray → Int → Int → List ByteArray → List Int → List ByteArray → List Int → Option (List ByteArray × List Int × Bool)
 | 0, _, _, _, _, _, _, _, _, _, _, _, _ => none
 | k + 1, x8, x14, x15, x16, x17, x18, x19, x20, x331000, x331001, x340000, x340001 => (quorumlaw5_num.f x15).bind fun t379 => (if t379 = x8 then (if x14.toList = x18.toList then ((quorumlaw5_num.f x17).bind fun t380 => (if t380 = x19 then (if x16 = x20 then ((quorumref0_EqPage.f k x340000 x340001 x331000 x331001).bind fun t381 => (some (x331000, x331001, t381))) else (some (x331000, x331001, false))) else (some (x331000, x331001, false)))) else (some (x331000, x331001, false))) else (some (x331000, x331001, false)))
end
def quorumlaw5_step.f (k : Nat) (l0_0 : List ByteArray) (l0_1 : List Int) (a1_0 : Int) (a1_1 : Int) (a1_2 : ByteArray) : Option (List ByteArray × List Int × Bool) := (quorumref0_CopyPage.f k l0_0 l0_1).bind fun bt333 => ((quorumref4_Page.f k l0_0 l0_1).bind fun t340 => ((quorumlaw0_Within.f a1_0 9).bind fun t343 => (if t343 = 4 then (quorumlaw5_step.j0 k t340 1 0 0 t343 (t343 == 4) l0_0 l0_1 a1_0 a1_1 a1_2 bt333.1 bt333.2) else (quorumlaw5_step.j0 k t340 1 0 0 t343 (t343 == 5) l0_0 l0_1 a1_0 a1_1 a1_2 bt333.1 bt333.2))))
theorem quorumlaw5_step.mono_l : ∀ k, (∀ y0 y1 y2 y3 y4 y5 y6 y7 y8 y9 y10 y11 y12, LeO (quorumlaw5_step.j3 k y0 y1 y2 y3 y4 y5 y6 y7 y8 y9 y10 y11 y12) (quorumlaw5_step.j3 (k + 1) y0 y1 y2 y3 y4 y5 y6 y7 y8 y9 y10 y11 y12)) ∧ (∀ y0 y1 y2 y3 y4 y5 y6 y7 y8 y9, LeO (quorumlaw5_step.j4 k y0 y1 y2 y3 y4 y5 y6 y7 y8 y9) (quorumlaw5_step.j4 (k + 1) y0 y1 y2 y3 y4 y5 y6 y7 y8 y9)) ∧ (∀ y0 y1 y2 y3 y4 y5 y6 y7 y8 y9 y10 y11 y12, LeO (quorumlaw5_step.j0 k y0 y1 y2 y3 y4 y5 y6 y7 y8 y9 y10 y11 y12) (quorumlaw5_step.j0 (k + 1) y0 y1 y2 y3 y4 y5 y6 y7 y8 y9 y10 y11 y12)) ∧ (∀ y0 y1 y2 y3 y4 y5 y6 y7 y8 y9 y10 y11 y12, LeO (quorumlaw5_step.j1 k y0 y1 y2 y3 y4 y5 y6 y7 y8 y9 y10 y11 y12) (quorumlaw5_step.j1 (k + 1) y0 y1 y2 y3 y4 y5 y6 y7 y8 y9 y10 y11 y12)) ∧ (∀ y0 y1 y2 y3 y4 y5 y6 y7 y8 y9 y10 y11, LeO (quorumlaw5_step.j2 k y0 y1 y2 y3 y4 y5 y6 y7 y8 y9 y10 y11) (quorumlaw5_step.j2 (k + 1) y0 y1 y2 y3 y4 y5 y6 y7 y8 y9 y10 y11))
 | 0 => ⟨fun _ _ _ _ _ _ _ _ _ _ _ _ _ r h => by simp [quorumlaw5_step.j3] at h, fun _ _ _ _ _ _ _ _ _ _ r h => by simp [quorumlaw5_step.j4] at h, fun _ _ _ _ _ _ _ _ _ _ _ _ _ r h => by simp [quorumlaw5_step.j0] at h, fun _ _ _ _ _ _ _ _ _ _ _ _ _ r h => by simp [quorumlaw5_step.j1] at h, fun _ _ _ _ _ _ _ _ _ _ _ _ r h => by simp [quorumlaw5_step.j2] at h⟩
 | k + 1 => by
  obtain ⟨ih0, ih1, ih2, ih3, ih4⟩ := quorumlaw5_step.mono_l k
  refine ⟨?_, ?_, ?_, ?_, ?_⟩
  ·intro y0 y1 y2 y3 y4 y5 y6 y7 y8 y9 y10 y11 y12
   unfold quorumlaw5_step.j3
   repeat' first
   | (with_reducible exact ih0 _ _ _ _ _ _ _ _ _ _ _ _ _)
   | (with_reducible exact ih1 _ _ _ _ _ _ _ _ _ _)
   | (with_reducible exact ih2 _ _ _ _ _ _ _ _ _ _ _ _ _)
   | (with_reducible exact ih3 _ _ _ _ _ _ _ _ _ _ _ _ _)
   | (with_reducible exact ih4 _ _ _ _ _ _ _ _ _ _ _ _)
   | (with_reducible exact page_Add.mono _ _ _ _)
   | (with_reducible exact page_Bytes.mono _ _ _)
   | (with_reducible exact page_Check.mono _ _ _)
   | (with_reducible exact page_Cut.mono _ _ _ _)
   | (with_reducible exact page_Get.mono _ _ _ _)
   | (with_reducible exact page_Set.mono _ _ _ _ _)
   | (with_reducible exact quorumlaw0_Page.mono _ _ _)
   | (with_reducible exact quorumref0_CopyPage.mono _ _ _)
   | (with_reducible exact quorumref0_EqPage.mono _ _ _ _ _)
   | (with_reducible exact quorumref4_Add.mono _ _ _ _)
   | (with_reducible exact quorumref4_Bytes.mono _ _ _)
   | (with_reducible exact quorumref4_Cut.mono _ _ _ _)
   | (with_reducible exact quorumref4_Page.mono _ _ _)
   | (with_reducible exact quorumref4_Set.mono _ _ _ _ _)
   | (with_reducible exact quorumref4_There.mono _ _ _ _)
   | (with_reducible exact LeO.refl _)
   | (with_reducible exact LeO.none _)
   | (with_reducible refine LeO.ite ?_ ?_)
   | (with_reducible refine LeO.bind ?_ (fun _ => ?_))
   | exact ih0 _ _ _ _ _ _ _ _ _ _ _ _ _
   | exact ih1 _ _ _ _ _ _ _ _ _ _
   | exact ih2 _ _ _ _ _ _ _ _ _ _ _ _ _
   | exact ih3 _ _ _ _ _ _ _ _ _ _ _ _ _
   | exact ih4 _ _ _ _ _ _ _ _ _ _ _ _
   | exact page_Add.mono _ _ _ _
   | exact page_Bytes.mono _ _ _
   | exact page_Check.mono _ _ _
   | exact page_Cut.mono _ _ _ _
   | exact page_Get.mono _ _ _ _
   | exact page_Set.mono _ _ _ _ _
   | exact quorumlaw0_Page.mono _ _ _
   | exact quorumref0_CopyPage.mono _ _ _
   | exact quorumref0_EqPage.mono _ _ _ _ _
   | exact quorumref4_Add.mono _ _ _ _
   | exact quorumref4_Bytes.mono _ _ _
   | exact quorumref4_Cut.mono _ _ _ _
   | exact quorumref4_Page.mono _ _ _
   | exact quorumref4_Set.mono _ _ _ _ _
   | exact quorumref4_There.mono _ _ _ _
   | exact LeO.none _
   | refine LeO.ite ?_ ?_
   | refine LeO.bind ?_ (fun _ => ?_)
  ·intro y0 y1 y2 y3 y4 y5 y6 y7 y8 y9
   unfold quorumlaw5_step.j4
   repeat' first
   | (with_reducible exact ih0 _ _ _ _ _ _ _ _ _ _ _ _ _)
   | (with_reducible exact ih1 _ _ _ _ _ _ _ _ _ _)
   | (with_reducible exact ih2 _ _ _ _ _ _ _ _ _ _ _ _ _)
   | (with_reducible exact ih3 _ _ _ _ _ _ _ _ _ _ _ _ _)
   | (with_reducible exact ih4 _ _ _ _ _ _ _ _ _ _ _ _)
   | (with_reducible exact page_Add.mono _ _ _ _)
   | (with_reducible exact page_Bytes.mono _ _ _)
   | (with_reducible exact page_Check.mono _ _ _)
   | (with_reducible exact page_Cut.mono _ _ _ _)
   | (with_reducible exact page_Get.mono _ _ _ _)
   | (with_reducible exact page_Set.mono _ _ _ _ _)
   | (with_reducible exact quorumlaw0_Page.mono _ _ _)
   | (with_reducible exact quorumref0_CopyPage.mono _ _ _)
   | (with_reducible exact quorumref0_EqPage.mono _ _ _ _ _)
   | (with_reducible exact quorumref4_Add.mono _ _ _ _)
   | (with_reducible exact quorumref4_Bytes.mono _ _ _)
   | (with_reducible exact quorumref4_Cut.mono _ _ _ _)
   | (with_reducible exact quorumref4_Page.mono _ _ _)
   | (with_reducible exact quorumref4_Set.mono _ _ _ _ _)
   | (with_reducible exact quorumref4_There.mono _ _ _ _)
   | (with_reducible exact LeO.refl _)
   | (with_reducible exact LeO.none _)
   | (with_reducible refine LeO.ite ?_ ?_)
   | (with_reducible refine LeO.bind ?_ (fun _ => ?_))
   | exact ih0 _ _ _ _ _ _ _ _ _ _ _ _ _
   | exact ih1 _ _ _ _ _ _ _ _ _ _
   | exact ih2 _ _ _ _ _ _ _ _ _ _ _ _ _
   | exact ih3 _ _ _ _ _ _ _ _ _ _ _ _ _
   | exact ih4 _ _ _ _ _ _ _ _ _ _ _ _
   | exact page_Add.mono _ _ _ _
   | exact page_Bytes.mono _ _ _
   | exact page_Check.mono _ _ _
   | exact page_Cut.mono _ _ _ _
   | exact page_Get.mono _ _ _ _
   | exact page_Set.mono _ _ _ _ _
   | exact quorumlaw0_Page.mono _ _ _
   | exact quorumref0_CopyPage.mono _ _ _
   | exact quorumref0_EqPage.mono _ _ _ _ _
   | exact quorumref4_Add.mono _ _ _ _
   | exact quorumref4_Bytes.mono _ _ _
   | exact quorumref4_Cut.mono _ _ _ _
   | exact quorumref4_Page.mono _ _ _
   | exact quorumref4_Set.mono _ _ _ _ _
   | exact quorumref4_There.mono _ _ _ _
   | exact LeO.none _
   | refine LeO.ite ?_ ?_
   | refine LeO.bind ?_ (fun _ => ?_)
  ·intro y0 y1 y2 y3 y4 y5 y6 y7 y8 y9 y10 y11 y12
   unfold quorumlaw5_step.j0
   repeat' first
   | (with_reducible exact ih0 _ _ _ _ _ _ _ _ _ _ _ _ _)
   | (with_reducible exact ih1 _ _ _ _ _ _ _ _ _ _)
   | (with_reducible exact ih2 _ _ _ _ _ _ _ _ _ _ _ _ _)
   | (with_reducible exact ih3 _ _ _ _ _ _ _ _ _ _ _ _ _)
   | (with_reducible exact ih4 _ _ _ _ _ _ _ _ _ _ _ _)
   | (with_reducible exact page_Add.mono _ _ _ _)
   | (with_reducible exact page_Bytes.mono _ _ _)
   | (with_reducible exact page_Check.mono _ _ _)
   | (with_reducible exact page_Cut.mono _ _ _ _)
   | (with_reducible exact page_Get.mono _ _ _ _)
   | (with_reducible exact page_Set.mono _ _ _ _ _)
   | (with_reducible exact quorumlaw0_Page.mono _ _ _)
   | (with_reducible exact quorumref0_CopyPage.mono _ _ _)
   | (with_reducible exact quorumref0_EqPage.mono _ _ _ _ _)
   | (with_reducible exact quorumref4_Add.mono _ _ _ _)
   | (with_reducible exact quorumref4_Bytes.mono _ _ _)
   | (with_reducible exact quorumref4_Cut.mono _ _ _ _)
   | (with_reducible exact quorumref4_Page.mono _ _ _)
   | (with_reducible exact quorumref4_Set.mono _ _ _ _ _)
   | (with_reducible exact quorumref4_There.mono _ _ _ _)
   | (with_reducible exact LeO.refl _)
   | (with_reducible exact LeO.none _)
   | (with_reducible refine LeO.ite ?_ ?_)
   | (with_reducible refine LeO.bind ?_ (fun _ => ?_))
   | exact ih0 _ _ _ _ _ _ _ _ _ _ _ _ _
   | exact ih1 _ _ _ _ _ _ _ _ _ _
   | exact ih2 _ _ _ _ _ _ _ _ _ _ _ _ _
   | exact ih3 _ _ _ _ _ _ _ _ _ _ _ _ _
   | exact ih4 _ _ _ _ _ _ _ _ _ _ _ _
   | exact page_Add.mono _ _ _ _
   | exact page_Bytes.mono _ _ _
   | exact page_Check.mono _ _ _
   | exact page_Cut.mono _ _ _ _
   | exact page_Get.mono _ _ _ _
   | exact page_Set.mono _ _ _ _ _
   | exact quorumlaw0_Page.mono _ _ _
   | exact quorumref0_CopyPage.mono _ _ _
   | exact quorumref0_EqPage.mono _ _ _ _ _
   | exact quorumref4_Add.mono _ _ _ _
   | exact quorumref4_Bytes.mono _ _ _
   | exact quorumref4_Cut.mono _ _ _ _
   | exact quorumref4_Page.mono _ _ _
   | exact quorumref4_Set.mono _ _ _ _ _
   | exact quorumref4_There.mono _ _ _ _
   | exact LeO.none _
   | refine LeO.ite ?_ ?_
   | refine LeO.bind ?_ (fun _ => ?_)
  ·intro y0 y1 y2 y3 y4 y5 y6 y7 y8 y9 y10 y11 y12
   unfold quorumlaw5_step.j1
   repeat' first
   | (with_reducible exact ih0 _ _ _ _ _ _ _ _ _ _ _ _ _)
   | (with_reducible exact ih1 _ _ _ _ _ _ _ _ _ _)
   | (with_reducible exact ih2 _ _ _ _ _ _ _ _ _ _ _ _ _)
   | (with_reducible exact ih3 _ _ _ _ _ _ _ _ _ _ _ _ _)
   | (with_reducible exact ih4 _ _ _ _ _ _ _ _ _ _ _ _)
   | (with_reducible exact page_Add.mono _ _ _ _)
   | (with_reducible exact page_Bytes.mono _ _ _)
   | (with_reducible exact page_Check.mono _ _ _)
   | (with_reducible exact page_Cut.mono _ _ _ _)
   | (with_reducible exact page_Get.mono _ _ _ _)
   | (with_reducible exact page_Set.mono _ _ _ _ _)
   | (with_reducible exact quorumlaw0_Page.mono _ _ _)
   | (with_reducible exact quorumref0_CopyPage.mono _ _ _)
   | (with_reducible exact quorumref0_EqPage.mono _ _ _ _ _)
   | (with_reducible exact quorumref4_Add.mono _ _ _ _)
   | (with_reducible exact quorumref4_Bytes.mono _ _ _)
   | (with_reducible exact quorumref4_Cut.mono _ _ _ _)
   | (with_reducible exact quorumref4_Page.mono _ _ _)
   | (with_reducible exact quorumref4_Set.mono _ _ _ _ _)
   | (with_reducible exact quorumref4_There.mono _ _ _ _)
   | (with_reducible exact LeO.refl _)
   | (with_reducible exact LeO.none _)
   | (with_reducible refine LeO.ite ?_ ?_)
   | (with_reducible refine LeO.bind ?_ (fun _ => ?_))
   | exact ih0 _ _ _ _ _ _ _ _ _ _ _ _ _
   | exact ih1 _ _ _ _ _ _ _ _ _ _
   | exact ih2 _ _ _ _ _ _ _ _ _ _ _ _ _
   | exact ih3 _ _ _ _ _ _ _ _ _ _ _ _ _
   | exact ih4 _ _ _ _ _ _ _ _ _ _ _ _
   | exact page_Add.mono _ _ _ _
   | exact page_Bytes.mono _ _ _
   | exact page_Check.mono _ _ _
   | exact page_Cut.mono _ _ _ _
   | exact page_Get.mono _ _ _ _
   | exact page_Set.mono _ _ _ _ _
   | exact quorumlaw0_Page.mono _ _ _
   | exact quorumref0_CopyPage.mono _ _ _
   | exact quorumref0_EqPage.mono _ _ _ _ _
   | exact quorumref4_Add.mono _ _ _ _
   | exact quorumref4_Bytes.mono _ _ _
   | exact quorumref4_Cut.mono _ _ _ _
   | exact quorumref4_Page.mono _ _ _
   | exact quorumref4_Set.mono _ _ _ _ _
   | exact quorumref4_There.mono _ _ _ _
   | exact LeO.none _
   | refine LeO.ite ?_ ?_
   | refine LeO.bind ?_ (fun _ => ?_)
  ·intro y0 y1 y2 y3 y4 y5 y6 y7 y8 y9 y10 y11
   unfold quorumlaw5_step.j2
   repeat' first
   | (with_reducible exact ih0 _ _ _ _ _ _ _ _ _ _ _ _ _)
   | (with_reducible exact ih1 _ _ _ _ _ _ _ _ _ _)
   | (with_reducible exact ih2 _ _ _ _ _ _ _ _ _ _ _ _ _)
   | (with_reducible exact ih3 _ _ _ _ _ _ _ _ _ _ _ _ _)
   | (with_reducible exact ih4 _ _ _ _ _ _ _ _ _ _ _ _)
   | (with_reducible exact page_Add.mono _ _ _ _)
   | (with_reducible exact page_Bytes.mono _ _ _)
   | (with_reducible exact page_Check.mono _ _ _)
   | (with_reducible exact page_Cut.mono _ _ _ _)
   | (with_reducible exact page_Get.mono _ _ _ _)
   | (with_reducible exact page_Set.mono _ _ _ _ _)
   | (with_reducible exact quorumlaw0_Page.mono _ _ _)
   | (with_reducible exact quorumref0_CopyPage.mono _ _ _)
   | (with_reducible exact quorumref0_EqPage.mono _ _ _ _ _)
   | (with_reducible exact quorumref4_Add.mono _ _ _ _)
   | (with_reducible exact quorumref4_Bytes.mono _ _ _)
   | (with_reducible exact quorumref4_Cut.mono _ _ _ _)
   | (with_reducible exact quorumref4_Page.mono _ _ _)
   | (with_reducible exact quorumref4_Set.mono _ _ _ _ _)
   | (with_reducible exact quorumref4_There.mono _ _ _ _)
   | (with_reducible exact LeO.refl _)
   | (with_reducible exact LeO.none _)
   | (with_reducible refine LeO.ite ?_ ?_)
   | (with_reducible refine LeO.bind ?_ (fun _ => ?_))
   | exact ih0 _ _ _ _ _ _ _ _ _ _ _ _ _
   | exact ih1 _ _ _ _ _ _ _ _ _ _
   | exact ih2 _ _ _ _ _ _ _ _ _ _ _ _ _
   | exact ih3 _ _ _ _ _ _ _ _ _ _ _ _ _
   | exact ih4 _ _ _ _ _ _ _ _ _ _ _ _
   | exact page_Add.mono _ _ _ _
   | exact page_Bytes.mono _ _ _
   | exact page_Check.mono _ _ _
   | exact page_Cut.mono _ _ _ _
   | exact page_Get.mono _ _ _ _
   | exact page_Set.mono _ _ _ _ _
   | exact quorumlaw0_Page.mono _ _ _
   | exact quorumref0_CopyPage.mono _ _ _
   | exact quorumref0_EqPage.mono _ _ _ _ _
   | exact quorumref4_Add.mono _ _ _ _
   | exact quorumref4_Bytes.mono _ _ _
   | exact quorumref4_Cut.mono _ _ _ _
   | exact quorumref4_Page.mono _ _ _
   | exact quorumref4_Set.mono _ _ _ _ _
   | exact quorumref4_There.mono _ _ _ _
   | exact LeO.none _
   | refine LeO.ite ?_ ?_
   | refine LeO.bind ?_ (fun _ => ?_)
theorem quorumlaw5_step.mono : ∀ a0 a1 a2 a3 a4 k, LeO (quorumlaw5_step.f k a0 a1 a2 a3 a4) (quorumlaw5_step.f (k + 1) a0 a1 a2 a3 a4) := by
 intro a0 a1 a2 a3 a4 k
 obtain ⟨ih0, ih1, ih2, ih3, ih4⟩ := quorumlaw5_step.mono_l k
 unfold quorumlaw5_step.f
 repeat' first
   | (with_reducible exact ih0 _ _ _ _ _ _ _ _ _ _ _ _ _)
   | (with_reducible exact ih1 _ _ _ _ _ _ _ _ _ _)
   | (with_reducible exact ih2 _ _ _ _ _ _ _ _ _ _ _ _ _)
   | (with_reducible exact ih3 _ _ _ _ _ _ _ _ _ _ _ _ _)
   | (with_reducible exact ih4 _ _ _ _ _ _ _ _ _ _ _ _)
   | (with_reducible exact page_Add.mono _ _ _ _)
   | (with_reducible exact page_Bytes.mono _ _ _)
   | (with_reducible exact page_Check.mono _ _ _)
   | (with_reducible exact page_Cut.mono _ _ _ _)
   | (with_reducible exact page_Get.mono _ _ _ _)
   | (with_reducible exact page_Set.mono _ _ _ _ _)
   | (with_reducible exact quorumlaw0_Page.mono _ _ _)
   | (with_reducible exact quorumref0_CopyPage.mono _ _ _)
   | (with_reducible exact quorumref0_EqPage.mono _ _ _ _ _)
   | (with_reducible exact quorumref4_Add.mono _ _ _ _)
   | (with_reducible exact quorumref4_Bytes.mono _ _ _)
   | (with_reducible exact quorumref4_Cut.mono _ _ _ _)
   | (with_reducible exact quorumref4_Page.mono _ _ _)
   | (with_reducible exact quorumref4_Set.mono _ _ _ _ _)
   | (with_reducible exact quorumref4_There.mono _ _ _ _)
   | (with_reducible exact LeO.refl _)
   | (with_reducible exact LeO.none _)
   | (with_reducible refine LeO.ite ?_ ?_)
   | (with_reducible refine LeO.bind ?_ (fun _ => ?_))
   | exact ih0 _ _ _ _ _ _ _ _ _ _ _ _ _
   | exact ih1 _ _ _ _ _ _ _ _ _ _
   | exact ih2 _ _ _ _ _ _ _ _ _ _ _ _ _
   | exact ih3 _ _ _ _ _ _ _ _ _ _ _ _ _
   | exact ih4 _ _ _ _ _ _ _ _ _ _ _ _
   | exact page_Add.mono _ _ _ _
   | exact page_Bytes.mono _ _ _
   | exact page_Check.mono _ _ _
   | exact page_Cut.mono _ _ _ _
   | exact page_Get.mono _ _ _ _
   | exact page_Set.mono _ _ _ _ _
   | exact quorumlaw0_Page.mono _ _ _
   | exact quorumref0_CopyPage.mono _ _ _
   | exact quorumref0_EqPage.mono _ _ _ _ _
   | exact quorumref4_Add.mono _ _ _ _
   | exact quorumref4_Bytes.mono _ _ _
   | exact quorumref4_Cut.mono _ _ _ _
   | exact quorumref4_Page.mono _ _ _
   | exact quorumref4_Set.mono _ _ _ _ _
   | exact quorumref4_There.mono _ _ _ _
   | exact LeO.none _
   | refine LeO.ite ?_ ?_
   | refine LeO.bind ?_ (fun _ => ?_)
def quorumlaw5_step.T28 : Bool × List (List Nat × List Nat) := (true, [([], []), ([0], [0]), ([], []), ([2], [2]), ([1, 3], [1, 3]), ([4], [4]), ([], []), ([5, 6, 0, 1, 2, 3, 4, 5, 6], [5])])
def quorumlaw5_step.B28 : List Nat := [0, 1, 0, 4, 15, 31, 0, 127]
theorem quorumlaw5_step.tab28 : rtab .any (opsOf Try.f43 28) = quorumlaw5_step.T28 := by kernel_rfl
theorem quorumlaw5_step.bits28 : waitsOk quorumlaw5_step.T28.2 quorumlaw5_step.B28 = true := by kernel_rfl
def quorumlaw5_step.T29 : Bool × List (List Nat × List Nat) := (true, [([], []), ([], []), ([1], [1]), ([], []), ([2, 3], [2, 3]), ([4, 2], [4]), ([5], [5]), ([5], [5]), ([6, 7, 5], [5, 6, 7]), ([5, 8], [5, 8]), ([9, 5], [9]), ([10], [10]), ([11, 10, 10], [10, 11]), ([10], [10]), ([12, 13, 10], [10, 12, 13]), ([10, 14], [10, 14]), ([15, 12], [15]), ([16], [16]), ([16], [16]), ([17, 18, 16], [16, 17, 18]), ([16, 19], [16, 19]), ([20, 16], [20]), ([21], [21]), ([21], [21]), ([22, 23, 21, 21], [21, 22, 23]), ([21, 24], [21, 24]), ([0, 24, 0], [0]), ([25, 26, 0, 1, 2, 3, 4, 5, 6, 7, 8, 9, 10, 11, 12, 13, 14, 15, 16, 17, 18, 19, 20, 21, 22, 23, 24, 25, 26], [25])])
def quorumlaw5_step.B29 : List Nat := [0, 0, 2, 0, 14, 30, 62, 62, 254, 510, 1022, 2046, 4094, 2046, 16382, 32766, 65534, 131070, 131070, 524286, 1048574, 2097150, 4194302, 4194302, 16777214, 33554430, 33554431, 134217727]
theorem quorumlaw5_step.tab29 : rtab .any (opsOf Try.f43 29) = quorumlaw5_step.T29 := by kernel_rfl
theorem quorumlaw5_step.bits29 : waitsOk quorumlaw5_step.T29.2 quorumlaw5_step.B29 = true := by kernel_rfl
set_option maxHeartbeats 8000000 in
set_option maxRecDepth 100000 in
theorem quorumlaw5_step.calls (k : Nat) (P0_0_ : Nat → Prop) (A0_0 : Option Addr) (c0_0 : Nat) (l0_0 : List ByteArray) (P0_1_ : Nat → Prop) (A0_1 : Option Addr) (c0_1 : Nat) (l0_1 : List Int) (a1_0 : Int) (a1_1 : Int) (a1_2 : ByteArray) (r1 : List ByteArray) (r2 : List Int) (r3 : Bool) (w : World) (hs0_0 : Kd.V Kd.string 9 w w.heap.size (fun k_ => P0_0_ k_) (.slice A0_0 l0_0.length c0_0) l0_0) (hs0_1 : Kd.V (Kd.int .i64) 3 w w.heap.size (fun k_ => P0_1_ k_) (.slice A0_1 l0_1.length c0_1) l0_1) (h : quorumlaw5_step.f k l0_0 l0_1 a1_0 a1_1 a1_2 = some (r1, r2, r3)) :
  Calls Try.prog 43 #[.agg #[.slice A0_0 l0_0.length c0_0, .slice A0_1 l0_1.length c0_1], .agg #[.int .i64 a1_0, .int .i64 a1_1, .string a1_2]] w fun e w' => ∃ v0_ v1_ : Value, e = .returned (.tuple #[.agg #[v0_, v1_], .bool r3]) ∧ Kd.V Kd.string 9 w' w.heap.size (fun k_ => ((P0_0_ k_ ∨ P0_1_ k_) ∨ w.heap.size ≤ k_)) v0_ r1 ∧ Kd.V (Kd.int .i64) 3 w' w.heap.size (fun k_ => ((P0_0_ k_ ∨ P0_1_ k_) ∨ w.heap.size ≤ k_)) v1_ r2 ∧ Below w.heap.size w w' := by
 have hu56 := Try.underlying56
 have hu64 := Try.underlying64
 have HO0_0 := mk0 (show Kd.V Kd.string 9 w w.heap.size (fun k_ => ((P0_0_ k_ ∨ P0_1_ k_) ∨ w.heap.size ≤ k_)) (.slice A0_0 l0_0.length c0_0) l0_0 from Kd.V_mono hs0_0 (fun k_ hk => .inl (.inl hk)))
 have HO0_1 := mk0 (show Kd.V (Kd.int .i64) 3 w w.heap.size (fun k_ => ((P0_0_ k_ ∨ P0_1_ k_) ∨ w.heap.size ≤ k_)) (.slice A0_1 l0_1.length c0_1) l0_1 from Kd.V_mono hs0_1 (fun k_ hk => .inl (.inr hk)))
 have HB := mk0 (Below.refl w.heap.size w)
 have H : ((quorumref0_CopyPage.f k l0_0 l0_1).bind fun bt333 => ((quorumref4_Page.f k l0_0 l0_1).bind fun t340 => ((quorumlaw0_Within.f a1_0 9).bind fun t343 => (if t343 = 4 then (quorumlaw5_step.j0 k t340 1 0 0 t343 (t343 == 4) l0_0 l0_1 a1_0 a1_1 a1_2 bt333.1 bt333.2) else (quorumlaw5_step.j0 k t340 1 0 0 t343 (t343 == 5) l0_0 l0_1 a1_0 a1_1 a1_2 bt333.1 bt333.2))))) = some (r1, r2, r3) := h
 clear h
 replace H := Option.bind_eq_some_iff.mp H
 obtain ⟨⟨t333, t336⟩, A30, H⟩ := H
 try dsimp only at H
 have A3 := mk0 A30
 clear A30
 replace H := Option.bind_eq_some_iff.mp H
 obtain ⟨t340, A40, H⟩ := H
 try dsimp only at H
 have A4 := mk0 A40
 clear A40
 replace H := Option.bind_eq_some_iff.mp H
 obtain ⟨t343, A50, H⟩ := H
 try dsimp only at H
 have A5 := mk0 A50
 clear A50
 have HC6 := mk0 H
 clear H
 go_enter Try.func43, Try.ntmps43
 go_upto_block 0 with (first | ((with_reducible refine gate_dst (N := 2) rfl ?_); refine bx_ (N := 2) (cs := #[.slice A0_0 l0_0.length c0_0, .slice A0_1 l0_1.length c0_1]) (t := 56) (h := ?_); intro gb330 hg w7 hbox hb; have n4_ := mk0 (gz_ HB hg); have n5_ := mk0 (gz_ HB hg); replace HO0_0 := mk0 (Kd.V_below (Kd.V_elderB (v_ HO0_0) gb330 (Nat.le_of_eq hg.symm)) hb); replace HO0_1 := mk0 (Kd.V_below (Kd.V_elderB (v_ HO0_1) gb330 (Nat.le_of_eq hg.symm)) hb); replace HB := mk0 (bt_ (b_ HB) hb); have BK330 := mk0 (hbox); have GW330 := n4_; have GE330 := n5_; clear n4_ n5_; clear hb hbox hg) | ((with_reducible refine gate_dst (N := 3) rfl ?_); refine bx_ (N := 3) (cs := #[.int .i64 a1_0, .int .i64 a1_1, .string a1_2]) (t := 64) (h := ?_); intro gb331 hg w8 hbox hb; have n5_ := mk0 (gz_ HB hg); have n6_ := mk0 (gz_ HB hg); have n7_ := mk0 (ne1_ BK330 hg); have n8_ := mk0 (ne2_ BK330 hg); replace HO0_0 := mk0 (Kd.V_below (Kd.V_elderB (v_ HO0_0) gb331 (Nat.le_of_eq hg.symm)) hb); replace HO0_1 := mk0 (Kd.V_below (Kd.V_elderB (v_ HO0_1) gb331 (Nat.le_of_eq hg.symm)) hb); replace BK330 := mk0 (u_ BK330 hb); replace HB := mk0 (bt_ (b_ HB) hb); have BK331 := mk0 (hbox); have GW331 := n5_; have GE331 := n6_; have NB330_331 := n7_; have NB331_330 := n8_; clear n5_ n6_ n7_ n8_; clear hb hbox hg) | ((with_reducible refine gate_dst (N := 4) rfl ?_); refine bx_ (N := 4) (cs := #[.slice none 0 0, .slice none 0 0]) (t := 56) (h := ?_); intro gb332 hg w9 hbox hb; have n6_ := mk0 (gz_ HB hg); have n7_ := mk0 (gz_ HB hg); have n8_ := mk0 (ne1_ BK330 hg); have n9_ := mk0 (ne2_ BK330 hg); have n10_ := mk0 (ne1_ BK331 hg); have n11_ := mk0 (ne2_ BK331 hg); replace HO0_0 := mk0 (Kd.V_below (Kd.V_elderB (v_ HO0_0) gb332 (Nat.le_of_eq hg.symm)) hb); replace HO0_1 := mk0 (Kd.V_below (Kd.V_elderB (v_ HO0_1) gb332 (Nat.le_of_eq hg.symm)) hb); replace BK330 := mk0 (u_ BK330 hb); replace BK331 := mk0 (u_ BK331 hb); replace HB := mk0 (bt_ (b_ HB) hb); have BK332 := mk0 (hbox); have GW332 := n6_; have GE332 := n7_; have NB330_332 := n8_; have NB332_330 := n9_; have NB331_332 := n10_; have NB332_331 := n11_; clear n6_ n7_ n8_ n9_ n10_ n11_ hb hbox hg; have hnb10 := NB330_331.out; have hnc10 := NB331_330.out; have hnb11 := NB330_332.out; have hnc11 := NB332_330.out; obtain ⟨hcz12_0, hcz12_1, hfz12_0, hfz12_1⟩ := c2_ BK330) | ((with_reducible refine gate_callee (f := 42) rfl ?_); refine gL_ (some 22) Try.func42 #[.agg #[.slice A0_0 l0_0.length c0_0, .slice A0_1 l0_1.length c0_1]] (h := ?_); (with_reducible refine (quorumref0_CopyPage.calls k _ _ l0_0 _ _ l0_1 t333 t336 _ ?side1 ?side2 ?side3 ?side4 A3.out).mono ?_); (case side1 => exact cv_ HO0_0); (case side2 => exact (Kd.V_reads' HO0_0.out).2.1); (case side3 => exact cv_ HO0_1); (case side4 => exact (Kd.V_reads' HO0_1.out).2.1); rintro e w13 ⟨v334, v337, rfl, ho0, ho1, hb⟩; refine ⟨_, rfl, ?_⟩; have n2_ := mk0 (Kd.R_lower (Kd.R_newM (M := fun k_ => (w.heap.size ≤ k_)) ho0 (bz_ (b_ HB)) (fun k_ h_ => h_)) (bz_ (b_ HB))); have n3_ := mk0 (Kd.R_lower (Kd.R_newM (M := fun k_ => (w.heap.size ≤ k_)) ho1 (bz_ (b_ HB)) (fun k_ h_ => h_)) (bz_ (b_ HB))); replace HO0_0 := mk0 (Kd.V_mono (Kd.V_told (Kd.V_told (Kd.V_old (v_ HO0_0) hb) (Kd.R_base ho0)) (Kd.R_base ho1)) (fun _ h_ => h_.1)); replace HO0_1 := mk0 (Kd.V_mono (Kd.V_told (Kd.V_told (Kd.V_old (v_ HO0_1) hb) (Kd.R_base ho0)) (Kd.R_base ho1)) (fun _ h_ => h_.1)); replace BK330 := mk0 (u_ BK330 hb); replace BK331 := mk0 (u_ BK331 hb); replace BK332 := mk0 (u_ BK332 hb); replace HB := mk0 (bt_ (b_ HB) hb); have HO335 := n2_; have HO338 := n3_; clear n2_ n3_; (try clear hb); (try clear ho0); (try clear ho1)) | ((with_reducible refine gate_dst (N := 6) rfl ?_); refine bx_ (N := 6) (cs := #[.slice none 0 0, .slice none 0 0]) (t := 56) (h := ?_); intro gb339 hg w14 hbox hb; have n9_ := mk0 (gz_ HB hg); have n10_ := mk0 (gz_ HB hg); have n11_ := mk0 (ne1_ BK330 hg); have n12_ := mk0 (ne2_ BK330 hg); have n13_ := mk0 (ne1_ BK331 hg); have n14_ := mk0 (ne2_ BK331 hg); have n15_ := mk0 (ne1_ BK332 hg); have n16_ := mk0 (ne2_ BK332 hg); replace HO0_0 := mk0 (Kd.V_below (Kd.V_elderB (v_ HO0_0) gb339 (Nat.le_of_eq hg.symm)) hb); replace HO0_1 := mk0 (Kd.V_below (Kd.V_elderB (v_ HO0_1) gb339 (Nat.le_of_eq hg.symm)) hb); replace HO335 := mk0 (Kd.R_below (r_ HO335) hb); replace HO338 := mk0 (Kd.R_below (r_ HO338) hb); replace BK330 := mk0 (u_ BK330 hb); replace BK331 := mk0 (u_ BK331 hb); replace BK332 := mk0 (u_ BK332 hb); replace HB := mk0 (bt_ (b_ HB) hb); have BK339 := mk0 (hbox); have GW339 := n9_; have GE339 := n10_; have NB330_339 := n11_; have NB339_330 := n12_; have NB331_339 := n13_; have NB339_331 := n14_; have NB332_339 := n15_; have NB339_332 := n16_; clear n9_ n10_ n11_ n12_ n13_ n14_ n15_ n16_ hb hbox hg; obtain ⟨Ao15, co15, eo15⟩ := Kd.R_slice HO335.out; subst eo15; have hnb16 := NB339_330.out; have hnc16 := NB330_339.out; have hnb17 := NB339_331.out; have hnc17 := NB331_339.out; have hnb18 := NB339_332.out; have hnc18 := NB332_339.out; obtain ⟨hcz19_0, hcz19_1, hfz19_0, hfz19_1⟩ := c2_ BK339; obtain ⟨Ao20, co20, eo20⟩ := Kd.R_slice HO338.out; subst eo20; obtain ⟨hcz21_0, hcz21_1, hfz21_0, hfz21_1⟩ := c2_ BK330) | ((with_reducible refine gate_callee (f := 40) rfl ?_); refine gL_ (some 24) Try.func40 #[.agg #[.slice A0_0 l0_0.length c0_0, .slice A0_1 l0_1.length c0_1]] (h := ?_); (with_reducible refine (quorumref4_Page.calls k _ _ l0_0 _ _ l0_1 t340 _ ?side1 ?side2 ?side3 ?side4 A4.out).mono ?_); (case side1 => refine (Kd.V_reads' (e := 9) (base := w.heap.size) (ok := fun k_ => (((((((((P0_0_ k_ ∨ P0_1_ k_) ∨ w.heap.size ≤ k_)) ∧ k_ ≠ gb330) ∧ k_ ≠ gb331) ∧ k_ ≠ gb332) ∧ some k_ ≠ (.slice Ao15 t333.length co15 : Value).ownBlock) ∧ some k_ ≠ (.slice Ao20 t336.length co20 : Value).ownBlock) ∧ k_ ≠ gb339)) (n := l0_0.length) (c := c0_0) ?_).2.2; exact (v2_ (Kd.V_mono (Kd.V_far (p := ⟨gb339, 1, none⟩) (Kd.V_far (p := ⟨gb339, 0, none⟩) (Kd.V_mono HO0_0.out (fun k_ hk => (⟨hk, hk.2⟩ : _ ∧ k_ ≠ gb339))) (fun _ hk => hk.2) (.slice Ao15 t333.length co15)) (fun _ hk => hk.2) (.slice Ao20 t336.length co20)) (fun _ h_ => h_.1)))); (case side2 => exact (Kd.V_reads' HO0_0.out).2.1); (case side3 => refine (Kd.V_reads' (e := 3) (base := w.heap.size) (ok := fun k_ => (((((((((P0_0_ k_ ∨ P0_1_ k_) ∨ w.heap.size ≤ k_)) ∧ k_ ≠ gb330) ∧ k_ ≠ gb331) ∧ k_ ≠ gb332) ∧ some k_ ≠ (.slice Ao15 t333.length co15 : Value).ownBlock) ∧ some k_ ≠ (.slice Ao20 t336.length co20 : Value).ownBlock) ∧ k_ ≠ gb339)) (n := l0_1.length) (c := c0_1) ?_).2.2; exact (v2_ (Kd.V_mono (Kd.V_far (p := ⟨gb339, 1, none⟩) (Kd.V_far (p := ⟨gb339, 0, none⟩) (Kd.V_mono HO0_1.out (fun k_ hk => (⟨hk, hk.2⟩ : _ ∧ k_ ≠ gb339))) (fun _ hk => hk.2) (.slice Ao15 t333.length co15)) (fun _ hk => hk.2) (.slice Ao20 t336.length co20)) (fun _ h_ => h_.1)))); (case side4 => exact (Kd.V_reads' HO0_1.out).2.1); rintro e w22 ⟨rfl, hb⟩; refine ⟨_, rfl, ?_⟩; have n2_ := mk0 (Kd.R_below (r2_ (Kd.R_mono (Kd.R_far (p := ⟨gb339, 1, none⟩) (Kd.R_far (p := ⟨gb339, 0, none⟩) (Kd.R_types HO335.out BK339.out (by decide)) (fun _ hk => hk.2) (.slice Ao15 t333.length co15)) (fun _ hk => hk.2) (.slice Ao20 t336.length co20)) (fun _ h_ => h_.1))) hb); have n3_ := mk0 (Kd.R_below (r2_ (Kd.R_mono (Kd.R_far (p := ⟨gb339, 1, none⟩) (Kd.R_far (p := ⟨gb339, 0, none⟩) (Kd.R_types HO338.out BK339.out (by decide)) (fun _ hk => hk.2) (.slice Ao15 t333.length co15)) (fun _ hk => hk.2) (.slice Ao20 t336.length co20)) (fun _ h_ => h_.1))) hb); replace HO0_0 := mk0 (Kd.V_below (v2_ (Kd.V_mono (Kd.V_far (p := ⟨gb339, 1, none⟩) (Kd.V_far (p := ⟨gb339, 0, none⟩) (Kd.V_mono HO0_0.out (fun k_ hk => (⟨hk, hk.2⟩ : _ ∧ k_ ≠ gb339))) (fun _ hk => hk.2) (.slice Ao15 t333.length co15)) (fun _ hk => hk.2) (.slice Ao20 t336.length co20)) (fun _ h_ => h_.1))) hb); replace HO0_1 := mk0 (Kd.V_below (v2_ (Kd.V_mono (Kd.V_far (p := ⟨gb339, 1, none⟩) (Kd.V_far (p := ⟨gb339, 0, none⟩) (Kd.V_mono HO0_1.out (fun k_ hk => (⟨hk, hk.2⟩ : _ ∧ k_ ≠ gb339))) (fun _ hk => hk.2) (.slice Ao15 t333.length co15)) (fun _ hk => hk.2) (.slice Ao20 t336.length co20)) (fun _ h_ => h_.1))) hb); replace BK330 := mk0 (blk_below (g := gb330) (o := .cells #[.slice A0_0 l0_0.length c0_0, .slice A0_1 l0_1.length c0_1] 56 (0, 0)) (fa_ (fa_ (h_ BK330) NB330_339.out) NB330_339.out) hb); replace BK331 := mk0 (blk_below (g := gb331) (o := .cells #[.int .i64 a1_0, .int .i64 a1_1, .string a1_2] 64 (0, 0)) (fa_ (fa_ (h_ BK331) NB331_339.out) NB331_339.out) hb); replace BK332 := mk0 (blk_below (g := gb332) (o := .cells #[.slice none 0 0, .slice none 0 0] 56 (0, 0)) (fa_ (fa_ (h_ BK332) NB332_339.out) NB332_339.out) hb); replace BK339 := mk0 (blk_below (g := gb339) (o := .cells #[.slice Ao15 t333.length co15, .slice Ao20 t336.length co20] 56 (0, 0)) (pu_ (cs := #[.slice Ao15 t333.length co15, .slice none 0 0]) (pu_ (cs := #[.slice none 0 0, .slice none 0 0]) (h_ BK339))) hb); replace HB := mk0 (bt_ (b_ HB) hb); clear HO335 HO338; have HO335 := n2_; have HO338 := n3_; clear n2_ n3_; (try clear hb)) | ((with_reducible refine gate_dst (N := 9) rfl ?_); refine bx_ (N := 9) (cs := #[.slice none 0 0, .slice none 0 0]) (t := 56) (h := ?_); intro gb341 hg w23 hbox hb; have n10_ := mk0 (gz_ HB hg); have n11_ := mk0 (gz_ HB hg); have n12_ := mk0 (ne1_ BK330 hg); have n13_ := mk0 (ne2_ BK330 hg); have n14_ := mk0 (ne1_ BK331 hg); have n15_ := mk0 (ne2_ BK331 hg); have n16_ := mk0 (ne1_ BK332 hg); have n17_ := mk0 (ne2_ BK332 hg); have n18_ := mk0 (ne1_ BK339 hg); have n19_ := mk0 (ne2_ BK339 hg); replace HO0_0 := mk0 (Kd.V_below (Kd.V_elderB (v_ HO0_0) gb341 (Nat.le_of_eq hg.symm)) hb); replace HO0_1 := mk0 (Kd.V_below (Kd.V_elderB (v_ HO0_1) gb341 (Nat.le_of_eq hg.symm)) hb); replace HO335 := mk0 (Kd.R_below (r_ HO335) hb); replace HO338 := mk0 (Kd.R_below (r_ HO338) hb); replace BK330 := mk0 (u_ BK330 hb); replace BK331 := mk0 (u_ BK331 hb); replace BK332 := mk0 (u_ BK332 hb); replace BK339 := mk0 (u_ BK339 hb); replace HB := mk0 (bt_ (b_ HB) hb); have BK341 := mk0 (hbox); have GW341 := n10_; have GE341 := n11_; have NB330_341 := n12_; have NB341_330 := n13_; have NB331_341 := n14_; have NB341_331 := n15_; have NB332_341 := n16_; have NB341_332 := n17_; have NB339_341 := n18_; have NB341_339 := n19_; clear n10_ n11_ n12_ n13_ n14_ n15_ n16_ n17_ n18_ n19_; clear hb hbox hg) | ((with_reducible refine gate_dst (N := 10) rfl ?_); refine bx_ (N := 10) (cs := #[.slice none 0 0, .slice none 0 0]) (t := 56) (h := ?_); intro gb342 hg w24 hbox hb; have n11_ := mk0 (gz_ HB hg); have n12_ := mk0 (gz_ HB hg); have n13_ := mk0 (ne1_ BK330 hg); have n14_ := mk0 (ne2_ BK330 hg); have n15_ := mk0 (ne1_ BK331 hg); have n16_ := mk0 (ne2_ BK331 hg); have n17_ := mk0 (ne1_ BK332 hg); have n18_ := mk0 (ne2_ BK332 hg); have n19_ := mk0 (ne1_ BK339 hg); have n20_ := mk0 (ne2_ BK339 hg); have n21_ := mk0 (ne1_ BK341 hg); have n22_ := mk0 (ne2_ BK341 hg); replace HO0_0 := mk0 (Kd.V_below (Kd.V_elderB (v_ HO0_0) gb342 (Nat.le_of_eq hg.symm)) hb); replace HO0_1 := mk0 (Kd.V_below (Kd.V_elderB (v_ HO0_1) gb342 (Nat.le_of_eq hg.symm)) hb); replace HO335 := mk0 (Kd.R_below (r_ HO335) hb); replace HO338 := mk0 (Kd.R_below (r_ HO338) hb); replace BK330 := mk0 (u_ BK330 hb); replace BK331 := mk0 (u_ BK331 hb); replace BK332 := mk0 (u_ BK332 hb); replace BK339 := mk0 (u_ BK339 hb); replace BK341 := mk0 (u_ BK341 hb); replace HB := mk0 (bt_ (b_ HB) hb); have BK342 := mk0 (hbox); have GW342 := n11_; have GE342 := n12_; have NB330_342 := n13_; have NB342_330 := n14_; have NB331_342 := n15_; have NB342_331 := n16_; have NB332_342 := n17_; have NB342_332 := n18_; have NB339_342 := n19_; have NB342_339 := n20_; have NB341_342 := n21_; have NB342_341 := n22_; clear n11_ n12_ n13_ n14_ n15_ n16_ n17_ n18_ n19_ n20_ n21_ n22_ hb hbox hg; have hnb25 := NB331_332.out; have hnc25 := NB332_331.out; have hnb26 := NB331_341.out; have hnc26 := NB341_331.out; have hnb27 := NB331_342.out; have hnc27 := NB342_331.out; obtain ⟨hcz28_0, hcz28_1, hcz28_2, hfz28_0, hfz28_1, hfz28_2⟩ := c3_ BK331) | ((with_reducible refine gate_callee (f := 33) rfl ?_); refine gL_ (some 27) Try.func33 #[.int .i64 a1_0, .int .i64 9] (h := ?_); (with_reducible refine (quorumlaw0_Within.calls a1_0 9 t343 _ A5.out).mono ?_); rintro e w' ⟨rfl, ⟨nd, rfl⟩⟩; refine ⟨_, rfl, ?_⟩))
 (try simp only [Act.put, List.setIfInBounds_toArray, List.set_cons_zero, List.set_cons_succ])
 go_cut [8, 11, 12, 13] (fun v8 v11 v12 v13 wc => ∃ (kq : Nat) (x8_5 : Int) (x11_5 : Int) (x12_5 : Int) (x13_5 : Int) (x342000_5 : List ByteArray) (x342001_5 : List Int) (x343000_5 : List ByteArray) (x343001_5 : List Int) (u342000 : Value) (u342001 : Value) (u343000 : Value) (u343001 : Value), v8 = .int .i64 x8_5 ∧ v11 = .int .i64 x11_5 ∧ v12 = .int .i64 x12_5 ∧ v13 = .int .i64 x13_5 ∧ Fc (quorumlaw5_step.j3 kq t340 x8_5 x11_5 x12_5 x13_5 l0_0 l0_1 t333 t336 x342000_5 x342001_5 x343000_5 x343001_5 = some (r1, r2, r3)) ∧ Fc (kq ≤ k) ∧ Fc (Kd.V Kd.string 9 wc w.heap.size (fun k_ => ((P0_0_ k_ ∨ P0_1_ k_) ∨ w.heap.size ≤ k_) ∧ some k_ ≠ ((.slice Ao15 t333.length co15) : Value).ownBlock ∧ some k_ ≠ ((.slice Ao20 t336.length co20) : Value).ownBlock ∧ some k_ ≠ (u342000 : Value).ownBlock ∧ some k_ ≠ (u342001 : Value).ownBlock ∧ some k_ ≠ (u343000 : Value).ownBlock ∧ some k_ ≠ (u343001 : Value).ownBlock ∧ k_ ≠ gb330 ∧ k_ ≠ gb331 ∧ k_ ≠ gb332 ∧ k_ ≠ gb339 ∧ k_ ≠ gb341 ∧ k_ ≠ gb342) (.slice A0_0 l0_0.length c0_0) l0_0) ∧ Fc (Kd.V (Kd.int .i64) 3 wc w.heap.size (fun k_ => ((P0_0_ k_ ∨ P0_1_ k_) ∨ w.heap.size ≤ k_) ∧ some k_ ≠ ((.slice Ao15 t333.length co15) : Value).ownBlock ∧ some k_ ≠ ((.slice Ao20 t336.length co20) : Value).ownBlock ∧ some k_ ≠ (u342000 : Value).ownBlock ∧ some k_ ≠ (u342001 : Value).ownBlock ∧ some k_ ≠ (u343000 : Value).ownBlock ∧ some k_ ≠ (u343001 : Value).ownBlock ∧ k_ ≠ gb330 ∧ k_ ≠ gb331 ∧ k_ ≠ gb332 ∧ k_ ≠ gb339 ∧ k_ ≠ gb341 ∧ k_ ≠ gb342) (.slice A0_1 l0_1.length c0_1) l0_1) ∧ Fc (Kd.R Kd.string 9 wc w.heap.size (fun k_ => (w.heap.size ≤ k_) ∧ some k_ ≠ (u342000 : Value).ownBlock ∧ some k_ ≠ (u343000 : Value).ownBlock) (.slice Ao15 t333.length co15) t333) ∧ Fc (Kd.Q (Kd.int .i64) 3 wc w.heap.size (fun k_ => (w.heap.size ≤ k_) ∧ some k_ ≠ (u342001 : Value).ownBlock ∧ some k_ ≠ (u343001 : Value).ownBlock) (.slice Ao20 t336.length co20) t336) ∧ Fc (Kd.R Kd.string 9 wc w.heap.size (fun k_ => (w.heap.size ≤ k_) ∧ some k_ ≠ ((.slice Ao15 t333.length co15) : Value).ownBlock ∧ some k_ ≠ (u343000 : Value).ownBlock) u342000 x342000_5) ∧ Fc (Kd.Q (Kd.int .i64) 3 wc w.heap.size (fun k_ => (w.heap.size ≤ k_) ∧ some k_ ≠ ((.slice Ao20 t336.length co20) : Value).ownBlock ∧ some k_ ≠ (u343001 : Value).ownBlock) u342001 x342001_5) ∧ Fc (Kd.R Kd.string 9 wc w.heap.size (fun k_ => (w.heap.size ≤ k_) ∧ some k_ ≠ ((.slice Ao15 t333.length co15) : Value).ownBlock ∧ some k_ ≠ (u342000 : Value).ownBlock) u343000 x343000_5) ∧ Fc (Kd.Q (Kd.int .i64) 3 wc w.heap.size (fun k_ => (w.heap.size ≤ k_) ∧ some k_ ≠ ((.slice Ao20 t336.length co20) : Value).ownBlock ∧ some k_ ≠ (u342001 : Value).ownBlock) u343001 x343001_5) ∧ Fc (wc.heap[gb330]? = some (.cells #[(.slice A0_0 l0_0.length c0_0), (.slice A0_1 l0_1.length c0_1)] 56 (0, 0))) ∧ Fc (wc.heap[gb331]? = some (.cells #[.int .i64 a1_0, .int .i64 a1_1, .string a1_2] 64 (0, 0))) ∧ Fc (wc.heap[gb332]? = some (.cells #[(.slice none 0 0), (.slice none 0 0)] 56 (0, 0))) ∧ Fc (wc.heap[gb339]? = some (.cells #[(.slice Ao15 t333.length co15), (.slice Ao20 t336.length co20)] 56 (0, 0))) ∧ Fc (wc.heap[gb341]? = some (.cells #[u342000, u342001] 56 (0, 0))) ∧ Fc (wc.heap[gb342]? = some (.cells #[u343000, u343001] 56 (0, 0))) ∧ Fc (Below w.heap.size w wc))
 case first =>
  have H := HC6.out
  clear HC6
  have HC29 := mk0 H
  clear H
  go_upto_if 45 with (fail)
  go_cut [45] (fun v45 wc => ∃ (kq : Nat) (x45_28 : Bool), v45 = .bool x45_28 ∧ Fc (quorumlaw5_step.j0 kq t340 1 0 0 t343 x45_28 l0_0 l0_1 a1_0 a1_1 a1_2 t333 t336 = some (r1, r2, r3)) ∧ Fc (kq ≤ k) ∧ Fc (Kd.V Kd.string 9 wc w.heap.size (fun k_ => ((P0_0_ k_ ∨ P0_1_ k_) ∨ w.heap.size ≤ k_) ∧ some k_ ≠ ((.slice Ao15 t333.length co15) : Value).ownBlock ∧ some k_ ≠ ((.slice Ao20 t336.length co20) : Value).ownBlock ∧ k_ ≠ gb330 ∧ k_ ≠ gb331 ∧ k_ ≠ gb332 ∧ k_ ≠ gb339 ∧ k_ ≠ gb341 ∧ k_ ≠ gb342) (.slice A0_0 l0_0.length c0_0) l0_0) ∧ Fc (Kd.V (Kd.int .i64) 3 wc w.heap.size (fun k_ => ((P0_0_ k_ ∨ P0_1_ k_) ∨ w.heap.size ≤ k_) ∧ some k_ ≠ ((.slice Ao15 t333.length co15) : Value).ownBlock ∧ some k_ ≠ ((.slice Ao20 t336.length co20) : Value).ownBlock ∧ k_ ≠ gb330 ∧ k_ ≠ gb331 ∧ k_ ≠ gb332 ∧ k_ ≠ gb339 ∧ k_ ≠ gb341 ∧ k_ ≠ gb342) (.slice A0_1 l0_1.length c0_1) l0_1) ∧ Fc (Kd.R Kd.string 9 wc w.heap.size (fun k_ => (w.heap.size ≤ k_)) (.slice Ao15 t333.length co15) t333) ∧ Fc (Kd.Q (Kd.int .i64) 3 wc w.heap.size (fun k_ => (w.heap.size ≤ k_)) (.slice Ao20 t336.length co20) t336) ∧ Fc (wc.heap[gb330]? = some (.cells #[(.slice A0_0 l0_0.length c0_0), (.slice A0_1 l0_1.length c0_1)] 56 (0, 0))) ∧ Fc (wc.heap[gb331]? = some (.cells #[.int .i64 a1_0, .int .i64 a1_1, .string a1_2] 64 (0, 0))) ∧ Fc (wc.heap[gb332]? = some (.cells #[(.slice none 0 0), (.slice none 0 0)] 56 (0, 0))) ∧ Fc (wc.heap[gb339]? = some (.cells #[(.slice Ao15 t333.length co15), (.slice Ao20 t336.length co20)] 56 (0, 0))) ∧ Fc (wc.heap[gb341]? = some (.cells #[(.slice none 0 0), (.slice none 0 0)] 56 (0, 0))) ∧ Fc (wc.heap[gb342]? = some (.cells #[(.slice none 0 0), (.slice none 0 0)] 56 (0, 0))) ∧ Fc (Below w.heap.size w wc))
  case first =>
   have H := HC29.out
   clear HC29
   by_cases c30 : t343 = 4
   ·rw [if_pos c30] at H
    have c30b0 : (t343 == 4) = true := beq_iff_eq.mpr c30
    have c30b1 : (t343 != 4) = false := bne_eq_false_iff_eq.mpr c30
    clear c30
    (first | rw [c30b0] | (simp only [i64_w, i32_w]; rw [c30b0]) | skip)
    have H' := mk0 H
    clear H
    go_wp2
    go_meet
    case rel => exact ⟨_, ((t343 == 4)), (by first | rfl | (simp; done) | (simp [*]; done)), H', ⟨by first | omega | exact Nat.le_refl _⟩, ⟨by (with_reducible repeat (first | apply Kd.V_alloc | apply Kd.V_drewN | apply Kd.V_drew)); exact Kd.V_mono HO0_0.out (fun _ hk => ⟨hk.1.1.1.1.1.1.1.1, ⟨hk.1.1.1.1.2, ⟨hk.1.1.1.2, ⟨hk.1.1.1.1.1.1.1.2, ⟨hk.1.1.1.1.1.1.2, ⟨hk.1.1.1.1.1.2, ⟨hk.1.1.2, ⟨hk.1.2, hk.2⟩⟩⟩⟩⟩⟩⟩⟩)⟩, ⟨by (with_reducible repeat (first | apply Kd.V_alloc | apply Kd.V_drewN | apply Kd.V_drew)); exact Kd.V_mono HO0_1.out (fun _ hk => ⟨hk.1.1.1.1.1.1.1.1, ⟨hk.1.1.1.1.2, ⟨hk.1.1.1.2, ⟨hk.1.1.1.1.1.1.1.2, ⟨hk.1.1.1.1.1.1.2, ⟨hk.1.1.1.1.1.2, ⟨hk.1.1.2, ⟨hk.1.2, hk.2⟩⟩⟩⟩⟩⟩⟩⟩)⟩, ⟨by (with_reducible repeat (first | apply Ra_ | apply Rn_ | apply Rd_)); exact Kd.R_mono HO335.out (fun _ hk => hk.1)⟩, ⟨Kd.Q_of_R (r2_ (Kd.R_mono HO338.out (fun _ hk => hk.1)))⟩, ⟨h_ BK330⟩, ⟨h_ BK331⟩, ⟨h_ BK332⟩, ⟨h_ BK339⟩, ⟨h_ BK341⟩, ⟨h_ BK342⟩, ⟨b_ HB⟩⟩
   ·rw [if_neg c30] at H
    have c30b0 : (t343 == 4) = false := beq_eq_false_iff_ne.mpr c30
    have c30b1 : (t343 != 4) = true := bne_iff_ne.mpr c30
    (first | rw [c30b0] | (simp only [i64_w, i32_w]; rw [c30b0]) | skip)
    have H' := mk0 H
    clear H
    go_wp2
    go_meet
    case rel => exact ⟨_, ((t343 == 5)), (by first | rfl | (simp; done) | (simp [*]; done)), H', ⟨by first | omega | exact Nat.le_refl _⟩, ⟨by (with_reducible repeat (first | apply Kd.V_alloc | apply Kd.V_drewN | apply Kd.V_drew)); exact Kd.V_mono HO0_0.out (fun _ hk => ⟨hk.1.1.1.1.1.1.1.1, ⟨hk.1.1.1.1.2, ⟨hk.1.1.1.2, ⟨hk.1.1.1.1.1.1.1.2, ⟨hk.1.1.1.1.1.1.2, ⟨hk.1.1.1.1.1.2, ⟨hk.1.1.2, ⟨hk.1.2, hk.2⟩⟩⟩⟩⟩⟩⟩⟩)⟩, ⟨by (with_reducible repeat (first | apply Kd.V_alloc | apply Kd.V_drewN | apply Kd.V_drew)); exact Kd.V_mono HO0_1.out (fun _ hk => ⟨hk.1.1.1.1.1.1.1.1, ⟨hk.1.1.1.1.2, ⟨hk.1.1.1.2, ⟨hk.1.1.1.1.1.1.1.2, ⟨hk.1.1.1.1.1.1.2, ⟨hk.1.1.1.1.1.2, ⟨hk.1.1.2, ⟨hk.1.2, hk.2⟩⟩⟩⟩⟩⟩⟩⟩)⟩, ⟨by (with_reducible repeat (first | apply Ra_ | apply Rn_ | apply Rd_)); exact Kd.R_mono HO335.out (fun _ hk => hk.1)⟩, ⟨Kd.Q_of_R (r2_ (Kd.R_mono HO338.out (fun _ hk => hk.1)))⟩, ⟨h_ BK330⟩, ⟨h_ BK331⟩, ⟨h_ BK332⟩, ⟨h_ BK339⟩, ⟨h_ BK341⟩, ⟨h_ BK342⟩, ⟨b_ HB⟩⟩
  case rest =>
   clear HC29
   try clear c30
   try clear c30b0
   try clear c30b1
   try clear hcz12_0
   try clear hcz12_1
   try clear hcz19_0
   try clear hcz19_1
   try clear hcz21_0
   try clear hcz21_1
   try clear hcz28_0
   try clear hcz28_1
   try clear hcz28_2
   try clear hfz12_0
   try clear hfz12_1
   try clear hfz19_0
   try clear hfz19_1
   try clear hfz21_0
   try clear hfz21_1
   try clear hfz28_0
   try clear hfz28_1
   try clear hfz28_2
   obtain ⟨kq, x45_28, rfl, HA, HJ28, HO_331000, HO_331001, HO_340000, HO_340001, BK330, BK331, BK332, BK339, BK341, BK342, HB⟩ := hcut
   cases kq with
   | zero => exact absurd HA.out (by simp [quorumlaw5_step.j0])
   | succ kj28 =>
    have H := HA.out
    clear HA
    simp only [quorumlaw5_step.j0] at H
    as_aux_lemma =>
     by_cases c31 : x45_28 = true
     ·subst c31
      rw [if_pos rfl] at H
      replace H := Option.bind_eq_some_iff.mp H
      obtain ⟨⟨t344, t347, t350⟩, A320, H⟩ := H
      try dsimp only at H
      have A32 := mk0 A320
      clear A320
      by_cases c33 : t340 = true
      ·subst c33
       rw [if_pos rfl] at H
       replace H := Option.bind_eq_some_iff.mp H
       obtain ⟨⟨t351, t354, t357⟩, A340, H⟩ := H
       try dsimp only at H
       have A34 := mk0 A340
       clear A340
       have H' := mk0 H
       clear H
       have hnb35 := NB339_330.out
       have hnc35 := NB330_339.out
       have hnb36 := NB339_331.out
       have hnc36 := NB331_339.out
       have hnb37 := NB339_332.out
       have hnc37 := NB332_339.out
       have hnb38 := NB339_341.out
       have hnc38 := NB341_339.out
       have hnb39 := NB339_342.out
       have hnc39 := NB342_339.out
       obtain ⟨hcz40_0, hcz40_1, hfz40_0, hfz40_1⟩ := c2_ BK339
       have hnb41 := NB331_330.out
       have hnc41 := NB330_331.out
       have hnb42 := NB331_332.out
       have hnc42 := NB332_331.out
       have hnb43 := NB331_341.out
       have hnc43 := NB341_331.out
       have hnb44 := NB331_342.out
       have hnc44 := NB342_331.out
       obtain ⟨hcz45_0, hcz45_1, hcz45_2, hfz45_0, hfz45_1, hfz45_2⟩ := c3_ BK331
       go_wp2_with (first | ((with_reducible refine gate_callee (f := 80) rfl ?_); refine gL_ (some 54) Try.func80 #[.agg #[.slice Ao15 t333.length co15, .slice Ao20 t336.length co20], .int .i64 a1_1, .string a1_2] (h := ?_); (with_reducible refine (page_Set.calls kj28 _ _ t333 _ _ t336 a1_1 a1_2 t344 t347 t350 _ ?side1 ?side2 ?side3 ?side4 A32.out).mono ?_); (case side1 => exact cr_ HO_340000); (case side2 => exact (Kd.R_reads' HO_340000.out).2.1); (case side3 => exact cq_ HO_340001); (case side4 => exact (Kd.Q_reads' HO_340001.out).2.1); rintro e w46 ⟨v345, v348, rfl, ho0, ho1, hb⟩; refine ⟨_, rfl, ?_⟩; have n4_ := mk0 (Kd.R_lower (Kd.R_new' (Kd.R_newM (M := fun k_ => (w.heap.size ≤ k_)) ho0 (bz_ (b_ HB)) (fun k_ h_ => h_)) (Kd.R_lt (r_ HO_340000))) (bz_ (b_ HB))); have n5_ := mk0 (Kd.R_lower (Kd.R_new' (Kd.R_newM (M := fun k_ => (w.heap.size ≤ k_)) ho1 (bz_ (b_ HB)) (fun k_ h_ => h_)) (Kd.Q_lt (q_ HO_340001))) (bz_ (b_ HB))); replace HO_331000 := mk0 (Kd.V_mono (Kd.V_told (Kd.V_told (Kd.V_old (v_ HO_331000) hb) (Kd.R_base ho0)) (Kd.R_base ho1)) (fun _ h_ => h_.1)); replace HO_331001 := mk0 (Kd.V_mono (Kd.V_told (Kd.V_told (Kd.V_old (v_ HO_331001) hb) (Kd.R_base ho0)) (Kd.R_base ho1)) (fun _ h_ => h_.1)); replace HO_340000 := mk0 (Kd.R_elder' (r_ HO_340000) (Kd.R_base ho0) hb); replace HO_340001 := mk0 (Kd.Q_elder' (q_ HO_340001) (Kd.R_base ho1) hb); replace BK330 := mk0 (u_ BK330 hb); replace BK331 := mk0 (u_ BK331 hb); replace BK332 := mk0 (u_ BK332 hb); replace BK339 := mk0 (u_ BK339 hb); replace BK341 := mk0 (u_ BK341 hb); replace BK342 := mk0 (u_ BK342 hb); replace HB := mk0 (bt_ (b_ HB) hb); have HO346 := n4_; have HO349 := n5_; clear n4_ n5_; (try clear hb); (try clear ho0); (try clear ho1); obtain ⟨Ao47, co47, eo47⟩ := Kd.R_slice HO346.out; subst eo47; have hnb48 := NB341_330.out; have hnc48 := NB330_341.out; have hnb49 := NB341_332.out; have hnc49 := NB332_341.out; have hnb50 := NB341_342.out; have hnc50 := NB342_341.out; obtain ⟨hcz51_0, hcz51_1, hfz51_0, hfz51_1⟩ := c2_ BK341; obtain ⟨Ao52, co52, eo52⟩ := Kd.R_slice HO349.out; subst eo52; have hnb53 := NB330_332.out; have hnc53 := NB332_330.out; have hnb54 := NB330_342.out; have hnc54 := NB342_330.out; obtain ⟨hcz55_0, hcz55_1, hfz55_0, hfz55_1⟩ := c2_ BK330; obtain ⟨hcz56_0, hcz56_1, hcz56_2, hfz56_0, hfz56_1, hfz56_2⟩ := c3_ BK331) | ((with_reducible refine gate_callee (f := 81) rfl ?_); refine gL_ (some 64) Try.func81 #[.agg #[.slice A0_0 l0_0.length c0_0, .slice A0_1 l0_1.length c0_1], .int .i64 a1_1, .string a1_2] (h := ?_); (with_reducible refine (quorumref4_Set.calls kj28 _ _ l0_0 _ _ l0_1 a1_1 a1_2 t351 t354 t357 _ ?side1 ?side2 ?side3 ?side4 A34.out).mono ?_); (case side1 => refine (Kd.V_reads' (e := 9) (base := w.heap.size) (ok := fun k_ => ((((((P0_0_ k_ ∨ P0_1_ k_) ∨ w.heap.size ≤ k_)) ∧ (some k_ ≠ (.slice Ao15 t333.length co15 : Value).ownBlock ∧ (some k_ ≠ (.slice Ao20 t336.length co20 : Value).ownBlock ∧ (k_ ≠ gb330 ∧ (k_ ≠ gb331 ∧ (k_ ≠ gb332 ∧ (k_ ≠ gb339 ∧ (k_ ≠ gb341 ∧ k_ ≠ gb342)))))))) ∧ some k_ ≠ (.slice Ao47 t344.length co47 : Value).ownBlock) ∧ some k_ ≠ (.slice Ao52 t347.length co52 : Value).ownBlock)) (n := l0_0.length) (c := c0_0) ?_).2.2; exact (v2_ (Kd.V_mono (Kd.V_far (p := ⟨gb341, 1, none⟩) (Kd.V_far (p := ⟨gb341, 0, none⟩) (Kd.V_mono HO_331000.out (fun k_ hk => (⟨hk, hk.1.1.2.2.2.2.2.2.2.1⟩ : _ ∧ k_ ≠ gb341))) (fun _ hk => hk.2) (.slice Ao47 t344.length co47)) (fun _ hk => hk.2) (.slice Ao52 t347.length co52)) (fun _ h_ => h_.1)))); (case side2 => exact (Kd.V_reads' HO_331000.out).2.1); (case side3 => refine (Kd.V_reads' (e := 3) (base := w.heap.size) (ok := fun k_ => ((((((P0_0_ k_ ∨ P0_1_ k_) ∨ w.heap.size ≤ k_)) ∧ (some k_ ≠ (.slice Ao15 t333.length co15 : Value).ownBlock ∧ (some k_ ≠ (.slice Ao20 t336.length co20 : Value).ownBlock ∧ (k_ ≠ gb330 ∧ (k_ ≠ gb331 ∧ (k_ ≠ gb332 ∧ (k_ ≠ gb339 ∧ (k_ ≠ gb341 ∧ k_ ≠ gb342)))))))) ∧ some k_ ≠ (.slice Ao47 t344.length co47 : Value).ownBlock) ∧ some k_ ≠ (.slice Ao52 t347.length co52 : Value).ownBlock)) (n := l0_1.length) (c := c0_1) ?_).2.2; exact (v2_ (Kd.V_mono (Kd.V_far (p := ⟨gb341, 1, none⟩) (Kd.V_far (p := ⟨gb341, 0, none⟩) (Kd.V_mono HO_331001.out (fun k_ hk => (⟨hk, hk.1.1.2.2.2.2.2.2.2.1⟩ : _ ∧ k_ ≠ gb341))) (fun _ hk => hk.2) (.slice Ao47 t344.length co47)) (fun _ hk => hk.2) (.slice Ao52 t347.length co52)) (fun _ h_ => h_.1)))); (case side4 => exact (Kd.V_reads' HO_331001.out).2.1); rintro e w57 ⟨v352, v355, rfl, ho0, ho1, hb⟩; refine ⟨_, rfl, ?_⟩; have n2_ := mk0 (Kd.R_elder' (r2_ (Kd.R_mono (Kd.R_far (p := ⟨gb341, 1, none⟩) (Kd.R_far (p := ⟨gb341, 0, none⟩) (Kd.R_types HO_340000.out BK341.out (by decide)) (fun _ hk => hk.2) (.slice Ao47 t344.length co47)) (fun _ hk => hk.2) (.slice Ao52 t347.length co52)) (fun _ h_ => h_.1))) (Kd.R_base ho0) hb); have n3_ := mk0 (Kd.Q_elder' (q2_ (Kd.Q_mono (Kd.Q_far (p := ⟨gb341, 1, none⟩) (Kd.Q_far (p := ⟨gb341, 0, none⟩) (Kd.Q_types HO_340001.out BK341.out (by decide)) (fun _ hk => hk.2) (.slice Ao47 t344.length co47)) (fun _ hk => hk.2) (.slice Ao52 t347.length co52)) (fun _ h_ => h_.1))) (Kd.R_base ho1) hb); have n4_ := mk0 (Kd.R_elder' (r2_ (Kd.R_mono (Kd.R_far (p := ⟨gb341, 1, none⟩) (Kd.R_far (p := ⟨gb341, 0, none⟩) (Kd.R_types HO346.out BK341.out (by decide)) (fun _ hk => hk.2) (.slice Ao47 t344.length co47)) (fun _ hk => hk.2) (.slice Ao52 t347.length co52)) (fun _ h_ => h_.1))) (Kd.R_base ho0) hb); have n5_ := mk0 (Kd.R_elder' (r2_ (Kd.R_mono (Kd.R_far (p := ⟨gb341, 1, none⟩) (Kd.R_far (p := ⟨gb341, 0, none⟩) (Kd.R_types HO349.out BK341.out (by decide)) (fun _ hk => hk.2) (.slice Ao47 t344.length co47)) (fun _ hk => hk.2) (.slice Ao52 t347.length co52)) (fun _ h_ => h_.1))) (Kd.R_base ho1) hb); have n6_ := mk0 (Kd.R_lower (Kd.R_new' (Kd.R_new' (Kd.R_newM (M := fun k_ => (w.heap.size ≤ k_)) ho0 (bz_ (b_ HB)) (fun k_ h_ => h_)) (Kd.R_lt (r2_ (Kd.R_mono (Kd.R_far (p := ⟨gb341, 1, none⟩) (Kd.R_far (p := ⟨gb341, 0, none⟩) (Kd.R_types HO_340000.out BK341.out (by decide)) (fun _ hk => hk.2) (.slice Ao47 t344.length co47)) (fun _ hk => hk.2) (.slice Ao52 t347.length co52)) (fun _ h_ => h_.1))))) (Kd.R_lt (r2_ (Kd.R_mono (Kd.R_far (p := ⟨gb341, 1, none⟩) (Kd.R_far (p := ⟨gb341, 0, none⟩) (Kd.R_types HO346.out BK341.out (by decide)) (fun _ hk => hk.2) (.slice Ao47 t344.length co47)) (fun _ hk => hk.2) (.slice Ao52 t347.length co52)) (fun _ h_ => h_.1))))) (bz_ (b_ HB))); have n7_ := mk0 (Kd.R_lower (Kd.R_new' (Kd.R_new' (Kd.R_newM (M := fun k_ => (w.heap.size ≤ k_)) ho1 (bz_ (b_ HB)) (fun k_ h_ => h_)) (Kd.Q_lt (q2_ (Kd.Q_mono (Kd.Q_far (p := ⟨gb341, 1, none⟩) (Kd.Q_far (p := ⟨gb341, 0, none⟩) (Kd.Q_types HO_340001.out BK341.out (by decide)) (fun _ hk => hk.2) (.slice Ao47 t344.length co47)) (fun _ hk => hk.2) (.slice Ao52 t347.length co52)) (fun _ h_ => h_.1))))) (Kd.R_lt (r2_ (Kd.R_mono (Kd.R_far (p := ⟨gb341, 1, none⟩) (Kd.R_far (p := ⟨gb341, 0, none⟩) (Kd.R_types HO349.out BK341.out (by decide)) (fun _ hk => hk.2) (.slice Ao47 t344.length co47)) (fun _ hk => hk.2) (.slice Ao52 t347.length co52)) (fun _ h_ => h_.1))))) (bz_ (b_ HB))); replace HO_331000 := mk0 (Kd.V_mono (Kd.V_told (Kd.V_told (Kd.V_old (v2_ (Kd.V_mono (Kd.V_far (p := ⟨gb341, 1, none⟩) (Kd.V_far (p := ⟨gb341, 0, none⟩) (Kd.V_mono HO_331000.out (fun k_ hk => (⟨hk, hk.1.1.2.2.2.2.2.2.2.1⟩ : _ ∧ k_ ≠ gb341))) (fun _ hk => hk.2) (.slice Ao47 t344.length co47)) (fun _ hk => hk.2) (.slice Ao52 t347.length co52)) (fun _ h_ => h_.1))) hb) (Kd.R_base ho0)) (Kd.R_base ho1)) (fun _ h_ => h_.1)); replace HO_331001 := mk0 (Kd.V_mono (Kd.V_told (Kd.V_told (Kd.V_old (v2_ (Kd.V_mono (Kd.V_far (p := ⟨gb341, 1, none⟩) (Kd.V_far (p := ⟨gb341, 0, none⟩) (Kd.V_mono HO_331001.out (fun k_ hk => (⟨hk, hk.1.1.2.2.2.2.2.2.2.1⟩ : _ ∧ k_ ≠ gb341))) (fun _ hk => hk.2) (.slice Ao47 t344.length co47)) (fun _ hk => hk.2) (.slice Ao52 t347.length co52)) (fun _ h_ => h_.1))) hb) (Kd.R_base ho0)) (Kd.R_base ho1)) (fun _ h_ => h_.1)); replace BK330 := mk0 (blk_below (g := gb330) (o := .cells #[.slice A0_0 l0_0.length c0_0, .slice A0_1 l0_1.length c0_1] 56 (0, 0)) (fa_ (fa_ (h_ BK330) NB330_341.out) NB330_341.out) hb); replace BK331 := mk0 (blk_below (g := gb331) (o := .cells #[.int .i64 a1_0, .int .i64 a1_1, .string a1_2] 64 (0, 0)) (fa_ (fa_ (h_ BK331) NB331_341.out) NB331_341.out) hb); replace BK332 := mk0 (blk_below (g := gb332) (o := .cells #[.slice none 0 0, .slice none 0 0] 56 (0, 0)) (fa_ (fa_ (h_ BK332) NB332_341.out) NB332_341.out) hb); replace BK339 := mk0 (blk_below (g := gb339) (o := .cells #[.slice Ao15 t333.length co15, .slice Ao20 t336.length co20] 56 (0, 0)) (fa_ (fa_ (h_ BK339) NB339_341.out) NB339_341.out) hb); replace BK341 := mk0 (blk_below (g := gb341) (o := .cells #[.slice Ao47 t344.length co47, .slice Ao52 t347.length co52] 56 (0, 0)) (pu_ (cs := #[.slice Ao47 t344.length co47, .slice none 0 0]) (pu_ (cs := #[.slice none 0 0, .slice none 0 0]) (h_ BK341))) hb); replace BK342 := mk0 (blk_below (g := gb342) (o := .cells #[.slice none 0 0, .slice none 0 0] 56 (0, 0)) (fa_ (fa_ (h_ BK342) NB342_341.out) NB342_341.out) hb); replace HB := mk0 (bt_ (b_ HB) hb); clear HO_340000 HO_340001 HO346 HO349; have HO_340000 := n2_; have HO_340001 := n3_; have HO346 := n4_; have HO349 := n5_; have HO353 := n6_; have HO356 := n7_; clear n2_ n3_ n4_ n5_ n6_ n7_; (try clear hb); (try clear ho0); (try clear ho1); obtain ⟨Ao58, co58, eo58⟩ := Kd.R_slice HO353.out; subst eo58; have hnb59 := NB342_332.out; have hnc59 := NB332_342.out; obtain ⟨hcz60_0, hcz60_1, hfz60_0, hfz60_1⟩ := c2_ BK342; obtain ⟨Ao61, co61, eo61⟩ := Kd.R_slice HO356.out; subst eo61))
       go_meet
       case rel => exact ⟨_, (t357), (0), (0), (t350), (t344), (t347), (t351), (t354), (.slice Ao47 t344.length co47), (.slice Ao52 t347.length co52), (.slice Ao58 t351.length co58), (.slice Ao61 t354.length co61), (by first | rfl | (simp; done) | (simp [*]; done)), (by first | rfl | (simp; done) | (simp [*]; done)), (by first | rfl | (simp; done) | (simp [*]; done)), (by first | rfl | (simp; done) | (simp [*]; done)), H', ⟨by have := HJ28.out; first | omega | exact Nat.le_refl _⟩, ⟨by (with_reducible repeat (first | apply Kd.V_alloc | apply Kd.V_drewN | apply Kd.V_drew)); exact Kd.V_mono (Kd.V_far (p := ⟨gb342, 1, none⟩) (Kd.V_far (p := ⟨gb342, 0, none⟩) (Kd.V_mono HO_331000.out (fun k_ hk => (⟨hk, hk.1.1.1.1.2.2.2.2.2.2.2.2⟩ : _ ∧ k_ ≠ gb342))) (fun _ hk => hk.2) (.slice Ao58 t351.length co58)) (fun _ hk => hk.2) (.slice Ao61 t354.length co61)) (fun _ hk => ⟨hk.1.1.1.1.1.1, ⟨hk.1.1.1.1.1.2.1, ⟨hk.1.1.1.1.1.2.2.1, ⟨hk.1.1.1.1.2, ⟨hk.1.1.1.2, ⟨hk.1.1.2, ⟨hk.1.2, ⟨hk.1.1.1.1.1.2.2.2.1, ⟨hk.1.1.1.1.1.2.2.2.2.1, ⟨hk.1.1.1.1.1.2.2.2.2.2.1, ⟨hk.1.1.1.1.1.2.2.2.2.2.2.1, ⟨hk.1.1.1.1.1.2.2.2.2.2.2.2.1, hk.1.1.1.1.1.2.2.2.2.2.2.2.2⟩⟩⟩⟩⟩⟩⟩⟩⟩⟩⟩⟩)⟩, ⟨by (with_reducible repeat (first | apply Kd.V_alloc | apply Kd.V_drewN | apply Kd.V_drew)); exact Kd.V_mono (Kd.V_far (p := ⟨gb342, 1, none⟩) (Kd.V_far (p := ⟨gb342, 0, none⟩) (Kd.V_mono HO_331001.out (fun k_ hk => (⟨hk, hk.1.1.1.1.2.2.2.2.2.2.2.2⟩ : _ ∧ k_ ≠ gb342))) (fun _ hk => hk.2) (.slice Ao58 t351.length co58)) (fun _ hk => hk.2) (.slice Ao61 t354.length co61)) (fun _ hk => ⟨hk.1.1.1.1.1.1, ⟨hk.1.1.1.1.1.2.1, ⟨hk.1.1.1.1.1.2.2.1, ⟨hk.1.1.1.1.2, ⟨hk.1.1.1.2, ⟨hk.1.1.2, ⟨hk.1.2, ⟨hk.1.1.1.1.1.2.2.2.1, ⟨hk.1.1.1.1.1.2.2.2.2.1, ⟨hk.1.1.1.1.1.2.2.2.2.2.1, ⟨hk.1.1.1.1.1.2.2.2.2.2.2.1, ⟨hk.1.1.1.1.1.2.2.2.2.2.2.2.1, hk.1.1.1.1.1.2.2.2.2.2.2.2.2⟩⟩⟩⟩⟩⟩⟩⟩⟩⟩⟩⟩)⟩, ⟨by (with_reducible repeat (first | apply Ra_ | apply Rn_ | apply Rd_)); exact Kd.R_mono (Kd.R_far (p := ⟨gb342, 1, none⟩) (Kd.R_far (p := ⟨gb342, 0, none⟩) (Kd.R_types HO_340000.out BK342.out (by decide)) (fun _ hk => hk.2) (.slice Ao58 t351.length co58)) (fun _ hk => hk.2) (.slice Ao61 t354.length co61)) (fun _ hk => ⟨hk.1.1.1, ⟨hk.1.1.2, hk.1.2⟩⟩)⟩, ⟨by (with_reducible repeat (first | apply Kd.Q_alloc | apply Kd.Q_drewN | apply Kd.Q_drew)); exact Kd.Q_mono (Kd.Q_far (p := ⟨gb342, 1, none⟩) (Kd.Q_far (p := ⟨gb342, 0, none⟩) (Kd.Q_types HO_340001.out BK342.out (by decide)) (fun _ hk => hk.2) (.slice Ao58 t351.length co58)) (fun _ hk => hk.2) (.slice Ao61 t354.length co61)) (fun _ hk => ⟨hk.1.1.1, ⟨hk.1.1.2, hk.1.2⟩⟩)⟩, ⟨by (with_reducible repeat (first | apply Ra_ | apply Rn_ | apply Rd_)); exact Kd.R_mono (Kd.R_far (p := ⟨gb342, 1, none⟩) (Kd.R_far (p := ⟨gb342, 0, none⟩) (Kd.R_types HO346.out BK342.out (by decide)) (fun _ hk => hk.2) (.slice Ao58 t351.length co58)) (fun _ hk => hk.2) (.slice Ao61 t354.length co61)) (fun _ hk => ⟨hk.1.1.1.1, ⟨hk.1.1.2, hk.1.2⟩⟩)⟩, ⟨Kd.Q_of_R (r2_ (Kd.R_mono (Kd.R_far (p := ⟨gb342, 1, none⟩) (Kd.R_far (p := ⟨gb342, 0, none⟩) (Kd.R_types HO349.out BK342.out (by decide)) (fun _ hk => hk.2) (.slice Ao58 t351.length co58)) (fun _ hk => hk.2) (.slice Ao61 t354.length co61)) (fun _ hk => ⟨hk.1.1.1.1, ⟨hk.1.1.2, hk.1.2⟩⟩)))⟩, ⟨by (with_reducible repeat (first | apply Ra_ | apply Rn_ | apply Rd_)); exact Kd.R_mono (Kd.R_far (p := ⟨gb342, 1, none⟩) (Kd.R_far (p := ⟨gb342, 0, none⟩) (Kd.R_types HO353.out BK342.out (by decide)) (fun _ hk => hk.2) (.slice Ao58 t351.length co58)) (fun _ hk => hk.2) (.slice Ao61 t354.length co61)) (fun _ hk => ⟨hk.1.1.1.1, ⟨hk.1.1.2, hk.1.2⟩⟩)⟩, ⟨Kd.Q_of_R (r2_ (Kd.R_mono (Kd.R_far (p := ⟨gb342, 1, none⟩) (Kd.R_far (p := ⟨gb342, 0, none⟩) (Kd.R_types HO356.out BK342.out (by decide)) (fun _ hk => hk.2) (.slice Ao58 t351.length co58)) (fun _ hk => hk.2) (.slice Ao61 t354.length co61)) (fun _ hk => ⟨hk.1.1.1.1, ⟨hk.1.1.2, hk.1.2⟩⟩)))⟩, ⟨(fa_ (fa_ (h_ BK330) NB330_342.out) NB330_342.out)⟩, ⟨(fa_ (fa_ (h_ BK331) NB331_342.out) NB331_342.out)⟩, ⟨(fa_ (fa_ (h_ BK332) NB332_342.out) NB332_342.out)⟩, ⟨(fa_ (fa_ (h_ BK339) NB339_342.out) NB339_342.out)⟩, ⟨(fa_ (fa_ (h_ BK341) NB341_342.out) NB341_342.out)⟩, ⟨(pu_ (cs := #[.slice Ao58 t351.length co58, .slice none 0 0]) (pu_ (cs := #[.slice none 0 0, .slice none 0 0]) (h_ BK342)))⟩, ⟨b_ HB⟩⟩
      ·replace c33 := Bool.eq_false_iff.mpr c33
       subst c33
       rw [if_neg (show ¬ (false = true) by decide)] at H
       have H' := mk0 H
       clear H
       have hnb62 := NB339_330.out
       have hnc62 := NB330_339.out
       have hnb63 := NB339_331.out
       have hnc63 := NB331_339.out
       have hnb64 := NB339_332.out
       have hnc64 := NB332_339.out
       have hnb65 := NB339_341.out
       have hnc65 := NB341_339.out
       have hnb66 := NB339_342.out
       have hnc66 := NB342_339.out
       obtain ⟨hcz67_0, hcz67_1, hfz67_0, hfz67_1⟩ := c2_ BK339
       have hnb68 := NB331_330.out
       have hnc68 := NB330_331.out
       have hnb69 := NB331_332.out
       have hnc69 := NB332_331.out
       have hnb70 := NB331_341.out
       have hnc70 := NB341_331.out
       have hnb71 := NB331_342.out
       have hnc71 := NB342_331.out
       obtain ⟨hcz72_0, hcz72_1, hcz72_2, hfz72_0, hfz72_1, hfz72_2⟩ := c3_ BK331
       go_wp2_with (first | ((with_reducible refine gate_callee (f := 80) rfl ?_); refine gL_ (some 54) Try.func80 #[.agg #[.slice Ao15 t333.length co15, .slice Ao20 t336.length co20], .int .i64 a1_1, .string a1_2] (h := ?_); (with_reducible refine (page_Set.calls kj28 _ _ t333 _ _ t336 a1_1 a1_2 t344 t347 t350 _ ?side1 ?side2 ?side3 ?side4 A32.out).mono ?_); (case side1 => exact cr_ HO_340000); (case side2 => exact (Kd.R_reads' HO_340000.out).2.1); (case side3 => exact cq_ HO_340001); (case side4 => exact (Kd.Q_reads' HO_340001.out).2.1); rintro e w73 ⟨v345, v348, rfl, ho0, ho1, hb⟩; refine ⟨_, rfl, ?_⟩; have n4_ := mk0 (Kd.R_lower (Kd.R_new' (Kd.R_newM (M := fun k_ => (w.heap.size ≤ k_)) ho0 (bz_ (b_ HB)) (fun k_ h_ => h_)) (Kd.R_lt (r_ HO_340000))) (bz_ (b_ HB))); have n5_ := mk0 (Kd.R_lower (Kd.R_new' (Kd.R_newM (M := fun k_ => (w.heap.size ≤ k_)) ho1 (bz_ (b_ HB)) (fun k_ h_ => h_)) (Kd.Q_lt (q_ HO_340001))) (bz_ (b_ HB))); replace HO_331000 := mk0 (Kd.V_mono (Kd.V_told (Kd.V_told (Kd.V_old (v_ HO_331000) hb) (Kd.R_base ho0)) (Kd.R_base ho1)) (fun _ h_ => h_.1)); replace HO_331001 := mk0 (Kd.V_mono (Kd.V_told (Kd.V_told (Kd.V_old (v_ HO_331001) hb) (Kd.R_base ho0)) (Kd.R_base ho1)) (fun _ h_ => h_.1)); replace HO_340000 := mk0 (Kd.R_elder' (r_ HO_340000) (Kd.R_base ho0) hb); replace HO_340001 := mk0 (Kd.Q_elder' (q_ HO_340001) (Kd.R_base ho1) hb); replace BK330 := mk0 (u_ BK330 hb); replace BK331 := mk0 (u_ BK331 hb); replace BK332 := mk0 (u_ BK332 hb); replace BK339 := mk0 (u_ BK339 hb); replace BK341 := mk0 (u_ BK341 hb); replace BK342 := mk0 (u_ BK342 hb); replace HB := mk0 (bt_ (b_ HB) hb); have HO346 := n4_; have HO349 := n5_; clear n4_ n5_; (try clear hb); (try clear ho0); (try clear ho1); obtain ⟨Ao74, co74, eo74⟩ := Kd.R_slice HO346.out; subst eo74; have hnb75 := NB341_330.out; have hnc75 := NB330_341.out; have hnb76 := NB341_332.out; have hnc76 := NB332_341.out; have hnb77 := NB341_342.out; have hnc77 := NB342_341.out; obtain ⟨hcz78_0, hcz78_1, hfz78_0, hfz78_1⟩ := c2_ BK341; obtain ⟨Ao79, co79, eo79⟩ := Kd.R_slice HO349.out; subst eo79))
       go_meet
       case rel => exact ⟨_, (1), (0), (0), (t350), (t344), (t347), (([] : List ByteArray)), (([] : List Int)), (.slice Ao74 t344.length co74), (.slice Ao79 t347.length co79), (.slice none 0 0), (.slice none 0 0), (by first | rfl | (simp; done) | (simp [*]; done)), (by first | rfl | (simp; done) | (simp [*]; done)), (by first | rfl | (simp; done) | (simp [*]; done)), (by first | rfl | (simp; done) | (simp [*]; done)), H', ⟨by have := HJ28.out; first | omega | exact Nat.le_refl _⟩, ⟨by (with_reducible repeat (first | apply Kd.V_alloc | apply Kd.V_drewN | apply Kd.V_drew)); exact Kd.V_mono (Kd.V_far (p := ⟨gb341, 1, none⟩) (Kd.V_far (p := ⟨gb341, 0, none⟩) (Kd.V_mono HO_331000.out (fun k_ hk => (⟨hk, hk.1.1.2.2.2.2.2.2.2.1⟩ : _ ∧ k_ ≠ gb341))) (fun _ hk => hk.2) (.slice Ao74 t344.length co74)) (fun _ hk => hk.2) (.slice Ao79 t347.length co79)) (fun _ hk => ⟨hk.1.1.1.1, ⟨hk.1.1.1.2.1, ⟨hk.1.1.1.2.2.1, ⟨hk.1.1.2, ⟨hk.1.2, ⟨(by simp [Value.ownBlock]), ⟨(by simp [Value.ownBlock]), ⟨hk.1.1.1.2.2.2.1, ⟨hk.1.1.1.2.2.2.2.1, ⟨hk.1.1.1.2.2.2.2.2.1, ⟨hk.1.1.1.2.2.2.2.2.2.1, ⟨hk.1.1.1.2.2.2.2.2.2.2.1, hk.1.1.1.2.2.2.2.2.2.2.2⟩⟩⟩⟩⟩⟩⟩⟩⟩⟩⟩⟩)⟩, ⟨by (with_reducible repeat (first | apply Kd.V_alloc | apply Kd.V_drewN | apply Kd.V_drew)); exact Kd.V_mono (Kd.V_far (p := ⟨gb341, 1, none⟩) (Kd.V_far (p := ⟨gb341, 0, none⟩) (Kd.V_mono HO_331001.out (fun k_ hk => (⟨hk, hk.1.1.2.2.2.2.2.2.2.1⟩ : _ ∧ k_ ≠ gb341))) (fun _ hk => hk.2) (.slice Ao74 t344.length co74)) (fun _ hk => hk.2) (.slice Ao79 t347.length co79)) (fun _ hk => ⟨hk.1.1.1.1, ⟨hk.1.1.1.2.1, ⟨hk.1.1.1.2.2.1, ⟨hk.1.1.2, ⟨hk.1.2, ⟨(by simp [Value.ownBlock]), ⟨(by simp [Value.ownBlock]), ⟨hk.1.1.1.2.2.2.1, ⟨hk.1.1.1.2.2.2.2.1, ⟨hk.1.1.1.2.2.2.2.2.1, ⟨hk.1.1.1.2.2.2.2.2.2.1, ⟨hk.1.1.1.2.2.2.2.2.2.2.1, hk.1.1.1.2.2.2.2.2.2.2.2⟩⟩⟩⟩⟩⟩⟩⟩⟩⟩⟩⟩)⟩, ⟨by (with_reducible repeat (first | apply Ra_ | apply Rn_ | apply Rd_)); exact Kd.R_mono (Kd.R_far (p := ⟨gb341, 1, none⟩) (Kd.R_far (p := ⟨gb341, 0, none⟩) (Kd.R_types HO_340000.out BK341.out (by decide)) (fun _ hk => hk.2) (.slice Ao74 t344.length co74)) (fun _ hk => hk.2) (.slice Ao79 t347.length co79)) (fun _ hk => ⟨hk.1.1, ⟨hk.1.2, (by simp [Value.ownBlock])⟩⟩)⟩, ⟨by (with_reducible repeat (first | apply Kd.Q_alloc | apply Kd.Q_drewN | apply Kd.Q_drew)); exact Kd.Q_mono (Kd.Q_far (p := ⟨gb341, 1, none⟩) (Kd.Q_far (p := ⟨gb341, 0, none⟩) (Kd.Q_types HO_340001.out BK341.out (by decide)) (fun _ hk => hk.2) (.slice Ao74 t344.length co74)) (fun _ hk => hk.2) (.slice Ao79 t347.length co79)) (fun _ hk => ⟨hk.1.1, ⟨hk.1.2, (by simp [Value.ownBlock])⟩⟩)⟩, ⟨by (with_reducible repeat (first | apply Ra_ | apply Rn_ | apply Rd_)); exact Kd.R_mono (Kd.R_far (p := ⟨gb341, 1, none⟩) (Kd.R_far (p := ⟨gb341, 0, none⟩) (Kd.R_types HO346.out BK341.out (by decide)) (fun _ hk => hk.2) (.slice Ao74 t344.length co74)) (fun _ hk => hk.2) (.slice Ao79 t347.length co79)) (fun _ hk => ⟨hk.1.1.1, ⟨hk.1.2, (by simp [Value.ownBlock])⟩⟩)⟩, ⟨Kd.Q_of_R (r2_ (Kd.R_mono (Kd.R_far (p := ⟨gb341, 1, none⟩) (Kd.R_far (p := ⟨gb341, 0, none⟩) (Kd.R_types HO349.out BK341.out (by decide)) (fun _ hk => hk.2) (.slice Ao74 t344.length co74)) (fun _ hk => hk.2) (.slice Ao79 t347.length co79)) (fun _ hk => ⟨hk.1.1.1, ⟨hk.1.2, (by simp [Value.ownBlock])⟩⟩)))⟩, ⟨by first | exact Kd.R_nil _ _ _ _ _ | exact Kd.N_nil _ _ _ _ _ | exact Kd.V_nil _ _ _ _ _ | exact Kd.Q_nil _ _ _ _ _ | exact Kd.S_nil _ _ _ _ _⟩, ⟨Kd.Q_of_R (by first | exact Kd.R_nil _ _ _ _ _ | exact Kd.N_nil _ _ _ _ _ | exact Kd.V_nil _ _ _ _ _ | exact Kd.Q_nil _ _ _ _ _ | exact Kd.S_nil _ _ _ _ _)⟩, ⟨(fa_ (fa_ (h_ BK330) NB330_341.out) NB330_341.out)⟩, ⟨(fa_ (fa_ (h_ BK331) NB331_341.out) NB331_341.out)⟩, ⟨(fa_ (fa_ (h_ BK332) NB332_341.out) NB332_341.out)⟩, ⟨(fa_ (fa_ (h_ BK339) NB339_341.out) NB339_341.out)⟩, ⟨(pu_ (cs := #[.slice Ao74 t344.length co74, .slice none 0 0]) (pu_ (cs := #[.slice none 0 0, .slice none 0 0]) (h_ BK341)))⟩, ⟨(fa_ (fa_ (h_ BK342) NB342_341.out) NB342_341.out)⟩, ⟨b_ HB⟩⟩
     ·replace c31 := Bool.eq_false_iff.mpr c31
      subst c31
      rw [if_neg (show ¬ (false = true) by decide)] at H
      have HC80 := mk0 H
      clear H
      go_upto_if 67 with (fail)
      go_cut [67] (fun v67 wc => ∃ (kq : Nat) (x67_79 : Bool), v67 = .bool x67_79 ∧ Fc (quorumlaw5_step.j1 kq t340 1 0 0 t343 x67_79 l0_0 l0_1 a1_0 a1_1 a1_2 t333 t336 = some (r1, r2, r3)) ∧ Fc (kq ≤ kj28) ∧ Fc (Kd.V Kd.string 9 wc w.heap.size (fun k_ => ((P0_0_ k_ ∨ P0_1_ k_) ∨ w.heap.size ≤ k_) ∧ some k_ ≠ ((.slice Ao15 t333.length co15) : Value).ownBlock ∧ some k_ ≠ ((.slice Ao20 t336.length co20) : Value).ownBlock ∧ k_ ≠ gb330 ∧ k_ ≠ gb331 ∧ k_ ≠ gb332 ∧ k_ ≠ gb339 ∧ k_ ≠ gb341 ∧ k_ ≠ gb342) (.slice A0_0 l0_0.length c0_0) l0_0) ∧ Fc (Kd.V (Kd.int .i64) 3 wc w.heap.size (fun k_ => ((P0_0_ k_ ∨ P0_1_ k_) ∨ w.heap.size ≤ k_) ∧ some k_ ≠ ((.slice Ao15 t333.length co15) : Value).ownBlock ∧ some k_ ≠ ((.slice Ao20 t336.length co20) : Value).ownBlock ∧ k_ ≠ gb330 ∧ k_ ≠ gb331 ∧ k_ ≠ gb332 ∧ k_ ≠ gb339 ∧ k_ ≠ gb341 ∧ k_ ≠ gb342) (.slice A0_1 l0_1.length c0_1) l0_1) ∧ Fc (Kd.R Kd.string 9 wc w.heap.size (fun k_ => (w.heap.size ≤ k_)) (.slice Ao15 t333.length co15) t333) ∧ Fc (Kd.Q (Kd.int .i64) 3 wc w.heap.size (fun k_ => (w.heap.size ≤ k_)) (.slice Ao20 t336.length co20) t336) ∧ Fc (wc.heap[gb330]? = some (.cells #[(.slice A0_0 l0_0.length c0_0), (.slice A0_1 l0_1.length c0_1)] 56 (0, 0))) ∧ Fc (wc.heap[gb331]? = some (.cells #[.int .i64 a1_0, .int .i64 a1_1, .string a1_2] 64 (0, 0))) ∧ Fc (wc.heap[gb332]? = some (.cells #[(.slice none 0 0), (.slice none 0 0)] 56 (0, 0))) ∧ Fc (wc.heap[gb339]? = some (.cells #[(.slice Ao15 t333.length co15), (.slice Ao20 t336.length co20)] 56 (0, 0))) ∧ Fc (wc.heap[gb341]? = some (.cells #[(.slice none 0 0), (.slice none 0 0)] 56 (0, 0))) ∧ Fc (wc.heap[gb342]? = some (.cells #[(.slice none 0 0), (.slice none 0 0)] 56 (0, 0))) ∧ Fc (Below w.heap.size w wc))
      case first =>
       have H := HC80.out
       clear HC80
       by_cases c81 : t343 = 6
       ·rw [if_pos c81] at H
        have c81b0 : (t343 == 6) = true := beq_iff_eq.mpr c81
        have c81b1 : (t343 != 6) = false := bne_eq_false_iff_eq.mpr c81
        clear c81
        (first | rw [c81b0] | (simp only [i64_w, i32_w]; rw [c81b0]) | skip)
        have H' := mk0 H
        clear H
        go_wp2
        go_meet
        case rel => exact ⟨_, ((t343 == 6)), (by first | rfl | (simp; done) | (simp [*]; done)), H', ⟨by have := HJ28.out; first | omega | exact Nat.le_refl _⟩, ⟨by (with_reducible repeat (first | apply Kd.V_alloc | apply Kd.V_drewN | apply Kd.V_drew)); exact HO_331000.out⟩, ⟨by (with_reducible repeat (first | apply Kd.V_alloc | apply Kd.V_drewN | apply Kd.V_drew)); exact HO_331001.out⟩, ⟨by (with_reducible repeat (first | apply Ra_ | apply Rn_ | apply Rd_)); exact HO_340000.out⟩, ⟨by (with_reducible repeat (first | apply Kd.Q_alloc | apply Kd.Q_drewN | apply Kd.Q_drew)); exact HO_340001.out⟩, ⟨h_ BK330⟩, ⟨h_ BK331⟩, ⟨h_ BK332⟩, ⟨h_ BK339⟩, ⟨h_ BK341⟩, ⟨h_ BK342⟩, ⟨b_ HB⟩⟩
       ·rw [if_neg c81] at H
        have c81b0 : (t343 == 6) = false := beq_eq_false_iff_ne.mpr c81
        have c81b1 : (t343 != 6) = true := bne_iff_ne.mpr c81
        (first | rw [c81b0] | (simp only [i64_w, i32_w]; rw [c81b0]) | skip)
        have H' := mk0 H
        clear H
        go_wp2
        go_meet
        case rel => exact ⟨_, ((t343 == 7)), (by first | rfl | (simp; done) | (simp [*]; done)), H', ⟨by have := HJ28.out; first | omega | exact Nat.le_refl _⟩, ⟨by (with_reducible repeat (first | apply Kd.V_alloc | apply Kd.V_drewN | apply Kd.V_drew)); exact HO_331000.out⟩, ⟨by (with_reducible repeat (first | apply Kd.V_alloc | apply Kd.V_drewN | apply Kd.V_drew)); exact HO_331001.out⟩, ⟨by (with_reducible repeat (first | apply Ra_ | apply Rn_ | apply Rd_)); exact HO_340000.out⟩, ⟨by (with_reducible repeat (first | apply Kd.Q_alloc | apply Kd.Q_drewN | apply Kd.Q_drew)); exact HO_340001.out⟩, ⟨h_ BK330⟩, ⟨h_ BK331⟩, ⟨h_ BK332⟩, ⟨h_ BK339⟩, ⟨h_ BK341⟩, ⟨h_ BK342⟩, ⟨b_ HB⟩⟩
      case rest =>
       clear HC80
       try clear c30
       try clear c30b0
       try clear c30b1
       try clear c31
       try clear c33
       try clear c81
       try clear c81b0
       try clear c81b1
       try clear hcz12_0
       try clear hcz12_1
       try clear hcz19_0
       try clear hcz19_1
       try clear hcz21_0
       try clear hcz21_1
       try clear hcz28_0
       try clear hcz28_1
       try clear hcz28_2
       try clear hcz40_0
       try clear hcz40_1
       try clear hcz45_0
       try clear hcz45_1
       try clear hcz45_2
       try clear hcz51_0
       try clear hcz51_1
       try clear hcz55_0
       try clear hcz55_1
       try clear hcz56_0
       try clear hcz56_1
       try clear hcz56_2
       try clear hcz60_0
       try clear hcz60_1
       try clear hcz67_0
       try clear hcz67_1
       try clear hcz72_0
       try clear hcz72_1
       try clear hcz72_2
       try clear hcz78_0
       try clear hcz78_1
       try clear hfz12_0
       try clear hfz12_1
       try clear hfz19_0
       try clear hfz19_1
       try clear hfz21_0
       try clear hfz21_1
       try clear hfz28_0
       try clear hfz28_1
       try clear hfz28_2
       try clear hfz40_0
       try clear hfz40_1
       try clear hfz45_0
       try clear hfz45_1
       try clear hfz45_2
       try clear hfz51_0
       try clear hfz51_1
       try clear hfz55_0
       try clear hfz55_1
       try clear hfz56_0
       try clear hfz56_1
       try clear hfz56_2
       try clear hfz60_0
       try clear hfz60_1
       try clear hfz67_0
       try clear hfz67_1
       try clear hfz72_0
       try clear hfz72_1
       try clear hfz72_2
       try clear hfz78_0
       try clear hfz78_1
       obtain ⟨kq, x67_79, rfl, HA, HJ79, HO_331000, HO_331001, HO_340000, HO_340001, BK330, BK331, BK332, BK339, BK341, BK342, HB⟩ := hcut
       cases kq with
       | zero => exact absurd HA.out (by simp [quorumlaw5_step.j1])
       | succ kj79 =>
        have H := HA.out
        clear HA
        simp only [quorumlaw5_step.j1] at H
        as_aux_lemma =>
         by_cases c82 : x67_79 = true
         ·subst c82
          rw [if_pos rfl] at H
          replace H := Option.bind_eq_some_iff.mp H
          obtain ⟨⟨t358, t361, t364⟩, A830, H⟩ := H
          try dsimp only at H
          have A83 := mk0 A830
          clear A830
          by_cases c84 : t340 = true
          ·subst c84
           rw [if_pos rfl] at H
           replace H := Option.bind_eq_some_iff.mp H
           obtain ⟨⟨t365, t368, t371⟩, A850, H⟩ := H
           try dsimp only at H
           have A85 := mk0 A850
           clear A850
           have H' := mk0 H
           clear H
           have hnb86 := NB339_330.out
           have hnc86 := NB330_339.out
           have hnb87 := NB339_331.out
           have hnc87 := NB331_339.out
           have hnb88 := NB339_332.out
           have hnc88 := NB332_339.out
           have hnb89 := NB339_341.out
           have hnc89 := NB341_339.out
           have hnb90 := NB339_342.out
           have hnc90 := NB342_339.out
           obtain ⟨hcz91_0, hcz91_1, hfz91_0, hfz91_1⟩ := c2_ BK339
           have hnb92 := NB331_330.out
           have hnc92 := NB330_331.out
           have hnb93 := NB331_332.out
           have hnc93 := NB332_331.out
           have hnb94 := NB331_341.out
           have hnc94 := NB341_331.out
           have hnb95 := NB331_342.out
           have hnc95 := NB342_331.out
           obtain ⟨hcz96_0, hcz96_1, hcz96_2, hfz96_0, hfz96_1, hfz96_2⟩ := c3_ BK331
           go_wp2_with (first | ((with_reducible refine gate_callee (f := 34) rfl ?_); refine gL_ (some 74) Try.func34 #[.agg #[.slice Ao15 t333.length co15, .slice Ao20 t336.length co20], .int .i64 a1_1] (h := ?_); (with_reducible refine (page_Cut.calls kj79 _ _ t333 _ _ t336 a1_1 t358 t361 t364 _ ?side1 ?side2 ?side3 ?side4 A83.out).mono ?_); (case side1 => exact cr_ HO_340000); (case side2 => exact (Kd.R_reads' HO_340000.out).2.1); (case side3 => exact cq_ HO_340001); (case side4 => exact (Kd.Q_reads' HO_340001.out).2.1); rintro e w97 ⟨v359, v362, rfl, ho0, ho1, hb⟩; refine ⟨_, rfl, ?_⟩; have n4_ := mk0 (Kd.R_lower (Kd.R_new' (Kd.R_newM (M := fun k_ => (w.heap.size ≤ k_)) ho0 (bz_ (b_ HB)) (fun k_ h_ => h_)) (Kd.R_lt (r_ HO_340000))) (bz_ (b_ HB))); have n5_ := mk0 (Kd.R_lower (Kd.R_new' (Kd.R_newM (M := fun k_ => (w.heap.size ≤ k_)) ho1 (bz_ (b_ HB)) (fun k_ h_ => h_)) (Kd.Q_lt (q_ HO_340001))) (bz_ (b_ HB))); replace HO_331000 := mk0 (Kd.V_mono (Kd.V_told (Kd.V_told (Kd.V_old (v_ HO_331000) hb) (Kd.R_base ho0)) (Kd.R_base ho1)) (fun _ h_ => h_.1)); replace HO_331001 := mk0 (Kd.V_mono (Kd.V_told (Kd.V_told (Kd.V_old (v_ HO_331001) hb) (Kd.R_base ho0)) (Kd.R_base ho1)) (fun _ h_ => h_.1)); replace HO_340000 := mk0 (Kd.R_elder' (r_ HO_340000) (Kd.R_base ho0) hb); replace HO_340001 := mk0 (Kd.Q_elder' (q_ HO_340001) (Kd.R_base ho1) hb); replace BK330 := mk0 (u_ BK330 hb); replace BK331 := mk0 (u_ BK331 hb); replace BK332 := mk0 (u_ BK332 hb); replace BK339 := mk0 (u_ BK339 hb); replace BK341 := mk0 (u_ BK341 hb); replace BK342 := mk0 (u_ BK342 hb); replace HB := mk0 (bt_ (b_ HB) hb); have HO360 := n4_; have HO363 := n5_; clear n4_ n5_; (try clear hb); (try clear ho0); (try clear ho1); obtain ⟨Ao98, co98, eo98⟩ := Kd.R_slice HO360.out; subst eo98; have hnb99 := NB341_330.out; have hnc99 := NB330_341.out; have hnb100 := NB341_332.out; have hnc100 := NB332_341.out; have hnb101 := NB341_342.out; have hnc101 := NB342_341.out; obtain ⟨hcz102_0, hcz102_1, hfz102_0, hfz102_1⟩ := c2_ BK341; obtain ⟨Ao103, co103, eo103⟩ := Kd.R_slice HO363.out; subst eo103; have hnb104 := NB330_332.out; have hnc104 := NB332_330.out; have hnb105 := NB330_342.out; have hnc105 := NB342_330.out; obtain ⟨hcz106_0, hcz106_1, hfz106_0, hfz106_1⟩ := c2_ BK330; obtain ⟨hcz107_0, hcz107_1, hcz107_2, hfz107_0, hfz107_1, hfz107_2⟩ := c3_ BK331) | ((with_reducible refine gate_callee (f := 82) rfl ?_); refine gL_ (some 82) Try.func82 #[.agg #[.slice A0_0 l0_0.length c0_0, .slice A0_1 l0_1.length c0_1], .int .i64 a1_1] (h := ?_); (with_reducible refine (quorumref4_Cut.calls kj79 _ _ l0_0 _ _ l0_1 a1_1 t365 t368 t371 _ ?side1 ?side2 ?side3 ?side4 A85.out).mono ?_); (case side1 => refine (Kd.V_reads' (e := 9) (base := w.heap.size) (ok := fun k_ => ((((((P0_0_ k_ ∨ P0_1_ k_) ∨ w.heap.size ≤ k_)) ∧ (some k_ ≠ (.slice Ao15 t333.length co15 : Value).ownBlock ∧ (some k_ ≠ (.slice Ao20 t336.length co20 : Value).ownBlock ∧ (k_ ≠ gb330 ∧ (k_ ≠ gb331 ∧ (k_ ≠ gb332 ∧ (k_ ≠ gb339 ∧ (k_ ≠ gb341 ∧ k_ ≠ gb342)))))))) ∧ some k_ ≠ (.slice Ao98 t358.length co98 : Value).ownBlock) ∧ some k_ ≠ (.slice Ao103 t361.length co103 : Value).ownBlock)) (n := l0_0.length) (c := c0_0) ?_).2.2; exact (v2_ (Kd.V_mono (Kd.V_far (p := ⟨gb341, 1, none⟩) (Kd.V_far (p := ⟨gb341, 0, none⟩) (Kd.V_mono HO_331000.out (fun k_ hk => (⟨hk, hk.1.1.2.2.2.2.2.2.2.1⟩ : _ ∧ k_ ≠ gb341))) (fun _ hk => hk.2) (.slice Ao98 t358.length co98)) (fun _ hk => hk.2) (.slice Ao103 t361.length co103)) (fun _ h_ => h_.1)))); (case side2 => exact (Kd.V_reads' HO_331000.out).2.1); (case side3 => refine (Kd.V_reads' (e := 3) (base := w.heap.size) (ok := fun k_ => ((((((P0_0_ k_ ∨ P0_1_ k_) ∨ w.heap.size ≤ k_)) ∧ (some k_ ≠ (.slice Ao15 t333.length co15 : Value).ownBlock ∧ (some k_ ≠ (.slice Ao20 t336.length co20 : Value).ownBlock ∧ (k_ ≠ gb330 ∧ (k_ ≠ gb331 ∧ (k_ ≠ gb332 ∧ (k_ ≠ gb339 ∧ (k_ ≠ gb341 ∧ k_ ≠ gb342)))))))) ∧ some k_ ≠ (.slice Ao98 t358.length co98 : Value).ownBlock) ∧ some k_ ≠ (.slice Ao103 t361.length co103 : Value).ownBlock)) (n := l0_1.length) (c := c0_1) ?_).2.2; exact (v2_ (Kd.V_mono (Kd.V_far (p := ⟨gb341, 1, none⟩) (Kd.V_far (p := ⟨gb341, 0, none⟩) (Kd.V_mono HO_331001.out (fun k_ hk => (⟨hk, hk.1.1.2.2.2.2.2.2.2.1⟩ : _ ∧ k_ ≠ gb341))) (fun _ hk => hk.2) (.slice Ao98 t358.length co98)) (fun _ hk => hk.2) (.slice Ao103 t361.length co103)) (fun _ h_ => h_.1)))); (case side4 => exact (Kd.V_reads' HO_331001.out).2.1); rintro e w108 ⟨v366, v369, rfl, ho0, ho1, hb⟩; refine ⟨_, rfl, ?_⟩; have n2_ := mk0 (Kd.R_elder' (r2_ (Kd.R_mono (Kd.R_far (p := ⟨gb341, 1, none⟩) (Kd.R_far (p := ⟨gb341, 0, none⟩) (Kd.R_types HO_340000.out BK341.out (by decide)) (fun _ hk => hk.2) (.slice Ao98 t358.length co98)) (fun _ hk => hk.2) (.slice Ao103 t361.length co103)) (fun _ h_ => h_.1))) (Kd.R_base ho0) hb); have n3_ := mk0 (Kd.Q_elder' (q2_ (Kd.Q_mono (Kd.Q_far (p := ⟨gb341, 1, none⟩) (Kd.Q_far (p := ⟨gb341, 0, none⟩) (Kd.Q_types HO_340001.out BK341.out (by decide)) (fun _ hk => hk.2) (.slice Ao98 t358.length co98)) (fun _ hk => hk.2) (.slice Ao103 t361.length co103)) (fun _ h_ => h_.1))) (Kd.R_base ho1) hb); have n4_ := mk0 (Kd.R_elder' (r2_ (Kd.R_mono (Kd.R_far (p := ⟨gb341, 1, none⟩) (Kd.R_far (p := ⟨gb341, 0, none⟩) (Kd.R_types HO360.out BK341.out (by decide)) (fun _ hk => hk.2) (.slice Ao98 t358.length co98)) (fun _ hk => hk.2) (.slice Ao103 t361.length co103)) (fun _ h_ => h_.1))) (Kd.R_base ho0) hb); have n5_ := mk0 (Kd.R_elder' (r2_ (Kd.R_mono (Kd.R_far (p := ⟨gb341, 1, none⟩) (Kd.R_far (p := ⟨gb341, 0, none⟩) (Kd.R_types HO363.out BK341.out (by decide)) (fun _ hk => hk.2) (.slice Ao98 t358.length co98)) (fun _ hk => hk.2) (.slice Ao103 t361.length co103)) (fun _ h_ => h_.1))) (Kd.R_base ho1) hb); have n6_ := mk0 (Kd.R_lower (Kd.R_new' (Kd.R_new' (Kd.R_newM (M := fun k_ => (w.heap.size ≤ k_)) ho0 (bz_ (b_ HB)) (fun k_ h_ => h_)) (Kd.R_lt (r2_ (Kd.R_mono (Kd.R_far (p := ⟨gb341, 1, none⟩) (Kd.R_far (p := ⟨gb341, 0, none⟩) (Kd.R_types HO_340000.out BK341.out (by decide)) (fun _ hk => hk.2) (.slice Ao98 t358.length co98)) (fun _ hk => hk.2) (.slice Ao103 t361.length co103)) (fun _ h_ => h_.1))))) (Kd.R_lt (r2_ (Kd.R_mono (Kd.R_far (p := ⟨gb341, 1, none⟩) (Kd.R_far (p := ⟨gb341, 0, none⟩) (Kd.R_types HO360.out BK341.out (by decide)) (fun _ hk => hk.2) (.slice Ao98 t358.length co98)) (fun _ hk => hk.2) (.slice Ao103 t361.length co103)) (fun _ h_ => h_.1))))) (bz_ (b_ HB))); have n7_ := mk0 (Kd.R_lower (Kd.R_new' (Kd.R_new' (Kd.R_newM (M := fun k_ => (w.heap.size ≤ k_)) ho1 (bz_ (b_ HB)) (fun k_ h_ => h_)) (Kd.Q_lt (q2_ (Kd.Q_mono (Kd.Q_far (p := ⟨gb341, 1, none⟩) (Kd.Q_far (p := ⟨gb341, 0, none⟩) (Kd.Q_types HO_340001.out BK341.out (by decide)) (fun _ hk => hk.2) (.slice Ao98 t358.length co98)) (fun _ hk => hk.2) (.slice Ao103 t361.length co103)) (fun _ h_ => h_.1))))) (Kd.R_lt (r2_ (Kd.R_mono (Kd.R_far (p := ⟨gb341, 1, none⟩) (Kd.R_far (p := ⟨gb341, 0, none⟩) (Kd.R_types HO363.out BK341.out (by decide)) (fun _ hk => hk.2) (.slice Ao98 t358.length co98)) (fun _ hk => hk.2) (.slice Ao103 t361.length co103)) (fun _ h_ => h_.1))))) (bz_ (b_ HB))); replace HO_331000 := mk0 (Kd.V_mono (Kd.V_told (Kd.V_told (Kd.V_old (v2_ (Kd.V_mono (Kd.V_far (p := ⟨gb341, 1, none⟩) (Kd.V_far (p := ⟨gb341, 0, none⟩) (Kd.V_mono HO_331000.out (fun k_ hk => (⟨hk, hk.1.1.2.2.2.2.2.2.2.1⟩ : _ ∧ k_ ≠ gb341))) (fun _ hk => hk.2) (.slice Ao98 t358.length co98)) (fun _ hk => hk.2) (.slice Ao103 t361.length co103)) (fun _ h_ => h_.1))) hb) (Kd.R_base ho0)) (Kd.R_base ho1)) (fun _ h_ => h_.1)); replace HO_331001 := mk0 (Kd.V_mono (Kd.V_told (Kd.V_told (Kd.V_old (v2_ (Kd.V_mono (Kd.V_far (p := ⟨gb341, 1, none⟩) (Kd.V_far (p := ⟨gb341, 0, none⟩) (Kd.V_mono HO_331001.out (fun k_ hk => (⟨hk, hk.1.1.2.2.2.2.2.2.2.1⟩ : _ ∧ k_ ≠ gb341))) (fun _ hk => hk.2) (.slice Ao98 t358.length co98)) (fun _ hk => hk.2) (.slice Ao103 t361.length co103)) (fun _ h_ => h_.1))) hb) (Kd.R_base ho0)) (Kd.R_base ho1)) (fun _ h_ => h_.1)); replace BK330 := mk0 (blk_below (g := gb330) (o := .cells #[.slice A0_0 l0_0.length c0_0, .slice A0_1 l0_1.length c0_1] 56 (0, 0)) (fa_ (fa_ (h_ BK330) NB330_341.out) NB330_341.out) hb); replace BK331 := mk0 (blk_below (g := gb331) (o := .cells #[.int .i64 a1_0, .int .i64 a1_1, .string a1_2] 64 (0, 0)) (fa_ (fa_ (h_ BK331) NB331_341.out) NB331_341.out) hb); replace BK332 := mk0 (blk_below (g := gb332) (o := .cells #[.slice none 0 0, .slice none 0 0] 56 (0, 0)) (fa_ (fa_ (h_ BK332) NB332_341.out) NB332_341.out) hb); replace BK339 := mk0 (blk_below (g := gb339) (o := .cells #[.slice Ao15 t333.length co15, .slice Ao20 t336.length co20] 56 (0, 0)) (fa_ (fa_ (h_ BK339) NB339_341.out) NB339_341.out) hb); replace BK341 := mk0 (blk_below (g := gb341) (o := .cells #[.slice Ao98 t358.length co98, .slice Ao103 t361.length co103] 56 (0, 0)) (pu_ (cs := #[.slice Ao98 t358.length co98, .slice none 0 0]) (pu_ (cs := #[.slice none 0 0, .slice none 0 0]) (h_ BK341))) hb); replace BK342 := mk0 (blk_below (g := gb342) (o := .cells #[.slice none 0 0, .slice none 0 0] 56 (0, 0)) (fa_ (fa_ (h_ BK342) NB342_341.out) NB342_341.out) hb); replace HB := mk0 (bt_ (b_ HB) hb); clear HO_340000 HO_340001 HO360 HO363; have HO_340000 := n2_; have HO_340001 := n3_; have HO360 := n4_; have HO363 := n5_; have HO367 := n6_; have HO370 := n7_; clear n2_ n3_ n4_ n5_ n6_ n7_; (try clear hb); (try clear ho0); (try clear ho1); obtain ⟨Ao109, co109, eo109⟩ := Kd.R_slice HO367.out; subst eo109; have hnb110 := NB342_332.out; have hnc110 := NB332_342.out; obtain ⟨hcz111_0, hcz111_1, hfz111_0, hfz111_1⟩ := c2_ BK342; obtain ⟨Ao112, co112, eo112⟩ := Kd.R_slice HO370.out; subst eo112))
           go_meet
           case rel => exact ⟨_, (t371), (0), (0), (t364), (t358), (t361), (t365), (t368), (.slice Ao98 t358.length co98), (.slice Ao103 t361.length co103), (.slice Ao109 t365.length co109), (.slice Ao112 t368.length co112), (by first | rfl | (simp; done) | (simp [*]; done)), (by first | rfl | (simp; done) | (simp [*]; done)), (by first | rfl | (simp; done) | (simp [*]; done)), (by first | rfl | (simp; done) | (simp [*]; done)), H', ⟨by have := HJ28.out; have := HJ79.out; first | omega | exact Nat.le_refl _⟩, ⟨by (with_reducible repeat (first | apply Kd.V_alloc | apply Kd.V_drewN | apply Kd.V_drew)); exact Kd.V_mono (Kd.V_far (p := ⟨gb342, 1, none⟩) (Kd.V_far (p := ⟨gb342, 0, none⟩) (Kd.V_mono HO_331000.out (fun k_ hk => (⟨hk, hk.1.1.1.1.2.2.2.2.2.2.2.2⟩ : _ ∧ k_ ≠ gb342))) (fun _ hk => hk.2) (.slice Ao109 t365.length co109)) (fun _ hk => hk.2) (.slice Ao112 t368.length co112)) (fun _ hk => ⟨hk.1.1.1.1.1.1, ⟨hk.1.1.1.1.1.2.1, ⟨hk.1.1.1.1.1.2.2.1, ⟨hk.1.1.1.1.2, ⟨hk.1.1.1.2, ⟨hk.1.1.2, ⟨hk.1.2, ⟨hk.1.1.1.1.1.2.2.2.1, ⟨hk.1.1.1.1.1.2.2.2.2.1, ⟨hk.1.1.1.1.1.2.2.2.2.2.1, ⟨hk.1.1.1.1.1.2.2.2.2.2.2.1, ⟨hk.1.1.1.1.1.2.2.2.2.2.2.2.1, hk.1.1.1.1.1.2.2.2.2.2.2.2.2⟩⟩⟩⟩⟩⟩⟩⟩⟩⟩⟩⟩)⟩, ⟨by (with_reducible repeat (first | apply Kd.V_alloc | apply Kd.V_drewN | apply Kd.V_drew)); exact Kd.V_mono (Kd.V_far (p := ⟨gb342, 1, none⟩) (Kd.V_far (p := ⟨gb342, 0, none⟩) (Kd.V_mono HO_331001.out (fun k_ hk => (⟨hk, hk.1.1.1.1.2.2.2.2.2.2.2.2⟩ : _ ∧ k_ ≠ gb342))) (fun _ hk => hk.2) (.slice Ao109 t365.length co109)) (fun _ hk => hk.2) (.slice Ao112 t368.length co112)) (fun _ hk => ⟨hk.1.1.1.1.1.1, ⟨hk.1.1.1.1.1.2.1, ⟨hk.1.1.1.1.1.2.2.1, ⟨hk.1.1.1.1.2, ⟨hk.1.1.1.2, ⟨hk.1.1.2, ⟨hk.1.2, ⟨hk.1.1.1.1.1.2.2.2.1, ⟨hk.1.1.1.1.1.2.2.2.2.1, ⟨hk.1.1.1.1.1.2.2.2.2.2.1, ⟨hk.1.1.1.1.1.2.2.2.2.2.2.1, ⟨hk.1.1.1.1.1.2.2.2.2.2.2.2.1, hk.1.1.1.1.1.2.2.2.2.2.2.2.2⟩⟩⟩⟩⟩⟩⟩⟩⟩⟩⟩⟩)⟩, ⟨by (with_reducible repeat (first | apply Ra_ | apply Rn_ | apply Rd_)); exact Kd.R_mono (Kd.R_far (p := ⟨gb342, 1, none⟩) (Kd.R_far (p := ⟨gb342, 0, none⟩) (Kd.R_types HO_340000.out BK342.out (by decide)) (fun _ hk => hk.2) (.slice Ao109 t365.length co109)) (fun _ hk => hk.2) (.slice Ao112 t368.length co112)) (fun _ hk => ⟨hk.1.1.1, ⟨hk.1.1.2, hk.1.2⟩⟩)⟩, ⟨by (with_reducible repeat (first | apply Kd.Q_alloc | apply Kd.Q_drewN | apply Kd.Q_drew)); exact Kd.Q_mono (Kd.Q_far (p := ⟨gb342, 1, none⟩) (Kd.Q_far (p := ⟨gb342, 0, none⟩) (Kd.Q_types HO_340001.out BK342.out (by decide)) (fun _ hk => hk.2) (.slice Ao109 t365.length co109)) (fun _ hk => hk.2) (.slice Ao112 t368.length co112)) (fun _ hk => ⟨hk.1.1.1, ⟨hk.1.1.2, hk.1.2⟩⟩)⟩, ⟨by (with_reducible repeat (first | apply Ra_ | apply Rn_ | apply Rd_)); exact Kd.R_mono (Kd.R_far (p := ⟨gb342, 1, none⟩) (Kd.R_far (p := ⟨gb342, 0, none⟩) (Kd.R_types HO360.out BK342.out (by decide)) (fun _ hk => hk.2) (.slice Ao109 t365.length co109)) (fun _ hk => hk.2) (.slice Ao112 t368.length co112)) (fun _ hk => ⟨hk.1.1.1.1, ⟨hk.1.1.2, hk.1.2⟩⟩)⟩, ⟨Kd.Q_of_R (r2_ (Kd.R_mono (Kd.R_far (p := ⟨gb342, 1, none⟩) (Kd.R_far (p := ⟨gb342, 0, none⟩) (Kd.R_types HO363.out BK342.out (by decide)) (fun _ hk => hk.2) (.slice Ao109 t365.length co109)) (fun _ hk => hk.2) (.slice Ao112 t368.length co112)) (fun _ hk => ⟨hk.1.1.1.1, ⟨hk.1.1.2, hk.1.2⟩⟩)))⟩, ⟨by (with_reducible repeat (first | apply Ra_ | apply Rn_ | apply Rd_)); exact Kd.R_mono (Kd.R_far (p := ⟨gb342, 1, none⟩) (Kd.R_far (p := ⟨gb342, 0, none⟩) (Kd.R_types HO367.out BK342.out (by decide)) (fun _ hk => hk.2) (.slice Ao109 t365.length co109)) (fun _ hk => hk.2) (.slice Ao112 t368.length co112)) (fun _ hk => ⟨hk.1.1.1.1, ⟨hk.1.1.2, hk.1.2⟩⟩)⟩, ⟨Kd.Q_of_R (r2_ (Kd.R_mono (Kd.R_far (p := ⟨gb342, 1, none⟩) (Kd.R_far (p := ⟨gb342, 0, none⟩) (Kd.R_types HO370.out BK342.out (by decide)) (fun _ hk => hk.2) (.slice Ao109 t365.length co109)) (fun _ hk => hk.2) (.slice Ao112 t368.length co112)) (fun _ hk => ⟨hk.1.1.1.1, ⟨hk.1.1.2, hk.1.2⟩⟩)))⟩, ⟨(fa_ (fa_ (h_ BK330) NB330_342.out) NB330_342.out)⟩, ⟨(fa_ (fa_ (h_ BK331) NB331_342.out) NB331_342.out)⟩, ⟨(fa_ (fa_ (h_ BK332) NB332_342.out) NB332_342.out)⟩, ⟨(fa_ (fa_ (h_ BK339) NB339_342.out) NB339_342.out)⟩, ⟨(fa_ (fa_ (h_ BK341) NB341_342.out) NB341_342.out)⟩, ⟨(pu_ (cs := #[.slice Ao109 t365.length co109, .slice none 0 0]) (pu_ (cs := #[.slice none 0 0, .slice none 0 0]) (h_ BK342)))⟩, ⟨b_ HB⟩⟩
          ·replace c84 := Bool.eq_false_iff.mpr c84
           subst c84
           rw [if_neg (show ¬ (false = true) by decide)] at H
           have H' := mk0 H
           clear H
           have hnb113 := NB339_330.out
           have hnc113 := NB330_339.out
           have hnb114 := NB339_331.out
           have hnc114 := NB331_339.out
           have hnb115 := NB339_332.out
           have hnc115 := NB332_339.out
           have hnb116 := NB339_341.out
           have hnc116 := NB341_339.out
           have hnb117 := NB339_342.out
           have hnc117 := NB342_339.out
           obtain ⟨hcz118_0, hcz118_1, hfz118_0, hfz118_1⟩ := c2_ BK339
           have hnb119 := NB331_330.out
           have hnc119 := NB330_331.out
           have hnb120 := NB331_332.out
           have hnc120 := NB332_331.out
           have hnb121 := NB331_341.out
           have hnc121 := NB341_331.out
           have hnb122 := NB331_342.out
           have hnc122 := NB342_331.out
           obtain ⟨hcz123_0, hcz123_1, hcz123_2, hfz123_0, hfz123_1, hfz123_2⟩ := c3_ BK331
           go_wp2_with (first | ((with_reducible refine gate_callee (f := 34) rfl ?_); refine gL_ (some 74) Try.func34 #[.agg #[.slice Ao15 t333.length co15, .slice Ao20 t336.length co20], .int .i64 a1_1] (h := ?_); (with_reducible refine (page_Cut.calls kj79 _ _ t333 _ _ t336 a1_1 t358 t361 t364 _ ?side1 ?side2 ?side3 ?side4 A83.out).mono ?_); (case side1 => exact cr_ HO_340000); (case side2 => exact (Kd.R_reads' HO_340000.out).2.1); (case side3 => exact cq_ HO_340001); (case side4 => exact (Kd.Q_reads' HO_340001.out).2.1); rintro e w124 ⟨v359, v362, rfl, ho0, ho1, hb⟩; refine ⟨_, rfl, ?_⟩; have n4_ := mk0 (Kd.R_lower (Kd.R_new' (Kd.R_newM (M := fun k_ => (w.heap.size ≤ k_)) ho0 (bz_ (b_ HB)) (fun k_ h_ => h_)) (Kd.R_lt (r_ HO_340000))) (bz_ (b_ HB))); have n5_ := mk0 (Kd.R_lower (Kd.R_new' (Kd.R_newM (M := fun k_ => (w.heap.size ≤ k_)) ho1 (bz_ (b_ HB)) (fun k_ h_ => h_)) (Kd.Q_lt (q_ HO_340001))) (bz_ (b_ HB))); replace HO_331000 := mk0 (Kd.V_mono (Kd.V_told (Kd.V_told (Kd.V_old (v_ HO_331000) hb) (Kd.R_base ho0)) (Kd.R_base ho1)) (fun _ h_ => h_.1)); replace HO_331001 := mk0 (Kd.V_mono (Kd.V_told (Kd.V_told (Kd.V_old (v_ HO_331001) hb) (Kd.R_base ho0)) (Kd.R_base ho1)) (fun _ h_ => h_.1)); replace HO_340000 := mk0 (Kd.R_elder' (r_ HO_340000) (Kd.R_base ho0) hb); replace HO_340001 := mk0 (Kd.Q_elder' (q_ HO_340001) (Kd.R_base ho1) hb); replace BK330 := mk0 (u_ BK330 hb); replace BK331 := mk0 (u_ BK331 hb); replace BK332 := mk0 (u_ BK332 hb); replace BK339 := mk0 (u_ BK339 hb); replace BK341 := mk0 (u_ BK341 hb); replace BK342 := mk0 (u_ BK342 hb); replace HB := mk0 (bt_ (b_ HB) hb); have HO360 := n4_; have HO363 := n5_; clear n4_ n5_; (try clear hb); (try clear ho0); (try clear ho1); obtain ⟨Ao125, co125, eo125⟩ := Kd.R_slice HO360.out; subst eo125; have hnb126 := NB341_330.out; have hnc126 := NB330_341.out; have hnb127 := NB341_332.out; have hnc127 := NB332_341.out; have hnb128 := NB341_342.out; have hnc128 := NB342_341.out; obtain ⟨hcz129_0, hcz129_1, hfz129_0, hfz129_1⟩ := c2_ BK341; obtain ⟨Ao130, co130, eo130⟩ := Kd.R_slice HO363.out; subst eo130))
           go_meet
           case rel => exact ⟨_, (1), (0), (0), (t364), (t358), (t361), (([] : List ByteArray)), (([] : List Int)), (.slice Ao125 t358.length co125), (.slice Ao130 t361.length co130), (.slice none 0 0), (.slice none 0 0), (by first | rfl | (simp; done) | (simp [*]; done)), (by first | rfl | (simp; done) | (simp [*]; done)), (by first | rfl | (simp; done) | (simp [*]; done)), (by first | rfl | (simp; done) | (simp [*]; done)), H', ⟨by have := HJ28.out; have := HJ79.out; first | omega | exact Nat.le_refl _⟩, ⟨by (with_reducible repeat (first | apply Kd.V_alloc | apply Kd.V_drewN | apply Kd.V_drew)); exact Kd.V_mono (Kd.V_far (p := ⟨gb341, 1, none⟩) (Kd.V_far (p := ⟨gb341, 0, none⟩) (Kd.V_mono HO_331000.out (fun k_ hk => (⟨hk, hk.1.1.2.2.2.2.2.2.2.1⟩ : _ ∧ k_ ≠ gb341))) (fun _ hk => hk.2) (.slice Ao125 t358.length co125)) (fun _ hk => hk.2) (.slice Ao130 t361.length co130)) (fun _ hk => ⟨hk.1.1.1.1, ⟨hk.1.1.1.2.1, ⟨hk.1.1.1.2.2.1, ⟨hk.1.1.2, ⟨hk.1.2, ⟨(by simp [Value.ownBlock]), ⟨(by simp [Value.ownBlock]), ⟨hk.1.1.1.2.2.2.1, ⟨hk.1.1.1.2.2.2.2.1, ⟨hk.1.1.1.2.2.2.2.2.1, ⟨hk.1.1.1.2.2.2.2.2.2.1, ⟨hk.1.1.1.2.2.2.2.2.2.2.1, hk.1.1.1.2.2.2.2.2.2.2.2⟩⟩⟩⟩⟩⟩⟩⟩⟩⟩⟩⟩)⟩, ⟨by (with_reducible repeat (first | apply Kd.V_alloc | apply Kd.V_drewN | apply Kd.V_drew)); exact Kd.V_mono (Kd.V_far (p := ⟨gb341, 1, none⟩) (Kd.V_far (p := ⟨gb341, 0, none⟩) (Kd.V_mono HO_331001.out (fun k_ hk => (⟨hk, hk.1.1.2.2.2.2.2.2.2.1⟩ : _ ∧ k_ ≠ gb341))) (fun _ hk => hk.2) (.slice Ao125 t358.length co125)) (fun _ hk => hk.2) (.slice Ao130 t361.length co130)) (fun _ hk => ⟨hk.1.1.1.1, ⟨hk.1.1.1.2.1, ⟨hk.1.1.1.2.2.1, ⟨hk.1.1.2, ⟨hk.1.2, ⟨(by simp [Value.ownBlock]), ⟨(by simp [Value.ownBlock]), ⟨hk.1.1.1.2.2.2.1, ⟨hk.1.1.1.2.2.2.2.1, ⟨hk.1.1.1.2.2.2.2.2.1, ⟨hk.1.1.1.2.2.2.2.2.2.1, ⟨hk.1.1.1.2.2.2.2.2.2.2.1, hk.1.1.1.2.2.2.2.2.2.2.2⟩⟩⟩⟩⟩⟩⟩⟩⟩⟩⟩⟩)⟩, ⟨by (with_reducible repeat (first | apply Ra_ | apply Rn_ | apply Rd_)); exact Kd.R_mono (Kd.R_far (p := ⟨gb341, 1, none⟩) (Kd.R_far (p := ⟨gb341, 0, none⟩) (Kd.R_types HO_340000.out BK341.out (by decide)) (fun _ hk => hk.2) (.slice Ao125 t358.length co125)) (fun _ hk => hk.2) (.slice Ao130 t361.length co130)) (fun _ hk => ⟨hk.1.1, ⟨hk.1.2, (by simp [Value.ownBlock])⟩⟩)⟩, ⟨by (with_reducible repeat (first | apply Kd.Q_alloc | apply Kd.Q_drewN | apply Kd.Q_drew)); exact Kd.Q_mono (Kd.Q_far (p := ⟨gb341, 1, none⟩) (Kd.Q_far (p := ⟨gb341, 0, none⟩) (Kd.Q_types HO_340001.out BK341.out (by decide)) (fun _ hk => hk.2) (.slice Ao125 t358.length co125)) (fun _ hk => hk.2) (.slice Ao130 t361.length co130)) (fun _ hk => ⟨hk.1.1, ⟨hk.1.2, (by simp [Value.ownBlock])⟩⟩)⟩, ⟨by (with_reducible repeat (first | apply Ra_ | apply Rn_ | apply Rd_)); exact Kd.R_mono (Kd.R_far (p := ⟨gb341, 1, none⟩) (Kd.R_far (p := ⟨gb341, 0, none⟩) (Kd.R_types HO360.out BK341.out (by decide)) (fun _ hk => hk.2) (.slice Ao125 t358.length co125)) (fun _ hk => hk.2) (.slice Ao130 t361.length co130)) (fun _ hk => ⟨hk.1.1.1, ⟨hk.1.2, (by simp [Value.ownBlock])⟩⟩)⟩, ⟨Kd.Q_of_R (r2_ (Kd.R_mono (Kd.R_far (p := ⟨gb341, 1, none⟩) (Kd.R_far (p := ⟨gb341, 0, none⟩) (Kd.R_types HO363.out BK341.out (by decide)) (fun _ hk => hk.2) (.slice Ao125 t358.length co125)) (fun _ hk => hk.2) (.slice Ao130 t361.length co130)) (fun _ hk => ⟨hk.1.1.1, ⟨hk.1.2, (by simp [Value.ownBlock])⟩⟩)))⟩, ⟨by first | exact Kd.R_nil _ _ _ _ _ | exact Kd.N_nil _ _ _ _ _ | exact Kd.V_nil _ _ _ _ _ | exact Kd.Q_nil _ _ _ _ _ | exact Kd.S_nil _ _ _ _ _⟩, ⟨Kd.Q_of_R (by first | exact Kd.R_nil _ _ _ _ _ | exact Kd.N_nil _ _ _ _ _ | exact Kd.V_nil _ _ _ _ _ | exact Kd.Q_nil _ _ _ _ _ | exact Kd.S_nil _ _ _ _ _)⟩, ⟨(fa_ (fa_ (h_ BK330) NB330_341.out) NB330_341.out)⟩, ⟨(fa_ (fa_ (h_ BK331) NB331_341.out) NB331_341.out)⟩, ⟨(fa_ (fa_ (h_ BK332) NB332_341.out) NB332_341.out)⟩, ⟨(fa_ (fa_ (h_ BK339) NB339_341.out) NB339_341.out)⟩, ⟨(pu_ (cs := #[.slice Ao125 t358.length co125, .slice none 0 0]) (pu_ (cs := #[.slice none 0 0, .slice none 0 0]) (h_ BK341)))⟩, ⟨(fa_ (fa_ (h_ BK342) NB342_341.out) NB342_341.out)⟩, ⟨b_ HB⟩⟩
         ·replace c82 := Bool.eq_false_iff.mpr c82
          subst c82
          rw [if_neg (show ¬ (false = true) by decide)] at H
          by_cases c131 : t343 = 8
          ·rw [if_pos c131] at H
           have c131b0 : (t343 == 8) = true := beq_iff_eq.mpr c131
           have c131b1 : (t343 != 8) = false := bne_eq_false_iff_eq.mpr c131
           clear c131
           replace H := Option.bind_eq_some_iff.mp H
           obtain ⟨⟨t372, t373⟩, A1320, H⟩ := H
           try dsimp only at H
           have A132 := mk0 A1320
           clear A1320
           replace H := Option.bind_eq_some_iff.mp H
           obtain ⟨⟨t374, t375⟩, A1330, H⟩ := H
           try dsimp only at H
           have A133 := mk0 A1330
           clear A1330
           have HC134 := mk0 H
           clear H
           have hnb135 := NB339_330.out
           have hnc135 := NB330_339.out
           have hnb136 := NB339_331.out
           have hnc136 := NB331_339.out
           have hnb137 := NB339_332.out
           have hnc137 := NB332_339.out
           have hnb138 := NB339_341.out
           have hnc138 := NB341_339.out
           have hnb139 := NB339_342.out
           have hnc139 := NB342_339.out
           obtain ⟨hcz140_0, hcz140_1, hfz140_0, hfz140_1⟩ := c2_ BK339
           have hnb141 := NB331_330.out
           have hnc141 := NB330_331.out
           have hnb142 := NB331_332.out
           have hnc142 := NB332_331.out
           have hnb143 := NB331_341.out
           have hnc143 := NB341_331.out
           have hnb144 := NB331_342.out
           have hnc144 := NB342_331.out
           obtain ⟨hcz145_0, hcz145_1, hcz145_2, hfz145_0, hfz145_1, hfz145_2⟩ := c3_ BK331
           go_upto_if 99 with (first | ((with_reducible refine gate_callee (f := 38) rfl ?_); refine gL_ (some 91) Try.func38 #[.agg #[.slice Ao15 t333.length co15, .slice Ao20 t336.length co20], .int .i64 a1_1] (h := ?_); (with_reducible refine (page_Get.calls kj79 _ _ t333 _ _ t336 a1_1 t372 t373 _ ?side1 ?side2 ?side3 ?side4 A132.out).mono ?_); (case side1 => exact cr_ HO_340000); (case side2 => exact (Kd.R_reads' HO_340000.out).2.1); (case side3 => exact cq_ HO_340001); (case side4 => exact (Kd.Q_reads' HO_340001.out).2.1); rintro e w146 ⟨rfl, hb⟩; refine ⟨_, rfl, ?_⟩; replace HO_331000 := mk0 (Kd.V_below (v_ HO_331000) hb); replace HO_331001 := mk0 (Kd.V_below (v_ HO_331001) hb); replace HO_340000 := mk0 (Kd.R_below (r_ HO_340000) hb); replace HO_340001 := mk0 (Kd.Q_below (q_ HO_340001) hb); replace BK330 := mk0 (u_ BK330 hb); replace BK331 := mk0 (u_ BK331 hb); replace BK332 := mk0 (u_ BK332 hb); replace BK339 := mk0 (u_ BK339 hb); replace BK341 := mk0 (u_ BK341 hb); replace BK342 := mk0 (u_ BK342 hb); replace HB := mk0 (bt_ (b_ HB) hb); (try clear hb); obtain ⟨hcz147_0, hcz147_1, hfz147_0, hfz147_1⟩ := c2_ BK339) | ((with_reducible refine gate_callee (f := 83) rfl ?_); refine gL_ (some 96) Try.func83 #[.agg #[.slice Ao15 t333.length co15, .slice Ao20 t336.length co20]] (h := ?_); (with_reducible refine (page_Bytes.calls kj79 _ _ t333 _ _ t336 t374 t375 _ ?side1 ?side2 ?side3 ?side4 A133.out).mono ?_); (case side1 => exact cr_ HO_340000); (case side2 => exact (Kd.R_reads' HO_340000.out).2.1); (case side3 => exact cq_ HO_340001); (case side4 => exact (Kd.Q_reads' HO_340001.out).2.1); rintro e w148 ⟨rfl, hb⟩; refine ⟨_, rfl, ?_⟩; replace HO_331000 := mk0 (Kd.V_below (v_ HO_331000) hb); replace HO_331001 := mk0 (Kd.V_below (v_ HO_331001) hb); replace HO_340000 := mk0 (Kd.R_below (r_ HO_340000) hb); replace HO_340001 := mk0 (Kd.Q_below (q_ HO_340001) hb); replace BK330 := mk0 (u_ BK330 hb); replace BK331 := mk0 (u_ BK331 hb); replace BK332 := mk0 (u_ BK332 hb); replace BK339 := mk0 (u_ BK339 hb); replace BK341 := mk0 (u_ BK341 hb); replace BK342 := mk0 (u_ BK342 hb); replace HB := mk0 (bt_ (b_ HB) hb); (try clear hb)))
           (try simp only [Act.put, List.setIfInBounds_toArray, List.set_cons_zero, List.set_cons_succ])
           go_cut [8, 18, 19, 20] (fun v8 v18 v19 v20 wc => ∃ (kq : Nat) (x8_133 : Int) (x18_133 : ByteArray) (x19_133 : Int) (x20_133 : Int), v8 = .int .i64 x8_133 ∧ v18 = .string x18_133 ∧ v19 = .int .i64 x19_133 ∧ v20 = .int .i64 x20_133 ∧ Fc (quorumlaw5_step.j2 kq x8_133 t372 t373 t374 t375 x18_133 x19_133 x20_133 l0_0 l0_1 t333 t336 = some (r1, r2, r3)) ∧ Fc (kq ≤ kj79) ∧ Fc (Kd.V Kd.string 9 wc w.heap.size (fun k_ => ((P0_0_ k_ ∨ P0_1_ k_) ∨ w.heap.size ≤ k_) ∧ some k_ ≠ ((.slice Ao15 t333.length co15) : Value).ownBlock ∧ some k_ ≠ ((.slice Ao20 t336.length co20) : Value).ownBlock ∧ k_ ≠ gb330 ∧ k_ ≠ gb331 ∧ k_ ≠ gb332 ∧ k_ ≠ gb339 ∧ k_ ≠ gb341 ∧ k_ ≠ gb342) (.slice A0_0 l0_0.length c0_0) l0_0) ∧ Fc (Kd.V (Kd.int .i64) 3 wc w.heap.size (fun k_ => ((P0_0_ k_ ∨ P0_1_ k_) ∨ w.heap.size ≤ k_) ∧ some k_ ≠ ((.slice Ao15 t333.length co15) : Value).ownBlock ∧ some k_ ≠ ((.slice Ao20 t336.length co20) : Value).ownBlock ∧ k_ ≠ gb330 ∧ k_ ≠ gb331 ∧ k_ ≠ gb332 ∧ k_ ≠ gb339 ∧ k_ ≠ gb341 ∧ k_ ≠ gb342) (.slice A0_1 l0_1.length c0_1) l0_1) ∧ Fc (Kd.R Kd.string 9 wc w.heap.size (fun k_ => (w.heap.size ≤ k_)) (.slice Ao15 t333.length co15) t333) ∧ Fc (Kd.Q (Kd.int .i64) 3 wc w.heap.size (fun k_ => (w.heap.size ≤ k_)) (.slice Ao20 t336.length co20) t336) ∧ Fc (wc.heap[gb330]? = some (.cells #[(.slice A0_0 l0_0.length c0_0), (.slice A0_1 l0_1.length c0_1)] 56 (0, 0))) ∧ Fc (wc.heap[gb331]? = some (.cells #[.int .i64 a1_0, .int .i64 a1_1, .string a1_2] 64 (0, 0))) ∧ Fc (wc.heap[gb332]? = some (.cells #[(.slice none 0 0), (.slice none 0 0)] 56 (0, 0))) ∧ Fc (wc.heap[gb339]? = some (.cells #[(.slice Ao15 t333.length co15), (.slice Ao20 t336.length co20)] 56 (0, 0))) ∧ Fc (wc.heap[gb341]? = some (.cells #[(.slice none 0 0), (.slice none 0 0)] 56 (0, 0))) ∧ Fc (wc.heap[gb342]? = some (.cells #[(.slice none 0 0), (.slice none 0 0)] 56 (0, 0))) ∧ Fc (Below w.heap.size w wc))
           case first =>
            have H := HC134.out
            clear HC134
            by_cases c149 : t340 = true
            ·subst c149
             rw [if_pos rfl] at H
             replace H := Option.bind_eq_some_iff.mp H
             obtain ⟨t376, A1500, H⟩ := H
             try dsimp only at H
             have A150 := mk0 A1500
             clear A1500
             replace H := Option.bind_eq_some_iff.mp H
             obtain ⟨t377, A1510, H⟩ := H
             try dsimp only at H
             have A151 := mk0 A1510
             clear A1510
             by_cases c152 : t377 = true
             ·subst c152
              rw [if_pos rfl] at H
              by_cases c153 : 0 ≤ a1_1
              ·rw [if_pos c153] at H
               have c153b0 : decide (0 ≤ a1_1) = true := decide_eq_true c153
               clear c153
               (first | rw [c153b0] | (simp only [i64_w, i32_w]; rw [c153b0]) | skip)
               by_cases c154 : a1_1 < (l0_0.length : Int)
               ·rw [if_pos c154] at H
                have c154b0 : decide (a1_1 < (l0_0.length : Int)) = true := decide_eq_true c154
                clear c154
                have H' := mk0 H
                clear H
                have hnb155 := NB330_331.out
                have hnc155 := NB331_330.out
                have hnb156 := NB330_332.out
                have hnc156 := NB332_330.out
                have hnb157 := NB330_339.out
                have hnc157 := NB339_330.out
                have hnb158 := NB330_341.out
                have hnc158 := NB341_330.out
                have hnb159 := NB330_342.out
                have hnc159 := NB342_330.out
                obtain ⟨hcz160_0, hcz160_1, hfz160_0, hfz160_1⟩ := c2_ BK330
                try go_wp2_with (first | ((with_reducible refine gate_callee (f := 77) rfl ?_); refine gL_ (some 101) Try.func77 #[.agg #[.slice A0_0 l0_0.length c0_0, .slice A0_1 l0_1.length c0_1]] (h := ?_); (with_reducible refine (quorumref4_Bytes.calls kj79 _ _ l0_0 _ _ l0_1 t376 _ ?side1 ?side2 ?side3 ?side4 A150.out).mono ?_); (case side1 => exact cv_ HO_331000); (case side2 => exact (Kd.V_reads' HO_331000.out).2.1); (case side3 => exact cv_ HO_331001); (case side4 => exact (Kd.V_reads' HO_331001.out).2.1); rintro e w161 ⟨rfl, hb⟩; refine ⟨_, rfl, ?_⟩; replace HO_331000 := mk0 (Kd.V_below (v_ HO_331000) hb); replace HO_331001 := mk0 (Kd.V_below (v_ HO_331001) hb); replace HO_340000 := mk0 (Kd.R_below (r_ HO_340000) hb); replace HO_340001 := mk0 (Kd.Q_below (q_ HO_340001) hb); replace BK330 := mk0 (u_ BK330 hb); replace BK331 := mk0 (u_ BK331 hb); replace BK332 := mk0 (u_ BK332 hb); replace BK339 := mk0 (u_ BK339 hb); replace BK341 := mk0 (u_ BK341 hb); replace BK342 := mk0 (u_ BK342 hb); replace HB := mk0 (bt_ (b_ HB) hb); (try clear hb); obtain ⟨hcz162_0, hcz162_1, hfz162_0, hfz162_1⟩ := c2_ BK330; have hnb163 := NB331_332.out; have hnc163 := NB332_331.out; have hnb164 := NB331_339.out; have hnc164 := NB339_331.out; have hnb165 := NB331_341.out; have hnc165 := NB341_331.out; have hnb166 := NB331_342.out; have hnc166 := NB342_331.out; obtain ⟨hcz167_0, hcz167_1, hcz167_2, hfz167_0, hfz167_1, hfz167_2⟩ := c3_ BK331) | ((with_reducible refine gate_callee (f := 84) rfl ?_); refine gL_ (some 105) Try.func84 #[.agg #[.slice A0_0 l0_0.length c0_0, .slice A0_1 l0_1.length c0_1], .int .i64 a1_1] (h := ?_); (with_reducible refine (quorumref4_There.calls kj79 _ _ l0_0 _ _ l0_1 a1_1 true _ ?side1 ?side2 ?side3 ?side4 A151.out).mono ?_); (case side1 => exact cv_ HO_331000); (case side2 => exact (Kd.V_reads' HO_331000.out).2.1); (case side3 => exact cv_ HO_331001); (case side4 => exact (Kd.V_reads' HO_331001.out).2.1); rintro e w168 ⟨rfl, hb⟩; refine ⟨_, rfl, ?_⟩; replace HO_331000 := mk0 (Kd.V_below (v_ HO_331000) hb); replace HO_331001 := mk0 (Kd.V_below (v_ HO_331001) hb); replace HO_340000 := mk0 (Kd.R_below (r_ HO_340000) hb); replace HO_340001 := mk0 (Kd.Q_below (q_ HO_340001) hb); replace BK330 := mk0 (u_ BK330 hb); replace BK331 := mk0 (u_ BK331 hb); replace BK332 := mk0 (u_ BK332 hb); replace BK339 := mk0 (u_ BK339 hb); replace BK341 := mk0 (u_ BK341 hb); replace BK342 := mk0 (u_ BK342 hb); replace HB := mk0 (bt_ (b_ HB) hb); (try clear hb)))
                have p378 : 0 ≤ (a1_1 : Int) := of_decide_eq_true (by first | (with_reducible assumption) | assumption)
                have q378 : a1_1 < (l0_0.length : Int) := of_decide_eq_true (by first | (with_reducible assumption) | assumption)
                obtain ⟨ad378, e378, hx378_0⟩ := Kd.at_string (Kd.V_reads' HO_331000.out).2.2 a1_1 p378 q378
                cases e378
                replace p378 := eq_true p378
                replace q378 := eq_true q378
                have hs3_0 : w168.cell? ⟨gb330, 0, none⟩ = some (.slice (some ad378) l0_0.length c0_0) := (blk_cell BK330.out 0).trans rfl
                have hs3_1 : w168.cell? ⟨gb330, 1, none⟩ = some (.slice A0_1 l0_1.length c0_1) := (blk_cell BK330.out 1).trans rfl
                have hs3_2 : w168.cell? ⟨gb331, 0, none⟩ = some (.int .i64 a1_0) := (blk_cell BK331.out 0).trans rfl
                have hs3_3 : w168.cell? ⟨gb331, 1, none⟩ = some (.int .i64 a1_1) := (blk_cell BK331.out 1).trans rfl
                have hs3_4 : w168.cell? ⟨gb331, 2, none⟩ = some (.string a1_2) := (blk_cell BK331.out 2).trans rfl
                have hs3_5 : w168.cell? (ad378.add (a1_1).toNat) = some (.string (rdOf ByteArray.empty l0_0 a1_1)) := hx378_0
                go_quiet (fail)
                clear hs3_0 hs3_1 hs3_2 hs3_3 hs3_4 hs3_5
                generalize hq_ : World.drewN w168 _ = w169
                replace HO_331000 := mk0 (vq_ hq_ HO_331000.out)
                replace HO_331001 := mk0 (vq_ hq_ HO_331001.out)
                replace HO_340000 := mk0 (Kd.R_at hq_ HO_340000.out)
                replace HO_340001 := mk0 (Kd.Q_at hq_ HO_340001.out)
                replace BK330 := mk0 (blk_at hq_ BK330.out)
                replace BK331 := mk0 (blk_at hq_ BK331.out)
                replace BK332 := mk0 (blk_at hq_ BK332.out)
                replace BK339 := mk0 (blk_at hq_ BK339.out)
                replace BK341 := mk0 (blk_at hq_ BK341.out)
                replace BK342 := mk0 (blk_at hq_ BK342.out)
                replace HB := mk0 (below_at hq_ HB.out)
                try replace hx378_0 := cell_at hq_ hx378_0
                clear hq_
                try go_wp2
                go_meet
                case rel => exact ⟨_, (0), (rdOf ByteArray.empty l0_0 a1_1), (0), (t376), (by first | rfl | (simp; done) | (simp [*]; done)), (by first | rfl | (simp; done) | (simp [*]; done)), (by first | rfl | (simp; done) | (simp [*]; done)), (by first | rfl | (simp; done) | (simp [*]; done)), H', ⟨by have := HJ28.out; have := HJ79.out; first | omega | exact Nat.le_refl _⟩, ⟨by (with_reducible repeat (first | apply Kd.V_alloc | apply Kd.V_drewN | apply Kd.V_drew)); exact HO_331000.out⟩, ⟨by (with_reducible repeat (first | apply Kd.V_alloc | apply Kd.V_drewN | apply Kd.V_drew)); exact HO_331001.out⟩, ⟨by (with_reducible repeat (first | apply Ra_ | apply Rn_ | apply Rd_)); exact HO_340000.out⟩, ⟨by (with_reducible repeat (first | apply Kd.Q_alloc | apply Kd.Q_drewN | apply Kd.Q_drew)); exact HO_340001.out⟩, ⟨h_ BK330⟩, ⟨h_ BK331⟩, ⟨h_ BK332⟩, ⟨h_ BK339⟩, ⟨h_ BK341⟩, ⟨h_ BK342⟩, ⟨b_ HB⟩⟩
               ·rw [if_neg c154] at H
                exact absurd H (by simp)
              ·rw [if_neg c153] at H
               exact absurd H (by simp)
             ·replace c152 := Bool.eq_false_iff.mpr c152
              subst c152
              rw [if_neg (show ¬ (false = true) by decide)] at H
              have H' := mk0 H
              clear H
              have hnb170 := NB330_331.out
              have hnc170 := NB331_330.out
              have hnb171 := NB330_332.out
              have hnc171 := NB332_330.out
              have hnb172 := NB330_339.out
              have hnc172 := NB339_330.out
              have hnb173 := NB330_341.out
              have hnc173 := NB341_330.out
              have hnb174 := NB330_342.out
              have hnc174 := NB342_330.out
              obtain ⟨hcz175_0, hcz175_1, hfz175_0, hfz175_1⟩ := c2_ BK330
              go_wp2_with (first | ((with_reducible refine gate_callee (f := 77) rfl ?_); refine gL_ (some 101) Try.func77 #[.agg #[.slice A0_0 l0_0.length c0_0, .slice A0_1 l0_1.length c0_1]] (h := ?_); (with_reducible refine (quorumref4_Bytes.calls kj79 _ _ l0_0 _ _ l0_1 t376 _ ?side1 ?side2 ?side3 ?side4 A150.out).mono ?_); (case side1 => exact cv_ HO_331000); (case side2 => exact (Kd.V_reads' HO_331000.out).2.1); (case side3 => exact cv_ HO_331001); (case side4 => exact (Kd.V_reads' HO_331001.out).2.1); rintro e w176 ⟨rfl, hb⟩; refine ⟨_, rfl, ?_⟩; replace HO_331000 := mk0 (Kd.V_below (v_ HO_331000) hb); replace HO_331001 := mk0 (Kd.V_below (v_ HO_331001) hb); replace HO_340000 := mk0 (Kd.R_below (r_ HO_340000) hb); replace HO_340001 := mk0 (Kd.Q_below (q_ HO_340001) hb); replace BK330 := mk0 (u_ BK330 hb); replace BK331 := mk0 (u_ BK331 hb); replace BK332 := mk0 (u_ BK332 hb); replace BK339 := mk0 (u_ BK339 hb); replace BK341 := mk0 (u_ BK341 hb); replace BK342 := mk0 (u_ BK342 hb); replace HB := mk0 (bt_ (b_ HB) hb); (try clear hb); obtain ⟨hcz177_0, hcz177_1, hfz177_0, hfz177_1⟩ := c2_ BK330; have hnb178 := NB331_332.out; have hnc178 := NB332_331.out; have hnb179 := NB331_339.out; have hnc179 := NB339_331.out; have hnb180 := NB331_341.out; have hnc180 := NB341_331.out; have hnb181 := NB331_342.out; have hnc181 := NB342_331.out; obtain ⟨hcz182_0, hcz182_1, hcz182_2, hfz182_0, hfz182_1, hfz182_2⟩ := c3_ BK331) | ((with_reducible refine gate_callee (f := 84) rfl ?_); refine gL_ (some 105) Try.func84 #[.agg #[.slice A0_0 l0_0.length c0_0, .slice A0_1 l0_1.length c0_1], .int .i64 a1_1] (h := ?_); (with_reducible refine (quorumref4_There.calls kj79 _ _ l0_0 _ _ l0_1 a1_1 false _ ?side1 ?side2 ?side3 ?side4 A151.out).mono ?_); (case side1 => exact cv_ HO_331000); (case side2 => exact (Kd.V_reads' HO_331000.out).2.1); (case side3 => exact cv_ HO_331001); (case side4 => exact (Kd.V_reads' HO_331001.out).2.1); rintro e w183 ⟨rfl, hb⟩; refine ⟨_, rfl, ?_⟩; replace HO_331000 := mk0 (Kd.V_below (v_ HO_331000) hb); replace HO_331001 := mk0 (Kd.V_below (v_ HO_331001) hb); replace HO_340000 := mk0 (Kd.R_below (r_ HO_340000) hb); replace HO_340001 := mk0 (Kd.Q_below (q_ HO_340001) hb); replace BK330 := mk0 (u_ BK330 hb); replace BK331 := mk0 (u_ BK331 hb); replace BK332 := mk0 (u_ BK332 hb); replace BK339 := mk0 (u_ BK339 hb); replace BK341 := mk0 (u_ BK341 hb); replace BK342 := mk0 (u_ BK342 hb); replace HB := mk0 (bt_ (b_ HB) hb); (try clear hb)))
              go_meet
              case rel => exact ⟨_, (3), ((⟨#[]⟩ : ByteArray)), (0), (t376), (by first | rfl | (simp; done) | (simp [*]; done)), (by first | rfl | (simp; done) | (simp [*]; done)), (by first | rfl | (simp; done) | (simp [*]; done)), (by first | rfl | (simp; done) | (simp [*]; done)), H', ⟨by have := HJ28.out; have := HJ79.out; first | omega | exact Nat.le_refl _⟩, ⟨by (with_reducible repeat (first | apply Kd.V_alloc | apply Kd.V_drewN | apply Kd.V_drew)); exact HO_331000.out⟩, ⟨by (with_reducible repeat (first | apply Kd.V_alloc | apply Kd.V_drewN | apply Kd.V_drew)); exact HO_331001.out⟩, ⟨by (with_reducible repeat (first | apply Ra_ | apply Rn_ | apply Rd_)); exact HO_340000.out⟩, ⟨by (with_reducible repeat (first | apply Kd.Q_alloc | apply Kd.Q_drewN | apply Kd.Q_drew)); exact HO_340001.out⟩, ⟨h_ BK330⟩, ⟨h_ BK331⟩, ⟨h_ BK332⟩, ⟨h_ BK339⟩, ⟨h_ BK341⟩, ⟨h_ BK342⟩, ⟨b_ HB⟩⟩
            ·replace c149 := Bool.eq_false_iff.mpr c149
             subst c149
             rw [if_neg (show ¬ (false = true) by decide)] at H
             have H' := mk0 H
             clear H
             go_wp2
             go_meet
             case rel => exact ⟨_, (1), ((⟨#[]⟩ : ByteArray)), (1), (0), (by first | rfl | (simp; done) | (simp [*]; done)), (by first | rfl | (simp; done) | (simp [*]; done)), (by first | rfl | (simp; done) | (simp [*]; done)), (by first | rfl | (simp; done) | (simp [*]; done)), H', ⟨by have := HJ28.out; have := HJ79.out; first | omega | exact Nat.le_refl _⟩, ⟨by (with_reducible repeat (first | apply Kd.V_alloc | apply Kd.V_drewN | apply Kd.V_drew)); exact HO_331000.out⟩, ⟨by (with_reducible repeat (first | apply Kd.V_alloc | apply Kd.V_drewN | apply Kd.V_drew)); exact HO_331001.out⟩, ⟨by (with_reducible repeat (first | apply Ra_ | apply Rn_ | apply Rd_)); exact HO_340000.out⟩, ⟨by (with_reducible repeat (first | apply Kd.Q_alloc | apply Kd.Q_drewN | apply Kd.Q_drew)); exact HO_340001.out⟩, ⟨h_ BK330⟩, ⟨h_ BK331⟩, ⟨h_ BK332⟩, ⟨h_ BK339⟩, ⟨h_ BK341⟩, ⟨h_ BK342⟩, ⟨b_ HB⟩⟩
           case rest =>
            clear HC134
            try clear c30
            try clear c30b0
            try clear c30b1
            try clear c31
            try clear c33
            try clear c81
            try clear c81b0
            try clear c81b1
            try clear c82
            try clear c84
            try clear c131
            try clear c131b0
            try clear c131b1
            try clear c149
            try clear c152
            try clear c153
            try clear c153b0
            try clear c154
            try clear c154b0
            try clear hcz102_0
            try clear hcz102_1
            try clear hcz106_0
            try clear hcz106_1
            try clear hcz107_0
            try clear hcz107_1
            try clear hcz107_2
            try clear hcz111_0
            try clear hcz111_1
            try clear hcz118_0
            try clear hcz118_1
            try clear hcz123_0
            try clear hcz123_1
            try clear hcz123_2
            try clear hcz129_0
            try clear hcz129_1
            try clear hcz12_0
            try clear hcz12_1
            try clear hcz140_0
            try clear hcz140_1
            try clear hcz145_0
            try clear hcz145_1
            try clear hcz145_2
            try clear hcz147_0
            try clear hcz147_1
            try clear hcz160_0
            try clear hcz160_1
            try clear hcz162_0
            try clear hcz162_1
            try clear hcz167_0
            try clear hcz167_1
            try clear hcz167_2
            try clear hcz175_0
            try clear hcz175_1
            try clear hcz177_0
            try clear hcz177_1
            try clear hcz182_0
            try clear hcz182_1
            try clear hcz182_2
            try clear hcz19_0
            try clear hcz19_1
            try clear hcz21_0
            try clear hcz21_1
            try clear hcz28_0
            try clear hcz28_1
            try clear hcz28_2
            try clear hcz40_0
            try clear hcz40_1
            try clear hcz45_0
            try clear hcz45_1
            try clear hcz45_2
            try clear hcz51_0
            try clear hcz51_1
            try clear hcz55_0
            try clear hcz55_1
            try clear hcz56_0
            try clear hcz56_1
            try clear hcz56_2
            try clear hcz60_0
            try clear hcz60_1
            try clear hcz67_0
            try clear hcz67_1
            try clear hcz72_0
            try clear hcz72_1
            try clear hcz72_2
            try clear hcz78_0
            try clear hcz78_1
            try clear hcz91_0
            try clear hcz91_1
            try clear hcz96_0
            try clear hcz96_1
            try clear hcz96_2
            try clear hfz102_0
            try clear hfz102_1
            try clear hfz106_0
            try clear hfz106_1
            try clear hfz107_0
            try clear hfz107_1
            try clear hfz107_2
            try clear hfz111_0
            try clear hfz111_1
            try clear hfz118_0
            try clear hfz118_1
            try clear hfz123_0
            try clear hfz123_1
            try clear hfz123_2
            try clear hfz129_0
            try clear hfz129_1
            try clear hfz12_0
            try clear hfz12_1
            try clear hfz140_0
            try clear hfz140_1
            try clear hfz145_0
            try clear hfz145_1
            try clear hfz145_2
            try clear hfz147_0
            try clear hfz147_1
            try clear hfz160_0
            try clear hfz160_1
            try clear hfz162_0
            try clear hfz162_1
            try clear hfz167_0
            try clear hfz167_1
            try clear hfz167_2
            try clear hfz175_0
            try clear hfz175_1
            try clear hfz177_0
            try clear hfz177_1
            try clear hfz182_0
            try clear hfz182_1
            try clear hfz182_2
            try clear hfz19_0
            try clear hfz19_1
            try clear hfz21_0
            try clear hfz21_1
            try clear hfz28_0
            try clear hfz28_1
            try clear hfz28_2
            try clear hfz40_0
            try clear hfz40_1
            try clear hfz45_0
            try clear hfz45_1
            try clear hfz45_2
            try clear hfz51_0
            try clear hfz51_1
            try clear hfz55_0
            try clear hfz55_1
            try clear hfz56_0
            try clear hfz56_1
            try clear hfz56_2
            try clear hfz60_0
            try clear hfz60_1
            try clear hfz67_0
            try clear hfz67_1
            try clear hfz72_0
            try clear hfz72_1
            try clear hfz72_2
            try clear hfz78_0
            try clear hfz78_1
            try clear hfz91_0
            try clear hfz91_1
            try clear hfz96_0
            try clear hfz96_1
            try clear hfz96_2
            try clear hx378_0
            try clear p378
            try clear q378
            obtain ⟨kq, x8_133, x18_133, x19_133, x20_133, rfl, rfl, rfl, rfl, HA, HJ133, HO_331000, HO_331001, HO_340000, HO_340001, BK330, BK331, BK332, BK339, BK341, BK342, HB⟩ := hcut
            cases kq with
            | zero => exact absurd HA.out (by simp [quorumlaw5_step.j2])
            | succ kj133 =>
             have H := HA.out
             clear HA
             simp only [quorumlaw5_step.j2] at H
             as_aux_lemma =>
              replace H := Option.bind_eq_some_iff.mp H
              obtain ⟨t379, A1840, H⟩ := H
              try dsimp only at H
              have A184 := mk0 A1840
              clear A1840
              by_cases c185 : t379 = x8_133
              ·rw [if_pos c185] at H
               have c185b0 : (t379 == x8_133) = true := beq_iff_eq.mpr c185
               have c185b1 : (t379 != x8_133) = false := bne_eq_false_iff_eq.mpr c185
               clear c185
               by_cases c186 : t372.toList = x18_133.toList
               ·rw [if_pos c186] at H
                have c186b0 : (t372.toList == x18_133.toList) = true := beq_iff_eq.mpr c186
                have c186b1 : (t372.toList != x18_133.toList) = false := bne_eq_false_iff_eq.mpr c186
                clear c186
                replace H := Option.bind_eq_some_iff.mp H
                obtain ⟨t380, A1870, H⟩ := H
                try dsimp only at H
                have A187 := mk0 A1870
                clear A1870
                by_cases c188 : t380 = x19_133
                ·rw [if_pos c188] at H
                 have c188b0 : (t380 == x19_133) = true := beq_iff_eq.mpr c188
                 have c188b1 : (t380 != x19_133) = false := bne_eq_false_iff_eq.mpr c188
                 clear c188
                 by_cases c189 : t374 = x20_133
                 ·rw [if_pos c189] at H
                  have c189b0 : (t374 == x20_133) = true := beq_iff_eq.mpr c189
                  have c189b1 : (t374 != x20_133) = false := bne_eq_false_iff_eq.mpr c189
                  clear c189
                  replace H := Option.bind_eq_some_iff.mp H
                  obtain ⟨t381, A1900, H⟩ := H
                  try dsimp only at H
                  have A190 := mk0 A1900
                  clear A1900
                  simp only [Option.some.injEq, Prod.mk.injEq] at H
                  obtain ⟨rfl, rfl, rfl⟩ := H
                  try go_wp2
                  replace HO_331000 := mk0 (Kd.V_drew HO_331000.out)
                  replace HO_331001 := mk0 (Kd.V_drew HO_331001.out)
                  replace HO_340000 := mk0 (Rd_ HO_340000.out)
                  replace HO_340001 := mk0 (Kd.Q_drew HO_340001.out)
                  replace BK330 := mk0 (bD_ BK330.out)
                  replace BK331 := mk0 (bD_ BK331.out)
                  replace BK332 := mk0 (bD_ BK332.out)
                  replace BK339 := mk0 (bD_ BK339.out)
                  replace BK341 := mk0 (bD_ BK341.out)
                  replace BK342 := mk0 (bD_ BK342.out)
                  replace HB := mk0 (b1_ HB.out)
                  refine start_ (n := 28) (S := fun w' => w'.cell? ⟨gb330, 0, none⟩ = some (.slice A0_0 l0_0.length c0_0) ∧ w'.cell? ⟨gb330, 1, none⟩ = some (.slice A0_1 l0_1.length c0_1) ∧ w'.cell? ⟨gb339, 0, none⟩ = some (.slice Ao15 t333.length co15) ∧ w'.cell? ⟨gb339, 1, none⟩ = some (.slice Ao20 t336.length co20)) (ds := []) (bt 28 0) (by kernel_rfl) rfl rfl ⟨(blk_cell BK330.out 0).trans rfl, (blk_cell BK330.out 1).trans rfl, (blk_cell BK339.out 0).trans rfl, (blk_cell BK339.out 1).trans rfl⟩ (fun hHeld => ?_); refine with_tabW quorumlaw5_step.tab29 quorumlaw5_step.bits29 (fun HT_ HW_ => ?_)
                  generalize wc.drew = w191 at HO_331000 HO_331001 HO_340000 HO_340001 BK330 BK331 BK332 BK339 BK341 BK342 HB hHeld ⊢
                  refine pq_ HT_.out 1 113 (bt 28 2) (h := ?_)
                  refine pq_ HT_.out 3 115 (bt 28 10) (h := ?_)
                  refine tq4_ HT_.out HW_.out 0 112 (bt 28 11) hHeld (h := ?_)
                  refine one_ (i := 2) (N := some 114) (bt 28 15) rfl rfl (one_of HT_.out (by kernel_rfl)) (by decide) (fun K hK => ?_)
                  refine goes_ Try.func35 (by kernel_rfl) rfl #[.int .i64 t373] (by rfl) rfl rfl (by (try simp only [List.map_toArray, List.map_cons, List.map_nil]); first | done | rfl | (simp only [List.length_drop, List.length_take]; rfl)) ?_
                  with_reducible refine (quorumlaw5_num.calls t373 t379 _ A184.out).mono ?_
                  rintro e w' ⟨rfl, ⟨nd, rfl⟩⟩
                  refine ⟨_, rfl, ?_⟩
                  refine hK.out _ _ ⟨(blk_cell BK330.out 0).trans rfl, (blk_cell BK330.out 1).trans rfl, (blk_cell BK339.out 0).trans rfl, (blk_cell BK339.out 1).trans rfl⟩ (fun hHeld => ?_)
                  clear hK K
                  refine norm_ (a' := ?_) ?_ ?_
                  rotate_left
                  ·show Act.put _ (some 114) _ = _
                   simp only [z_]
                   rfl
                  refine pq_ HT_.out 4 116 (bt 28 31) (h := ?_)
                  refine pq_ HT_.out 5 117 (bt 28 63) (h := ?_)
                  refine pq_ HT_.out 6 118 (bt 28 127) (h := ?_)
                  refine pq_ HT_.out 7 119 (bt 28 255) (h := ?_)
                  refine pq_ HT_.out 8 120 (bt 28 511) (h := ?_)
                  refine pq_ HT_.out 9 121 (bt 28 1023) (h := ?_)
                  refine pq_ HT_.out 10 122 (bt 28 2047) (h := ?_)
                  refine pq_ HT_.out 11 123 (bt 28 4095) (h := ?_)
                  refine pq_ HT_.out 13 125 (bt 28 12287) (h := ?_)
                  refine one_ (i := 12) (N := some 124) (bt 28 16383) rfl rfl (one_of HT_.out (by kernel_rfl)) (by decide) (fun K hK => ?_)
                  refine goes_ Try.func35 (by kernel_rfl) rfl #[.int .i64 t375] (by rfl) rfl rfl (by (try simp only [List.map_toArray, List.map_cons, List.map_nil]); first | done | rfl | (simp only [List.length_drop, List.length_take]; rfl)) ?_
                  with_reducible refine (quorumlaw5_num.calls t375 t380 _ A187.out).mono ?_
                  rintro e w' ⟨rfl, ⟨nd, rfl⟩⟩
                  refine ⟨_, rfl, ?_⟩
                  refine hK.out _ _ ⟨(blk_cell BK330.out 0).trans rfl, (blk_cell BK330.out 1).trans rfl, (blk_cell BK339.out 0).trans rfl, (blk_cell BK339.out 1).trans rfl⟩ (fun hHeld => ?_)
                  clear hK K
                  refine norm_ (a' := ?_) ?_ ?_
                  rotate_left
                  ·show Act.put _ (some 124) _ = _
                   simp only [z_]
                   rfl
                  refine pq_ HT_.out 14 126 (bt 28 32767) (h := ?_)
                  refine pq_ HT_.out 15 127 (bt 28 65535) (h := ?_)
                  refine pq_ HT_.out 16 128 (bt 28 131071) (h := ?_)
                  refine pq_ HT_.out 17 129 (bt 28 262143) (h := ?_)
                  refine pq_ HT_.out 18 130 (bt 28 524287) (h := ?_)
                  refine pq_ HT_.out 19 131 (bt 28 1048575) (h := ?_)
                  refine pq_ HT_.out 20 132 (bt 28 2097151) (h := ?_)
                  refine pq_ HT_.out 21 133 (bt 28 4194303) (h := ?_)
                  refine tq4_ HT_.out HW_.out 22 134 (bt 28 8388607) hHeld (h := ?_)
                  refine tq4_ HT_.out HW_.out 23 135 (bt 28 16777215) hHeld (h := ?_)
                  refine one_ (i := 24) (N := some 136) (bt 28 33554431) rfl rfl (one_of HT_.out (by kernel_rfl)) (by decide) (fun K hK => ?_)
                  refine goes_ Try.func39 (by kernel_rfl) rfl #[.agg #[.slice Ao15 t333.length co15, .slice Ao20 t336.length co20], .agg #[.slice A0_0 l0_0.length c0_0, .slice A0_1 l0_1.length c0_1]] (by rfl) rfl rfl (by (try simp only [List.map_toArray, List.map_cons, List.map_nil]); first | done | rfl | (simp only [List.length_drop, List.length_take]; rfl)) ?_
                  with_reducible refine (quorumref0_EqPage.calls kj133 _ _ t333 _ _ t336 _ _ l0_0 _ _ l0_1 t381 _ ?side1 ?side2 ?side3 ?side4 ?side5 ?side6 ?side7 ?side8 A190.out).mono ?_
                  (case side1 => exact cr_ HO_340000)
                  (case side2 => exact (Kd.R_reads' HO_340000.out).2.1)
                  (case side3 => exact cq_ HO_340001)
                  (case side4 => exact (Kd.Q_reads' HO_340001.out).2.1)
                  (case side5 => exact cv_ HO_331000)
                  (case side6 => exact (Kd.V_reads' HO_331000.out).2.1)
                  (case side7 => exact cv_ HO_331001)
                  (case side8 => exact (Kd.V_reads' HO_331001.out).2.1)
                  rintro e w192 ⟨rfl, hb⟩
                  refine ⟨_, rfl, ?_⟩
                  replace HO_331000 := mk0 (Kd.V_below (v_ HO_331000) hb)
                  replace HO_331001 := mk0 (Kd.V_below (v_ HO_331001) hb)
                  replace HO_340000 := mk0 (Kd.R_below (r_ HO_340000) hb)
                  replace HO_340001 := mk0 (Kd.Q_below (q_ HO_340001) hb)
                  replace BK330 := mk0 (u_ BK330 hb)
                  replace BK331 := mk0 (u_ BK331 hb)
                  replace BK332 := mk0 (u_ BK332 hb)
                  replace BK339 := mk0 (u_ BK339 hb)
                  replace BK341 := mk0 (u_ BK341 hb)
                  replace BK342 := mk0 (u_ BK342 hb)
                  replace HB := mk0 (bt_ (b_ HB) hb)
                  (try clear hb)
                  (try clear hb2)
                  (try clear hk)
                  (try clear hi)
                  refine hK.out _ _ ⟨(blk_cell BK330.out 0).trans rfl, (blk_cell BK330.out 1).trans rfl, (blk_cell BK339.out 0).trans rfl, (blk_cell BK339.out 1).trans rfl⟩ (fun hHeld => ?_)
                  clear hK K
                  refine norm_ (a' := ?_) ?_ ?_
                  rotate_left
                  ·show Act.put _ (some 136) _ = _
                   simp only [z_]
                   rfl
                  refine pq_ HT_.out 25 137 (bt 28 67108863) (h := ?_)
                  refine one_ (i := 26) (N := none) (bt 28 134217727) rfl rfl (one_of HT_.out (by kernel_rfl)) (by decide) (fun K hK => ?_)
                  have hs193 : w192.cell? ⟨gb332, 0, none⟩ = some (.slice none 0 0) := (blk_cell BK332.out 0).trans rfl
                  have hfs193 := blk_frozen BK332.out 0
                  have hns193_0 := NB330_332.out
                  have hns193_1 := NB331_332.out
                  have hns193_3 := NB339_332.out
                  have hns193_4 := NB341_332.out
                  have hns193_5 := NB342_332.out
                  have hms193_0 := NB332_330.out
                  have hms193_1 := NB332_331.out
                  have hms193_3 := NB332_339.out
                  have hms193_4 := NB332_341.out
                  have hms193_5 := NB332_342.out
                  have hs194 : w192.cell? ⟨gb332, 1, none⟩ = some (.slice none 0 0) := (blk_cell BK332.out 1).trans rfl
                  have hfs194 := blk_frozen BK332.out 1
                  have hns194_0 := NB330_332.out
                  have hns194_1 := NB331_332.out
                  have hns194_3 := NB339_332.out
                  have hns194_4 := NB341_332.out
                  have hns194_5 := NB342_332.out
                  have hms194_0 := NB332_330.out
                  have hms194_1 := NB332_331.out
                  have hms194_3 := NB332_339.out
                  have hms194_4 := NB332_341.out
                  have hms194_5 := NB332_342.out
                  refine skip_ (w1 := ?_) (by rfl) rfl ?_ ?_
                  rotate_left
                  ·go_simp
                   rfl
                  refine hK.out _ _ ⟨((cell_far (p := ⟨gb332, _, none⟩) NB330_332.out _).trans (((cell_far (p := ⟨gb332, _, none⟩) NB330_332.out _).trans (hHeld.1)))), ((cell_far (p := ⟨gb332, _, none⟩) NB330_332.out _).trans (((cell_far (p := ⟨gb332, _, none⟩) NB330_332.out _).trans (hHeld.2.1)))), ((cell_far (p := ⟨gb332, _, none⟩) NB339_332.out _).trans (((cell_far (p := ⟨gb332, _, none⟩) NB339_332.out _).trans (hHeld.2.2.1)))), ((cell_far (p := ⟨gb332, _, none⟩) NB339_332.out _).trans (((cell_far (p := ⟨gb332, _, none⟩) NB339_332.out _).trans (hHeld.2.2.2))))⟩ (fun hHeld => ?_)
                  clear hK K
                  refine pq_ HT_.out 27 5 (bt 28 268435455) (h := ?_)
                  refine done_ (done_of HT_.out (by kernel_rfl)) ?_
                  try go_wp2
                  refine bodyPost_ret (results_ct rfl _ _ gb332 56 #[.slice A0_0 l0_0.length c0_0, .slice A0_1 l0_1.length c0_1] (0, 0) _ rfl (pu_ (cs := #[.slice A0_0 l0_0.length c0_0, .slice none 0 0]) (pu_ (cs := #[.slice none 0 0, .slice none 0 0]) (h_ BK332))) Try.underlying56 rfl (by kernel_rfl)) rfl ?_
                  exact ⟨_, _, by first | rfl | (simp [errW_none, errW_some] <;> rfl) | (simp [*, errW_none, errW_some] <;> rfl), by (with_reducible repeat (first | apply Kd.V_alloc | apply Kd.V_drewN | apply Kd.V_drew)); exact Kd.V_mono (Kd.V_far (p := ⟨gb332, 1, none⟩) (Kd.V_far (p := ⟨gb332, 0, none⟩) (Kd.V_mono HO_331000.out (fun k_ hk => (⟨hk, hk.2.2.2.2.2.1⟩ : _ ∧ k_ ≠ gb332))) (fun _ hk => hk.2) (.slice A0_0 l0_0.length c0_0)) (fun _ hk => hk.2) (.slice A0_1 l0_1.length c0_1)) (fun _ hk => hk.1.1), by (with_reducible repeat (first | apply Kd.V_alloc | apply Kd.V_drewN | apply Kd.V_drew)); exact Kd.V_mono (Kd.V_far (p := ⟨gb332, 1, none⟩) (Kd.V_far (p := ⟨gb332, 0, none⟩) (Kd.V_mono HO_331001.out (fun k_ hk => (⟨hk, hk.2.2.2.2.2.1⟩ : _ ∧ k_ ≠ gb332))) (fun _ hk => hk.2) (.slice A0_0 l0_0.length c0_0)) (fun _ hk => hk.2) (.slice A0_1 l0_1.length c0_1)) (fun _ hk => hk.1.1), b_ HB⟩
                 ·rw [if_neg c189] at H
                  have c189b0 : (t374 == x20_133) = false := beq_eq_false_iff_ne.mpr c189
                  have c189b1 : (t374 != x20_133) = true := bne_iff_ne.mpr c189
                  simp only [Option.some.injEq, Prod.mk.injEq] at H
                  obtain ⟨rfl, rfl, rfl⟩ := H
                  try go_wp2
                  replace HO_331000 := mk0 (Kd.V_drew HO_331000.out)
                  replace HO_331001 := mk0 (Kd.V_drew HO_331001.out)
                  replace HO_340000 := mk0 (Rd_ HO_340000.out)
                  replace HO_340001 := mk0 (Kd.Q_drew HO_340001.out)
                  replace BK330 := mk0 (bD_ BK330.out)
                  replace BK331 := mk0 (bD_ BK331.out)
                  replace BK332 := mk0 (bD_ BK332.out)
                  replace BK339 := mk0 (bD_ BK339.out)
                  replace BK341 := mk0 (bD_ BK341.out)
                  replace BK342 := mk0 (bD_ BK342.out)
                  replace HB := mk0 (b1_ HB.out)
                  refine start_ (n := 28) (S := fun w' => w'.cell? ⟨gb330, 0, none⟩ = some (.slice A0_0 l0_0.length c0_0) ∧ w'.cell? ⟨gb330, 1, none⟩ = some (.slice A0_1 l0_1.length c0_1)) (ds := []) (bt 28 0) (by kernel_rfl) rfl rfl ⟨(blk_cell BK330.out 0).trans rfl, (blk_cell BK330.out 1).trans rfl⟩ (fun hHeld => ?_); refine with_tabW quorumlaw5_step.tab29 quorumlaw5_step.bits29 (fun HT_ HW_ => ?_)
                  generalize wc.drew = w195 at HO_331000 HO_331001 HO_340000 HO_340001 BK330 BK331 BK332 BK339 BK341 BK342 HB hHeld ⊢
                  refine pq_ HT_.out 1 113 (bt 28 2) (h := ?_)
                  refine pq_ HT_.out 3 115 (bt 28 10) (h := ?_)
                  refine tq2_ HT_.out HW_.out 0 112 (bt 28 11) hHeld (h := ?_)
                  refine one_ (i := 2) (N := some 114) (bt 28 15) rfl rfl (one_of HT_.out (by kernel_rfl)) (by decide) (fun K hK => ?_)
                  refine goes_ Try.func35 (by kernel_rfl) rfl #[.int .i64 t373] (by rfl) rfl rfl (by (try simp only [List.map_toArray, List.map_cons, List.map_nil]); first | done | rfl | (simp only [List.length_drop, List.length_take]; rfl)) ?_
                  with_reducible refine (quorumlaw5_num.calls t373 t379 _ A184.out).mono ?_
                  rintro e w' ⟨rfl, ⟨nd, rfl⟩⟩
                  refine ⟨_, rfl, ?_⟩
                  refine hK.out _ _ ⟨(blk_cell BK330.out 0).trans rfl, (blk_cell BK330.out 1).trans rfl⟩ (fun hHeld => ?_)
                  clear hK K
                  refine norm_ (a' := ?_) ?_ ?_
                  rotate_left
                  ·show Act.put _ (some 114) _ = _
                   simp only [z_]
                   rfl
                  refine pq_ HT_.out 4 116 (bt 28 31) (h := ?_)
                  refine pq_ HT_.out 5 117 (bt 28 63) (h := ?_)
                  refine pq_ HT_.out 6 118 (bt 28 127) (h := ?_)
                  refine pq_ HT_.out 7 119 (bt 28 255) (h := ?_)
                  refine pq_ HT_.out 8 120 (bt 28 511) (h := ?_)
                  refine pq_ HT_.out 9 121 (bt 28 1023) (h := ?_)
                  refine pq_ HT_.out 10 122 (bt 28 2047) (h := ?_)
                  refine pq_ HT_.out 11 123 (bt 28 4095) (h := ?_)
                  refine pq_ HT_.out 13 125 (bt 28 12287) (h := ?_)
                  refine one_ (i := 12) (N := some 124) (bt 28 16383) rfl rfl (one_of HT_.out (by kernel_rfl)) (by decide) (fun K hK => ?_)
                  refine goes_ Try.func35 (by kernel_rfl) rfl #[.int .i64 t375] (by rfl) rfl rfl (by (try simp only [List.map_toArray, List.map_cons, List.map_nil]); first | done | rfl | (simp only [List.length_drop, List.length_take]; rfl)) ?_
                  with_reducible refine (quorumlaw5_num.calls t375 t380 _ A187.out).mono ?_
                  rintro e w' ⟨rfl, ⟨nd, rfl⟩⟩
                  refine ⟨_, rfl, ?_⟩
                  refine hK.out _ _ ⟨(blk_cell BK330.out 0).trans rfl, (blk_cell BK330.out 1).trans rfl⟩ (fun hHeld => ?_)
                  clear hK K
                  refine norm_ (a' := ?_) ?_ ?_
                  rotate_left
                  ·show Act.put _ (some 124) _ = _
                   simp only [z_]
                   rfl
                  refine pq_ HT_.out 14 126 (bt 28 32767) (h := ?_)
                  refine pq_ HT_.out 15 127 (bt 28 65535) (h := ?_)
                  refine pq_ HT_.out 16 128 (bt 28 131071) (h := ?_)
                  refine pq_ HT_.out 17 129 (bt 28 262143) (h := ?_)
                  refine pq_ HT_.out 18 130 (bt 28 524287) (h := ?_)
                  refine pq_ HT_.out 19 131 (bt 28 1048575) (h := ?_)
                  refine pq_ HT_.out 20 132 (bt 28 2097151) (h := ?_)
                  refine pq_ HT_.out 21 133 (bt 28 4194303) (h := ?_)
                  refine uq_ HT_.out 22 134 (bt 28 8388607) (h := ?_)
                  refine uq_ HT_.out 23 135 (bt 28 16777215) (h := ?_)
                  refine uq_ HT_.out 24 136 (bt 28 33554431) (h := ?_)
                  refine pq_ HT_.out 25 137 (bt 28 67108863) (h := ?_)
                  refine one_ (i := 26) (N := none) (bt 28 134217727) rfl rfl (one_of HT_.out (by kernel_rfl)) (by decide) (fun K hK => ?_)
                  have hs196 : w195.cell? ⟨gb332, 0, none⟩ = some (.slice none 0 0) := (blk_cell BK332.out 0).trans rfl
                  have hfs196 := blk_frozen BK332.out 0
                  have hns196_0 := NB330_332.out
                  have hns196_1 := NB331_332.out
                  have hns196_3 := NB339_332.out
                  have hns196_4 := NB341_332.out
                  have hns196_5 := NB342_332.out
                  have hms196_0 := NB332_330.out
                  have hms196_1 := NB332_331.out
                  have hms196_3 := NB332_339.out
                  have hms196_4 := NB332_341.out
                  have hms196_5 := NB332_342.out
                  have hs197 : w195.cell? ⟨gb332, 1, none⟩ = some (.slice none 0 0) := (blk_cell BK332.out 1).trans rfl
                  have hfs197 := blk_frozen BK332.out 1
                  have hns197_0 := NB330_332.out
                  have hns197_1 := NB331_332.out
                  have hns197_3 := NB339_332.out
                  have hns197_4 := NB341_332.out
                  have hns197_5 := NB342_332.out
                  have hms197_0 := NB332_330.out
                  have hms197_1 := NB332_331.out
                  have hms197_3 := NB332_339.out
                  have hms197_4 := NB332_341.out
                  have hms197_5 := NB332_342.out
                  refine skip_ (w1 := ?_) (by rfl) rfl ?_ ?_
                  rotate_left
                  ·go_simp
                   rfl
                  refine hK.out _ _ ⟨((cell_far (p := ⟨gb332, _, none⟩) NB330_332.out _).trans (((cell_far (p := ⟨gb332, _, none⟩) NB330_332.out _).trans (hHeld.1)))), ((cell_far (p := ⟨gb332, _, none⟩) NB330_332.out _).trans (((cell_far (p := ⟨gb332, _, none⟩) NB330_332.out _).trans (hHeld.2))))⟩ (fun hHeld => ?_)
                  clear hK K
                  refine pq_ HT_.out 27 5 (bt 28 268435455) (h := ?_)
                  refine done_ (done_of HT_.out (by kernel_rfl)) ?_
                  try go_wp2
                  refine bodyPost_ret (results_ct rfl _ _ gb332 56 #[.slice A0_0 l0_0.length c0_0, .slice A0_1 l0_1.length c0_1] (0, 0) _ rfl (pu_ (cs := #[.slice A0_0 l0_0.length c0_0, .slice none 0 0]) (pu_ (cs := #[.slice none 0 0, .slice none 0 0]) (h_ BK332))) Try.underlying56 rfl (by kernel_rfl)) rfl ?_
                  exact ⟨_, _, by first | rfl | (simp [errW_none, errW_some] <;> rfl) | (simp [*, errW_none, errW_some] <;> rfl), by (with_reducible repeat (first | apply Kd.V_alloc | apply Kd.V_drewN | apply Kd.V_drew)); exact Kd.V_mono (Kd.V_far (p := ⟨gb332, 1, none⟩) (Kd.V_far (p := ⟨gb332, 0, none⟩) (Kd.V_mono HO_331000.out (fun k_ hk => (⟨hk, hk.2.2.2.2.2.1⟩ : _ ∧ k_ ≠ gb332))) (fun _ hk => hk.2) (.slice A0_0 l0_0.length c0_0)) (fun _ hk => hk.2) (.slice A0_1 l0_1.length c0_1)) (fun _ hk => hk.1.1), by (with_reducible repeat (first | apply Kd.V_alloc | apply Kd.V_drewN | apply Kd.V_drew)); exact Kd.V_mono (Kd.V_far (p := ⟨gb332, 1, none⟩) (Kd.V_far (p := ⟨gb332, 0, none⟩) (Kd.V_mono HO_331001.out (fun k_ hk => (⟨hk, hk.2.2.2.2.2.1⟩ : _ ∧ k_ ≠ gb332))) (fun _ hk => hk.2) (.slice A0_0 l0_0.length c0_0)) (fun _ hk => hk.2) (.slice A0_1 l0_1.length c0_1)) (fun _ hk => hk.1.1), b_ HB⟩
                ·rw [if_neg c188] at H
                 have c188b0 : (t380 == x19_133) = false := beq_eq_false_iff_ne.mpr c188
                 have c188b1 : (t380 != x19_133) = true := bne_iff_ne.mpr c188
                 simp only [Option.some.injEq, Prod.mk.injEq] at H
                 obtain ⟨rfl, rfl, rfl⟩ := H
                 try go_wp2
                 replace HO_331000 := mk0 (Kd.V_drew HO_331000.out)
                 replace HO_331001 := mk0 (Kd.V_drew HO_331001.out)
                 replace HO_340000 := mk0 (Rd_ HO_340000.out)
                 replace HO_340001 := mk0 (Kd.Q_drew HO_340001.out)
                 replace BK330 := mk0 (bD_ BK330.out)
                 replace BK331 := mk0 (bD_ BK331.out)
                 replace BK332 := mk0 (bD_ BK332.out)
                 replace BK339 := mk0 (bD_ BK339.out)
                 replace BK341 := mk0 (bD_ BK341.out)
                 replace BK342 := mk0 (bD_ BK342.out)
                 replace HB := mk0 (b1_ HB.out)
                 refine start_ (n := 28) (S := fun w' => w'.cell? ⟨gb330, 0, none⟩ = some (.slice A0_0 l0_0.length c0_0) ∧ w'.cell? ⟨gb330, 1, none⟩ = some (.slice A0_1 l0_1.length c0_1)) (ds := []) (bt 28 0) (by kernel_rfl) rfl rfl ⟨(blk_cell BK330.out 0).trans rfl, (blk_cell BK330.out 1).trans rfl⟩ (fun hHeld => ?_); refine with_tabW quorumlaw5_step.tab29 quorumlaw5_step.bits29 (fun HT_ HW_ => ?_)
                 generalize wc.drew = w198 at HO_331000 HO_331001 HO_340000 HO_340001 BK330 BK331 BK332 BK339 BK341 BK342 HB hHeld ⊢
                 refine pq_ HT_.out 1 113 (bt 28 2) (h := ?_)
                 refine pq_ HT_.out 3 115 (bt 28 10) (h := ?_)
                 refine tq2_ HT_.out HW_.out 0 112 (bt 28 11) hHeld (h := ?_)
                 refine one_ (i := 2) (N := some 114) (bt 28 15) rfl rfl (one_of HT_.out (by kernel_rfl)) (by decide) (fun K hK => ?_)
                 refine goes_ Try.func35 (by kernel_rfl) rfl #[.int .i64 t373] (by rfl) rfl rfl (by (try simp only [List.map_toArray, List.map_cons, List.map_nil]); first | done | rfl | (simp only [List.length_drop, List.length_take]; rfl)) ?_
                 with_reducible refine (quorumlaw5_num.calls t373 t379 _ A184.out).mono ?_
                 rintro e w' ⟨rfl, ⟨nd, rfl⟩⟩
                 refine ⟨_, rfl, ?_⟩
                 refine hK.out _ _ ⟨(blk_cell BK330.out 0).trans rfl, (blk_cell BK330.out 1).trans rfl⟩ (fun hHeld => ?_)
                 clear hK K
                 refine norm_ (a' := ?_) ?_ ?_
                 rotate_left
                 ·show Act.put _ (some 114) _ = _
                  simp only [z_]
                  rfl
                 refine pq_ HT_.out 4 116 (bt 28 31) (h := ?_)
                 refine pq_ HT_.out 5 117 (bt 28 63) (h := ?_)
                 refine pq_ HT_.out 6 118 (bt 28 127) (h := ?_)
                 refine pq_ HT_.out 7 119 (bt 28 255) (h := ?_)
                 refine pq_ HT_.out 8 120 (bt 28 511) (h := ?_)
                 refine pq_ HT_.out 9 121 (bt 28 1023) (h := ?_)
                 refine pq_ HT_.out 10 122 (bt 28 2047) (h := ?_)
                 refine pq_ HT_.out 11 123 (bt 28 4095) (h := ?_)
                 refine pq_ HT_.out 13 125 (bt 28 12287) (h := ?_)
                 refine one_ (i := 12) (N := some 124) (bt 28 16383) rfl rfl (one_of HT_.out (by kernel_rfl)) (by decide) (fun K hK => ?_)
                 refine goes_ Try.func35 (by kernel_rfl) rfl #[.int .i64 t375] (by rfl) rfl rfl (by (try simp only [List.map_toArray, List.map_cons, List.map_nil]); first | done | rfl | (simp only [List.length_drop, List.length_take]; rfl)) ?_
                 with_reducible refine (quorumlaw5_num.calls t375 t380 _ A187.out).mono ?_
                 rintro e w' ⟨rfl, ⟨nd, rfl⟩⟩
                 refine ⟨_, rfl, ?_⟩
                 refine hK.out _ _ ⟨(blk_cell BK330.out 0).trans rfl, (blk_cell BK330.out 1).trans rfl⟩ (fun hHeld => ?_)
                 clear hK K
                 refine norm_ (a' := ?_) ?_ ?_
                 rotate_left
                 ·show Act.put _ (some 124) _ = _
                  simp only [z_]
                  rfl
                 refine pq_ HT_.out 14 126 (bt 28 32767) (h := ?_)
                 refine pq_ HT_.out 15 127 (bt 28 65535) (h := ?_)
                 refine pq_ HT_.out 16 128 (bt 28 131071) (h := ?_)
                 refine uq_ HT_.out 17 129 (bt 28 262143) (h := ?_)
                 refine uq_ HT_.out 18 130 (bt 28 524287) (h := ?_)
                 refine uq_ HT_.out 19 131 (bt 28 1048575) (h := ?_)
                 refine pq_ HT_.out 20 132 (bt 28 2097151) (h := ?_)
                 refine pq_ HT_.out 21 133 (bt 28 4194303) (h := ?_)
                 refine uq_ HT_.out 22 134 (bt 28 8388607) (h := ?_)
                 refine uq_ HT_.out 23 135 (bt 28 16777215) (h := ?_)
                 refine uq_ HT_.out 24 136 (bt 28 33554431) (h := ?_)
                 refine pq_ HT_.out 25 137 (bt 28 67108863) (h := ?_)
                 refine one_ (i := 26) (N := none) (bt 28 134217727) rfl rfl (one_of HT_.out (by kernel_rfl)) (by decide) (fun K hK => ?_)
                 have hs199 : w198.cell? ⟨gb332, 0, none⟩ = some (.slice none 0 0) := (blk_cell BK332.out 0).trans rfl
                 have hfs199 := blk_frozen BK332.out 0
                 have hns199_0 := NB330_332.out
                 have hns199_1 := NB331_332.out
                 have hns199_3 := NB339_332.out
                 have hns199_4 := NB341_332.out
                 have hns199_5 := NB342_332.out
                 have hms199_0 := NB332_330.out
                 have hms199_1 := NB332_331.out
                 have hms199_3 := NB332_339.out
                 have hms199_4 := NB332_341.out
                 have hms199_5 := NB332_342.out
                 have hs200 : w198.cell? ⟨gb332, 1, none⟩ = some (.slice none 0 0) := (blk_cell BK332.out 1).trans rfl
                 have hfs200 := blk_frozen BK332.out 1
                 have hns200_0 := NB330_332.out
                 have hns200_1 := NB331_332.out
                 have hns200_3 := NB339_332.out
                 have hns200_4 := NB341_332.out
                 have hns200_5 := NB342_332.out
                 have hms200_0 := NB332_330.out
                 have hms200_1 := NB332_331.out
                 have hms200_3 := NB332_339.out
                 have hms200_4 := NB332_341.out
                 have hms200_5 := NB332_342.out
                 refine skip_ (w1 := ?_) (by rfl) rfl ?_ ?_
                 rotate_left
                 ·go_simp
                  rfl
                 refine hK.out _ _ ⟨((cell_far (p := ⟨gb332, _, none⟩) NB330_332.out _).trans (((cell_far (p := ⟨gb332, _, none⟩) NB330_332.out _).trans (hHeld.1)))), ((cell_far (p := ⟨gb332, _, none⟩) NB330_332.out _).trans (((cell_far (p := ⟨gb332, _, none⟩) NB330_332.out _).trans (hHeld.2))))⟩ (fun hHeld => ?_)
                 clear hK K
                 refine pq_ HT_.out 27 5 (bt 28 268435455) (h := ?_)
                 refine done_ (done_of HT_.out (by kernel_rfl)) ?_
                 try go_wp2
                 refine bodyPost_ret (results_ct rfl _ _ gb332 56 #[.slice A0_0 l0_0.length c0_0, .slice A0_1 l0_1.length c0_1] (0, 0) _ rfl (pu_ (cs := #[.slice A0_0 l0_0.length c0_0, .slice none 0 0]) (pu_ (cs := #[.slice none 0 0, .slice none 0 0]) (h_ BK332))) Try.underlying56 rfl (by kernel_rfl)) rfl ?_
                 exact ⟨_, _, by first | rfl | (simp [errW_none, errW_some] <;> rfl) | (simp [*, errW_none, errW_some] <;> rfl), by (with_reducible repeat (first | apply Kd.V_alloc | apply Kd.V_drewN | apply Kd.V_drew)); exact Kd.V_mono (Kd.V_far (p := ⟨gb332, 1, none⟩) (Kd.V_far (p := ⟨gb332, 0, none⟩) (Kd.V_mono HO_331000.out (fun k_ hk => (⟨hk, hk.2.2.2.2.2.1⟩ : _ ∧ k_ ≠ gb332))) (fun _ hk => hk.2) (.slice A0_0 l0_0.length c0_0)) (fun _ hk => hk.2) (.slice A0_1 l0_1.length c0_1)) (fun _ hk => hk.1.1), by (with_reducible repeat (first | apply Kd.V_alloc | apply Kd.V_drewN | apply Kd.V_drew)); exact Kd.V_mono (Kd.V_far (p := ⟨gb332, 1, none⟩) (Kd.V_far (p := ⟨gb332, 0, none⟩) (Kd.V_mono HO_331001.out (fun k_ hk => (⟨hk, hk.2.2.2.2.2.1⟩ : _ ∧ k_ ≠ gb332))) (fun _ hk => hk.2) (.slice A0_0 l0_0.length c0_0)) (fun _ hk => hk.2) (.slice A0_1 l0_1.length c0_1)) (fun _ hk => hk.1.1), b_ HB⟩
               ·rw [if_neg c186] at H
                have c186b0 : (t372.toList == x18_133.toList) = false := beq_eq_false_iff_ne.mpr c186
                have c186b1 : (t372.toList != x18_133.toList) = true := bne_iff_ne.mpr c186
                simp only [Option.some.injEq, Prod.mk.injEq] at H
                obtain ⟨rfl, rfl, rfl⟩ := H
                try go_wp2
                replace HO_331000 := mk0 (Kd.V_drew HO_331000.out)
                replace HO_331001 := mk0 (Kd.V_drew HO_331001.out)
                replace HO_340000 := mk0 (Rd_ HO_340000.out)
                replace HO_340001 := mk0 (Kd.Q_drew HO_340001.out)
                replace BK330 := mk0 (bD_ BK330.out)
                replace BK331 := mk0 (bD_ BK331.out)
                replace BK332 := mk0 (bD_ BK332.out)
                replace BK339 := mk0 (bD_ BK339.out)
                replace BK341 := mk0 (bD_ BK341.out)
                replace BK342 := mk0 (bD_ BK342.out)
                replace HB := mk0 (b1_ HB.out)
                refine start_ (n := 28) (S := fun w' => w'.cell? ⟨gb330, 0, none⟩ = some (.slice A0_0 l0_0.length c0_0) ∧ w'.cell? ⟨gb330, 1, none⟩ = some (.slice A0_1 l0_1.length c0_1)) (ds := []) (bt 28 0) (by kernel_rfl) rfl rfl ⟨(blk_cell BK330.out 0).trans rfl, (blk_cell BK330.out 1).trans rfl⟩ (fun hHeld => ?_); refine with_tabW quorumlaw5_step.tab29 quorumlaw5_step.bits29 (fun HT_ HW_ => ?_)
                generalize wc.drew = w201 at HO_331000 HO_331001 HO_340000 HO_340001 BK330 BK331 BK332 BK339 BK341 BK342 HB hHeld ⊢
                refine pq_ HT_.out 1 113 (bt 28 2) (h := ?_)
                refine pq_ HT_.out 3 115 (bt 28 10) (h := ?_)
                refine tq2_ HT_.out HW_.out 0 112 (bt 28 11) hHeld (h := ?_)
                refine one_ (i := 2) (N := some 114) (bt 28 15) rfl rfl (one_of HT_.out (by kernel_rfl)) (by decide) (fun K hK => ?_)
                refine goes_ Try.func35 (by kernel_rfl) rfl #[.int .i64 t373] (by rfl) rfl rfl (by (try simp only [List.map_toArray, List.map_cons, List.map_nil]); first | done | rfl | (simp only [List.length_drop, List.length_take]; rfl)) ?_
                with_reducible refine (quorumlaw5_num.calls t373 t379 _ A184.out).mono ?_
                rintro e w' ⟨rfl, ⟨nd, rfl⟩⟩
                refine ⟨_, rfl, ?_⟩
                refine hK.out _ _ ⟨(blk_cell BK330.out 0).trans rfl, (blk_cell BK330.out 1).trans rfl⟩ (fun hHeld => ?_)
                clear hK K
                refine norm_ (a' := ?_) ?_ ?_
                rotate_left
                ·show Act.put _ (some 114) _ = _
                 simp only [z_]
                 rfl
                refine pq_ HT_.out 4 116 (bt 28 31) (h := ?_)
                refine pq_ HT_.out 5 117 (bt 28 63) (h := ?_)
                refine pq_ HT_.out 6 118 (bt 28 127) (h := ?_)
                refine pq_ HT_.out 7 119 (bt 28 255) (h := ?_)
                refine pq_ HT_.out 8 120 (bt 28 511) (h := ?_)
                refine pq_ HT_.out 9 121 (bt 28 1023) (h := ?_)
                refine pq_ HT_.out 10 122 (bt 28 2047) (h := ?_)
                refine uq_ HT_.out 11 123 (bt 28 4095) (h := ?_)
                refine uq_ HT_.out 12 124 (bt 28 8191) (h := ?_)
                refine uq_ HT_.out 13 125 (bt 28 16383) (h := ?_)
                refine uq_ HT_.out 14 126 (bt 28 32767) (h := ?_)
                refine pq_ HT_.out 15 127 (bt 28 65535) (h := ?_)
                refine pq_ HT_.out 16 128 (bt 28 131071) (h := ?_)
                refine uq_ HT_.out 17 129 (bt 28 262143) (h := ?_)
                refine uq_ HT_.out 18 130 (bt 28 524287) (h := ?_)
                refine uq_ HT_.out 19 131 (bt 28 1048575) (h := ?_)
                refine pq_ HT_.out 20 132 (bt 28 2097151) (h := ?_)
                refine pq_ HT_.out 21 133 (bt 28 4194303) (h := ?_)
                refine uq_ HT_.out 22 134 (bt 28 8388607) (h := ?_)
                refine uq_ HT_.out 23 135 (bt 28 16777215) (h := ?_)
                refine uq_ HT_.out 24 136 (bt 28 33554431) (h := ?_)
                refine pq_ HT_.out 25 137 (bt 28 67108863) (h := ?_)
                refine one_ (i := 26) (N := none) (bt 28 134217727) rfl rfl (one_of HT_.out (by kernel_rfl)) (by decide) (fun K hK => ?_)
                have hs202 : w201.cell? ⟨gb332, 0, none⟩ = some (.slice none 0 0) := (blk_cell BK332.out 0).trans rfl
                have hfs202 := blk_frozen BK332.out 0
                have hns202_0 := NB330_332.out
                have hns202_1 := NB331_332.out
                have hns202_3 := NB339_332.out
                have hns202_4 := NB341_332.out
                have hns202_5 := NB342_332.out
                have hms202_0 := NB332_330.out
                have hms202_1 := NB332_331.out
                have hms202_3 := NB332_339.out
                have hms202_4 := NB332_341.out
                have hms202_5 := NB332_342.out
                have hs203 : w201.cell? ⟨gb332, 1, none⟩ = some (.slice none 0 0) := (blk_cell BK332.out 1).trans rfl
                have hfs203 := blk_frozen BK332.out 1
                have hns203_0 := NB330_332.out
                have hns203_1 := NB331_332.out
                have hns203_3 := NB339_332.out
                have hns203_4 := NB341_332.out
                have hns203_5 := NB342_332.out
                have hms203_0 := NB332_330.out
                have hms203_1 := NB332_331.out
                have hms203_3 := NB332_339.out
                have hms203_4 := NB332_341.out
                have hms203_5 := NB332_342.out
                refine skip_ (w1 := ?_) (by rfl) rfl ?_ ?_
                rotate_left
                ·go_simp
                 rfl
                refine hK.out _ _ ⟨((cell_far (p := ⟨gb332, _, none⟩) NB330_332.out _).trans (((cell_far (p := ⟨gb332, _, none⟩) NB330_332.out _).trans (hHeld.1)))), ((cell_far (p := ⟨gb332, _, none⟩) NB330_332.out _).trans (((cell_far (p := ⟨gb332, _, none⟩) NB330_332.out _).trans (hHeld.2))))⟩ (fun hHeld => ?_)
                clear hK K
                refine pq_ HT_.out 27 5 (bt 28 268435455) (h := ?_)
                refine done_ (done_of HT_.out (by kernel_rfl)) ?_
                try go_wp2
                refine bodyPost_ret (results_ct rfl _ _ gb332 56 #[.slice A0_0 l0_0.length c0_0, .slice A0_1 l0_1.length c0_1] (0, 0) _ rfl (pu_ (cs := #[.slice A0_0 l0_0.length c0_0, .slice none 0 0]) (pu_ (cs := #[.slice none 0 0, .slice none 0 0]) (h_ BK332))) Try.underlying56 rfl (by kernel_rfl)) rfl ?_
                exact ⟨_, _, by first | rfl | (simp [errW_none, errW_some] <;> rfl) | (simp [*, errW_none, errW_some] <;> rfl), by (with_reducible repeat (first | apply Kd.V_alloc | apply Kd.V_drewN | apply Kd.V_drew)); exact Kd.V_mono (Kd.V_far (p := ⟨gb332, 1, none⟩) (Kd.V_far (p := ⟨gb332, 0, none⟩) (Kd.V_mono HO_331000.out (fun k_ hk => (⟨hk, hk.2.2.2.2.2.1⟩ : _ ∧ k_ ≠ gb332))) (fun _ hk => hk.2) (.slice A0_0 l0_0.length c0_0)) (fun _ hk => hk.2) (.slice A0_1 l0_1.length c0_1)) (fun _ hk => hk.1.1), by (with_reducible repeat (first | apply Kd.V_alloc | apply Kd.V_drewN | apply Kd.V_drew)); exact Kd.V_mono (Kd.V_far (p := ⟨gb332, 1, none⟩) (Kd.V_far (p := ⟨gb332, 0, none⟩) (Kd.V_mono HO_331001.out (fun k_ hk => (⟨hk, hk.2.2.2.2.2.1⟩ : _ ∧ k_ ≠ gb332))) (fun _ hk => hk.2) (.slice A0_0 l0_0.length c0_0)) (fun _ hk => hk.2) (.slice A0_1 l0_1.length c0_1)) (fun _ hk => hk.1.1), b_ HB⟩
              ·rw [if_neg c185] at H
               have c185b0 : (t379 == x8_133) = false := beq_eq_false_iff_ne.mpr c185
               have c185b1 : (t379 != x8_133) = true := bne_iff_ne.mpr c185
               simp only [Option.some.injEq, Prod.mk.injEq] at H
               obtain ⟨rfl, rfl, rfl⟩ := H
               try go_wp2
               replace HO_331000 := mk0 (Kd.V_drew HO_331000.out)
               replace HO_331001 := mk0 (Kd.V_drew HO_331001.out)
               replace HO_340000 := mk0 (Rd_ HO_340000.out)
               replace HO_340001 := mk0 (Kd.Q_drew HO_340001.out)
               replace BK330 := mk0 (bD_ BK330.out)
               replace BK331 := mk0 (bD_ BK331.out)
               replace BK332 := mk0 (bD_ BK332.out)
               replace BK339 := mk0 (bD_ BK339.out)
               replace BK341 := mk0 (bD_ BK341.out)
               replace BK342 := mk0 (bD_ BK342.out)
               replace HB := mk0 (b1_ HB.out)
               refine start_ (n := 28) (S := fun w' => w'.cell? ⟨gb330, 0, none⟩ = some (.slice A0_0 l0_0.length c0_0) ∧ w'.cell? ⟨gb330, 1, none⟩ = some (.slice A0_1 l0_1.length c0_1)) (ds := []) (bt 28 0) (by kernel_rfl) rfl rfl ⟨(blk_cell BK330.out 0).trans rfl, (blk_cell BK330.out 1).trans rfl⟩ (fun hHeld => ?_); refine with_tabW quorumlaw5_step.tab29 quorumlaw5_step.bits29 (fun HT_ HW_ => ?_)
               generalize wc.drew = w204 at HO_331000 HO_331001 HO_340000 HO_340001 BK330 BK331 BK332 BK339 BK341 BK342 HB hHeld ⊢
               refine pq_ HT_.out 1 113 (bt 28 2) (h := ?_)
               refine pq_ HT_.out 3 115 (bt 28 10) (h := ?_)
               refine tq2_ HT_.out HW_.out 0 112 (bt 28 11) hHeld (h := ?_)
               refine one_ (i := 2) (N := some 114) (bt 28 15) rfl rfl (one_of HT_.out (by kernel_rfl)) (by decide) (fun K hK => ?_)
               refine goes_ Try.func35 (by kernel_rfl) rfl #[.int .i64 t373] (by rfl) rfl rfl (by (try simp only [List.map_toArray, List.map_cons, List.map_nil]); first | done | rfl | (simp only [List.length_drop, List.length_take]; rfl)) ?_
               with_reducible refine (quorumlaw5_num.calls t373 t379 _ A184.out).mono ?_
               rintro e w' ⟨rfl, ⟨nd, rfl⟩⟩
               refine ⟨_, rfl, ?_⟩
               refine hK.out _ _ ⟨(blk_cell BK330.out 0).trans rfl, (blk_cell BK330.out 1).trans rfl⟩ (fun hHeld => ?_)
               clear hK K
               refine norm_ (a' := ?_) ?_ ?_
               rotate_left
               ·show Act.put _ (some 114) _ = _
                simp only [z_]
                rfl
               refine pq_ HT_.out 4 116 (bt 28 31) (h := ?_)
               refine pq_ HT_.out 5 117 (bt 28 63) (h := ?_)
               refine uq_ HT_.out 6 118 (bt 28 127) (h := ?_)
               refine uq_ HT_.out 7 119 (bt 28 255) (h := ?_)
               refine uq_ HT_.out 8 120 (bt 28 511) (h := ?_)
               refine pq_ HT_.out 9 121 (bt 28 1023) (h := ?_)
               refine pq_ HT_.out 10 122 (bt 28 2047) (h := ?_)
               refine uq_ HT_.out 11 123 (bt 28 4095) (h := ?_)
               refine uq_ HT_.out 12 124 (bt 28 8191) (h := ?_)
               refine uq_ HT_.out 13 125 (bt 28 16383) (h := ?_)
               refine uq_ HT_.out 14 126 (bt 28 32767) (h := ?_)
               refine pq_ HT_.out 15 127 (bt 28 65535) (h := ?_)
               refine pq_ HT_.out 16 128 (bt 28 131071) (h := ?_)
               refine uq_ HT_.out 17 129 (bt 28 262143) (h := ?_)
               refine uq_ HT_.out 18 130 (bt 28 524287) (h := ?_)
               refine uq_ HT_.out 19 131 (bt 28 1048575) (h := ?_)
               refine pq_ HT_.out 20 132 (bt 28 2097151) (h := ?_)
               refine pq_ HT_.out 21 133 (bt 28 4194303) (h := ?_)
               refine uq_ HT_.out 22 134 (bt 28 8388607) (h := ?_)
               refine uq_ HT_.out 23 135 (bt 28 16777215) (h := ?_)
               refine uq_ HT_.out 24 136 (bt 28 33554431) (h := ?_)
               refine pq_ HT_.out 25 137 (bt 28 67108863) (h := ?_)
               refine one_ (i := 26) (N := none) (bt 28 134217727) rfl rfl (one_of HT_.out (by kernel_rfl)) (by decide) (fun K hK => ?_)
               have hs205 : w204.cell? ⟨gb332, 0, none⟩ = some (.slice none 0 0) := (blk_cell BK332.out 0).trans rfl
               have hfs205 := blk_frozen BK332.out 0
               have hns205_0 := NB330_332.out
               have hns205_1 := NB331_332.out
               have hns205_3 := NB339_332.out
               have hns205_4 := NB341_332.out
               have hns205_5 := NB342_332.out
               have hms205_0 := NB332_330.out
               have hms205_1 := NB332_331.out
               have hms205_3 := NB332_339.out
               have hms205_4 := NB332_341.out
               have hms205_5 := NB332_342.out
               have hs206 : w204.cell? ⟨gb332, 1, none⟩ = some (.slice none 0 0) := (blk_cell BK332.out 1).trans rfl
               have hfs206 := blk_frozen BK332.out 1
               have hns206_0 := NB330_332.out
               have hns206_1 := NB331_332.out
               have hns206_3 := NB339_332.out
               have hns206_4 := NB341_332.out
               have hns206_5 := NB342_332.out
               have hms206_0 := NB332_330.out
               have hms206_1 := NB332_331.out
               have hms206_3 := NB332_339.out
               have hms206_4 := NB332_341.out
               have hms206_5 := NB332_342.out
               refine skip_ (w1 := ?_) (by rfl) rfl ?_ ?_
               rotate_left
               ·go_simp
                rfl
               refine hK.out _ _ ⟨((cell_far (p := ⟨gb332, _, none⟩) NB330_332.out _).trans (((cell_far (p := ⟨gb332, _, none⟩) NB330_332.out _).trans (hHeld.1)))), ((cell_far (p := ⟨gb332, _, none⟩) NB330_332.out _).trans (((cell_far (p := ⟨gb332, _, none⟩) NB330_332.out _).trans (hHeld.2))))⟩ (fun hHeld => ?_)
               clear hK K
               refine pq_ HT_.out 27 5 (bt 28 268435455) (h := ?_)
               refine done_ (done_of HT_.out (by kernel_rfl)) ?_
               try go_wp2
               refine bodyPost_ret (results_ct rfl _ _ gb332 56 #[.slice A0_0 l0_0.length c0_0, .slice A0_1 l0_1.length c0_1] (0, 0) _ rfl (pu_ (cs := #[.slice A0_0 l0_0.length c0_0, .slice none 0 0]) (pu_ (cs := #[.slice none 0 0, .slice none 0 0]) (h_ BK332))) Try.underlying56 rfl (by kernel_rfl)) rfl ?_
               exact ⟨_, _, by first | rfl | (simp [errW_none, errW_some] <;> rfl) | (simp [*, errW_none, errW_some] <;> rfl), by (with_reducible repeat (first | apply Kd.V_alloc | apply Kd.V_drewN | apply Kd.V_drew)); exact Kd.V_mono (Kd.V_far (p := ⟨gb332, 1, none⟩) (Kd.V_far (p := ⟨gb332, 0, none⟩) (Kd.V_mono HO_331000.out (fun k_ hk => (⟨hk, hk.2.2.2.2.2.1⟩ : _ ∧ k_ ≠ gb332))) (fun _ hk => hk.2) (.slice A0_0 l0_0.length c0_0)) (fun _ hk => hk.2) (.slice A0_1 l0_1.length c0_1)) (fun _ hk => hk.1.1), by (with_reducible repeat (first | apply Kd.V_alloc | apply Kd.V_drewN | apply Kd.V_drew)); exact Kd.V_mono (Kd.V_far (p := ⟨gb332, 1, none⟩) (Kd.V_far (p := ⟨gb332, 0, none⟩) (Kd.V_mono HO_331001.out (fun k_ hk => (⟨hk, hk.2.2.2.2.2.1⟩ : _ ∧ k_ ≠ gb332))) (fun _ hk => hk.2) (.slice A0_0 l0_0.length c0_0)) (fun _ hk => hk.2) (.slice A0_1 l0_1.length c0_1)) (fun _ hk => hk.1.1), b_ HB⟩
          ·rw [if_neg c131] at H
           have c131b0 : (t343 == 8) = false := beq_eq_false_iff_ne.mpr c131
           have c131b1 : (t343 != 8) = true := bne_iff_ne.mpr c131
           replace H := Option.bind_eq_some_iff.mp H
           obtain ⟨⟨t382, t385, t388, t389⟩, A2070, H⟩ := H
           try dsimp only at H
           have A207 := mk0 A2070
           clear A2070
           by_cases c208 : t340 = true
           ·subst c208
            rw [if_pos rfl] at H
            replace H := Option.bind_eq_some_iff.mp H
            obtain ⟨⟨t390, t393, t396, t397⟩, A2090, H⟩ := H
            try dsimp only at H
            have A209 := mk0 A2090
            clear A2090
            have H' := mk0 H
            clear H
            have hnb210 := NB339_330.out
            have hnc210 := NB330_339.out
            have hnb211 := NB339_331.out
            have hnc211 := NB331_339.out
            have hnb212 := NB339_332.out
            have hnc212 := NB332_339.out
            have hnb213 := NB339_341.out
            have hnc213 := NB341_339.out
            have hnb214 := NB339_342.out
            have hnc214 := NB342_339.out
            obtain ⟨hcz215_0, hcz215_1, hfz215_0, hfz215_1⟩ := c2_ BK339
            have hnb216 := NB331_330.out
            have hnc216 := NB330_331.out
            have hnb217 := NB331_332.out
            have hnc217 := NB332_331.out
            have hnb218 := NB331_341.out
            have hnc218 := NB341_331.out
            have hnb219 := NB331_342.out
            have hnc219 := NB342_331.out
            obtain ⟨hcz220_0, hcz220_1, hcz220_2, hfz220_0, hfz220_1, hfz220_2⟩ := c3_ BK331
            go_wp2_with (first | ((with_reducible refine gate_callee (f := 36) rfl ?_); refine gL_ (some 32) Try.func36 #[.agg #[.slice Ao15 t333.length co15, .slice Ao20 t336.length co20], .string a1_2] (h := ?_); (with_reducible refine (page_Add.calls kj79 _ _ t333 _ _ t336 a1_2 t382 t385 t388 t389 _ ?side1 ?side2 ?side3 ?side4 A207.out).mono ?_); (case side1 => exact cr_ HO_340000); (case side2 => exact (Kd.R_reads' HO_340000.out).2.1); (case side3 => exact cq_ HO_340001); (case side4 => exact (Kd.Q_reads' HO_340001.out).2.1); rintro e w221 ⟨v383, v386, rfl, ho0, ho1, hb⟩; refine ⟨_, rfl, ?_⟩; have n4_ := mk0 (Kd.R_lower (Kd.R_new' (Kd.R_newM (M := fun k_ => (w.heap.size ≤ k_)) ho0 (bz_ (b_ HB)) (fun k_ h_ => h_)) (Kd.R_lt (r_ HO_340000))) (bz_ (b_ HB))); have n5_ := mk0 (Kd.Q_lower (Kd.Q_new' (Kd.Q_newM (M := fun k_ => (w.heap.size ≤ k_)) ho1 (bz_ (b_ HB)) (fun k_ h_ => h_)) (Kd.Q_lt (q_ HO_340001))) (bz_ (b_ HB))); replace HO_331000 := mk0 (Kd.V_mono (Kd.V_told (Kd.V_told (Kd.V_old (v_ HO_331000) hb) (Kd.R_base ho0)) (Kd.Q_base ho1)) (fun _ h_ => h_.1)); replace HO_331001 := mk0 (Kd.V_mono (Kd.V_told (Kd.V_told (Kd.V_old (v_ HO_331001) hb) (Kd.R_base ho0)) (Kd.Q_base ho1)) (fun _ h_ => h_.1)); replace HO_340000 := mk0 (Kd.R_elder' (r_ HO_340000) (Kd.R_base ho0) hb); replace HO_340001 := mk0 (Kd.Q_elder' (q_ HO_340001) (Kd.Q_base ho1) hb); replace BK330 := mk0 (u_ BK330 hb); replace BK331 := mk0 (u_ BK331 hb); replace BK332 := mk0 (u_ BK332 hb); replace BK339 := mk0 (u_ BK339 hb); replace BK341 := mk0 (u_ BK341 hb); replace BK342 := mk0 (u_ BK342 hb); replace HB := mk0 (bt_ (b_ HB) hb); have HO384 := n4_; have HO387 := n5_; clear n4_ n5_; (try clear hb); (try clear ho0); (try clear ho1); obtain ⟨Ao222, co222, eo222⟩ := Kd.R_slice HO384.out; subst eo222; have hnb223 := NB341_330.out; have hnc223 := NB330_341.out; have hnb224 := NB341_332.out; have hnc224 := NB332_341.out; have hnb225 := NB341_342.out; have hnc225 := NB342_341.out; obtain ⟨hcz226_0, hcz226_1, hfz226_0, hfz226_1⟩ := c2_ BK341; obtain ⟨Ao227, co227, eo227, _⟩ := Kd.Q_slice HO387.out; subst eo227; have hnb228 := NB330_332.out; have hnc228 := NB332_330.out; have hnb229 := NB330_342.out; have hnc229 := NB342_330.out; obtain ⟨hcz230_0, hcz230_1, hfz230_0, hfz230_1⟩ := c2_ BK330; obtain ⟨hcz231_0, hcz231_1, hcz231_2, hfz231_0, hfz231_1, hfz231_2⟩ := c3_ BK331) | ((with_reducible refine gate_callee (f := 85) rfl ?_); refine gL_ (some 41) Try.func85 #[.agg #[.slice A0_0 l0_0.length c0_0, .slice A0_1 l0_1.length c0_1], .string a1_2] (h := ?_); (with_reducible refine (quorumref4_Add.calls kj79 _ _ l0_0 _ _ l0_1 a1_2 t390 t393 t396 t397 _ ?side1 ?side2 ?side3 ?side4 A209.out).mono ?_); (case side1 => refine (Kd.V_reads' (e := 9) (base := w.heap.size) (ok := fun k_ => ((((((P0_0_ k_ ∨ P0_1_ k_) ∨ w.heap.size ≤ k_)) ∧ (some k_ ≠ (.slice Ao15 t333.length co15 : Value).ownBlock ∧ (some k_ ≠ (.slice Ao20 t336.length co20 : Value).ownBlock ∧ (k_ ≠ gb330 ∧ (k_ ≠ gb331 ∧ (k_ ≠ gb332 ∧ (k_ ≠ gb339 ∧ (k_ ≠ gb341 ∧ k_ ≠ gb342)))))))) ∧ some k_ ≠ (.slice Ao222 t382.length co222 : Value).ownBlock) ∧ some k_ ≠ (.slice Ao227 t385.length co227 : Value).ownBlock)) (n := l0_0.length) (c := c0_0) ?_).2.2; exact (v2_ (Kd.V_mono (Kd.V_far (p := ⟨gb341, 1, none⟩) (Kd.V_far (p := ⟨gb341, 0, none⟩) (Kd.V_mono HO_331000.out (fun k_ hk => (⟨hk, hk.1.1.2.2.2.2.2.2.2.1⟩ : _ ∧ k_ ≠ gb341))) (fun _ hk => hk.2) (.slice Ao222 t382.length co222)) (fun _ hk => hk.2) (.slice Ao227 t385.length co227)) (fun _ h_ => h_.1)))); (case side2 => exact (Kd.V_reads' HO_331000.out).2.1); (case side3 => refine (Kd.V_reads' (e := 3) (base := w.heap.size) (ok := fun k_ => ((((((P0_0_ k_ ∨ P0_1_ k_) ∨ w.heap.size ≤ k_)) ∧ (some k_ ≠ (.slice Ao15 t333.length co15 : Value).ownBlock ∧ (some k_ ≠ (.slice Ao20 t336.length co20 : Value).ownBlock ∧ (k_ ≠ gb330 ∧ (k_ ≠ gb331 ∧ (k_ ≠ gb332 ∧ (k_ ≠ gb339 ∧ (k_ ≠ gb341 ∧ k_ ≠ gb342)))))))) ∧ some k_ ≠ (.slice Ao222 t382.length co222 : Value).ownBlock) ∧ some k_ ≠ (.slice Ao227 t385.length co227 : Value).ownBlock)) (n := l0_1.length) (c := c0_1) ?_).2.2; exact (v2_ (Kd.V_mono (Kd.V_far (p := ⟨gb341, 1, none⟩) (Kd.V_far (p := ⟨gb341, 0, none⟩) (Kd.V_mono HO_331001.out (fun k_ hk => (⟨hk, hk.1.1.2.2.2.2.2.2.2.1⟩ : _ ∧ k_ ≠ gb341))) (fun _ hk => hk.2) (.slice Ao222 t382.length co222)) (fun _ hk => hk.2) (.slice Ao227 t385.length co227)) (fun _ h_ => h_.1)))); (case side4 => exact (Kd.V_reads' HO_331001.out).2.1); rintro e w232 ⟨v391, v394, rfl, ho0, ho1, hb⟩; refine ⟨_, rfl, ?_⟩; have n2_ := mk0 (Kd.R_elder' (r2_ (Kd.R_mono (Kd.R_far (p := ⟨gb341, 1, none⟩) (Kd.R_far (p := ⟨gb341, 0, none⟩) (Kd.R_types HO_340000.out BK341.out (by decide)) (fun _ hk => hk.2) (.slice Ao222 t382.length co222)) (fun _ hk => hk.2) (.slice Ao227 t385.length co227)) (fun _ h_ => h_.1))) (Kd.R_base ho0) hb); have n3_ := mk0 (Kd.Q_elder' (q2_ (Kd.Q_mono (Kd.Q_far (p := ⟨gb341, 1, none⟩) (Kd.Q_far (p := ⟨gb341, 0, none⟩) (Kd.Q_types HO_340001.out BK341.out (by decide)) (fun _ hk => hk.2) (.slice Ao222 t382.length co222)) (fun _ hk => hk.2) (.slice Ao227 t385.length co227)) (fun _ h_ => h_.1))) (Kd.R_base ho1) hb); have n4_ := mk0 (Kd.R_elder' (r2_ (Kd.R_mono (Kd.R_far (p := ⟨gb341, 1, none⟩) (Kd.R_far (p := ⟨gb341, 0, none⟩) (Kd.R_types HO384.out BK341.out (by decide)) (fun _ hk => hk.2) (.slice Ao222 t382.length co222)) (fun _ hk => hk.2) (.slice Ao227 t385.length co227)) (fun _ h_ => h_.1))) (Kd.R_base ho0) hb); have n5_ := mk0 (Kd.Q_elder' (q2_ (Kd.Q_mono (Kd.Q_far (p := ⟨gb341, 1, none⟩) (Kd.Q_far (p := ⟨gb341, 0, none⟩) (Kd.Q_types HO387.out BK341.out (by decide)) (fun _ hk => hk.2) (.slice Ao222 t382.length co222)) (fun _ hk => hk.2) (.slice Ao227 t385.length co227)) (fun _ h_ => h_.1))) (Kd.R_base ho1) hb); have n6_ := mk0 (Kd.R_lower (Kd.R_new' (Kd.R_new' (Kd.R_newM (M := fun k_ => (w.heap.size ≤ k_)) ho0 (bz_ (b_ HB)) (fun k_ h_ => h_)) (Kd.R_lt (r2_ (Kd.R_mono (Kd.R_far (p := ⟨gb341, 1, none⟩) (Kd.R_far (p := ⟨gb341, 0, none⟩) (Kd.R_types HO_340000.out BK341.out (by decide)) (fun _ hk => hk.2) (.slice Ao222 t382.length co222)) (fun _ hk => hk.2) (.slice Ao227 t385.length co227)) (fun _ h_ => h_.1))))) (Kd.R_lt (r2_ (Kd.R_mono (Kd.R_far (p := ⟨gb341, 1, none⟩) (Kd.R_far (p := ⟨gb341, 0, none⟩) (Kd.R_types HO384.out BK341.out (by decide)) (fun _ hk => hk.2) (.slice Ao222 t382.length co222)) (fun _ hk => hk.2) (.slice Ao227 t385.length co227)) (fun _ h_ => h_.1))))) (bz_ (b_ HB))); have n7_ := mk0 (Kd.R_lower (Kd.R_new' (Kd.R_new' (Kd.R_newM (M := fun k_ => (w.heap.size ≤ k_)) ho1 (bz_ (b_ HB)) (fun k_ h_ => h_)) (Kd.Q_lt (q2_ (Kd.Q_mono (Kd.Q_far (p := ⟨gb341, 1, none⟩) (Kd.Q_far (p := ⟨gb341, 0, none⟩) (Kd.Q_types HO_340001.out BK341.out (by decide)) (fun _ hk => hk.2) (.slice Ao222 t382.length co222)) (fun _ hk => hk.2) (.slice Ao227 t385.length co227)) (fun _ h_ => h_.1))))) (Kd.Q_lt (q2_ (Kd.Q_mono (Kd.Q_far (p := ⟨gb341, 1, none⟩) (Kd.Q_far (p := ⟨gb341, 0, none⟩) (Kd.Q_types HO387.out BK341.out (by decide)) (fun _ hk => hk.2) (.slice Ao222 t382.length co222)) (fun _ hk => hk.2) (.slice Ao227 t385.length co227)) (fun _ h_ => h_.1))))) (bz_ (b_ HB))); replace HO_331000 := mk0 (Kd.V_mono (Kd.V_told (Kd.V_told (Kd.V_old (v2_ (Kd.V_mono (Kd.V_far (p := ⟨gb341, 1, none⟩) (Kd.V_far (p := ⟨gb341, 0, none⟩) (Kd.V_mono HO_331000.out (fun k_ hk => (⟨hk, hk.1.1.2.2.2.2.2.2.2.1⟩ : _ ∧ k_ ≠ gb341))) (fun _ hk => hk.2) (.slice Ao222 t382.length co222)) (fun _ hk => hk.2) (.slice Ao227 t385.length co227)) (fun _ h_ => h_.1))) hb) (Kd.R_base ho0)) (Kd.R_base ho1)) (fun _ h_ => h_.1)); replace HO_331001 := mk0 (Kd.V_mono (Kd.V_told (Kd.V_told (Kd.V_old (v2_ (Kd.V_mono (Kd.V_far (p := ⟨gb341, 1, none⟩) (Kd.V_far (p := ⟨gb341, 0, none⟩) (Kd.V_mono HO_331001.out (fun k_ hk => (⟨hk, hk.1.1.2.2.2.2.2.2.2.1⟩ : _ ∧ k_ ≠ gb341))) (fun _ hk => hk.2) (.slice Ao222 t382.length co222)) (fun _ hk => hk.2) (.slice Ao227 t385.length co227)) (fun _ h_ => h_.1))) hb) (Kd.R_base ho0)) (Kd.R_base ho1)) (fun _ h_ => h_.1)); replace BK330 := mk0 (blk_below (g := gb330) (o := .cells #[.slice A0_0 l0_0.length c0_0, .slice A0_1 l0_1.length c0_1] 56 (0, 0)) (fa_ (fa_ (h_ BK330) NB330_341.out) NB330_341.out) hb); replace BK331 := mk0 (blk_below (g := gb331) (o := .cells #[.int .i64 a1_0, .int .i64 a1_1, .string a1_2] 64 (0, 0)) (fa_ (fa_ (h_ BK331) NB331_341.out) NB331_341.out) hb); replace BK332 := mk0 (blk_below (g := gb332) (o := .cells #[.slice none 0 0, .slice none 0 0] 56 (0, 0)) (fa_ (fa_ (h_ BK332) NB332_341.out) NB332_341.out) hb); replace BK339 := mk0 (blk_below (g := gb339) (o := .cells #[.slice Ao15 t333.length co15, .slice Ao20 t336.length co20] 56 (0, 0)) (fa_ (fa_ (h_ BK339) NB339_341.out) NB339_341.out) hb); replace BK341 := mk0 (blk_below (g := gb341) (o := .cells #[.slice Ao222 t382.length co222, .slice Ao227 t385.length co227] 56 (0, 0)) (pu_ (cs := #[.slice Ao222 t382.length co222, .slice none 0 0]) (pu_ (cs := #[.slice none 0 0, .slice none 0 0]) (h_ BK341))) hb); replace BK342 := mk0 (blk_below (g := gb342) (o := .cells #[.slice none 0 0, .slice none 0 0] 56 (0, 0)) (fa_ (fa_ (h_ BK342) NB342_341.out) NB342_341.out) hb); replace HB := mk0 (bt_ (b_ HB) hb); clear HO_340000 HO_340001 HO384 HO387; have HO_340000 := n2_; have HO_340001 := n3_; have HO384 := n4_; have HO387 := n5_; have HO392 := n6_; have HO395 := n7_; clear n2_ n3_ n4_ n5_ n6_ n7_; (try clear hb); (try clear ho0); (try clear ho1); obtain ⟨Ao233, co233, eo233⟩ := Kd.R_slice HO392.out; subst eo233; have hnb234 := NB342_332.out; have hnc234 := NB332_342.out; obtain ⟨hcz235_0, hcz235_1, hfz235_0, hfz235_1⟩ := c2_ BK342; obtain ⟨Ao236, co236, eo236⟩ := Kd.R_slice HO395.out; subst eo236))
            go_meet
            case rel => exact ⟨_, (t397), (t388), (t396), (t389), (t382), (t385), (t390), (t393), (.slice Ao222 t382.length co222), (.slice Ao227 t385.length co227), (.slice Ao233 t390.length co233), (.slice Ao236 t393.length co236), (by first | rfl | (simp; done) | (simp [*]; done)), (by first | rfl | (simp; done) | (simp [*]; done)), (by first | rfl | (simp; done) | (simp [*]; done)), (by first | rfl | (simp; done) | (simp [*]; done)), H', ⟨by have := HJ28.out; have := HJ79.out; first | omega | exact Nat.le_refl _⟩, ⟨by (with_reducible repeat (first | apply Kd.V_alloc | apply Kd.V_drewN | apply Kd.V_drew)); exact Kd.V_mono (Kd.V_far (p := ⟨gb342, 1, none⟩) (Kd.V_far (p := ⟨gb342, 0, none⟩) (Kd.V_mono HO_331000.out (fun k_ hk => (⟨hk, hk.1.1.1.1.2.2.2.2.2.2.2.2⟩ : _ ∧ k_ ≠ gb342))) (fun _ hk => hk.2) (.slice Ao233 t390.length co233)) (fun _ hk => hk.2) (.slice Ao236 t393.length co236)) (fun _ hk => ⟨hk.1.1.1.1.1.1, ⟨hk.1.1.1.1.1.2.1, ⟨hk.1.1.1.1.1.2.2.1, ⟨hk.1.1.1.1.2, ⟨hk.1.1.1.2, ⟨hk.1.1.2, ⟨hk.1.2, ⟨hk.1.1.1.1.1.2.2.2.1, ⟨hk.1.1.1.1.1.2.2.2.2.1, ⟨hk.1.1.1.1.1.2.2.2.2.2.1, ⟨hk.1.1.1.1.1.2.2.2.2.2.2.1, ⟨hk.1.1.1.1.1.2.2.2.2.2.2.2.1, hk.1.1.1.1.1.2.2.2.2.2.2.2.2⟩⟩⟩⟩⟩⟩⟩⟩⟩⟩⟩⟩)⟩, ⟨by (with_reducible repeat (first | apply Kd.V_alloc | apply Kd.V_drewN | apply Kd.V_drew)); exact Kd.V_mono (Kd.V_far (p := ⟨gb342, 1, none⟩) (Kd.V_far (p := ⟨gb342, 0, none⟩) (Kd.V_mono HO_331001.out (fun k_ hk => (⟨hk, hk.1.1.1.1.2.2.2.2.2.2.2.2⟩ : _ ∧ k_ ≠ gb342))) (fun _ hk => hk.2) (.slice Ao233 t390.length co233)) (fun _ hk => hk.2) (.slice Ao236 t393.length co236)) (fun _ hk => ⟨hk.1.1.1.1.1.1, ⟨hk.1.1.1.1.1.2.1, ⟨hk.1.1.1.1.1.2.2.1, ⟨hk.1.1.1.1.2, ⟨hk.1.1.1.2, ⟨hk.1.1.2, ⟨hk.1.2, ⟨hk.1.1.1.1.1.2.2.2.1, ⟨hk.1.1.1.1.1.2.2.2.2.1, ⟨hk.1.1.1.1.1.2.2.2.2.2.1, ⟨hk.1.1.1.1.1.2.2.2.2.2.2.1, ⟨hk.1.1.1.1.1.2.2.2.2.2.2.2.1, hk.1.1.1.1.1.2.2.2.2.2.2.2.2⟩⟩⟩⟩⟩⟩⟩⟩⟩⟩⟩⟩)⟩, ⟨by (with_reducible repeat (first | apply Ra_ | apply Rn_ | apply Rd_)); exact Kd.R_mono (Kd.R_far (p := ⟨gb342, 1, none⟩) (Kd.R_far (p := ⟨gb342, 0, none⟩) (Kd.R_types HO_340000.out BK342.out (by decide)) (fun _ hk => hk.2) (.slice Ao233 t390.length co233)) (fun _ hk => hk.2) (.slice Ao236 t393.length co236)) (fun _ hk => ⟨hk.1.1.1, ⟨hk.1.1.2, hk.1.2⟩⟩)⟩, ⟨by (with_reducible repeat (first | apply Kd.Q_alloc | apply Kd.Q_drewN | apply Kd.Q_drew)); exact Kd.Q_mono (Kd.Q_far (p := ⟨gb342, 1, none⟩) (Kd.Q_far (p := ⟨gb342, 0, none⟩) (Kd.Q_types HO_340001.out BK342.out (by decide)) (fun _ hk => hk.2) (.slice Ao233 t390.length co233)) (fun _ hk => hk.2) (.slice Ao236 t393.length co236)) (fun _ hk => ⟨hk.1.1.1, ⟨hk.1.1.2, hk.1.2⟩⟩)⟩, ⟨by (with_reducible repeat (first | apply Ra_ | apply Rn_ | apply Rd_)); exact Kd.R_mono (Kd.R_far (p := ⟨gb342, 1, none⟩) (Kd.R_far (p := ⟨gb342, 0, none⟩) (Kd.R_types HO384.out BK342.out (by decide)) (fun _ hk => hk.2) (.slice Ao233 t390.length co233)) (fun _ hk => hk.2) (.slice Ao236 t393.length co236)) (fun _ hk => ⟨hk.1.1.1.1, ⟨hk.1.1.2, hk.1.2⟩⟩)⟩, ⟨by (with_reducible repeat (first | apply Kd.Q_alloc | apply Kd.Q_drewN | apply Kd.Q_drew)); exact Kd.Q_mono (Kd.Q_far (p := ⟨gb342, 1, none⟩) (Kd.Q_far (p := ⟨gb342, 0, none⟩) (Kd.Q_types HO387.out BK342.out (by decide)) (fun _ hk => hk.2) (.slice Ao233 t390.length co233)) (fun _ hk => hk.2) (.slice Ao236 t393.length co236)) (fun _ hk => ⟨hk.1.1.1.1, ⟨hk.1.1.2, hk.1.2⟩⟩)⟩, ⟨by (with_reducible repeat (first | apply Ra_ | apply Rn_ | apply Rd_)); exact Kd.R_mono (Kd.R_far (p := ⟨gb342, 1, none⟩) (Kd.R_far (p := ⟨gb342, 0, none⟩) (Kd.R_types HO392.out BK342.out (by decide)) (fun _ hk => hk.2) (.slice Ao233 t390.length co233)) (fun _ hk => hk.2) (.slice Ao236 t393.length co236)) (fun _ hk => ⟨hk.1.1.1.1, ⟨hk.1.1.2, hk.1.2⟩⟩)⟩, ⟨Kd.Q_of_R (r2_ (Kd.R_mono (Kd.R_far (p := ⟨gb342, 1, none⟩) (Kd.R_far (p := ⟨gb342, 0, none⟩) (Kd.R_types HO395.out BK342.out (by decide)) (fun _ hk => hk.2) (.slice Ao233 t390.length co233)) (fun _ hk => hk.2) (.slice Ao236 t393.length co236)) (fun _ hk => ⟨hk.1.1.1.1, ⟨hk.1.1.2, hk.1.2⟩⟩)))⟩, ⟨(fa_ (fa_ (h_ BK330) NB330_342.out) NB330_342.out)⟩, ⟨(fa_ (fa_ (h_ BK331) NB331_342.out) NB331_342.out)⟩, ⟨(fa_ (fa_ (h_ BK332) NB332_342.out) NB332_342.out)⟩, ⟨(fa_ (fa_ (h_ BK339) NB339_342.out) NB339_342.out)⟩, ⟨(fa_ (fa_ (h_ BK341) NB341_342.out) NB341_342.out)⟩, ⟨(pu_ (cs := #[.slice Ao233 t390.length co233, .slice none 0 0]) (pu_ (cs := #[.slice none 0 0, .slice none 0 0]) (h_ BK342)))⟩, ⟨b_ HB⟩⟩
           ·replace c208 := Bool.eq_false_iff.mpr c208
            subst c208
            rw [if_neg (show ¬ (false = true) by decide)] at H
            have H' := mk0 H
            clear H
            have hnb237 := NB339_330.out
            have hnc237 := NB330_339.out
            have hnb238 := NB339_331.out
            have hnc238 := NB331_339.out
            have hnb239 := NB339_332.out
            have hnc239 := NB332_339.out
            have hnb240 := NB339_341.out
            have hnc240 := NB341_339.out
            have hnb241 := NB339_342.out
            have hnc241 := NB342_339.out
            obtain ⟨hcz242_0, hcz242_1, hfz242_0, hfz242_1⟩ := c2_ BK339
            have hnb243 := NB331_330.out
            have hnc243 := NB330_331.out
            have hnb244 := NB331_332.out
            have hnc244 := NB332_331.out
            have hnb245 := NB331_341.out
            have hnc245 := NB341_331.out
            have hnb246 := NB331_342.out
            have hnc246 := NB342_331.out
            obtain ⟨hcz247_0, hcz247_1, hcz247_2, hfz247_0, hfz247_1, hfz247_2⟩ := c3_ BK331
            go_wp2_with (first | ((with_reducible refine gate_callee (f := 36) rfl ?_); refine gL_ (some 32) Try.func36 #[.agg #[.slice Ao15 t333.length co15, .slice Ao20 t336.length co20], .string a1_2] (h := ?_); (with_reducible refine (page_Add.calls kj79 _ _ t333 _ _ t336 a1_2 t382 t385 t388 t389 _ ?side1 ?side2 ?side3 ?side4 A207.out).mono ?_); (case side1 => exact cr_ HO_340000); (case side2 => exact (Kd.R_reads' HO_340000.out).2.1); (case side3 => exact cq_ HO_340001); (case side4 => exact (Kd.Q_reads' HO_340001.out).2.1); rintro e w248 ⟨v383, v386, rfl, ho0, ho1, hb⟩; refine ⟨_, rfl, ?_⟩; have n4_ := mk0 (Kd.R_lower (Kd.R_new' (Kd.R_newM (M := fun k_ => (w.heap.size ≤ k_)) ho0 (bz_ (b_ HB)) (fun k_ h_ => h_)) (Kd.R_lt (r_ HO_340000))) (bz_ (b_ HB))); have n5_ := mk0 (Kd.Q_lower (Kd.Q_new' (Kd.Q_newM (M := fun k_ => (w.heap.size ≤ k_)) ho1 (bz_ (b_ HB)) (fun k_ h_ => h_)) (Kd.Q_lt (q_ HO_340001))) (bz_ (b_ HB))); replace HO_331000 := mk0 (Kd.V_mono (Kd.V_told (Kd.V_told (Kd.V_old (v_ HO_331000) hb) (Kd.R_base ho0)) (Kd.Q_base ho1)) (fun _ h_ => h_.1)); replace HO_331001 := mk0 (Kd.V_mono (Kd.V_told (Kd.V_told (Kd.V_old (v_ HO_331001) hb) (Kd.R_base ho0)) (Kd.Q_base ho1)) (fun _ h_ => h_.1)); replace HO_340000 := mk0 (Kd.R_elder' (r_ HO_340000) (Kd.R_base ho0) hb); replace HO_340001 := mk0 (Kd.Q_elder' (q_ HO_340001) (Kd.Q_base ho1) hb); replace BK330 := mk0 (u_ BK330 hb); replace BK331 := mk0 (u_ BK331 hb); replace BK332 := mk0 (u_ BK332 hb); replace BK339 := mk0 (u_ BK339 hb); replace BK341 := mk0 (u_ BK341 hb); replace BK342 := mk0 (u_ BK342 hb); replace HB := mk0 (bt_ (b_ HB) hb); have HO384 := n4_; have HO387 := n5_; clear n4_ n5_; (try clear hb); (try clear ho0); (try clear ho1); obtain ⟨Ao249, co249, eo249⟩ := Kd.R_slice HO384.out; subst eo249; have hnb250 := NB341_330.out; have hnc250 := NB330_341.out; have hnb251 := NB341_332.out; have hnc251 := NB332_341.out; have hnb252 := NB341_342.out; have hnc252 := NB342_341.out; obtain ⟨hcz253_0, hcz253_1, hfz253_0, hfz253_1⟩ := c2_ BK341; obtain ⟨Ao254, co254, eo254, _⟩ := Kd.Q_slice HO387.out; subst eo254))
            go_meet
            case rel => exact ⟨_, (1), (t388), (0), (t389), (t382), (t385), (([] : List ByteArray)), (([] : List Int)), (.slice Ao249 t382.length co249), (.slice Ao254 t385.length co254), (.slice none 0 0), (.slice none 0 0), (by first | rfl | (simp; done) | (simp [*]; done)), (by first | rfl | (simp; done) | (simp [*]; done)), (by first | rfl | (simp; done) | (simp [*]; done)), (by first | rfl | (simp; done) | (simp [*]; done)), H', ⟨by have := HJ28.out; have := HJ79.out; first | omega | exact Nat.le_refl _⟩, ⟨by (with_reducible repeat (first | apply Kd.V_alloc | apply Kd.V_drewN | apply Kd.V_drew)); exact Kd.V_mono (Kd.V_far (p := ⟨gb341, 1, none⟩) (Kd.V_far (p := ⟨gb341, 0, none⟩) (Kd.V_mono HO_331000.out (fun k_ hk => (⟨hk, hk.1.1.2.2.2.2.2.2.2.1⟩ : _ ∧ k_ ≠ gb341))) (fun _ hk => hk.2) (.slice Ao249 t382.length co249)) (fun _ hk => hk.2) (.slice Ao254 t385.length co254)) (fun _ hk => ⟨hk.1.1.1.1, ⟨hk.1.1.1.2.1, ⟨hk.1.1.1.2.2.1, ⟨hk.1.1.2, ⟨hk.1.2, ⟨(by simp [Value.ownBlock]), ⟨(by simp [Value.ownBlock]), ⟨hk.1.1.1.2.2.2.1, ⟨hk.1.1.1.2.2.2.2.1, ⟨hk.1.1.1.2.2.2.2.2.1, ⟨hk.1.1.1.2.2.2.2.2.2.1, ⟨hk.1.1.1.2.2.2.2.2.2.2.1, hk.1.1.1.2.2.2.2.2.2.2.2⟩⟩⟩⟩⟩⟩⟩⟩⟩⟩⟩⟩)⟩, ⟨by (with_reducible repeat (first | apply Kd.V_alloc | apply Kd.V_drewN | apply Kd.V_drew)); exact Kd.V_mono (Kd.V_far (p := ⟨gb341, 1, none⟩) (Kd.V_far (p := ⟨gb341, 0, none⟩) (Kd.V_mono HO_331001.out (fun k_ hk => (⟨hk, hk.1.1.2.2.2.2.2.2.2.1⟩ : _ ∧ k_ ≠ gb341))) (fun _ hk => hk.2) (.slice Ao249 t382.length co249)) (fun _ hk => hk.2) (.slice Ao254 t385.length co254)) (fun _ hk => ⟨hk.1.1.1.1, ⟨hk.1.1.1.2.1, ⟨hk.1.1.1.2.2.1, ⟨hk.1.1.2, ⟨hk.1.2, ⟨(by simp [Value.ownBlock]), ⟨(by simp [Value.ownBlock]), ⟨hk.1.1.1.2.2.2.1, ⟨hk.1.1.1.2.2.2.2.1, ⟨hk.1.1.1.2.2.2.2.2.1, ⟨hk.1.1.1.2.2.2.2.2.2.1, ⟨hk.1.1.1.2.2.2.2.2.2.2.1, hk.1.1.1.2.2.2.2.2.2.2.2⟩⟩⟩⟩⟩⟩⟩⟩⟩⟩⟩⟩)⟩, ⟨by (with_reducible repeat (first | apply Ra_ | apply Rn_ | apply Rd_)); exact Kd.R_mono (Kd.R_far (p := ⟨gb341, 1, none⟩) (Kd.R_far (p := ⟨gb341, 0, none⟩) (Kd.R_types HO_340000.out BK341.out (by decide)) (fun _ hk => hk.2) (.slice Ao249 t382.length co249)) (fun _ hk => hk.2) (.slice Ao254 t385.length co254)) (fun _ hk => ⟨hk.1.1, ⟨hk.1.2, (by simp [Value.ownBlock])⟩⟩)⟩, ⟨by (with_reducible repeat (first | apply Kd.Q_alloc | apply Kd.Q_drewN | apply Kd.Q_drew)); exact Kd.Q_mono (Kd.Q_far (p := ⟨gb341, 1, none⟩) (Kd.Q_far (p := ⟨gb341, 0, none⟩) (Kd.Q_types HO_340001.out BK341.out (by decide)) (fun _ hk => hk.2) (.slice Ao249 t382.length co249)) (fun _ hk => hk.2) (.slice Ao254 t385.length co254)) (fun _ hk => ⟨hk.1.1, ⟨hk.1.2, (by simp [Value.ownBlock])⟩⟩)⟩, ⟨by (with_reducible repeat (first | apply Ra_ | apply Rn_ | apply Rd_)); exact Kd.R_mono (Kd.R_far (p := ⟨gb341, 1, none⟩) (Kd.R_far (p := ⟨gb341, 0, none⟩) (Kd.R_types HO384.out BK341.out (by decide)) (fun _ hk => hk.2) (.slice Ao249 t382.length co249)) (fun _ hk => hk.2) (.slice Ao254 t385.length co254)) (fun _ hk => ⟨hk.1.1.1, ⟨hk.1.2, (by simp [Value.ownBlock])⟩⟩)⟩, ⟨by (with_reducible repeat (first | apply Kd.Q_alloc | apply Kd.Q_drewN | apply Kd.Q_drew)); exact Kd.Q_mono (Kd.Q_far (p := ⟨gb341, 1, none⟩) (Kd.Q_far (p := ⟨gb341, 0, none⟩) (Kd.Q_types HO387.out BK341.out (by decide)) (fun _ hk => hk.2) (.slice Ao249 t382.length co249)) (fun _ hk => hk.2) (.slice Ao254 t385.length co254)) (fun _ hk => ⟨hk.1.1.1, ⟨hk.1.2, (by simp [Value.ownBlock])⟩⟩)⟩, ⟨by first | exact Kd.R_nil _ _ _ _ _ | exact Kd.N_nil _ _ _ _ _ | exact Kd.V_nil _ _ _ _ _ | exact Kd.Q_nil _ _ _ _ _ | exact Kd.S_nil _ _ _ _ _⟩, ⟨Kd.Q_of_R (by first | exact Kd.R_nil _ _ _ _ _ | exact Kd.N_nil _ _ _ _ _ | exact Kd.V_nil _ _ _ _ _ | exact Kd.Q_nil _ _ _ _ _ | exact Kd.S_nil _ _ _ _ _)⟩, ⟨(fa_ (fa_ (h_ BK330) NB330_341.out) NB330_341.out)⟩, ⟨(fa_ (fa_ (h_ BK331) NB331_341.out) NB331_341.out)⟩, ⟨(fa_ (fa_ (h_ BK332) NB332_341.out) NB332_341.out)⟩, ⟨(fa_ (fa_ (h_ BK339) NB339_341.out) NB339_341.out)⟩, ⟨(pu_ (cs := #[.slice Ao249 t382.length co249, .slice none 0 0]) (pu_ (cs := #[.slice none 0 0, .slice none 0 0]) (h_ BK341)))⟩, ⟨(fa_ (fa_ (h_ BK342) NB342_341.out) NB342_341.out)⟩, ⟨b_ HB⟩⟩
 case rest =>
  clear HC6
  try clear c131
  try clear c131b0
  try clear c131b1
  try clear c185
  try clear c185b0
  try clear c185b1
  try clear c186
  try clear c186b0
  try clear c186b1
  try clear c208
  try clear hcz215_0
  try clear hcz215_1
  try clear hcz220_0
  try clear hcz220_1
  try clear hcz220_2
  try clear hcz226_0
  try clear hcz226_1
  try clear hcz230_0
  try clear hcz230_1
  try clear hcz231_0
  try clear hcz231_1
  try clear hcz231_2
  try clear hcz235_0
  try clear hcz235_1
  try clear hcz242_0
  try clear hcz242_1
  try clear hcz247_0
  try clear hcz247_1
  try clear hcz247_2
  try clear hcz253_0
  try clear hcz253_1
  try clear hfz215_0
  try clear hfz215_1
  try clear hfz220_0
  try clear hfz220_1
  try clear hfz220_2
  try clear hfz226_0
  try clear hfz226_1
  try clear hfz230_0
  try clear hfz230_1
  try clear hfz231_0
  try clear hfz231_1
  try clear hfz231_2
  try clear hfz235_0
  try clear hfz235_1
  try clear hfz242_0
  try clear hfz242_1
  try clear hfz247_0
  try clear hfz247_1
  try clear hfz247_2
  try clear hfz253_0
  try clear hfz253_1
  obtain ⟨kq, x8_5, x11_5, x12_5, x13_5, x342000_5, x342001_5, x343000_5, x343001_5, u342000, u342001, u343000, u343001, rfl, rfl, rfl, rfl, HA, HJ5, HO_331000, HO_331001, HO_340000, HO_340001, HO_342000, HO_342001, HO_343000, HO_343001, BK330, BK331, BK332, BK339, BK341, BK342, HB⟩ := hcut
  cases kq with
  | zero => exact absurd HA.out (by simp [quorumlaw5_step.j3])
  | succ kj5 =>
   have H := HA.out
   clear HA
   simp only [quorumlaw5_step.j3] at H
   as_aux_lemma =>
    have HC255 := mk0 H
    clear H
    go_upto_region 30 with (fail)
    go_cut [166] (fun v166 wc => ∃ (kq : Nat) (x166_254 : Bool), v166 = .bool x166_254 ∧ Fc (quorumlaw5_step.j4 kq x8_5 x166_254 l0_0 l0_1 t333 t336 x342000_5 x342001_5 x343000_5 x343001_5 = some (r1, r2, r3)) ∧ Fc (kq ≤ kj5) ∧ Fc (Kd.V Kd.string 9 wc w.heap.size (fun k_ => ((P0_0_ k_ ∨ P0_1_ k_) ∨ w.heap.size ≤ k_) ∧ some k_ ≠ ((.slice Ao15 t333.length co15) : Value).ownBlock ∧ some k_ ≠ ((.slice Ao20 t336.length co20) : Value).ownBlock ∧ some k_ ≠ (u342000 : Value).ownBlock ∧ some k_ ≠ (u342001 : Value).ownBlock ∧ some k_ ≠ (u343000 : Value).ownBlock ∧ some k_ ≠ (u343001 : Value).ownBlock ∧ k_ ≠ gb330 ∧ k_ ≠ gb331 ∧ k_ ≠ gb332 ∧ k_ ≠ gb339 ∧ k_ ≠ gb341 ∧ k_ ≠ gb342) (.slice A0_0 l0_0.length c0_0) l0_0) ∧ Fc (Kd.V (Kd.int .i64) 3 wc w.heap.size (fun k_ => ((P0_0_ k_ ∨ P0_1_ k_) ∨ w.heap.size ≤ k_) ∧ some k_ ≠ ((.slice Ao15 t333.length co15) : Value).ownBlock ∧ some k_ ≠ ((.slice Ao20 t336.length co20) : Value).ownBlock ∧ some k_ ≠ (u342000 : Value).ownBlock ∧ some k_ ≠ (u342001 : Value).ownBlock ∧ some k_ ≠ (u343000 : Value).ownBlock ∧ some k_ ≠ (u343001 : Value).ownBlock ∧ k_ ≠ gb330 ∧ k_ ≠ gb331 ∧ k_ ≠ gb332 ∧ k_ ≠ gb339 ∧ k_ ≠ gb341 ∧ k_ ≠ gb342) (.slice A0_1 l0_1.length c0_1) l0_1) ∧ Fc (Kd.R Kd.string 9 wc w.heap.size (fun k_ => (w.heap.size ≤ k_) ∧ some k_ ≠ (u342000 : Value).ownBlock ∧ some k_ ≠ (u343000 : Value).ownBlock) (.slice Ao15 t333.length co15) t333) ∧ Fc (Kd.Q (Kd.int .i64) 3 wc w.heap.size (fun k_ => (w.heap.size ≤ k_) ∧ some k_ ≠ (u342001 : Value).ownBlock ∧ some k_ ≠ (u343001 : Value).ownBlock) (.slice Ao20 t336.length co20) t336) ∧ Fc (Kd.R Kd.string 9 wc w.heap.size (fun k_ => (w.heap.size ≤ k_) ∧ some k_ ≠ ((.slice Ao15 t333.length co15) : Value).ownBlock ∧ some k_ ≠ (u343000 : Value).ownBlock) u342000 x342000_5) ∧ Fc (Kd.Q (Kd.int .i64) 3 wc w.heap.size (fun k_ => (w.heap.size ≤ k_) ∧ some k_ ≠ ((.slice Ao20 t336.length co20) : Value).ownBlock ∧ some k_ ≠ (u343001 : Value).ownBlock) u342001 x342001_5) ∧ Fc (Kd.R Kd.string 9 wc w.heap.size (fun k_ => (w.heap.size ≤ k_) ∧ some k_ ≠ ((.slice Ao15 t333.length co15) : Value).ownBlock ∧ some k_ ≠ (u342000 : Value).ownBlock) u343000 x343000_5) ∧ Fc (Kd.Q (Kd.int .i64) 3 wc w.heap.size (fun k_ => (w.heap.size ≤ k_) ∧ some k_ ≠ ((.slice Ao20 t336.length co20) : Value).ownBlock ∧ some k_ ≠ (u342001 : Value).ownBlock) u343001 x343001_5) ∧ Fc (wc.heap[gb330]? = some (.cells #[(.slice A0_0 l0_0.length c0_0), (.slice A0_1 l0_1.length c0_1)] 56 (0, 0))) ∧ Fc (wc.heap[gb331]? = some (.cells #[.int .i64 a1_0, .int .i64 a1_1, .string a1_2] 64 (0, 0))) ∧ Fc (wc.heap[gb332]? = some (.cells #[(.slice none 0 0), (.slice none 0 0)] 56 (0, 0))) ∧ Fc (wc.heap[gb339]? = some (.cells #[(.slice Ao15 t333.length co15), (.slice Ao20 t336.length co20)] 56 (0, 0))) ∧ Fc (wc.heap[gb341]? = some (.cells #[u342000, u342001] 56 (0, 0))) ∧ Fc (wc.heap[gb342]? = some (.cells #[u343000, u343001] 56 (0, 0))) ∧ Fc (Below w.heap.size w wc))
    case first =>
     have H := HC255.out
     clear HC255
     replace H := Option.bind_eq_some_iff.mp H
     obtain ⟨t398, A2560, H⟩ := H
     try dsimp only at H
     have A256 := mk0 A2560
     clear A2560
     by_cases c257 : t398 = x8_5
     ·rw [if_pos c257] at H
      have c257b0 : (t398 == x8_5) = true := beq_iff_eq.mpr c257
      have c257b1 : (t398 != x8_5) = false := bne_eq_false_iff_eq.mpr c257
      clear c257
      (first | rw [c257b0] | (simp only [i64_w, i32_w]; rw [c257b0]) | skip)
      replace H := Option.bind_eq_some_iff.mp H
      obtain ⟨t399, A2580, H⟩ := H
      try dsimp only at H
      have A258 := mk0 A2580
      clear A2580
      by_cases c259 : t399 = true
      ·subst c259
       rw [if_pos rfl] at H
       by_cases c260 : x11_5 = x12_5
       ·rw [if_pos c260] at H
        have c260b0 : (x11_5 == x12_5) = true := beq_iff_eq.mpr c260
        have c260b1 : (x11_5 != x12_5) = false := bne_eq_false_iff_eq.mpr c260
        clear c260
        replace H := Option.bind_eq_some_iff.mp H
        obtain ⟨t400, A2610, H⟩ := H
        try dsimp only at H
        have A261 := mk0 A2610
        clear A2610
        by_cases c262 : t400 = true
        ·subst c262
         rw [if_pos rfl] at H
         replace H := Option.bind_eq_some_iff.mp H
         obtain ⟨t401, A2630, H⟩ := H
         try dsimp only at H
         have A263 := mk0 A2630
         clear A2630
         replace H := Option.bind_eq_some_iff.mp H
         obtain ⟨t402, A2640, H⟩ := H
         try dsimp only at H
         have A264 := mk0 A2640
         clear A2640
         have H' := mk0 H
         clear H
         go_wp2_with (first | ((with_reducible refine gate_callee (f := 35) rfl ?_); refine gL_ (some 139) Try.func35 #[.int .i64 x13_5] (h := ?_); (with_reducible refine (quorumlaw5_num.calls x13_5 t398 _ A256.out).mono ?_); rintro e w' ⟨rfl, ⟨nd, rfl⟩⟩; refine ⟨_, rfl, ?_⟩; have hnb265 := NB341_330.out; have hnc265 := NB330_341.out; have hnb266 := NB341_331.out; have hnc266 := NB331_341.out; have hnb267 := NB341_332.out; have hnc267 := NB332_341.out; have hnb268 := NB341_339.out; have hnc268 := NB339_341.out; have hnb269 := NB341_342.out; have hnc269 := NB342_341.out; obtain ⟨hcz270_0, hcz270_1, hfz270_0, hfz270_1⟩ := c2_ BK341; have hnb271 := NB342_330.out; have hnc271 := NB330_342.out; have hnb272 := NB342_331.out; have hnc272 := NB331_342.out; have hnb273 := NB342_332.out; have hnc273 := NB332_342.out; have hnb274 := NB342_339.out; have hnc274 := NB339_342.out; obtain ⟨hcz275_0, hcz275_1, hfz275_0, hfz275_1⟩ := c2_ BK342; obtain ⟨Ao276, co276, eo276⟩ := Kd.R_slice HO_342000.out; subst eo276; obtain ⟨Ao277, co277, eo277, _⟩ := Kd.Q_slice HO_342001.out; subst eo277; obtain ⟨Ao278, co278, eo278⟩ := Kd.R_slice HO_343000.out; subst eo278; obtain ⟨Ao279, co279, eo279, _⟩ := Kd.Q_slice HO_343001.out; subst eo279) | (go_at_call 39; (with_reducible refine (quorumref0_EqPage.calls kj5 _ _ x342000_5 _ _ x342001_5 _ _ x343000_5 _ _ x343001_5 true _ ?side1 ?side2 ?side3 ?side4 ?side5 ?side6 ?side7 ?side8 A258.out).mono ?_); (case side1 => exact cr_ HO_342000); (case side2 => exact (Kd.R_reads' HO_342000.out).2.1); (case side3 => exact cq_ HO_342001); (case side4 => exact (Kd.Q_reads' HO_342001.out).2.1); (case side5 => exact cr_ HO_343000); (case side6 => exact (Kd.R_reads' HO_343000.out).2.1); (case side7 => exact cq_ HO_343001); (case side8 => exact (Kd.Q_reads' HO_343001.out).2.1); rintro e w280 ⟨rfl, hb⟩; replace HO_331000 := mk0 (Kd.V_below (v_ HO_331000) hb); replace HO_331001 := mk0 (Kd.V_below (v_ HO_331001) hb); replace HO_340000 := mk0 (Kd.R_below (r_ HO_340000) hb); replace HO_340001 := mk0 (Kd.Q_below (q_ HO_340001) hb); replace HO_342000 := mk0 (Kd.R_below (r_ HO_342000) hb); replace HO_342001 := mk0 (Kd.Q_below (q_ HO_342001) hb); replace HO_343000 := mk0 (Kd.R_below (r_ HO_343000) hb); replace HO_343001 := mk0 (Kd.Q_below (q_ HO_343001) hb); replace BK330 := mk0 (u_ BK330 hb); replace BK331 := mk0 (u_ BK331 hb); replace BK332 := mk0 (u_ BK332 hb); replace BK339 := mk0 (u_ BK339 hb); replace BK341 := mk0 (u_ BK341 hb); replace BK342 := mk0 (u_ BK342 hb); replace HB := mk0 (bt_ (b_ HB) hb); (try clear hb); have hnb281 := NB339_330.out; have hnc281 := NB330_339.out; have hnb282 := NB339_331.out; have hnc282 := NB331_339.out; have hnb283 := NB339_332.out; have hnc283 := NB332_339.out; obtain ⟨hcz284_0, hcz284_1, hfz284_0, hfz284_1⟩ := c2_ BK339; have hnb285 := NB330_331.out; have hnc285 := NB331_330.out; have hnb286 := NB330_332.out; have hnc286 := NB332_330.out; obtain ⟨hcz287_0, hcz287_1, hfz287_0, hfz287_1⟩ := c2_ BK330) | (go_at_call 39; (with_reducible refine (quorumref0_EqPage.calls kj5 _ _ t333 _ _ t336 _ _ l0_0 _ _ l0_1 true _ ?side1 ?side2 ?side3 ?side4 ?side5 ?side6 ?side7 ?side8 A261.out).mono ?_); (case side1 => exact cr_ HO_340000); (case side2 => exact (Kd.R_reads' HO_340000.out).2.1); (case side3 => exact cq_ HO_340001); (case side4 => exact (Kd.Q_reads' HO_340001.out).2.1); (case side5 => exact cv_ HO_331000); (case side6 => exact (Kd.V_reads' HO_331000.out).2.1); (case side7 => exact cv_ HO_331001); (case side8 => exact (Kd.V_reads' HO_331001.out).2.1); rintro e w288 ⟨rfl, hb⟩; replace HO_331000 := mk0 (Kd.V_below (v_ HO_331000) hb); replace HO_331001 := mk0 (Kd.V_below (v_ HO_331001) hb); replace HO_340000 := mk0 (Kd.R_below (r_ HO_340000) hb); replace HO_340001 := mk0 (Kd.Q_below (q_ HO_340001) hb); replace HO_342000 := mk0 (Kd.R_below (r_ HO_342000) hb); replace HO_342001 := mk0 (Kd.Q_below (q_ HO_342001) hb); replace HO_343000 := mk0 (Kd.R_below (r_ HO_343000) hb); replace HO_343001 := mk0 (Kd.Q_below (q_ HO_343001) hb); replace BK330 := mk0 (u_ BK330 hb); replace BK331 := mk0 (u_ BK331 hb); replace BK332 := mk0 (u_ BK332 hb); replace BK339 := mk0 (u_ BK339 hb); replace BK341 := mk0 (u_ BK341 hb); replace BK342 := mk0 (u_ BK342 hb); replace HB := mk0 (bt_ (b_ HB) hb); (try clear hb); obtain ⟨hcz289_0, hcz289_1, hfz289_0, hfz289_1⟩ := c2_ BK339) | (go_at_call 86; (with_reducible refine (page_Check.calls kj5 _ _ t333 _ _ t336 t401 _ ?side1 ?side2 ?side3 ?side4 A263.out).mono ?_); (case side1 => exact cr_ HO_340000); (case side2 => exact (Kd.R_reads' HO_340000.out).2.1); (case side3 => exact cq_ HO_340001); (case side4 => exact (Kd.Q_reads' HO_340001.out).2.1); rintro e w290 ⟨rfl, hb⟩; replace HO_331000 := mk0 (Kd.V_below (v_ HO_331000) hb); replace HO_331001 := mk0 (Kd.V_below (v_ HO_331001) hb); replace HO_340000 := mk0 (Kd.R_below (r_ HO_340000) hb); replace HO_340001 := mk0 (Kd.Q_below (q_ HO_340001) hb); replace HO_342000 := mk0 (Kd.R_below (r_ HO_342000) hb); replace HO_342001 := mk0 (Kd.Q_below (q_ HO_342001) hb); replace HO_343000 := mk0 (Kd.R_below (r_ HO_343000) hb); replace HO_343001 := mk0 (Kd.Q_below (q_ HO_343001) hb); replace BK330 := mk0 (u_ BK330 hb); replace BK331 := mk0 (u_ BK331 hb); replace BK332 := mk0 (u_ BK332 hb); replace BK339 := mk0 (u_ BK339 hb); replace BK341 := mk0 (u_ BK341 hb); replace BK342 := mk0 (u_ BK342 hb); replace HB := mk0 (bt_ (b_ HB) hb); (try clear hb)) | (go_at_call 35; (with_reducible refine (quorumlaw5_num.calls t401 t402 _ A264.out).mono ?_); rintro e w' ⟨rfl, ⟨nd, rfl⟩⟩))
         go_meet
         case rel => exact ⟨_, (((t402 == 0) != t340)), (by first | rfl | (simp; done) | (simp [*]; done)), H', ⟨by have := HJ5.out; first | omega | exact Nat.le_refl _⟩, ⟨by (with_reducible repeat (first | apply Kd.V_alloc | apply Kd.V_drewN | apply Kd.V_drew)); exact HO_331000.out⟩, ⟨by (with_reducible repeat (first | apply Kd.V_alloc | apply Kd.V_drewN | apply Kd.V_drew)); exact HO_331001.out⟩, ⟨by (with_reducible repeat (first | apply Ra_ | apply Rn_ | apply Rd_)); exact HO_340000.out⟩, ⟨by (with_reducible repeat (first | apply Kd.Q_alloc | apply Kd.Q_drewN | apply Kd.Q_drew)); exact HO_340001.out⟩, ⟨by (with_reducible repeat (first | apply Ra_ | apply Rn_ | apply Rd_)); exact HO_342000.out⟩, ⟨by (with_reducible repeat (first | apply Kd.Q_alloc | apply Kd.Q_drewN | apply Kd.Q_drew)); exact HO_342001.out⟩, ⟨by (with_reducible repeat (first | apply Ra_ | apply Rn_ | apply Rd_)); exact HO_343000.out⟩, ⟨by (with_reducible repeat (first | apply Kd.Q_alloc | apply Kd.Q_drewN | apply Kd.Q_drew)); exact HO_343001.out⟩, ⟨h_ BK330⟩, ⟨h_ BK331⟩, ⟨h_ BK332⟩, ⟨h_ BK339⟩, ⟨h_ BK341⟩, ⟨h_ BK342⟩, ⟨b_ HB⟩⟩
        ·replace c262 := Bool.eq_false_iff.mpr c262
         subst c262
         rw [if_neg (show ¬ (false = true) by decide)] at H
         have H' := mk0 H
         clear H
         go_wp2_with (first | ((with_reducible refine gate_callee (f := 35) rfl ?_); refine gL_ (some 139) Try.func35 #[.int .i64 x13_5] (h := ?_); (with_reducible refine (quorumlaw5_num.calls x13_5 t398 _ A256.out).mono ?_); rintro e w' ⟨rfl, ⟨nd, rfl⟩⟩; refine ⟨_, rfl, ?_⟩; have hnb291 := NB341_330.out; have hnc291 := NB330_341.out; have hnb292 := NB341_331.out; have hnc292 := NB331_341.out; have hnb293 := NB341_332.out; have hnc293 := NB332_341.out; have hnb294 := NB341_339.out; have hnc294 := NB339_341.out; have hnb295 := NB341_342.out; have hnc295 := NB342_341.out; obtain ⟨hcz296_0, hcz296_1, hfz296_0, hfz296_1⟩ := c2_ BK341; have hnb297 := NB342_330.out; have hnc297 := NB330_342.out; have hnb298 := NB342_331.out; have hnc298 := NB331_342.out; have hnb299 := NB342_332.out; have hnc299 := NB332_342.out; have hnb300 := NB342_339.out; have hnc300 := NB339_342.out; obtain ⟨hcz301_0, hcz301_1, hfz301_0, hfz301_1⟩ := c2_ BK342; obtain ⟨Ao302, co302, eo302⟩ := Kd.R_slice HO_342000.out; subst eo302; obtain ⟨Ao303, co303, eo303, _⟩ := Kd.Q_slice HO_342001.out; subst eo303; obtain ⟨Ao304, co304, eo304⟩ := Kd.R_slice HO_343000.out; subst eo304; obtain ⟨Ao305, co305, eo305, _⟩ := Kd.Q_slice HO_343001.out; subst eo305) | (go_at_call 39; (with_reducible refine (quorumref0_EqPage.calls kj5 _ _ x342000_5 _ _ x342001_5 _ _ x343000_5 _ _ x343001_5 true _ ?side1 ?side2 ?side3 ?side4 ?side5 ?side6 ?side7 ?side8 A258.out).mono ?_); (case side1 => exact cr_ HO_342000); (case side2 => exact (Kd.R_reads' HO_342000.out).2.1); (case side3 => exact cq_ HO_342001); (case side4 => exact (Kd.Q_reads' HO_342001.out).2.1); (case side5 => exact cr_ HO_343000); (case side6 => exact (Kd.R_reads' HO_343000.out).2.1); (case side7 => exact cq_ HO_343001); (case side8 => exact (Kd.Q_reads' HO_343001.out).2.1); rintro e w306 ⟨rfl, hb⟩; replace HO_331000 := mk0 (Kd.V_below (v_ HO_331000) hb); replace HO_331001 := mk0 (Kd.V_below (v_ HO_331001) hb); replace HO_340000 := mk0 (Kd.R_below (r_ HO_340000) hb); replace HO_340001 := mk0 (Kd.Q_below (q_ HO_340001) hb); replace HO_342000 := mk0 (Kd.R_below (r_ HO_342000) hb); replace HO_342001 := mk0 (Kd.Q_below (q_ HO_342001) hb); replace HO_343000 := mk0 (Kd.R_below (r_ HO_343000) hb); replace HO_343001 := mk0 (Kd.Q_below (q_ HO_343001) hb); replace BK330 := mk0 (u_ BK330 hb); replace BK331 := mk0 (u_ BK331 hb); replace BK332 := mk0 (u_ BK332 hb); replace BK339 := mk0 (u_ BK339 hb); replace BK341 := mk0 (u_ BK341 hb); replace BK342 := mk0 (u_ BK342 hb); replace HB := mk0 (bt_ (b_ HB) hb); (try clear hb); have hnb307 := NB339_330.out; have hnc307 := NB330_339.out; have hnb308 := NB339_331.out; have hnc308 := NB331_339.out; have hnb309 := NB339_332.out; have hnc309 := NB332_339.out; obtain ⟨hcz310_0, hcz310_1, hfz310_0, hfz310_1⟩ := c2_ BK339; have hnb311 := NB330_331.out; have hnc311 := NB331_330.out; have hnb312 := NB330_332.out; have hnc312 := NB332_330.out; obtain ⟨hcz313_0, hcz313_1, hfz313_0, hfz313_1⟩ := c2_ BK330) | (go_at_call 39; (with_reducible refine (quorumref0_EqPage.calls kj5 _ _ t333 _ _ t336 _ _ l0_0 _ _ l0_1 false _ ?side1 ?side2 ?side3 ?side4 ?side5 ?side6 ?side7 ?side8 A261.out).mono ?_); (case side1 => exact cr_ HO_340000); (case side2 => exact (Kd.R_reads' HO_340000.out).2.1); (case side3 => exact cq_ HO_340001); (case side4 => exact (Kd.Q_reads' HO_340001.out).2.1); (case side5 => exact cv_ HO_331000); (case side6 => exact (Kd.V_reads' HO_331000.out).2.1); (case side7 => exact cv_ HO_331001); (case side8 => exact (Kd.V_reads' HO_331001.out).2.1); rintro e w314 ⟨rfl, hb⟩; replace HO_331000 := mk0 (Kd.V_below (v_ HO_331000) hb); replace HO_331001 := mk0 (Kd.V_below (v_ HO_331001) hb); replace HO_340000 := mk0 (Kd.R_below (r_ HO_340000) hb); replace HO_340001 := mk0 (Kd.Q_below (q_ HO_340001) hb); replace HO_342000 := mk0 (Kd.R_below (r_ HO_342000) hb); replace HO_342001 := mk0 (Kd.Q_below (q_ HO_342001) hb); replace HO_343000 := mk0 (Kd.R_below (r_ HO_343000) hb); replace HO_343001 := mk0 (Kd.Q_below (q_ HO_343001) hb); replace BK330 := mk0 (u_ BK330 hb); replace BK331 := mk0 (u_ BK331 hb); replace BK332 := mk0 (u_ BK332 hb); replace BK339 := mk0 (u_ BK339 hb); replace BK341 := mk0 (u_ BK341 hb); replace BK342 := mk0 (u_ BK342 hb); replace HB := mk0 (bt_ (b_ HB) hb); (try clear hb)))
         go_meet
         case rel => exact ⟨_, (true), (by first | rfl | (simp; done) | (simp [*]; done)), H', ⟨by have := HJ5.out; first | omega | exact Nat.le_refl _⟩, ⟨by (with_reducible repeat (first | apply Kd.V_alloc | apply Kd.V_drewN | apply Kd.V_drew)); exact HO_331000.out⟩, ⟨by (with_reducible repeat (first | apply Kd.V_alloc | apply Kd.V_drewN | apply Kd.V_drew)); exact HO_331001.out⟩, ⟨by (with_reducible repeat (first | apply Ra_ | apply Rn_ | apply Rd_)); exact HO_340000.out⟩, ⟨by (with_reducible repeat (first | apply Kd.Q_alloc | apply Kd.Q_drewN | apply Kd.Q_drew)); exact HO_340001.out⟩, ⟨by (with_reducible repeat (first | apply Ra_ | apply Rn_ | apply Rd_)); exact HO_342000.out⟩, ⟨by (with_reducible repeat (first | apply Kd.Q_alloc | apply Kd.Q_drewN | apply Kd.Q_drew)); exact HO_342001.out⟩, ⟨by (with_reducible repeat (first | apply Ra_ | apply Rn_ | apply Rd_)); exact HO_343000.out⟩, ⟨by (with_reducible repeat (first | apply Kd.Q_alloc | apply Kd.Q_drewN | apply Kd.Q_drew)); exact HO_343001.out⟩, ⟨h_ BK330⟩, ⟨h_ BK331⟩, ⟨h_ BK332⟩, ⟨h_ BK339⟩, ⟨h_ BK341⟩, ⟨h_ BK342⟩, ⟨b_ HB⟩⟩
       ·rw [if_neg c260] at H
        have c260b0 : (x11_5 == x12_5) = false := beq_eq_false_iff_ne.mpr c260
        have c260b1 : (x11_5 != x12_5) = true := bne_iff_ne.mpr c260
        have H' := mk0 H
        clear H
        go_wp2_with (first | ((with_reducible refine gate_callee (f := 35) rfl ?_); refine gL_ (some 139) Try.func35 #[.int .i64 x13_5] (h := ?_); (with_reducible refine (quorumlaw5_num.calls x13_5 t398 _ A256.out).mono ?_); rintro e w' ⟨rfl, ⟨nd, rfl⟩⟩; refine ⟨_, rfl, ?_⟩; have hnb315 := NB341_330.out; have hnc315 := NB330_341.out; have hnb316 := NB341_331.out; have hnc316 := NB331_341.out; have hnb317 := NB341_332.out; have hnc317 := NB332_341.out; have hnb318 := NB341_339.out; have hnc318 := NB339_341.out; have hnb319 := NB341_342.out; have hnc319 := NB342_341.out; obtain ⟨hcz320_0, hcz320_1, hfz320_0, hfz320_1⟩ := c2_ BK341; have hnb321 := NB342_330.out; have hnc321 := NB330_342.out; have hnb322 := NB342_331.out; have hnc322 := NB331_342.out; have hnb323 := NB342_332.out; have hnc323 := NB332_342.out; have hnb324 := NB342_339.out; have hnc324 := NB339_342.out; obtain ⟨hcz325_0, hcz325_1, hfz325_0, hfz325_1⟩ := c2_ BK342; obtain ⟨Ao326, co326, eo326⟩ := Kd.R_slice HO_342000.out; subst eo326; obtain ⟨Ao327, co327, eo327, _⟩ := Kd.Q_slice HO_342001.out; subst eo327; obtain ⟨Ao328, co328, eo328⟩ := Kd.R_slice HO_343000.out; subst eo328; obtain ⟨Ao329, co329, eo329, _⟩ := Kd.Q_slice HO_343001.out; subst eo329) | (go_at_call 39; (with_reducible refine (quorumref0_EqPage.calls kj5 _ _ x342000_5 _ _ x342001_5 _ _ x343000_5 _ _ x343001_5 true _ ?side1 ?side2 ?side3 ?side4 ?side5 ?side6 ?side7 ?side8 A258.out).mono ?_); (case side1 => exact cr_ HO_342000); (case side2 => exact (Kd.R_reads' HO_342000.out).2.1); (case side3 => exact cq_ HO_342001); (case side4 => exact (Kd.Q_reads' HO_342001.out).2.1); (case side5 => exact cr_ HO_343000); (case side6 => exact (Kd.R_reads' HO_343000.out).2.1); (case side7 => exact cq_ HO_343001); (case side8 => exact (Kd.Q_reads' HO_343001.out).2.1); rintro e w330 ⟨rfl, hb⟩; replace HO_331000 := mk0 (Kd.V_below (v_ HO_331000) hb); replace HO_331001 := mk0 (Kd.V_below (v_ HO_331001) hb); replace HO_340000 := mk0 (Kd.R_below (r_ HO_340000) hb); replace HO_340001 := mk0 (Kd.Q_below (q_ HO_340001) hb); replace HO_342000 := mk0 (Kd.R_below (r_ HO_342000) hb); replace HO_342001 := mk0 (Kd.Q_below (q_ HO_342001) hb); replace HO_343000 := mk0 (Kd.R_below (r_ HO_343000) hb); replace HO_343001 := mk0 (Kd.Q_below (q_ HO_343001) hb); replace BK330 := mk0 (u_ BK330 hb); replace BK331 := mk0 (u_ BK331 hb); replace BK332 := mk0 (u_ BK332 hb); replace BK339 := mk0 (u_ BK339 hb); replace BK341 := mk0 (u_ BK341 hb); replace BK342 := mk0 (u_ BK342 hb); replace HB := mk0 (bt_ (b_ HB) hb); (try clear hb)))
        go_meet
        case rel => exact ⟨_, (true), (by first | rfl | (simp; done) | (simp [*]; done)), H', ⟨by have := HJ5.out; first | omega | exact Nat.le_refl _⟩, ⟨by (with_reducible repeat (first | apply Kd.V_alloc | apply Kd.V_drewN | apply Kd.V_drew)); exact HO_331000.out⟩, ⟨by (with_reducible repeat (first | apply Kd.V_alloc | apply Kd.V_drewN | apply Kd.V_drew)); exact HO_331001.out⟩, ⟨by (with_reducible repeat (first | apply Ra_ | apply Rn_ | apply Rd_)); exact HO_340000.out⟩, ⟨by (with_reducible repeat (first | apply Kd.Q_alloc | apply Kd.Q_drewN | apply Kd.Q_drew)); exact HO_340001.out⟩, ⟨by (with_reducible repeat (first | apply Ra_ | apply Rn_ | apply Rd_)); exact HO_342000.out⟩, ⟨by (with_reducible repeat (first | apply Kd.Q_alloc | apply Kd.Q_drewN | apply Kd.Q_drew)); exact HO_342001.out⟩, ⟨by (with_reducible repeat (first | apply Ra_ | apply Rn_ | apply Rd_)); exact HO_343000.out⟩, ⟨by (with_reducible repeat (first | apply Kd.Q_alloc | apply Kd.Q_drewN | apply Kd.Q_drew)); exact HO_343001.out⟩, ⟨h_ BK330⟩, ⟨h_ BK331⟩, ⟨h_ BK332⟩, ⟨h_ BK339⟩, ⟨h_ BK341⟩, ⟨h_ BK342⟩, ⟨b_ HB⟩⟩
      ·replace c259 := Bool.eq_false_iff.mpr c259
       subst c259
       rw [if_neg (show ¬ (false = true) by decide)] at H
       have H' := mk0 H
       clear H
       go_wp2_with (first | ((with_reducible refine gate_callee (f := 35) rfl ?_); refine gL_ (some 139) Try.func35 #[.int .i64 x13_5] (h := ?_); (with_reducible refine (quorumlaw5_num.calls x13_5 t398 _ A256.out).mono ?_); rintro e w' ⟨rfl, ⟨nd, rfl⟩⟩; refine ⟨_, rfl, ?_⟩; have hnb331 := NB341_330.out; have hnc331 := NB330_341.out; have hnb332 := NB341_331.out; have hnc332 := NB331_341.out; have hnb333 := NB341_332.out; have hnc333 := NB332_341.out; have hnb334 := NB341_339.out; have hnc334 := NB339_341.out; have hnb335 := NB341_342.out; have hnc335 := NB342_341.out; obtain ⟨hcz336_0, hcz336_1, hfz336_0, hfz336_1⟩ := c2_ BK341; have hnb337 := NB342_330.out; have hnc337 := NB330_342.out; have hnb338 := NB342_331.out; have hnc338 := NB331_342.out; have hnb339 := NB342_332.out; have hnc339 := NB332_342.out; have hnb340 := NB342_339.out; have hnc340 := NB339_342.out; obtain ⟨hcz341_0, hcz341_1, hfz341_0, hfz341_1⟩ := c2_ BK342; obtain ⟨Ao342, co342, eo342⟩ := Kd.R_slice HO_342000.out; subst eo342; obtain ⟨Ao343, co343, eo343, _⟩ := Kd.Q_slice HO_342001.out; subst eo343; obtain ⟨Ao344, co344, eo344⟩ := Kd.R_slice HO_343000.out; subst eo344; obtain ⟨Ao345, co345, eo345, _⟩ := Kd.Q_slice HO_343001.out; subst eo345) | (go_at_call 39; (with_reducible refine (quorumref0_EqPage.calls kj5 _ _ x342000_5 _ _ x342001_5 _ _ x343000_5 _ _ x343001_5 false _ ?side1 ?side2 ?side3 ?side4 ?side5 ?side6 ?side7 ?side8 A258.out).mono ?_); (case side1 => exact cr_ HO_342000); (case side2 => exact (Kd.R_reads' HO_342000.out).2.1); (case side3 => exact cq_ HO_342001); (case side4 => exact (Kd.Q_reads' HO_342001.out).2.1); (case side5 => exact cr_ HO_343000); (case side6 => exact (Kd.R_reads' HO_343000.out).2.1); (case side7 => exact cq_ HO_343001); (case side8 => exact (Kd.Q_reads' HO_343001.out).2.1); rintro e w346 ⟨rfl, hb⟩; replace HO_331000 := mk0 (Kd.V_below (v_ HO_331000) hb); replace HO_331001 := mk0 (Kd.V_below (v_ HO_331001) hb); replace HO_340000 := mk0 (Kd.R_below (r_ HO_340000) hb); replace HO_340001 := mk0 (Kd.Q_below (q_ HO_340001) hb); replace HO_342000 := mk0 (Kd.R_below (r_ HO_342000) hb); replace HO_342001 := mk0 (Kd.Q_below (q_ HO_342001) hb); replace HO_343000 := mk0 (Kd.R_below (r_ HO_343000) hb); replace HO_343001 := mk0 (Kd.Q_below (q_ HO_343001) hb); replace BK330 := mk0 (u_ BK330 hb); replace BK331 := mk0 (u_ BK331 hb); replace BK332 := mk0 (u_ BK332 hb); replace BK339 := mk0 (u_ BK339 hb); replace BK341 := mk0 (u_ BK341 hb); replace BK342 := mk0 (u_ BK342 hb); replace HB := mk0 (bt_ (b_ HB) hb); (try clear hb)))
       go_meet
       case rel => exact ⟨_, (true), (by first | rfl | (simp; done) | (simp [*]; done)), H', ⟨by have := HJ5.out; first | omega | exact Nat.le_refl _⟩, ⟨by (with_reducible repeat (first | apply Kd.V_alloc | apply Kd.V_drewN | apply Kd.V_drew)); exact HO_331000.out⟩, ⟨by (with_reducible repeat (first | apply Kd.V_alloc | apply Kd.V_drewN | apply Kd.V_drew)); exact HO_331001.out⟩, ⟨by (with_reducible repeat (first | apply Ra_ | apply Rn_ | apply Rd_)); exact HO_340000.out⟩, ⟨by (with_reducible repeat (first | apply Kd.Q_alloc | apply Kd.Q_drewN | apply Kd.Q_drew)); exact HO_340001.out⟩, ⟨by (with_reducible repeat (first | apply Ra_ | apply Rn_ | apply Rd_)); exact HO_342000.out⟩, ⟨by (with_reducible repeat (first | apply Kd.Q_alloc | apply Kd.Q_drewN | apply Kd.Q_drew)); exact HO_342001.out⟩, ⟨by (with_reducible repeat (first | apply Ra_ | apply Rn_ | apply Rd_)); exact HO_343000.out⟩, ⟨by (with_reducible repeat (first | apply Kd.Q_alloc | apply Kd.Q_drewN | apply Kd.Q_drew)); exact HO_343001.out⟩, ⟨h_ BK330⟩, ⟨h_ BK331⟩, ⟨h_ BK332⟩, ⟨h_ BK339⟩, ⟨h_ BK341⟩, ⟨h_ BK342⟩, ⟨b_ HB⟩⟩
     ·rw [if_neg c257] at H
      have c257b0 : (t398 == x8_5) = false := beq_eq_false_iff_ne.mpr c257
      have c257b1 : (t398 != x8_5) = true := bne_iff_ne.mpr c257
      (first | rw [c257b0] | (simp only [i64_w, i32_w]; rw [c257b0]) | skip)
      have H' := mk0 H
      clear H
      go_wp2_with (first | ((with_reducible refine gate_callee (f := 35) rfl ?_); refine gL_ (some 139) Try.func35 #[.int .i64 x13_5] (h := ?_); (with_reducible refine (quorumlaw5_num.calls x13_5 t398 _ A256.out).mono ?_); rintro e w' ⟨rfl, ⟨nd, rfl⟩⟩; refine ⟨_, rfl, ?_⟩))
      go_meet
      case rel => exact ⟨_, (true), (by first | rfl | (simp; done) | (simp [*]; done)), H', ⟨by have := HJ5.out; first | omega | exact Nat.le_refl _⟩, ⟨by (with_reducible repeat (first | apply Kd.V_alloc | apply Kd.V_drewN | apply Kd.V_drew)); exact HO_331000.out⟩, ⟨by (with_reducible repeat (first | apply Kd.V_alloc | apply Kd.V_drewN | apply Kd.V_drew)); exact HO_331001.out⟩, ⟨by (with_reducible repeat (first | apply Ra_ | apply Rn_ | apply Rd_)); exact HO_340000.out⟩, ⟨by (with_reducible repeat (first | apply Kd.Q_alloc | apply Kd.Q_drewN | apply Kd.Q_drew)); exact HO_340001.out⟩, ⟨by (with_reducible repeat (first | apply Ra_ | apply Rn_ | apply Rd_)); exact HO_342000.out⟩, ⟨by (with_reducible repeat (first | apply Kd.Q_alloc | apply Kd.Q_drewN | apply Kd.Q_drew)); exact HO_342001.out⟩, ⟨by (with_reducible repeat (first | apply Ra_ | apply Rn_ | apply Rd_)); exact HO_343000.out⟩, ⟨by (with_reducible repeat (first | apply Kd.Q_alloc | apply Kd.Q_drewN | apply Kd.Q_drew)); exact HO_343001.out⟩, ⟨h_ BK330⟩, ⟨h_ BK331⟩, ⟨h_ BK332⟩, ⟨h_ BK339⟩, ⟨h_ BK341⟩, ⟨h_ BK342⟩, ⟨b_ HB⟩⟩
    case rest =>
     clear HC255
     try clear c30
     try clear c31
     try clear c33
     try clear c131
     try clear c131b0
     try clear c131b1
     try clear c185
     try clear c185b0
     try clear c185b1
     try clear c186
     try clear c186b0
     try clear c186b1
     try clear c208
     try clear c257
     try clear c257b0
     try clear c257b1
     try clear c259
     try clear c260
     try clear c260b0
     try clear c260b1
     try clear c262
     try clear hcz215_0
     try clear hcz215_1
     try clear hcz220_0
     try clear hcz220_1
     try clear hcz220_2
     try clear hcz226_0
     try clear hcz226_1
     try clear hcz230_0
     try clear hcz230_1
     try clear hcz231_0
     try clear hcz231_1
     try clear hcz231_2
     try clear hcz235_0
     try clear hcz235_1
     try clear hcz242_0
     try clear hcz242_1
     try clear hcz247_0
     try clear hcz247_1
     try clear hcz247_2
     try clear hcz253_0
     try clear hcz253_1
     try clear hcz270_0
     try clear hcz270_1
     try clear hcz275_0
     try clear hcz275_1
     try clear hcz284_0
     try clear hcz284_1
     try clear hcz287_0
     try clear hcz287_1
     try clear hcz289_0
     try clear hcz289_1
     try clear hcz296_0
     try clear hcz296_1
     try clear hcz301_0
     try clear hcz301_1
     try clear hcz310_0
     try clear hcz310_1
     try clear hcz313_0
     try clear hcz313_1
     try clear hcz320_0
     try clear hcz320_1
     try clear hcz325_0
     try clear hcz325_1
     try clear hcz336_0
     try clear hcz336_1
     try clear hcz341_0
     try clear hcz341_1
     try clear hfz215_0
     try clear hfz215_1
     try clear hfz220_0
     try clear hfz220_1
     try clear hfz220_2
     try clear hfz226_0
     try clear hfz226_1
     try clear hfz230_0
     try clear hfz230_1
     try clear hfz231_0
     try clear hfz231_1
     try clear hfz231_2
     try clear hfz235_0
     try clear hfz235_1
     try clear hfz242_0
     try clear hfz242_1
     try clear hfz247_0
     try clear hfz247_1
     try clear hfz247_2
     try clear hfz253_0
     try clear hfz253_1
     try clear hfz270_0
     try clear hfz270_1
     try clear hfz275_0
     try clear hfz275_1
     try clear hfz284_0
     try clear hfz284_1
     try clear hfz287_0
     try clear hfz287_1
     try clear hfz289_0
     try clear hfz289_1
     try clear hfz296_0
     try clear hfz296_1
     try clear hfz301_0
     try clear hfz301_1
     try clear hfz310_0
     try clear hfz310_1
     try clear hfz313_0
     try clear hfz313_1
     try clear hfz320_0
     try clear hfz320_1
     try clear hfz325_0
     try clear hfz325_1
     try clear hfz336_0
     try clear hfz336_1
     try clear hfz341_0
     try clear hfz341_1
     obtain ⟨kq, x166_254, rfl, HA, HJ254, HO_331000, HO_331001, HO_340000, HO_340001, HO_342000, HO_342001, HO_343000, HO_343001, BK330, BK331, BK332, BK339, BK341, BK342, HB⟩ := hcut
     cases kq with
     | zero => exact absurd HA.out (by simp [quorumlaw5_step.j4])
     | succ kj254 =>
      have H := HA.out
      clear HA
      simp only [quorumlaw5_step.j4] at H
      as_aux_lemma =>
       by_cases c347 : x166_254 = true
       ·subst c347
        rw [if_pos rfl] at H
        simp only [Option.some.injEq, Prod.mk.injEq] at H
        obtain ⟨rfl, rfl, rfl⟩ := H
        have hnb348 := NB330_331.out
        have hnc348 := NB331_330.out
        have hnb349 := NB330_332.out
        have hnc349 := NB332_330.out
        have hnb350 := NB330_339.out
        have hnc350 := NB339_330.out
        have hnb351 := NB330_341.out
        have hnc351 := NB341_330.out
        have hnb352 := NB330_342.out
        have hnc352 := NB342_330.out
        obtain ⟨hcz353_0, hcz353_1, hfz353_0, hfz353_1⟩ := c2_ BK330
        have hnb354 := NB332_331.out
        have hnc354 := NB331_332.out
        have hnb355 := NB332_339.out
        have hnc355 := NB339_332.out
        have hnb356 := NB332_341.out
        have hnc356 := NB341_332.out
        have hnb357 := NB332_342.out
        have hnc357 := NB342_332.out
        obtain ⟨hcz358_0, hcz358_1, hfz358_0, hfz358_1⟩ := c2_ BK332
        go_wp2
        refine bodyPost_ret (results_ct rfl _ _ gb332 56 #[.slice A0_0 l0_0.length c0_0, .slice A0_1 l0_1.length c0_1] (0, 0) _ rfl (pu_ (cs := #[.slice A0_0 l0_0.length c0_0, .slice none 0 0]) (pu_ (cs := #[.slice none 0 0, .slice none 0 0]) (h_ BK332))) Try.underlying56 rfl (by kernel_rfl)) rfl ?_
        exact ⟨_, _, by first | rfl | (simp [errW_none, errW_some] <;> rfl) | (simp [*, errW_none, errW_some] <;> rfl), by (with_reducible repeat (first | apply Kd.V_alloc | apply Kd.V_drewN | apply Kd.V_drew)); exact Kd.V_mono (Kd.V_far (p := ⟨gb332, 1, none⟩) (Kd.V_far (p := ⟨gb332, 0, none⟩) (Kd.V_mono HO_331000.out (fun k_ hk => (⟨hk, hk.2.2.2.2.2.2.2.2.2.1⟩ : _ ∧ k_ ≠ gb332))) (fun _ hk => hk.2) (.slice A0_0 l0_0.length c0_0)) (fun _ hk => hk.2) (.slice A0_1 l0_1.length c0_1)) (fun _ hk => hk.1.1), by (with_reducible repeat (first | apply Kd.V_alloc | apply Kd.V_drewN | apply Kd.V_drew)); exact Kd.V_mono (Kd.V_far (p := ⟨gb332, 1, none⟩) (Kd.V_far (p := ⟨gb332, 0, none⟩) (Kd.V_mono HO_331001.out (fun k_ hk => (⟨hk, hk.2.2.2.2.2.2.2.2.2.1⟩ : _ ∧ k_ ≠ gb332))) (fun _ hk => hk.2) (.slice A0_0 l0_0.length c0_0)) (fun _ hk => hk.2) (.slice A0_1 l0_1.length c0_1)) (fun _ hk => hk.1.1), b_ HB⟩
       focus
        replace c347 := Bool.eq_false_iff.mpr c347
        subst c347
        rw [if_neg (show ¬ (false = true) by decide)] at H
        replace H := Option.bind_eq_some_iff.mp H
        obtain ⟨⟨t403, t404⟩, A3590, H⟩ := H
        try dsimp only at H
        have A359 := mk0 A3590
        clear A3590
        replace H := Option.bind_eq_some_iff.mp H
        obtain ⟨t405, A3600, H⟩ := H
        try dsimp only at H
        have A360 := mk0 A3600
        clear A3600
        by_cases c361 : t405 = true
        focus
         subst c361
         rw [if_pos rfl] at H
         by_cases c362 : x8_5 = 0
         focus
          rw [if_pos c362] at H
          have c362b0 : (x8_5 == 0) = true := beq_iff_eq.mpr c362
          have c362b1 : (x8_5 != 0) = false := bne_eq_false_iff_eq.mpr c362
          clear c362
          replace H := Option.bind_eq_some_iff.mp H
          obtain ⟨⟨t406, t409⟩, A3630, H⟩ := H
          try dsimp only at H
          have A363 := mk0 A3630
          clear A3630
          simp only [Option.some.injEq, Prod.mk.injEq] at H
          obtain ⟨rfl, rfl, rfl⟩ := H
          have hnb364 := NB341_330.out
          have hnc364 := NB330_341.out
          have hnb365 := NB341_331.out
          have hnc365 := NB331_341.out
          have hnb366 := NB341_332.out
          have hnc366 := NB332_341.out
          have hnb367 := NB341_339.out
          have hnc367 := NB339_341.out
          have hnb368 := NB341_342.out
          have hnc368 := NB342_341.out
          obtain ⟨hcz369_0, hcz369_1, hfz369_0, hfz369_1⟩ := c2_ BK341
          obtain ⟨Ao370, co370, eo370⟩ := Kd.R_slice HO_342000.out
          subst eo370
          obtain ⟨Ao371, co371, eo371, _⟩ := Kd.Q_slice HO_342001.out
          subst eo371
         rotate_left 1
         focus
          rw [if_neg c362] at H
          have c362b0 : (x8_5 == 0) = false := beq_eq_false_iff_ne.mpr c362
          have c362b1 : (x8_5 != 0) = true := bne_iff_ne.mpr c362
          simp only [Option.some.injEq, Prod.mk.injEq] at H
          obtain ⟨rfl, rfl, rfl⟩ := H
          have hnb393 := NB341_330.out
          have hnc393 := NB330_341.out
          have hnb394 := NB341_331.out
          have hnc394 := NB331_341.out
          have hnb395 := NB341_332.out
          have hnc395 := NB332_341.out
          have hnb396 := NB341_339.out
          have hnc396 := NB339_341.out
          have hnb397 := NB341_342.out
          have hnc397 := NB342_341.out
          obtain ⟨hcz398_0, hcz398_1, hfz398_0, hfz398_1⟩ := c2_ BK341
          obtain ⟨Ao370, co370, eo399⟩ := Kd.R_slice HO_342000.out
          subst eo399
          obtain ⟨Ao371, co371, eo400, _⟩ := Kd.Q_slice HO_342001.out
          subst eo400
         rotate_right 1
        rotate_left 2
        focus
         replace c361 := Bool.eq_false_iff.mpr c361
         subst c361
         rw [if_neg (show ¬ (false = true) by decide)] at H
         simp only [Option.some.injEq, Prod.mk.injEq] at H
         obtain ⟨rfl, rfl, rfl⟩ := H
         have hnb416 := NB341_330.out
         have hnc416 := NB330_341.out
         have hnb417 := NB341_331.out
         have hnc417 := NB331_341.out
         have hnb418 := NB341_332.out
         have hnc418 := NB332_341.out
         have hnb419 := NB341_339.out
         have hnc419 := NB339_341.out
         have hnb420 := NB341_342.out
         have hnc420 := NB342_341.out
         obtain ⟨hcz421_0, hcz421_1, hfz421_0, hfz421_1⟩ := c2_ BK341
         obtain ⟨Ao370, co370, eo422⟩ := Kd.R_slice HO_342000.out
         subst eo422
         obtain ⟨Ao371, co371, eo423, _⟩ := Kd.Q_slice HO_342001.out
         subst eo423
        rotate_right 2
       all_goals go_wp2_with (first | ((with_reducible refine gate_callee (f := 87) rfl ?_); refine gL_ (some 169) Try.func87 #[.agg #[.slice Ao370 x342000_5.length co370, .slice Ao371 x342001_5.length co371]] (h := ?_); (with_reducible refine (quorumlaw0_Page.calls kj254 (fun k_ => some k_ = (.slice Ao370 x342000_5.length co370 : Value).ownBlock) (.slice Ao370 x342000_5.length co370) x342000_5 (fun k_ => some k_ = (.slice Ao371 x342001_5.length co371 : Value).ownBlock) (.slice Ao371 x342001_5.length co371) x342001_5 t403 t404 w _ ?side1 ?side2 ?side3 A359.out).mono ?_); (case side1 => repeat (first | (with_reducible first | exact HB.out | apply bL_ | apply pN_ | apply b1_ | refine bs_ ?_ GE330.out | refine bs_ ?_ GE331.out | refine bs_ ?_ GE332.out | refine bs_ ?_ GE339.out | refine bs_ ?_ GE341.out | refine bs_ ?_ GE342.out) | exact HB.out)); (case side2 => exact Kd.R_tight rfl HO_342000.out); (case side3 => exact Kd.Q_tight rfl (HO_342001.out)); rintro e w372 ⟨rfl, hy0, hy1, hb, hkp⟩; refine ⟨_, rfl, ?_⟩; have n2_ := mk0 (Kd.R_mono (ok' := fun k_ => (w.heap.size ≤ k_) ∧ some k_ ≠ (.slice Ao370 x342000_5.length co370 : Value).ownBlock ∧ some k_ ≠ (u343000 : Value).ownBlock) (Kd.R_keptB ((Kd.R_apart' HO_340000.out (Kd.Q_typed HO_342001.out) (by decide))) hkp (fun k_ hk_ hs_ => Or.elim hs_ (fun e_ => (hk_.1.2.1) e_) (fun e_ => (hk_.2) e_))) (fun k_ hk_ => ⟨hk_.1.1.1, hk_.1.1.2.1, hk_.1.1.2.2⟩)); have n3_ := mk0 (Kd.Q_mono (ok' := fun k_ => (w.heap.size ≤ k_) ∧ some k_ ≠ (.slice Ao371 x342001_5.length co371 : Value).ownBlock ∧ some k_ ≠ (u343001 : Value).ownBlock) (Kd.Q_keptB ((Kd.Q_apart' HO_340001.out (Kd.R_typed HO_342000.out) (by decide))) hkp (fun k_ hk_ hs_ => Or.elim hs_ (fun e_ => (hk_.2) e_) (fun e_ => (hk_.1.2.1) e_))) (fun k_ hk_ => ⟨hk_.1.1.1, hk_.1.1.2.1, hk_.1.1.2.2⟩)); have n6_ := mk0 (Kd.R_mono (ok' := fun k_ => (w.heap.size ≤ k_) ∧ some k_ ≠ (.slice Ao15 t333.length co15 : Value).ownBlock ∧ some k_ ≠ (.slice Ao370 x342000_5.length co370 : Value).ownBlock) (Kd.R_keptB ((Kd.R_apart' HO_343000.out (Kd.Q_typed HO_342001.out) (by decide))) hkp (fun k_ hk_ hs_ => Or.elim hs_ (fun e_ => (hk_.1.2.2) e_) (fun e_ => (hk_.2) e_))) (fun k_ hk_ => ⟨hk_.1.1.1, hk_.1.1.2.1, hk_.1.1.2.2⟩)); have n7_ := mk0 (Kd.Q_mono (ok' := fun k_ => (w.heap.size ≤ k_) ∧ some k_ ≠ (.slice Ao20 t336.length co20 : Value).ownBlock ∧ some k_ ≠ (.slice Ao371 x342001_5.length co371 : Value).ownBlock) (Kd.Q_keptB ((Kd.Q_apart' HO_343001.out (Kd.R_typed HO_342000.out) (by decide))) hkp (fun k_ hk_ hs_ => Or.elim hs_ (fun e_ => (hk_.2) e_) (fun e_ => (hk_.1.2.2) e_))) (fun k_ hk_ => ⟨hk_.1.1.1, hk_.1.1.2.1, hk_.1.1.2.2⟩)); have n8_ := mk0 (blk_kept (h_ BK330) hkp (fun hs_ => Or.elim hs_ (fun e_ => (fun e_ => (Kd.R_ne HO_342000.out BK330.out (by decide)) e_) e_) (fun e_ => (fun e_ => (Kd.Q_ne HO_342001.out BK330.out (by decide)) e_) e_))); have n9_ := mk0 (blk_kept (h_ BK331) hkp (fun hs_ => Or.elim hs_ (fun e_ => (fun e_ => (Kd.R_ne HO_342000.out BK331.out (by decide)) e_) e_) (fun e_ => (fun e_ => (Kd.Q_ne HO_342001.out BK331.out (by decide)) e_) e_))); have n10_ := mk0 (blk_kept (h_ BK332) hkp (fun hs_ => Or.elim hs_ (fun e_ => (fun e_ => (Kd.R_ne HO_342000.out BK332.out (by decide)) e_) e_) (fun e_ => (fun e_ => (Kd.Q_ne HO_342001.out BK332.out (by decide)) e_) e_))); have n11_ := mk0 (blk_kept (h_ BK339) hkp (fun hs_ => Or.elim hs_ (fun e_ => (fun e_ => (Kd.R_ne HO_342000.out BK339.out (by decide)) e_) e_) (fun e_ => (fun e_ => (Kd.Q_ne HO_342001.out BK339.out (by decide)) e_) e_))); have n12_ := mk0 (blk_kept (h_ BK341) hkp (fun hs_ => Or.elim hs_ (fun e_ => (fun e_ => (Kd.R_ne HO_342000.out BK341.out (by decide)) e_) e_) (fun e_ => (fun e_ => (Kd.Q_ne HO_342001.out BK341.out (by decide)) e_) e_))); have n13_ := mk0 (blk_kept (h_ BK342) hkp (fun hs_ => Or.elim hs_ (fun e_ => (fun e_ => (Kd.R_ne HO_342000.out BK342.out (by decide)) e_) e_) (fun e_ => (fun e_ => (Kd.Q_ne HO_342001.out BK342.out (by decide)) e_) e_))); replace HO_331000 := mk0 (Kd.V_mono (ok' := fun k_ => ((P0_0_ k_ ∨ P0_1_ k_) ∨ w.heap.size ≤ k_) ∧ some k_ ≠ (.slice Ao15 t333.length co15 : Value).ownBlock ∧ some k_ ≠ (.slice Ao20 t336.length co20 : Value).ownBlock ∧ some k_ ≠ (.slice Ao370 x342000_5.length co370 : Value).ownBlock ∧ some k_ ≠ (.slice Ao371 x342001_5.length co371 : Value).ownBlock ∧ some k_ ≠ (u343000 : Value).ownBlock ∧ some k_ ≠ (u343001 : Value).ownBlock ∧ k_ ≠ gb330 ∧ k_ ≠ gb331 ∧ k_ ≠ gb332 ∧ k_ ≠ gb339 ∧ k_ ≠ gb341 ∧ k_ ≠ gb342) (Kd.V_keptB (HO_331000.out) hkp (fun k_ hk_ hs_ => Or.elim hs_ (fun e_ => (hk_.2.2.2.1) e_) (fun e_ => (hk_.2.2.2.2.1) e_))) (fun k_ hk_ => ⟨hk_.1.1, hk_.1.2.1, hk_.1.2.2.1, hk_.1.2.2.2.1, hk_.1.2.2.2.2.1, hk_.1.2.2.2.2.2.1, hk_.1.2.2.2.2.2.2.1, hk_.1.2.2.2.2.2.2.2.1, hk_.1.2.2.2.2.2.2.2.2.1, hk_.1.2.2.2.2.2.2.2.2.2.1, hk_.1.2.2.2.2.2.2.2.2.2.2.1, hk_.1.2.2.2.2.2.2.2.2.2.2.2.1, hk_.1.2.2.2.2.2.2.2.2.2.2.2.2⟩)); replace HO_331001 := mk0 (Kd.V_mono (ok' := fun k_ => ((P0_0_ k_ ∨ P0_1_ k_) ∨ w.heap.size ≤ k_) ∧ some k_ ≠ (.slice Ao15 t333.length co15 : Value).ownBlock ∧ some k_ ≠ (.slice Ao20 t336.length co20 : Value).ownBlock ∧ some k_ ≠ (.slice Ao370 x342000_5.length co370 : Value).ownBlock ∧ some k_ ≠ (.slice Ao371 x342001_5.length co371 : Value).ownBlock ∧ some k_ ≠ (u343000 : Value).ownBlock ∧ some k_ ≠ (u343001 : Value).ownBlock ∧ k_ ≠ gb330 ∧ k_ ≠ gb331 ∧ k_ ≠ gb332 ∧ k_ ≠ gb339 ∧ k_ ≠ gb341 ∧ k_ ≠ gb342) (Kd.V_keptB (HO_331001.out) hkp (fun k_ hk_ hs_ => Or.elim hs_ (fun e_ => (hk_.2.2.2.1) e_) (fun e_ => (hk_.2.2.2.2.1) e_))) (fun k_ hk_ => ⟨hk_.1.1, hk_.1.2.1, hk_.1.2.2.1, hk_.1.2.2.2.1, hk_.1.2.2.2.2.1, hk_.1.2.2.2.2.2.1, hk_.1.2.2.2.2.2.2.1, hk_.1.2.2.2.2.2.2.2.1, hk_.1.2.2.2.2.2.2.2.2.1, hk_.1.2.2.2.2.2.2.2.2.2.1, hk_.1.2.2.2.2.2.2.2.2.2.2.1, hk_.1.2.2.2.2.2.2.2.2.2.2.2.1, hk_.1.2.2.2.2.2.2.2.2.2.2.2.2⟩)); replace HO_342000 := mk0 (Kd.R_reok rfl hy0 (fun k_ e_ => HO_342000.out.1 k_ e_)); replace HO_342001 := mk0 (Q_reok_ rfl hy1 (fun k_ e_ => HO_342001.out.1 k_ e_)); replace HB := mk0 (hb); clear HO_340000 HO_340001 HO_343000 HO_343001 BK330 BK331 BK332 BK339 BK341 BK342; have HO_340000 := n2_; have HO_340001 := n3_; have HO_343000 := n6_; have HO_343001 := n7_; have BK330 := n8_; have BK331 := n9_; have BK332 := n10_; have BK339 := n11_; have BK341 := n12_; have BK342 := n13_; clear n2_ n3_ n6_ n7_ n8_ n9_ n10_ n11_ n12_ n13_; (try clear hb); (try clear hkp); (try clear hy0); (try clear hy1); have hnb373 := NB339_330.out; have hnc373 := NB330_339.out; have hnb374 := NB339_331.out; have hnc374 := NB331_339.out; have hnb375 := NB339_332.out; have hnc375 := NB332_339.out; have hnb376 := NB339_342.out; have hnc376 := NB342_339.out; obtain ⟨hcz377_0, hcz377_1, hfz377_0, hfz377_1⟩ := c2_ BK339; have hnb378 := NB330_331.out; have hnc378 := NB331_330.out; have hnb379 := NB330_332.out; have hnc379 := NB332_330.out; have hnb380 := NB330_342.out; have hnc380 := NB342_330.out; obtain ⟨hcz381_0, hcz381_1, hfz381_0, hfz381_1⟩ := c2_ BK330) | ((with_reducible refine gate_callee (f := 39) rfl ?_); refine gL_ (some 172) Try.func39 #[.agg #[.slice Ao15 t333.length co15, .slice Ao20 t336.length co20], .agg #[.slice A0_0 l0_0.length c0_0, .slice A0_1 l0_1.length c0_1]] (h := ?_); (with_reducible refine (quorumref0_EqPage.calls kj254 _ _ t333 _ _ t336 _ _ l0_0 _ _ l0_1 true _ ?side1 ?side2 ?side3 ?side4 ?side5 ?side6 ?side7 ?side8 A360.out).mono ?_); (case side1 => exact cr_ HO_340000); (case side2 => exact (Kd.R_reads' HO_340000.out).2.1); (case side3 => exact cq_ HO_340001); (case side4 => exact (Kd.Q_reads' HO_340001.out).2.1); (case side5 => exact cv_ HO_331000); (case side6 => exact (Kd.V_reads' HO_331000.out).2.1); (case side7 => exact cv_ HO_331001); (case side8 => exact (Kd.V_reads' HO_331001.out).2.1); rintro e w382 ⟨rfl, hb⟩; refine ⟨_, rfl, ?_⟩; replace HO_331000 := mk0 (Kd.V_below (v_ HO_331000) hb); replace HO_331001 := mk0 (Kd.V_below (v_ HO_331001) hb); replace HO_340000 := mk0 (Kd.R_below (r_ HO_340000) hb); replace HO_340001 := mk0 (Kd.Q_below (q_ HO_340001) hb); replace HO_342000 := mk0 (Kd.R_below (r_ HO_342000) hb); replace HO_342001 := mk0 (Kd.Q_below (q_ HO_342001) hb); replace HO_343000 := mk0 (Kd.R_below (r_ HO_343000) hb); replace HO_343001 := mk0 (Kd.Q_below (q_ HO_343001) hb); replace BK330 := mk0 (u_ BK330 hb); replace BK331 := mk0 (u_ BK331 hb); replace BK332 := mk0 (u_ BK332 hb); replace BK339 := mk0 (u_ BK339 hb); replace BK341 := mk0 (u_ BK341 hb); replace BK342 := mk0 (u_ BK342 hb); replace HB := mk0 (bt_ (b_ HB) hb); (try clear hb); have hnb383 := NB342_331.out; have hnc383 := NB331_342.out; have hnb384 := NB342_332.out; have hnc384 := NB332_342.out; obtain ⟨hcz385_0, hcz385_1, hfz385_0, hfz385_1⟩ := c2_ BK342; obtain ⟨Ao386, co386, eo386⟩ := Kd.R_slice HO_343000.out; subst eo386; obtain ⟨Ao387, co387, eo387, _⟩ := Kd.Q_slice HO_343001.out; subst eo387; (try obtain ⟨hcz412_0, hcz412_1, hfz412_0, hfz412_1⟩ := c2_ BK330); (try have hnb413 := NB332_331.out); (try have hnc413 := NB331_332.out); (try obtain ⟨hcz415_0, hcz415_1, hfz415_0, hfz415_1⟩ := c2_ BK332)) | ((with_reducible refine gate_callee (f := 42) rfl ?_); refine gL_ (some 179) Try.func42 #[.agg #[.slice Ao386 x343000_5.length co386, .slice Ao387 x343001_5.length co387]] (h := ?_); (with_reducible refine (quorumref0_CopyPage.calls kj254 _ _ x343000_5 _ _ x343001_5 t406 t409 _ ?side1 ?side2 ?side3 ?side4 A363.out).mono ?_); (case side1 => exact cr_ HO_343000); (case side2 => exact (Kd.R_reads' HO_343000.out).2.1); (case side3 => exact cq_ HO_343001); (case side4 => exact (Kd.Q_reads' HO_343001.out).2.1); rintro e w388 ⟨v407, v410, rfl, ho0, ho1, hb⟩; refine ⟨_, rfl, ?_⟩; have n8_ := mk0 (Kd.R_lower (Kd.R_new' (Kd.R_new' (Kd.R_new' (Kd.R_newM (M := fun k_ => (w.heap.size ≤ k_)) ho0 (bz_ (b_ HB)) (fun k_ h_ => h_)) (Kd.R_lt (r_ HO_340000))) (Kd.R_lt (r_ HO_342000))) (Kd.R_lt (r_ HO_343000))) (bz_ (b_ HB))); have n9_ := mk0 (Kd.R_lower (Kd.R_new' (Kd.R_new' (Kd.R_new' (Kd.R_newM (M := fun k_ => (w.heap.size ≤ k_)) ho1 (bz_ (b_ HB)) (fun k_ h_ => h_)) (Kd.Q_lt (q_ HO_340001))) (Kd.Q_lt (q_ HO_342001))) (Kd.Q_lt (q_ HO_343001))) (bz_ (b_ HB))); replace HO_331000 := mk0 (Kd.V_mono (Kd.V_told (Kd.V_told (Kd.V_old (v_ HO_331000) hb) (Kd.R_base ho0)) (Kd.R_base ho1)) (fun _ h_ => h_.1)); replace HO_331001 := mk0 (Kd.V_mono (Kd.V_told (Kd.V_told (Kd.V_old (v_ HO_331001) hb) (Kd.R_base ho0)) (Kd.R_base ho1)) (fun _ h_ => h_.1)); replace HO_340000 := mk0 (Kd.R_elder' (r_ HO_340000) (Kd.R_base ho0) hb); replace HO_340001 := mk0 (Kd.Q_elder' (q_ HO_340001) (Kd.R_base ho1) hb); replace HO_342000 := mk0 (Kd.R_elder' (r_ HO_342000) (Kd.R_base ho0) hb); replace HO_342001 := mk0 (Kd.Q_elder' (q_ HO_342001) (Kd.R_base ho1) hb); replace HO_343000 := mk0 (Kd.R_elder' (r_ HO_343000) (Kd.R_base ho0) hb); replace HO_343001 := mk0 (Kd.Q_elder' (q_ HO_343001) (Kd.R_base ho1) hb); replace BK330 := mk0 (u_ BK330 hb); replace BK331 := mk0 (u_ BK331 hb); replace BK332 := mk0 (u_ BK332 hb); replace BK339 := mk0 (u_ BK339 hb); replace BK341 := mk0 (u_ BK341 hb); replace BK342 := mk0 (u_ BK342 hb); replace HB := mk0 (bt_ (b_ HB) hb); have HO408 := n8_; have HO411 := n9_; clear n8_ n9_; (try clear hb); (try clear ho0); (try clear ho1); obtain ⟨Ao389, co389, eo389⟩ := Kd.R_slice HO408.out; subst eo389; have hnb390 := NB332_331.out; have hnc390 := NB331_332.out; obtain ⟨hcz391_0, hcz391_1, hfz391_0, hfz391_1⟩ := c2_ BK332; obtain ⟨Ao392, co392, eo392⟩ := Kd.R_slice HO411.out; subst eo392) | ((with_reducible refine gate_callee (f := 39) rfl ?_); refine gL_ (some 172) Try.func39 #[.agg #[.slice Ao15 t333.length co15, .slice Ao20 t336.length co20], .agg #[.slice A0_0 l0_0.length c0_0, .slice A0_1 l0_1.length c0_1]] (h := ?_); (with_reducible refine (quorumref0_EqPage.calls kj254 _ _ t333 _ _ t336 _ _ l0_0 _ _ l0_1 true _ ?side1 ?side2 ?side3 ?side4 ?side5 ?side6 ?side7 ?side8 A360.out).mono ?_); (case side1 => exact cr_ HO_340000); (case side2 => exact (Kd.R_reads' HO_340000.out).2.1); (case side3 => exact cq_ HO_340001); (case side4 => exact (Kd.Q_reads' HO_340001.out).2.1); (case side5 => exact cv_ HO_331000); (case side6 => exact (Kd.V_reads' HO_331000.out).2.1); (case side7 => exact cv_ HO_331001); (case side8 => exact (Kd.V_reads' HO_331001.out).2.1); rintro e w411 ⟨rfl, hb⟩; refine ⟨_, rfl, ?_⟩; replace HO_331000 := mk0 (Kd.V_below (v_ HO_331000) hb); replace HO_331001 := mk0 (Kd.V_below (v_ HO_331001) hb); replace HO_340000 := mk0 (Kd.R_below (r_ HO_340000) hb); replace HO_340001 := mk0 (Kd.Q_below (q_ HO_340001) hb); replace HO_342000 := mk0 (Kd.R_below (r_ HO_342000) hb); replace HO_342001 := mk0 (Kd.Q_below (q_ HO_342001) hb); replace HO_343000 := mk0 (Kd.R_below (r_ HO_343000) hb); replace HO_343001 := mk0 (Kd.Q_below (q_ HO_343001) hb); replace BK330 := mk0 (u_ BK330 hb); replace BK331 := mk0 (u_ BK331 hb); replace BK332 := mk0 (u_ BK332 hb); replace BK339 := mk0 (u_ BK339 hb); replace BK341 := mk0 (u_ BK341 hb); replace BK342 := mk0 (u_ BK342 hb); replace HB := mk0 (bt_ (b_ HB) hb); (try clear hb); obtain ⟨hcz412_0, hcz412_1, hfz412_0, hfz412_1⟩ := c2_ BK330; have hnb413 := NB332_331.out; have hnc413 := NB331_332.out; have hnb414 := NB332_342.out; have hnc414 := NB342_332.out; obtain ⟨hcz415_0, hcz415_1, hfz415_0, hfz415_1⟩ := c2_ BK332; (try have hnb383 := NB342_331.out); (try have hnc383 := NB331_342.out); (try obtain ⟨hcz385_0, hcz385_1, hfz385_0, hfz385_1⟩ := c2_ BK342)) | ((with_reducible refine gate_callee (f := 39) rfl ?_); refine gL_ (some 172) Try.func39 #[.agg #[.slice Ao15 t333.length co15, .slice Ao20 t336.length co20], .agg #[.slice A0_0 l0_0.length c0_0, .slice A0_1 l0_1.length c0_1]] (h := ?_); (with_reducible refine (quorumref0_EqPage.calls kj254 _ _ t333 _ _ t336 _ _ l0_0 _ _ l0_1 false _ ?side1 ?side2 ?side3 ?side4 ?side5 ?side6 ?side7 ?side8 A360.out).mono ?_); (case side1 => exact cr_ HO_340000); (case side2 => exact (Kd.R_reads' HO_340000.out).2.1); (case side3 => exact cq_ HO_340001); (case side4 => exact (Kd.Q_reads' HO_340001.out).2.1); (case side5 => exact cv_ HO_331000); (case side6 => exact (Kd.V_reads' HO_331000.out).2.1); (case side7 => exact cv_ HO_331001); (case side8 => exact (Kd.V_reads' HO_331001.out).2.1); rintro e w434 ⟨rfl, hb⟩; refine ⟨_, rfl, ?_⟩; replace HO_331000 := mk0 (Kd.V_below (v_ HO_331000) hb); replace HO_331001 := mk0 (Kd.V_below (v_ HO_331001) hb); replace HO_340000 := mk0 (Kd.R_below (r_ HO_340000) hb); replace HO_340001 := mk0 (Kd.Q_below (q_ HO_340001) hb); replace HO_342000 := mk0 (Kd.R_below (r_ HO_342000) hb); replace HO_342001 := mk0 (Kd.Q_below (q_ HO_342001) hb); replace HO_343000 := mk0 (Kd.R_below (r_ HO_343000) hb); replace HO_343001 := mk0 (Kd.Q_below (q_ HO_343001) hb); replace BK330 := mk0 (u_ BK330 hb); replace BK331 := mk0 (u_ BK331 hb); replace BK332 := mk0 (u_ BK332 hb); replace BK339 := mk0 (u_ BK339 hb); replace BK341 := mk0 (u_ BK341 hb); replace BK342 := mk0 (u_ BK342 hb); replace HB := mk0 (bt_ (b_ HB) hb); (try clear hb); obtain ⟨hcz435_0, hcz435_1, hfz435_0, hfz435_1⟩ := c2_ BK330; have hnb436 := NB332_331.out; have hnc436 := NB331_332.out; have hnb437 := NB332_342.out; have hnc437 := NB342_332.out; obtain ⟨hcz438_0, hcz438_1, hfz438_0, hfz438_1⟩ := c2_ BK332; (try have hnb383 := NB342_331.out); (try have hnc383 := NB331_342.out); (try obtain ⟨hcz385_0, hcz385_1, hfz385_0, hfz385_1⟩ := c2_ BK342)))
       ·refine bodyPost_ret (results_ct rfl _ _ gb332 56 #[.slice Ao389 t406.length co389, .slice Ao392 t409.length co392] (0, 0) _ rfl (pu_ (cs := #[.slice Ao389 t406.length co389, .slice none 0 0]) (pu_ (cs := #[.slice none 0 0, .slice none 0 0]) (h_ BK332))) Try.underlying56 rfl (by kernel_rfl)) rfl ?_
        exact ⟨_, _, by first | rfl | (simp [errW_none, errW_some] <;> rfl) | (simp [*, errW_none, errW_some] <;> rfl), Kd.V_mono (Kd.R_V (r2_ (Kd.R_mono (Kd.R_far (p := ⟨gb332, 1, none⟩) (Kd.R_far (p := ⟨gb332, 0, none⟩) (Kd.R_types HO408.out BK332.out (by decide)) (fun _ hk => hk.2) (.slice Ao389 t406.length co389)) (fun _ hk => hk.2) (.slice Ao392 t409.length co392)) (fun _ hk => hk.1.1.1.1.1)))) (fun k_ hk => by first | exact ⟨(.inr (hk.1)), hk.2⟩ | exact (.inr (hk))), Kd.V_mono (Kd.R_V (r2_ (Kd.R_mono (Kd.R_far (p := ⟨gb332, 1, none⟩) (Kd.R_far (p := ⟨gb332, 0, none⟩) (Kd.R_types HO411.out BK332.out (by decide)) (fun _ hk => hk.2) (.slice Ao389 t406.length co389)) (fun _ hk => hk.2) (.slice Ao392 t409.length co392)) (fun _ hk => hk.1.1.1.1.1)))) (fun k_ hk => by first | exact ⟨(.inr (hk.1)), hk.2⟩ | exact (.inr (hk))), b_ HB⟩
       ·refine bodyPost_ret (results_ct rfl _ _ gb332 56 #[.slice A0_0 l0_0.length c0_0, .slice A0_1 l0_1.length c0_1] (0, 0) _ rfl (pu_ (cs := #[.slice A0_0 l0_0.length c0_0, .slice none 0 0]) (pu_ (cs := #[.slice none 0 0, .slice none 0 0]) (h_ BK332))) Try.underlying56 rfl (by kernel_rfl)) rfl ?_
        exact ⟨_, _, by first | rfl | (simp [errW_none, errW_some] <;> rfl) | (simp [*, errW_none, errW_some] <;> rfl), by (with_reducible repeat (first | apply Kd.V_alloc | apply Kd.V_drewN | apply Kd.V_drew)); exact Kd.V_mono (Kd.V_far (p := ⟨gb332, 1, none⟩) (Kd.V_far (p := ⟨gb332, 0, none⟩) (Kd.V_mono HO_331000.out (fun k_ hk => (⟨hk, hk.2.2.2.2.2.2.2.2.2.1⟩ : _ ∧ k_ ≠ gb332))) (fun _ hk => hk.2) (.slice A0_0 l0_0.length c0_0)) (fun _ hk => hk.2) (.slice A0_1 l0_1.length c0_1)) (fun _ hk => hk.1.1), by (with_reducible repeat (first | apply Kd.V_alloc | apply Kd.V_drewN | apply Kd.V_drew)); exact Kd.V_mono (Kd.V_far (p := ⟨gb332, 1, none⟩) (Kd.V_far (p := ⟨gb332, 0, none⟩) (Kd.V_mono HO_331001.out (fun k_ hk => (⟨hk, hk.2.2.2.2.2.2.2.2.2.1⟩ : _ ∧ k_ ≠ gb332))) (fun _ hk => hk.2) (.slice A0_0 l0_0.length c0_0)) (fun _ hk => hk.2) (.slice A0_1 l0_1.length c0_1)) (fun _ hk => hk.1.1), b_ HB⟩
       ·refine bodyPost_ret (results_ct rfl _ _ gb332 56 #[.slice A0_0 l0_0.length c0_0, .slice A0_1 l0_1.length c0_1] (0, 0) _ rfl (pu_ (cs := #[.slice A0_0 l0_0.length c0_0, .slice none 0 0]) (pu_ (cs := #[.slice none 0 0, .slice none 0 0]) (h_ BK332))) Try.underlying56 rfl (by kernel_rfl)) rfl ?_
        exact ⟨_, _, by first | rfl | (simp [errW_none, errW_some] <;> rfl) | (simp [*, errW_none, errW_some] <;> rfl), by (with_reducible repeat (first | apply Kd.V_alloc | apply Kd.V_drewN | apply Kd.V_drew)); exact Kd.V_mono (Kd.V_far (p := ⟨gb332, 1, none⟩) (Kd.V_far (p := ⟨gb332, 0, none⟩) (Kd.V_mono HO_331000.out (fun k_ hk => (⟨hk, hk.2.2.2.2.2.2.2.2.2.1⟩ : _ ∧ k_ ≠ gb332))) (fun _ hk => hk.2) (.slice A0_0 l0_0.length c0_0)) (fun _ hk => hk.2) (.slice A0_1 l0_1.length c0_1)) (fun _ hk => hk.1.1), by (with_reducible repeat (first | apply Kd.V_alloc | apply Kd.V_drewN | apply Kd.V_drew)); exact Kd.V_mono (Kd.V_far (p := ⟨gb332, 1, none⟩) (Kd.V_far (p := ⟨gb332, 0, none⟩) (Kd.V_mono HO_331001.out (fun k_ hk => (⟨hk, hk.2.2.2.2.2.2.2.2.2.1⟩ : _ ∧ k_ ≠ gb332))) (fun _ hk => hk.2) (.slice A0_0 l0_0.length c0_0)) (fun _ hk => hk.2) (.slice A0_1 l0_1.length c0_1)) (fun _ hk => hk.1.1), b_ HB⟩

end Go.Proofs.Ytoodkefpkgbjcaa.PPgb
