-- PRINTED by print.py (a twelfth state) out of the translation. Not trusted: Lean checks it.
import Derived.Test.YtbaecdcfefmcgaaPPlcx0
import Derived.Test.YtbaecdcfefmcgaaPPlcx4
import Derived.Test.YtbaecdcfefmcgaaPPlcx5
import Derived.Test.YtbaecdcfefmcgaaPPlcx6
import Derived.Test.YtbaecdcfefmcgaaPPlcx7
import Derived.Test.YtbaecdcfefmcgaaPPlcx9
import Derived.Test.YtbaecdcfefmcgaaPPlcx13
import Derived.Test.YtbaecdcfefmcgaaPPlcx14
namespace Go.Proofs.Ytbaecdcfefmcgaa.PPlc
open Go.RowKit Go.Proofs.YtbaecdcfefmcgaaW.PrintWords Go.Proofs.YtbaecdcfefmcgaaW.PrintLast Go.Proofs.YtbaecdcfefmcgaaW.PrintMore
attribute [local go_sem] max2_int min2_int max_two min_two max_three min_three max_four min_four   -- for this text's walks alone
set_option linter.unusedVariables false
set_option linter.unusedSimpArgs false

/-! ### quorumlaw12_PlanLocks: function 47 -/
mutual
def quorumlaw12_PlanLocks.l0 : Nat → List (S34) → List Int → Int → List (S101) → List (S34) → List Int → Option (Bool)
 | 0, _, _, _, _, _, _ => none
 | k + 1, x3, x4, x5, x296000, x296001, x296002 => if x5 < (x296000.length : Int) then (quorumlaw12_PlanLocks.j1 k x3 x4 x5 (decide (x5 < 8)) x296000 x296001 x296002) else (quorumlaw12_PlanLocks.j1 k x3 x4 x5 false x296000 x296001 x296002)
def quorumlaw12_PlanLocks.j1 : Nat → List (S34) → List Int → Int → Bool → List (S101) → List (S34) → List Int → Option (Bool)
 | 0, _, _, _, _, _, _, _ => none
 | k + 1, x3, x4, x5, x35, x296000, x296001, x296002 => if x35 = true then (if 0 ≤ x5 then (if x5 < (x296000.length : Int) then (quorumlaw12_PlanLocks.l1 k x3 x4 x5 (-1) x296000 x296001 x296002 ((rd_T101 x296000 x5).f0) ((rd_T101 x296000 x5).f1) ((rd_T101 x296000 x5).f2) ((rd_T101 x296000 x5).f3) ((rd_T101 x296000 x5).f4.f0) ((rd_T101 x296000 x5).f4.f1) ((rd_T101 x296000 x5).f4.f2) ((rd_T101 x296000 x5).f5) ((rd_T101 x296000 x5).f6)) else (none)) else (none)) else ((quorumlaw12_wakes.f).bind fun t345 => (some t345))
def quorumlaw12_PlanLocks.l1 : Nat → List (S34) → List Int → Int → Int → List (S101) → List (S34) → List Int → Int → Int → ByteArray → ByteArray → ByteArray → ByteArray → Bool → Int → Bool → Option (Bool)
 | 0, _, _, _, _, _, _, _, _, _, _, _, _, _, _, _, _ => none
 | k + 1, x3, x4, x5, x7, x296000, x296001, x296002, x311000, x311001, x311002, x311003, x311004, x311005, x311006, x311007, x311008 => if x7 ≤ 5 then ((quorumref0_Between.f x7 1 3).bind fun t311 => (if t311 = true then ((quorumref12_Op.f x311000 x311001 x311002 x311003 x311004 x311005 x311006 x311007 x311008 x7).bind fun t312 => (quorumlaw12_PlanLocks.j3 k x3 x4 x5 x7 t312 x296000 x296001 x296002 x311000 x311001 x311002 x311003 x311004 x311005 x311006 x311007 x311008)) else (quorumlaw12_PlanLocks.j3 k x3 x4 x5 x7 false x296000 x296001 x296002 x311000 x311001 x311002 x311003 x311004 x311005 x311006 x311007 x311008))) else ((plan_Writes.f x311000 x311001 x311002 x311003 x311004 x311005 x311006 x311007 x311008).bind fun t315 => ((quorumref12_Writes.f x311000 x311001 x311002 x311003 x311004 x311005 x311006 x311007 x311008).bind fun t316 => (if (t315 != t316) = true then (some false) else (quorumlaw12_PlanLocks.l2 k x3 x4 x5 0 x296000 x296001 x296002 x311000 x311001 x311002 x311003 x311004 x311005 x311006 x311007 x311008))))
def quorumlaw12_PlanLocks.j3 : Nat → List (S34) → List Int → Int → Int → Bool → List (S101) → List (S34) → List Int → Int → Int → ByteArray → ByteArray → ByteArray → ByteArray → Bool → Int → Bool → Option (Bool)
 | 0, _, _, _, _, _, _, _, _, _, _, _, _, _, _, _, _, _ => none
 | k + 1, x3, x4, x5, x7, x8, x296000, x296001, x296002, x311000, x311001, x311002, x311003, x311004, x311005, x311006, x311007, x311008 => (plan_Check.f k x311000 x311001 x311002 x311003 x311004 x311005 x311006 x311007 x311008 x7).bind fun t313 => ((quorumlaw12_num.f t313).bind fun t314 => (if ((t314 == 0) != x8) = true then (some false) else (quorumlaw12_PlanLocks.l1 k x3 x4 x5 (wrap64 (x7 + 1)) x296000 x296001 x296002 x311000 x311001 x311002 x311003 x311004 x311005 x311006 x311007 x311008)))
def quorumlaw12_PlanLocks.l2 : Nat → List (S34) → List Int → Int → Int → List (S101) → List (S34) → List Int → Int → Int → ByteArray → ByteArray → ByteArray → ByteArray → Bool → Int → Bool → Option (Bool)
 | 0, _, _, _, _, _, _, _, _, _, _, _, _, _, _, _, _ => none
 | k + 1, x3, x4, x5, x9, x296000, x296001, x296002, x311000, x311001, x311002, x311003, x311004, x311005, x311006, x311007, x311008 => if x9 < (x3.length : Int) then (quorumlaw12_PlanLocks.j5 k x3 x4 x5 x9 (decide (x9 < 4)) x296000 x296001 x296002 x311000 x311001 x311002 x311003 x311004 x311005 x311006 x311007 x311008) else (quorumlaw12_PlanLocks.j5 k x3 x4 x5 x9 false x296000 x296001 x296002 x311000 x311001 x311002 x311003 x311004 x311005 x311006 x311007 x311008)
def quorumlaw12_PlanLocks.j5 : Nat → List (S34) → List Int → Int → Int → Bool → List (S101) → List (S34) → List Int → Int → Int → ByteArray → ByteArray → ByteArray → ByteArray → Bool → Int → Bool → Option (Bool)
 | 0, _, _, _, _, _, _, _, _, _, _, _, _, _, _, _, _, _ => none
 | k + 1, x3, x4, x5, x9, x73, x296000, x296001, x296002, x311000, x311001, x311002, x311003, x311004, x311005, x311006, x311007, x311008 => if x73 = true then (quorumlaw12_PlanLocks.l3 k x3 x4 x5 x9 0 x296000 x296001 x296002 x311000 x311001 x311002 x311003 x311004 x311005 x311006 x311007 x311008) else (quorumlaw12_PlanLocks.l0 k x3 x4 (wrap64 (x5 + 1)) x296000 x296001 x296002)
def quorumlaw12_PlanLocks.l3 : Nat → List (S34) → List Int → Int → Int → Int → List (S101) → List (S34) → List Int → Int → Int → ByteArray → ByteArray → ByteArray → ByteArray → Bool → Int → Bool → Option (Bool)
 | 0, _, _, _, _, _, _, _, _, _, _, _, _, _, _, _, _, _ => none
 | k + 1, x3, x4, x5, x9, x10, x296000, x296001, x296002, x311000, x311001, x311002, x311003, x311004, x311005, x311006, x311007, x311008 => if x10 < (x4.length : Int) then (quorumlaw12_PlanLocks.j7 k x3 x4 x5 x9 x10 (decide (x10 < 5)) x296000 x296001 x296002 x311000 x311001 x311002 x311003 x311004 x311005 x311006 x311007 x311008) else (quorumlaw12_PlanLocks.j7 k x3 x4 x5 x9 x10 false x296000 x296001 x296002 x311000 x311001 x311002 x311003 x311004 x311005 x311006 x311007 x311008)
def quorumlaw12_PlanLocks.j7 : Nat → List (S34) → List Int → Int → Int → Int → Bool → List (S101) → List (S34) → List Int → Int → Int → ByteArray → ByteArray → ByteArray → ByteArray → Bool → Int → Bool → Option (Bool)
 | 0, _, _, _, _, _, _, _, _, _, _, _, _, _, _, _, _, _, _ => none
 | k + 1, x3, x4, x5, x9, x10, x83, x296000, x296001, x296002, x311000, x311001, x311002, x311003, x311004, x311005, x311006, x311007, x311008 => if x83 = true then (if 0 ≤ x9 then (if x9 < (x3.length : Int) then ((quorumref0_CopyPend.f k ((rd_T34 x3 x9).f0) ((rd_T34 x3 x9).f1)).bind fun bt318 => (if 0 ≤ x10 then (if x10 < (x4.length : Int) then ((plan_Locks.f k x311000 x311001 x311002 x311003 x311004 x311005 x311006 x311007 x311008 bt318.1 bt318.2 (rd x4 x10)).bind fun bt326 => ((quorumref12_Op.f x311000 x311001 x311002 x311003 x311004 x311005 x311006 x311007 x311008 3).bind fun t330 => (if t330 = true then ((quorumref8_Pend.f k ((rd_T34 x3 x9).f0) ((rd_T34 x3 x9).f1)).bind fun t332 => (if t332 = true then ((quorumref0_Num.f (rd x4 x10) 1073741824).bind fun t334 => (quorumlaw12_PlanLocks.j8 k x3 x4 x5 x9 x10 bt326.1 bt326.2 1 ([] : List (S191)) t334 x296000 x296001 x296002 x311000 x311001 x311002 x311003 x311004 x311005 x311006 x311007 x311008 bt318.1 bt318.2)) else (quorumlaw12_PlanLocks.j8 k x3 x4 x5 x9 x10 bt326.1 bt326.2 1 ([] : List (S191)) false x296000 x296001 x296002 x311000 x311001 x311002 x311003 x311004 x311005 x311006 x311007 x311008 bt318.1 bt318.2))) else (quorumlaw12_PlanLocks.j8 k x3 x4 x5 x9 x10 bt326.1 bt326.2 1 ([] : List (S191)) false x296000 x296001 x296002 x311000 x311001 x311002 x311003 x311004 x311005 x311006 x311007 x311008 bt318.1 bt318.2)))) else (none)) else (none))) else (none)) else (none)) else (quorumlaw12_PlanLocks.l2 k x3 x4 x5 (wrap64 (x9 + 1)) x296000 x296001 x296002 x311000 x311001 x311002 x311003 x311004 x311005 x311006 x311007 x311008)
def quorumlaw12_PlanLocks.j8 : Nat → List (S34) → List Int → Int → Int → Int → List (S191) → Int → Int → List (S191) → Bool → List (S101) → List (S34) → List Int → Int → Int → ByteArray → ByteArray → ByteArray → ByteArray → Bool → Int → Bool → List (S36) → List Int → Option (Bool)
 | 0, _, _, _, _, _, _, _, _, _, _, _, _, _, _, _, _, _, _, _, _, _, _, _, _ => none
 | k + 1, x3, x4, x5, x9, x10, x12, x13, x14, x15, x116, x296000, x296001, x296002, x311000, x311001, x311002, x311003, x311004, x311005, x311006, x311007, x311008, x325000, x325001 => if x116 = true then (if 0 ≤ x9 then (if x9 < (x3.length : Int) then (if 0 ≤ x10 then (if x10 < (x4.length : Int) then ((quorumref12_Locks.f k x311000 x311001 x311002 x311003 x311004 x311005 x311006 x311007 x311008 ((rd_T34 x3 x9).f0) ((rd_T34 x3 x9).f1) (rd x4 x10)).bind fun t337 => (quorumlaw12_PlanLocks.j9 k x3 x4 x5 x9 x10 x12 x13 0 t337 x296000 x296001 x296002 x311000 x311001 x311002 x311003 x311004 x311005 x311006 x311007 x311008 x325000 x325001)) else (none)) else (none)) else (none)) else (none)) else (quorumlaw12_PlanLocks.j9 k x3 x4 x5 x9 x10 x12 x13 x14 x15 x296000 x296001 x296002 x311000 x311001 x311002 x311003 x311004 x311005 x311006 x311007 x311008 x325000 x325001)
def quorumlaw12_PlanLocks.j9 : Nat → List (S34) → List Int → Int → Int → Int → List (S191) → Int → Int → List (S191) → List (S101) → List (S34) → List Int → Int → Int → ByteArray → ByteArray → ByteArray → ByteArray → Bool → Int → Bool → List (S36) → List Int → Option (Bool)
 | 0, _, _, _, _, _, _, _, _, _, _, _, _, _, _, _, _, _, _, _, _, _, _, _ => none
 | k + 1, x3, x4, x5, x9, x10, x12, x13, x14, x15, x296000, x296001, x296002, x311000, x311001, x311002, x311003, x311004, x311005, x311006, x311007, x311008, x325000, x325001 => (quorumlaw12_num.f x13).bind fun t340 => (if t340 = x14 then ((quorumref0_EqLocks.f k x12 x15).bind fun t341 => (if t341 = true then (if 0 ≤ x9 then (if x9 < (x3.length : Int) then ((quorumref0_EqPend.f k x325000 x325001 ((rd_T34 x3 x9).f0) ((rd_T34 x3 x9).f1)).bind fun t343 => (quorumlaw12_PlanLocks.j10 k x3 x4 x5 x9 x10 x12 (!t343) x296000 x296001 x296002 x311000 x311001 x311002 x311003 x311004 x311005 x311006 x311007 x311008)) else (none)) else (none)) else (quorumlaw12_PlanLocks.j10 k x3 x4 x5 x9 x10 x12 true x296000 x296001 x296002 x311000 x311001 x311002 x311003 x311004 x311005 x311006 x311007 x311008))) else (quorumlaw12_PlanLocks.j10 k x3 x4 x5 x9 x10 x12 true x296000 x296001 x296002 x311000 x311001 x311002 x311003 x311004 x311005 x311006 x311007 x311008))
def quorumlaw12_PlanLocks.j10 : Nat → List (S34) → List Int → Int → Int → Int → List (S191) → Bool → List (S101) → List (S34) → List Int → Int → Int → ByteArray → ByteArray → ByteArray → ByteArray → Bool → Int → Bool → Option (Bool)
 | 0, _, _, _, _, _, _, _, _, _, _, _, _, _, _, _, _, _, _, _ => none
 | k + 1, x3, x4, x5, x9, x10, x12, x145, x296000, x296001, x296002, x311000, x311001, x311002, x311003, x311004, x311005, x311006, x311007, x311008 => if x145 = true then (some false) else ((quorumlaw0_Locks.f k x12).bind fun t344 => (quorumlaw12_PlanLocks.l3 k x3 x4 x5 x9 (wrap64 (x10 + 1)) x296000 x296001 x296002 x311000 x311001 x311002 x311003 x311004 x311005 x311006 x311007 x311008))
end
def quorumlaw12_PlanLocks.f (k : Nat) (l0_0 : List (S101)) (l0_1 : List (S34)) (l0_2 : List Int) : Option (Bool) := (quorumlaw12_Heavy.f k l0_0 l0_1 l0_2).bind fun t296 => (if t296 = true then (some true) else ((some (([(⟨([] : List (S36)), ([] : List Int)⟩ : S34)] : List (S34)) : List (S34))).bind fun y297 => (if y297.length + l0_1.length < 2932031007402 then ((some (([0, 5, (-1)] : List Int) : List Int)).bind fun y303 => (if y303.length + l0_2.length < 17592186044416 then (quorumlaw12_PlanLocks.l0 k (y297 ++ l0_1) (y303 ++ l0_2) 0 l0_0 l0_1 l0_2) else (none))) else (none))))
theorem quorumlaw12_PlanLocks.mono_l : ∀ k, (∀ y0 y1 y2 y3 y4 y5, LeO (quorumlaw12_PlanLocks.l0 k y0 y1 y2 y3 y4 y5) (quorumlaw12_PlanLocks.l0 (k + 1) y0 y1 y2 y3 y4 y5)) ∧ (∀ y0 y1 y2 y3 y4 y5 y6, LeO (quorumlaw12_PlanLocks.j1 k y0 y1 y2 y3 y4 y5 y6) (quorumlaw12_PlanLocks.j1 (k + 1) y0 y1 y2 y3 y4 y5 y6)) ∧ (∀ y0 y1 y2 y3 y4 y5 y6 y7 y8 y9 y10 y11 y12 y13 y14 y15, LeO (quorumlaw12_PlanLocks.l1 k y0 y1 y2 y3 y4 y5 y6 y7 y8 y9 y10 y11 y12 y13 y14 y15) (quorumlaw12_PlanLocks.l1 (k + 1) y0 y1 y2 y3 y4 y5 y6 y7 y8 y9 y10 y11 y12 y13 y14 y15)) ∧ (∀ y0 y1 y2 y3 y4 y5 y6 y7 y8 y9 y10 y11 y12 y13 y14 y15 y16, LeO (quorumlaw12_PlanLocks.j3 k y0 y1 y2 y3 y4 y5 y6 y7 y8 y9 y10 y11 y12 y13 y14 y15 y16) (quorumlaw12_PlanLocks.j3 (k + 1) y0 y1 y2 y3 y4 y5 y6 y7 y8 y9 y10 y11 y12 y13 y14 y15 y16)) ∧ (∀ y0 y1 y2 y3 y4 y5 y6 y7 y8 y9 y10 y11 y12 y13 y14 y15, LeO (quorumlaw12_PlanLocks.l2 k y0 y1 y2 y3 y4 y5 y6 y7 y8 y9 y10 y11 y12 y13 y14 y15) (quorumlaw12_PlanLocks.l2 (k + 1) y0 y1 y2 y3 y4 y5 y6 y7 y8 y9 y10 y11 y12 y13 y14 y15)) ∧ (∀ y0 y1 y2 y3 y4 y5 y6 y7 y8 y9 y10 y11 y12 y13 y14 y15 y16, LeO (quorumlaw12_PlanLocks.j5 k y0 y1 y2 y3 y4 y5 y6 y7 y8 y9 y10 y11 y12 y13 y14 y15 y16) (quorumlaw12_PlanLocks.j5 (k + 1) y0 y1 y2 y3 y4 y5 y6 y7 y8 y9 y10 y11 y12 y13 y14 y15 y16)) ∧ (∀ y0 y1 y2 y3 y4 y5 y6 y7 y8 y9 y10 y11 y12 y13 y14 y15 y16, LeO (quorumlaw12_PlanLocks.l3 k y0 y1 y2 y3 y4 y5 y6 y7 y8 y9 y10 y11 y12 y13 y14 y15 y16) (quorumlaw12_PlanLocks.l3 (k + 1) y0 y1 y2 y3 y4 y5 y6 y7 y8 y9 y10 y11 y12 y13 y14 y15 y16)) ∧ (∀ y0 y1 y2 y3 y4 y5 y6 y7 y8 y9 y10 y11 y12 y13 y14 y15 y16 y17, LeO (quorumlaw12_PlanLocks.j7 k y0 y1 y2 y3 y4 y5 y6 y7 y8 y9 y10 y11 y12 y13 y14 y15 y16 y17) (quorumlaw12_PlanLocks.j7 (k + 1) y0 y1 y2 y3 y4 y5 y6 y7 y8 y9 y10 y11 y12 y13 y14 y15 y16 y17)) ∧ (∀ y0 y1 y2 y3 y4 y5 y6 y7 y8 y9 y10 y11 y12 y13 y14 y15 y16 y17 y18 y19 y20 y21 y22 y23, LeO (quorumlaw12_PlanLocks.j8 k y0 y1 y2 y3 y4 y5 y6 y7 y8 y9 y10 y11 y12 y13 y14 y15 y16 y17 y18 y19 y20 y21 y22 y23) (quorumlaw12_PlanLocks.j8 (k + 1) y0 y1 y2 y3 y4 y5 y6 y7 y8 y9 y10 y11 y12 y13 y14 y15 y16 y17 y18 y19 y20 y21 y22 y23)) ∧ (∀ y0 y1 y2 y3 y4 y5 y6 y7 y8 y9 y10 y11 y12 y13 y14 y15 y16 y17 y18 y19 y20 y21 y22, LeO (quorumlaw12_PlanLocks.j9 k y0 y1 y2 y3 y4 y5 y6 y7 y8 y9 y10 y11 y12 y13 y14 y15 y16 y17 y18 y19 y20 y21 y22) (quorumlaw12_PlanLocks.j9 (k + 1) y0 y1 y2 y3 y4 y5 y6 y7 y8 y9 y10 y11 y12 y13 y14 y15 y16 y17 y18 y19 y20 y21 y22)) ∧ (∀ y0 y1 y2 y3 y4 y5 y6 y7 y8 y9 y10 y11 y12 y13 y14 y15 y16 y17 y18, LeO (quorumlaw12_PlanLocks.j10 k y0 y1 y2 y3 y4 y5 y6 y7 y8 y9 y10 y11 y12 y13 y14 y15 y16 y17 y18) (quorumlaw12_PlanLocks.j10 (k + 1) y0 y1 y2 y3 y4 y5 y6 y7 y8 y9 y10 y11 y12 y13 y14 y15 y16 y17 y18))
 | 0 => ⟨fun _ _ _ _ _ _ r h => by simp [quorumlaw12_PlanLocks.l0] at h, fun _ _ _ _ _ _ _ r h => by simp [quorumlaw12_PlanLocks.j1] at h, fun _ _ _ _ _ _ _ _ _ _ _ _ _ _ _ _ r h => by simp [quorumlaw12_PlanLocks.l1] at h, fun _ _ _ _ _ _ _ _ _ _ _ _ _ _ _ _ _ r h => by simp [quorumlaw12_PlanLocks.j3] at h, fun _ _ _ _ _ _ _ _ _ _ _ _ _ _ _ _ r h => by simp [quorumlaw12_PlanLocks.l2] at h, fun _ _ _ _ _ _ _ _ _ _ _ _ _ _ _ _ _ r h => by simp [quorumlaw12_PlanLocks.j5] at h, fun _ _ _ _ _ _ _ _ _ _ _ _ _ _ _ _ _ r h => by simp [quorumlaw12_PlanLocks.l3] at h, fun _ _ _ _ _ _ _ _ _ _ _ _ _ _ _ _ _ _ r h => by simp [quorumlaw12_PlanLocks.j7] at h, fun _ _ _ _ _ _ _ _ _ _ _ _ _ _ _ _ _ _ _ _ _ _ _ _ r h => by simp [quorumlaw12_PlanLocks.j8] at h, fun _ _ _ _ _ _ _ _ _ _ _ _ _ _ _ _ _ _ _ _ _ _ _ r h => by simp [quorumlaw12_PlanLocks.j9] at h, fun _ _ _ _ _ _ _ _ _ _ _ _ _ _ _ _ _ _ _ r h => by simp [quorumlaw12_PlanLocks.j10] at h⟩
 | k + 1 => by
  obtain ⟨ih0, ih1, ih2, ih3, ih4, ih5, ih6, ih7, ih8, ih9, ih10⟩ := quorumlaw12_PlanLocks.mono_l k
  refine ⟨?_, ?_, ?_, ?_, ?_, ?_, ?_, ?_, ?_, ?_, ?_⟩
  ·intro y0 y1 y2 y3 y4 y5
   unfold quorumlaw12_PlanLocks.l0
   repeat' first
   | (with_reducible exact ih0 _ _ _ _ _ _)
   | (with_reducible exact ih1 _ _ _ _ _ _ _)
   | (with_reducible exact ih2 _ _ _ _ _ _ _ _ _ _ _ _ _ _ _ _)
   | (with_reducible exact ih3 _ _ _ _ _ _ _ _ _ _ _ _ _ _ _ _ _)
   | (with_reducible exact ih4 _ _ _ _ _ _ _ _ _ _ _ _ _ _ _ _)
   | (with_reducible exact ih5 _ _ _ _ _ _ _ _ _ _ _ _ _ _ _ _ _)
   | (with_reducible exact ih6 _ _ _ _ _ _ _ _ _ _ _ _ _ _ _ _ _)
   | (with_reducible exact ih7 _ _ _ _ _ _ _ _ _ _ _ _ _ _ _ _ _ _)
   | (with_reducible exact ih8 _ _ _ _ _ _ _ _ _ _ _ _ _ _ _ _ _ _ _ _ _ _ _ _)
   | (with_reducible exact ih9 _ _ _ _ _ _ _ _ _ _ _ _ _ _ _ _ _ _ _ _ _ _ _)
   | (with_reducible exact ih10 _ _ _ _ _ _ _ _ _ _ _ _ _ _ _ _ _ _ _)
   | (with_reducible exact plan_Check.mono _ _ _ _ _ _ _ _ _ _ _)
   | (with_reducible exact plan_Locks.mono _ _ _ _ _ _ _ _ _ _ _ _ _)
   | (with_reducible exact quorumlaw0_Locks.mono _ _)
   | (with_reducible exact quorumlaw12_Heavy.mono _ _ _ _)
   | (with_reducible exact quorumref0_CopyPend.mono _ _ _)
   | (with_reducible exact quorumref0_EqLocks.mono _ _ _)
   | (with_reducible exact quorumref0_EqPend.mono _ _ _ _ _)
   | (with_reducible exact quorumref12_Locks.mono _ _ _ _ _ _ _ _ _ _ _ _ _)
   | (with_reducible exact quorumref8_Pend.mono _ _ _)
   | (with_reducible exact LeO.refl _)
   | (with_reducible exact LeO.none _)
   | (with_reducible refine LeO.ite ?_ ?_)
   | (with_reducible refine LeO.bind ?_ (fun _ => ?_))
   | exact ih0 _ _ _ _ _ _
   | exact ih1 _ _ _ _ _ _ _
   | exact ih2 _ _ _ _ _ _ _ _ _ _ _ _ _ _ _ _
   | exact ih3 _ _ _ _ _ _ _ _ _ _ _ _ _ _ _ _ _
   | exact ih4 _ _ _ _ _ _ _ _ _ _ _ _ _ _ _ _
   | exact ih5 _ _ _ _ _ _ _ _ _ _ _ _ _ _ _ _ _
   | exact ih6 _ _ _ _ _ _ _ _ _ _ _ _ _ _ _ _ _
   | exact ih7 _ _ _ _ _ _ _ _ _ _ _ _ _ _ _ _ _ _
   | exact ih8 _ _ _ _ _ _ _ _ _ _ _ _ _ _ _ _ _ _ _ _ _ _ _ _
   | exact ih9 _ _ _ _ _ _ _ _ _ _ _ _ _ _ _ _ _ _ _ _ _ _ _
   | exact ih10 _ _ _ _ _ _ _ _ _ _ _ _ _ _ _ _ _ _ _
   | exact plan_Check.mono _ _ _ _ _ _ _ _ _ _ _
   | exact plan_Locks.mono _ _ _ _ _ _ _ _ _ _ _ _ _
   | exact quorumlaw0_Locks.mono _ _
   | exact quorumlaw12_Heavy.mono _ _ _ _
   | exact quorumref0_CopyPend.mono _ _ _
   | exact quorumref0_EqLocks.mono _ _ _
   | exact quorumref0_EqPend.mono _ _ _ _ _
   | exact quorumref12_Locks.mono _ _ _ _ _ _ _ _ _ _ _ _ _
   | exact quorumref8_Pend.mono _ _ _
   | exact LeO.none _
   | refine LeO.ite ?_ ?_
   | refine LeO.bind ?_ (fun _ => ?_)
  ·intro y0 y1 y2 y3 y4 y5 y6
   unfold quorumlaw12_PlanLocks.j1
   repeat' first
   | (with_reducible exact ih0 _ _ _ _ _ _)
   | (with_reducible exact ih1 _ _ _ _ _ _ _)
   | (with_reducible exact ih2 _ _ _ _ _ _ _ _ _ _ _ _ _ _ _ _)
   | (with_reducible exact ih3 _ _ _ _ _ _ _ _ _ _ _ _ _ _ _ _ _)
   | (with_reducible exact ih4 _ _ _ _ _ _ _ _ _ _ _ _ _ _ _ _)
   | (with_reducible exact ih5 _ _ _ _ _ _ _ _ _ _ _ _ _ _ _ _ _)
   | (with_reducible exact ih6 _ _ _ _ _ _ _ _ _ _ _ _ _ _ _ _ _)
   | (with_reducible exact ih7 _ _ _ _ _ _ _ _ _ _ _ _ _ _ _ _ _ _)
   | (with_reducible exact ih8 _ _ _ _ _ _ _ _ _ _ _ _ _ _ _ _ _ _ _ _ _ _ _ _)
   | (with_reducible exact ih9 _ _ _ _ _ _ _ _ _ _ _ _ _ _ _ _ _ _ _ _ _ _ _)
   | (with_reducible exact ih10 _ _ _ _ _ _ _ _ _ _ _ _ _ _ _ _ _ _ _)
   | (with_reducible exact plan_Check.mono _ _ _ _ _ _ _ _ _ _ _)
   | (with_reducible exact plan_Locks.mono _ _ _ _ _ _ _ _ _ _ _ _ _)
   | (with_reducible exact quorumlaw0_Locks.mono _ _)
   | (with_reducible exact quorumlaw12_Heavy.mono _ _ _ _)
   | (with_reducible exact quorumref0_CopyPend.mono _ _ _)
   | (with_reducible exact quorumref0_EqLocks.mono _ _ _)
   | (with_reducible exact quorumref0_EqPend.mono _ _ _ _ _)
   | (with_reducible exact quorumref12_Locks.mono _ _ _ _ _ _ _ _ _ _ _ _ _)
   | (with_reducible exact quorumref8_Pend.mono _ _ _)
   | (with_reducible exact LeO.refl _)
   | (with_reducible exact LeO.none _)
   | (with_reducible refine LeO.ite ?_ ?_)
   | (with_reducible refine LeO.bind ?_ (fun _ => ?_))
   | exact ih0 _ _ _ _ _ _
   | exact ih1 _ _ _ _ _ _ _
   | exact ih2 _ _ _ _ _ _ _ _ _ _ _ _ _ _ _ _
   | exact ih3 _ _ _ _ _ _ _ _ _ _ _ _ _ _ _ _ _
   | exact ih4 _ _ _ _ _ _ _ _ _ _ _ _ _ _ _ _
   | exact ih5 _ _ _ _ _ _ _ _ _ _ _ _ _ _ _ _ _
   | exact ih6 _ _ _ _ _ _ _ _ _ _ _ _ _ _ _ _ _
   | exact ih7 _ _ _ _ _ _ _ _ _ _ _ _ _ _ _ _ _ _
   | exact ih8 _ _ _ _ _ _ _ _ _ _ _ _ _ _ _ _ _ _ _ _ _ _ _ _
   | exact ih9 _ _ _ _ _ _ _ _ _ _ _ _ _ _ _ _ _ _ _ _ _ _ _
   | exact ih10 _ _ _ _ _ _ _ _ _ _ _ _ _ _ _ _ _ _ _
   | exact plan_Check.mono _ _ _ _ _ _ _ _ _ _ _
   | exact plan_Locks.mono _ _ _ _ _ _ _ _ _ _ _ _ _
   | exact quorumlaw0_Locks.mono _ _
   | exact quorumlaw12_Heavy.mono _ _ _ _
   | exact quorumref0_CopyPend.mono _ _ _
   | exact quorumref0_EqLocks.mono _ _ _
   | exact quorumref0_EqPend.mono _ _ _ _ _
   | exact quorumref12_Locks.mono _ _ _ _ _ _ _ _ _ _ _ _ _
   | exact quorumref8_Pend.mono _ _ _
   | exact LeO.none _
   | refine LeO.ite ?_ ?_
   | refine LeO.bind ?_ (fun _ => ?_)
  ·intro y0 y1 y2 y3 y4 y5 y6 y7 y8 y9 y10 y11 y12 y13 y14 y15
   unfold quorumlaw12_PlanLocks.l1
   repeat' first
   | (with_reducible exact ih0 _ _ _ _ _ _)
   | (with_reducible exact ih1 _ _ _ _ _ _ _)
   | (with_reducible exact ih2 _ _ _ _ _ _ _ _ _ _ _ _ _ _ _ _)
   | (with_reducible exact ih3 _ _ _ _ _ _ _ _ _ _ _ _ _ _ _ _ _)
   | (with_reducible exact ih4 _ _ _ _ _ _ _ _ _ _ _ _ _ _ _ _)
   | (with_reducible exact ih5 _ _ _ _ _ _ _ _ _ _ _ _ _ _ _ _ _)
   | (with_reducible exact ih6 _ _ _ _ _ _ _ _ _ _ _ _ _ _ _ _ _)
   | (with_reducible exact ih7 _ _ _ _ _ _ _ _ _ _ _ _ _ _ _ _ _ _)
   | (with_reducible exact ih8 _ _ _ _ _ _ _ _ _ _ _ _ _ _ _ _ _ _ _ _ _ _ _ _)
   | (with_reducible exact ih9 _ _ _ _ _ _ _ _ _ _ _ _ _ _ _ _ _ _ _ _ _ _ _)
   | (with_reducible exact ih10 _ _ _ _ _ _ _ _ _ _ _ _ _ _ _ _ _ _ _)
   | (with_reducible exact plan_Check.mono _ _ _ _ _ _ _ _ _ _ _)
   | (with_reducible exact plan_Locks.mono _ _ _ _ _ _ _ _ _ _ _ _ _)
   | (with_reducible exact quorumlaw0_Locks.mono _ _)
   | (with_reducible exact quorumlaw12_Heavy.mono _ _ _ _)
   | (with_reducible exact quorumref0_CopyPend.mono _ _ _)
   | (with_reducible exact quorumref0_EqLocks.mono _ _ _)
   | (with_reducible exact quorumref0_EqPend.mono _ _ _ _ _)
   | (with_reducible exact quorumref12_Locks.mono _ _ _ _ _ _ _ _ _ _ _ _ _)
   | (with_reducible exact quorumref8_Pend.mono _ _ _)
   | (with_reducible exact LeO.refl _)
   | (with_reducible exact LeO.none _)
   | (with_reducible refine LeO.ite ?_ ?_)
   | (with_reducible refine LeO.bind ?_ (fun _ => ?_))
   | exact ih0 _ _ _ _ _ _
   | exact ih1 _ _ _ _ _ _ _
   | exact ih2 _ _ _ _ _ _ _ _ _ _ _ _ _ _ _ _
   | exact ih3 _ _ _ _ _ _ _ _ _ _ _ _ _ _ _ _ _
   | exact ih4 _ _ _ _ _ _ _ _ _ _ _ _ _ _ _ _
   | exact ih5 _ _ _ _ _ _ _ _ _ _ _ _ _ _ _ _ _
   | exact ih6 _ _ _ _ _ _ _ _ _ _ _ _ _ _ _ _ _
   | exact ih7 _ _ _ _ _ _ _ _ _ _ _ _ _ _ _ _ _ _
   | exact ih8 _ _ _ _ _ _ _ _ _ _ _ _ _ _ _ _ _ _ _ _ _ _ _ _
   | exact ih9 _ _ _ _ _ _ _ _ _ _ _ _ _ _ _ _ _ _ _ _ _ _ _
   | exact ih10 _ _ _ _ _ _ _ _ _ _ _ _ _ _ _ _ _ _ _
   | exact plan_Check.mono _ _ _ _ _ _ _ _ _ _ _
   | exact plan_Locks.mono _ _ _ _ _ _ _ _ _ _ _ _ _
   | exact quorumlaw0_Locks.mono _ _
   | exact quorumlaw12_Heavy.mono _ _ _ _
   | exact quorumref0_CopyPend.mono _ _ _
   | exact quorumref0_EqLocks.mono _ _ _
   | exact quorumref0_EqPend.mono _ _ _ _ _
   | exact quorumref12_Locks.mono _ _ _ _ _ _ _ _ _ _ _ _ _
   | exact quorumref8_Pend.mono _ _ _
   | exact LeO.none _
   | refine LeO.ite ?_ ?_
   | refine LeO.bind ?_ (fun _ => ?_)
  ·intro y0 y1 y2 y3 y4 y5 y6 y7 y8 y9 y10 y11 y12 y13 y14 y15 y16
   unfold quorumlaw12_PlanLocks.j3
   repeat' first
   | (with_reducible exact ih0 _ _ _ _ _ _)
   | (with_reducible exact ih1 _ _ _ _ _ _ _)
   | (with_reducible exact ih2 _ _ _ _ _ _ _ _ _ _ _ _ _ _ _ _)
   | (with_reducible exact ih3 _ _ _ _ _ _ _ _ _ _ _ _ _ _ _ _ _)
   | (with_reducible exact ih4 _ _ _ _ _ _ _ _ _ _ _ _ _ _ _ _)
   | (with_reducible exact ih5 _ _ _ _ _ _ _ _ _ _ _ _ _ _ _ _ _)
   | (with_reducible exact ih6 _ _ _ _ _ _ _ _ _ _ _ _ _ _ _ _ _)
   | (with_reducible exact ih7 _ _ _ _ _ _ _ _ _ _ _ _ _ _ _ _ _ _)
   | (with_reducible exact ih8 _ _ _ _ _ _ _ _ _ _ _ _ _ _ _ _ _ _ _ _ _ _ _ _)
   | (with_reducible exact ih9 _ _ _ _ _ _ _ _ _ _ _ _ _ _ _ _ _ _ _ _ _ _ _)
   | (with_reducible exact ih10 _ _ _ _ _ _ _ _ _ _ _ _ _ _ _ _ _ _ _)
   | (with_reducible exact plan_Check.mono _ _ _ _ _ _ _ _ _ _ _)
   | (with_reducible exact plan_Locks.mono _ _ _ _ _ _ _ _ _ _ _ _ _)
   | (with_reducible exact quorumlaw0_Locks.mono _ _)
   | (with_reducible exact quorumlaw12_Heavy.mono _ _ _ _)
   | (with_reducible exact quorumref0_CopyPend.mono _ _ _)
   | (with_reducible exact quorumref0_EqLocks.mono _ _ _)
   | (with_reducible exact quorumref0_EqPend.mono _ _ _ _ _)
   | (with_reducible exact quorumref12_Locks.mono _ _ _ _ _ _ _ _ _ _ _ _ _)
   | (with_reducible exact quorumref8_Pend.mono _ _ _)
   | (with_reducible exact LeO.refl _)
   | (with_reducible exact LeO.none _)
   | (with_reducible refine LeO.ite ?_ ?_)
   | (with_reducible refine LeO.bind ?_ (fun _ => ?_))
   | exact ih0 _ _ _ _ _ _
   | exact ih1 _ _ _ _ _ _ _
   | exact ih2 _ _ _ _ _ _ _ _ _ _ _ _ _ _ _ _
   | exact ih3 _ _ _ _ _ _ _ _ _ _ _ _ _ _ _ _ _
   | exact ih4 _ _ _ _ _ _ _ _ _ _ _ _ _ _ _ _
   | exact ih5 _ _ _ _ _ _ _ _ _ _ _ _ _ _ _ _ _
   | exact ih6 _ _ _ _ _ _ _ _ _ _ _ _ _ _ _ _ _
   | exact ih7 _ _ _ _ _ _ _ _ _ _ _ _ _ _ _ _ _ _
   | exact ih8 _ _ _ _ _ _ _ _ _ _ _ _ _ _ _ _ _ _ _ _ _ _ _ _
   | exact ih9 _ _ _ _ _ _ _ _ _ _ _ _ _ _ _ _ _ _ _ _ _ _ _
   | exact ih10 _ _ _ _ _ _ _ _ _ _ _ _ _ _ _ _ _ _ _
   | exact plan_Check.mono _ _ _ _ _ _ _ _ _ _ _
   | exact plan_Locks.mono _ _ _ _ _ _ _ _ _ _ _ _ _
   | exact quorumlaw0_Locks.mono _ _
   | exact quorumlaw12_Heavy.mono _ _ _ _
   | exact quorumref0_CopyPend.mono _ _ _
   | exact quorumref0_EqLocks.mono _ _ _
   | exact quorumref0_EqPend.mono _ _ _ _ _
   | exact quorumref12_Locks.mono _ _ _ _ _ _ _ _ _ _ _ _ _
   | exact quorumref8_Pend.mono _ _ _
   | exact LeO.none _
   | refine LeO.ite ?_ ?_
   | refine LeO.bind ?_ (fun _ => ?_)
  ·intro y0 y1 y2 y3 y4 y5 y6 y7 y8 y9 y10 y11 y12 y13 y14 y15
   unfold quorumlaw12_PlanLocks.l2
   repeat' first
   | (with_reducible exact ih0 _ _ _ _ _ _)
   | (with_reducible exact ih1 _ _ _ _ _ _ _)
   | (with_reducible exact ih2 _ _ _ _ _ _ _ _ _ _ _ _ _ _ _ _)
   | (with_reducible exact ih3 _ _ _ _ _ _ _ _ _ _ _ _ _ _ _ _ _)
   | (with_reducible exact ih4 _ _ _ _ _ _ _ _ _ _ _ _ _ _ _ _)
   | (with_reducible exact ih5 _ _ _ _ _ _ _ _ _ _ _ _ _ _ _ _ _)
   | (with_reducible exact ih6 _ _ _ _ _ _ _ _ _ _ _ _ _ _ _ _ _)
   | (with_reducible exact ih7 _ _ _ _ _ _ _ _ _ _ _ _ _ _ _ _ _ _)
   | (with_reducible exact ih8 _ _ _ _ _ _ _ _ _ _ _ _ _ _ _ _ _ _ _ _ _ _ _ _)
   | (with_reducible exact ih9 _ _ _ _ _ _ _ _ _ _ _ _ _ _ _ _ _ _ _ _ _ _ _)
   | (with_reducible exact ih10 _ _ _ _ _ _ _ _ _ _ _ _ _ _ _ _ _ _ _)
   | (with_reducible exact plan_Check.mono _ _ _ _ _ _ _ _ _ _ _)
   | (with_reducible exact plan_Locks.mono _ _ _ _ _ _ _ _ _ _ _ _ _)
   | (with_reducible exact quorumlaw0_Locks.mono _ _)
   | (with_reducible exact quorumlaw12_Heavy.mono _ _ _ _)
   | (with_reducible exact quorumref0_CopyPend.mono _ _ _)
   | (with_reducible exact quorumref0_EqLocks.mono _ _ _)
   | (with_reducible exact quorumref0_EqPend.mono _ _ _ _ _)
   | (with_reducible exact quorumref12_Locks.mono _ _ _ _ _ _ _ _ _ _ _ _ _)
   | (with_reducible exact quorumref8_Pend.mono _ _ _)
   | (with_reducible exact LeO.refl _)
   | (with_reducible exact LeO.none _)
   | (with_reducible refine LeO.ite ?_ ?_)
   | (with_reducible refine LeO.bind ?_ (fun _ => ?_))
   | exact ih0 _ _ _ _ _ _
   | exact ih1 _ _ _ _ _ _ _
   | exact ih2 _ _ _ _ _ _ _ _ _ _ _ _ _ _ _ _
   | exact ih3 _ _ _ _ _ _ _ _ _ _ _ _ _ _ _ _ _
   | exact ih4 _ _ _ _ _ _ _ _ _ _ _ _ _ _ _ _
   | exact ih5 _ _ _ _ _ _ _ _ _ _ _ _ _ _ _ _ _
   | exact ih6 _ _ _ _ _ _ _ _ _ _ _ _ _ _ _ _ _
   | exact ih7 _ _ _ _ _ _ _ _ _ _ _ _ _ _ _ _ _ _
   | exact ih8 _ _ _ _ _ _ _ _ _ _ _ _ _ _ _ _ _ _ _ _ _ _ _ _
   | exact ih9 _ _ _ _ _ _ _ _ _ _ _ _ _ _ _ _ _ _ _ _ _ _ _
   | exact ih10 _ _ _ _ _ _ _ _ _ _ _ _ _ _ _ _ _ _ _
   | exact plan_Check.mono _ _ _ _ _ _ _ _ _ _ _
   | exact plan_Locks.mono _ _ _ _ _ _ _ _ _ _ _ _ _
   | exact quorumlaw0_Locks.mono _ _
   | exact quorumlaw12_Heavy.mono _ _ _ _
   | exact quorumref0_CopyPend.mono _ _ _
   | exact quorumref0_EqLocks.mono _ _ _
   | exact quorumref0_EqPend.mono _ _ _ _ _
   | exact quorumref12_Locks.mono _ _ _ _ _ _ _ _ _ _ _ _ _
   | exact quorumref8_Pend.mono _ _ _
   | exact LeO.none _
   | refine LeO.ite ?_ ?_
   | refine LeO.bind ?_ (fun _ => ?_)
  ·intro y0 y1 y2 y3 y4 y5 y6 y7 y8 y9 y10 y11 y12 y13 y14 y15 y16
   unfold quorumlaw12_PlanLocks.j5
   repeat' first
   | (with_reducible exact ih0 _ _ _ _ _ _)
   | (with_reducible exact ih1 _ _ _ _ _ _ _)
   | (with_reducible exact ih2 _ _ _ _ _ _ _ _ _ _ _ _ _ _ _ _)
   | (with_reducible exact ih3 _ _ _ _ _ _ _ _ _ _ _ _ _ _ _ _ _)
   | (with_reducible exact ih4 _ _ _ _ _ _ _ _ _ _ _ _ _ _ _ _)
   | (with_reducible exact ih5 _ _ _ _ _ _ _ _ _ _ _ _ _ _ _ _ _)
   | (with_reducible exact ih6 _ _ _ _ _ _ _ _ _ _ _ _ _ _ _ _ _)
   | (with_reducible exact ih7 _ _ _ _ _ _ _ _ _ _ _ _ _ _ _ _ _ _)
   | (with_reducible exact ih8 _ _ _ _ _ _ _ _ _ _ _ _ _ _ _ _ _ _ _ _ _ _ _ _)
   | (with_reducible exact ih9 _ _ _ _ _ _ _ _ _ _ _ _ _ _ _ _ _ _ _ _ _ _ _)
   | (with_reducible exact ih10 _ _ _ _ _ _ _ _ _ _ _ _ _ _ _ _ _ _ _)
   | (with_reducible exact plan_Check.mono _ _ _ _ _ _ _ _ _ _ _)
   | (with_reducible exact plan_Locks.mono _ _ _ _ _ _ _ _ _ _ _ _ _)
   | (with_reducible exact quorumlaw0_Locks.mono _ _)
   | (with_reducible exact quorumlaw12_Heavy.mono _ _ _ _)
   | (with_reducible exact quorumref0_CopyPend.mono _ _ _)
   | (with_reducible exact quorumref0_EqLocks.mono _ _ _)
   | (with_reducible exact quorumref0_EqPend.mono _ _ _ _ _)
   | (with_reducible exact quorumref12_Locks.mono _ _ _ _ _ _ _ _ _ _ _ _ _)
   | (with_reducible exact quorumref8_Pend.mono _ _ _)
   | (with_reducible exact LeO.refl _)
   | (with_reducible exact LeO.none _)
   | (with_reducible refine LeO.ite ?_ ?_)
   | (with_reducible refine LeO.bind ?_ (fun _ => ?_))
   | exact ih0 _ _ _ _ _ _
   | exact ih1 _ _ _ _ _ _ _
   | exact ih2 _ _ _ _ _ _ _ _ _ _ _ _ _ _ _ _
   | exact ih3 _ _ _ _ _ _ _ _ _ _ _ _ _ _ _ _ _
   | exact ih4 _ _ _ _ _ _ _ _ _ _ _ _ _ _ _ _
   | exact ih5 _ _ _ _ _ _ _ _ _ _ _ _ _ _ _ _ _
   | exact ih6 _ _ _ _ _ _ _ _ _ _ _ _ _ _ _ _ _
   | exact ih7 _ _ _ _ _ _ _ _ _ _ _ _ _ _ _ _ _ _
   | exact ih8 _ _ _ _ _ _ _ _ _ _ _ _ _ _ _ _ _ _ _ _ _ _ _ _
   | exact ih9 _ _ _ _ _ _ _ _ _ _ _ _ _ _ _ _ _ _ _ _ _ _ _
   | exact ih10 _ _ _ _ _ _ _ _ _ _ _ _ _ _ _ _ _ _ _
   | exact plan_Check.mono _ _ _ _ _ _ _ _ _ _ _
   | exact plan_Locks.mono _ _ _ _ _ _ _ _ _ _ _ _ _
   | exact quorumlaw0_Locks.mono _ _
   | exact quorumlaw12_Heavy.mono _ _ _ _
   | exact quorumref0_CopyPend.mono _ _ _
   | exact quorumref0_EqLocks.mono _ _ _
   | exact quorumref0_EqPend.mono _ _ _ _ _
   | exact quorumref12_Locks.mono _ _ _ _ _ _ _ _ _ _ _ _ _
   | exact quorumref8_Pend.mono _ _ _
   | exact LeO.none _
   | refine LeO.ite ?_ ?_
   | refine LeO.bind ?_ (fun _ => ?_)
  ·intro y0 y1 y2 y3 y4 y5 y6 y7 y8 y9 y10 y11 y12 y13 y14 y15 y16
   unfold quorumlaw12_PlanLocks.l3
   repeat' first
   | (with_reducible exact ih0 _ _ _ _ _ _)
   | (with_reducible exact ih1 _ _ _ _ _ _ _)
   | (with_reducible exact ih2 _ _ _ _ _ _ _ _ _ _ _ _ _ _ _ _)
   | (with_reducible exact ih3 _ _ _ _ _ _ _ _ _ _ _ _ _ _ _ _ _)
   | (with_reducible exact ih4 _ _ _ _ _ _ _ _ _ _ _ _ _ _ _ _)
   | (with_reducible exact ih5 _ _ _ _ _ _ _ _ _ _ _ _ _ _ _ _ _)
   | (with_reducible exact ih6 _ _ _ _ _ _ _ _ _ _ _ _ _ _ _ _ _)
   | (with_reducible exact ih7 _ _ _ _ _ _ _ _ _ _ _ _ _ _ _ _ _ _)
   | (with_reducible exact ih8 _ _ _ _ _ _ _ _ _ _ _ _ _ _ _ _ _ _ _ _ _ _ _ _)
   | (with_reducible exact ih9 _ _ _ _ _ _ _ _ _ _ _ _ _ _ _ _ _ _ _ _ _ _ _)
   | (with_reducible exact ih10 _ _ _ _ _ _ _ _ _ _ _ _ _ _ _ _ _ _ _)
   | (with_reducible exact plan_Check.mono _ _ _ _ _ _ _ _ _ _ _)
   | (with_reducible exact plan_Locks.mono _ _ _ _ _ _ _ _ _ _ _ _ _)
   | (with_reducible exact quorumlaw0_Locks.mono _ _)
   | (with_reducible exact quorumlaw12_Heavy.mono _ _ _ _)
   | (with_reducible exact quorumref0_CopyPend.mono _ _ _)
   | (with_reducible exact quorumref0_EqLocks.mono _ _ _)
   | (with_reducible exact quorumref0_EqPend.mono _ _ _ _ _)
   | (with_reducible exact quorumref12_Locks.mono _ _ _ _ _ _ _ _ _ _ _ _ _)
   | (with_reducible exact quorumref8_Pend.mono _ _ _)
   | (with_reducible exact LeO.refl _)
   | (with_reducible exact LeO.none _)
   | (with_reducible refine LeO.ite ?_ ?_)
   | (with_reducible refine LeO.bind ?_ (fun _ => ?_))
   | exact ih0 _ _ _ _ _ _
   | exact ih1 _ _ _ _ _ _ _
   | exact ih2 _ _ _ _ _ _ _ _ _ _ _ _ _ _ _ _
   | exact ih3 _ _ _ _ _ _ _ _ _ _ _ _ _ _ _ _ _
   | exact ih4 _ _ _ _ _ _ _ _ _ _ _ _ _ _ _ _
   | exact ih5 _ _ _ _ _ _ _ _ _ _ _ _ _ _ _ _ _
   | exact ih6 _ _ _ _ _ _ _ _ _ _ _ _ _ _ _ _ _
   | exact ih7 _ _ _ _ _ _ _ _ _ _ _ _ _ _ _ _ _ _
   | exact ih8 _ _ _ _ _ _ _ _ _ _ _ _ _ _ _ _ _ _ _ _ _ _ _ _
   | exact ih9 _ _ _ _ _ _ _ _ _ _ _ _ _ _ _ _ _ _ _ _ _ _ _
   | exact ih10 _ _ _ _ _ _ _ _ _ _ _ _ _ _ _ _ _ _ _
   | exact plan_Check.mono _ _ _ _ _ _ _ _ _ _ _
   | exact plan_Locks.mono _ _ _ _ _ _ _ _ _ _ _ _ _
   | exact quorumlaw0_Locks.mono _ _
   | exact quorumlaw12_Heavy.mono _ _ _ _
   | exact quorumref0_CopyPend.mono _ _ _
   | exact quorumref0_EqLocks.mono _ _ _
   | exact quorumref0_EqPend.mono _ _ _ _ _
   | exact quorumref12_Locks.mono _ _ _ _ _ _ _ _ _ _ _ _ _
   | exact quorumref8_Pend.mono _ _ _
   | exact LeO.none _
   | refine LeO.ite ?_ ?_
   | refine LeO.bind ?_ (fun _ => ?_)
  ·intro y0 y1 y2 y3 y4 y5 y6 y7 y8 y9 y10 y11 y12 y13 y14 y15 y16 y17
   unfold quorumlaw12_PlanLocks.j7
   repeat' first
   | (with_reducible exact ih0 _ _ _ _ _ _)
   | (with_reducible exact ih1 _ _ _ _ _ _ _)
   | (with_reducible exact ih2 _ _ _ _ _ _ _ _ _ _ _ _ _ _ _ _)
   | (with_reducible exact ih3 _ _ _ _ _ _ _ _ _ _ _ _ _ _ _ _ _)
   | (with_reducible exact ih4 _ _ _ _ _ _ _ _ _ _ _ _ _ _ _ _)
   | (with_reducible exact ih5 _ _ _ _ _ _ _ _ _ _ _ _ _ _ _ _ _)
   | (with_reducible exact ih6 _ _ _ _ _ _ _ _ _ _ _ _ _ _ _ _ _)
   | (with_reducible exact ih7 _ _ _ _ _ _ _ _ _ _ _ _ _ _ _ _ _ _)
   | (with_reducible exact ih8 _ _ _ _ _ _ _ _ _ _ _ _ _ _ _ _ _ _ _ _ _ _ _ _)
   | (with_reducible exact ih9 _ _ _ _ _ _ _ _ _ _ _ _ _ _ _ _ _ _ _ _ _ _ _)
   | (with_reducible exact ih10 _ _ _ _ _ _ _ _ _ _ _ _ _ _ _ _ _ _ _)
   | (with_reducible exact plan_Check.mono _ _ _ _ _ _ _ _ _ _ _)
   | (with_reducible exact plan_Locks.mono _ _ _ _ _ _ _ _ _ _ _ _ _)
   | (with_reducible exact quorumlaw0_Locks.mono _ _)
   | (with_reducible exact quorumlaw12_Heavy.mono _ _ _ _)
   | (with_reducible exact quorumref0_CopyPend.mono _ _ _)
   | (with_reducible exact quorumref0_EqLocks.mono _ _ _)
   | (with_reducible exact quorumref0_EqPend.mono _ _ _ _ _)
   | (with_reducible exact quorumref12_Locks.mono _ _ _ _ _ _ _ _ _ _ _ _ _)
   | (with_reducible exact quorumref8_Pend.mono _ _ _)
   | (with_reducible exact LeO.refl _)
   | (with_reducible exact LeO.none _)
   | (with_reducible refine LeO.ite ?_ ?_)
   | (with_reducible refine LeO.bind ?_ (fun _ => ?_))
   | exact ih0 _ _ _ _ _ _
   | exact ih1 _ _ _ _ _ _ _
   | exact ih2 _ _ _ _ _ _ _ _ _ _ _ _ _ _ _ _
   | exact ih3 _ _ _ _ _ _ _ _ _ _ _ _ _ _ _ _ _
   | exact ih4 _ _ _ _ _ _ _ _ _ _ _ _ _ _ _ _
   | exact ih5 _ _ _ _ _ _ _ _ _ _ _ _ _ _ _ _ _
   | exact ih6 _ _ _ _ _ _ _ _ _ _ _ _ _ _ _ _ _
   | exact ih7 _ _ _ _ _ _ _ _ _ _ _ _ _ _ _ _ _ _
   | exact ih8 _ _ _ _ _ _ _ _ _ _ _ _ _ _ _ _ _ _ _ _ _ _ _ _
   | exact ih9 _ _ _ _ _ _ _ _ _ _ _ _ _ _ _ _ _ _ _ _ _ _ _
   | exact ih10 _ _ _ _ _ _ _ _ _ _ _ _ _ _ _ _ _ _ _
   | exact plan_Check.mono _ _ _ _ _ _ _ _ _ _ _
   | exact plan_Locks.mono _ _ _ _ _ _ _ _ _ _ _ _ _
   | exact quorumlaw0_Locks.mono _ _
   | exact quorumlaw12_Heavy.mono _ _ _ _
   | exact quorumref0_CopyPend.mono _ _ _
   | exact quorumref0_EqLocks.mono _ _ _
   | exact quorumref0_EqPend.mono _ _ _ _ _
   | exact quorumref12_Locks.mono _ _ _ _ _ _ _ _ _ _ _ _ _
   | exact quorumref8_Pend.mono _ _ _
   | exact LeO.none _
   | refine LeO.ite ?_ ?_
   | refine LeO.bind ?_ (fun _ => ?_)
  ·intro y0 y1 y2 y3 y4 y5 y6 y7 y8 y9 y10 y11 y12 y13 y14 y15 y16 y17 y18 y19 y20 y21 y22 y23
   unfold quorumlaw12_PlanLocks.j8
   repeat' first
   | (with_reducible exact ih0 _ _ _ _ _ _)
   | (with_reducible exact ih1 _ _ _ _ _ _ _)
   | (with_reducible exact ih2 _ _ _ _ _ _ _ _ _ _ _ _ _ _ _ _)
   | (with_reducible exact ih3 _ _ _ _ _ _ _ _ _ _ _ _ _ _ _ _ _)
   | (with_reducible exact ih4 _ _ _ _ _ _ _ _ _ _ _ _ _ _ _ _)
   | (with_reducible exact ih5 _ _ _ _ _ _ _ _ _ _ _ _ _ _ _ _ _)
   | (with_reducible exact ih6 _ _ _ _ _ _ _ _ _ _ _ _ _ _ _ _ _)
   | (with_reducible exact ih7 _ _ _ _ _ _ _ _ _ _ _ _ _ _ _ _ _ _)
   | (with_reducible exact ih8 _ _ _ _ _ _ _ _ _ _ _ _ _ _ _ _ _ _ _ _ _ _ _ _)
   | (with_reducible exact ih9 _ _ _ _ _ _ _ _ _ _ _ _ _ _ _ _ _ _ _ _ _ _ _)
   | (with_reducible exact ih10 _ _ _ _ _ _ _ _ _ _ _ _ _ _ _ _ _ _ _)
   | (with_reducible exact plan_Check.mono _ _ _ _ _ _ _ _ _ _ _)
   | (with_reducible exact plan_Locks.mono _ _ _ _ _ _ _ _ _ _ _ _ _)
   | (with_reducible exact quorumlaw0_Locks.mono _ _)
   | (with_reducible exact quorumlaw12_Heavy.mono _ _ _ _)
   | (with_reducible exact quorumref0_CopyPend.mono _ _ _)
   | (with_reducible exact quorumref0_EqLocks.mono _ _ _)
   | (with_reducible exact quorumref0_EqPend.mono _ _ _ _ _)
   | (with_reducible exact quorumref12_Locks.mono _ _ _ _ _ _ _ _ _ _ _ _ _)
   | (with_reducible exact quorumref8_Pend.mono _ _ _)
   | (with_reducible exact LeO.refl _)
   | (with_reducible exact LeO.none _)
   | (with_reducible refine LeO.ite ?_ ?_)
   | (with_reducible refine LeO.bind ?_ (fun _ => ?_))
   | exact ih0 _ _ _ _ _ _
   | exact ih1 _ _ _ _ _ _ _
   | exact ih2 _ _ _ _ _ _ _ _ _ _ _ _ _ _ _ _
   | exact ih3 _ _ _ _ _ _ _ _ _ _ _ _ _ _ _ _ _
   | exact ih4 _ _ _ _ _ _ _ _ _ _ _ _ _ _ _ _
   | exact ih5 _ _ _ _ _ _ _ _ _ _ _ _ _ _ _ _ _
   | exact ih6 _ _ _ _ _ _ _ _ _ _ _ _ _ _ _ _ _
   | exact ih7 _ _ _ _ _ _ _ _ _ _ _ _ _ _ _ _ _ _
   | exact ih8 _ _ _ _ _ _ _ _ _ _ _ _ _ _ _ _ _ _ _ _ _ _ _ _
   | exact ih9 _ _ _ _ _ _ _ _ _ _ _ _ _ _ _ _ _ _ _ _ _ _ _
   | exact ih10 _ _ _ _ _ _ _ _ _ _ _ _ _ _ _ _ _ _ _
   | exact plan_Check.mono _ _ _ _ _ _ _ _ _ _ _
   | exact plan_Locks.mono _ _ _ _ _ _ _ _ _ _ _ _ _
   | exact quorumlaw0_Locks.mono _ _
   | exact quorumlaw12_Heavy.mono _ _ _ _
   | exact quorumref0_CopyPend.mono _ _ _
   | exact quorumref0_EqLocks.mono _ _ _
   | exact quorumref0_EqPend.mono _ _ _ _ _
   | exact quorumref12_Locks.mono _ _ _ _ _ _ _ _ _ _ _ _ _
   | exact quorumref8_Pend.mono _ _ _
   | exact LeO.none _
   | refine LeO.ite ?_ ?_
   | refine LeO.bind ?_ (fun _ => ?_)
  ·intro y0 y1 y2 y3 y4 y5 y6 y7 y8 y9 y10 y11 y12 y13 y14 y15 y16 y17 y18 y19 y20 y21 y22
   unfold quorumlaw12_PlanLocks.j9
   repeat' first
   | (with_reducible exact ih0 _ _ _ _ _ _)
   | (with_reducible exact ih1 _ _ _ _ _ _ _)
   | (with_reducible exact ih2 _ _ _ _ _ _ _ _ _ _ _ _ _ _ _ _)
   | (with_reducible exact ih3 _ _ _ _ _ _ _ _ _ _ _ _ _ _ _ _ _)
   | (with_reducible exact ih4 _ _ _ _ _ _ _ _ _ _ _ _ _ _ _ _)
   | (with_reducible exact ih5 _ _ _ _ _ _ _ _ _ _ _ _ _ _ _ _ _)
   | (with_reducible exact ih6 _ _ _ _ _ _ _ _ _ _ _ _ _ _ _ _ _)
   | (with_reducible exact ih7 _ _ _ _ _ _ _ _ _ _ _ _ _ _ _ _ _ _)
   | (with_reducible exact ih8 _ _ _ _ _ _ _ _ _ _ _ _ _ _ _ _ _ _ _ _ _ _ _ _)
   | (with_reducible exact ih9 _ _ _ _ _ _ _ _ _ _ _ _ _ _ _ _ _ _ _ _ _ _ _)
   | (with_reducible exact ih10 _ _ _ _ _ _ _ _ _ _ _ _ _ _ _ _ _ _ _)
   | (with_reducible exact plan_Check.mono _ _ _ _ _ _ _ _ _ _ _)
   | (with_reducible exact plan_Locks.mono _ _ _ _ _ _ _ _ _ _ _ _ _)
   | (with_reducible exact quorumlaw0_Locks.mono _ _)
   | (with_reducible exact quorumlaw12_Heavy.mono _ _ _ _)
   | (with_reducible exact quorumref0_CopyPend.mono _ _ _)
   | (with_reducible exact quorumref0_EqLocks.mono _ _ _)
   | (with_reducible exact quorumref0_EqPend.mono _ _ _ _ _)
   | (with_reducible exact quorumref12_Locks.mono _ _ _ _ _ _ _ _ _ _ _ _ _)
   | (with_reducible exact quorumref8_Pend.mono _ _ _)
   | (with_reducible exact LeO.refl _)
   | (with_reducible exact LeO.none _)
   | (with_reducible refine LeO.ite ?_ ?_)
   | (with_reducible refine LeO.bind ?_ (fun _ => ?_))
   | exact ih0 _ _ _ _ _ _
   | exact ih1 _ _ _ _ _ _ _
   | exact ih2 _ _ _ _ _ _ _ _ _ _ _ _ _ _ _ _
   | exact ih3 _ _ _ _ _ _ _ _ _ _ _ _ _ _ _ _ _
   | exact ih4 _ _ _ _ _ _ _ _ _ _ _ _ _ _ _ _
   | exact ih5 _ _ _ _ _ _ _ _ _ _ _ _ _ _ _ _ _
   | exact ih6 _ _ _ _ _ _ _ _ _ _ _ _ _ _ _ _ _
   | exact ih7 _ _ _ _ _ _ _ _ _ _ _ _ _ _ _ _ _ _
   | exact ih8 _ _ _ _ _ _ _ _ _ _ _ _ _ _ _ _ _ _ _ _ _ _ _ _
   | exact ih9 _ _ _ _ _ _ _ _ _ _ _ _ _ _ _ _ _ _ _ _ _ _ _
   | exact ih10 _ _ _ _ _ _ _ _ _ _ _ _ _ _ _ _ _ _ _
   | exact plan_Check.mono _ _ _ _ _ _ _ _ _ _ _
   | exact plan_Locks.mono _ _ _ _ _ _ _ _ _ _ _ _ _
   | exact quorumlaw0_Locks.mono _ _
   | exact quorumlaw12_Heavy.mono _ _ _ _
   | exact quorumref0_CopyPend.mono _ _ _
   | exact quorumref0_EqLocks.mono _ _ _
   | exact quorumref0_EqPend.mono _ _ _ _ _
   | exact quorumref12_Locks.mono _ _ _ _ _ _ _ _ _ _ _ _ _
   | exact quorumref8_Pend.mono _ _ _
   | exact LeO.none _
   | refine LeO.ite ?_ ?_
   | refine LeO.bind ?_ (fun _ => ?_)
  ·intro y0 y1 y2 y3 y4 y5 y6 y7 y8 y9 y10 y11 y12 y13 y14 y15 y16 y17 y18
   unfold quorumlaw12_PlanLocks.j10
   repeat' first
   | (with_reducible exact ih0 _ _ _ _ _ _)
   | (with_reducible exact ih1 _ _ _ _ _ _ _)
   | (with_reducible exact ih2 _ _ _ _ _ _ _ _ _ _ _ _ _ _ _ _)
   | (with_reducible exact ih3 _ _ _ _ _ _ _ _ _ _ _ _ _ _ _ _ _)
   | (with_reducible exact ih4 _ _ _ _ _ _ _ _ _ _ _ _ _ _ _ _)
   | (with_reducible exact ih5 _ _ _ _ _ _ _ _ _ _ _ _ _ _ _ _ _)
   | (with_reducible exact ih6 _ _ _ _ _ _ _ _ _ _ _ _ _ _ _ _ _)
   | (with_reducible exact ih7 _ _ _ _ _ _ _ _ _ _ _ _ _ _ _ _ _ _)
   | (with_reducible exact ih8 _ _ _ _ _ _ _ _ _ _ _ _ _ _ _ _ _ _ _ _ _ _ _ _)
   | (with_reducible exact ih9 _ _ _ _ _ _ _ _ _ _ _ _ _ _ _ _ _ _ _ _ _ _ _)
   | (with_reducible exact ih10 _ _ _ _ _ _ _ _ _ _ _ _ _ _ _ _ _ _ _)
   | (with_reducible exact plan_Check.mono _ _ _ _ _ _ _ _ _ _ _)
   | (with_reducible exact plan_Locks.mono _ _ _ _ _ _ _ _ _ _ _ _ _)
   | (with_reducible exact quorumlaw0_Locks.mono _ _)
   | (with_reducible exact quorumlaw12_Heavy.mono _ _ _ _)
   | (with_reducible exact quorumref0_CopyPend.mono _ _ _)
   | (with_reducible exact quorumref0_EqLocks.mono _ _ _)
   | (with_reducible exact quorumref0_EqPend.mono _ _ _ _ _)
   | (with_reducible exact quorumref12_Locks.mono _ _ _ _ _ _ _ _ _ _ _ _ _)
   | (with_reducible exact quorumref8_Pend.mono _ _ _)
   | (with_reducible exact LeO.refl _)
   | (with_reducible exact LeO.none _)
   | (with_reducible refine LeO.ite ?_ ?_)
   | (with_reducible refine LeO.bind ?_ (fun _ => ?_))
   | exact ih0 _ _ _ _ _ _
   | exact ih1 _ _ _ _ _ _ _
   | exact ih2 _ _ _ _ _ _ _ _ _ _ _ _ _ _ _ _
   | exact ih3 _ _ _ _ _ _ _ _ _ _ _ _ _ _ _ _ _
   | exact ih4 _ _ _ _ _ _ _ _ _ _ _ _ _ _ _ _
   | exact ih5 _ _ _ _ _ _ _ _ _ _ _ _ _ _ _ _ _
   | exact ih6 _ _ _ _ _ _ _ _ _ _ _ _ _ _ _ _ _
   | exact ih7 _ _ _ _ _ _ _ _ _ _ _ _ _ _ _ _ _ _
   | exact ih8 _ _ _ _ _ _ _ _ _ _ _ _ _ _ _ _ _ _ _ _ _ _ _ _
   | exact ih9 _ _ _ _ _ _ _ _ _ _ _ _ _ _ _ _ _ _ _ _ _ _ _
   | exact ih10 _ _ _ _ _ _ _ _ _ _ _ _ _ _ _ _ _ _ _
   | exact plan_Check.mono _ _ _ _ _ _ _ _ _ _ _
   | exact plan_Locks.mono _ _ _ _ _ _ _ _ _ _ _ _ _
   | exact quorumlaw0_Locks.mono _ _
   | exact quorumlaw12_Heavy.mono _ _ _ _
   | exact quorumref0_CopyPend.mono _ _ _
   | exact quorumref0_EqLocks.mono _ _ _
   | exact quorumref0_EqPend.mono _ _ _ _ _
   | exact quorumref12_Locks.mono _ _ _ _ _ _ _ _ _ _ _ _ _
   | exact quorumref8_Pend.mono _ _ _
   | exact LeO.none _
   | refine LeO.ite ?_ ?_
   | refine LeO.bind ?_ (fun _ => ?_)
theorem quorumlaw12_PlanLocks.mono : ∀ a0 a1 a2 k, LeO (quorumlaw12_PlanLocks.f k a0 a1 a2) (quorumlaw12_PlanLocks.f (k + 1) a0 a1 a2) := by
 intro a0 a1 a2 k
 obtain ⟨ih0, ih1, ih2, ih3, ih4, ih5, ih6, ih7, ih8, ih9, ih10⟩ := quorumlaw12_PlanLocks.mono_l k
 unfold quorumlaw12_PlanLocks.f
 repeat' first
   | (with_reducible exact ih0 _ _ _ _ _ _)
   | (with_reducible exact ih1 _ _ _ _ _ _ _)
   | (with_reducible exact ih2 _ _ _ _ _ _ _ _ _ _ _ _ _ _ _ _)
   | (with_reducible exact ih3 _ _ _ _ _ _ _ _ _ _ _ _ _ _ _ _ _)
   | (with_reducible exact ih4 _ _ _ _ _ _ _ _ _ _ _ _ _ _ _ _)
   | (with_reducible exact ih5 _ _ _ _ _ _ _ _ _ _ _ _ _ _ _ _ _)
   | (with_reducible exact ih6 _ _ _ _ _ _ _ _ _ _ _ _ _ _ _ _ _)
   | (with_reducible exact ih7 _ _ _ _ _ _ _ _ _ _ _ _ _ _ _ _ _ _)
   | (with_reducible exact ih8 _ _ _ _ _ _ _ _ _ _ _ _ _ _ _ _ _ _ _ _ _ _ _ _)
   | (with_reducible exact ih9 _ _ _ _ _ _ _ _ _ _ _ _ _ _ _ _ _ _ _ _ _ _ _)
   | (with_reducible exact ih10 _ _ _ _ _ _ _ _ _ _ _ _ _ _ _ _ _ _ _)
   | (with_reducible exact plan_Check.mono _ _ _ _ _ _ _ _ _ _ _)
   | (with_reducible exact plan_Locks.mono _ _ _ _ _ _ _ _ _ _ _ _ _)
   | (with_reducible exact quorumlaw0_Locks.mono _ _)
   | (with_reducible exact quorumlaw12_Heavy.mono _ _ _ _)
   | (with_reducible exact quorumref0_CopyPend.mono _ _ _)
   | (with_reducible exact quorumref0_EqLocks.mono _ _ _)
   | (with_reducible exact quorumref0_EqPend.mono _ _ _ _ _)
   | (with_reducible exact quorumref12_Locks.mono _ _ _ _ _ _ _ _ _ _ _ _ _)
   | (with_reducible exact quorumref8_Pend.mono _ _ _)
   | (with_reducible exact LeO.refl _)
   | (with_reducible exact LeO.none _)
   | (with_reducible refine LeO.ite ?_ ?_)
   | (with_reducible refine LeO.bind ?_ (fun _ => ?_))
   | exact ih0 _ _ _ _ _ _
   | exact ih1 _ _ _ _ _ _ _
   | exact ih2 _ _ _ _ _ _ _ _ _ _ _ _ _ _ _ _
   | exact ih3 _ _ _ _ _ _ _ _ _ _ _ _ _ _ _ _ _
   | exact ih4 _ _ _ _ _ _ _ _ _ _ _ _ _ _ _ _
   | exact ih5 _ _ _ _ _ _ _ _ _ _ _ _ _ _ _ _ _
   | exact ih6 _ _ _ _ _ _ _ _ _ _ _ _ _ _ _ _ _
   | exact ih7 _ _ _ _ _ _ _ _ _ _ _ _ _ _ _ _ _ _
   | exact ih8 _ _ _ _ _ _ _ _ _ _ _ _ _ _ _ _ _ _ _ _ _ _ _ _
   | exact ih9 _ _ _ _ _ _ _ _ _ _ _ _ _ _ _ _ _ _ _ _ _ _ _
   | exact ih10 _ _ _ _ _ _ _ _ _ _ _ _ _ _ _ _ _ _ _
   | exact plan_Check.mono _ _ _ _ _ _ _ _ _ _ _
   | exact plan_Locks.mono _ _ _ _ _ _ _ _ _ _ _ _ _
   | exact quorumlaw0_Locks.mono _ _
   | exact quorumlaw12_Heavy.mono _ _ _ _
   | exact quorumref0_CopyPend.mono _ _ _
   | exact quorumref0_EqLocks.mono _ _ _
   | exact quorumref0_EqPend.mono _ _ _ _ _
   | exact quorumref12_Locks.mono _ _ _ _ _ _ _ _ _ _ _ _ _
   | exact quorumref8_Pend.mono _ _ _
   | exact LeO.none _
   | refine LeO.ite ?_ ?_
   | refine LeO.bind ?_ (fun _ => ?_)
def quorumlaw12_PlanLocks.T24 : Bool × List (List Nat × List Nat) := (true, [([], []), ([], []), ([], []), ([], []), ([2, 3], [2, 3]), ([4], [4]), ([0, 1, 5], [0, 1, 5]), ([6], [6]), ([7], [7]), ([7], [7]), ([8, 6, 0, 1, 2, 3, 4, 5, 6, 7, 8], [8]), ([9, 10, 0, 1, 2, 3, 4, 5, 6, 7, 8, 9, 10], [9])])
def quorumlaw12_PlanLocks.B24 : List Nat := [0, 0, 0, 0, 12, 28, 63, 127, 255, 255, 511, 2047]
theorem quorumlaw12_PlanLocks.tab24 : rtab .any (opsOf Try.f47 24) = quorumlaw12_PlanLocks.T24 := by kernel_rfl
theorem quorumlaw12_PlanLocks.bits24 : waitsOk quorumlaw12_PlanLocks.T24.2 quorumlaw12_PlanLocks.B24 = true := by kernel_rfl
def quorumlaw12_PlanLocks.T28 : Bool × List (List Nat × List Nat) := (true, [([], []), ([], []), ([], []), ([1, 2], [1, 2]), ([3], [3]), ([], []), ([], []), ([5, 6], [5, 6]), ([7], [7]), ([0, 4, 8], [0, 4, 8]), ([9], []), ([9, 10, 0, 1, 2, 3, 4, 5, 6, 7, 8, 9, 10], [9])])
def quorumlaw12_PlanLocks.B28 : List Nat := [0, 0, 0, 6, 14, 0, 0, 96, 224, 511, 1023, 2047]
theorem quorumlaw12_PlanLocks.tab28 : rtab .any (opsOf Try.f47 28) = quorumlaw12_PlanLocks.T28 := by kernel_rfl
theorem quorumlaw12_PlanLocks.bits28 : waitsOk quorumlaw12_PlanLocks.T28.2 quorumlaw12_PlanLocks.B28 = true := by kernel_rfl
def quorumlaw12_PlanLocks.T29 : Bool × List (List Nat × List Nat) := (true, [([], []), ([0], [0]), ([], []), ([1, 2], [1, 2]), ([3, 1], [3]), ([4], [4]), ([4], [4]), ([5, 6, 4, 4], [4, 5, 6]), ([7, 4], [4, 7]), ([4, 8], [4, 8]), ([9, 7], [9]), ([10], [10]), ([10], [10]), ([10], [10]), ([12, 13, 10], [10, 12, 13]), ([14, 10], [10, 14]), ([11, 15, 10, 10], [10, 11, 15]), ([16, 10], [10, 16]), ([10, 17], [10, 17])])
def quorumlaw12_PlanLocks.B29 : List Nat := [0, 1, 0, 7, 15, 31, 31, 127, 255, 511, 1023, 2047, 2047, 2047, 14335, 30719, 65535, 131071, 262143]
theorem quorumlaw12_PlanLocks.tab29 : rtab .any (opsOf Try.f47 29) = quorumlaw12_PlanLocks.T29 := by kernel_rfl
theorem quorumlaw12_PlanLocks.bits29 : waitsOk quorumlaw12_PlanLocks.T29.2 quorumlaw12_PlanLocks.B29 = true := by kernel_rfl
set_option maxHeartbeats 8000000 in
set_option maxRecDepth 100000 in
theorem quorumlaw12_PlanLocks.calls (k : Nat) (A0_0 : Option Addr) (c0_0 : Nat) (l0_0 : List (S101)) (P0_1_ : Nat → Prop) (A0_1 : Option Addr) (c0_1 : Nat) (l0_1 : List (S34)) (A0_2 : Option Addr) (c0_2 : Nat) (l0_2 : List Int) (r : Bool) (w : World) (hr0_0 : Kd.C k101 w A0_0 l0_0.length l0_0) (hc0_0 : l0_0.length ≤ c0_0) (hs0_1 : Kd.V k34 34 w w.heap.size (fun k_ => P0_1_ k_) (.slice A0_1 l0_1.length c0_1) l0_1) (hr0_2 : Kd.C (Kd.int .i64) w A0_2 l0_2.length l0_2) (hc0_2 : l0_2.length ≤ c0_2) (h : quorumlaw12_PlanLocks.f k l0_0 l0_1 l0_2 = some r) :
  Calls Try.prog 47 #[.agg #[.slice A0_0 l0_0.length c0_0, .slice A0_1 l0_1.length c0_1, .slice A0_2 l0_2.length c0_2]] w fun e w' => e = .returned (.bool r) ∧ Below w.heap.size w w' := by
 have hu51 := Try.underlying51
 have hu34 := Try.underlying34
 have hu101 := Try.underlying101
 have HR0_0 := mk0 hr0_0
 have HC0_0 := mk0 hc0_0
 clear hr0_0 hc0_0
 have HO0_1 := mk0 (show Kd.V k34 34 w w.heap.size (fun k_ => (P0_1_ k_ ∨ w.heap.size ≤ k_)) (.slice A0_1 l0_1.length c0_1) l0_1 from Kd.V_mono hs0_1 (fun k_ hk => .inl hk))
 have HR0_2 := mk0 hr0_2
 have HC0_2 := mk0 hc0_2
 clear hr0_2 hc0_2
 have HB := mk0 (Below.refl w.heap.size w)
 have H : ((quorumlaw12_Heavy.f k l0_0 l0_1 l0_2).bind fun t296 => (if t296 = true then (some true) else ((some (([(⟨([] : List (S36)), ([] : List Int)⟩ : S34)] : List (S34)) : List (S34))).bind fun y297 => (if y297.length + l0_1.length < 2932031007402 then ((some (([0, 5, (-1)] : List Int) : List Int)).bind fun y303 => (if y303.length + l0_2.length < 17592186044416 then (quorumlaw12_PlanLocks.l0 k (y297 ++ l0_1) (y303 ++ l0_2) 0 l0_0 l0_1 l0_2) else (none))) else (none))))) = some r := h
 clear h
 replace H := Option.bind_eq_some_iff.mp H
 obtain ⟨t296, A20, H⟩ := H
 try dsimp only at H
 have A2 := mk0 A20
 clear A20
 by_cases c3 : t296 = true
 ·subst c3
  rw [if_pos rfl] at H
  obtain rfl := Option.some.inj H
  go_enter Try.func47, Try.ntmps47
  go_wp2_with (first | ((with_reducible refine gate_dst (N := 1) rfl ?_); refine bx_ (N := 1) (cs := #[.slice A0_0 l0_0.length c0_0, .slice A0_1 l0_1.length c0_1, .slice A0_2 l0_2.length c0_2]) (t := 51) (h := ?_); intro gb295 hg w4 hbox hb; have n3_ := mk0 (gz_ HB hg); have n4_ := mk0 (gz_ HB hg); replace HO0_1 := mk0 (Kd.V_below (Kd.V_elderB (v_ HO0_1) gb295 (Nat.le_of_eq hg.symm)) hb); replace HB := mk0 (bt_ (b_ HB) hb); have BK295 := mk0 (hbox); have GW295 := n3_; have GE295 := n4_; clear n3_ n4_ hb hbox hg; obtain ⟨hcz5_0, hcz5_1, hcz5_2, hfz5_0, hfz5_1, hfz5_2⟩ := c3_ BK295) | ((with_reducible refine gate_callee (f := 101) rfl ?_); refine gL_ (some 17) Try.func101 #[.agg #[.slice A0_0 l0_0.length c0_0, .slice A0_1 l0_1.length c0_1, .slice A0_2 l0_2.length c0_2]] (h := ?_); (with_reducible refine (quorumlaw12_Heavy.calls k _ _ l0_0 _ _ l0_1 _ _ l0_2 true _ ?side1 ?side2 ?side3 ?side4 ?side5 ?side6 A2.out).mono ?_); (case side1 => exact cb_ HR0_0 HB); (case side2 => exact HC0_0.out); (case side3 => exact cv_ HO0_1); (case side4 => exact (Kd.V_reads' HO0_1.out).2.1); (case side5 => exact cb_ HR0_2 HB); (case side6 => exact HC0_2.out); rintro e w6 ⟨rfl, hb⟩; refine ⟨_, rfl, ?_⟩; replace HO0_1 := mk0 (Kd.V_below (v_ HO0_1) hb); replace BK295 := mk0 (u_ BK295 hb); replace HB := mk0 (bt_ (b_ HB) hb); (try clear hb)))
  go_ret
  exact ⟨by first | rfl | (simp [errW_none, errW_some] <;> rfl) | (simp [*, errW_none, errW_some] <;> rfl), b_ HB⟩
 replace c3 := Bool.eq_false_iff.mpr c3
 subst c3
 rw [if_neg (show ¬ (false = true) by decide)] at H
 obtain ⟨y297, hy297⟩ : ∃ y_ : List (S34), y_ = (([(⟨([] : List (S36)), ([] : List Int)⟩ : S34)] : List (S34))) := ⟨_, rfl⟩
 replace H : (if y297.length + l0_1.length < 2932031007402 then ((some (([0, 5, (-1)] : List Int) : List Int)).bind fun y303 => (if y303.length + l0_2.length < 17592186044416 then (quorumlaw12_PlanLocks.l0 k (y297 ++ l0_1) (y303 ++ l0_2) 0 l0_0 l0_1 l0_2) else (none))) else (none)) = some r := by first | (rw [hy297]; with_reducible exact H) | (have H2_ := (Option.bind_some _ _).symm.trans H; rw [hy297]; with_reducible exact H2_) | (have H2_ := (Option.bind_some _ _).symm.trans H; with_reducible exact H2_) | with_reducible exact H | (rw [hy297]; exact H) | exact H
 have Ny297 := mk0 hy297
 clear hy297
 by_cases c7 : y297.length + l0_1.length < 2932031007402
 rotate_left
 ·rw [if_neg c7] at H
  exact absurd H (by simp)
 rw [if_pos c7] at H
 have LMc7 := mk0 c7
 clear c7
 obtain ⟨y300, hy300⟩ : ∃ y_ : List (S34), y_ = (y297 ++ l0_1) := ⟨_, rfl⟩
 replace H : ((some (([0, 5, (-1)] : List Int) : List Int)).bind fun y303 => (if y303.length + l0_2.length < 17592186044416 then (quorumlaw12_PlanLocks.l0 k y300 (y303 ++ l0_2) 0 l0_0 l0_1 l0_2) else (none))) = some r := by first | (rw [hy300]; with_reducible exact H) | (have H2_ := (Option.bind_some _ _).symm.trans H; rw [hy300]; with_reducible exact H2_) | (have H2_ := (Option.bind_some _ _).symm.trans H; with_reducible exact H2_) | with_reducible exact H | (rw [hy300]; exact H) | exact H
 have Ny300 := mk0 hy300
 clear hy300
 obtain ⟨y303, hy303⟩ : ∃ y_ : List Int, y_ = (([0, 5, (-1)] : List Int)) := ⟨_, rfl⟩
 replace H : (if y303.length + l0_2.length < 17592186044416 then (quorumlaw12_PlanLocks.l0 k y300 (y303 ++ l0_2) 0 l0_0 l0_1 l0_2) else (none)) = some r := by first | (rw [hy303]; with_reducible exact H) | (have H2_ := (Option.bind_some _ _).symm.trans H; rw [hy303]; with_reducible exact H2_) | (have H2_ := (Option.bind_some _ _).symm.trans H; with_reducible exact H2_) | with_reducible exact H | (rw [hy303]; exact H) | exact H
 have Ny303 := mk0 hy303
 clear hy303
 by_cases c8 : y303.length + l0_2.length < 17592186044416
 rotate_left
 ·rw [if_neg c8] at H
  exact absurd H (by simp)
 rw [if_pos c8] at H
 have LMc8 := mk0 c8
 clear c8
 obtain ⟨y306, hy306⟩ : ∃ y_ : List Int, y_ = (y303 ++ l0_2) := ⟨_, rfl⟩
 replace H : (quorumlaw12_PlanLocks.l0 k y300 y306 0 l0_0 l0_1 l0_2) = some r := by first | (rw [hy306]; with_reducible exact H) | (have H2_ := (Option.bind_some _ _).symm.trans H; rw [hy306]; with_reducible exact H2_) | (have H2_ := (Option.bind_some _ _).symm.trans H; with_reducible exact H2_) | with_reducible exact H | (rw [hy306]; exact H) | exact H
 have Ny306 := mk0 hy306
 clear hy306
 have H' := mk0 H
 clear H
 go_enter Try.func47, Try.ntmps47
 go_wp2_with (first | ((with_reducible refine gate_dst (N := 1) rfl ?_); refine bx_ (N := 1) (cs := #[.slice A0_0 l0_0.length c0_0, .slice A0_1 l0_1.length c0_1, .slice A0_2 l0_2.length c0_2]) (t := 51) (h := ?_); intro gb295 hg w9 hbox hb; have n3_ := mk0 (gz_ HB hg); have n4_ := mk0 (gz_ HB hg); replace HO0_1 := mk0 (Kd.V_below (Kd.V_elderB (v_ HO0_1) gb295 (Nat.le_of_eq hg.symm)) hb); replace HB := mk0 (bt_ (b_ HB) hb); have BK295 := mk0 (hbox); have GW295 := n3_; have GE295 := n4_; clear n3_ n4_ hb hbox hg; obtain ⟨hcz10_0, hcz10_1, hcz10_2, hfz10_0, hfz10_1, hfz10_2⟩ := c3_ BK295) | ((with_reducible refine gate_callee (f := 101) rfl ?_); refine gL_ (some 17) Try.func101 #[.agg #[.slice A0_0 l0_0.length c0_0, .slice A0_1 l0_1.length c0_1, .slice A0_2 l0_2.length c0_2]] (h := ?_); (with_reducible refine (quorumlaw12_Heavy.calls k _ _ l0_0 _ _ l0_1 _ _ l0_2 false _ ?side1 ?side2 ?side3 ?side4 ?side5 ?side6 A2.out).mono ?_); (case side1 => exact cb_ HR0_0 HB); (case side2 => exact HC0_0.out); (case side3 => exact cv_ HO0_1); (case side4 => exact (Kd.V_reads' HO0_1.out).2.1); (case side5 => exact cb_ HR0_2 HB); (case side6 => exact HC0_2.out); rintro e w11 ⟨rfl, hb⟩; refine ⟨_, rfl, ?_⟩; replace HO0_1 := mk0 (Kd.V_below (v_ HO0_1) hb); replace BK295 := mk0 (u_ BK295 hb); replace HB := mk0 (bt_ (b_ HB) hb); (try clear hb)) | ((with_reducible refine gate_dst (N := 19) rfl ?_); refine Kd.N_lit k34 _ 34 ?hg (N' := 19) ?hd (xs := ([(⟨([] : List (S36)), ([] : List Int)⟩ : S34)] : List (S34))) (inner := [.slice none 0 0, .slice none 0 0]) (ok := (fun k_ => (P0_1_ k_ ∨ w.heap.size ≤ k_) ∧ k_ ≠ gb295)) (okp := (fun k_ => (P0_1_ k_ ∨ w.heap.size ≤ k_) ∧ k_ ≠ gb295)) ?hr ?hp (fun _ hk => hk) ((show ∀ k_, w11.heap.size ≤ k_ → (fun k_ => (P0_1_ k_ ∨ w.heap.size ≤ k_) ∧ k_ ≠ gb295) k_ from fun k_ hk => ⟨(.inr (Nat.le_trans (bz_ (b_ HB)) hk)), Kd.freshB (g := gb295) (o := .cells #[.slice A0_0 l0_0.length c0_0, .slice A0_1 l0_1.length c0_1, .slice A0_2 l0_2.length c0_2] 51 (0, 0)) (h_ BK295) k_ hk⟩) _ (Nat.le_refl _)) (Below.refl _ _) (Nat.le_refl _) (by simp) ?_; (case hd => rfl); (case hg => rfl); (case hr => first | (go_simp; done) | (go_simp; rfl)); (case hp => exact (Reps.c2 (show Kd.FK k34 _ _ (⟨([] : List (S36)), ([] : List Int)⟩ : S34) [.slice none 0 0, .slice none 0 0] from (k34_mkF _ _ (⟨([] : List (S36)), ([] : List Int)⟩ : S34) (Nat.le_refl _) (Kd.F_nil _ _ _) (Nat.le_refl _) (Kd.F_nil _ _ _))) (Reps.none _ _))); intro v298 w12 ho13 hb hg_ hnew_; clear hg_ hnew_; (first | rw [← Ny297.out] at ho13 | (simp only [Int.reduceToNat] at ho13; rw [← Ny297.out] at ho13)); have n1_ := mk0 (Kd.N_lower ho13 (bz_ (b_ HB))); replace HO0_1 := mk0 (Kd.V_elder' (v_ HO0_1) (Kd.N_base ho13) hb); replace BK295 := mk0 (u_ BK295 hb); replace HB := mk0 (bt_ (b_ HB) hb); have HO299 := n1_; clear n1_ hb ho13; obtain ⟨hcz14_0, hcz14_1, hcz14_2, hfz14_0, hfz14_1, hfz14_2⟩ := c3_ BK295) | ((with_reducible refine gate_builtin (b := .append) (xs := #[.tmp 19, .tmp 21]) rfl ?_); at_builtin; refine Kd.N_append_rows k34 (w0 := w) w.heap.size rfl (.tmp 19) (.tmp 21) 23 34 (.agg #[(.slice none 0 0), (.slice none 0 0)]) 48 rfl Try.underlying23 info34 rfl (by decide) (by omega) v298 y297 l0_1 _ _ _ (fun k_ => (P0_1_ k_ ∨ w.heap.size ≤ k_) ∧ k_ ≠ gb295) (fun k_ => ((fun k_ => (P0_1_ k_ ∨ w.heap.size ≤ k_) ∧ k_ ≠ gb295)) k_ ∧ some k_ ≠ (v298 : Value).ownBlock) rfl rfl ?aO ?aR (fun _ hk => hk) ?aF ?aB ?aS ?aL ?_; (case aR => exact (by skip; exact Kd.V_F (Kd.V_mono (ok' := (fun k_ => ((fun k_ => (P0_1_ k_ ∨ w.heap.size ≤ k_) ∧ k_ ≠ gb295)) k_ ∧ some k_ ≠ (v298 : Value).ownBlock)) (HO0_1.out) (fun k_ hk => ⟨⟨hk.1.1, hk.1.2⟩, hk.2⟩)))); (case aB => exact (b_ HB)); (case aF => exact (fun k_ hk => ⟨(.inr (Nat.le_trans (bz_ (b_ HB)) hk)), Kd.freshB (g := gb295) (o := .cells #[.slice A0_0 l0_0.length c0_0, .slice A0_1 l0_1.length c0_1, .slice A0_2 l0_2.length c0_2] 51 (0, 0)) (h_ BK295) k_ hk⟩)); (case aO => exact (nn_ HO299)); (case aS => exact (bz_ (b_ HB))); (case aL => have := LMc7.out; omega); intro v301 w15 ho hb hg hat; rw [← Ny300.out] at ho; replace HO0_1 := mk0 (Kd.V_afterv (ok := (fun k_ => (P0_1_ k_ ∨ w.heap.size ≤ k_) ∧ k_ ≠ gb295)) (v_ HO0_1) hg hat); replace BK295 := mk0 (blk_grown (g := gb295) (o := .cells #[.slice A0_0 l0_0.length c0_0, .slice A0_1 l0_1.length c0_1, .slice A0_2 l0_2.length c0_2] 51 (0, 0)) (h_ BK295) hg (Kd.N_ne HO299.out BK295.out (by decide))); replace HB := mk0 (hb); have HO302 := mk0 (ho); clear HO299; clear ho hb hg hat) | ((with_reducible refine gate_dst (N := 23) rfl ?_); refine Kd.R_lit (Kd.int .i64) _ 3 ?hg (N := 23) ?hd (xs := ([0, 5, (-1)] : List Int)) (inner := [.int .i64 0, .int .i64 5, .int .i64 (-1)]) (ok := fun _ => True) (okp := fun _ => True) ?hr ?hp (fun _ hk => hk) trivial (Below.refl _ _) (Nat.le_refl _) (by simp) ?_; (case hd => rfl); (case hg => rfl); (case hr => first | (go_simp; done) | (go_simp; rfl)); (case hp => exact (Reps.one (show Kd.M (Kd.int .i64) _ _ _ 0 [.int .i64 0] from rfl) (Reps.one (show Kd.M (Kd.int .i64) _ _ _ 5 [.int .i64 5] from rfl) (Reps.one (show Kd.M (Kd.int .i64) _ _ _ (-1) [.int .i64 (-1)] from rfl) (Reps.none _ _))))); intro v304 w16 ho17 hb hg_ hnew_; clear hg_ hnew_; (first | rw [← Ny303.out] at ho17 | (simp only [Int.reduceToNat] at ho17; rw [← Ny303.out] at ho17)); have n2_ := mk0 (Kd.R_lower (Kd.R_newM (M := fun k_ => (w.heap.size ≤ k_)) ho17 (bz_ (b_ HB)) (fun k_ h_ => h_)) (bz_ (b_ HB))); replace HO0_1 := mk0 (Kd.V_elder' (v_ HO0_1) (Kd.R_base ho17) hb); replace HO302 := mk0 (Kd.N_elder' (nn_ HO302) (Kd.R_base ho17) hb); replace BK295 := mk0 (u_ BK295 hb); replace HB := mk0 (bt_ (b_ HB) hb); have HO305 := n2_; clear n2_ hb ho17; obtain ⟨hcz18_0, hcz18_1, hcz18_2, hfz18_0, hfz18_1, hfz18_2⟩ := c3_ BK295) | ((with_reducible refine gate_builtin (b := .append) (xs := #[.tmp 23, .tmp 25]) rfl ?_); at_builtin; refine Kd.R_append_rows (Kd.int .i64) (w0 := w) w.heap.size rfl (.tmp 23) (.tmp 25) 24 3 (.int .i64 0) 8 rfl Try.underlying24 info3 rfl (by decide) (by omega) v304 y303 l0_2 _ _ _ (fun k_ => (w.heap.size ≤ k_)) (fun _ => False) rfl rfl ?aO ?aR (fun _ _ h => h) (fun _ h => h.elim) ?aF ?aB ?aS ?aL ?_; (case aR => repeat (first | exact (Kd.C_below HR0_2.out HB.out) | (with_reducible refine Kd.C_alloc ?_ _) | (with_reducible refine Kd.C_drewN ?_ _) | (with_reducible refine Kd.C_drew ?_))); (case aB => exact (b_ HB)); (case aF => exact (fun k_ hk => (Nat.le_trans (bz_ (b_ HB)) hk))); (case aO => exact (r2_ (Kd.R_mono HO305.out (fun _ hk => hk.1)))); (case aS => exact (bz_ (b_ HB))); (case aL => have := LMc8.out; omega); intro v307 w19 ho hb hg hat; rw [← Ny306.out] at ho; replace HO0_1 := mk0 (Kd.V_afterv (ok := (fun k_ => (P0_1_ k_ ∨ w.heap.size ≤ k_) ∧ some k_ ≠ (v301 : Value).ownBlock ∧ k_ ≠ gb295)) (v2_ (Kd.V_mono HO0_1.out (fun _ hk => ⟨⟨hk.1.1.1, ⟨hk.1.2, hk.1.1.2⟩⟩, hk.2⟩))) hg hat); replace BK295 := mk0 (blk_grown (g := gb295) (o := .cells #[.slice A0_0 l0_0.length c0_0, .slice A0_1 l0_1.length c0_1, .slice A0_2 l0_2.length c0_2] 51 (0, 0)) (h_ BK295) hg (Kd.R_ne HO305.out BK295.out (by decide))); replace HO302 := mk0 (Kd.N_afterv (ok := (fun k_ => (P0_1_ k_ ∨ w.heap.size ≤ k_) ∧ k_ ≠ gb295)) (nn_ HO302) hg hat); replace HB := mk0 (hb); have HO308 := mk0 (ho); clear HO305; clear ho hb hg hat))
 go_loopg [5] k (fun kq v5 w' => ∃ (x5_1 : Int), v5 = .int .i64 x5_1 ∧ Fc (quorumlaw12_PlanLocks.l0 kq y300 y306 x5_1 l0_0 l0_1 l0_2 = some r) ∧ Fc (kq ≤ k) ∧ Fc (Kd.N k34 34 w' w.heap.size (fun k_ => (P0_1_ k_ ∨ w.heap.size ≤ k_) ∧ some k_ ≠ (v307 : Value).ownBlock ∧ k_ ≠ gb295) v301 y300) ∧ Fc (Kd.R (Kd.int .i64) 3 w' w.heap.size (fun k_ => (w.heap.size ≤ k_)) v307 y306) ∧ Fc (Kd.V k34 34 w' w.heap.size (fun k_ => (P0_1_ k_ ∨ w.heap.size ≤ k_) ∧ some k_ ≠ (v301 : Value).ownBlock ∧ some k_ ≠ (v307 : Value).ownBlock ∧ k_ ≠ gb295) (.slice A0_1 l0_1.length c0_1) l0_1) ∧ Fc (w'.heap[gb295]? = some (.cells #[(.slice A0_0 l0_0.length c0_0), (.slice A0_1 l0_1.length c0_1), (.slice A0_2 l0_2.length c0_2)] 51 (0, 0))) ∧ Fc (Below w.heap.size w w'))
 case atStart => exact ⟨(0), (by first | rfl | (simp; done) | (simp [*]; done)), H', ⟨Nat.le_refl _⟩, ⟨by (with_reducible repeat (first | apply Kd.N_alloc | apply Kd.N_drewN | apply Kd.N_drew)); exact Kd.N_mono HO302.out (fun _ hk => ⟨hk.1.1, ⟨hk.2, hk.1.2⟩⟩)⟩, ⟨by (with_reducible repeat (first | apply Ra_ | apply Rn_ | apply Rd_)); exact HO308.out⟩, ⟨by (with_reducible repeat (first | apply Kd.V_alloc | apply Kd.V_drewN | apply Kd.V_drew)); exact Kd.V_mono HO0_1.out (fun _ hk => ⟨hk.1.1, ⟨hk.1.2.1, ⟨hk.2, hk.1.2.2⟩⟩⟩)⟩, ⟨h_ BK295⟩, ⟨b_ HB⟩⟩
 clear H'
 try clear c2
 try clear c3
 try clear c7
 try clear c8
 try clear hcz10_0 hcz10_1 hcz10_2 hfz10_0 hfz10_1 hfz10_2
 try clear hcz14_0 hcz14_1 hcz14_2 hfz14_0 hfz14_1 hfz14_2
 try clear hcz18_0 hcz18_1 hcz18_2 hfz18_0 hfz18_1 hfz18_2
 try clear hcz5_0 hcz5_1 hcz5_2 hfz5_0 hfz5_1 hfz5_2
 obtain ⟨x5_1, rfl, HA, HK1, HO_3, HO_4, HO_296001, BK295, HB⟩ := hrel
 cases gk with
 | zero => exact absurd HA.out (by simp [quorumlaw12_PlanLocks.l0])
 | succ k1 =>
 have H := HA.out
 clear HA
 simp only [quorumlaw12_PlanLocks.l0] at H
 focus
 have HC20 := mk0 H
 clear H
 go_upto_region 6 with (fail)
 go_cut [35] (fun v35 wc => ∃ (kq : Nat) (x35_19 : Bool), v35 = .bool x35_19 ∧ Fc (quorumlaw12_PlanLocks.j1 kq y300 y306 x5_1 x35_19 l0_0 l0_1 l0_2 = some r) ∧ Fc (kq ≤ k1) ∧ Fc (Kd.N k34 34 wc w.heap.size (fun k_ => (P0_1_ k_ ∨ w.heap.size ≤ k_) ∧ some k_ ≠ (v307 : Value).ownBlock ∧ k_ ≠ gb295) v301 y300) ∧ Fc (Kd.R (Kd.int .i64) 3 wc w.heap.size (fun k_ => (w.heap.size ≤ k_)) v307 y306) ∧ Fc (Kd.V k34 34 wc w.heap.size (fun k_ => (P0_1_ k_ ∨ w.heap.size ≤ k_) ∧ some k_ ≠ (v301 : Value).ownBlock ∧ some k_ ≠ (v307 : Value).ownBlock ∧ k_ ≠ gb295) (.slice A0_1 l0_1.length c0_1) l0_1) ∧ Fc (wc.heap[gb295]? = some (.cells #[(.slice A0_0 l0_0.length c0_0), (.slice A0_1 l0_1.length c0_1), (.slice A0_2 l0_2.length c0_2)] 51 (0, 0))) ∧ Fc (Below w.heap.size w wc))
 case first =>
  have H := HC20.out
  clear HC20
  by_cases c21 : x5_1 < (l0_0.length : Int)
  ·rw [if_pos c21] at H
   have c21b0 : decide (x5_1 < (l0_0.length : Int)) = true := decide_eq_true c21
   clear c21
   (first | rw [c21b0] | (simp only [i64_w, i32_w]; rw [c21b0]) | skip)
   have H' := mk0 H
   clear H
   obtain ⟨hcz22_0, hcz22_1, hcz22_2, hfz22_0, hfz22_1, hfz22_2⟩ := c3_ BK295
   go_wp2
   go_meet
   case rel => exact ⟨_, (decide (x5_1 < 8)), (by first | rfl | (simp; done) | (simp [*]; done)), H', ⟨by have := HK1.out; first | omega | exact Nat.le_refl _⟩, ⟨by (with_reducible repeat (first | apply Kd.N_alloc | apply Kd.N_drewN | apply Kd.N_drew)); exact HO_3.out⟩, ⟨by (with_reducible repeat (first | apply Ra_ | apply Rn_ | apply Rd_)); exact HO_4.out⟩, ⟨by (with_reducible repeat (first | apply Kd.V_alloc | apply Kd.V_drewN | apply Kd.V_drew)); exact HO_296001.out⟩, ⟨h_ BK295⟩, ⟨b_ HB⟩⟩
  rw [if_neg c21] at H
  have c21b0 : decide (x5_1 < (l0_0.length : Int)) = false := decide_eq_false c21
  clear c21
  (first | rw [c21b0] | (simp only [i64_w, i32_w]; rw [c21b0]) | skip)
  have H' := mk0 H
  clear H
  obtain ⟨hcz23_0, hcz23_1, hcz23_2, hfz23_0, hfz23_1, hfz23_2⟩ := c3_ BK295
  go_wp2
  go_meet
  case rel => exact ⟨_, (false), (by first | rfl | (simp; done) | (simp [*]; done)), H', ⟨by have := HK1.out; first | omega | exact Nat.le_refl _⟩, ⟨by (with_reducible repeat (first | apply Kd.N_alloc | apply Kd.N_drewN | apply Kd.N_drew)); exact HO_3.out⟩, ⟨by (with_reducible repeat (first | apply Ra_ | apply Rn_ | apply Rd_)); exact HO_4.out⟩, ⟨by (with_reducible repeat (first | apply Kd.V_alloc | apply Kd.V_drewN | apply Kd.V_drew)); exact HO_296001.out⟩, ⟨h_ BK295⟩, ⟨b_ HB⟩⟩
 clear HC20
 try clear c2
 try clear c3
 try clear c7
 try clear c8
 try clear c21
 try clear c21b0
 try clear hcz10_0 hcz10_1 hcz10_2 hfz10_0 hfz10_1 hfz10_2
 try clear hcz14_0 hcz14_1 hcz14_2 hfz14_0 hfz14_1 hfz14_2
 try clear hcz18_0 hcz18_1 hcz18_2 hfz18_0 hfz18_1 hfz18_2
 try clear hcz22_0 hcz22_1 hcz22_2 hfz22_0 hfz22_1 hfz22_2
 try clear hcz23_0 hcz23_1 hcz23_2 hfz23_0 hfz23_1 hfz23_2
 try clear hcz5_0 hcz5_1 hcz5_2 hfz5_0 hfz5_1 hfz5_2
 obtain ⟨kq, x35_19, rfl, HA, HJ19, HO_3, HO_4, HO_296001, BK295, HB⟩ := hcut
 cases kq with
 | zero => exact absurd HA.out (by simp [quorumlaw12_PlanLocks.j1])
 | succ kj19 =>
 have H := HA.out
 clear HA
 simp only [quorumlaw12_PlanLocks.j1] at H
 focus
 by_cases c24 : x35_19 = true
 rotate_left
 ·replace c24 := Bool.eq_false_iff.mpr c24
  subst c24
  rw [if_neg (show ¬ (false = true) by decide)] at H
  replace H := Option.bind_eq_some_iff.mp H
  obtain ⟨t345, A1340, H⟩ := H
  try dsimp only at H
  have A134 := mk0 A1340
  clear A1340
  obtain rfl := Option.some.inj H
  go_wp2_with (first | ((with_reducible refine gate_callee (f := 110) rfl ?_); refine gL_ (some 148) Try.func110 #[] (h := ?_); (with_reducible refine (quorumlaw12_wakes.calls  t345 _ A134.out).mono ?_); rintro e w135 ⟨rfl, hb⟩; refine ⟨_, rfl, ?_⟩; replace HO_3 := mk0 (Kd.N_below (nn_ HO_3) hb); replace HO_4 := mk0 (Kd.R_below (r_ HO_4) hb); replace HO_296001 := mk0 (Kd.V_below (v_ HO_296001) hb); replace BK295 := mk0 (u_ BK295 hb); replace HB := mk0 (bt_ (b_ HB) hb); (try clear hb)))
  go_ret
  exact ⟨by first | rfl | (simp [errW_none, errW_some] <;> rfl) | (simp [*, errW_none, errW_some] <;> rfl), b_ HB⟩
 subst c24
 rw [if_pos rfl] at H
 by_cases c25 : 0 ≤ x5_1
 rotate_left
 ·rw [if_neg c25] at H
  exact absurd H (by simp)
 rw [if_pos c25] at H
 have c25b0 : decide (0 ≤ x5_1) = true := decide_eq_true c25
 clear c25
 by_cases c26 : x5_1 < (l0_0.length : Int)
 rotate_left
 ·rw [if_neg c26] at H
  exact absurd H (by simp)
 rw [if_pos c26] at H
 have c26b0 : decide (x5_1 < (l0_0.length : Int)) = true := decide_eq_true c26
 clear c26
 have H' := mk0 H
 clear H
 obtain ⟨hcz27_0, hcz27_1, hcz27_2, hfz27_0, hfz27_1, hfz27_2⟩ := c3_ BK295
 have p309 : 0 ≤ (x5_1 : Int) := of_decide_eq_true (by first | (with_reducible assumption) | assumption)
 have q309 : x5_1 < (l0_0.length : Int) := of_decide_eq_true (by first | (with_reducible assumption) | assumption)
 obtain ⟨ad309, e309, hx309_0, hx309_1, hx309_2, hx309_3, hx309_4, hx309_5, hx309_6, hx309_7, hx309_8⟩ := at_T101 HR0_0.out x5_1 p309 q309
 cases e309
 replace hx309_0 := (bc_ HB hx309_0 :)
 replace hx309_1 := (bc_ HB hx309_1 :)
 replace hx309_2 := (bc_ HB hx309_2 :)
 replace hx309_3 := (bc_ HB hx309_3 :)
 replace hx309_4 := (bc_ HB hx309_4 :)
 replace hx309_5 := (bc_ HB hx309_5 :)
 replace hx309_6 := (bc_ HB hx309_6 :)
 replace hx309_7 := (bc_ HB hx309_7 :)
 replace hx309_8 := (bc_ HB hx309_8 :)
 replace p309 := eq_true p309
 replace q309 := eq_true q309
 go_wp2_with (first | ((with_reducible refine gate_dst (N := 6) rfl ?_); refine bx_ (N := 6) (cs := #[.int .i64 0, .int .i64 0, .string (⟨#[]⟩ : ByteArray), .string (⟨#[]⟩ : ByteArray), .string (⟨#[]⟩ : ByteArray), .string (⟨#[]⟩ : ByteArray), .bool false, .int .i64 0, .bool false]) (t := 101) (h := ?_); intro gb310 hg w28 hbox hb; have n6_ := mk0 (gz_ HB hg); have n7_ := mk0 (gz_ HB hg); have n8_ := mk0 (ne1_ BK295 hg); have n9_ := mk0 (ne2_ BK295 hg); replace HO_3 := mk0 (Kd.N_below (Kd.N_elderB (nn_ HO_3) gb310 (Nat.le_of_eq hg.symm)) hb); replace HO_4 := mk0 (Kd.R_below (r_ HO_4) hb); replace HO_296001 := mk0 (Kd.V_below (Kd.V_elderB (v_ HO_296001) gb310 (Nat.le_of_eq hg.symm)) hb); replace BK295 := mk0 (u_ BK295 hb); replace HB := mk0 (bt_ (b_ HB) hb); have BK310 := mk0 (hbox); have GW310 := n6_; have GE310 := n7_; have NB295_310 := n8_; have NB310_295 := n9_; clear n6_ n7_ n8_ n9_ hb hbox hg; have hnb29 := NB310_295.out; have hnc29 := NB295_310.out; obtain ⟨hcz30_0, hcz30_1, hcz30_2, hcz30_3, hcz30_4, hcz30_5, hcz30_6, hcz30_7, hcz30_8, hfz30_0, hfz30_1, hfz30_2, hfz30_3, hfz30_4, hfz30_5, hfz30_6, hfz30_7, hfz30_8⟩ := c9_ BK310))
 go_loopg [7] kj19 (fun kq v7 w' => ∃ (x7_3 : Int), v7 = .int .i64 x7_3 ∧ Fc (quorumlaw12_PlanLocks.l1 kq y300 y306 x5_1 x7_3 l0_0 l0_1 l0_2 ((rd_T101 l0_0 x5_1).f0) ((rd_T101 l0_0 x5_1).f1) ((rd_T101 l0_0 x5_1).f2) ((rd_T101 l0_0 x5_1).f3) ((rd_T101 l0_0 x5_1).f4.f0) ((rd_T101 l0_0 x5_1).f4.f1) ((rd_T101 l0_0 x5_1).f4.f2) ((rd_T101 l0_0 x5_1).f5) ((rd_T101 l0_0 x5_1).f6) = some r) ∧ Fc (kq ≤ kj19) ∧ Fc (Kd.N k34 34 w' w.heap.size (fun k_ => (P0_1_ k_ ∨ w.heap.size ≤ k_) ∧ some k_ ≠ (v307 : Value).ownBlock ∧ k_ ≠ gb295 ∧ k_ ≠ gb310) v301 y300) ∧ Fc (Kd.R (Kd.int .i64) 3 w' w.heap.size (fun k_ => (w.heap.size ≤ k_)) v307 y306) ∧ Fc (Kd.V k34 34 w' w.heap.size (fun k_ => (P0_1_ k_ ∨ w.heap.size ≤ k_) ∧ some k_ ≠ (v301 : Value).ownBlock ∧ some k_ ≠ (v307 : Value).ownBlock ∧ k_ ≠ gb295 ∧ k_ ≠ gb310) (.slice A0_1 l0_1.length c0_1) l0_1) ∧ Fc (w'.heap[gb295]? = some (.cells #[(.slice (some ad309) l0_0.length c0_0), (.slice A0_1 l0_1.length c0_1), (.slice A0_2 l0_2.length c0_2)] 51 (0, 0))) ∧ Fc (w'.heap[gb310]? = some (.cells #[.int .i64 ((rd_T101 l0_0 x5_1).f0), .int .i64 ((rd_T101 l0_0 x5_1).f1), .string ((rd_T101 l0_0 x5_1).f2), .string ((rd_T101 l0_0 x5_1).f3), .string ((rd_T101 l0_0 x5_1).f4.f0), .string ((rd_T101 l0_0 x5_1).f4.f1), .bool ((rd_T101 l0_0 x5_1).f4.f2), .int .i64 ((rd_T101 l0_0 x5_1).f5), .bool ((rd_T101 l0_0 x5_1).f6)] 101 (0, 0))) ∧ Fc (Below w.heap.size w w'))
 case atStart => exact ⟨((-1)), (by first | rfl | (simp; done) | (simp [*]; done)), H', ⟨Nat.le_refl _⟩, ⟨by (with_reducible repeat (first | apply Kd.N_alloc | apply Kd.N_drewN | apply Kd.N_drew)); exact Kd.N_mono (Kd.N_far (p := ⟨gb310, 8, none⟩) (Kd.N_far (p := ⟨gb310, 7, none⟩) (Kd.N_far (p := ⟨gb310, 6, none⟩) (Kd.N_far (p := ⟨gb310, 5, none⟩) (Kd.N_far (p := ⟨gb310, 4, none⟩) (Kd.N_far (p := ⟨gb310, 3, none⟩) (Kd.N_far (p := ⟨gb310, 2, none⟩) (Kd.N_far (p := ⟨gb310, 1, none⟩) (Kd.N_far (p := ⟨gb310, 0, none⟩) (Kd.N_mono HO_3.out (fun k_ hk => (⟨hk, hk.2⟩ : _ ∧ k_ ≠ gb310))) (fun _ hk => hk.2) (.int .i64 ((rd_T101 l0_0 x5_1).f0))) (fun _ hk => hk.2) (.int .i64 ((rd_T101 l0_0 x5_1).f1))) (fun _ hk => hk.2) (.string ((rd_T101 l0_0 x5_1).f2))) (fun _ hk => hk.2) (.string ((rd_T101 l0_0 x5_1).f3))) (fun _ hk => hk.2) (.string ((rd_T101 l0_0 x5_1).f4.f0))) (fun _ hk => hk.2) (.string ((rd_T101 l0_0 x5_1).f4.f1))) (fun _ hk => hk.2) (.bool ((rd_T101 l0_0 x5_1).f4.f2))) (fun _ hk => hk.2) (.int .i64 ((rd_T101 l0_0 x5_1).f5))) (fun _ hk => hk.2) (.bool ((rd_T101 l0_0 x5_1).f6))) (fun _ hk => ⟨hk.1.1.1, ⟨hk.1.1.2.1, ⟨hk.1.1.2.2, hk.1.2⟩⟩⟩)⟩, ⟨by (with_reducible repeat (first | apply Ra_ | apply Rn_ | apply Rd_)); exact Kd.R_mono (Kd.R_far (p := ⟨gb310, 8, none⟩) (Kd.R_far (p := ⟨gb310, 7, none⟩) (Kd.R_far (p := ⟨gb310, 6, none⟩) (Kd.R_far (p := ⟨gb310, 5, none⟩) (Kd.R_far (p := ⟨gb310, 4, none⟩) (Kd.R_far (p := ⟨gb310, 3, none⟩) (Kd.R_far (p := ⟨gb310, 2, none⟩) (Kd.R_far (p := ⟨gb310, 1, none⟩) (Kd.R_far (p := ⟨gb310, 0, none⟩) (Kd.R_types HO_4.out BK310.out (by decide)) (fun _ hk => hk.2) (.int .i64 ((rd_T101 l0_0 x5_1).f0))) (fun _ hk => hk.2) (.int .i64 ((rd_T101 l0_0 x5_1).f1))) (fun _ hk => hk.2) (.string ((rd_T101 l0_0 x5_1).f2))) (fun _ hk => hk.2) (.string ((rd_T101 l0_0 x5_1).f3))) (fun _ hk => hk.2) (.string ((rd_T101 l0_0 x5_1).f4.f0))) (fun _ hk => hk.2) (.string ((rd_T101 l0_0 x5_1).f4.f1))) (fun _ hk => hk.2) (.bool ((rd_T101 l0_0 x5_1).f4.f2))) (fun _ hk => hk.2) (.int .i64 ((rd_T101 l0_0 x5_1).f5))) (fun _ hk => hk.2) (.bool ((rd_T101 l0_0 x5_1).f6))) (fun _ hk => hk.1)⟩, ⟨by (with_reducible repeat (first | apply Kd.V_alloc | apply Kd.V_drewN | apply Kd.V_drew)); exact Kd.V_mono (Kd.V_far (p := ⟨gb310, 8, none⟩) (Kd.V_far (p := ⟨gb310, 7, none⟩) (Kd.V_far (p := ⟨gb310, 6, none⟩) (Kd.V_far (p := ⟨gb310, 5, none⟩) (Kd.V_far (p := ⟨gb310, 4, none⟩) (Kd.V_far (p := ⟨gb310, 3, none⟩) (Kd.V_far (p := ⟨gb310, 2, none⟩) (Kd.V_far (p := ⟨gb310, 1, none⟩) (Kd.V_far (p := ⟨gb310, 0, none⟩) (Kd.V_mono HO_296001.out (fun k_ hk => (⟨hk, hk.2⟩ : _ ∧ k_ ≠ gb310))) (fun _ hk => hk.2) (.int .i64 ((rd_T101 l0_0 x5_1).f0))) (fun _ hk => hk.2) (.int .i64 ((rd_T101 l0_0 x5_1).f1))) (fun _ hk => hk.2) (.string ((rd_T101 l0_0 x5_1).f2))) (fun _ hk => hk.2) (.string ((rd_T101 l0_0 x5_1).f3))) (fun _ hk => hk.2) (.string ((rd_T101 l0_0 x5_1).f4.f0))) (fun _ hk => hk.2) (.string ((rd_T101 l0_0 x5_1).f4.f1))) (fun _ hk => hk.2) (.bool ((rd_T101 l0_0 x5_1).f4.f2))) (fun _ hk => hk.2) (.int .i64 ((rd_T101 l0_0 x5_1).f5))) (fun _ hk => hk.2) (.bool ((rd_T101 l0_0 x5_1).f6))) (fun _ hk => ⟨hk.1.1.1, ⟨hk.1.1.2.1, ⟨hk.1.1.2.2.1, ⟨hk.1.1.2.2.2, hk.1.2⟩⟩⟩⟩)⟩, ⟨(fa_ (fa_ (fa_ (fa_ (fa_ (fa_ (fa_ (fa_ (fa_ (h_ BK295) NB295_310.out) NB295_310.out) NB295_310.out) NB295_310.out) NB295_310.out) NB295_310.out) NB295_310.out) NB295_310.out) NB295_310.out)⟩, ⟨(pu_ (cs := #[.int .i64 ((rd_T101 l0_0 x5_1).f0), .int .i64 ((rd_T101 l0_0 x5_1).f1), .string ((rd_T101 l0_0 x5_1).f2), .string ((rd_T101 l0_0 x5_1).f3), .string ((rd_T101 l0_0 x5_1).f4.f0), .string ((rd_T101 l0_0 x5_1).f4.f1), .bool ((rd_T101 l0_0 x5_1).f4.f2), .int .i64 ((rd_T101 l0_0 x5_1).f5), .bool false]) (pu_ (cs := #[.int .i64 ((rd_T101 l0_0 x5_1).f0), .int .i64 ((rd_T101 l0_0 x5_1).f1), .string ((rd_T101 l0_0 x5_1).f2), .string ((rd_T101 l0_0 x5_1).f3), .string ((rd_T101 l0_0 x5_1).f4.f0), .string ((rd_T101 l0_0 x5_1).f4.f1), .bool ((rd_T101 l0_0 x5_1).f4.f2), .int .i64 0, .bool false]) (pu_ (cs := #[.int .i64 ((rd_T101 l0_0 x5_1).f0), .int .i64 ((rd_T101 l0_0 x5_1).f1), .string ((rd_T101 l0_0 x5_1).f2), .string ((rd_T101 l0_0 x5_1).f3), .string ((rd_T101 l0_0 x5_1).f4.f0), .string ((rd_T101 l0_0 x5_1).f4.f1), .bool false, .int .i64 0, .bool false]) (pu_ (cs := #[.int .i64 ((rd_T101 l0_0 x5_1).f0), .int .i64 ((rd_T101 l0_0 x5_1).f1), .string ((rd_T101 l0_0 x5_1).f2), .string ((rd_T101 l0_0 x5_1).f3), .string ((rd_T101 l0_0 x5_1).f4.f0), .string (⟨#[]⟩ : ByteArray), .bool false, .int .i64 0, .bool false]) (pu_ (cs := #[.int .i64 ((rd_T101 l0_0 x5_1).f0), .int .i64 ((rd_T101 l0_0 x5_1).f1), .string ((rd_T101 l0_0 x5_1).f2), .string ((rd_T101 l0_0 x5_1).f3), .string (⟨#[]⟩ : ByteArray), .string (⟨#[]⟩ : ByteArray), .bool false, .int .i64 0, .bool false]) (pu_ (cs := #[.int .i64 ((rd_T101 l0_0 x5_1).f0), .int .i64 ((rd_T101 l0_0 x5_1).f1), .string ((rd_T101 l0_0 x5_1).f2), .string (⟨#[]⟩ : ByteArray), .string (⟨#[]⟩ : ByteArray), .string (⟨#[]⟩ : ByteArray), .bool false, .int .i64 0, .bool false]) (pu_ (cs := #[.int .i64 ((rd_T101 l0_0 x5_1).f0), .int .i64 ((rd_T101 l0_0 x5_1).f1), .string (⟨#[]⟩ : ByteArray), .string (⟨#[]⟩ : ByteArray), .string (⟨#[]⟩ : ByteArray), .string (⟨#[]⟩ : ByteArray), .bool false, .int .i64 0, .bool false]) (pu_ (cs := #[.int .i64 ((rd_T101 l0_0 x5_1).f0), .int .i64 0, .string (⟨#[]⟩ : ByteArray), .string (⟨#[]⟩ : ByteArray), .string (⟨#[]⟩ : ByteArray), .string (⟨#[]⟩ : ByteArray), .bool false, .int .i64 0, .bool false]) (pu_ (cs := #[.int .i64 0, .int .i64 0, .string (⟨#[]⟩ : ByteArray), .string (⟨#[]⟩ : ByteArray), .string (⟨#[]⟩ : ByteArray), .string (⟨#[]⟩ : ByteArray), .bool false, .int .i64 0, .bool false]) (h_ BK310))))))))))⟩, ⟨b_ HB⟩⟩
 clear H'
 try clear c2
 try clear c3
 try clear c7
 try clear c8
 try clear c21
 try clear c21b0
 try clear c24
 try clear c25
 try clear c25b0
 try clear c26
 try clear c26b0
 try clear hcz10_0 hcz10_1 hcz10_2 hfz10_0 hfz10_1 hfz10_2
 try clear hcz14_0 hcz14_1 hcz14_2 hfz14_0 hfz14_1 hfz14_2
 try clear hcz18_0 hcz18_1 hcz18_2 hfz18_0 hfz18_1 hfz18_2
 try clear hcz22_0 hcz22_1 hcz22_2 hfz22_0 hfz22_1 hfz22_2
 try clear hcz23_0 hcz23_1 hcz23_2 hfz23_0 hfz23_1 hfz23_2
 try clear hcz27_0 hcz27_1 hcz27_2 hfz27_0 hfz27_1 hfz27_2
 try clear hcz30_0 hcz30_1 hcz30_2 hcz30_3 hcz30_4 hcz30_5 hcz30_6 hcz30_7 hcz30_8 hfz30_0 hfz30_1 hfz30_2 hfz30_3 hfz30_4 hfz30_5 hfz30_6 hfz30_7 hfz30_8
 try clear hcz5_0 hcz5_1 hcz5_2 hfz5_0 hfz5_1 hfz5_2
 try clear hx309_0 hx309_1 hx309_2 hx309_3 hx309_4 hx309_5 hx309_6 hx309_7 hx309_8
 try clear p309
 try clear q309
 obtain ⟨x7_3, rfl, HA, HK3, HO_3, HO_4, HO_296001, BK295, BK310, HB⟩ := hrel
 cases gk with
 | zero => exact absurd HA.out (by simp [quorumlaw12_PlanLocks.l1])
 | succ k3 =>
 have H := HA.out
 clear HA
 simp only [quorumlaw12_PlanLocks.l1] at H
 focus
 by_cases c31 : x7_3 ≤ 5
 ·rw [if_pos c31] at H
  have c31b0 : decide (x7_3 ≤ 5) = true := decide_eq_true c31
  clear c31
  have HC32 := mk0 H
  clear H
  go_upto_region 12 with (fail)
  go_cut [8] (fun v8 wc => ∃ (kq : Nat) (x8_31 : Bool), v8 = .bool x8_31 ∧ Fc (quorumlaw12_PlanLocks.j3 kq y300 y306 x5_1 x7_3 x8_31 l0_0 l0_1 l0_2 ((rd_T101 l0_0 x5_1).f0) ((rd_T101 l0_0 x5_1).f1) ((rd_T101 l0_0 x5_1).f2) ((rd_T101 l0_0 x5_1).f3) ((rd_T101 l0_0 x5_1).f4.f0) ((rd_T101 l0_0 x5_1).f4.f1) ((rd_T101 l0_0 x5_1).f4.f2) ((rd_T101 l0_0 x5_1).f5) ((rd_T101 l0_0 x5_1).f6) = some r) ∧ Fc (kq ≤ k3) ∧ Fc (Kd.N k34 34 wc w.heap.size (fun k_ => (P0_1_ k_ ∨ w.heap.size ≤ k_) ∧ some k_ ≠ (v307 : Value).ownBlock ∧ k_ ≠ gb295 ∧ k_ ≠ gb310) v301 y300) ∧ Fc (Kd.R (Kd.int .i64) 3 wc w.heap.size (fun k_ => (w.heap.size ≤ k_)) v307 y306) ∧ Fc (Kd.V k34 34 wc w.heap.size (fun k_ => (P0_1_ k_ ∨ w.heap.size ≤ k_) ∧ some k_ ≠ (v301 : Value).ownBlock ∧ some k_ ≠ (v307 : Value).ownBlock ∧ k_ ≠ gb295 ∧ k_ ≠ gb310) (.slice A0_1 l0_1.length c0_1) l0_1) ∧ Fc (wc.heap[gb295]? = some (.cells #[(.slice (some ad309) l0_0.length c0_0), (.slice A0_1 l0_1.length c0_1), (.slice A0_2 l0_2.length c0_2)] 51 (0, 0))) ∧ Fc (wc.heap[gb310]? = some (.cells #[.int .i64 ((rd_T101 l0_0 x5_1).f0), .int .i64 ((rd_T101 l0_0 x5_1).f1), .string ((rd_T101 l0_0 x5_1).f2), .string ((rd_T101 l0_0 x5_1).f3), .string ((rd_T101 l0_0 x5_1).f4.f0), .string ((rd_T101 l0_0 x5_1).f4.f1), .bool ((rd_T101 l0_0 x5_1).f4.f2), .int .i64 ((rd_T101 l0_0 x5_1).f5), .bool ((rd_T101 l0_0 x5_1).f6)] 101 (0, 0))) ∧ Fc (Below w.heap.size w wc))
  case first =>
   have H := HC32.out
   clear HC32
   replace H := Option.bind_eq_some_iff.mp H
   obtain ⟨t311, A330, H⟩ := H
   try dsimp only at H
   have A33 := mk0 A330
   clear A330
   by_cases c34 : t311 = true
   rotate_left
   ·replace c34 := Bool.eq_false_iff.mpr c34
    subst c34
    rw [if_neg (show ¬ (false = true) by decide)] at H
    have H' := mk0 H
    clear H
    go_wp2_with (first | ((with_reducible refine gate_callee (f := 102) rfl ?_); refine gL_ (some 48) Try.func102 #[.int .i64 x7_3, .int .i64 1, .int .i64 3] (h := ?_); (with_reducible refine (quorumref0_Between.calls x7_3 1 3 false _ A33.out).mono ?_); rintro e w' ⟨rfl, ⟨nd, rfl⟩⟩; refine ⟨_, rfl, ?_⟩))
    go_meet
    case rel => exact ⟨_, (false), (by first | rfl | (simp; done) | (simp [*]; done)), H', ⟨by have := HK1.out; have := HJ19.out; have := HK3.out; first | omega | exact Nat.le_refl _⟩, ⟨by (with_reducible repeat (first | apply Kd.N_alloc | apply Kd.N_drewN | apply Kd.N_drew)); exact HO_3.out⟩, ⟨by (with_reducible repeat (first | apply Ra_ | apply Rn_ | apply Rd_)); exact HO_4.out⟩, ⟨by (with_reducible repeat (first | apply Kd.V_alloc | apply Kd.V_drewN | apply Kd.V_drew)); exact HO_296001.out⟩, ⟨h_ BK295⟩, ⟨h_ BK310⟩, ⟨b_ HB⟩⟩
   subst c34
   rw [if_pos rfl] at H
   replace H := Option.bind_eq_some_iff.mp H
   obtain ⟨t312, A350, H⟩ := H
   try dsimp only at H
   have A35 := mk0 A350
   clear A350
   have H' := mk0 H
   clear H
   go_wp2_with (first | ((with_reducible refine gate_callee (f := 102) rfl ?_); refine gL_ (some 48) Try.func102 #[.int .i64 x7_3, .int .i64 1, .int .i64 3] (h := ?_); (with_reducible refine (quorumref0_Between.calls x7_3 1 3 true _ A33.out).mono ?_); rintro e w' ⟨rfl, ⟨nd, rfl⟩⟩; refine ⟨_, rfl, ?_⟩; have hnb36 := NB310_295.out; have hnc36 := NB295_310.out; obtain ⟨hcz37_0, hcz37_1, hcz37_2, hcz37_3, hcz37_4, hcz37_5, hcz37_6, hcz37_7, hcz37_8, hfz37_0, hfz37_1, hfz37_2, hfz37_3, hfz37_4, hfz37_5, hfz37_6, hfz37_7, hfz37_8⟩ := c9_ BK310) | (go_at_call 103; (with_reducible refine (quorumref12_Op.calls ((rd_T101 l0_0 x5_1).f0) ((rd_T101 l0_0 x5_1).f1) ((rd_T101 l0_0 x5_1).f2) ((rd_T101 l0_0 x5_1).f3) ((rd_T101 l0_0 x5_1).f4.f0) ((rd_T101 l0_0 x5_1).f4.f1) ((rd_T101 l0_0 x5_1).f4.f2) ((rd_T101 l0_0 x5_1).f5) ((rd_T101 l0_0 x5_1).f6) x7_3 t312 _ A35.out).mono ?_); rintro e w38 ⟨rfl, hb⟩; replace HO_3 := mk0 (Kd.N_below (nn_ HO_3) hb); replace HO_4 := mk0 (Kd.R_below (r_ HO_4) hb); replace HO_296001 := mk0 (Kd.V_below (v_ HO_296001) hb); replace BK295 := mk0 (u_ BK295 hb); replace BK310 := mk0 (u_ BK310 hb); replace HB := mk0 (bt_ (b_ HB) hb); (try clear hb)))
   go_meet
   case rel => exact ⟨_, (t312), (by first | rfl | (simp; done) | (simp [*]; done)), H', ⟨by have := HK1.out; have := HJ19.out; have := HK3.out; first | omega | exact Nat.le_refl _⟩, ⟨by (with_reducible repeat (first | apply Kd.N_alloc | apply Kd.N_drewN | apply Kd.N_drew)); exact HO_3.out⟩, ⟨by (with_reducible repeat (first | apply Ra_ | apply Rn_ | apply Rd_)); exact HO_4.out⟩, ⟨by (with_reducible repeat (first | apply Kd.V_alloc | apply Kd.V_drewN | apply Kd.V_drew)); exact HO_296001.out⟩, ⟨h_ BK295⟩, ⟨h_ BK310⟩, ⟨b_ HB⟩⟩
  clear HC32
  try clear c2
  try clear c3
  try clear c7
  try clear c8
  try clear c21
  try clear c21b0
  try clear c24
  try clear c25
  try clear c25b0
  try clear c26
  try clear c26b0
  try clear c31
  try clear c31b0
  try clear c34
  try clear hcz10_0 hcz10_1 hcz10_2 hfz10_0 hfz10_1 hfz10_2
  try clear hcz14_0 hcz14_1 hcz14_2 hfz14_0 hfz14_1 hfz14_2
  try clear hcz18_0 hcz18_1 hcz18_2 hfz18_0 hfz18_1 hfz18_2
  try clear hcz22_0 hcz22_1 hcz22_2 hfz22_0 hfz22_1 hfz22_2
  try clear hcz23_0 hcz23_1 hcz23_2 hfz23_0 hfz23_1 hfz23_2
  try clear hcz27_0 hcz27_1 hcz27_2 hfz27_0 hfz27_1 hfz27_2
  try clear hcz30_0 hcz30_1 hcz30_2 hcz30_3 hcz30_4 hcz30_5 hcz30_6 hcz30_7 hcz30_8 hfz30_0 hfz30_1 hfz30_2 hfz30_3 hfz30_4 hfz30_5 hfz30_6 hfz30_7 hfz30_8
  try clear hcz37_0 hcz37_1 hcz37_2 hcz37_3 hcz37_4 hcz37_5 hcz37_6 hcz37_7 hcz37_8 hfz37_0 hfz37_1 hfz37_2 hfz37_3 hfz37_4 hfz37_5 hfz37_6 hfz37_7 hfz37_8
  try clear hcz5_0 hcz5_1 hcz5_2 hfz5_0 hfz5_1 hfz5_2
  try clear hx309_0 hx309_1 hx309_2 hx309_3 hx309_4 hx309_5 hx309_6 hx309_7 hx309_8
  try clear p309
  try clear q309
  obtain ⟨kq, x8_31, rfl, HA, HJ31, HO_3, HO_4, HO_296001, BK295, BK310, HB⟩ := hcut
  cases kq with
  | zero => exact absurd HA.out (by simp [quorumlaw12_PlanLocks.j3])
  | succ kj31 =>
  have H := HA.out
  clear HA
  simp only [quorumlaw12_PlanLocks.j3] at H
  focus
  replace H := Option.bind_eq_some_iff.mp H
  obtain ⟨t313, A390, H⟩ := H
  try dsimp only at H
  have A39 := mk0 A390
  clear A390
  replace H := Option.bind_eq_some_iff.mp H
  obtain ⟨t314, A400, H⟩ := H
  try dsimp only at H
  have A40 := mk0 A400
  clear A400
  by_cases c41 : ((t314 == 0) != x8_31) = true
  focus
   rw [if_pos c41] at H
   have c41b0 : ((t314 == 0) != x8_31) = true := c41
   (try (have c41b1 : decide ((t314 == 0) = x8_31) = false := by simpa using c41))
   (try (have c41b2 : ((t314 == 0) == x8_31) = false := by simpa using c41))
   (try (have c41b3 : ¬ ((t314 == 0) = x8_31) := by simpa using c41))
   clear c41
   obtain rfl := Option.some.inj H
   have hnb42 := NB310_295.out
   have hnc42 := NB295_310.out
   obtain ⟨hcz43_0, hcz43_1, hcz43_2, hcz43_3, hcz43_4, hcz43_5, hcz43_6, hcz43_7, hcz43_8, hfz43_0, hfz43_1, hfz43_2, hfz43_3, hfz43_4, hfz43_5, hfz43_6, hfz43_7, hfz43_8⟩ := c9_ BK310
  rotate_left 1
  focus
   rw [if_neg c41] at H
   have c41b0 : ((t314 == 0) != x8_31) = false := by simpa using c41
   (try (have c41b1 : decide ((t314 == 0) = x8_31) = true := by simpa using c41))
   (try (have c41b2 : ((t314 == 0) == x8_31) = true := by simpa using c41))
   clear c41
   have H' := mk0 H
   clear H
   have hnb45 := NB310_295.out
   have hnc45 := NB295_310.out
   obtain ⟨hcz46_0, hcz46_1, hcz46_2, hcz46_3, hcz46_4, hcz46_5, hcz46_6, hcz46_7, hcz46_8, hfz46_0, hfz46_1, hfz46_2, hfz46_3, hfz46_4, hfz46_5, hfz46_6, hfz46_7, hfz46_8⟩ := c9_ BK310
  rotate_right 1
  all_goals go_wp2_with (first | ((with_reducible refine gate_callee (f := 105) rfl ?_); refine gL_ (some 56) Try.func105 #[.agg #[.int .i64 ((rd_T101 l0_0 x5_1).f0), .int .i64 ((rd_T101 l0_0 x5_1).f1), .string ((rd_T101 l0_0 x5_1).f2), .string ((rd_T101 l0_0 x5_1).f3), .string ((rd_T101 l0_0 x5_1).f4.f0), .string ((rd_T101 l0_0 x5_1).f4.f1), .bool ((rd_T101 l0_0 x5_1).f4.f2), .int .i64 ((rd_T101 l0_0 x5_1).f5), .bool ((rd_T101 l0_0 x5_1).f6)], .int .i64 x7_3] (h := ?_); (with_reducible refine (plan_Check.calls kj31 ((rd_T101 l0_0 x5_1).f0) ((rd_T101 l0_0 x5_1).f1) ((rd_T101 l0_0 x5_1).f2) ((rd_T101 l0_0 x5_1).f3) ((rd_T101 l0_0 x5_1).f4.f0) ((rd_T101 l0_0 x5_1).f4.f1) ((rd_T101 l0_0 x5_1).f4.f2) ((rd_T101 l0_0 x5_1).f5) ((rd_T101 l0_0 x5_1).f6) x7_3 t313 _ A39.out).mono ?_); rintro e w44 ⟨rfl, hb⟩; refine ⟨_, rfl, ?_⟩; replace HO_3 := mk0 (Kd.N_below (nn_ HO_3) hb); replace HO_4 := mk0 (Kd.R_below (r_ HO_4) hb); replace HO_296001 := mk0 (Kd.V_below (v_ HO_296001) hb); replace BK295 := mk0 (u_ BK295 hb); replace BK310 := mk0 (u_ BK310 hb); replace HB := mk0 (bt_ (b_ HB) hb); (try clear hb)) | ((with_reducible refine gate_callee (f := 104) rfl ?_); refine gL_ (some 57) Try.func104 #[.int .i64 t313] (h := ?_); (with_reducible refine (quorumlaw12_num.calls t313 t314 _ A40.out).mono ?_); rintro e w' ⟨rfl, ⟨nd, rfl⟩⟩; refine ⟨_, rfl, ?_⟩))
  ·go_ret
   exact ⟨by first | rfl | (simp [errW_none, errW_some] <;> rfl) | (simp [*, errW_none, errW_some] <;> rfl), b_ HB⟩
  ·go_roundg kj31
   case measure => have := HK1.out; have := HJ19.out; have := HK3.out; have := HJ31.out; omega
   case rel => exact ⟨(wrap64 (x7_3 + 1)), (by first | rfl | (simp; done) | (simp [*]; done)), H', ⟨by have := HK1.out; have := HJ19.out; have := HK3.out; have := HJ31.out; omega⟩, ⟨by (with_reducible repeat (first | apply Kd.N_alloc | apply Kd.N_drewN | apply Kd.N_drew)); exact HO_3.out⟩, ⟨by (with_reducible repeat (first | apply Ra_ | apply Rn_ | apply Rd_)); exact HO_4.out⟩, ⟨by (with_reducible repeat (first | apply Kd.V_alloc | apply Kd.V_drewN | apply Kd.V_drew)); exact HO_296001.out⟩, ⟨h_ BK295⟩, ⟨h_ BK310⟩, ⟨b_ HB⟩⟩
 rw [if_neg c31] at H
 have c31b0 : decide (x7_3 ≤ 5) = false := decide_eq_false c31
 clear c31
 replace H := Option.bind_eq_some_iff.mp H
 obtain ⟨t315, A480, H⟩ := H
 try dsimp only at H
 have A48 := mk0 A480
 clear A480
 replace H := Option.bind_eq_some_iff.mp H
 obtain ⟨t316, A490, H⟩ := H
 try dsimp only at H
 have A49 := mk0 A490
 clear A490
 by_cases c50 : (t315 != t316) = true
 ·rw [if_pos c50] at H
  have c50b0 : (t315 != t316) = true := c50
  (try (have c50b1 : decide (t315 = t316) = false := by simpa using c50))
  (try (have c50b2 : (t315 == t316) = false := by simpa using c50))
  (try (have c50b3 : ¬ (t315 = t316) := by simpa using c50))
  clear c50
  obtain rfl := Option.some.inj H
  try go_wp2
  replace HO_3 := mk0 (Kd.N_drew HO_3.out)
  replace HO_4 := mk0 (Rd_ HO_4.out)
  replace HO_296001 := mk0 (Kd.V_drew HO_296001.out)
  replace BK295 := mk0 (bD_ BK295.out)
  replace BK310 := mk0 (bD_ BK310.out)
  replace HB := mk0 (b1_ HB.out)
  refine start_ (n := 5) (S := fun w' => w'.cell? ⟨gb310, 0, none⟩ = some (.int .i64 ((rd_T101 l0_0 x5_1).f0)) ∧ w'.cell? ⟨gb310, 1, none⟩ = some (.int .i64 ((rd_T101 l0_0 x5_1).f1)) ∧ w'.cell? ⟨gb310, 2, none⟩ = some (.string ((rd_T101 l0_0 x5_1).f2)) ∧ w'.cell? ⟨gb310, 3, none⟩ = some (.string ((rd_T101 l0_0 x5_1).f3)) ∧ w'.cell? ⟨gb310, 4, none⟩ = some (.string ((rd_T101 l0_0 x5_1).f4.f0)) ∧ w'.cell? ⟨gb310, 5, none⟩ = some (.string ((rd_T101 l0_0 x5_1).f4.f1)) ∧ w'.cell? ⟨gb310, 6, none⟩ = some (.bool ((rd_T101 l0_0 x5_1).f4.f2)) ∧ w'.cell? ⟨gb310, 7, none⟩ = some (.int .i64 ((rd_T101 l0_0 x5_1).f5)) ∧ w'.cell? ⟨gb310, 8, none⟩ = some (.bool ((rd_T101 l0_0 x5_1).f6))) (ds := []) (bt 5 0) (by kernel_rfl) rfl rfl ⟨bk_ BK310 0, bk_ BK310 1, bk_ BK310 2, bk_ BK310 3, bk_ BK310 4, bk_ BK310 5, bk_ BK310 6, bk_ BK310 7, bk_ BK310 8⟩ (fun hHeld => ?_)
  generalize wr.drew = w51 at HO_3 HO_4 HO_296001 BK295 BK310 HB hHeld ⊢
  refine take_ (i := 0) (N := some 61) (bt 5 1) rfl rfl (by kernel_rfl) (fun _ _ _ h => h) (Or.inl ⟨by rfl, by rintro w' ⟨s0, s1, s2, s3, s4, s5, s6, s7, s8⟩; go_simp; with_reducible rfl⟩) hHeld (by simp only [z_]; rfl) ?_
  refine take_ (i := 2) (N := some 63) (bt 5 5) rfl rfl (by kernel_rfl) (fun _ _ _ h => h) (Or.inl ⟨by rfl, by rintro w' ⟨s0, s1, s2, s3, s4, s5, s6, s7, s8⟩; go_simp; with_reducible rfl⟩) hHeld (by simp only [z_]; rfl) ?_
  refine one_ (i := 1) (N := some 62) (bt 5 7) rfl rfl (by kernel_rfl) (by decide) (fun K hK => ?_)
  refine goes_ Try.func48 (by kernel_rfl) rfl #[.agg #[.int .i64 ((rd_T101 l0_0 x5_1).f0), .int .i64 ((rd_T101 l0_0 x5_1).f1), .string ((rd_T101 l0_0 x5_1).f2), .string ((rd_T101 l0_0 x5_1).f3), .string ((rd_T101 l0_0 x5_1).f4.f0), .string ((rd_T101 l0_0 x5_1).f4.f1), .bool ((rd_T101 l0_0 x5_1).f4.f2), .int .i64 ((rd_T101 l0_0 x5_1).f5), .bool ((rd_T101 l0_0 x5_1).f6)]] (by rfl) rfl rfl (by (try simp only [List.map_toArray, List.map_cons, List.map_nil]); first | done | rfl | (simp only [List.length_drop, List.length_take]; rfl)) ?_
  with_reducible refine (plan_Writes.calls ((rd_T101 l0_0 x5_1).f0) ((rd_T101 l0_0 x5_1).f1) ((rd_T101 l0_0 x5_1).f2) ((rd_T101 l0_0 x5_1).f3) ((rd_T101 l0_0 x5_1).f4.f0) ((rd_T101 l0_0 x5_1).f4.f1) ((rd_T101 l0_0 x5_1).f4.f2) ((rd_T101 l0_0 x5_1).f5) ((rd_T101 l0_0 x5_1).f6) t315 _ A48.out).mono ?_
  rintro e w52 ⟨rfl, hb⟩
  refine ⟨_, rfl, ?_⟩
  replace HO_3 := mk0 (Kd.N_below (nn_ HO_3) hb)
  replace HO_4 := mk0 (Kd.R_below (r_ HO_4) hb)
  replace HO_296001 := mk0 (Kd.V_below (v_ HO_296001) hb)
  replace BK295 := mk0 (u_ BK295 hb)
  replace BK310 := mk0 (u_ BK310 hb)
  replace HB := mk0 (bt_ (b_ HB) hb)
  (try clear hb)
  (try clear hb2)
  (try clear hk)
  (try clear hi)
  refine hK.out _ _ ⟨bk_ BK310 0, bk_ BK310 1, bk_ BK310 2, bk_ BK310 3, bk_ BK310 4, bk_ BK310 5, bk_ BK310 6, bk_ BK310 7, bk_ BK310 8⟩ (fun hHeld => ?_)
  clear hK K
  refine norm_ (a' := ?_) ?_ ?_
  rotate_left
  ·show Act.put _ (some 62) _ = _
   simp only [z_]
   rfl
  refine one_ (i := 3) (N := some 64) (bt 5 15) rfl rfl (by kernel_rfl) (by decide) (fun K hK => ?_)
  refine goes_ Try.func49 (by kernel_rfl) rfl #[.agg #[.int .i64 ((rd_T101 l0_0 x5_1).f0), .int .i64 ((rd_T101 l0_0 x5_1).f1), .string ((rd_T101 l0_0 x5_1).f2), .string ((rd_T101 l0_0 x5_1).f3), .string ((rd_T101 l0_0 x5_1).f4.f0), .string ((rd_T101 l0_0 x5_1).f4.f1), .bool ((rd_T101 l0_0 x5_1).f4.f2), .int .i64 ((rd_T101 l0_0 x5_1).f5), .bool ((rd_T101 l0_0 x5_1).f6)]] (by rfl) rfl rfl (by (try simp only [List.map_toArray, List.map_cons, List.map_nil]); first | done | rfl | (simp only [List.length_drop, List.length_take]; rfl)) ?_
  with_reducible refine (quorumref12_Writes.calls ((rd_T101 l0_0 x5_1).f0) ((rd_T101 l0_0 x5_1).f1) ((rd_T101 l0_0 x5_1).f2) ((rd_T101 l0_0 x5_1).f3) ((rd_T101 l0_0 x5_1).f4.f0) ((rd_T101 l0_0 x5_1).f4.f1) ((rd_T101 l0_0 x5_1).f4.f2) ((rd_T101 l0_0 x5_1).f5) ((rd_T101 l0_0 x5_1).f6) t316 _ A49.out).mono ?_
  rintro e w53 ⟨rfl, hb⟩
  refine ⟨_, rfl, ?_⟩
  replace HO_3 := mk0 (Kd.N_below (nn_ HO_3) hb)
  replace HO_4 := mk0 (Kd.R_below (r_ HO_4) hb)
  replace HO_296001 := mk0 (Kd.V_below (v_ HO_296001) hb)
  replace BK295 := mk0 (u_ BK295 hb)
  replace BK310 := mk0 (u_ BK310 hb)
  replace HB := mk0 (bt_ (b_ HB) hb)
  (try clear hb)
  (try clear hb2)
  (try clear hk)
  (try clear hi)
  refine hK.out _ _ ⟨bk_ BK310 0, bk_ BK310 1, bk_ BK310 2, bk_ BK310 3, bk_ BK310 4, bk_ BK310 5, bk_ BK310 6, bk_ BK310 7, bk_ BK310 8⟩ (fun hHeld => ?_)
  clear hK K
  refine norm_ (a' := ?_) ?_ ?_
  rotate_left
  ·show Act.put _ (some 64) _ = _
   simp only [z_]
   rfl
  refine pure_ (i := 4) (N := some 65) (bt 5 31) rfl rfl (by kernel_rfl) (fun _ _ _ h => h) (Or.inl ⟨by rfl, by intro w'; go_simp; with_reducible rfl⟩) (by simp only [z_]; rfl) ?_
  refine done_ (by kernel_rfl) ?_
  try go_wp2
  go_ret
  exact ⟨by first | rfl | (simp [errW_none, errW_some] <;> rfl) | (simp [*, errW_none, errW_some] <;> rfl), b_ HB⟩
 rw [if_neg c50] at H
 have c50b0 : (t315 != t316) = false := by simpa using c50
 (try (have c50b1 : decide (t315 = t316) = true := by simpa using c50))
 (try (have c50b2 : (t315 == t316) = true := by simpa using c50))
 clear c50
 have H' := mk0 H
 clear H
 try go_wp2
 replace HO_3 := mk0 (Kd.N_drew HO_3.out)
 replace HO_4 := mk0 (Rd_ HO_4.out)
 replace HO_296001 := mk0 (Kd.V_drew HO_296001.out)
 replace BK295 := mk0 (bD_ BK295.out)
 replace BK310 := mk0 (bD_ BK310.out)
 replace HB := mk0 (b1_ HB.out)
 refine start_ (n := 5) (S := fun w' => w'.cell? ⟨gb310, 0, none⟩ = some (.int .i64 ((rd_T101 l0_0 x5_1).f0)) ∧ w'.cell? ⟨gb310, 1, none⟩ = some (.int .i64 ((rd_T101 l0_0 x5_1).f1)) ∧ w'.cell? ⟨gb310, 2, none⟩ = some (.string ((rd_T101 l0_0 x5_1).f2)) ∧ w'.cell? ⟨gb310, 3, none⟩ = some (.string ((rd_T101 l0_0 x5_1).f3)) ∧ w'.cell? ⟨gb310, 4, none⟩ = some (.string ((rd_T101 l0_0 x5_1).f4.f0)) ∧ w'.cell? ⟨gb310, 5, none⟩ = some (.string ((rd_T101 l0_0 x5_1).f4.f1)) ∧ w'.cell? ⟨gb310, 6, none⟩ = some (.bool ((rd_T101 l0_0 x5_1).f4.f2)) ∧ w'.cell? ⟨gb310, 7, none⟩ = some (.int .i64 ((rd_T101 l0_0 x5_1).f5)) ∧ w'.cell? ⟨gb310, 8, none⟩ = some (.bool ((rd_T101 l0_0 x5_1).f6))) (ds := []) (bt 5 0) (by kernel_rfl) rfl rfl ⟨bk_ BK310 0, bk_ BK310 1, bk_ BK310 2, bk_ BK310 3, bk_ BK310 4, bk_ BK310 5, bk_ BK310 6, bk_ BK310 7, bk_ BK310 8⟩ (fun hHeld => ?_)
 generalize wr.drew = w54 at HO_3 HO_4 HO_296001 BK295 BK310 HB hHeld ⊢
 refine take_ (i := 0) (N := some 61) (bt 5 1) rfl rfl (by kernel_rfl) (fun _ _ _ h => h) (Or.inl ⟨by rfl, by rintro w' ⟨s0, s1, s2, s3, s4, s5, s6, s7, s8⟩; go_simp; with_reducible rfl⟩) hHeld (by simp only [z_]; rfl) ?_
 refine take_ (i := 2) (N := some 63) (bt 5 5) rfl rfl (by kernel_rfl) (fun _ _ _ h => h) (Or.inl ⟨by rfl, by rintro w' ⟨s0, s1, s2, s3, s4, s5, s6, s7, s8⟩; go_simp; with_reducible rfl⟩) hHeld (by simp only [z_]; rfl) ?_
 refine one_ (i := 1) (N := some 62) (bt 5 7) rfl rfl (by kernel_rfl) (by decide) (fun K hK => ?_)
 refine goes_ Try.func48 (by kernel_rfl) rfl #[.agg #[.int .i64 ((rd_T101 l0_0 x5_1).f0), .int .i64 ((rd_T101 l0_0 x5_1).f1), .string ((rd_T101 l0_0 x5_1).f2), .string ((rd_T101 l0_0 x5_1).f3), .string ((rd_T101 l0_0 x5_1).f4.f0), .string ((rd_T101 l0_0 x5_1).f4.f1), .bool ((rd_T101 l0_0 x5_1).f4.f2), .int .i64 ((rd_T101 l0_0 x5_1).f5), .bool ((rd_T101 l0_0 x5_1).f6)]] (by rfl) rfl rfl (by (try simp only [List.map_toArray, List.map_cons, List.map_nil]); first | done | rfl | (simp only [List.length_drop, List.length_take]; rfl)) ?_
 with_reducible refine (plan_Writes.calls ((rd_T101 l0_0 x5_1).f0) ((rd_T101 l0_0 x5_1).f1) ((rd_T101 l0_0 x5_1).f2) ((rd_T101 l0_0 x5_1).f3) ((rd_T101 l0_0 x5_1).f4.f0) ((rd_T101 l0_0 x5_1).f4.f1) ((rd_T101 l0_0 x5_1).f4.f2) ((rd_T101 l0_0 x5_1).f5) ((rd_T101 l0_0 x5_1).f6) t315 _ A48.out).mono ?_
 rintro e w55 ⟨rfl, hb⟩
 refine ⟨_, rfl, ?_⟩
 replace HO_3 := mk0 (Kd.N_below (nn_ HO_3) hb)
 replace HO_4 := mk0 (Kd.R_below (r_ HO_4) hb)
 replace HO_296001 := mk0 (Kd.V_below (v_ HO_296001) hb)
 replace BK295 := mk0 (u_ BK295 hb)
 replace BK310 := mk0 (u_ BK310 hb)
 replace HB := mk0 (bt_ (b_ HB) hb)
 (try clear hb)
 (try clear hb2)
 (try clear hk)
 (try clear hi)
 refine hK.out _ _ ⟨bk_ BK310 0, bk_ BK310 1, bk_ BK310 2, bk_ BK310 3, bk_ BK310 4, bk_ BK310 5, bk_ BK310 6, bk_ BK310 7, bk_ BK310 8⟩ (fun hHeld => ?_)
 clear hK K
 refine norm_ (a' := ?_) ?_ ?_
 rotate_left
 ·show Act.put _ (some 62) _ = _
  simp only [z_]
  rfl
 refine one_ (i := 3) (N := some 64) (bt 5 15) rfl rfl (by kernel_rfl) (by decide) (fun K hK => ?_)
 refine goes_ Try.func49 (by kernel_rfl) rfl #[.agg #[.int .i64 ((rd_T101 l0_0 x5_1).f0), .int .i64 ((rd_T101 l0_0 x5_1).f1), .string ((rd_T101 l0_0 x5_1).f2), .string ((rd_T101 l0_0 x5_1).f3), .string ((rd_T101 l0_0 x5_1).f4.f0), .string ((rd_T101 l0_0 x5_1).f4.f1), .bool ((rd_T101 l0_0 x5_1).f4.f2), .int .i64 ((rd_T101 l0_0 x5_1).f5), .bool ((rd_T101 l0_0 x5_1).f6)]] (by rfl) rfl rfl (by (try simp only [List.map_toArray, List.map_cons, List.map_nil]); first | done | rfl | (simp only [List.length_drop, List.length_take]; rfl)) ?_
 with_reducible refine (quorumref12_Writes.calls ((rd_T101 l0_0 x5_1).f0) ((rd_T101 l0_0 x5_1).f1) ((rd_T101 l0_0 x5_1).f2) ((rd_T101 l0_0 x5_1).f3) ((rd_T101 l0_0 x5_1).f4.f0) ((rd_T101 l0_0 x5_1).f4.f1) ((rd_T101 l0_0 x5_1).f4.f2) ((rd_T101 l0_0 x5_1).f5) ((rd_T101 l0_0 x5_1).f6) t316 _ A49.out).mono ?_
 rintro e w56 ⟨rfl, hb⟩
 refine ⟨_, rfl, ?_⟩
 replace HO_3 := mk0 (Kd.N_below (nn_ HO_3) hb)
 replace HO_4 := mk0 (Kd.R_below (r_ HO_4) hb)
 replace HO_296001 := mk0 (Kd.V_below (v_ HO_296001) hb)
 replace BK295 := mk0 (u_ BK295 hb)
 replace BK310 := mk0 (u_ BK310 hb)
 replace HB := mk0 (bt_ (b_ HB) hb)
 (try clear hb)
 (try clear hb2)
 (try clear hk)
 (try clear hi)
 refine hK.out _ _ ⟨bk_ BK310 0, bk_ BK310 1, bk_ BK310 2, bk_ BK310 3, bk_ BK310 4, bk_ BK310 5, bk_ BK310 6, bk_ BK310 7, bk_ BK310 8⟩ (fun hHeld => ?_)
 clear hK K
 refine norm_ (a' := ?_) ?_ ?_
 rotate_left
 ·show Act.put _ (some 64) _ = _
  simp only [z_]
  rfl
 refine pure_ (i := 4) (N := some 65) (bt 5 31) rfl rfl (by kernel_rfl) (fun _ _ _ h => h) (Or.inl ⟨by rfl, by intro w'; go_simp; with_reducible rfl⟩) (by simp only [z_]; rfl) ?_
 refine done_ (by kernel_rfl) ?_
 try go_wp2
 go_loopg [9] k3 (fun kq v9 w' => ∃ (x9_4 : Int), v9 = .int .i64 x9_4 ∧ Fc (quorumlaw12_PlanLocks.l2 kq y300 y306 x5_1 x9_4 l0_0 l0_1 l0_2 ((rd_T101 l0_0 x5_1).f0) ((rd_T101 l0_0 x5_1).f1) ((rd_T101 l0_0 x5_1).f2) ((rd_T101 l0_0 x5_1).f3) ((rd_T101 l0_0 x5_1).f4.f0) ((rd_T101 l0_0 x5_1).f4.f1) ((rd_T101 l0_0 x5_1).f4.f2) ((rd_T101 l0_0 x5_1).f5) ((rd_T101 l0_0 x5_1).f6) = some r) ∧ Fc (kq ≤ k3) ∧ Fc (Kd.N k34 34 w' w.heap.size (fun k_ => (P0_1_ k_ ∨ w.heap.size ≤ k_) ∧ some k_ ≠ (v307 : Value).ownBlock ∧ k_ ≠ gb295 ∧ k_ ≠ gb310) v301 y300) ∧ Fc (Kd.R (Kd.int .i64) 3 w' w.heap.size (fun k_ => (w.heap.size ≤ k_)) v307 y306) ∧ Fc (Kd.V k34 34 w' w.heap.size (fun k_ => (P0_1_ k_ ∨ w.heap.size ≤ k_) ∧ some k_ ≠ (v301 : Value).ownBlock ∧ some k_ ≠ (v307 : Value).ownBlock ∧ k_ ≠ gb295 ∧ k_ ≠ gb310) (.slice A0_1 l0_1.length c0_1) l0_1) ∧ Fc (w'.heap[gb295]? = some (.cells #[(.slice (some ad309) l0_0.length c0_0), (.slice A0_1 l0_1.length c0_1), (.slice A0_2 l0_2.length c0_2)] 51 (0, 0))) ∧ Fc (w'.heap[gb310]? = some (.cells #[.int .i64 ((rd_T101 l0_0 x5_1).f0), .int .i64 ((rd_T101 l0_0 x5_1).f1), .string ((rd_T101 l0_0 x5_1).f2), .string ((rd_T101 l0_0 x5_1).f3), .string ((rd_T101 l0_0 x5_1).f4.f0), .string ((rd_T101 l0_0 x5_1).f4.f1), .bool ((rd_T101 l0_0 x5_1).f4.f2), .int .i64 ((rd_T101 l0_0 x5_1).f5), .bool ((rd_T101 l0_0 x5_1).f6)] 101 (0, 0))) ∧ Fc (Below w.heap.size w w'))
 case atStart => exact ⟨(0), (by first | rfl | (simp; done) | (simp [*]; done)), H', ⟨Nat.le_refl _⟩, ⟨by (with_reducible repeat (first | apply Kd.N_alloc | apply Kd.N_drewN | apply Kd.N_drew)); exact HO_3.out⟩, ⟨by (with_reducible repeat (first | apply Ra_ | apply Rn_ | apply Rd_)); exact HO_4.out⟩, ⟨by (with_reducible repeat (first | apply Kd.V_alloc | apply Kd.V_drewN | apply Kd.V_drew)); exact HO_296001.out⟩, ⟨h_ BK295⟩, ⟨h_ BK310⟩, ⟨b_ HB⟩⟩
 clear H'
 try clear c2
 try clear c3
 try clear c7
 try clear c8
 try clear c21
 try clear c21b0
 try clear c24
 try clear c25
 try clear c25b0
 try clear c26
 try clear c26b0
 try clear c31
 try clear c31b0
 try clear c34
 try clear c41
 try clear c41b0
 try clear c41b1
 try clear c41b2
 try clear c50
 try clear c50b0
 try clear c50b1
 try clear c50b2
 try clear hcz10_0 hcz10_1 hcz10_2 hfz10_0 hfz10_1 hfz10_2
 try clear hcz14_0 hcz14_1 hcz14_2 hfz14_0 hfz14_1 hfz14_2
 try clear hcz18_0 hcz18_1 hcz18_2 hfz18_0 hfz18_1 hfz18_2
 try clear hcz22_0 hcz22_1 hcz22_2 hfz22_0 hfz22_1 hfz22_2
 try clear hcz23_0 hcz23_1 hcz23_2 hfz23_0 hfz23_1 hfz23_2
 try clear hcz27_0 hcz27_1 hcz27_2 hfz27_0 hfz27_1 hfz27_2
 try clear hcz30_0 hcz30_1 hcz30_2 hcz30_3 hcz30_4 hcz30_5 hcz30_6 hcz30_7 hcz30_8 hfz30_0 hfz30_1 hfz30_2 hfz30_3 hfz30_4 hfz30_5 hfz30_6 hfz30_7 hfz30_8
 try clear hcz37_0 hcz37_1 hcz37_2 hcz37_3 hcz37_4 hcz37_5 hcz37_6 hcz37_7 hcz37_8 hfz37_0 hfz37_1 hfz37_2 hfz37_3 hfz37_4 hfz37_5 hfz37_6 hfz37_7 hfz37_8
 try clear hcz43_0 hcz43_1 hcz43_2 hcz43_3 hcz43_4 hcz43_5 hcz43_6 hcz43_7 hcz43_8 hfz43_0 hfz43_1 hfz43_2 hfz43_3 hfz43_4 hfz43_5 hfz43_6 hfz43_7 hfz43_8
 try clear hcz46_0 hcz46_1 hcz46_2 hcz46_3 hcz46_4 hcz46_5 hcz46_6 hcz46_7 hcz46_8 hfz46_0 hfz46_1 hfz46_2 hfz46_3 hfz46_4 hfz46_5 hfz46_6 hfz46_7 hfz46_8
 try clear hcz5_0 hcz5_1 hcz5_2 hfz5_0 hfz5_1 hfz5_2
 try clear hx309_0 hx309_1 hx309_2 hx309_3 hx309_4 hx309_5 hx309_6 hx309_7 hx309_8
 try clear p309
 try clear q309
 obtain ⟨x9_4, rfl, HA, HK4, HO_3, HO_4, HO_296001, BK295, BK310, HB⟩ := hrel
 cases gk with
 | zero => exact absurd HA.out (by simp [quorumlaw12_PlanLocks.l2])
 | succ k4 =>
 have H := HA.out
 clear HA
 simp only [quorumlaw12_PlanLocks.l2] at H
 focus
 have HC57 := mk0 H
 clear H
 go_upto_region 18 with (fail)
 go_cut [73] (fun v73 wc => ∃ (kq : Nat) (x73_56 : Bool), v73 = .bool x73_56 ∧ Fc (quorumlaw12_PlanLocks.j5 kq y300 y306 x5_1 x9_4 x73_56 l0_0 l0_1 l0_2 ((rd_T101 l0_0 x5_1).f0) ((rd_T101 l0_0 x5_1).f1) ((rd_T101 l0_0 x5_1).f2) ((rd_T101 l0_0 x5_1).f3) ((rd_T101 l0_0 x5_1).f4.f0) ((rd_T101 l0_0 x5_1).f4.f1) ((rd_T101 l0_0 x5_1).f4.f2) ((rd_T101 l0_0 x5_1).f5) ((rd_T101 l0_0 x5_1).f6) = some r) ∧ Fc (kq ≤ k4) ∧ Fc (Kd.N k34 34 wc w.heap.size (fun k_ => (P0_1_ k_ ∨ w.heap.size ≤ k_) ∧ some k_ ≠ (v307 : Value).ownBlock ∧ k_ ≠ gb295 ∧ k_ ≠ gb310) v301 y300) ∧ Fc (Kd.R (Kd.int .i64) 3 wc w.heap.size (fun k_ => (w.heap.size ≤ k_)) v307 y306) ∧ Fc (Kd.V k34 34 wc w.heap.size (fun k_ => (P0_1_ k_ ∨ w.heap.size ≤ k_) ∧ some k_ ≠ (v301 : Value).ownBlock ∧ some k_ ≠ (v307 : Value).ownBlock ∧ k_ ≠ gb295 ∧ k_ ≠ gb310) (.slice A0_1 l0_1.length c0_1) l0_1) ∧ Fc (wc.heap[gb295]? = some (.cells #[(.slice (some ad309) l0_0.length c0_0), (.slice A0_1 l0_1.length c0_1), (.slice A0_2 l0_2.length c0_2)] 51 (0, 0))) ∧ Fc (wc.heap[gb310]? = some (.cells #[.int .i64 ((rd_T101 l0_0 x5_1).f0), .int .i64 ((rd_T101 l0_0 x5_1).f1), .string ((rd_T101 l0_0 x5_1).f2), .string ((rd_T101 l0_0 x5_1).f3), .string ((rd_T101 l0_0 x5_1).f4.f0), .string ((rd_T101 l0_0 x5_1).f4.f1), .bool ((rd_T101 l0_0 x5_1).f4.f2), .int .i64 ((rd_T101 l0_0 x5_1).f5), .bool ((rd_T101 l0_0 x5_1).f6)] 101 (0, 0))) ∧ Fc (Below w.heap.size w wc))
 case first =>
  have H := HC57.out
  clear HC57
  by_cases c58 : x9_4 < (y300.length : Int)
  ·rw [if_pos c58] at H
   have c58b0 : decide (x9_4 < (y300.length : Int)) = true := decide_eq_true c58
   clear c58
   (first | rw [c58b0] | (simp only [i64_w, i32_w]; rw [c58b0]) | skip)
   have H' := mk0 H
   clear H
   obtain ⟨Ao59, co59, eo59⟩ := Kd.N_slice HO_3.out
   subst eo59
   go_wp2
   go_meet
   case rel => exact ⟨_, (decide (x9_4 < 4)), (by first | rfl | (simp; done) | (simp [*]; done)), H', ⟨by have := HK1.out; have := HJ19.out; have := HK3.out; have := HK4.out; first | omega | exact Nat.le_refl _⟩, ⟨by (with_reducible repeat (first | apply Kd.N_alloc | apply Kd.N_drewN | apply Kd.N_drew)); exact HO_3.out⟩, ⟨by (with_reducible repeat (first | apply Ra_ | apply Rn_ | apply Rd_)); exact HO_4.out⟩, ⟨by (with_reducible repeat (first | apply Kd.V_alloc | apply Kd.V_drewN | apply Kd.V_drew)); exact HO_296001.out⟩, ⟨h_ BK295⟩, ⟨h_ BK310⟩, ⟨b_ HB⟩⟩
  rw [if_neg c58] at H
  have c58b0 : decide (x9_4 < (y300.length : Int)) = false := decide_eq_false c58
  clear c58
  (first | rw [c58b0] | (simp only [i64_w, i32_w]; rw [c58b0]) | skip)
  have H' := mk0 H
  clear H
  obtain ⟨Ao60, co60, eo60⟩ := Kd.N_slice HO_3.out
  subst eo60
  go_wp2
  go_meet
  case rel => exact ⟨_, (false), (by first | rfl | (simp; done) | (simp [*]; done)), H', ⟨by have := HK1.out; have := HJ19.out; have := HK3.out; have := HK4.out; first | omega | exact Nat.le_refl _⟩, ⟨by (with_reducible repeat (first | apply Kd.N_alloc | apply Kd.N_drewN | apply Kd.N_drew)); exact HO_3.out⟩, ⟨by (with_reducible repeat (first | apply Ra_ | apply Rn_ | apply Rd_)); exact HO_4.out⟩, ⟨by (with_reducible repeat (first | apply Kd.V_alloc | apply Kd.V_drewN | apply Kd.V_drew)); exact HO_296001.out⟩, ⟨h_ BK295⟩, ⟨h_ BK310⟩, ⟨b_ HB⟩⟩
 clear HC57
 try clear c2
 try clear c3
 try clear c7
 try clear c8
 try clear c21
 try clear c21b0
 try clear c24
 try clear c25
 try clear c25b0
 try clear c26
 try clear c26b0
 try clear c31
 try clear c31b0
 try clear c34
 try clear c41
 try clear c41b0
 try clear c41b1
 try clear c41b2
 try clear c50
 try clear c50b0
 try clear c50b1
 try clear c50b2
 try clear c58
 try clear c58b0
 try clear hcz10_0 hcz10_1 hcz10_2 hfz10_0 hfz10_1 hfz10_2
 try clear hcz14_0 hcz14_1 hcz14_2 hfz14_0 hfz14_1 hfz14_2
 try clear hcz18_0 hcz18_1 hcz18_2 hfz18_0 hfz18_1 hfz18_2
 try clear hcz22_0 hcz22_1 hcz22_2 hfz22_0 hfz22_1 hfz22_2
 try clear hcz23_0 hcz23_1 hcz23_2 hfz23_0 hfz23_1 hfz23_2
 try clear hcz27_0 hcz27_1 hcz27_2 hfz27_0 hfz27_1 hfz27_2
 try clear hcz30_0 hcz30_1 hcz30_2 hcz30_3 hcz30_4 hcz30_5 hcz30_6 hcz30_7 hcz30_8 hfz30_0 hfz30_1 hfz30_2 hfz30_3 hfz30_4 hfz30_5 hfz30_6 hfz30_7 hfz30_8
 try clear hcz37_0 hcz37_1 hcz37_2 hcz37_3 hcz37_4 hcz37_5 hcz37_6 hcz37_7 hcz37_8 hfz37_0 hfz37_1 hfz37_2 hfz37_3 hfz37_4 hfz37_5 hfz37_6 hfz37_7 hfz37_8
 try clear hcz43_0 hcz43_1 hcz43_2 hcz43_3 hcz43_4 hcz43_5 hcz43_6 hcz43_7 hcz43_8 hfz43_0 hfz43_1 hfz43_2 hfz43_3 hfz43_4 hfz43_5 hfz43_6 hfz43_7 hfz43_8
 try clear hcz46_0 hcz46_1 hcz46_2 hcz46_3 hcz46_4 hcz46_5 hcz46_6 hcz46_7 hcz46_8 hfz46_0 hfz46_1 hfz46_2 hfz46_3 hfz46_4 hfz46_5 hfz46_6 hfz46_7 hfz46_8
 try clear hcz5_0 hcz5_1 hcz5_2 hfz5_0 hfz5_1 hfz5_2
 try clear hx309_0 hx309_1 hx309_2 hx309_3 hx309_4 hx309_5 hx309_6 hx309_7 hx309_8
 try clear p309
 try clear q309
 obtain ⟨kq, x73_56, rfl, HA, HJ56, HO_3, HO_4, HO_296001, BK295, BK310, HB⟩ := hcut
 cases kq with
 | zero => exact absurd HA.out (by simp [quorumlaw12_PlanLocks.j5])
 | succ kj56 =>
 have H := HA.out
 clear HA
 simp only [quorumlaw12_PlanLocks.j5] at H
 focus
 by_cases c61 : x73_56 = true
 rotate_left
 ·replace c61 := Bool.eq_false_iff.mpr c61
  subst c61
  rw [if_neg (show ¬ (false = true) by decide)] at H
  have H' := mk0 H
  clear H
  go_wp2
  go_roundg kj56
  case measure => have := HK1.out; have := HJ19.out; have := HK3.out; have := HK4.out; have := HJ56.out; omega
  case rel => exact ⟨(wrap64 (x5_1 + 1)), (by first | rfl | (simp; done) | (simp [*]; done)), H', ⟨by have := HK1.out; have := HJ19.out; have := HK3.out; have := HK4.out; have := HJ56.out; omega⟩, ⟨by (with_reducible repeat (first | apply Kd.N_alloc | apply Kd.N_drewN | apply Kd.N_drew)); exact Kd.N_mono HO_3.out (fun _ hk => ⟨hk.1, ⟨hk.2.1, hk.2.2.1⟩⟩)⟩, ⟨by (with_reducible repeat (first | apply Ra_ | apply Rn_ | apply Rd_)); exact HO_4.out⟩, ⟨by (with_reducible repeat (first | apply Kd.V_alloc | apply Kd.V_drewN | apply Kd.V_drew)); exact Kd.V_mono HO_296001.out (fun _ hk => ⟨hk.1, ⟨hk.2.1, ⟨hk.2.2.1, hk.2.2.2.1⟩⟩⟩)⟩, ⟨h_ BK295⟩, ⟨b_ HB⟩⟩
 subst c61
 rw [if_pos rfl] at H
 have H' := mk0 H
 clear H
 go_wp2
 go_loopg [10] kj56 (fun kq v10 w' => ∃ (x10_6 : Int), v10 = .int .i64 x10_6 ∧ Fc (quorumlaw12_PlanLocks.l3 kq y300 y306 x5_1 x9_4 x10_6 l0_0 l0_1 l0_2 ((rd_T101 l0_0 x5_1).f0) ((rd_T101 l0_0 x5_1).f1) ((rd_T101 l0_0 x5_1).f2) ((rd_T101 l0_0 x5_1).f3) ((rd_T101 l0_0 x5_1).f4.f0) ((rd_T101 l0_0 x5_1).f4.f1) ((rd_T101 l0_0 x5_1).f4.f2) ((rd_T101 l0_0 x5_1).f5) ((rd_T101 l0_0 x5_1).f6) = some r) ∧ Fc (kq ≤ kj56) ∧ Fc (Kd.N k34 34 w' w.heap.size (fun k_ => (P0_1_ k_ ∨ w.heap.size ≤ k_) ∧ some k_ ≠ (v307 : Value).ownBlock ∧ k_ ≠ gb295 ∧ k_ ≠ gb310) v301 y300) ∧ Fc (Kd.R (Kd.int .i64) 3 w' w.heap.size (fun k_ => (w.heap.size ≤ k_)) v307 y306) ∧ Fc (Kd.V k34 34 w' w.heap.size (fun k_ => (P0_1_ k_ ∨ w.heap.size ≤ k_) ∧ some k_ ≠ (v301 : Value).ownBlock ∧ some k_ ≠ (v307 : Value).ownBlock ∧ k_ ≠ gb295 ∧ k_ ≠ gb310) (.slice A0_1 l0_1.length c0_1) l0_1) ∧ Fc (w'.heap[gb295]? = some (.cells #[(.slice (some ad309) l0_0.length c0_0), (.slice A0_1 l0_1.length c0_1), (.slice A0_2 l0_2.length c0_2)] 51 (0, 0))) ∧ Fc (w'.heap[gb310]? = some (.cells #[.int .i64 ((rd_T101 l0_0 x5_1).f0), .int .i64 ((rd_T101 l0_0 x5_1).f1), .string ((rd_T101 l0_0 x5_1).f2), .string ((rd_T101 l0_0 x5_1).f3), .string ((rd_T101 l0_0 x5_1).f4.f0), .string ((rd_T101 l0_0 x5_1).f4.f1), .bool ((rd_T101 l0_0 x5_1).f4.f2), .int .i64 ((rd_T101 l0_0 x5_1).f5), .bool ((rd_T101 l0_0 x5_1).f6)] 101 (0, 0))) ∧ Fc (Below w.heap.size w w'))
 case atStart => exact ⟨(0), (by first | rfl | (simp; done) | (simp [*]; done)), H', ⟨Nat.le_refl _⟩, ⟨by (with_reducible repeat (first | apply Kd.N_alloc | apply Kd.N_drewN | apply Kd.N_drew)); exact HO_3.out⟩, ⟨by (with_reducible repeat (first | apply Ra_ | apply Rn_ | apply Rd_)); exact HO_4.out⟩, ⟨by (with_reducible repeat (first | apply Kd.V_alloc | apply Kd.V_drewN | apply Kd.V_drew)); exact HO_296001.out⟩, ⟨h_ BK295⟩, ⟨h_ BK310⟩, ⟨b_ HB⟩⟩
 clear H'
 try clear c2
 try clear c3
 try clear c7
 try clear c8
 try clear c21
 try clear c21b0
 try clear c24
 try clear c25
 try clear c25b0
 try clear c26
 try clear c26b0
 try clear c31
 try clear c31b0
 try clear c34
 try clear c41
 try clear c41b0
 try clear c41b1
 try clear c41b2
 try clear c50
 try clear c50b0
 try clear c50b1
 try clear c50b2
 try clear c58
 try clear c58b0
 try clear c61
 try clear hcz10_0 hcz10_1 hcz10_2 hfz10_0 hfz10_1 hfz10_2
 try clear hcz14_0 hcz14_1 hcz14_2 hfz14_0 hfz14_1 hfz14_2
 try clear hcz18_0 hcz18_1 hcz18_2 hfz18_0 hfz18_1 hfz18_2
 try clear hcz22_0 hcz22_1 hcz22_2 hfz22_0 hfz22_1 hfz22_2
 try clear hcz23_0 hcz23_1 hcz23_2 hfz23_0 hfz23_1 hfz23_2
 try clear hcz27_0 hcz27_1 hcz27_2 hfz27_0 hfz27_1 hfz27_2
 try clear hcz30_0 hcz30_1 hcz30_2 hcz30_3 hcz30_4 hcz30_5 hcz30_6 hcz30_7 hcz30_8 hfz30_0 hfz30_1 hfz30_2 hfz30_3 hfz30_4 hfz30_5 hfz30_6 hfz30_7 hfz30_8
 try clear hcz37_0 hcz37_1 hcz37_2 hcz37_3 hcz37_4 hcz37_5 hcz37_6 hcz37_7 hcz37_8 hfz37_0 hfz37_1 hfz37_2 hfz37_3 hfz37_4 hfz37_5 hfz37_6 hfz37_7 hfz37_8
 try clear hcz43_0 hcz43_1 hcz43_2 hcz43_3 hcz43_4 hcz43_5 hcz43_6 hcz43_7 hcz43_8 hfz43_0 hfz43_1 hfz43_2 hfz43_3 hfz43_4 hfz43_5 hfz43_6 hfz43_7 hfz43_8
 try clear hcz46_0 hcz46_1 hcz46_2 hcz46_3 hcz46_4 hcz46_5 hcz46_6 hcz46_7 hcz46_8 hfz46_0 hfz46_1 hfz46_2 hfz46_3 hfz46_4 hfz46_5 hfz46_6 hfz46_7 hfz46_8
 try clear hcz5_0 hcz5_1 hcz5_2 hfz5_0 hfz5_1 hfz5_2
 try clear hx309_0 hx309_1 hx309_2 hx309_3 hx309_4 hx309_5 hx309_6 hx309_7 hx309_8
 try clear p309
 try clear q309
 obtain ⟨x10_6, rfl, HA, HK6, HO_3, HO_4, HO_296001, BK295, BK310, HB⟩ := hrel
 cases gk with
 | zero => exact absurd HA.out (by simp [quorumlaw12_PlanLocks.l3])
 | succ k6 =>
 have H := HA.out
 clear HA
 simp only [quorumlaw12_PlanLocks.l3] at H
 focus
 have HC62 := mk0 H
 clear H
 go_upto_region 21 with (fail)
 go_cut [83] (fun v83 wc => ∃ (kq : Nat) (x83_61 : Bool), v83 = .bool x83_61 ∧ Fc (quorumlaw12_PlanLocks.j7 kq y300 y306 x5_1 x9_4 x10_6 x83_61 l0_0 l0_1 l0_2 ((rd_T101 l0_0 x5_1).f0) ((rd_T101 l0_0 x5_1).f1) ((rd_T101 l0_0 x5_1).f2) ((rd_T101 l0_0 x5_1).f3) ((rd_T101 l0_0 x5_1).f4.f0) ((rd_T101 l0_0 x5_1).f4.f1) ((rd_T101 l0_0 x5_1).f4.f2) ((rd_T101 l0_0 x5_1).f5) ((rd_T101 l0_0 x5_1).f6) = some r) ∧ Fc (kq ≤ k6) ∧ Fc (Kd.N k34 34 wc w.heap.size (fun k_ => (P0_1_ k_ ∨ w.heap.size ≤ k_) ∧ some k_ ≠ (v307 : Value).ownBlock ∧ k_ ≠ gb295 ∧ k_ ≠ gb310) v301 y300) ∧ Fc (Kd.R (Kd.int .i64) 3 wc w.heap.size (fun k_ => (w.heap.size ≤ k_)) v307 y306) ∧ Fc (Kd.V k34 34 wc w.heap.size (fun k_ => (P0_1_ k_ ∨ w.heap.size ≤ k_) ∧ some k_ ≠ (v301 : Value).ownBlock ∧ some k_ ≠ (v307 : Value).ownBlock ∧ k_ ≠ gb295 ∧ k_ ≠ gb310) (.slice A0_1 l0_1.length c0_1) l0_1) ∧ Fc (wc.heap[gb295]? = some (.cells #[(.slice (some ad309) l0_0.length c0_0), (.slice A0_1 l0_1.length c0_1), (.slice A0_2 l0_2.length c0_2)] 51 (0, 0))) ∧ Fc (wc.heap[gb310]? = some (.cells #[.int .i64 ((rd_T101 l0_0 x5_1).f0), .int .i64 ((rd_T101 l0_0 x5_1).f1), .string ((rd_T101 l0_0 x5_1).f2), .string ((rd_T101 l0_0 x5_1).f3), .string ((rd_T101 l0_0 x5_1).f4.f0), .string ((rd_T101 l0_0 x5_1).f4.f1), .bool ((rd_T101 l0_0 x5_1).f4.f2), .int .i64 ((rd_T101 l0_0 x5_1).f5), .bool ((rd_T101 l0_0 x5_1).f6)] 101 (0, 0))) ∧ Fc (Below w.heap.size w wc))
 case first =>
  have H := HC62.out
  clear HC62
  by_cases c63 : x10_6 < (y306.length : Int)
  ·rw [if_pos c63] at H
   have c63b0 : decide (x10_6 < (y306.length : Int)) = true := decide_eq_true c63
   clear c63
   (first | rw [c63b0] | (simp only [i64_w, i32_w]; rw [c63b0]) | skip)
   have H' := mk0 H
   clear H
   obtain ⟨Ao64, co64, eo64⟩ := Kd.R_slice HO_4.out
   subst eo64
   go_wp2
   go_meet
   case rel => exact ⟨_, (decide (x10_6 < 5)), (by first | rfl | (simp; done) | (simp [*]; done)), H', ⟨by have := HK1.out; have := HJ19.out; have := HK3.out; have := HK4.out; have := HJ56.out; have := HK6.out; first | omega | exact Nat.le_refl _⟩, ⟨by (with_reducible repeat (first | apply Kd.N_alloc | apply Kd.N_drewN | apply Kd.N_drew)); exact HO_3.out⟩, ⟨by (with_reducible repeat (first | apply Ra_ | apply Rn_ | apply Rd_)); exact HO_4.out⟩, ⟨by (with_reducible repeat (first | apply Kd.V_alloc | apply Kd.V_drewN | apply Kd.V_drew)); exact HO_296001.out⟩, ⟨h_ BK295⟩, ⟨h_ BK310⟩, ⟨b_ HB⟩⟩
  rw [if_neg c63] at H
  have c63b0 : decide (x10_6 < (y306.length : Int)) = false := decide_eq_false c63
  clear c63
  (first | rw [c63b0] | (simp only [i64_w, i32_w]; rw [c63b0]) | skip)
  have H' := mk0 H
  clear H
  obtain ⟨Ao65, co65, eo65⟩ := Kd.R_slice HO_4.out
  subst eo65
  go_wp2
  go_meet
  case rel => exact ⟨_, (false), (by first | rfl | (simp; done) | (simp [*]; done)), H', ⟨by have := HK1.out; have := HJ19.out; have := HK3.out; have := HK4.out; have := HJ56.out; have := HK6.out; first | omega | exact Nat.le_refl _⟩, ⟨by (with_reducible repeat (first | apply Kd.N_alloc | apply Kd.N_drewN | apply Kd.N_drew)); exact HO_3.out⟩, ⟨by (with_reducible repeat (first | apply Ra_ | apply Rn_ | apply Rd_)); exact HO_4.out⟩, ⟨by (with_reducible repeat (first | apply Kd.V_alloc | apply Kd.V_drewN | apply Kd.V_drew)); exact HO_296001.out⟩, ⟨h_ BK295⟩, ⟨h_ BK310⟩, ⟨b_ HB⟩⟩
 clear HC62
 try clear c2
 try clear c3
 try clear c7
 try clear c8
 try clear c21
 try clear c21b0
 try clear c24
 try clear c25
 try clear c25b0
 try clear c26
 try clear c26b0
 try clear c31
 try clear c31b0
 try clear c34
 try clear c41
 try clear c41b0
 try clear c41b1
 try clear c41b2
 try clear c50
 try clear c50b0
 try clear c50b1
 try clear c50b2
 try clear c58
 try clear c58b0
 try clear c61
 try clear c63
 try clear c63b0
 try clear hcz10_0 hcz10_1 hcz10_2 hfz10_0 hfz10_1 hfz10_2
 try clear hcz14_0 hcz14_1 hcz14_2 hfz14_0 hfz14_1 hfz14_2
 try clear hcz18_0 hcz18_1 hcz18_2 hfz18_0 hfz18_1 hfz18_2
 try clear hcz22_0 hcz22_1 hcz22_2 hfz22_0 hfz22_1 hfz22_2
 try clear hcz23_0 hcz23_1 hcz23_2 hfz23_0 hfz23_1 hfz23_2
 try clear hcz27_0 hcz27_1 hcz27_2 hfz27_0 hfz27_1 hfz27_2
 try clear hcz30_0 hcz30_1 hcz30_2 hcz30_3 hcz30_4 hcz30_5 hcz30_6 hcz30_7 hcz30_8 hfz30_0 hfz30_1 hfz30_2 hfz30_3 hfz30_4 hfz30_5 hfz30_6 hfz30_7 hfz30_8
 try clear hcz37_0 hcz37_1 hcz37_2 hcz37_3 hcz37_4 hcz37_5 hcz37_6 hcz37_7 hcz37_8 hfz37_0 hfz37_1 hfz37_2 hfz37_3 hfz37_4 hfz37_5 hfz37_6 hfz37_7 hfz37_8
 try clear hcz43_0 hcz43_1 hcz43_2 hcz43_3 hcz43_4 hcz43_5 hcz43_6 hcz43_7 hcz43_8 hfz43_0 hfz43_1 hfz43_2 hfz43_3 hfz43_4 hfz43_5 hfz43_6 hfz43_7 hfz43_8
 try clear hcz46_0 hcz46_1 hcz46_2 hcz46_3 hcz46_4 hcz46_5 hcz46_6 hcz46_7 hcz46_8 hfz46_0 hfz46_1 hfz46_2 hfz46_3 hfz46_4 hfz46_5 hfz46_6 hfz46_7 hfz46_8
 try clear hcz5_0 hcz5_1 hcz5_2 hfz5_0 hfz5_1 hfz5_2
 try clear hx309_0 hx309_1 hx309_2 hx309_3 hx309_4 hx309_5 hx309_6 hx309_7 hx309_8
 try clear p309
 try clear q309
 obtain ⟨kq, x83_61, rfl, HA, HJ61, HO_3, HO_4, HO_296001, BK295, BK310, HB⟩ := hcut
 cases kq with
 | zero => exact absurd HA.out (by simp [quorumlaw12_PlanLocks.j7])
 | succ kj61 =>
 have H := HA.out
 clear HA
 simp only [quorumlaw12_PlanLocks.j7] at H
 focus
 by_cases c66 : x83_61 = true
 rotate_left
 ·replace c66 := Bool.eq_false_iff.mpr c66
  subst c66
  rw [if_neg (show ¬ (false = true) by decide)] at H
  have H' := mk0 H
  clear H
  go_wp2
  go_roundg kj61
  case measure => have := HK1.out; have := HJ19.out; have := HK3.out; have := HK4.out; have := HJ56.out; have := HK6.out; have := HJ61.out; omega
  case rel => exact ⟨(wrap64 (x9_4 + 1)), (by first | rfl | (simp; done) | (simp [*]; done)), H', ⟨by have := HK1.out; have := HJ19.out; have := HK3.out; have := HK4.out; have := HJ56.out; have := HK6.out; have := HJ61.out; omega⟩, ⟨by (with_reducible repeat (first | apply Kd.N_alloc | apply Kd.N_drewN | apply Kd.N_drew)); exact HO_3.out⟩, ⟨by (with_reducible repeat (first | apply Ra_ | apply Rn_ | apply Rd_)); exact HO_4.out⟩, ⟨by (with_reducible repeat (first | apply Kd.V_alloc | apply Kd.V_drewN | apply Kd.V_drew)); exact HO_296001.out⟩, ⟨h_ BK295⟩, ⟨h_ BK310⟩, ⟨b_ HB⟩⟩
 subst c66
 rw [if_pos rfl] at H
 by_cases c67 : 0 ≤ x9_4
 rotate_left
 ·rw [if_neg c67] at H
  exact absurd H (by simp)
 rw [if_pos c67] at H
 have c67b0 : decide (0 ≤ x9_4) = true := decide_eq_true c67
 clear c67
 by_cases c68 : x9_4 < (y300.length : Int)
 rotate_left
 ·rw [if_neg c68] at H
  exact absurd H (by simp)
 rw [if_pos c68] at H
 have c68b0 : decide (x9_4 < (y300.length : Int)) = true := decide_eq_true c68
 clear c68
 replace H := Option.bind_eq_some_iff.mp H
 obtain ⟨⟨t318, t321⟩, A690, H⟩ := H
 try dsimp only at H
 have A69 := mk0 A690
 clear A690
 by_cases c70 : 0 ≤ x10_6
 rotate_left
 ·rw [if_neg c70] at H
  exact absurd H (by simp)
 rw [if_pos c70] at H
 have c70b0 : decide (0 ≤ x10_6) = true := decide_eq_true c70
 clear c70
 by_cases c71 : x10_6 < (y306.length : Int)
 rotate_left
 ·rw [if_neg c71] at H
  exact absurd H (by simp)
 rw [if_pos c71] at H
 have c71b0 : decide (x10_6 < (y306.length : Int)) = true := decide_eq_true c71
 clear c71
 replace H := Option.bind_eq_some_iff.mp H
 obtain ⟨⟨t326, t329⟩, A720, H⟩ := H
 try dsimp only at H
 have A72 := mk0 A720
 clear A720
 have HC73 := mk0 H
 clear H
 obtain ⟨Ao74, co74, eo74⟩ := Kd.N_slice HO_3.out
 subst eo74
 have p317 : 0 ≤ (x9_4 : Int) := of_decide_eq_true (by first | (with_reducible assumption) | assumption)
 have q317 : x9_4 < (y300.length : Int) := of_decide_eq_true (by first | (with_reducible assumption) | assumption)
 obtain ⟨ad317, A317_0, c317_0, A317_1, c317_1, e317, hx317_0, hx317_1, hl317_0, hi317_0, hl317_1, hi317_1⟩ := at_T34 (Kd.N_reads' HO_3.out).2.2 x9_4 p317 q317
 cases e317
 obtain ⟨ce317, hce317, hMe317, hcc317⟩ := Kd.N_get HO_3.out z34 x9_4 p317 (by first | exact q317 | exact of_decide_eq_true (by first | (with_reducible assumption) | assumption) | (have e_ := (Kd.N_reads' HO_3.out).1; omega))
 obtain ⟨ua317_0, uc317_0, ua317_1, uc317_1, rfl, ul317_0, ge317_0, ul317_1, ge317_1⟩ := k34_openF hMe317
 have hv317_0 := hcc317 0 _ rfl
 rw [Nat.add_zero] at hv317_0
 replace hv317_0 := Option.some.inj (hv317_0.symm.trans hx317_0)
 injection hv317_0 with hva_ hvn_ hvc_
 rw [hva_] at ge317_0
 rw [hvc_] at ul317_0
 have HL317_0 := mk0 (show Kd.V k36 36 _ w.heap.size _ _ ((rd_T34 y300 x9_4).f0) from Kd.V_mk ul317_0 ge317_0)
 clear hva_ hvn_ hvc_ ge317_0 ul317_0
 have hv317_1 := hcc317 1 _ rfl
 rw [add_field _ _ 1 (by omega)] at hv317_1
 replace hv317_1 := Option.some.inj (hv317_1.symm.trans hx317_1)
 injection hv317_1 with hva_ hvn_ hvc_
 rw [hva_] at ge317_1
 rw [hvc_] at ul317_1
 have HL317_1 := mk0 (show Kd.V (Kd.int .i64) 3 _ w.heap.size _ _ ((rd_T34 y300 x9_4).f1) from Kd.V_mk ul317_1 ge317_1)
 clear hva_ hvn_ hvc_ ge317_1 ul317_1 hcc317 hce317
 have HR317_0 := mk0 hi317_0
 have HC317_0 := mk0 hl317_0
 clear hi317_0 hl317_0
 have HR317_1 := mk0 hi317_1
 have HC317_1 := mk0 hl317_1
 clear hi317_1 hl317_1
 replace p317 := eq_true p317
 replace q317 := eq_true q317
 try go_wp2_with (first | ((with_reducible refine gate_callee (f := 24) rfl ?_); refine gL_ (some 90) Try.func24 #[.agg #[.slice A317_0 ((rd_T34 y300 x9_4).f0).length c317_0, .slice A317_1 ((rd_T34 y300 x9_4).f1).length c317_1]] (h := ?_); (with_reducible refine (quorumref0_CopyPend.calls kj61 _ _ ((rd_T34 y300 x9_4).f0) _ _ ((rd_T34 y300 x9_4).f1) t318 t321 _ ?side1 ?side2 ?side3 ?side4 A69.out).mono ?_); (case side1 => repeat (first | exact (by repeat (first | (with_reducible exact HR317_0.out) | (with_reducible refine Kd.C_alloc ?_ _) | (with_reducible refine Kd.C_drewN ?_ _) | (with_reducible refine Kd.C_drew ?_) | exact HR317_0.out)) | (with_reducible refine Kd.C_alloc ?_ _) | (with_reducible refine Kd.C_drewN ?_ _) | (with_reducible refine Kd.C_drew ?_))); (case side2 => exact HC317_0.out); (case side3 => repeat (first | exact (by repeat (first | (with_reducible exact HR317_1.out) | (with_reducible refine Kd.C_alloc ?_ _) | (with_reducible refine Kd.C_drewN ?_ _) | (with_reducible refine Kd.C_drew ?_) | exact HR317_1.out)) | (with_reducible refine Kd.C_alloc ?_ _) | (with_reducible refine Kd.C_drewN ?_ _) | (with_reducible refine Kd.C_drew ?_))); (case side4 => exact HC317_1.out); rintro e w75 ⟨v319, v322, rfl, ho0, ho1, hb⟩; refine ⟨_, rfl, ?_⟩; have n5_ := mk0 (Kd.R_lower (Kd.R_newM (M := fun k_ => (w.heap.size ≤ k_)) ho0 (bz_ (b_ HB)) (fun k_ h_ => h_)) (bz_ (b_ HB))); have n6_ := mk0 (Kd.R_lower (Kd.R_new' (Kd.R_newM (M := fun k_ => (w.heap.size ≤ k_)) ho1 (bz_ (b_ HB)) (fun k_ h_ => h_)) (Kd.R_lt (r_ HO_4))) (bz_ (b_ HB))); replace HO_3 := mk0 (Kd.N_mono (Kd.N_told (Kd.N_told (Kd.N_old (nn_ HO_3) hb) (Kd.R_base ho0)) (Kd.R_base ho1)) (fun _ h_ => h_.1)); replace HO_4 := mk0 (Kd.R_elder' (r_ HO_4) (Kd.R_base ho1) hb); replace HO_296001 := mk0 (Kd.V_mono (Kd.V_told (Kd.V_told (Kd.V_old (v_ HO_296001) hb) (Kd.R_base ho0)) (Kd.R_base ho1)) (fun _ h_ => h_.1)); replace HL317_0 := mk0 (Kd.V_mono (Kd.V_told (Kd.V_told (Kd.V_old (v_ HL317_0) hb) (Kd.R_base ho0)) (Kd.R_base ho1)) (fun _ h_ => h_.1)); replace HL317_1 := mk0 (Kd.V_mono (Kd.V_told (Kd.V_told (Kd.V_old (v_ HL317_1) hb) (Kd.R_base ho0)) (Kd.R_base ho1)) (fun _ h_ => h_.1)); replace BK295 := mk0 (u_ BK295 hb); replace BK310 := mk0 (u_ BK310 hb); replace HR317_0 := mk0 (Kd.C_below (by (with_reducible repeat (first | refine Kd.C_drewN ?_ _ | refine Kd.C_drew ?_ | refine Kd.C_alloc ?_ _)); exact HR317_0.out) hb); replace HR317_1 := mk0 (Kd.C_below (by (with_reducible repeat (first | refine Kd.C_drewN ?_ _ | refine Kd.C_drew ?_ | refine Kd.C_alloc ?_ _)); exact HR317_1.out) hb); replace HB := mk0 (bt_ (b_ HB) hb); have HO320 := n5_; have HO323 := n6_; clear n5_ n6_; (try clear hb); (try clear ho0); (try clear ho1)) | ((with_reducible refine gate_dst (N := 11) rfl ?_); refine bx_ (N := 11) (cs := #[.slice none 0 0, .slice none 0 0]) (t := 34) (h := ?_); intro gb324 hg w76 hbox hb; have n13_ := mk0 (gz_ HB hg); have n14_ := mk0 (gz_ HB hg); have n15_ := mk0 (ne1_ BK295 hg); have n16_ := mk0 (ne2_ BK295 hg); have n17_ := mk0 (ne1_ BK310 hg); have n18_ := mk0 (ne2_ BK310 hg); replace HO_3 := mk0 (Kd.N_below (Kd.N_elderB (nn_ HO_3) gb324 (Nat.le_of_eq hg.symm)) hb); replace HO_4 := mk0 (Kd.R_below (r_ HO_4) hb); replace HO_296001 := mk0 (Kd.V_below (Kd.V_elderB (v_ HO_296001) gb324 (Nat.le_of_eq hg.symm)) hb); replace HL317_0 := mk0 (Kd.V_below (Kd.V_elderB (v_ HL317_0) gb324 (Nat.le_of_eq hg.symm)) hb); replace HL317_1 := mk0 (Kd.V_below (Kd.V_elderB (v_ HL317_1) gb324 (Nat.le_of_eq hg.symm)) hb); replace HO320 := mk0 (Kd.R_below (r_ HO320) hb); replace HO323 := mk0 (Kd.R_below (r_ HO323) hb); replace BK295 := mk0 (u_ BK295 hb); replace BK310 := mk0 (u_ BK310 hb); replace HR317_0 := mk0 (Kd.C_below (by (with_reducible repeat (first | refine Kd.C_drewN ?_ _ | refine Kd.C_drew ?_ | refine Kd.C_alloc ?_ _)); exact HR317_0.out) hb); replace HR317_1 := mk0 (Kd.C_below (by (with_reducible repeat (first | refine Kd.C_drewN ?_ _ | refine Kd.C_drew ?_ | refine Kd.C_alloc ?_ _)); exact HR317_1.out) hb); replace HB := mk0 (bt_ (b_ HB) hb); have BK324 := mk0 (hbox); have GW324 := n13_; have GE324 := n14_; have NB295_324 := n15_; have NB324_295 := n16_; have NB310_324 := n17_; have NB324_310 := n18_; clear n13_ n14_ n15_ n16_ n17_ n18_ hb hbox hg; obtain ⟨Ao77, co77, eo77⟩ := Kd.R_slice HO320.out; subst eo77; have hnb78 := NB324_295.out; have hnc78 := NB295_324.out; have hnb79 := NB324_310.out; have hnc79 := NB310_324.out; obtain ⟨hcz80_0, hcz80_1, hfz80_0, hfz80_1⟩ := c2_ BK324; obtain ⟨Ao81, co81, eo81⟩ := Kd.R_slice HO323.out; subst eo81))
 have n0_ : Fc (Kd.N k34 34 ((w76.setCell ⟨gb324, 0, none⟩ (.slice Ao77 t318.length co77)).setCell ⟨gb324, 1, none⟩ (.slice Ao81 t321.length co81)) w.heap.size (fun k_ => (P0_1_ k_ ∨ w.heap.size ≤ k_) ∧ some k_ ≠ (v307 : Value).ownBlock ∧ some k_ ≠ (.slice Ao77 t318.length co77 : Value).ownBlock ∧ some k_ ≠ (.slice Ao81 t321.length co81 : Value).ownBlock ∧ k_ ≠ gb295 ∧ k_ ≠ gb310 ∧ k_ ≠ gb324) (.slice (some ad317) y300.length co74) y300) := ⟨by (with_reducible repeat (first | apply Kd.N_alloc | apply Kd.N_drewN | apply Kd.N_drew)); exact Kd.N_mono (Kd.N_far (p := ⟨gb324, 1, none⟩) (Kd.N_far (p := ⟨gb324, 0, none⟩) (Kd.N_mono HO_3.out (fun k_ hk => (⟨hk, hk.2⟩ : _ ∧ k_ ≠ gb324))) (fun _ hk => hk.2) (.slice Ao77 t318.length co77)) (fun _ hk => hk.2) (.slice Ao81 t321.length co81)) (fun _ hk => ⟨hk.1.1.1.1.1, ⟨hk.1.1.1.1.2.1, ⟨hk.1.1.1.2, ⟨hk.1.1.2, ⟨hk.1.1.1.1.2.2.1, ⟨hk.1.1.1.1.2.2.2, hk.1.2⟩⟩⟩⟩⟩⟩)⟩
 have n1_ : Fc (Kd.R (Kd.int .i64) 3 ((w76.setCell ⟨gb324, 0, none⟩ (.slice Ao77 t318.length co77)).setCell ⟨gb324, 1, none⟩ (.slice Ao81 t321.length co81)) w.heap.size (fun k_ => (w.heap.size ≤ k_) ∧ some k_ ≠ (.slice Ao81 t321.length co81 : Value).ownBlock) v307 y306) := ⟨by (with_reducible repeat (first | apply Ra_ | apply Rn_ | apply Rd_)); exact Kd.R_mono (Kd.R_far (p := ⟨gb324, 1, none⟩) (Kd.R_far (p := ⟨gb324, 0, none⟩) (Kd.R_types HO_4.out BK324.out (by decide)) (fun _ hk => hk.2) (.slice Ao77 t318.length co77)) (fun _ hk => hk.2) (.slice Ao81 t321.length co81)) (fun _ hk => ⟨hk.1.1, hk.1.2⟩)⟩
 have n2_ : Fc (Kd.V k34 34 ((w76.setCell ⟨gb324, 0, none⟩ (.slice Ao77 t318.length co77)).setCell ⟨gb324, 1, none⟩ (.slice Ao81 t321.length co81)) w.heap.size (fun k_ => (P0_1_ k_ ∨ w.heap.size ≤ k_) ∧ some k_ ≠ (.slice (some ad317) y300.length co74 : Value).ownBlock ∧ some k_ ≠ (v307 : Value).ownBlock ∧ some k_ ≠ (.slice Ao77 t318.length co77 : Value).ownBlock ∧ some k_ ≠ (.slice Ao81 t321.length co81 : Value).ownBlock ∧ k_ ≠ gb295 ∧ k_ ≠ gb310 ∧ k_ ≠ gb324) (.slice A0_1 l0_1.length c0_1) l0_1) := ⟨by (with_reducible repeat (first | apply Kd.V_alloc | apply Kd.V_drewN | apply Kd.V_drew)); exact Kd.V_mono (Kd.V_far (p := ⟨gb324, 1, none⟩) (Kd.V_far (p := ⟨gb324, 0, none⟩) (Kd.V_mono HO_296001.out (fun k_ hk => (⟨hk, hk.2⟩ : _ ∧ k_ ≠ gb324))) (fun _ hk => hk.2) (.slice Ao77 t318.length co77)) (fun _ hk => hk.2) (.slice Ao81 t321.length co81)) (fun _ hk => ⟨hk.1.1.1.1.1, ⟨hk.1.1.1.1.2.1, ⟨hk.1.1.1.1.2.2.1, ⟨hk.1.1.1.2, ⟨hk.1.1.2, ⟨hk.1.1.1.1.2.2.2.1, ⟨hk.1.1.1.1.2.2.2.2, hk.1.2⟩⟩⟩⟩⟩⟩⟩)⟩
 have n3_ : Fc (Kd.V k36 36 ((w76.setCell ⟨gb324, 0, none⟩ (.slice Ao77 t318.length co77)).setCell ⟨gb324, 1, none⟩ (.slice Ao81 t321.length co81)) w.heap.size (fun k_ => (P0_1_ k_ ∨ w.heap.size ≤ k_) ∧ some k_ ≠ (.slice (some ad317) y300.length co74 : Value).ownBlock ∧ some k_ ≠ (v307 : Value).ownBlock ∧ some k_ ≠ (.slice Ao77 t318.length co77 : Value).ownBlock ∧ some k_ ≠ (.slice Ao81 t321.length co81 : Value).ownBlock ∧ k_ ≠ gb295 ∧ k_ ≠ gb310 ∧ k_ ≠ gb324) (.slice A317_0 ((rd_T34 y300 x9_4).f0).length c317_0) ((rd_T34 y300 x9_4).f0)) := ⟨by (with_reducible repeat (first | apply Kd.V_alloc | apply Kd.V_drewN | apply Kd.V_drew)); exact Kd.V_mono (Kd.V_far (p := ⟨gb324, 1, none⟩) (Kd.V_far (p := ⟨gb324, 0, none⟩) (Kd.V_mono HL317_0.out (fun k_ hk => (⟨hk, hk.2⟩ : _ ∧ k_ ≠ gb324))) (fun _ hk => hk.2) (.slice Ao77 t318.length co77)) (fun _ hk => hk.2) (.slice Ao81 t321.length co81)) (fun _ hk => ⟨hk.1.1.1.1.1.1, ⟨hk.1.1.1.1.2, ⟨hk.1.1.1.1.1.2.1, ⟨hk.1.1.1.2, ⟨hk.1.1.2, ⟨hk.1.1.1.1.1.2.2.1, ⟨hk.1.1.1.1.1.2.2.2, hk.1.2⟩⟩⟩⟩⟩⟩⟩)⟩
 have n4_ : Fc (Kd.V (Kd.int .i64) 3 ((w76.setCell ⟨gb324, 0, none⟩ (.slice Ao77 t318.length co77)).setCell ⟨gb324, 1, none⟩ (.slice Ao81 t321.length co81)) w.heap.size (fun k_ => (P0_1_ k_ ∨ w.heap.size ≤ k_) ∧ some k_ ≠ (.slice (some ad317) y300.length co74 : Value).ownBlock ∧ some k_ ≠ (v307 : Value).ownBlock ∧ some k_ ≠ (.slice Ao77 t318.length co77 : Value).ownBlock ∧ some k_ ≠ (.slice Ao81 t321.length co81 : Value).ownBlock ∧ k_ ≠ gb295 ∧ k_ ≠ gb310 ∧ k_ ≠ gb324) (.slice A317_1 ((rd_T34 y300 x9_4).f1).length c317_1) ((rd_T34 y300 x9_4).f1)) := ⟨by (with_reducible repeat (first | apply Kd.V_alloc | apply Kd.V_drewN | apply Kd.V_drew)); exact Kd.V_mono (Kd.V_far (p := ⟨gb324, 1, none⟩) (Kd.V_far (p := ⟨gb324, 0, none⟩) (Kd.V_mono HL317_1.out (fun k_ hk => (⟨hk, hk.2⟩ : _ ∧ k_ ≠ gb324))) (fun _ hk => hk.2) (.slice Ao77 t318.length co77)) (fun _ hk => hk.2) (.slice Ao81 t321.length co81)) (fun _ hk => ⟨hk.1.1.1.1.1.1, ⟨hk.1.1.1.1.2, ⟨hk.1.1.1.1.1.2.1, ⟨hk.1.1.1.2, ⟨hk.1.1.2, ⟨hk.1.1.1.1.1.2.2.1, ⟨hk.1.1.1.1.1.2.2.2, hk.1.2⟩⟩⟩⟩⟩⟩⟩)⟩
 have n5_ : Fc (Kd.R k36 36 ((w76.setCell ⟨gb324, 0, none⟩ (.slice Ao77 t318.length co77)).setCell ⟨gb324, 1, none⟩ (.slice Ao81 t321.length co81)) w.heap.size (fun k_ => (w.heap.size ≤ k_)) (.slice Ao77 t318.length co77) t318) := ⟨by (with_reducible repeat (first | apply Ra_ | apply Rn_ | apply Rd_)); exact Kd.R_mono (Kd.R_far (p := ⟨gb324, 1, none⟩) (Kd.R_far (p := ⟨gb324, 0, none⟩) (Kd.R_types HO320.out BK324.out (by decide)) (fun _ hk => hk.2) (.slice Ao77 t318.length co77)) (fun _ hk => hk.2) (.slice Ao81 t321.length co81)) (fun _ hk => hk.1.1)⟩
 have n6_ : Fc (Kd.R (Kd.int .i64) 3 ((w76.setCell ⟨gb324, 0, none⟩ (.slice Ao77 t318.length co77)).setCell ⟨gb324, 1, none⟩ (.slice Ao81 t321.length co81)) w.heap.size (fun k_ => (w.heap.size ≤ k_) ∧ some k_ ≠ (v307 : Value).ownBlock) (.slice Ao81 t321.length co81) t321) := ⟨by (with_reducible repeat (first | apply Ra_ | apply Rn_ | apply Rd_)); exact Kd.R_mono (Kd.R_far (p := ⟨gb324, 1, none⟩) (Kd.R_far (p := ⟨gb324, 0, none⟩) (Kd.R_types HO323.out BK324.out (by decide)) (fun _ hk => hk.2) (.slice Ao77 t318.length co77)) (fun _ hk => hk.2) (.slice Ao81 t321.length co81)) (fun _ hk => ⟨hk.1.1.1, hk.1.2⟩)⟩
 have n7_ : Fc (((w76.setCell ⟨gb324, 0, none⟩ (.slice Ao77 t318.length co77)).setCell ⟨gb324, 1, none⟩ (.slice Ao81 t321.length co81)).heap[gb295]? = some (.cells #[.slice (some ad309) l0_0.length c0_0, .slice A0_1 l0_1.length c0_1, .slice A0_2 l0_2.length c0_2] 51 (0, 0))) := ⟨(fa_ (fa_ (h_ BK295) NB295_324.out) NB295_324.out)⟩
 have n8_ : Fc (((w76.setCell ⟨gb324, 0, none⟩ (.slice Ao77 t318.length co77)).setCell ⟨gb324, 1, none⟩ (.slice Ao81 t321.length co81)).heap[gb310]? = some (.cells #[.int .i64 ((rd_T101 l0_0 x5_1).f0), .int .i64 ((rd_T101 l0_0 x5_1).f1), .string ((rd_T101 l0_0 x5_1).f2), .string ((rd_T101 l0_0 x5_1).f3), .string ((rd_T101 l0_0 x5_1).f4.f0), .string ((rd_T101 l0_0 x5_1).f4.f1), .bool ((rd_T101 l0_0 x5_1).f4.f2), .int .i64 ((rd_T101 l0_0 x5_1).f5), .bool ((rd_T101 l0_0 x5_1).f6)] 101 (0, 0))) := ⟨(fa_ (fa_ (h_ BK310) NB310_324.out) NB310_324.out)⟩
 have n9_ : Fc (((w76.setCell ⟨gb324, 0, none⟩ (.slice Ao77 t318.length co77)).setCell ⟨gb324, 1, none⟩ (.slice Ao81 t321.length co81)).heap[gb324]? = some (.cells #[.slice Ao77 t318.length co77, .slice Ao81 t321.length co81] 34 (0, 0))) := ⟨(pu_ (cs := #[.slice Ao77 t318.length co77, .slice none 0 0]) (pu_ (cs := #[.slice none 0 0, .slice none 0 0]) (h_ BK324)))⟩
 have n10_ : Fc (Below w.heap.size w ((w76.setCell ⟨gb324, 0, none⟩ (.slice Ao77 t318.length co77)).setCell ⟨gb324, 1, none⟩ (.slice Ao81 t321.length co81))) := ⟨b_ HB⟩
 (try clear HO_3)
 (try clear HO_4)
 (try clear HO_296001)
 (try clear HL317_0)
 (try clear HL317_1)
 (try clear HO320)
 (try clear HO323)
 (try clear BK295)
 (try clear BK310)
 (try clear BK324)
 (try clear HB)
 generalize ((w76.setCell ⟨gb324, 0, none⟩ (.slice Ao77 t318.length co77)).setCell ⟨gb324, 1, none⟩ (.slice Ao81 t321.length co81)) = w82 at n0_ n1_ n2_ n3_ n4_ n5_ n6_ n7_ n8_ n9_ n10_ ⊢
 have HO_3 := n0_
 have HO_4 := n1_
 have HO_296001 := n2_
 have HL317_0 := n3_
 have HL317_1 := n4_
 have HO320 := n5_
 have HO323 := n6_
 have BK295 := n7_
 have BK310 := n8_
 have BK324 := n9_
 have HB := n10_
 clear n0_ n1_ n2_ n3_ n4_ n5_ n6_ n7_ n8_ n9_ n10_
 replace HO_3 := mk0 (Kd.N_drew HO_3.out)
 replace HO_4 := mk0 (Rd_ HO_4.out)
 replace HO_296001 := mk0 (Kd.V_drew HO_296001.out)
 replace HL317_0 := mk0 (Kd.V_drew HL317_0.out)
 replace HL317_1 := mk0 (Kd.V_drew HL317_1.out)
 replace HO320 := mk0 (Rd_ HO320.out)
 replace HO323 := mk0 (Rd_ HO323.out)
 replace BK295 := mk0 (bD_ BK295.out)
 replace BK310 := mk0 (bD_ BK310.out)
 replace BK324 := mk0 (bD_ BK324.out)
 replace HB := mk0 (b1_ HB.out)
 obtain ⟨Ao84, co84, eo84⟩ := Kd.R_slice HO_4.out
 (first | subst eo84 | (injection eo84 with f1_ f2_ f3_; have f4_ := f1_.symm; have f5_ := f3_.symm; clear f1_ f2_ f3_; subst f4_; subst f5_))
 have p325 : 0 ≤ (x10_6 : Int) := of_decide_eq_true (by first | (with_reducible assumption) | assumption)
 have q325 : x10_6 < (y306.length : Int) := of_decide_eq_true (by first | (with_reducible assumption) | assumption)
 obtain ⟨ad325, e325, hx325_0⟩ := Kd.at_int (Kd.R_reads' HO_4.out).2.2 x10_6 p325 q325
 cases e325
 replace p325 := eq_true p325
 replace q325 := eq_true q325
 refine start_ (n := 12) (S := fun w' => w'.cell? ⟨gb310, 0, none⟩ = some (.int .i64 ((rd_T101 l0_0 x5_1).f0)) ∧ w'.cell? ⟨gb310, 1, none⟩ = some (.int .i64 ((rd_T101 l0_0 x5_1).f1)) ∧ w'.cell? ⟨gb310, 2, none⟩ = some (.string ((rd_T101 l0_0 x5_1).f2)) ∧ w'.cell? ⟨gb310, 3, none⟩ = some (.string ((rd_T101 l0_0 x5_1).f3)) ∧ w'.cell? ⟨gb310, 4, none⟩ = some (.string ((rd_T101 l0_0 x5_1).f4.f0)) ∧ w'.cell? ⟨gb310, 5, none⟩ = some (.string ((rd_T101 l0_0 x5_1).f4.f1)) ∧ w'.cell? ⟨gb310, 6, none⟩ = some (.bool ((rd_T101 l0_0 x5_1).f4.f2)) ∧ w'.cell? ⟨gb310, 7, none⟩ = some (.int .i64 ((rd_T101 l0_0 x5_1).f5)) ∧ w'.cell? ⟨gb310, 8, none⟩ = some (.bool ((rd_T101 l0_0 x5_1).f6)) ∧ w'.cell? ⟨gb324, 0, none⟩ = some (.slice Ao77 t318.length co77) ∧ w'.cell? ⟨gb324, 1, none⟩ = some (.slice Ao81 t321.length co81) ∧ w'.cell? (ad325.add (x10_6).toNat) = some (.int .i64 (rd y306 x10_6))) (ds := []) (bt 12 0) (by kernel_rfl) rfl rfl ⟨bk_ BK310 0, bk_ BK310 1, bk_ BK310 2, bk_ BK310 3, bk_ BK310 4, bk_ BK310 5, bk_ BK310 6, bk_ BK310 7, bk_ BK310 8, bk_ BK324 0, bk_ BK324 1, hx325_0⟩ (fun hHeld => ?_); refine with_tabW quorumlaw12_PlanLocks.tab24 quorumlaw12_PlanLocks.bits24 (fun HT_ HW_ => ?_)
 generalize w82.drew = w83 at HO_3 HO_4 HO_296001 HL317_0 HL317_1 HO320 HO323 BK295 BK310 BK324 HB hx325_0 hHeld ⊢
 refine pq_ HT_.out 2 94 (bt 12 4) (h := ?_)
 refine pq_ HT_.out 3 95 (bt 12 12) (h := ?_)
 refine pq_ HT_.out 4 96 (bt 12 28) (h := ?_)
 refine tq12_ HT_.out HW_.out 0 92 (bt 12 29) hHeld (h := ?_)
 refine tq12_ HT_.out HW_.out 1 93 (bt 12 31) hHeld (h := ?_)
 refine tq12_ HT_.out HW_.out 5 97 (bt 12 63) hHeld (h := ?_)
 refine one_ (i := 6) (N := some 98) (bt 12 127) rfl rfl (one_of HT_.out (by kernel_rfl)) (by decide) (fun K hK => ?_)
 refine goes_ Try.func106 (by kernel_rfl) rfl #[.agg #[.int .i64 ((rd_T101 l0_0 x5_1).f0), .int .i64 ((rd_T101 l0_0 x5_1).f1), .string ((rd_T101 l0_0 x5_1).f2), .string ((rd_T101 l0_0 x5_1).f3), .string ((rd_T101 l0_0 x5_1).f4.f0), .string ((rd_T101 l0_0 x5_1).f4.f1), .bool ((rd_T101 l0_0 x5_1).f4.f2), .int .i64 ((rd_T101 l0_0 x5_1).f5), .bool ((rd_T101 l0_0 x5_1).f6)], .agg #[.slice Ao77 t318.length co77, .slice Ao81 t321.length co81], .int .i64 (rd y306 x10_6)] (by rfl) rfl rfl (by (try simp only [List.map_toArray, List.map_cons, List.map_nil]); first | done | rfl | (simp only [List.length_drop, List.length_take]; rfl)) ?_
 with_reducible refine (plan_Locks.calls kj61 ((rd_T101 l0_0 x5_1).f0) ((rd_T101 l0_0 x5_1).f1) ((rd_T101 l0_0 x5_1).f2) ((rd_T101 l0_0 x5_1).f3) ((rd_T101 l0_0 x5_1).f4.f0) ((rd_T101 l0_0 x5_1).f4.f1) ((rd_T101 l0_0 x5_1).f4.f2) ((rd_T101 l0_0 x5_1).f5) ((rd_T101 l0_0 x5_1).f6) _ _ t318 _ _ t321 (rd y306 x10_6) t326 t329 _ ?side1 ?side2 ?side3 ?side4 A72.out).mono ?_
 (case side1 => exact cr_ HO320)
 (case side2 => exact (Kd.R_reads' HO320.out).2.1)
 (case side3 => exact cr_ HO323)
 (case side4 => exact (Kd.R_reads' HO323.out).2.1)
 rintro e w85 ⟨v327, rfl, ho0, hb⟩
 have HS11_ := (hb.cell (World.block_lt_of_cell? _ _ hHeld.2.2.2.2.2.2.2.2.2.2.2)).trans hHeld.2.2.2.2.2.2.2.2.2.2.2
 refine ⟨_, rfl, ?_⟩
 have n7_ := mk0 (Kd.R_lower (Kd.R_newM (M := fun k_ => (w.heap.size ≤ k_)) ho0 (bz_ (b_ HB)) (fun k_ h_ => h_)) (bz_ (b_ HB)))
 replace HO_3 := mk0 (Kd.N_elder' (nn_ HO_3) (Kd.R_base ho0) hb)
 replace HO_4 := mk0 (Kd.R_below (r_ HO_4) hb)
 replace HO_296001 := mk0 (Kd.V_elder' (v_ HO_296001) (Kd.R_base ho0) hb)
 replace HL317_0 := mk0 (Kd.V_elder' (v_ HL317_0) (Kd.R_base ho0) hb)
 replace HL317_1 := mk0 (Kd.V_elder' (v_ HL317_1) (Kd.R_base ho0) hb)
 replace HO320 := mk0 (Kd.R_below (r_ HO320) hb)
 replace HO323 := mk0 (Kd.R_below (r_ HO323) hb)
 replace BK295 := mk0 (u_ BK295 hb)
 replace BK310 := mk0 (u_ BK310 hb)
 replace BK324 := mk0 (u_ BK324 hb)
 replace HB := mk0 (bt_ (b_ HB) hb)
 have HO328 := n7_
 clear n7_
 (try clear hb)
 (try clear hb2)
 (try clear hk)
 (try clear hi)
 (try clear ho0)
 refine hK.out _ _ ⟨bk_ BK310 0, bk_ BK310 1, bk_ BK310 2, bk_ BK310 3, bk_ BK310 4, bk_ BK310 5, bk_ BK310 6, bk_ BK310 7, bk_ BK310 8, bk_ BK324 0, bk_ BK324 1, HS11_⟩ (fun hHeld => ?_)
 clear hK K
 refine norm_ (a' := ?_) ?_ ?_
 rotate_left
 ·show Act.put _ (some 98) _ = _
  simp only [z_]
  rfl
 refine pq_ HT_.out 7 91 (bt 12 255) (h := ?_)
 refine pq_ HT_.out 8 99 (bt 12 511) (h := ?_)
 refine pq_ HT_.out 9 100 (bt 12 1023) (h := ?_)
 refine pq_ HT_.out 10 12 (bt 12 2047) (h := ?_)
 refine pq_ HT_.out 11 13 (bt 12 4095) (h := ?_)
 refine done_ (done_of HT_.out (by kernel_rfl)) ?_
 go_upto_region 27 with (fail)
 go_cut [116] (fun v116 wc => ∃ (kq : Nat) (x116_72 : Bool), v116 = .bool x116_72 ∧ Fc (quorumlaw12_PlanLocks.j8 kq y300 y306 x5_1 x9_4 x10_6 t326 t329 1 ([] : List (S191)) x116_72 l0_0 l0_1 l0_2 ((rd_T101 l0_0 x5_1).f0) ((rd_T101 l0_0 x5_1).f1) ((rd_T101 l0_0 x5_1).f2) ((rd_T101 l0_0 x5_1).f3) ((rd_T101 l0_0 x5_1).f4.f0) ((rd_T101 l0_0 x5_1).f4.f1) ((rd_T101 l0_0 x5_1).f4.f2) ((rd_T101 l0_0 x5_1).f5) ((rd_T101 l0_0 x5_1).f6) t318 t321 = some r) ∧ Fc (kq ≤ kj61) ∧ Fc (Kd.N k34 34 wc w.heap.size (fun k_ => (P0_1_ k_ ∨ w.heap.size ≤ k_) ∧ some k_ ≠ ((.slice (some ad325) y306.length co84) : Value).ownBlock ∧ some k_ ≠ (v327 : Value).ownBlock ∧ some k_ ≠ ((.slice none 0 0) : Value).ownBlock ∧ some k_ ≠ ((.slice Ao77 t318.length co77) : Value).ownBlock ∧ some k_ ≠ ((.slice Ao81 t321.length co81) : Value).ownBlock ∧ k_ ≠ gb295 ∧ k_ ≠ gb310 ∧ k_ ≠ gb324) (.slice (some ad317) y300.length co74) y300) ∧ Fc (Kd.R (Kd.int .i64) 3 wc w.heap.size (fun k_ => (w.heap.size ≤ k_) ∧ some k_ ≠ ((.slice Ao81 t321.length co81) : Value).ownBlock) (.slice (some ad325) y306.length co84) y306) ∧ Fc (Kd.R k191 191 wc w.heap.size (fun k_ => (w.heap.size ≤ k_) ∧ some k_ ≠ ((.slice none 0 0) : Value).ownBlock) v327 t326) ∧ Fc (Kd.R k191 191 wc w.heap.size (fun k_ => (w.heap.size ≤ k_) ∧ some k_ ≠ (v327 : Value).ownBlock) (.slice none 0 0) ([] : List (S191))) ∧ Fc (Kd.V k34 34 wc w.heap.size (fun k_ => (P0_1_ k_ ∨ w.heap.size ≤ k_) ∧ some k_ ≠ ((.slice (some ad317) y300.length co74) : Value).ownBlock ∧ some k_ ≠ ((.slice (some ad325) y306.length co84) : Value).ownBlock ∧ some k_ ≠ (v327 : Value).ownBlock ∧ some k_ ≠ ((.slice none 0 0) : Value).ownBlock ∧ some k_ ≠ ((.slice Ao77 t318.length co77) : Value).ownBlock ∧ some k_ ≠ ((.slice Ao81 t321.length co81) : Value).ownBlock ∧ k_ ≠ gb295 ∧ k_ ≠ gb310 ∧ k_ ≠ gb324) (.slice A0_1 l0_1.length c0_1) l0_1) ∧ Fc (Kd.R k36 36 wc w.heap.size (fun k_ => (w.heap.size ≤ k_)) (.slice Ao77 t318.length co77) t318) ∧ Fc (Kd.R (Kd.int .i64) 3 wc w.heap.size (fun k_ => (w.heap.size ≤ k_) ∧ some k_ ≠ ((.slice (some ad325) y306.length co84) : Value).ownBlock) (.slice Ao81 t321.length co81) t321) ∧ Fc (wc.heap[gb295]? = some (.cells #[(.slice (some ad309) l0_0.length c0_0), (.slice A0_1 l0_1.length c0_1), (.slice A0_2 l0_2.length c0_2)] 51 (0, 0))) ∧ Fc (wc.heap[gb310]? = some (.cells #[.int .i64 ((rd_T101 l0_0 x5_1).f0), .int .i64 ((rd_T101 l0_0 x5_1).f1), .string ((rd_T101 l0_0 x5_1).f2), .string ((rd_T101 l0_0 x5_1).f3), .string ((rd_T101 l0_0 x5_1).f4.f0), .string ((rd_T101 l0_0 x5_1).f4.f1), .bool ((rd_T101 l0_0 x5_1).f4.f2), .int .i64 ((rd_T101 l0_0 x5_1).f5), .bool ((rd_T101 l0_0 x5_1).f6)] 101 (0, 0))) ∧ Fc (wc.heap[gb324]? = some (.cells #[(.slice Ao77 t318.length co77), (.slice Ao81 t321.length co81)] 34 (0, 0))) ∧ Fc (Below w.heap.size w wc))
 case first =>
  have H := HC73.out
  clear HC73
  replace H := Option.bind_eq_some_iff.mp H
  obtain ⟨t330, A860, H⟩ := H
  try dsimp only at H
  have A86 := mk0 A860
  clear A860
  by_cases c87 : t330 = true
  rotate_left
  ·replace c87 := Bool.eq_false_iff.mpr c87
   subst c87
   rw [if_neg (show ¬ (false = true) by decide)] at H
   have H' := mk0 H
   clear H
   have hnb101 := NB310_295.out
   have hnc101 := NB295_310.out
   have hnb102 := NB310_324.out
   have hnc102 := NB324_310.out
   obtain ⟨hcz103_0, hcz103_1, hcz103_2, hcz103_3, hcz103_4, hcz103_5, hcz103_6, hcz103_7, hcz103_8, hfz103_0, hfz103_1, hfz103_2, hfz103_3, hfz103_4, hfz103_5, hfz103_6, hfz103_7, hfz103_8⟩ := c9_ BK310
   go_wp2_with (first | ((with_reducible refine gate_callee (f := 103) rfl ?_); refine gL_ (some 102) Try.func103 #[.agg #[.int .i64 ((rd_T101 l0_0 x5_1).f0), .int .i64 ((rd_T101 l0_0 x5_1).f1), .string ((rd_T101 l0_0 x5_1).f2), .string ((rd_T101 l0_0 x5_1).f3), .string ((rd_T101 l0_0 x5_1).f4.f0), .string ((rd_T101 l0_0 x5_1).f4.f1), .bool ((rd_T101 l0_0 x5_1).f4.f2), .int .i64 ((rd_T101 l0_0 x5_1).f5), .bool ((rd_T101 l0_0 x5_1).f6)], .int .i64 3] (h := ?_); (with_reducible refine (quorumref12_Op.calls ((rd_T101 l0_0 x5_1).f0) ((rd_T101 l0_0 x5_1).f1) ((rd_T101 l0_0 x5_1).f2) ((rd_T101 l0_0 x5_1).f3) ((rd_T101 l0_0 x5_1).f4.f0) ((rd_T101 l0_0 x5_1).f4.f1) ((rd_T101 l0_0 x5_1).f4.f2) ((rd_T101 l0_0 x5_1).f5) ((rd_T101 l0_0 x5_1).f6) 3 false _ A86.out).mono ?_); rintro e w104 ⟨rfl, hb⟩; refine ⟨_, rfl, ?_⟩; replace HO_3 := mk0 (Kd.N_below (nn_ HO_3) hb); replace HO_4 := mk0 (Kd.R_below (r_ HO_4) hb); replace HO_296001 := mk0 (Kd.V_below (v_ HO_296001) hb); replace HL317_0 := mk0 (Kd.V_below (v_ HL317_0) hb); replace HL317_1 := mk0 (Kd.V_below (v_ HL317_1) hb); replace HO320 := mk0 (Kd.R_below (r_ HO320) hb); replace HO323 := mk0 (Kd.R_below (r_ HO323) hb); replace HO328 := mk0 (Kd.R_below (r_ HO328) hb); replace BK295 := mk0 (u_ BK295 hb); replace BK310 := mk0 (u_ BK310 hb); replace BK324 := mk0 (u_ BK324 hb); replace HB := mk0 (bt_ (b_ HB) hb); (try clear hb)))
   go_meet
   case rel => exact ⟨_, (false), (by first | rfl | (simp; done) | (simp [*]; done)), H', ⟨by have := HK1.out; have := HJ19.out; have := HK3.out; have := HK4.out; have := HJ56.out; have := HK6.out; have := HJ61.out; first | omega | exact Nat.le_refl _⟩, ⟨by (with_reducible repeat (first | apply Kd.N_alloc | apply Kd.N_drewN | apply Kd.N_drew)); exact Kd.N_mono HO_3.out (fun _ hk => ⟨hk.1.1, ⟨hk.1.2.1, ⟨hk.2, ⟨(by simp [Value.ownBlock]), ⟨hk.1.2.2.1, ⟨hk.1.2.2.2.1, ⟨hk.1.2.2.2.2.1, ⟨hk.1.2.2.2.2.2.1, hk.1.2.2.2.2.2.2⟩⟩⟩⟩⟩⟩⟩⟩)⟩, ⟨by (with_reducible repeat (first | apply Ra_ | apply Rn_ | apply Rd_)); exact HO_4.out⟩, ⟨by (with_reducible repeat (first | apply Ra_ | apply Rn_ | apply Rd_)); exact Kd.R_mono HO328.out (fun _ hk => ⟨hk.1, (by simp [Value.ownBlock])⟩)⟩, ⟨by first | exact Kd.R_nil _ _ _ _ _ | exact Kd.N_nil _ _ _ _ _ | exact Kd.V_nil _ _ _ _ _ | exact Kd.Q_nil _ _ _ _ _ | exact Kd.S_nil _ _ _ _ _⟩, ⟨by (with_reducible repeat (first | apply Kd.V_alloc | apply Kd.V_drewN | apply Kd.V_drew)); exact Kd.V_mono HO_296001.out (fun _ hk => ⟨hk.1.1, ⟨hk.1.2.1, ⟨hk.1.2.2.1, ⟨hk.2, ⟨(by simp [Value.ownBlock]), ⟨hk.1.2.2.2.1, ⟨hk.1.2.2.2.2.1, ⟨hk.1.2.2.2.2.2.1, ⟨hk.1.2.2.2.2.2.2.1, hk.1.2.2.2.2.2.2.2⟩⟩⟩⟩⟩⟩⟩⟩⟩)⟩, ⟨by (with_reducible repeat (first | apply Ra_ | apply Rn_ | apply Rd_)); exact HO320.out⟩, ⟨by (with_reducible repeat (first | apply Ra_ | apply Rn_ | apply Rd_)); exact HO323.out⟩, ⟨h_ BK295⟩, ⟨h_ BK310⟩, ⟨h_ BK324⟩, ⟨b_ HB⟩⟩
  subst c87
  rw [if_pos rfl] at H
  replace H := Option.bind_eq_some_iff.mp H
  obtain ⟨t332, A880, H⟩ := H
  try dsimp only at H
  have A88 := mk0 A880
  clear A880
  by_cases c89 : t332 = true
  rotate_left
  ·replace c89 := Bool.eq_false_iff.mpr c89
   subst c89
   rw [if_neg (show ¬ (false = true) by decide)] at H
   have H' := mk0 H
   clear H
   have hnb96 := NB310_295.out
   have hnc96 := NB295_310.out
   have hnb97 := NB310_324.out
   have hnc97 := NB324_310.out
   obtain ⟨hcz98_0, hcz98_1, hcz98_2, hcz98_3, hcz98_4, hcz98_5, hcz98_6, hcz98_7, hcz98_8, hfz98_0, hfz98_1, hfz98_2, hfz98_3, hfz98_4, hfz98_5, hfz98_6, hfz98_7, hfz98_8⟩ := c9_ BK310
   go_wp2_with (first | ((with_reducible refine gate_callee (f := 103) rfl ?_); refine gL_ (some 102) Try.func103 #[.agg #[.int .i64 ((rd_T101 l0_0 x5_1).f0), .int .i64 ((rd_T101 l0_0 x5_1).f1), .string ((rd_T101 l0_0 x5_1).f2), .string ((rd_T101 l0_0 x5_1).f3), .string ((rd_T101 l0_0 x5_1).f4.f0), .string ((rd_T101 l0_0 x5_1).f4.f1), .bool ((rd_T101 l0_0 x5_1).f4.f2), .int .i64 ((rd_T101 l0_0 x5_1).f5), .bool ((rd_T101 l0_0 x5_1).f6)], .int .i64 3] (h := ?_); (with_reducible refine (quorumref12_Op.calls ((rd_T101 l0_0 x5_1).f0) ((rd_T101 l0_0 x5_1).f1) ((rd_T101 l0_0 x5_1).f2) ((rd_T101 l0_0 x5_1).f3) ((rd_T101 l0_0 x5_1).f4.f0) ((rd_T101 l0_0 x5_1).f4.f1) ((rd_T101 l0_0 x5_1).f4.f2) ((rd_T101 l0_0 x5_1).f5) ((rd_T101 l0_0 x5_1).f6) 3 true _ A86.out).mono ?_); rintro e w99 ⟨rfl, hb⟩; refine ⟨_, rfl, ?_⟩; replace HO_3 := mk0 (Kd.N_below (nn_ HO_3) hb); replace HO_4 := mk0 (Kd.R_below (r_ HO_4) hb); replace HO_296001 := mk0 (Kd.V_below (v_ HO_296001) hb); replace HL317_0 := mk0 (Kd.V_below (v_ HL317_0) hb); replace HL317_1 := mk0 (Kd.V_below (v_ HL317_1) hb); replace HO320 := mk0 (Kd.R_below (r_ HO320) hb); replace HO323 := mk0 (Kd.R_below (r_ HO323) hb); replace HO328 := mk0 (Kd.R_below (r_ HO328) hb); replace BK295 := mk0 (u_ BK295 hb); replace BK310 := mk0 (u_ BK310 hb); replace BK324 := mk0 (u_ BK324 hb); replace HB := mk0 (bt_ (b_ HB) hb); (try clear hb); have p331 : 0 ≤ (x9_4 : Int) := of_decide_eq_true (by first | (with_reducible assumption) | assumption); have q331 : x9_4 < (y300.length : Int) := of_decide_eq_true (by first | (with_reducible assumption) | assumption); obtain ⟨ad331, A331_0, c331_0, A331_1, c331_1, e331, hx331_0, hx331_1, hl331_0, hi331_0, hl331_1, hi331_1⟩ := at_T34 (Kd.N_reads' HO_3.out).2.2 x9_4 p331 q331; obtain rfl : ad317 = ad331 := (by injection e331); obtain ⟨ce331, hce331, hMe331, hcc331⟩ := Kd.N_get HO_3.out z34 x9_4 p331 (by first | exact q331 | exact of_decide_eq_true (by first | (with_reducible assumption) | assumption) | (have e_ := (Kd.N_reads' HO_3.out).1; omega)); obtain ⟨ua331_0, uc331_0, ua331_1, uc331_1, rfl, ul331_0, ge331_0, ul331_1, ge331_1⟩ := k34_openF hMe331; have hv331_0 := hcc331 0 _ rfl; rw [Nat.add_zero] at hv331_0; replace hv331_0 := Option.some.inj (hv331_0.symm.trans hx331_0); injection hv331_0 with hva_ hvn_ hvc_; rw [hva_] at ge331_0; rw [hvc_] at ul331_0; have HL331_0 := mk0 (show Kd.V k36 36 _ w.heap.size _ _ ((rd_T34 y300 x9_4).f0) from Kd.V_mk ul331_0 ge331_0); clear hva_ hvn_ hvc_ ge331_0 ul331_0; have hv331_1 := hcc331 1 _ rfl; rw [add_field _ _ 1 (by omega)] at hv331_1; replace hv331_1 := Option.some.inj (hv331_1.symm.trans hx331_1); injection hv331_1 with hva_ hvn_ hvc_; rw [hva_] at ge331_1; rw [hvc_] at ul331_1; have HL331_1 := mk0 (show Kd.V (Kd.int .i64) 3 _ w.heap.size _ _ ((rd_T34 y300 x9_4).f1) from Kd.V_mk ul331_1 ge331_1); clear hva_ hvn_ hvc_ ge331_1 ul331_1 hcc331 hce331; have HR331_0 := mk0 hi331_0; have HC331_0 := mk0 hl331_0; clear hi331_0 hl331_0; have HR331_1 := mk0 hi331_1; have HC331_1 := mk0 hl331_1; clear hi331_1 hl331_1; replace p331 := eq_true p331; replace q331 := eq_true q331) | (go_at_call 16; (with_reducible refine (quorumref8_Pend.calls kj61 _ _ ((rd_T34 y300 x9_4).f0) _ _ ((rd_T34 y300 x9_4).f1) false _ ?side1 ?side2 ?side3 ?side4 A88.out).mono ?_); (case side1 => repeat (first | exact (by repeat (first | (with_reducible exact HR331_0.out) | (with_reducible refine Kd.C_alloc ?_ _) | (with_reducible refine Kd.C_drewN ?_ _) | (with_reducible refine Kd.C_drew ?_) | exact HR331_0.out)) | (with_reducible refine Kd.C_alloc ?_ _) | (with_reducible refine Kd.C_drewN ?_ _) | (with_reducible refine Kd.C_drew ?_))); (case side2 => exact HC331_0.out); (case side3 => repeat (first | exact (by repeat (first | (with_reducible exact HR331_1.out) | (with_reducible refine Kd.C_alloc ?_ _) | (with_reducible refine Kd.C_drewN ?_ _) | (with_reducible refine Kd.C_drew ?_) | exact HR331_1.out)) | (with_reducible refine Kd.C_alloc ?_ _) | (with_reducible refine Kd.C_drewN ?_ _) | (with_reducible refine Kd.C_drew ?_))); (case side4 => exact HC331_1.out); rintro e w100 ⟨rfl, hb⟩; replace HO_3 := mk0 (Kd.N_below (nn_ HO_3) hb); replace HO_4 := mk0 (Kd.R_below (r_ HO_4) hb); replace HO_296001 := mk0 (Kd.V_below (v_ HO_296001) hb); replace HL317_0 := mk0 (Kd.V_below (v_ HL317_0) hb); replace HL317_1 := mk0 (Kd.V_below (v_ HL317_1) hb); replace HO320 := mk0 (Kd.R_below (r_ HO320) hb); replace HO323 := mk0 (Kd.R_below (r_ HO323) hb); replace HO328 := mk0 (Kd.R_below (r_ HO328) hb); replace HL331_0 := mk0 (Kd.V_below (v_ HL331_0) hb); replace HL331_1 := mk0 (Kd.V_below (v_ HL331_1) hb); replace BK295 := mk0 (u_ BK295 hb); replace BK310 := mk0 (u_ BK310 hb); replace BK324 := mk0 (u_ BK324 hb); replace HR331_0 := mk0 (Kd.C_below (by (with_reducible repeat (first | refine Kd.C_drewN ?_ _ | refine Kd.C_drew ?_ | refine Kd.C_alloc ?_ _)); exact HR331_0.out) hb); replace HR331_1 := mk0 (Kd.C_below (by (with_reducible repeat (first | refine Kd.C_drewN ?_ _ | refine Kd.C_drew ?_ | refine Kd.C_alloc ?_ _)); exact HR331_1.out) hb); replace HB := mk0 (bt_ (b_ HB) hb); (try clear hb)))
   go_meet
   case rel => exact ⟨_, (false), (by first | rfl | (simp; done) | (simp [*]; done)), H', ⟨by have := HK1.out; have := HJ19.out; have := HK3.out; have := HK4.out; have := HJ56.out; have := HK6.out; have := HJ61.out; first | omega | exact Nat.le_refl _⟩, ⟨by (with_reducible repeat (first | apply Kd.N_alloc | apply Kd.N_drewN | apply Kd.N_drew)); exact Kd.N_mono HO_3.out (fun _ hk => ⟨hk.1.1, ⟨hk.1.2.1, ⟨hk.2, ⟨(by simp [Value.ownBlock]), ⟨hk.1.2.2.1, ⟨hk.1.2.2.2.1, ⟨hk.1.2.2.2.2.1, ⟨hk.1.2.2.2.2.2.1, hk.1.2.2.2.2.2.2⟩⟩⟩⟩⟩⟩⟩⟩)⟩, ⟨by (with_reducible repeat (first | apply Ra_ | apply Rn_ | apply Rd_)); exact HO_4.out⟩, ⟨by (with_reducible repeat (first | apply Ra_ | apply Rn_ | apply Rd_)); exact Kd.R_mono HO328.out (fun _ hk => ⟨hk.1, (by simp [Value.ownBlock])⟩)⟩, ⟨by first | exact Kd.R_nil _ _ _ _ _ | exact Kd.N_nil _ _ _ _ _ | exact Kd.V_nil _ _ _ _ _ | exact Kd.Q_nil _ _ _ _ _ | exact Kd.S_nil _ _ _ _ _⟩, ⟨by (with_reducible repeat (first | apply Kd.V_alloc | apply Kd.V_drewN | apply Kd.V_drew)); exact Kd.V_mono HO_296001.out (fun _ hk => ⟨hk.1.1, ⟨hk.1.2.1, ⟨hk.1.2.2.1, ⟨hk.2, ⟨(by simp [Value.ownBlock]), ⟨hk.1.2.2.2.1, ⟨hk.1.2.2.2.2.1, ⟨hk.1.2.2.2.2.2.1, ⟨hk.1.2.2.2.2.2.2.1, hk.1.2.2.2.2.2.2.2⟩⟩⟩⟩⟩⟩⟩⟩⟩)⟩, ⟨by (with_reducible repeat (first | apply Ra_ | apply Rn_ | apply Rd_)); exact HO320.out⟩, ⟨by (with_reducible repeat (first | apply Ra_ | apply Rn_ | apply Rd_)); exact HO323.out⟩, ⟨h_ BK295⟩, ⟨h_ BK310⟩, ⟨h_ BK324⟩, ⟨b_ HB⟩⟩
  subst c89
  rw [if_pos rfl] at H
  replace H := Option.bind_eq_some_iff.mp H
  obtain ⟨t334, A900, H⟩ := H
  try dsimp only at H
  have A90 := mk0 A900
  clear A900
  have H' := mk0 H
  clear H
  have hnb91 := NB310_295.out
  have hnc91 := NB295_310.out
  have hnb92 := NB310_324.out
  have hnc92 := NB324_310.out
  obtain ⟨hcz93_0, hcz93_1, hcz93_2, hcz93_3, hcz93_4, hcz93_5, hcz93_6, hcz93_7, hcz93_8, hfz93_0, hfz93_1, hfz93_2, hfz93_3, hfz93_4, hfz93_5, hfz93_6, hfz93_7, hfz93_8⟩ := c9_ BK310
  go_wp2_with (first | ((with_reducible refine gate_callee (f := 103) rfl ?_); refine gL_ (some 102) Try.func103 #[.agg #[.int .i64 ((rd_T101 l0_0 x5_1).f0), .int .i64 ((rd_T101 l0_0 x5_1).f1), .string ((rd_T101 l0_0 x5_1).f2), .string ((rd_T101 l0_0 x5_1).f3), .string ((rd_T101 l0_0 x5_1).f4.f0), .string ((rd_T101 l0_0 x5_1).f4.f1), .bool ((rd_T101 l0_0 x5_1).f4.f2), .int .i64 ((rd_T101 l0_0 x5_1).f5), .bool ((rd_T101 l0_0 x5_1).f6)], .int .i64 3] (h := ?_); (with_reducible refine (quorumref12_Op.calls ((rd_T101 l0_0 x5_1).f0) ((rd_T101 l0_0 x5_1).f1) ((rd_T101 l0_0 x5_1).f2) ((rd_T101 l0_0 x5_1).f3) ((rd_T101 l0_0 x5_1).f4.f0) ((rd_T101 l0_0 x5_1).f4.f1) ((rd_T101 l0_0 x5_1).f4.f2) ((rd_T101 l0_0 x5_1).f5) ((rd_T101 l0_0 x5_1).f6) 3 true _ A86.out).mono ?_); rintro e w94 ⟨rfl, hb⟩; refine ⟨_, rfl, ?_⟩; replace HO_3 := mk0 (Kd.N_below (nn_ HO_3) hb); replace HO_4 := mk0 (Kd.R_below (r_ HO_4) hb); replace HO_296001 := mk0 (Kd.V_below (v_ HO_296001) hb); replace HL317_0 := mk0 (Kd.V_below (v_ HL317_0) hb); replace HL317_1 := mk0 (Kd.V_below (v_ HL317_1) hb); replace HO320 := mk0 (Kd.R_below (r_ HO320) hb); replace HO323 := mk0 (Kd.R_below (r_ HO323) hb); replace HO328 := mk0 (Kd.R_below (r_ HO328) hb); replace BK295 := mk0 (u_ BK295 hb); replace BK310 := mk0 (u_ BK310 hb); replace BK324 := mk0 (u_ BK324 hb); replace HB := mk0 (bt_ (b_ HB) hb); (try clear hb); have p331 : 0 ≤ (x9_4 : Int) := of_decide_eq_true (by first | (with_reducible assumption) | assumption); have q331 : x9_4 < (y300.length : Int) := of_decide_eq_true (by first | (with_reducible assumption) | assumption); obtain ⟨ad331, A331_0, c331_0, A331_1, c331_1, e331, hx331_0, hx331_1, hl331_0, hi331_0, hl331_1, hi331_1⟩ := at_T34 (Kd.N_reads' HO_3.out).2.2 x9_4 p331 q331; obtain rfl : ad317 = ad331 := (by injection e331); obtain ⟨ce331, hce331, hMe331, hcc331⟩ := Kd.N_get HO_3.out z34 x9_4 p331 (by first | exact q331 | exact of_decide_eq_true (by first | (with_reducible assumption) | assumption) | (have e_ := (Kd.N_reads' HO_3.out).1; omega)); obtain ⟨ua331_0, uc331_0, ua331_1, uc331_1, rfl, ul331_0, ge331_0, ul331_1, ge331_1⟩ := k34_openF hMe331; have hv331_0 := hcc331 0 _ rfl; rw [Nat.add_zero] at hv331_0; replace hv331_0 := Option.some.inj (hv331_0.symm.trans hx331_0); injection hv331_0 with hva_ hvn_ hvc_; rw [hva_] at ge331_0; rw [hvc_] at ul331_0; have HL331_0 := mk0 (show Kd.V k36 36 _ w.heap.size _ _ ((rd_T34 y300 x9_4).f0) from Kd.V_mk ul331_0 ge331_0); clear hva_ hvn_ hvc_ ge331_0 ul331_0; have hv331_1 := hcc331 1 _ rfl; rw [add_field _ _ 1 (by omega)] at hv331_1; replace hv331_1 := Option.some.inj (hv331_1.symm.trans hx331_1); injection hv331_1 with hva_ hvn_ hvc_; rw [hva_] at ge331_1; rw [hvc_] at ul331_1; have HL331_1 := mk0 (show Kd.V (Kd.int .i64) 3 _ w.heap.size _ _ ((rd_T34 y300 x9_4).f1) from Kd.V_mk ul331_1 ge331_1); clear hva_ hvn_ hvc_ ge331_1 ul331_1 hcc331 hce331; have HR331_0 := mk0 hi331_0; have HC331_0 := mk0 hl331_0; clear hi331_0 hl331_0; have HR331_1 := mk0 hi331_1; have HC331_1 := mk0 hl331_1; clear hi331_1 hl331_1; replace p331 := eq_true p331; replace q331 := eq_true q331) | (go_at_call 16; (with_reducible refine (quorumref8_Pend.calls kj61 _ _ ((rd_T34 y300 x9_4).f0) _ _ ((rd_T34 y300 x9_4).f1) true _ ?side1 ?side2 ?side3 ?side4 A88.out).mono ?_); (case side1 => repeat (first | exact (by repeat (first | (with_reducible exact HR331_0.out) | (with_reducible refine Kd.C_alloc ?_ _) | (with_reducible refine Kd.C_drewN ?_ _) | (with_reducible refine Kd.C_drew ?_) | exact HR331_0.out)) | (with_reducible refine Kd.C_alloc ?_ _) | (with_reducible refine Kd.C_drewN ?_ _) | (with_reducible refine Kd.C_drew ?_))); (case side2 => exact HC331_0.out); (case side3 => repeat (first | exact (by repeat (first | (with_reducible exact HR331_1.out) | (with_reducible refine Kd.C_alloc ?_ _) | (with_reducible refine Kd.C_drewN ?_ _) | (with_reducible refine Kd.C_drew ?_) | exact HR331_1.out)) | (with_reducible refine Kd.C_alloc ?_ _) | (with_reducible refine Kd.C_drewN ?_ _) | (with_reducible refine Kd.C_drew ?_))); (case side4 => exact HC331_1.out); rintro e w95 ⟨rfl, hb⟩; replace HO_3 := mk0 (Kd.N_below (nn_ HO_3) hb); replace HO_4 := mk0 (Kd.R_below (r_ HO_4) hb); replace HO_296001 := mk0 (Kd.V_below (v_ HO_296001) hb); replace HL317_0 := mk0 (Kd.V_below (v_ HL317_0) hb); replace HL317_1 := mk0 (Kd.V_below (v_ HL317_1) hb); replace HO320 := mk0 (Kd.R_below (r_ HO320) hb); replace HO323 := mk0 (Kd.R_below (r_ HO323) hb); replace HO328 := mk0 (Kd.R_below (r_ HO328) hb); replace HL331_0 := mk0 (Kd.V_below (v_ HL331_0) hb); replace HL331_1 := mk0 (Kd.V_below (v_ HL331_1) hb); replace BK295 := mk0 (u_ BK295 hb); replace BK310 := mk0 (u_ BK310 hb); replace BK324 := mk0 (u_ BK324 hb); replace HR331_0 := mk0 (Kd.C_below (by (with_reducible repeat (first | refine Kd.C_drewN ?_ _ | refine Kd.C_drew ?_ | refine Kd.C_alloc ?_ _)); exact HR331_0.out) hb); replace HR331_1 := mk0 (Kd.C_below (by (with_reducible repeat (first | refine Kd.C_drewN ?_ _ | refine Kd.C_drew ?_ | refine Kd.C_alloc ?_ _)); exact HR331_1.out) hb); replace HB := mk0 (bt_ (b_ HB) hb); (try clear hb); have p333 : 0 ≤ (x10_6 : Int) := of_decide_eq_true (by first | (with_reducible assumption) | assumption); have q333 : x10_6 < (y306.length : Int) := of_decide_eq_true (by first | (with_reducible assumption) | assumption); obtain ⟨ad333, e333, hx333_0⟩ := Kd.at_int (Kd.R_reads' HO_4.out).2.2 x10_6 p333 q333; obtain rfl : ad325 = ad333 := (by injection e333); replace p333 := eq_true p333; replace q333 := eq_true q333) | (go_at_call 39; (with_reducible refine (quorumref0_Num.calls (rd y306 x10_6) 1073741824 t334 _ A90.out).mono ?_); rintro e w' ⟨rfl, ⟨nd, rfl⟩⟩))
  go_meet
  case rel => exact ⟨_, (t334), (by first | rfl | (simp; done) | (simp [*]; done)), H', ⟨by have := HK1.out; have := HJ19.out; have := HK3.out; have := HK4.out; have := HJ56.out; have := HK6.out; have := HJ61.out; first | omega | exact Nat.le_refl _⟩, ⟨by (with_reducible repeat (first | apply Kd.N_alloc | apply Kd.N_drewN | apply Kd.N_drew)); exact Kd.N_mono HO_3.out (fun _ hk => ⟨hk.1.1, ⟨hk.1.2.1, ⟨hk.2, ⟨(by simp [Value.ownBlock]), ⟨hk.1.2.2.1, ⟨hk.1.2.2.2.1, ⟨hk.1.2.2.2.2.1, ⟨hk.1.2.2.2.2.2.1, hk.1.2.2.2.2.2.2⟩⟩⟩⟩⟩⟩⟩⟩)⟩, ⟨by (with_reducible repeat (first | apply Ra_ | apply Rn_ | apply Rd_)); exact HO_4.out⟩, ⟨by (with_reducible repeat (first | apply Ra_ | apply Rn_ | apply Rd_)); exact Kd.R_mono HO328.out (fun _ hk => ⟨hk.1, (by simp [Value.ownBlock])⟩)⟩, ⟨by first | exact Kd.R_nil _ _ _ _ _ | exact Kd.N_nil _ _ _ _ _ | exact Kd.V_nil _ _ _ _ _ | exact Kd.Q_nil _ _ _ _ _ | exact Kd.S_nil _ _ _ _ _⟩, ⟨by (with_reducible repeat (first | apply Kd.V_alloc | apply Kd.V_drewN | apply Kd.V_drew)); exact Kd.V_mono HO_296001.out (fun _ hk => ⟨hk.1.1, ⟨hk.1.2.1, ⟨hk.1.2.2.1, ⟨hk.2, ⟨(by simp [Value.ownBlock]), ⟨hk.1.2.2.2.1, ⟨hk.1.2.2.2.2.1, ⟨hk.1.2.2.2.2.2.1, ⟨hk.1.2.2.2.2.2.2.1, hk.1.2.2.2.2.2.2.2⟩⟩⟩⟩⟩⟩⟩⟩⟩)⟩, ⟨by (with_reducible repeat (first | apply Ra_ | apply Rn_ | apply Rd_)); exact HO320.out⟩, ⟨by (with_reducible repeat (first | apply Ra_ | apply Rn_ | apply Rd_)); exact HO323.out⟩, ⟨h_ BK295⟩, ⟨h_ BK310⟩, ⟨h_ BK324⟩, ⟨b_ HB⟩⟩
 clear HC73
 try clear c2
 try clear c3
 try clear c7
 try clear c8
 try clear c21
 try clear c21b0
 try clear c24
 try clear c25
 try clear c25b0
 try clear c26
 try clear c26b0
 try clear c31
 try clear c31b0
 try clear c34
 try clear c41
 try clear c41b0
 try clear c41b1
 try clear c41b2
 try clear c50
 try clear c50b0
 try clear c50b1
 try clear c50b2
 try clear c58
 try clear c58b0
 try clear c61
 try clear c63
 try clear c63b0
 try clear c66
 try clear c67
 try clear c67b0
 try clear c68
 try clear c68b0
 try clear c70
 try clear c70b0
 try clear c71
 try clear c71b0
 try clear c87
 try clear c89
 try clear hcz103_0 hcz103_1 hcz103_2 hcz103_3 hcz103_4 hcz103_5 hcz103_6 hcz103_7 hcz103_8 hfz103_0 hfz103_1 hfz103_2 hfz103_3 hfz103_4 hfz103_5 hfz103_6 hfz103_7 hfz103_8
 try clear hcz10_0 hcz10_1 hcz10_2 hfz10_0 hfz10_1 hfz10_2
 try clear hcz14_0 hcz14_1 hcz14_2 hfz14_0 hfz14_1 hfz14_2
 try clear hcz18_0 hcz18_1 hcz18_2 hfz18_0 hfz18_1 hfz18_2
 try clear hcz22_0 hcz22_1 hcz22_2 hfz22_0 hfz22_1 hfz22_2
 try clear hcz23_0 hcz23_1 hcz23_2 hfz23_0 hfz23_1 hfz23_2
 try clear hcz27_0 hcz27_1 hcz27_2 hfz27_0 hfz27_1 hfz27_2
 try clear hcz30_0 hcz30_1 hcz30_2 hcz30_3 hcz30_4 hcz30_5 hcz30_6 hcz30_7 hcz30_8 hfz30_0 hfz30_1 hfz30_2 hfz30_3 hfz30_4 hfz30_5 hfz30_6 hfz30_7 hfz30_8
 try clear hcz37_0 hcz37_1 hcz37_2 hcz37_3 hcz37_4 hcz37_5 hcz37_6 hcz37_7 hcz37_8 hfz37_0 hfz37_1 hfz37_2 hfz37_3 hfz37_4 hfz37_5 hfz37_6 hfz37_7 hfz37_8
 try clear hcz43_0 hcz43_1 hcz43_2 hcz43_3 hcz43_4 hcz43_5 hcz43_6 hcz43_7 hcz43_8 hfz43_0 hfz43_1 hfz43_2 hfz43_3 hfz43_4 hfz43_5 hfz43_6 hfz43_7 hfz43_8
 try clear hcz46_0 hcz46_1 hcz46_2 hcz46_3 hcz46_4 hcz46_5 hcz46_6 hcz46_7 hcz46_8 hfz46_0 hfz46_1 hfz46_2 hfz46_3 hfz46_4 hfz46_5 hfz46_6 hfz46_7 hfz46_8
 try clear hcz5_0 hcz5_1 hcz5_2 hfz5_0 hfz5_1 hfz5_2
 try clear hcz80_0 hcz80_1 hfz80_0 hfz80_1
 try clear hcz93_0 hcz93_1 hcz93_2 hcz93_3 hcz93_4 hcz93_5 hcz93_6 hcz93_7 hcz93_8 hfz93_0 hfz93_1 hfz93_2 hfz93_3 hfz93_4 hfz93_5 hfz93_6 hfz93_7 hfz93_8
 try clear hcz98_0 hcz98_1 hcz98_2 hcz98_3 hcz98_4 hcz98_5 hcz98_6 hcz98_7 hcz98_8 hfz98_0 hfz98_1 hfz98_2 hfz98_3 hfz98_4 hfz98_5 hfz98_6 hfz98_7 hfz98_8
 try clear hx309_0 hx309_1 hx309_2 hx309_3 hx309_4 hx309_5 hx309_6 hx309_7 hx309_8
 try clear hx317_0 hx317_1
 try clear hx325_0
 try clear hx331_0 hx331_1
 try clear hx333_0
 try clear p309
 try clear p317
 try clear p325
 try clear p331
 try clear p333
 try clear q309
 try clear q317
 try clear q325
 try clear q331
 try clear q333
 obtain ⟨kq, x116_72, rfl, HA, HJ72, HO_3, HO_4, HO_12, HO_15, HO_296001, HO_325000, HO_325001, BK295, BK310, BK324, HB⟩ := hcut
 cases kq with
 | zero => exact absurd HA.out (by simp [quorumlaw12_PlanLocks.j8])
 | succ kj72 =>
 have H := HA.out
 clear HA
 simp only [quorumlaw12_PlanLocks.j8] at H
 focus
 have HC105 := mk0 H
 clear H
 go_upto_if 116 with (fail)
 go_cut [14, 15] (fun v14 v15 wc => ∃ (kq : Nat) (x14_104 : Int) (x15_104 : List (S191)), v14 = .int .i64 x14_104 ∧ Fc (quorumlaw12_PlanLocks.j9 kq y300 y306 x5_1 x9_4 x10_6 t326 t329 x14_104 x15_104 l0_0 l0_1 l0_2 ((rd_T101 l0_0 x5_1).f0) ((rd_T101 l0_0 x5_1).f1) ((rd_T101 l0_0 x5_1).f2) ((rd_T101 l0_0 x5_1).f3) ((rd_T101 l0_0 x5_1).f4.f0) ((rd_T101 l0_0 x5_1).f4.f1) ((rd_T101 l0_0 x5_1).f4.f2) ((rd_T101 l0_0 x5_1).f5) ((rd_T101 l0_0 x5_1).f6) t318 t321 = some r) ∧ Fc (kq ≤ kj72) ∧ Fc (Kd.N k34 34 wc w.heap.size (fun k_ => (P0_1_ k_ ∨ w.heap.size ≤ k_) ∧ some k_ ≠ ((.slice (some ad325) y306.length co84) : Value).ownBlock ∧ some k_ ≠ (v327 : Value).ownBlock ∧ some k_ ≠ (v15 : Value).ownBlock ∧ some k_ ≠ ((.slice Ao77 t318.length co77) : Value).ownBlock ∧ some k_ ≠ ((.slice Ao81 t321.length co81) : Value).ownBlock ∧ k_ ≠ gb295 ∧ k_ ≠ gb310 ∧ k_ ≠ gb324) (.slice (some ad317) y300.length co74) y300) ∧ Fc (Kd.R (Kd.int .i64) 3 wc w.heap.size (fun k_ => (w.heap.size ≤ k_) ∧ some k_ ≠ ((.slice Ao81 t321.length co81) : Value).ownBlock) (.slice (some ad325) y306.length co84) y306) ∧ Fc (Kd.R k191 191 wc w.heap.size (fun k_ => (w.heap.size ≤ k_) ∧ some k_ ≠ (v15 : Value).ownBlock) v327 t326) ∧ Fc (Kd.R k191 191 wc w.heap.size (fun k_ => (w.heap.size ≤ k_) ∧ some k_ ≠ (v327 : Value).ownBlock) v15 x15_104) ∧ Fc (Kd.V k34 34 wc w.heap.size (fun k_ => (P0_1_ k_ ∨ w.heap.size ≤ k_) ∧ some k_ ≠ ((.slice (some ad317) y300.length co74) : Value).ownBlock ∧ some k_ ≠ ((.slice (some ad325) y306.length co84) : Value).ownBlock ∧ some k_ ≠ (v327 : Value).ownBlock ∧ some k_ ≠ (v15 : Value).ownBlock ∧ some k_ ≠ ((.slice Ao77 t318.length co77) : Value).ownBlock ∧ some k_ ≠ ((.slice Ao81 t321.length co81) : Value).ownBlock ∧ k_ ≠ gb295 ∧ k_ ≠ gb310 ∧ k_ ≠ gb324) (.slice A0_1 l0_1.length c0_1) l0_1) ∧ Fc (Kd.R k36 36 wc w.heap.size (fun k_ => (w.heap.size ≤ k_)) (.slice Ao77 t318.length co77) t318) ∧ Fc (Kd.R (Kd.int .i64) 3 wc w.heap.size (fun k_ => (w.heap.size ≤ k_) ∧ some k_ ≠ ((.slice (some ad325) y306.length co84) : Value).ownBlock) (.slice Ao81 t321.length co81) t321) ∧ Fc (wc.heap[gb295]? = some (.cells #[(.slice (some ad309) l0_0.length c0_0), (.slice A0_1 l0_1.length c0_1), (.slice A0_2 l0_2.length c0_2)] 51 (0, 0))) ∧ Fc (wc.heap[gb310]? = some (.cells #[.int .i64 ((rd_T101 l0_0 x5_1).f0), .int .i64 ((rd_T101 l0_0 x5_1).f1), .string ((rd_T101 l0_0 x5_1).f2), .string ((rd_T101 l0_0 x5_1).f3), .string ((rd_T101 l0_0 x5_1).f4.f0), .string ((rd_T101 l0_0 x5_1).f4.f1), .bool ((rd_T101 l0_0 x5_1).f4.f2), .int .i64 ((rd_T101 l0_0 x5_1).f5), .bool ((rd_T101 l0_0 x5_1).f6)] 101 (0, 0))) ∧ Fc (wc.heap[gb324]? = some (.cells #[(.slice Ao77 t318.length co77), (.slice Ao81 t321.length co81)] 34 (0, 0))) ∧ Fc (Below w.heap.size w wc))
 case first =>
  have H := HC105.out
  clear HC105
  by_cases c106 : x116_72 = true
  rotate_left
  ·replace c106 := Bool.eq_false_iff.mpr c106
   subst c106
   rw [if_neg (show ¬ (false = true) by decide)] at H
   have H' := mk0 H
   clear H
   go_wp2
   go_meet
   case rel => exact ⟨_, (1), (([] : List (S191))), (by first | rfl | (simp; done) | (simp [*]; done)), H', ⟨by have := HK1.out; have := HJ19.out; have := HK3.out; have := HK4.out; have := HJ56.out; have := HK6.out; have := HJ61.out; have := HJ72.out; first | omega | exact Nat.le_refl _⟩, ⟨by (with_reducible repeat (first | apply Kd.N_alloc | apply Kd.N_drewN | apply Kd.N_drew)); exact HO_3.out⟩, ⟨by (with_reducible repeat (first | apply Ra_ | apply Rn_ | apply Rd_)); exact HO_4.out⟩, ⟨by (with_reducible repeat (first | apply Ra_ | apply Rn_ | apply Rd_)); exact HO_12.out⟩, ⟨by (with_reducible repeat (first | apply Ra_ | apply Rn_ | apply Rd_)); exact HO_15.out⟩, ⟨by (with_reducible repeat (first | apply Kd.V_alloc | apply Kd.V_drewN | apply Kd.V_drew)); exact HO_296001.out⟩, ⟨by (with_reducible repeat (first | apply Ra_ | apply Rn_ | apply Rd_)); exact HO_325000.out⟩, ⟨by (with_reducible repeat (first | apply Ra_ | apply Rn_ | apply Rd_)); exact HO_325001.out⟩, ⟨h_ BK295⟩, ⟨h_ BK310⟩, ⟨h_ BK324⟩, ⟨b_ HB⟩⟩
  subst c106
  rw [if_pos rfl] at H
  by_cases c107 : 0 ≤ x9_4
  rotate_left
  ·rw [if_neg c107] at H
   exact absurd H (by simp)
  rw [if_pos c107] at H
  have c107b0 : decide (0 ≤ x9_4) = true := decide_eq_true c107
  clear c107
  (first | rw [c107b0] | (simp only [i64_w, i32_w]; rw [c107b0]) | skip)
  by_cases c108 : x9_4 < (y300.length : Int)
  rotate_left
  ·rw [if_neg c108] at H
   exact absurd H (by simp)
  rw [if_pos c108] at H
  have c108b0 : decide (x9_4 < (y300.length : Int)) = true := decide_eq_true c108
  clear c108
  by_cases c109 : 0 ≤ x10_6
  rotate_left
  ·rw [if_neg c109] at H
   exact absurd H (by simp)
  rw [if_pos c109] at H
  have c109b0 : decide (0 ≤ x10_6) = true := decide_eq_true c109
  clear c109
  by_cases c110 : x10_6 < (y306.length : Int)
  rotate_left
  ·rw [if_neg c110] at H
   exact absurd H (by simp)
  rw [if_pos c110] at H
  have c110b0 : decide (x10_6 < (y306.length : Int)) = true := decide_eq_true c110
  clear c110
  replace H := Option.bind_eq_some_iff.mp H
  obtain ⟨t337, A1110, H⟩ := H
  try dsimp only at H
  have A111 := mk0 A1110
  clear A1110
  have H' := mk0 H
  clear H
  try go_wp2
  replace HO_3 := mk0 (Kd.N_drew HO_3.out)
  replace HO_4 := mk0 (Rd_ HO_4.out)
  replace HO_12 := mk0 (Rd_ HO_12.out)
  replace HO_15 := mk0 (Rd_ HO_15.out)
  replace HO_296001 := mk0 (Kd.V_drew HO_296001.out)
  replace HO_325000 := mk0 (Rd_ HO_325000.out)
  replace HO_325001 := mk0 (Rd_ HO_325001.out)
  replace BK295 := mk0 (bD_ BK295.out)
  replace BK310 := mk0 (bD_ BK310.out)
  replace BK324 := mk0 (bD_ BK324.out)
  replace HB := mk0 (b1_ HB.out)
  have p335 : 0 ≤ (x9_4 : Int) := of_decide_eq_true (by first | (with_reducible assumption) | assumption)
  have q335 : x9_4 < (y300.length : Int) := of_decide_eq_true (by first | (with_reducible assumption) | assumption)
  obtain ⟨ad335, A335_0, c335_0, A335_1, c335_1, e335, hx335_0, hx335_1, hl335_0, hi335_0, hl335_1, hi335_1⟩ := at_T34 (Kd.N_reads' HO_3.out).2.2 x9_4 p335 q335
  obtain rfl : ad317 = ad335 := (by injection e335)
  obtain ⟨ce335, hce335, hMe335, hcc335⟩ := Kd.N_get HO_3.out z34 x9_4 p335 (by first | exact q335 | exact of_decide_eq_true (by first | (with_reducible assumption) | assumption) | (have e_ := (Kd.N_reads' HO_3.out).1; omega))
  obtain ⟨ua335_0, uc335_0, ua335_1, uc335_1, rfl, ul335_0, ge335_0, ul335_1, ge335_1⟩ := k34_openF hMe335
  have hv335_0 := hcc335 0 _ rfl
  rw [Nat.add_zero] at hv335_0
  replace hv335_0 := Option.some.inj (hv335_0.symm.trans hx335_0)
  injection hv335_0 with hva_ hvn_ hvc_
  rw [hva_] at ge335_0
  rw [hvc_] at ul335_0
  have HL335_0 := mk0 (show Kd.V k36 36 _ w.heap.size _ _ ((rd_T34 y300 x9_4).f0) from Kd.V_mk ul335_0 ge335_0)
  clear hva_ hvn_ hvc_ ge335_0 ul335_0
  have hv335_1 := hcc335 1 _ rfl
  rw [add_field _ _ 1 (by omega)] at hv335_1
  replace hv335_1 := Option.some.inj (hv335_1.symm.trans hx335_1)
  injection hv335_1 with hva_ hvn_ hvc_
  rw [hva_] at ge335_1
  rw [hvc_] at ul335_1
  have HL335_1 := mk0 (show Kd.V (Kd.int .i64) 3 _ w.heap.size _ _ ((rd_T34 y300 x9_4).f1) from Kd.V_mk ul335_1 ge335_1)
  clear hva_ hvn_ hvc_ ge335_1 ul335_1 hcc335 hce335
  have HR335_0 := mk0 hi335_0
  have HC335_0 := mk0 hl335_0
  clear hi335_0 hl335_0
  have HR335_1 := mk0 hi335_1
  have HC335_1 := mk0 hl335_1
  clear hi335_1 hl335_1
  replace p335 := eq_true p335
  replace q335 := eq_true q335
  have p336 : 0 ≤ (x10_6 : Int) := of_decide_eq_true (by first | (with_reducible assumption) | assumption)
  have q336 : x10_6 < (y306.length : Int) := of_decide_eq_true (by first | (with_reducible assumption) | assumption)
  obtain ⟨ad336, e336, hx336_0⟩ := Kd.at_int (Kd.R_reads' HO_4.out).2.2 x10_6 p336 q336
  obtain rfl : ad325 = ad336 := (by injection e336)
  replace p336 := eq_true p336
  replace q336 := eq_true q336
  refine start_ (n := 12) (S := fun w' => w'.cell? ⟨gb310, 0, none⟩ = some (.int .i64 ((rd_T101 l0_0 x5_1).f0)) ∧ w'.cell? ⟨gb310, 1, none⟩ = some (.int .i64 ((rd_T101 l0_0 x5_1).f1)) ∧ w'.cell? ⟨gb310, 2, none⟩ = some (.string ((rd_T101 l0_0 x5_1).f2)) ∧ w'.cell? ⟨gb310, 3, none⟩ = some (.string ((rd_T101 l0_0 x5_1).f3)) ∧ w'.cell? ⟨gb310, 4, none⟩ = some (.string ((rd_T101 l0_0 x5_1).f4.f0)) ∧ w'.cell? ⟨gb310, 5, none⟩ = some (.string ((rd_T101 l0_0 x5_1).f4.f1)) ∧ w'.cell? ⟨gb310, 6, none⟩ = some (.bool ((rd_T101 l0_0 x5_1).f4.f2)) ∧ w'.cell? ⟨gb310, 7, none⟩ = some (.int .i64 ((rd_T101 l0_0 x5_1).f5)) ∧ w'.cell? ⟨gb310, 8, none⟩ = some (.bool ((rd_T101 l0_0 x5_1).f6)) ∧ w'.cell? (ad317.add ((x9_4).toNat * 2)) = some (.slice A335_0 ((rd_T34 y300 x9_4).f0).length c335_0) ∧ w'.cell? ⟨(ad317.add ((x9_4).toNat * 2)).block, (ad317.add ((x9_4).toNat * 2)).off + 1, none⟩ = some (.slice A335_1 ((rd_T34 y300 x9_4).f1).length c335_1) ∧ w'.cell? (ad325.add (x10_6).toNat) = some (.int .i64 (rd y306 x10_6))) (ds := []) (bt 12 0) (by kernel_rfl) rfl rfl ⟨bk_ BK310 0, bk_ BK310 1, bk_ BK310 2, bk_ BK310 3, bk_ BK310 4, bk_ BK310 5, bk_ BK310 6, bk_ BK310 7, bk_ BK310 8, hx335_0, hx335_1, hx336_0⟩ (fun hHeld => ?_); refine with_tabW quorumlaw12_PlanLocks.tab28 quorumlaw12_PlanLocks.bits28 (fun HT_ HW_ => ?_)
  generalize wc.drew = w112 at HO_3 HO_4 HO_12 HO_15 HO_296001 HO_325000 HO_325001 BK295 BK310 BK324 HB HL335_0 HL335_1 HR335_0 HR335_1 hx335_0 hx335_1 hx336_0 hHeld ⊢
  refine pq_ HT_.out 1 118 (bt 12 2) (h := ?_)
  refine pq_ HT_.out 2 119 (bt 12 6) (h := ?_)
  refine pq_ HT_.out 3 120 (bt 12 14) (h := ?_)
  refine pq_ HT_.out 5 122 (bt 12 46) (h := ?_)
  refine pq_ HT_.out 6 123 (bt 12 110) (h := ?_)
  refine pq_ HT_.out 7 124 (bt 12 238) (h := ?_)
  refine tq12_ HT_.out HW_.out 0 117 (bt 12 239) hHeld (h := ?_)
  refine tq12_ HT_.out HW_.out 4 121 (bt 12 255) hHeld (h := ?_)
  refine tq12_ HT_.out HW_.out 8 125 (bt 12 511) hHeld (h := ?_)
  refine one_ (i := 9) (N := some 126) (bt 12 1023) rfl rfl (one_of HT_.out (by kernel_rfl)) (by decide) (fun K hK => ?_)
  refine goes_ Try.func107 (by kernel_rfl) rfl #[.agg #[.int .i64 ((rd_T101 l0_0 x5_1).f0), .int .i64 ((rd_T101 l0_0 x5_1).f1), .string ((rd_T101 l0_0 x5_1).f2), .string ((rd_T101 l0_0 x5_1).f3), .string ((rd_T101 l0_0 x5_1).f4.f0), .string ((rd_T101 l0_0 x5_1).f4.f1), .bool ((rd_T101 l0_0 x5_1).f4.f2), .int .i64 ((rd_T101 l0_0 x5_1).f5), .bool ((rd_T101 l0_0 x5_1).f6)], .agg #[.slice A335_0 ((rd_T34 y300 x9_4).f0).length c335_0, .slice A335_1 ((rd_T34 y300 x9_4).f1).length c335_1], .int .i64 (rd y306 x10_6)] (by rfl) rfl rfl (by (try simp only [List.map_toArray, List.map_cons, List.map_nil]); first | done | rfl | (simp only [List.length_drop, List.length_take]; rfl)) ?_
  with_reducible refine (quorumref12_Locks.calls kj72 ((rd_T101 l0_0 x5_1).f0) ((rd_T101 l0_0 x5_1).f1) ((rd_T101 l0_0 x5_1).f2) ((rd_T101 l0_0 x5_1).f3) ((rd_T101 l0_0 x5_1).f4.f0) ((rd_T101 l0_0 x5_1).f4.f1) ((rd_T101 l0_0 x5_1).f4.f2) ((rd_T101 l0_0 x5_1).f5) ((rd_T101 l0_0 x5_1).f6) _ _ ((rd_T34 y300 x9_4).f0) _ _ ((rd_T34 y300 x9_4).f1) (rd y306 x10_6) t337 _ ?side1 ?side2 ?side3 ?side4 A111.out).mono ?_
  (case side1 => repeat (first | exact (by repeat (first | (with_reducible exact HR335_0.out) | (with_reducible refine Kd.C_alloc ?_ _) | (with_reducible refine Kd.C_drewN ?_ _) | (with_reducible refine Kd.C_drew ?_) | exact HR335_0.out)) | (with_reducible refine Kd.C_alloc ?_ _) | (with_reducible refine Kd.C_drewN ?_ _) | (with_reducible refine Kd.C_drew ?_)))
  (case side2 => exact HC335_0.out)
  (case side3 => repeat (first | exact (by repeat (first | (with_reducible exact HR335_1.out) | (with_reducible refine Kd.C_alloc ?_ _) | (with_reducible refine Kd.C_drewN ?_ _) | (with_reducible refine Kd.C_drew ?_) | exact HR335_1.out)) | (with_reducible refine Kd.C_alloc ?_ _) | (with_reducible refine Kd.C_drewN ?_ _) | (with_reducible refine Kd.C_drew ?_)))
  (case side4 => exact HC335_1.out)
  rintro e w113 ⟨v338, rfl, ho0, hb⟩
  have HS9_ := (hb.cell (World.block_lt_of_cell? _ _ hHeld.2.2.2.2.2.2.2.2.2.1)).trans hHeld.2.2.2.2.2.2.2.2.2.1
  have HS10_ := (hb.cell (World.block_lt_of_cell? _ _ hHeld.2.2.2.2.2.2.2.2.2.2.1)).trans hHeld.2.2.2.2.2.2.2.2.2.2.1
  have HS11_ := (hb.cell (World.block_lt_of_cell? _ _ hHeld.2.2.2.2.2.2.2.2.2.2.2)).trans hHeld.2.2.2.2.2.2.2.2.2.2.2
  refine ⟨_, rfl, ?_⟩
  have n9_ := mk0 (Kd.R_lower (Kd.R_new' (Kd.R_new' (Kd.R_newM (M := fun k_ => (w.heap.size ≤ k_)) ho0 (bz_ (b_ HB)) (fun k_ h_ => h_)) (Kd.R_lt (r_ HO_12))) (Kd.R_lt (r_ HO_15))) (bz_ (b_ HB)))
  replace HO_3 := mk0 (Kd.N_elder' (nn_ HO_3) (Kd.R_base ho0) hb)
  replace HO_4 := mk0 (Kd.R_below (r_ HO_4) hb)
  replace HO_12 := mk0 (Kd.R_elder' (r_ HO_12) (Kd.R_base ho0) hb)
  replace HO_15 := mk0 (Kd.R_elder' (r_ HO_15) (Kd.R_base ho0) hb)
  replace HO_296001 := mk0 (Kd.V_elder' (v_ HO_296001) (Kd.R_base ho0) hb)
  replace HO_325000 := mk0 (Kd.R_below (r_ HO_325000) hb)
  replace HO_325001 := mk0 (Kd.R_below (r_ HO_325001) hb)
  replace HL335_0 := mk0 (Kd.V_elder' (v_ HL335_0) (Kd.R_base ho0) hb)
  replace HL335_1 := mk0 (Kd.V_elder' (v_ HL335_1) (Kd.R_base ho0) hb)
  replace BK295 := mk0 (u_ BK295 hb)
  replace BK310 := mk0 (u_ BK310 hb)
  replace BK324 := mk0 (u_ BK324 hb)
  replace HR335_0 := mk0 True.intro
  replace HR335_1 := mk0 True.intro
  replace HB := mk0 (bt_ (b_ HB) hb)
  have HO339 := n9_
  clear n9_
  (try clear hb)
  (try clear hb2)
  (try clear hk)
  (try clear hi)
  (try clear ho0)
  refine hK.out _ _ ⟨bk_ BK310 0, bk_ BK310 1, bk_ BK310 2, bk_ BK310 3, bk_ BK310 4, bk_ BK310 5, bk_ BK310 6, bk_ BK310 7, bk_ BK310 8, HS9_, HS10_, HS11_⟩ (fun hHeld => ?_)
  clear hK K
  refine norm_ (a' := ?_) ?_ ?_
  rotate_left
  ·show Act.put _ (some 126) _ = _
   simp only [z_]
   rfl
  refine pq_ HT_.out 10 14 (bt 12 2047) (h := ?_)
  refine pq_ HT_.out 11 15 (bt 12 4095) (h := ?_)
  refine done_ (done_of HT_.out (by kernel_rfl)) ?_
  try go_wp2
  go_meet
  case rel => exact ⟨_, (0), (t337), (by first | rfl | (simp; done) | (simp [*]; done)), H', ⟨by have := HK1.out; have := HJ19.out; have := HK3.out; have := HK4.out; have := HJ56.out; have := HK6.out; have := HJ61.out; have := HJ72.out; first | omega | exact Nat.le_refl _⟩, ⟨by (with_reducible repeat (first | apply Kd.N_alloc | apply Kd.N_drewN | apply Kd.N_drew)); exact Kd.N_mono HO_3.out (fun _ hk => ⟨hk.1.1, ⟨hk.1.2.1, ⟨hk.1.2.2.1, ⟨hk.2, ⟨hk.1.2.2.2.2.1, ⟨hk.1.2.2.2.2.2.1, ⟨hk.1.2.2.2.2.2.2.1, ⟨hk.1.2.2.2.2.2.2.2.1, hk.1.2.2.2.2.2.2.2.2⟩⟩⟩⟩⟩⟩⟩⟩)⟩, ⟨by (with_reducible repeat (first | apply Ra_ | apply Rn_ | apply Rd_)); exact HO_4.out⟩, ⟨by (with_reducible repeat (first | apply Ra_ | apply Rn_ | apply Rd_)); exact Kd.R_mono HO_12.out (fun _ hk => ⟨hk.1.1, hk.2⟩)⟩, ⟨by (with_reducible repeat (first | apply Ra_ | apply Rn_ | apply Rd_)); exact Kd.R_mono HO339.out (fun _ hk => ⟨hk.1.1.1, hk.1.2⟩)⟩, ⟨by (with_reducible repeat (first | apply Kd.V_alloc | apply Kd.V_drewN | apply Kd.V_drew)); exact Kd.V_mono HO_296001.out (fun _ hk => ⟨hk.1.1, ⟨hk.1.2.1, ⟨hk.1.2.2.1, ⟨hk.1.2.2.2.1, ⟨hk.2, ⟨hk.1.2.2.2.2.2.1, ⟨hk.1.2.2.2.2.2.2.1, ⟨hk.1.2.2.2.2.2.2.2.1, ⟨hk.1.2.2.2.2.2.2.2.2.1, hk.1.2.2.2.2.2.2.2.2.2⟩⟩⟩⟩⟩⟩⟩⟩⟩)⟩, ⟨by (with_reducible repeat (first | apply Ra_ | apply Rn_ | apply Rd_)); exact HO_325000.out⟩, ⟨by (with_reducible repeat (first | apply Ra_ | apply Rn_ | apply Rd_)); exact HO_325001.out⟩, ⟨h_ BK295⟩, ⟨h_ BK310⟩, ⟨h_ BK324⟩, ⟨b_ HB⟩⟩
 clear HC105
 try clear c2
 try clear c3
 try clear c7
 try clear c8
 try clear c21
 try clear c21b0
 try clear c24
 try clear c25
 try clear c25b0
 try clear c26
 try clear c26b0
 try clear c31
 try clear c31b0
 try clear c34
 try clear c41
 try clear c41b0
 try clear c41b1
 try clear c41b2
 try clear c50
 try clear c50b0
 try clear c50b1
 try clear c50b2
 try clear c58
 try clear c58b0
 try clear c61
 try clear c63
 try clear c63b0
 try clear c66
 try clear c67
 try clear c67b0
 try clear c68
 try clear c68b0
 try clear c70
 try clear c70b0
 try clear c71
 try clear c71b0
 try clear c87
 try clear c89
 try clear c106
 try clear c107
 try clear c107b0
 try clear c108
 try clear c108b0
 try clear c109
 try clear c109b0
 try clear c110
 try clear c110b0
 try clear hcz103_0 hcz103_1 hcz103_2 hcz103_3 hcz103_4 hcz103_5 hcz103_6 hcz103_7 hcz103_8 hfz103_0 hfz103_1 hfz103_2 hfz103_3 hfz103_4 hfz103_5 hfz103_6 hfz103_7 hfz103_8
 try clear hcz10_0 hcz10_1 hcz10_2 hfz10_0 hfz10_1 hfz10_2
 try clear hcz14_0 hcz14_1 hcz14_2 hfz14_0 hfz14_1 hfz14_2
 try clear hcz18_0 hcz18_1 hcz18_2 hfz18_0 hfz18_1 hfz18_2
 try clear hcz22_0 hcz22_1 hcz22_2 hfz22_0 hfz22_1 hfz22_2
 try clear hcz23_0 hcz23_1 hcz23_2 hfz23_0 hfz23_1 hfz23_2
 try clear hcz27_0 hcz27_1 hcz27_2 hfz27_0 hfz27_1 hfz27_2
 try clear hcz30_0 hcz30_1 hcz30_2 hcz30_3 hcz30_4 hcz30_5 hcz30_6 hcz30_7 hcz30_8 hfz30_0 hfz30_1 hfz30_2 hfz30_3 hfz30_4 hfz30_5 hfz30_6 hfz30_7 hfz30_8
 try clear hcz37_0 hcz37_1 hcz37_2 hcz37_3 hcz37_4 hcz37_5 hcz37_6 hcz37_7 hcz37_8 hfz37_0 hfz37_1 hfz37_2 hfz37_3 hfz37_4 hfz37_5 hfz37_6 hfz37_7 hfz37_8
 try clear hcz43_0 hcz43_1 hcz43_2 hcz43_3 hcz43_4 hcz43_5 hcz43_6 hcz43_7 hcz43_8 hfz43_0 hfz43_1 hfz43_2 hfz43_3 hfz43_4 hfz43_5 hfz43_6 hfz43_7 hfz43_8
 try clear hcz46_0 hcz46_1 hcz46_2 hcz46_3 hcz46_4 hcz46_5 hcz46_6 hcz46_7 hcz46_8 hfz46_0 hfz46_1 hfz46_2 hfz46_3 hfz46_4 hfz46_5 hfz46_6 hfz46_7 hfz46_8
 try clear hcz5_0 hcz5_1 hcz5_2 hfz5_0 hfz5_1 hfz5_2
 try clear hcz80_0 hcz80_1 hfz80_0 hfz80_1
 try clear hcz93_0 hcz93_1 hcz93_2 hcz93_3 hcz93_4 hcz93_5 hcz93_6 hcz93_7 hcz93_8 hfz93_0 hfz93_1 hfz93_2 hfz93_3 hfz93_4 hfz93_5 hfz93_6 hfz93_7 hfz93_8
 try clear hcz98_0 hcz98_1 hcz98_2 hcz98_3 hcz98_4 hcz98_5 hcz98_6 hcz98_7 hcz98_8 hfz98_0 hfz98_1 hfz98_2 hfz98_3 hfz98_4 hfz98_5 hfz98_6 hfz98_7 hfz98_8
 try clear hx309_0 hx309_1 hx309_2 hx309_3 hx309_4 hx309_5 hx309_6 hx309_7 hx309_8
 try clear hx317_0 hx317_1
 try clear hx325_0
 try clear hx331_0 hx331_1
 try clear hx333_0
 try clear hx335_0 hx335_1
 try clear hx336_0
 try clear p309
 try clear p317
 try clear p325
 try clear p331
 try clear p333
 try clear p335
 try clear p336
 try clear q309
 try clear q317
 try clear q325
 try clear q331
 try clear q333
 try clear q335
 try clear q336
 obtain ⟨kq, x14_104, x15_104, rfl, HA, HJ104, HO_3, HO_4, HO_12, HO_15, HO_296001, HO_325000, HO_325001, BK295, BK310, BK324, HB⟩ := hcut
 cases kq with
 | zero => exact absurd HA.out (by simp [quorumlaw12_PlanLocks.j9])
 | succ kj104 =>
 have H := HA.out
 clear HA
 simp only [quorumlaw12_PlanLocks.j9] at H
 focus
 have HC114 := mk0 H
 clear H
 go_upto_region 29 with (fail)
 go_cut [145] (fun v145 wc => ∃ (kq : Nat) (x145_113 : Bool), v145 = .bool x145_113 ∧ Fc (quorumlaw12_PlanLocks.j10 kq y300 y306 x5_1 x9_4 x10_6 t326 x145_113 l0_0 l0_1 l0_2 ((rd_T101 l0_0 x5_1).f0) ((rd_T101 l0_0 x5_1).f1) ((rd_T101 l0_0 x5_1).f2) ((rd_T101 l0_0 x5_1).f3) ((rd_T101 l0_0 x5_1).f4.f0) ((rd_T101 l0_0 x5_1).f4.f1) ((rd_T101 l0_0 x5_1).f4.f2) ((rd_T101 l0_0 x5_1).f5) ((rd_T101 l0_0 x5_1).f6) = some r) ∧ Fc (kq ≤ kj104) ∧ Fc (Kd.N k34 34 wc w.heap.size (fun k_ => (P0_1_ k_ ∨ w.heap.size ≤ k_) ∧ some k_ ≠ ((.slice (some ad325) y306.length co84) : Value).ownBlock ∧ some k_ ≠ (v327 : Value).ownBlock ∧ some k_ ≠ ((.slice Ao77 t318.length co77) : Value).ownBlock ∧ some k_ ≠ ((.slice Ao81 t321.length co81) : Value).ownBlock ∧ k_ ≠ gb295 ∧ k_ ≠ gb310 ∧ k_ ≠ gb324) (.slice (some ad317) y300.length co74) y300) ∧ Fc (Kd.R (Kd.int .i64) 3 wc w.heap.size (fun k_ => (w.heap.size ≤ k_) ∧ some k_ ≠ ((.slice Ao81 t321.length co81) : Value).ownBlock) (.slice (some ad325) y306.length co84) y306) ∧ Fc (Kd.R k191 191 wc w.heap.size (fun k_ => (w.heap.size ≤ k_)) v327 t326) ∧ Fc (Kd.V k34 34 wc w.heap.size (fun k_ => (P0_1_ k_ ∨ w.heap.size ≤ k_) ∧ some k_ ≠ ((.slice (some ad317) y300.length co74) : Value).ownBlock ∧ some k_ ≠ ((.slice (some ad325) y306.length co84) : Value).ownBlock ∧ some k_ ≠ (v327 : Value).ownBlock ∧ some k_ ≠ ((.slice Ao77 t318.length co77) : Value).ownBlock ∧ some k_ ≠ ((.slice Ao81 t321.length co81) : Value).ownBlock ∧ k_ ≠ gb295 ∧ k_ ≠ gb310 ∧ k_ ≠ gb324) (.slice A0_1 l0_1.length c0_1) l0_1) ∧ Fc (Kd.R k36 36 wc w.heap.size (fun k_ => (w.heap.size ≤ k_)) (.slice Ao77 t318.length co77) t318) ∧ Fc (Kd.R (Kd.int .i64) 3 wc w.heap.size (fun k_ => (w.heap.size ≤ k_) ∧ some k_ ≠ ((.slice (some ad325) y306.length co84) : Value).ownBlock) (.slice Ao81 t321.length co81) t321) ∧ Fc (wc.heap[gb295]? = some (.cells #[(.slice (some ad309) l0_0.length c0_0), (.slice A0_1 l0_1.length c0_1), (.slice A0_2 l0_2.length c0_2)] 51 (0, 0))) ∧ Fc (wc.heap[gb310]? = some (.cells #[.int .i64 ((rd_T101 l0_0 x5_1).f0), .int .i64 ((rd_T101 l0_0 x5_1).f1), .string ((rd_T101 l0_0 x5_1).f2), .string ((rd_T101 l0_0 x5_1).f3), .string ((rd_T101 l0_0 x5_1).f4.f0), .string ((rd_T101 l0_0 x5_1).f4.f1), .bool ((rd_T101 l0_0 x5_1).f4.f2), .int .i64 ((rd_T101 l0_0 x5_1).f5), .bool ((rd_T101 l0_0 x5_1).f6)] 101 (0, 0))) ∧ Fc (wc.heap[gb324]? = some (.cells #[(.slice Ao77 t318.length co77), (.slice Ao81 t321.length co81)] 34 (0, 0))) ∧ Fc (Below w.heap.size w wc))
 case first =>
  have H := HC114.out
  clear HC114
  replace H := Option.bind_eq_some_iff.mp H
  obtain ⟨t340, A1150, H⟩ := H
  try dsimp only at H
  have A115 := mk0 A1150
  clear A1150
  by_cases c116 : t340 = x14_104
  rotate_left
  ·rw [if_neg c116] at H
   have c116b0 : (t340 == x14_104) = false := beq_eq_false_iff_ne.mpr c116
   have c116b1 : (t340 != x14_104) = true := bne_iff_ne.mpr c116
   (first | rw [c116b0] | (simp only [i64_w, i32_w]; rw [c116b0]) | skip)
   have H' := mk0 H
   clear H
   try go_wp2
   replace HO_3 := mk0 (Kd.N_drew HO_3.out)
   replace HO_4 := mk0 (Rd_ HO_4.out)
   replace HO_12 := mk0 (Rd_ HO_12.out)
   replace HO_15 := mk0 (Rd_ HO_15.out)
   replace HO_296001 := mk0 (Kd.V_drew HO_296001.out)
   replace HO_325000 := mk0 (Rd_ HO_325000.out)
   replace HO_325001 := mk0 (Rd_ HO_325001.out)
   replace BK295 := mk0 (bD_ BK295.out)
   replace BK310 := mk0 (bD_ BK310.out)
   replace BK324 := mk0 (bD_ BK324.out)
   replace HB := mk0 (b1_ HB.out)
   refine start_ (n := 19) (S := fun w' => True) (ds := []) (bt 19 0) (by kernel_rfl) rfl rfl trivial (fun hHeld => ?_); refine with_tabW quorumlaw12_PlanLocks.tab29 quorumlaw12_PlanLocks.bits29 (fun HT_ HW_ => ?_)
   generalize wc.drew = w129 at HO_3 HO_4 HO_12 HO_15 HO_296001 HO_325000 HO_325001 BK295 BK310 BK324 HB hHeld ⊢
   refine pq_ HT_.out 0 127 (bt 19 1) (h := ?_)
   refine pq_ HT_.out 2 129 (bt 19 5) (h := ?_)
   refine one_ (i := 1) (N := some 128) (bt 19 7) rfl rfl (one_of HT_.out (by kernel_rfl)) (by decide) (fun K hK => ?_)
   refine goes_ Try.func104 (by kernel_rfl) rfl #[.int .i64 t329] (by rfl) rfl rfl (by (try simp only [List.map_toArray, List.map_cons, List.map_nil]); first | done | rfl | (simp only [List.length_drop, List.length_take]; rfl)) ?_
   with_reducible refine (quorumlaw12_num.calls t329 t340 _ A115.out).mono ?_
   rintro e w' ⟨rfl, ⟨nd, rfl⟩⟩
   refine ⟨_, rfl, ?_⟩
   refine hK.out _ _ trivial (fun hHeld => ?_)
   clear hK K
   refine norm_ (a' := ?_) ?_ ?_
   rotate_left
   ·show Act.put _ (some 128) _ = _
    simp only [z_]
    rfl
   refine pq_ HT_.out 3 130 (bt 19 15) (h := ?_)
   refine pq_ HT_.out 4 131 (bt 19 31) (h := ?_)
   refine uq_ HT_.out 5 132 (bt 19 63) (h := ?_)
   refine uq_ HT_.out 6 133 (bt 19 127) (h := ?_)
   refine uq_ HT_.out 7 134 (bt 19 255) (h := ?_)
   refine uq_ HT_.out 8 135 (bt 19 511) (h := ?_)
   refine pq_ HT_.out 9 136 (bt 19 1023) (h := ?_)
   refine pq_ HT_.out 10 137 (bt 19 2047) (h := ?_)
   refine uq_ HT_.out 11 138 (bt 19 4095) (h := ?_)
   refine uq_ HT_.out 12 139 (bt 19 8191) (h := ?_)
   refine uq_ HT_.out 13 140 (bt 19 16383) (h := ?_)
   refine uq_ HT_.out 14 141 (bt 19 32767) (h := ?_)
   refine uq_ HT_.out 15 142 (bt 19 65535) (h := ?_)
   refine uq_ HT_.out 16 143 (bt 19 131071) (h := ?_)
   refine uq_ HT_.out 17 144 (bt 19 262143) (h := ?_)
   refine pq_ HT_.out 18 145 (bt 19 524287) (h := ?_)
   refine done_ (done_of HT_.out (by kernel_rfl)) ?_
   try go_wp2
   go_meet
   case rel => exact ⟨_, (true), (by first | rfl | (simp; done) | (simp [*]; done)), H', ⟨by have := HK1.out; have := HJ19.out; have := HK3.out; have := HK4.out; have := HJ56.out; have := HK6.out; have := HJ61.out; have := HJ72.out; have := HJ104.out; first | omega | exact Nat.le_refl _⟩, ⟨by (with_reducible repeat (first | apply Kd.N_alloc | apply Kd.N_drewN | apply Kd.N_drew)); exact Kd.N_mono HO_3.out (fun _ hk => ⟨hk.1, ⟨hk.2.1, ⟨hk.2.2.1, ⟨hk.2.2.2.2.1, ⟨hk.2.2.2.2.2.1, ⟨hk.2.2.2.2.2.2.1, ⟨hk.2.2.2.2.2.2.2.1, hk.2.2.2.2.2.2.2.2⟩⟩⟩⟩⟩⟩⟩)⟩, ⟨by (with_reducible repeat (first | apply Ra_ | apply Rn_ | apply Rd_)); exact HO_4.out⟩, ⟨by (with_reducible repeat (first | apply Ra_ | apply Rn_ | apply Rd_)); exact Kd.R_mono HO_12.out (fun _ hk => hk.1)⟩, ⟨by (with_reducible repeat (first | apply Kd.V_alloc | apply Kd.V_drewN | apply Kd.V_drew)); exact Kd.V_mono HO_296001.out (fun _ hk => ⟨hk.1, ⟨hk.2.1, ⟨hk.2.2.1, ⟨hk.2.2.2.1, ⟨hk.2.2.2.2.2.1, ⟨hk.2.2.2.2.2.2.1, ⟨hk.2.2.2.2.2.2.2.1, ⟨hk.2.2.2.2.2.2.2.2.1, hk.2.2.2.2.2.2.2.2.2⟩⟩⟩⟩⟩⟩⟩⟩)⟩, ⟨by (with_reducible repeat (first | apply Ra_ | apply Rn_ | apply Rd_)); exact HO_325000.out⟩, ⟨by (with_reducible repeat (first | apply Ra_ | apply Rn_ | apply Rd_)); exact HO_325001.out⟩, ⟨h_ BK295⟩, ⟨h_ BK310⟩, ⟨h_ BK324⟩, ⟨b_ HB⟩⟩
  rw [if_pos c116] at H
  have c116b0 : (t340 == x14_104) = true := beq_iff_eq.mpr c116
  have c116b1 : (t340 != x14_104) = false := bne_eq_false_iff_eq.mpr c116
  clear c116
  (first | rw [c116b0] | (simp only [i64_w, i32_w]; rw [c116b0]) | skip)
  replace H := Option.bind_eq_some_iff.mp H
  obtain ⟨t341, A1170, H⟩ := H
  try dsimp only at H
  have A117 := mk0 A1170
  clear A1170
  by_cases c118 : t341 = true
  rotate_left
  ·replace c118 := Bool.eq_false_iff.mpr c118
   subst c118
   rw [if_neg (show ¬ (false = true) by decide)] at H
   have H' := mk0 H
   clear H
   try go_wp2
   replace HO_3 := mk0 (Kd.N_drew HO_3.out)
   replace HO_4 := mk0 (Rd_ HO_4.out)
   replace HO_12 := mk0 (Rd_ HO_12.out)
   replace HO_15 := mk0 (Rd_ HO_15.out)
   replace HO_296001 := mk0 (Kd.V_drew HO_296001.out)
   replace HO_325000 := mk0 (Rd_ HO_325000.out)
   replace HO_325001 := mk0 (Rd_ HO_325001.out)
   replace BK295 := mk0 (bD_ BK295.out)
   replace BK310 := mk0 (bD_ BK310.out)
   replace BK324 := mk0 (bD_ BK324.out)
   replace HB := mk0 (b1_ HB.out)
   refine start_ (n := 19) (S := fun w' => True) (ds := []) (bt 19 0) (by kernel_rfl) rfl rfl trivial (fun hHeld => ?_); refine with_tabW quorumlaw12_PlanLocks.tab29 quorumlaw12_PlanLocks.bits29 (fun HT_ HW_ => ?_)
   generalize wc.drew = w126 at HO_3 HO_4 HO_12 HO_15 HO_296001 HO_325000 HO_325001 BK295 BK310 BK324 HB hHeld ⊢
   refine pq_ HT_.out 0 127 (bt 19 1) (h := ?_)
   refine pq_ HT_.out 2 129 (bt 19 5) (h := ?_)
   refine one_ (i := 1) (N := some 128) (bt 19 7) rfl rfl (one_of HT_.out (by kernel_rfl)) (by decide) (fun K hK => ?_)
   refine goes_ Try.func104 (by kernel_rfl) rfl #[.int .i64 t329] (by rfl) rfl rfl (by (try simp only [List.map_toArray, List.map_cons, List.map_nil]); first | done | rfl | (simp only [List.length_drop, List.length_take]; rfl)) ?_
   with_reducible refine (quorumlaw12_num.calls t329 t340 _ A115.out).mono ?_
   rintro e w' ⟨rfl, ⟨nd, rfl⟩⟩
   refine ⟨_, rfl, ?_⟩
   obtain ⟨Ao127, co127, eo127⟩ := Kd.R_slice HO_12.out
   (first | subst eo127 | (injection eo127 with f1_ f2_ f3_; have f4_ := f1_.symm; have f5_ := f3_.symm; clear f1_ f2_ f3_; subst f4_; subst f5_))
   obtain ⟨Ao128, co128, eo128⟩ := Kd.R_slice HO_15.out
   (first | subst eo128 | (injection eo128 with f1_ f2_ f3_; have f4_ := f1_.symm; have f5_ := f3_.symm; clear f1_ f2_ f3_; subst f4_; subst f5_))
   refine hK.out _ _ trivial (fun hHeld => ?_)
   clear hK K
   refine norm_ (a' := ?_) ?_ ?_
   rotate_left
   ·show Act.put _ (some 128) _ = _
    simp only [z_]
    rfl
   refine pq_ HT_.out 3 130 (bt 19 15) (h := ?_)
   refine pq_ HT_.out 4 131 (bt 19 31) (h := ?_)
   refine pq_ HT_.out 5 132 (bt 19 63) (h := ?_)
   refine pq_ HT_.out 6 133 (bt 19 127) (h := ?_)
   refine one_ (i := 7) (N := some 134) (bt 19 255) rfl rfl (one_of HT_.out (by kernel_rfl)) (by decide) (fun K hK => ?_)
   refine goes_ Try.func108 (by kernel_rfl) rfl #[.slice Ao127 t326.length co127, .slice Ao128 x15_104.length co128] (by rfl) rfl rfl (by (try simp only [List.map_toArray, List.map_cons, List.map_nil]); first | done | rfl | (simp only [List.length_drop, List.length_take]; rfl)) ?_
   with_reducible refine (quorumref0_EqLocks.calls kj104 _ _ t326 _ _ x15_104 false _ ?side1 ?side2 ?side3 ?side4 A117.out).mono ?_
   (case side1 => exact cr_ HO_12)
   (case side2 => exact (Kd.R_reads' HO_12.out).2.1)
   (case side3 => exact cr_ HO_15)
   (case side4 => exact (Kd.R_reads' HO_15.out).2.1)
   rintro e w' ⟨rfl, ⟨nd, rfl⟩⟩
   refine ⟨_, rfl, ?_⟩
   refine hK.out _ _ trivial (fun hHeld => ?_)
   clear hK K
   refine norm_ (a' := ?_) ?_ ?_
   rotate_left
   ·show Act.put _ (some 134) _ = _
    simp only [z_]
    rfl
   refine pq_ HT_.out 8 135 (bt 19 511) (h := ?_)
   refine pq_ HT_.out 9 136 (bt 19 1023) (h := ?_)
   refine pq_ HT_.out 10 137 (bt 19 2047) (h := ?_)
   refine uq_ HT_.out 11 138 (bt 19 4095) (h := ?_)
   refine uq_ HT_.out 12 139 (bt 19 8191) (h := ?_)
   refine uq_ HT_.out 13 140 (bt 19 16383) (h := ?_)
   refine uq_ HT_.out 14 141 (bt 19 32767) (h := ?_)
   refine uq_ HT_.out 15 142 (bt 19 65535) (h := ?_)
   refine uq_ HT_.out 16 143 (bt 19 131071) (h := ?_)
   refine uq_ HT_.out 17 144 (bt 19 262143) (h := ?_)
   refine pq_ HT_.out 18 145 (bt 19 524287) (h := ?_)
   refine done_ (done_of HT_.out (by kernel_rfl)) ?_
   try go_wp2
   go_meet
   case rel => exact ⟨_, (true), (by first | rfl | (simp; done) | (simp [*]; done)), H', ⟨by have := HK1.out; have := HJ19.out; have := HK3.out; have := HK4.out; have := HJ56.out; have := HK6.out; have := HJ61.out; have := HJ72.out; have := HJ104.out; first | omega | exact Nat.le_refl _⟩, ⟨by (with_reducible repeat (first | apply Kd.N_alloc | apply Kd.N_drewN | apply Kd.N_drew)); exact Kd.N_mono HO_3.out (fun _ hk => ⟨hk.1, ⟨hk.2.1, ⟨hk.2.2.1, ⟨hk.2.2.2.2.1, ⟨hk.2.2.2.2.2.1, ⟨hk.2.2.2.2.2.2.1, ⟨hk.2.2.2.2.2.2.2.1, hk.2.2.2.2.2.2.2.2⟩⟩⟩⟩⟩⟩⟩)⟩, ⟨by (with_reducible repeat (first | apply Ra_ | apply Rn_ | apply Rd_)); exact HO_4.out⟩, ⟨by (with_reducible repeat (first | apply Ra_ | apply Rn_ | apply Rd_)); exact Kd.R_mono HO_12.out (fun _ hk => hk.1)⟩, ⟨by (with_reducible repeat (first | apply Kd.V_alloc | apply Kd.V_drewN | apply Kd.V_drew)); exact Kd.V_mono HO_296001.out (fun _ hk => ⟨hk.1, ⟨hk.2.1, ⟨hk.2.2.1, ⟨hk.2.2.2.1, ⟨hk.2.2.2.2.2.1, ⟨hk.2.2.2.2.2.2.1, ⟨hk.2.2.2.2.2.2.2.1, ⟨hk.2.2.2.2.2.2.2.2.1, hk.2.2.2.2.2.2.2.2.2⟩⟩⟩⟩⟩⟩⟩⟩)⟩, ⟨by (with_reducible repeat (first | apply Ra_ | apply Rn_ | apply Rd_)); exact HO_325000.out⟩, ⟨by (with_reducible repeat (first | apply Ra_ | apply Rn_ | apply Rd_)); exact HO_325001.out⟩, ⟨h_ BK295⟩, ⟨h_ BK310⟩, ⟨h_ BK324⟩, ⟨b_ HB⟩⟩
  subst c118
  rw [if_pos rfl] at H
  by_cases c119 : 0 ≤ x9_4
  rotate_left
  ·rw [if_neg c119] at H
   exact absurd H (by simp)
  rw [if_pos c119] at H
  have c119b0 : decide (0 ≤ x9_4) = true := decide_eq_true c119
  clear c119
  by_cases c120 : x9_4 < (y300.length : Int)
  rotate_left
  ·rw [if_neg c120] at H
   exact absurd H (by simp)
  rw [if_pos c120] at H
  have c120b0 : decide (x9_4 < (y300.length : Int)) = true := decide_eq_true c120
  clear c120
  replace H := Option.bind_eq_some_iff.mp H
  obtain ⟨t343, A1210, H⟩ := H
  try dsimp only at H
  have A121 := mk0 A1210
  clear A1210
  have H' := mk0 H
  clear H
  try go_wp2
  replace HO_3 := mk0 (Kd.N_drew HO_3.out)
  replace HO_4 := mk0 (Rd_ HO_4.out)
  replace HO_12 := mk0 (Rd_ HO_12.out)
  replace HO_15 := mk0 (Rd_ HO_15.out)
  replace HO_296001 := mk0 (Kd.V_drew HO_296001.out)
  replace HO_325000 := mk0 (Rd_ HO_325000.out)
  replace HO_325001 := mk0 (Rd_ HO_325001.out)
  replace BK295 := mk0 (bD_ BK295.out)
  replace BK310 := mk0 (bD_ BK310.out)
  replace BK324 := mk0 (bD_ BK324.out)
  replace HB := mk0 (b1_ HB.out)
  have p342 : 0 ≤ (x9_4 : Int) := of_decide_eq_true (by first | (with_reducible assumption) | assumption)
  have q342 : x9_4 < (y300.length : Int) := of_decide_eq_true (by first | (with_reducible assumption) | assumption)
  obtain ⟨ad342, A342_0, c342_0, A342_1, c342_1, e342, hx342_0, hx342_1, hl342_0, hi342_0, hl342_1, hi342_1⟩ := at_T34 (Kd.N_reads' HO_3.out).2.2 x9_4 p342 q342
  obtain rfl : ad317 = ad342 := (by injection e342)
  obtain ⟨ce342, hce342, hMe342, hcc342⟩ := Kd.N_get HO_3.out z34 x9_4 p342 (by first | exact q342 | exact of_decide_eq_true (by first | (with_reducible assumption) | assumption) | (have e_ := (Kd.N_reads' HO_3.out).1; omega))
  obtain ⟨ua342_0, uc342_0, ua342_1, uc342_1, rfl, ul342_0, ge342_0, ul342_1, ge342_1⟩ := k34_openF hMe342
  have hv342_0 := hcc342 0 _ rfl
  rw [Nat.add_zero] at hv342_0
  replace hv342_0 := Option.some.inj (hv342_0.symm.trans hx342_0)
  injection hv342_0 with hva_ hvn_ hvc_
  rw [hva_] at ge342_0
  rw [hvc_] at ul342_0
  have HL342_0 := mk0 (show Kd.V k36 36 _ w.heap.size _ _ ((rd_T34 y300 x9_4).f0) from Kd.V_mk ul342_0 ge342_0)
  clear hva_ hvn_ hvc_ ge342_0 ul342_0
  have hv342_1 := hcc342 1 _ rfl
  rw [add_field _ _ 1 (by omega)] at hv342_1
  replace hv342_1 := Option.some.inj (hv342_1.symm.trans hx342_1)
  injection hv342_1 with hva_ hvn_ hvc_
  rw [hva_] at ge342_1
  rw [hvc_] at ul342_1
  have HL342_1 := mk0 (show Kd.V (Kd.int .i64) 3 _ w.heap.size _ _ ((rd_T34 y300 x9_4).f1) from Kd.V_mk ul342_1 ge342_1)
  clear hva_ hvn_ hvc_ ge342_1 ul342_1 hcc342 hce342
  have HR342_0 := mk0 hi342_0
  have HC342_0 := mk0 hl342_0
  clear hi342_0 hl342_0
  have HR342_1 := mk0 hi342_1
  have HC342_1 := mk0 hl342_1
  clear hi342_1 hl342_1
  replace p342 := eq_true p342
  replace q342 := eq_true q342
  refine start_ (n := 19) (S := fun w' => w'.cell? ⟨gb324, 0, none⟩ = some (.slice Ao77 t318.length co77) ∧ w'.cell? ⟨gb324, 1, none⟩ = some (.slice Ao81 t321.length co81) ∧ w'.cell? (ad317.add ((x9_4).toNat * 2)) = some (.slice A342_0 ((rd_T34 y300 x9_4).f0).length c342_0) ∧ w'.cell? ⟨(ad317.add ((x9_4).toNat * 2)).block, (ad317.add ((x9_4).toNat * 2)).off + 1, none⟩ = some (.slice A342_1 ((rd_T34 y300 x9_4).f1).length c342_1)) (ds := []) (bt 19 0) (by kernel_rfl) rfl rfl ⟨bk_ BK324 0, bk_ BK324 1, hx342_0, hx342_1⟩ (fun hHeld => ?_); refine with_tabW quorumlaw12_PlanLocks.tab29 quorumlaw12_PlanLocks.bits29 (fun HT_ HW_ => ?_)
  generalize wc.drew = w122 at HO_3 HO_4 HO_12 HO_15 HO_296001 HO_325000 HO_325001 BK295 BK310 BK324 HB HL342_0 HL342_1 HR342_0 HR342_1 hx342_0 hx342_1 hHeld ⊢
  refine pq_ HT_.out 0 127 (bt 19 1) (h := ?_)
  refine pq_ HT_.out 2 129 (bt 19 5) (h := ?_)
  refine one_ (i := 1) (N := some 128) (bt 19 7) rfl rfl (one_of HT_.out (by kernel_rfl)) (by decide) (fun K hK => ?_)
  refine goes_ Try.func104 (by kernel_rfl) rfl #[.int .i64 t329] (by rfl) rfl rfl (by (try simp only [List.map_toArray, List.map_cons, List.map_nil]); first | done | rfl | (simp only [List.length_drop, List.length_take]; rfl)) ?_
  with_reducible refine (quorumlaw12_num.calls t329 t340 _ A115.out).mono ?_
  rintro e w' ⟨rfl, ⟨nd, rfl⟩⟩
  refine ⟨_, rfl, ?_⟩
  obtain ⟨Ao123, co123, eo123⟩ := Kd.R_slice HO_12.out
  (first | subst eo123 | (injection eo123 with f1_ f2_ f3_; have f4_ := f1_.symm; have f5_ := f3_.symm; clear f1_ f2_ f3_; subst f4_; subst f5_))
  obtain ⟨Ao124, co124, eo124⟩ := Kd.R_slice HO_15.out
  (first | subst eo124 | (injection eo124 with f1_ f2_ f3_; have f4_ := f1_.symm; have f5_ := f3_.symm; clear f1_ f2_ f3_; subst f4_; subst f5_))
  refine hK.out _ _ ⟨bk_ BK324 0, bk_ BK324 1, hHeld.2.2.1, hHeld.2.2.2⟩ (fun hHeld => ?_)
  clear hK K
  refine norm_ (a' := ?_) ?_ ?_
  rotate_left
  ·show Act.put _ (some 128) _ = _
   simp only [z_]
   rfl
  refine pq_ HT_.out 3 130 (bt 19 15) (h := ?_)
  refine pq_ HT_.out 4 131 (bt 19 31) (h := ?_)
  refine pq_ HT_.out 5 132 (bt 19 63) (h := ?_)
  refine pq_ HT_.out 6 133 (bt 19 127) (h := ?_)
  refine one_ (i := 7) (N := some 134) (bt 19 255) rfl rfl (one_of HT_.out (by kernel_rfl)) (by decide) (fun K hK => ?_)
  refine goes_ Try.func108 (by kernel_rfl) rfl #[.slice Ao123 t326.length co123, .slice Ao124 x15_104.length co124] (by rfl) rfl rfl (by (try simp only [List.map_toArray, List.map_cons, List.map_nil]); first | done | rfl | (simp only [List.length_drop, List.length_take]; rfl)) ?_
  with_reducible refine (quorumref0_EqLocks.calls kj104 _ _ t326 _ _ x15_104 true _ ?side1 ?side2 ?side3 ?side4 A117.out).mono ?_
  (case side1 => exact cr_ HO_12)
  (case side2 => exact (Kd.R_reads' HO_12.out).2.1)
  (case side3 => exact cr_ HO_15)
  (case side4 => exact (Kd.R_reads' HO_15.out).2.1)
  rintro e w' ⟨rfl, ⟨nd, rfl⟩⟩
  refine ⟨_, rfl, ?_⟩
  refine hK.out _ _ ⟨bk_ BK324 0, bk_ BK324 1, hHeld.2.2.1, hHeld.2.2.2⟩ (fun hHeld => ?_)
  clear hK K
  refine norm_ (a' := ?_) ?_ ?_
  rotate_left
  ·show Act.put _ (some 134) _ = _
   simp only [z_]
   rfl
  refine pq_ HT_.out 8 135 (bt 19 511) (h := ?_)
  refine pq_ HT_.out 9 136 (bt 19 1023) (h := ?_)
  refine pq_ HT_.out 10 137 (bt 19 2047) (h := ?_)
  refine pq_ HT_.out 12 139 (bt 19 6143) (h := ?_)
  refine pq_ HT_.out 13 140 (bt 19 14335) (h := ?_)
  refine pq_ HT_.out 14 141 (bt 19 30719) (h := ?_)
  refine tq4_ HT_.out HW_.out 11 138 (bt 19 32767) hHeld (h := ?_)
  refine tq4_ HT_.out HW_.out 15 142 (bt 19 65535) hHeld (h := ?_)
  refine one_ (i := 16) (N := some 143) (bt 19 131071) rfl rfl (one_of HT_.out (by kernel_rfl)) (by decide) (fun K hK => ?_)
  refine goes_ Try.func65 (by kernel_rfl) rfl #[.agg #[.slice Ao77 t318.length co77, .slice Ao81 t321.length co81], .agg #[.slice A342_0 ((rd_T34 y300 x9_4).f0).length c342_0, .slice A342_1 ((rd_T34 y300 x9_4).f1).length c342_1]] (by rfl) rfl rfl (by (try simp only [List.map_toArray, List.map_cons, List.map_nil]); first | done | rfl | (simp only [List.length_drop, List.length_take]; rfl)) ?_
  with_reducible refine (quorumref0_EqPend.calls kj104 _ _ t318 _ _ t321 _ _ ((rd_T34 y300 x9_4).f0) _ _ ((rd_T34 y300 x9_4).f1) t343 _ ?side1 ?side2 ?side3 ?side4 ?side5 ?side6 ?side7 ?side8 A121.out).mono ?_
  (case side1 => exact cr_ HO_325000)
  (case side2 => exact (Kd.R_reads' HO_325000.out).2.1)
  (case side3 => exact cr_ HO_325001)
  (case side4 => exact (Kd.R_reads' HO_325001.out).2.1)
  (case side5 => repeat (first | exact (by repeat (first | (with_reducible exact HR342_0.out) | (with_reducible refine Kd.C_alloc ?_ _) | (with_reducible refine Kd.C_drewN ?_ _) | (with_reducible refine Kd.C_drew ?_) | exact HR342_0.out)) | (with_reducible refine Kd.C_alloc ?_ _) | (with_reducible refine Kd.C_drewN ?_ _) | (with_reducible refine Kd.C_drew ?_)))
  (case side6 => exact HC342_0.out)
  (case side7 => repeat (first | exact (by repeat (first | (with_reducible exact HR342_1.out) | (with_reducible refine Kd.C_alloc ?_ _) | (with_reducible refine Kd.C_drewN ?_ _) | (with_reducible refine Kd.C_drew ?_) | exact HR342_1.out)) | (with_reducible refine Kd.C_alloc ?_ _) | (with_reducible refine Kd.C_drewN ?_ _) | (with_reducible refine Kd.C_drew ?_)))
  (case side8 => exact HC342_1.out)
  rintro e w125 ⟨rfl, hb⟩
  have HS2_ := (hb.cell (World.block_lt_of_cell? _ _ hHeld.2.2.1)).trans hHeld.2.2.1
  have HS3_ := (hb.cell (World.block_lt_of_cell? _ _ hHeld.2.2.2)).trans hHeld.2.2.2
  refine ⟨_, rfl, ?_⟩
  replace HO_3 := mk0 (Kd.N_below (nn_ HO_3) hb)
  replace HO_4 := mk0 (Kd.R_below (r_ HO_4) hb)
  replace HO_12 := mk0 (Kd.R_below (r_ HO_12) hb)
  replace HO_15 := mk0 (Kd.R_below (r_ HO_15) hb)
  replace HO_296001 := mk0 (Kd.V_below (v_ HO_296001) hb)
  replace HO_325000 := mk0 (Kd.R_below (r_ HO_325000) hb)
  replace HO_325001 := mk0 (Kd.R_below (r_ HO_325001) hb)
  replace HL342_0 := mk0 (Kd.V_below (v_ HL342_0) hb)
  replace HL342_1 := mk0 (Kd.V_below (v_ HL342_1) hb)
  replace BK295 := mk0 (u_ BK295 hb)
  replace BK310 := mk0 (u_ BK310 hb)
  replace BK324 := mk0 (u_ BK324 hb)
  replace HR342_0 := mk0 True.intro
  replace HR342_1 := mk0 True.intro
  replace HB := mk0 (bt_ (b_ HB) hb)
  (try clear hb)
  (try clear hb2)
  (try clear hk)
  (try clear hi)
  refine hK.out _ _ ⟨bk_ BK324 0, bk_ BK324 1, HS2_, HS3_⟩ (fun hHeld => ?_)
  clear hK K
  refine norm_ (a' := ?_) ?_ ?_
  rotate_left
  ·show Act.put _ (some 143) _ = _
   simp only [z_]
   rfl
  refine pq_ HT_.out 17 144 (bt 19 262143) (h := ?_)
  refine pq_ HT_.out 18 145 (bt 19 524287) (h := ?_)
  refine done_ (done_of HT_.out (by kernel_rfl)) ?_
  try go_wp2
  go_meet
  case rel => exact ⟨_, (!t343), (by first | rfl | (simp; done) | (simp [*]; done)), H', ⟨by have := HK1.out; have := HJ19.out; have := HK3.out; have := HK4.out; have := HJ56.out; have := HK6.out; have := HJ61.out; have := HJ72.out; have := HJ104.out; first | omega | exact Nat.le_refl _⟩, ⟨by (with_reducible repeat (first | apply Kd.N_alloc | apply Kd.N_drewN | apply Kd.N_drew)); exact Kd.N_mono HO_3.out (fun _ hk => ⟨hk.1, ⟨hk.2.1, ⟨hk.2.2.1, ⟨hk.2.2.2.2.1, ⟨hk.2.2.2.2.2.1, ⟨hk.2.2.2.2.2.2.1, ⟨hk.2.2.2.2.2.2.2.1, hk.2.2.2.2.2.2.2.2⟩⟩⟩⟩⟩⟩⟩)⟩, ⟨by (with_reducible repeat (first | apply Ra_ | apply Rn_ | apply Rd_)); exact HO_4.out⟩, ⟨by (with_reducible repeat (first | apply Ra_ | apply Rn_ | apply Rd_)); exact Kd.R_mono HO_12.out (fun _ hk => hk.1)⟩, ⟨by (with_reducible repeat (first | apply Kd.V_alloc | apply Kd.V_drewN | apply Kd.V_drew)); exact Kd.V_mono HO_296001.out (fun _ hk => ⟨hk.1, ⟨hk.2.1, ⟨hk.2.2.1, ⟨hk.2.2.2.1, ⟨hk.2.2.2.2.2.1, ⟨hk.2.2.2.2.2.2.1, ⟨hk.2.2.2.2.2.2.2.1, ⟨hk.2.2.2.2.2.2.2.2.1, hk.2.2.2.2.2.2.2.2.2⟩⟩⟩⟩⟩⟩⟩⟩)⟩, ⟨by (with_reducible repeat (first | apply Ra_ | apply Rn_ | apply Rd_)); exact HO_325000.out⟩, ⟨by (with_reducible repeat (first | apply Ra_ | apply Rn_ | apply Rd_)); exact HO_325001.out⟩, ⟨h_ BK295⟩, ⟨h_ BK310⟩, ⟨h_ BK324⟩, ⟨b_ HB⟩⟩
 clear HC114
 try clear c3
 try clear c34
 try clear c108
 try clear c116
 try clear c116b0
 try clear c116b1
 try clear c118
 try clear c119
 try clear c120
 try clear hx342_0 hx342_1
 try clear p342
 try clear q342
 obtain ⟨kq, x145_113, rfl, HA, HJ113, HO_3, HO_4, HO_12, HO_296001, HO_325000, HO_325001, BK295, BK310, BK324, HB⟩ := hcut
 cases kq with
 | zero => exact absurd HA.out (by simp [quorumlaw12_PlanLocks.j10])
 | succ kj113 =>
 have H := HA.out
 clear HA
 simp only [quorumlaw12_PlanLocks.j10] at H
 focus
 by_cases c130 : x145_113 = true
 ·subst c130
  rw [if_pos rfl] at H
  obtain rfl := Option.some.inj H
  go_wp2
  go_ret
  exact ⟨by first | rfl | (simp [errW_none, errW_some] <;> rfl) | (simp [*, errW_none, errW_some] <;> rfl), b_ HB⟩
 replace c130 := Bool.eq_false_iff.mpr c130
 subst c130
 rw [if_neg (show ¬ (false = true) by decide)] at H
 replace H := Option.bind_eq_some_iff.mp H
 obtain ⟨t344, A1310, H⟩ := H
 try dsimp only at H
 have A131 := mk0 A1310
 clear A1310
 have H' := mk0 H
 clear H
 obtain ⟨Ao132, co132, eo132⟩ := Kd.R_slice HO_12.out
 subst eo132
 go_wp2_with (first | ((with_reducible refine gate_callee (f := 109) rfl ?_); refine gL_ (some 147) Try.func109 #[.slice Ao132 t326.length co132] (h := ?_); (with_reducible refine (quorumlaw0_Locks.calls kj113 (fun k_ => some k_ = (.slice Ao132 t326.length co132 : Value).ownBlock) (.slice Ao132 t326.length co132) t326 t344 w _ ?side1 ?side2 A131.out).mono ?_); (case side1 => repeat (first | (with_reducible first | exact HB.out | apply bL_ | apply pN_ | apply b1_ | refine bs_ ?_ GE295.out | refine bs_ ?_ GE310.out | refine bs_ ?_ GE324.out) | exact HB.out)); (case side2 => exact Kd.R_tight rfl HO_12.out); rintro e w133 ⟨rfl, hy0, hb, hkp⟩; refine ⟨_, rfl, ?_⟩; have n1_ := mk0 (Kd.R_mono (ok' := fun k_ => (w.heap.size ≤ k_) ∧ some k_ ≠ (.slice Ao81 t321.length co81 : Value).ownBlock) (Kd.R_keptB ((Kd.R_apart' HO_4.out (Kd.R_typed HO_12.out) (by decide))) hkp (fun k_ hk_ hs_ => (hk_.2) hs_)) (fun k_ hk_ => ⟨hk_.1.1.1, hk_.1.1.2⟩)); have n4_ := mk0 (Kd.R_mono (ok' := fun k_ => (w.heap.size ≤ k_)) (Kd.R_keptB ((Kd.R_apart' HO_325000.out (Kd.R_typed HO_12.out) (by decide))) hkp (fun k_ hk_ hs_ => (hk_.2) hs_)) (fun k_ hk_ => hk_.1.1)); have n5_ := mk0 (Kd.R_mono (ok' := fun k_ => (w.heap.size ≤ k_) ∧ some k_ ≠ (.slice (some ad325) y306.length co84 : Value).ownBlock) (Kd.R_keptB ((Kd.R_apart' HO_325001.out (Kd.R_typed HO_12.out) (by decide))) hkp (fun k_ hk_ hs_ => (hk_.2) hs_)) (fun k_ hk_ => ⟨hk_.1.1.1, hk_.1.1.2⟩)); have n6_ := mk0 (blk_kept (h_ BK295) hkp (fun hs_ => (fun e_ => (Kd.R_ne HO_12.out BK295.out (by decide)) e_) hs_)); have n7_ := mk0 (blk_kept (h_ BK310) hkp (fun hs_ => (fun e_ => (Kd.R_ne HO_12.out BK310.out (by decide)) e_) hs_)); have n8_ := mk0 (blk_kept (h_ BK324) hkp (fun hs_ => (fun e_ => (Kd.R_ne HO_12.out BK324.out (by decide)) e_) hs_)); replace HO_3 := mk0 (Kd.N_mono (ok' := fun k_ => (P0_1_ k_ ∨ w.heap.size ≤ k_) ∧ some k_ ≠ (.slice (some ad325) y306.length co84 : Value).ownBlock ∧ some k_ ≠ (.slice Ao132 t326.length co132 : Value).ownBlock ∧ some k_ ≠ (.slice Ao77 t318.length co77 : Value).ownBlock ∧ some k_ ≠ (.slice Ao81 t321.length co81 : Value).ownBlock ∧ k_ ≠ gb295 ∧ k_ ≠ gb310 ∧ k_ ≠ gb324) (Kd.N_keptB (HO_3.out) hkp (fun k_ hk_ hs_ => (hk_.2.2.1) hs_)) (fun k_ hk_ => ⟨hk_.1.1, hk_.1.2.1, hk_.1.2.2.1, hk_.1.2.2.2.1, hk_.1.2.2.2.2.1, hk_.1.2.2.2.2.2.1, hk_.1.2.2.2.2.2.2.1, hk_.1.2.2.2.2.2.2.2⟩)); replace HO_12 := mk0 (Kd.R_reok rfl hy0 (fun k_ e_ => HO_12.out.1 k_ e_)); replace HO_296001 := mk0 (Kd.V_mono (ok' := fun k_ => (P0_1_ k_ ∨ w.heap.size ≤ k_) ∧ some k_ ≠ (.slice (some ad317) y300.length co74 : Value).ownBlock ∧ some k_ ≠ (.slice (some ad325) y306.length co84 : Value).ownBlock ∧ some k_ ≠ (.slice Ao132 t326.length co132 : Value).ownBlock ∧ some k_ ≠ (.slice Ao77 t318.length co77 : Value).ownBlock ∧ some k_ ≠ (.slice Ao81 t321.length co81 : Value).ownBlock ∧ k_ ≠ gb295 ∧ k_ ≠ gb310 ∧ k_ ≠ gb324) (Kd.V_keptB (HO_296001.out) hkp (fun k_ hk_ hs_ => (hk_.2.2.2.1) hs_)) (fun k_ hk_ => ⟨hk_.1.1, hk_.1.2.1, hk_.1.2.2.1, hk_.1.2.2.2.1, hk_.1.2.2.2.2.1, hk_.1.2.2.2.2.2.1, hk_.1.2.2.2.2.2.2.1, hk_.1.2.2.2.2.2.2.2.1, hk_.1.2.2.2.2.2.2.2.2⟩)); replace HB := mk0 (hb); clear HO_4 HO_325000 HO_325001 BK295 BK310 BK324; have HO_4 := n1_; have HO_325000 := n4_; have HO_325001 := n5_; have BK295 := n6_; have BK310 := n7_; have BK324 := n8_; clear n1_ n4_ n5_ n6_ n7_ n8_; (try clear hb); (try clear hkp); (try clear hy0)))
 go_roundg kj113
 case measure => have := HK1.out; have := HJ19.out; have := HK3.out; have := HK4.out; have := HJ56.out; have := HK6.out; have := HJ61.out; have := HJ72.out; have := HJ104.out; have := HJ113.out; omega
 case rel => exact ⟨(wrap64 (x10_6 + 1)), (by first | rfl | (simp; done) | (simp [*]; done)), H', ⟨by have := HK1.out; have := HJ19.out; have := HK3.out; have := HK4.out; have := HJ56.out; have := HK6.out; have := HJ61.out; have := HJ72.out; have := HJ104.out; have := HJ113.out; omega⟩, ⟨by (with_reducible repeat (first | apply Kd.N_alloc | apply Kd.N_drewN | apply Kd.N_drew)); exact Kd.N_mono HO_3.out (fun _ hk => ⟨hk.1, ⟨hk.2.1, ⟨hk.2.2.2.2.2.1, hk.2.2.2.2.2.2.1⟩⟩⟩)⟩, ⟨by (with_reducible repeat (first | apply Ra_ | apply Rn_ | apply Rd_)); exact Kd.R_mono HO_4.out (fun _ hk => hk.1)⟩, ⟨by (with_reducible repeat (first | apply Kd.V_alloc | apply Kd.V_drewN | apply Kd.V_drew)); exact Kd.V_mono HO_296001.out (fun _ hk => ⟨hk.1, ⟨hk.2.1, ⟨hk.2.2.1, ⟨hk.2.2.2.2.2.2.1, hk.2.2.2.2.2.2.2.1⟩⟩⟩⟩)⟩, ⟨h_ BK295⟩, ⟨h_ BK310⟩, ⟨b_ HB⟩⟩

end Go.Proofs.Ytbaecdcfefmcgaa.PPlc
