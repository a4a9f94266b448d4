-- PRINTED by print.py (a twelfth state) out of the translation. Not trusted: Lean checks it.
import Derived.Test.YtlnplaajhalekaaPLkx0
import Derived.Test.YtlnplaajhalekaaPLkx4
import Derived.Test.YtlnplaajhalekaaPLkx5
import Derived.Test.YtlnplaajhalekaaPLkx6
import Derived.Test.YtlnplaajhalekaaPLkx7
import Derived.Test.YtlnplaajhalekaaPLkx8
namespace Go.Proofs.Ytlnplaajhalekaa.PLk
open Go.RowKit Go.Proofs.YtlnplaajhalekaaW.PrintWords Go.Proofs.YtlnplaajhalekaaW.PrintLast Go.Proofs.YtlnplaajhalekaaW.PrintMore
attribute [local go_sem] max2_int min2_int max_two min_two max_three min_three max_four min_four   -- for this text's walks alone
set_option linter.unusedVariables false
set_option linter.unusedSimpArgs false

/-! ### quorumlaw12_PlanLocks: function 31 -/
mutual
def quorumlaw12_PlanLocks.l0 : Nat → List (S31) → List Int → Int → List (S39) → List (S31) → List Int → Option (Bool)
 | 0, _, _, _, _, _, _ => none
 | k + 1, x3, x4, x5, x180000, x180001, x180002 => if x5 < (x180000.length : Int) then (quorumlaw12_PlanLocks.j1 k x3 x4 x5 (decide (x5 < 8)) x180000 x180001 x180002) else (quorumlaw12_PlanLocks.j1 k x3 x4 x5 false x180000 x180001 x180002)
def quorumlaw12_PlanLocks.j1 : Nat → List (S31) → List Int → Int → Bool → List (S39) → List (S31) → List Int → Option (Bool)
 | 0, _, _, _, _, _, _, _ => none
 | k + 1, x3, x4, x5, x35, x180000, x180001, x180002 => if x35 = true then (if 0 ≤ x5 then (if x5 < (x180000.length : Int) then (quorumlaw12_PlanLocks.l1 k x3 x4 x5 (-1) x180000 x180001 x180002 ((rd_T39 x180000 x5).f0) ((rd_T39 x180000 x5).f1) ((rd_T39 x180000 x5).f2) ((rd_T39 x180000 x5).f3) ((rd_T39 x180000 x5).f4.f0) ((rd_T39 x180000 x5).f4.f1) ((rd_T39 x180000 x5).f4.f2) ((rd_T39 x180000 x5).f5) ((rd_T39 x180000 x5).f6)) else (none)) else (none)) else ((quorumlaw12_wakes.f).bind fun t193 => (some t193))
def quorumlaw12_PlanLocks.l1 : Nat → List (S31) → List Int → Int → Int → List (S39) → List (S31) → List Int → Int → Int → ByteArray → ByteArray → ByteArray → ByteArray → Bool → Int → Bool → Option (Bool)
 | 0, _, _, _, _, _, _, _, _, _, _, _, _, _, _, _, _ => none
 | k + 1, x3, x4, x5, x7, x180000, x180001, x180002, x196000, x196001, x196002, x196003, x196004, x196005, x196006, x196007, x196008 => if x7 ≤ 5 then ((quorumref0_Between.f x7 1 3).bind fun t196 => (if t196 = true then ((quorumref12_Op.f x196000 x196001 x196002 x196003 x196004 x196005 x196006 x196007 x196008 x7).bind fun t197 => (quorumlaw12_PlanLocks.j3 k x3 x4 x5 x7 t197 x180000 x180001 x180002 x196000 x196001 x196002 x196003 x196004 x196005 x196006 x196007 x196008)) else (quorumlaw12_PlanLocks.j3 k x3 x4 x5 x7 false x180000 x180001 x180002 x196000 x196001 x196002 x196003 x196004 x196005 x196006 x196007 x196008))) else ((plan_Writes.f x196000 x196001 x196002 x196003 x196004 x196005 x196006 x196007 x196008).bind fun t200 => ((quorumref12_Writes.f x196000 x196001 x196002 x196003 x196004 x196005 x196006 x196007 x196008).bind fun t201 => (if (t200 != t201) = true then (some false) else (quorumlaw12_PlanLocks.l2 k x3 x4 x5 0 x180000 x180001 x180002 x196000 x196001 x196002 x196003 x196004 x196005 x196006 x196007 x196008))))
def quorumlaw12_PlanLocks.j3 : Nat → List (S31) → List Int → Int → Int → Bool → List (S39) → List (S31) → List Int → Int → Int → ByteArray → ByteArray → ByteArray → ByteArray → Bool → Int → Bool → Option (Bool)
 | 0, _, _, _, _, _, _, _, _, _, _, _, _, _, _, _, _, _ => none
 | k + 1, x3, x4, x5, x7, x8, x180000, x180001, x180002, x196000, x196001, x196002, x196003, x196004, x196005, x196006, x196007, x196008 => (plan_Check.f x196000 x196001 x196002 x196003 x196004 x196005 x196006 x196007 x196008 x7).bind fun t198 => ((quorumlaw12_num.f t198).bind fun t199 => (if ((t199 == 0) != x8) = true then (some false) else (quorumlaw12_PlanLocks.l1 k x3 x4 x5 (wrap64 (x7 + 1)) x180000 x180001 x180002 x196000 x196001 x196002 x196003 x196004 x196005 x196006 x196007 x196008)))
def quorumlaw12_PlanLocks.l2 : Nat → List (S31) → List Int → Int → Int → List (S39) → List (S31) → List Int → Int → Int → ByteArray → ByteArray → ByteArray → ByteArray → Bool → Int → Bool → Option (Bool)
 | 0, _, _, _, _, _, _, _, _, _, _, _, _, _, _, _, _ => none
 | k + 1, x3, x4, x5, x9, x180000, x180001, x180002, x196000, x196001, x196002, x196003, x196004, x196005, x196006, x196007, x196008 => if x9 < (x3.length : Int) then (quorumlaw12_PlanLocks.j5 k x3 x4 x5 x9 (decide (x9 < 4)) x180000 x180001 x180002 x196000 x196001 x196002 x196003 x196004 x196005 x196006 x196007 x196008) else (quorumlaw12_PlanLocks.j5 k x3 x4 x5 x9 false x180000 x180001 x180002 x196000 x196001 x196002 x196003 x196004 x196005 x196006 x196007 x196008)
def quorumlaw12_PlanLocks.j5 : Nat → List (S31) → List Int → Int → Int → Bool → List (S39) → List (S31) → List Int → Int → Int → ByteArray → ByteArray → ByteArray → ByteArray → Bool → Int → Bool → Option (Bool)
 | 0, _, _, _, _, _, _, _, _, _, _, _, _, _, _, _, _, _ => none
 | k + 1, x3, x4, x5, x9, x73, x180000, x180001, x180002, x196000, x196001, x196002, x196003, x196004, x196005, x196006, x196007, x196008 => if x73 = true then (quorumlaw12_PlanLocks.l3 k x3 x4 x5 x9 0 x180000 x180001 x180002 x196000 x196001 x196002 x196003 x196004 x196005 x196006 x196007 x196008) else (quorumlaw12_PlanLocks.l0 k x3 x4 (wrap64 (x5 + 1)) x180000 x180001 x180002)
def quorumlaw12_PlanLocks.l3 : Nat → List (S31) → List Int → Int → Int → Int → List (S39) → List (S31) → List Int → Int → Int → ByteArray → ByteArray → ByteArray → ByteArray → Bool → Int → Bool → Option (Bool)
 | 0, _, _, _, _, _, _, _, _, _, _, _, _, _, _, _, _, _ => none
 | k + 1, x3, x4, x5, x9, x10, x180000, x180001, x180002, x196000, x196001, x196002, x196003, x196004, x196005, x196006, x196007, x196008 => if x10 < (x4.length : Int) then (quorumlaw12_PlanLocks.j7 k x3 x4 x5 x9 x10 (decide (x10 < 5)) x180000 x180001 x180002 x196000 x196001 x196002 x196003 x196004 x196005 x196006 x196007 x196008) else (quorumlaw12_PlanLocks.j7 k x3 x4 x5 x9 x10 false x180000 x180001 x180002 x196000 x196001 x196002 x196003 x196004 x196005 x196006 x196007 x196008)
def quorumlaw12_PlanLocks.j7 : Nat → List (S31) → List Int → Int → Int → Int → Bool → List (S39) → List (S31) → List Int → Int → Int → ByteArray → ByteArray → ByteArray → ByteArray → Bool → Int → Bool → Option (Bool)
 | 0, _, _, _, _, _, _, _, _, _, _, _, _, _, _, _, _, _, _ => none
 | k + 1, x3, x4, x5, x9, x10, x83, x180000, x180001, x180002, x196000, x196001, x196002, x196003, x196004, x196005, x196006, x196007, x196008 => if x83 = true then (if 0 ≤ x9 then (if x9 < (x3.length : Int) then ((quorumref0_CopyPend.f k ((rd_T31 x3 x9).f0) ((rd_T31 x3 x9).f1)).bind fun bt203 => (if 0 ≤ x10 then (if x10 < (x4.length : Int) then ((plan_Locks.f k x196000 x196001 x196002 x196003 x196004 x196005 x196006 x196007 x196008 bt203.1 bt203.2 (rd x4 x10)).bind fun bt211 => ((quorumref12_Op.f x196000 x196001 x196002 x196003 x196004 x196005 x196006 x196007 x196008 3).bind fun t215 => (if t215 = true then ((quorumref8_Pend.f k ((rd_T31 x3 x9).f0) ((rd_T31 x3 x9).f1)).bind fun t217 => (if t217 = true then ((quorumref0_Num.f (rd x4 x10) 1073741824).bind fun t219 => (quorumlaw12_PlanLocks.j8 k x3 x4 x5 x9 x10 bt211.1 bt211.2 1 ([] : List (S42)) t219 x180000 x180001 x180002 x196000 x196001 x196002 x196003 x196004 x196005 x196006 x196007 x196008 bt203.1 bt203.2)) else (quorumlaw12_PlanLocks.j8 k x3 x4 x5 x9 x10 bt211.1 bt211.2 1 ([] : List (S42)) false x180000 x180001 x180002 x196000 x196001 x196002 x196003 x196004 x196005 x196006 x196007 x196008 bt203.1 bt203.2))) else (quorumlaw12_PlanLocks.j8 k x3 x4 x5 x9 x10 bt211.1 bt211.2 1 ([] : List (S42)) false x180000 x180001 x180002 x196000 x196001 x196002 x196003 x196004 x196005 x196006 x196007 x196008 bt203.1 bt203.2)))) else (none)) else (none))) else (none)) else (none)) else (quorumlaw12_PlanLocks.l2 k x3 x4 x5 (wrap64 (x9 + 1)) x180000 x180001 x180002 x196000 x196001 x196002 x196003 x196004 x196005 x196006 x196007 x196008)
def quorumlaw12_PlanLocks.j8 : Nat → List (S31) → List Int → Int → Int → Int → List (S42) → Int → Int → List (S42) → Bool → List (S39) → List (S31) → List Int → Int → Int → ByteArray → ByteArray → ByteArray → ByteArray → Bool → Int → Bool → List (S44) → List Int → Option (Bool)
 | 0, _, _, _, _, _, _, _, _, _, _, _, _, _, _, _, _, _, _, _, _, _, _, _, _ => none
 | k + 1, x3, x4, x5, x9, x10, x12, x13, x14, x15, x116, x180000, x180001, x180002, x196000, x196001, x196002, x196003, x196004, x196005, x196006, x196007, x196008, x210000, x210001 => if x116 = true then (if 0 ≤ x9 then (if x9 < (x3.length : Int) then (if 0 ≤ x10 then (if x10 < (x4.length : Int) then ((quorumref12_Locks.f x196000 x196001 x196002 x196003 x196004 x196005 x196006 x196007 x196008 ((rd_T31 x3 x9).f0) ((rd_T31 x3 x9).f1) (rd x4 x10)).bind fun t222 => (quorumlaw12_PlanLocks.j9 k x3 x4 x5 x9 x10 x12 x13 0 t222 x180000 x180001 x180002 x196000 x196001 x196002 x196003 x196004 x196005 x196006 x196007 x196008 x210000 x210001)) else (none)) else (none)) else (none)) else (none)) else (quorumlaw12_PlanLocks.j9 k x3 x4 x5 x9 x10 x12 x13 x14 x15 x180000 x180001 x180002 x196000 x196001 x196002 x196003 x196004 x196005 x196006 x196007 x196008 x210000 x210001)
def quorumlaw12_PlanLocks.j9 : Nat → List (S31) → List Int → Int → Int → Int → List (S42) → Int → Int → List (S42) → List (S39) → List (S31) → List Int → Int → Int → ByteArray → ByteArray → ByteArray → ByteArray → Bool → Int → Bool → List (S44) → List Int → Option (Bool)
 | 0, _, _, _, _, _, _, _, _, _, _, _, _, _, _, _, _, _, _, _, _, _, _, _ => none
 | k + 1, x3, x4, x5, x9, x10, x12, x13, x14, x15, x180000, x180001, x180002, x196000, x196001, x196002, x196003, x196004, x196005, x196006, x196007, x196008, x210000, x210001 => (quorumlaw12_num.f x13).bind fun t225 => (if t225 = x14 then ((quorumref0_EqLocks.f k x12 x15).bind fun t226 => (if t226 = true then (if 0 ≤ x9 then (if x9 < (x3.length : Int) then ((quorumref0_EqPend.f k x210000 x210001 ((rd_T31 x3 x9).f0) ((rd_T31 x3 x9).f1)).bind fun t228 => (if t228 = true then ((quorumlaw0_Locks.f k x12).bind fun t229 => (quorumlaw12_PlanLocks.l3 k x3 x4 x5 x9 (wrap64 (x10 + 1)) x180000 x180001 x180002 x196000 x196001 x196002 x196003 x196004 x196005 x196006 x196007 x196008)) else (some false))) else (none)) else (none)) else (some false))) else (some false))
end
def quorumlaw12_PlanLocks.f (k : Nat) (l0_0 : List (S39)) (l0_1 : List (S31)) (l0_2 : List Int) : Option (Bool) := (quorumlaw12_Heavy.f k l0_0 l0_1 l0_2).bind fun t180 => (if t180 = true then (some true) else ((some (([(⟨([] : List (S44)), ([] : List Int)⟩ : S31)] : List (S31)) : List (S31))).bind fun y181 => (if y181.length + l0_1.length < 2932031007402 then ((some (([0, 5, (-1)] : List Int) : List Int)).bind fun y187 => (if y187.length + l0_2.length < 17592186044416 then (quorumlaw12_PlanLocks.l0 k (y181 ++ l0_1) (y187 ++ l0_2) 0 l0_0 l0_1 l0_2) else (none))) else (none))))
theorem quorumlaw12_PlanLocks.mono_l : ∀ k, (∀ y0 y1 y2 y3 y4 y5, LeO (quorumlaw12_PlanLocks.l0 k y0 y1 y2 y3 y4 y5) (quorumlaw12_PlanLocks.l0 (k + 1) y0 y1 y2 y3 y4 y5)) ∧ (∀ y0 y1 y2 y3 y4 y5 y6, LeO (quorumlaw12_PlanLocks.j1 k y0 y1 y2 y3 y4 y5 y6) (quorumlaw12_PlanLocks.j1 (k + 1) y0 y1 y2 y3 y4 y5 y6)) ∧ (∀ y0 y1 y2 y3 y4 y5 y6 y7 y8 y9 y10 y11 y12 y13 y14 y15, LeO (quorumlaw12_PlanLocks.l1 k y0 y1 y2 y3 y4 y5 y6 y7 y8 y9 y10 y11 y12 y13 y14 y15) (quorumlaw12_PlanLocks.l1 (k + 1) y0 y1 y2 y3 y4 y5 y6 y7 y8 y9 y10 y11 y12 y13 y14 y15)) ∧ (∀ y0 y1 y2 y3 y4 y5 y6 y7 y8 y9 y10 y11 y12 y13 y14 y15 y16, LeO (quorumlaw12_PlanLocks.j3 k y0 y1 y2 y3 y4 y5 y6 y7 y8 y9 y10 y11 y12 y13 y14 y15 y16) (quorumlaw12_PlanLocks.j3 (k + 1) y0 y1 y2 y3 y4 y5 y6 y7 y8 y9 y10 y11 y12 y13 y14 y15 y16)) ∧ (∀ y0 y1 y2 y3 y4 y5 y6 y7 y8 y9 y10 y11 y12 y13 y14 y15, LeO (quorumlaw12_PlanLocks.l2 k y0 y1 y2 y3 y4 y5 y6 y7 y8 y9 y10 y11 y12 y13 y14 y15) (quorumlaw12_PlanLocks.l2 (k + 1) y0 y1 y2 y3 y4 y5 y6 y7 y8 y9 y10 y11 y12 y13 y14 y15)) ∧ (∀ y0 y1 y2 y3 y4 y5 y6 y7 y8 y9 y10 y11 y12 y13 y14 y15 y16, LeO (quorumlaw12_PlanLocks.j5 k y0 y1 y2 y3 y4 y5 y6 y7 y8 y9 y10 y11 y12 y13 y14 y15 y16) (quorumlaw12_PlanLocks.j5 (k + 1) y0 y1 y2 y3 y4 y5 y6 y7 y8 y9 y10 y11 y12 y13 y14 y15 y16)) ∧ (∀ y0 y1 y2 y3 y4 y5 y6 y7 y8 y9 y10 y11 y12 y13 y14 y15 y16, LeO (quorumlaw12_PlanLocks.l3 k y0 y1 y2 y3 y4 y5 y6 y7 y8 y9 y10 y11 y12 y13 y14 y15 y16) (quorumlaw12_PlanLocks.l3 (k + 1) y0 y1 y2 y3 y4 y5 y6 y7 y8 y9 y10 y11 y12 y13 y14 y15 y16)) ∧ (∀ y0 y1 y2 y3 y4 y5 y6 y7 y8 y9 y10 y11 y12 y13 y14 y15 y16 y17, LeO (quorumlaw12_PlanLocks.j7 k y0 y1 y2 y3 y4 y5 y6 y7 y8 y9 y10 y11 y12 y13 y14 y15 y16 y17) (quorumlaw12_PlanLocks.j7 (k + 1) y0 y1 y2 y3 y4 y5 y6 y7 y8 y9 y10 y11 y12 y13 y14 y15 y16 y17)) ∧ (∀ y0 y1 y2 y3 y4 y5 y6 y7 y8 y9 y10 y11 y12 y13 y14 y15 y16 y17 y18 y19 y20 y21 y22 y23, LeO (quorumlaw12_PlanLocks.j8 k y0 y1 y2 y3 y4 y5 y6 y7 y8 y9 y10 y11 y12 y13 y14 y15 y16 y17 y18 y19 y20 y21 y22 y23) (quorumlaw12_PlanLocks.j8 (k + 1) y0 y1 y2 y3 y4 y5 y6 y7 y8 y9 y10 y11 y12 y13 y14 y15 y16 y17 y18 y19 y20 y21 y22 y23)) ∧ (∀ y0 y1 y2 y3 y4 y5 y6 y7 y8 y9 y10 y11 y12 y13 y14 y15 y16 y17 y18 y19 y20 y21 y22, LeO (quorumlaw12_PlanLocks.j9 k y0 y1 y2 y3 y4 y5 y6 y7 y8 y9 y10 y11 y12 y13 y14 y15 y16 y17 y18 y19 y20 y21 y22) (quorumlaw12_PlanLocks.j9 (k + 1) y0 y1 y2 y3 y4 y5 y6 y7 y8 y9 y10 y11 y12 y13 y14 y15 y16 y17 y18 y19 y20 y21 y22))
 | 0 => ⟨fun _ _ _ _ _ _ r h => by simp [quorumlaw12_PlanLocks.l0] at h, fun _ _ _ _ _ _ _ r h => by simp [quorumlaw12_PlanLocks.j1] at h, fun _ _ _ _ _ _ _ _ _ _ _ _ _ _ _ _ r h => by simp [quorumlaw12_PlanLocks.l1] at h, fun _ _ _ _ _ _ _ _ _ _ _ _ _ _ _ _ _ r h => by simp [quorumlaw12_PlanLocks.j3] at h, fun _ _ _ _ _ _ _ _ _ _ _ _ _ _ _ _ r h => by simp [quorumlaw12_PlanLocks.l2] at h, fun _ _ _ _ _ _ _ _ _ _ _ _ _ _ _ _ _ r h => by simp [quorumlaw12_PlanLocks.j5] at h, fun _ _ _ _ _ _ _ _ _ _ _ _ _ _ _ _ _ r h => by simp [quorumlaw12_PlanLocks.l3] at h, fun _ _ _ _ _ _ _ _ _ _ _ _ _ _ _ _ _ _ r h => by simp [quorumlaw12_PlanLocks.j7] at h, fun _ _ _ _ _ _ _ _ _ _ _ _ _ _ _ _ _ _ _ _ _ _ _ _ r h => by simp [quorumlaw12_PlanLocks.j8] at h, fun _ _ _ _ _ _ _ _ _ _ _ _ _ _ _ _ _ _ _ _ _ _ _ r h => by simp [quorumlaw12_PlanLocks.j9] at h⟩
 | k + 1 => by
  obtain ⟨ih0, ih1, ih2, ih3, ih4, ih5, ih6, ih7, ih8, ih9⟩ := quorumlaw12_PlanLocks.mono_l k
  refine ⟨?_, ?_, ?_, ?_, ?_, ?_, ?_, ?_, ?_, ?_⟩
  ·intro y0 y1 y2 y3 y4 y5
   unfold quorumlaw12_PlanLocks.l0
   repeat' first
   | (with_reducible exact ih0 _ _ _ _ _ _)
   | (with_reducible exact ih1 _ _ _ _ _ _ _)
   | (with_reducible exact ih2 _ _ _ _ _ _ _ _ _ _ _ _ _ _ _ _)
   | (with_reducible exact ih3 _ _ _ _ _ _ _ _ _ _ _ _ _ _ _ _ _)
   | (with_reducible exact ih4 _ _ _ _ _ _ _ _ _ _ _ _ _ _ _ _)
   | (with_reducible exact ih5 _ _ _ _ _ _ _ _ _ _ _ _ _ _ _ _ _)
   | (with_reducible exact ih6 _ _ _ _ _ _ _ _ _ _ _ _ _ _ _ _ _)
   | (with_reducible exact ih7 _ _ _ _ _ _ _ _ _ _ _ _ _ _ _ _ _ _)
   | (with_reducible exact ih8 _ _ _ _ _ _ _ _ _ _ _ _ _ _ _ _ _ _ _ _ _ _ _ _)
   | (with_reducible exact ih9 _ _ _ _ _ _ _ _ _ _ _ _ _ _ _ _ _ _ _ _ _ _ _)
   | (with_reducible exact plan_Locks.mono _ _ _ _ _ _ _ _ _ _ _ _ _)
   | (with_reducible exact quorumlaw0_Locks.mono _ _)
   | (with_reducible exact quorumlaw12_Heavy.mono _ _ _ _)
   | (with_reducible exact quorumref0_CopyPend.mono _ _ _)
   | (with_reducible exact quorumref0_EqLocks.mono _ _ _)
   | (with_reducible exact quorumref0_EqPend.mono _ _ _ _ _)
   | (with_reducible exact quorumref8_Pend.mono _ _ _)
   | (with_reducible exact LeO.refl _)
   | (with_reducible exact LeO.none _)
   | (with_reducible refine LeO.ite ?_ ?_)
   | (with_reducible refine LeO.bind ?_ (fun _ => ?_))
   | exact ih0 _ _ _ _ _ _
   | exact ih1 _ _ _ _ _ _ _
   | exact ih2 _ _ _ _ _ _ _ _ _ _ _ _ _ _ _ _
   | exact ih3 _ _ _ _ _ _ _ _ _ _ _ _ _ _ _ _ _
   | exact ih4 _ _ _ _ _ _ _ _ _ _ _ _ _ _ _ _
   | exact ih5 _ _ _ _ _ _ _ _ _ _ _ _ _ _ _ _ _
   | exact ih6 _ _ _ _ _ _ _ _ _ _ _ _ _ _ _ _ _
   | exact ih7 _ _ _ _ _ _ _ _ _ _ _ _ _ _ _ _ _ _
   | exact ih8 _ _ _ _ _ _ _ _ _ _ _ _ _ _ _ _ _ _ _ _ _ _ _ _
   | exact ih9 _ _ _ _ _ _ _ _ _ _ _ _ _ _ _ _ _ _ _ _ _ _ _
   | exact plan_Locks.mono _ _ _ _ _ _ _ _ _ _ _ _ _
   | exact quorumlaw0_Locks.mono _ _
   | exact quorumlaw12_Heavy.mono _ _ _ _
   | exact quorumref0_CopyPend.mono _ _ _
   | exact quorumref0_EqLocks.mono _ _ _
   | exact quorumref0_EqPend.mono _ _ _ _ _
   | exact quorumref8_Pend.mono _ _ _
   | exact LeO.none _
   | refine LeO.ite ?_ ?_
   | refine LeO.bind ?_ (fun _ => ?_)
  ·intro y0 y1 y2 y3 y4 y5 y6
   unfold quorumlaw12_PlanLocks.j1
   repeat' first
   | (with_reducible exact ih0 _ _ _ _ _ _)
   | (with_reducible exact ih1 _ _ _ _ _ _ _)
   | (with_reducible exact ih2 _ _ _ _ _ _ _ _ _ _ _ _ _ _ _ _)
   | (with_reducible exact ih3 _ _ _ _ _ _ _ _ _ _ _ _ _ _ _ _ _)
   | (with_reducible exact ih4 _ _ _ _ _ _ _ _ _ _ _ _ _ _ _ _)
   | (with_reducible exact ih5 _ _ _ _ _ _ _ _ _ _ _ _ _ _ _ _ _)
   | (with_reducible exact ih6 _ _ _ _ _ _ _ _ _ _ _ _ _ _ _ _ _)
   | (with_reducible exact ih7 _ _ _ _ _ _ _ _ _ _ _ _ _ _ _ _ _ _)
   | (with_reducible exact ih8 _ _ _ _ _ _ _ _ _ _ _ _ _ _ _ _ _ _ _ _ _ _ _ _)
   | (with_reducible exact ih9 _ _ _ _ _ _ _ _ _ _ _ _ _ _ _ _ _ _ _ _ _ _ _)
   | (with_reducible exact plan_Locks.mono _ _ _ _ _ _ _ _ _ _ _ _ _)
   | (with_reducible exact quorumlaw0_Locks.mono _ _)
   | (with_reducible exact quorumlaw12_Heavy.mono _ _ _ _)
   | (with_reducible exact quorumref0_CopyPend.mono _ _ _)
   | (with_reducible exact quorumref0_EqLocks.mono _ _ _)
   | (with_reducible exact quorumref0_EqPend.mono _ _ _ _ _)
   | (with_reducible exact quorumref8_Pend.mono _ _ _)
   | (with_reducible exact LeO.refl _)
   | (with_reducible exact LeO.none _)
   | (with_reducible refine LeO.ite ?_ ?_)
   | (with_reducible refine LeO.bind ?_ (fun _ => ?_))
   | exact ih0 _ _ _ _ _ _
   | exact ih1 _ _ _ _ _ _ _
   | exact ih2 _ _ _ _ _ _ _ _ _ _ _ _ _ _ _ _
   | exact ih3 _ _ _ _ _ _ _ _ _ _ _ _ _ _ _ _ _
   | exact ih4 _ _ _ _ _ _ _ _ _ _ _ _ _ _ _ _
   | exact ih5 _ _ _ _ _ _ _ _ _ _ _ _ _ _ _ _ _
   | exact ih6 _ _ _ _ _ _ _ _ _ _ _ _ _ _ _ _ _
   | exact ih7 _ _ _ _ _ _ _ _ _ _ _ _ _ _ _ _ _ _
   | exact ih8 _ _ _ _ _ _ _ _ _ _ _ _ _ _ _ _ _ _ _ _ _ _ _ _
   | exact ih9 _ _ _ _ _ _ _ _ _ _ _ _ _ _ _ _ _ _ _ _ _ _ _
   | exact plan_Locks.mono _ _ _ _ _ _ _ _ _ _ _ _ _
   | exact quorumlaw0_Locks.mono _ _
   | exact quorumlaw12_Heavy.mono _ _ _ _
   | exact quorumref0_CopyPend.mono _ _ _
   | exact quorumref0_EqLocks.mono _ _ _
   | exact quorumref0_EqPend.mono _ _ _ _ _
   | exact quorumref8_Pend.mono _ _ _
   | exact LeO.none _
   | refine LeO.ite ?_ ?_
   | refine LeO.bind ?_ (fun _ => ?_)
  ·intro y0 y1 y2 y3 y4 y5 y6 y7 y8 y9 y10 y11 y12 y13 y14 y15
   unfold quorumlaw12_PlanLocks.l1
   repeat' first
   | (with_reducible exact ih0 _ _ _ _ _ _)
   | (with_reducible exact ih1 _ _ _ _ _ _ _)
   | (with_reducible exact ih2 _ _ _ _ _ _ _ _ _ _ _ _ _ _ _ _)
   | (with_reducible exact ih3 _ _ _ _ _ _ _ _ _ _ _ _ _ _ _ _ _)
   | (with_reducible exact ih4 _ _ _ _ _ _ _ _ _ _ _ _ _ _ _ _)
   | (with_reducible exact ih5 _ _ _ _ _ _ _ _ _ _ _ _ _ _ _ _ _)
   | (with_reducible exact ih6 _ _ _ _ _ _ _ _ _ _ _ _ _ _ _ _ _)
   | (with_reducible exact ih7 _ _ _ _ _ _ _ _ _ _ _ _ _ _ _ _ _ _)
   | (with_reducible exact ih8 _ _ _ _ _ _ _ _ _ _ _ _ _ _ _ _ _ _ _ _ _ _ _ _)
   | (with_reducible exact ih9 _ _ _ _ _ _ _ _ _ _ _ _ _ _ _ _ _ _ _ _ _ _ _)
   | (with_reducible exact plan_Locks.mono _ _ _ _ _ _ _ _ _ _ _ _ _)
   | (with_reducible exact quorumlaw0_Locks.mono _ _)
   | (with_reducible exact quorumlaw12_Heavy.mono _ _ _ _)
   | (with_reducible exact quorumref0_CopyPend.mono _ _ _)
   | (with_reducible exact quorumref0_EqLocks.mono _ _ _)
   | (with_reducible exact quorumref0_EqPend.mono _ _ _ _ _)
   | (with_reducible exact quorumref8_Pend.mono _ _ _)
   | (with_reducible exact LeO.refl _)
   | (with_reducible exact LeO.none _)
   | (with_reducible refine LeO.ite ?_ ?_)
   | (with_reducible refine LeO.bind ?_ (fun _ => ?_))
   | exact ih0 _ _ _ _ _ _
   | exact ih1 _ _ _ _ _ _ _
   | exact ih2 _ _ _ _ _ _ _ _ _ _ _ _ _ _ _ _
   | exact ih3 _ _ _ _ _ _ _ _ _ _ _ _ _ _ _ _ _
   | exact ih4 _ _ _ _ _ _ _ _ _ _ _ _ _ _ _ _
   | exact ih5 _ _ _ _ _ _ _ _ _ _ _ _ _ _ _ _ _
   | exact ih6 _ _ _ _ _ _ _ _ _ _ _ _ _ _ _ _ _
   | exact ih7 _ _ _ _ _ _ _ _ _ _ _ _ _ _ _ _ _ _
   | exact ih8 _ _ _ _ _ _ _ _ _ _ _ _ _ _ _ _ _ _ _ _ _ _ _ _
   | exact ih9 _ _ _ _ _ _ _ _ _ _ _ _ _ _ _ _ _ _ _ _ _ _ _
   | exact plan_Locks.mono _ _ _ _ _ _ _ _ _ _ _ _ _
   | exact quorumlaw0_Locks.mono _ _
   | exact quorumlaw12_Heavy.mono _ _ _ _
   | exact quorumref0_CopyPend.mono _ _ _
   | exact quorumref0_EqLocks.mono _ _ _
   | exact quorumref0_EqPend.mono _ _ _ _ _
   | exact quorumref8_Pend.mono _ _ _
   | exact LeO.none _
   | refine LeO.ite ?_ ?_
   | refine LeO.bind ?_ (fun _ => ?_)
  ·intro y0 y1 y2 y3 y4 y5 y6 y7 y8 y9 y10 y11 y12 y13 y14 y15 y16
   unfold quorumlaw12_PlanLocks.j3
   repeat' first
   | (with_reducible exact ih0 _ _ _ _ _ _)
   | (with_reducible exact ih1 _ _ _ _ _ _ _)
   | (with_reducible exact ih2 _ _ _ _ _ _ _ _ _ _ _ _ _ _ _ _)
   | (with_reducible exact ih3 _ _ _ _ _ _ _ _ _ _ _ _ _ _ _ _ _)
   | (with_reducible exact ih4 _ _ _ _ _ _ _ _ _ _ _ _ _ _ _ _)
   | (with_reducible exact ih5 _ _ _ _ _ _ _ _ _ _ _ _ _ _ _ _ _)
   | (with_reducible exact ih6 _ _ _ _ _ _ _ _ _ _ _ _ _ _ _ _ _)
   | (with_reducible exact ih7 _ _ _ _ _ _ _ _ _ _ _ _ _ _ _ _ _ _)
   | (with_reducible exact ih8 _ _ _ _ _ _ _ _ _ _ _ _ _ _ _ _ _ _ _ _ _ _ _ _)
   | (with_reducible exact ih9 _ _ _ _ _ _ _ _ _ _ _ _ _ _ _ _ _ _ _ _ _ _ _)
   | (with_reducible exact plan_Locks.mono _ _ _ _ _ _ _ _ _ _ _ _ _)
   | (with_reducible exact quorumlaw0_Locks.mono _ _)
   | (with_reducible exact quorumlaw12_Heavy.mono _ _ _ _)
   | (with_reducible exact quorumref0_CopyPend.mono _ _ _)
   | (with_reducible exact quorumref0_EqLocks.mono _ _ _)
   | (with_reducible exact quorumref0_EqPend.mono _ _ _ _ _)
   | (with_reducible exact quorumref8_Pend.mono _ _ _)
   | (with_reducible exact LeO.refl _)
   | (with_reducible exact LeO.none _)
   | (with_reducible refine LeO.ite ?_ ?_)
   | (with_reducible refine LeO.bind ?_ (fun _ => ?_))
   | exact ih0 _ _ _ _ _ _
   | exact ih1 _ _ _ _ _ _ _
   | exact ih2 _ _ _ _ _ _ _ _ _ _ _ _ _ _ _ _
   | exact ih3 _ _ _ _ _ _ _ _ _ _ _ _ _ _ _ _ _
   | exact ih4 _ _ _ _ _ _ _ _ _ _ _ _ _ _ _ _
   | exact ih5 _ _ _ _ _ _ _ _ _ _ _ _ _ _ _ _ _
   | exact ih6 _ _ _ _ _ _ _ _ _ _ _ _ _ _ _ _ _
   | exact ih7 _ _ _ _ _ _ _ _ _ _ _ _ _ _ _ _ _ _
   | exact ih8 _ _ _ _ _ _ _ _ _ _ _ _ _ _ _ _ _ _ _ _ _ _ _ _
   | exact ih9 _ _ _ _ _ _ _ _ _ _ _ _ _ _ _ _ _ _ _ _ _ _ _
   | exact plan_Locks.mono _ _ _ _ _ _ _ _ _ _ _ _ _
   | exact quorumlaw0_Locks.mono _ _
   | exact quorumlaw12_Heavy.mono _ _ _ _
   | exact quorumref0_CopyPend.mono _ _ _
   | exact quorumref0_EqLocks.mono _ _ _
   | exact quorumref0_EqPend.mono _ _ _ _ _
   | exact quorumref8_Pend.mono _ _ _
   | exact LeO.none _
   | refine LeO.ite ?_ ?_
   | refine LeO.bind ?_ (fun _ => ?_)
  ·intro y0 y1 y2 y3 y4 y5 y6 y7 y8 y9 y10 y11 y12 y13 y14 y15
   unfold quorumlaw12_PlanLocks.l2
   repeat' first
   | (with_reducible exact ih0 _ _ _ _ _ _)
   | (with_reducible exact ih1 _ _ _ _ _ _ _)
   | (with_reducible exact ih2 _ _ _ _ _ _ _ _ _ _ _ _ _ _ _ _)
   | (with_reducible exact ih3 _ _ _ _ _ _ _ _ _ _ _ _ _ _ _ _ _)
   | (with_reducible exact ih4 _ _ _ _ _ _ _ _ _ _ _ _ _ _ _ _)
   | (with_reducible exact ih5 _ _ _ _ _ _ _ _ _ _ _ _ _ _ _ _ _)
   | (with_reducible exact ih6 _ _ _ _ _ _ _ _ _ _ _ _ _ _ _ _ _)
   | (with_reducible exact ih7 _ _ _ _ _ _ _ _ _ _ _ _ _ _ _ _ _ _)
   | (with_reducible exact ih8 _ _ _ _ _ _ _ _ _ _ _ _ _ _ _ _ _ _ _ _ _ _ _ _)
   | (with_reducible exact ih9 _ _ _ _ _ _ _ _ _ _ _ _ _ _ _ _ _ _ _ _ _ _ _)
   | (with_reducible exact plan_Locks.mono _ _ _ _ _ _ _ _ _ _ _ _ _)
   | (with_reducible exact quorumlaw0_Locks.mono _ _)
   | (with_reducible exact quorumlaw12_Heavy.mono _ _ _ _)
   | (with_reducible exact quorumref0_CopyPend.mono _ _ _)
   | (with_reducible exact quorumref0_EqLocks.mono _ _ _)
   | (with_reducible exact quorumref0_EqPend.mono _ _ _ _ _)
   | (with_reducible exact quorumref8_Pend.mono _ _ _)
   | (with_reducible exact LeO.refl _)
   | (with_reducible exact LeO.none _)
   | (with_reducible refine LeO.ite ?_ ?_)
   | (with_reducible refine LeO.bind ?_ (fun _ => ?_))
   | exact ih0 _ _ _ _ _ _
   | exact ih1 _ _ _ _ _ _ _
   | exact ih2 _ _ _ _ _ _ _ _ _ _ _ _ _ _ _ _
   | exact ih3 _ _ _ _ _ _ _ _ _ _ _ _ _ _ _ _ _
   | exact ih4 _ _ _ _ _ _ _ _ _ _ _ _ _ _ _ _
   | exact ih5 _ _ _ _ _ _ _ _ _ _ _ _ _ _ _ _ _
   | exact ih6 _ _ _ _ _ _ _ _ _ _ _ _ _ _ _ _ _
   | exact ih7 _ _ _ _ _ _ _ _ _ _ _ _ _ _ _ _ _ _
   | exact ih8 _ _ _ _ _ _ _ _ _ _ _ _ _ _ _ _ _ _ _ _ _ _ _ _
   | exact ih9 _ _ _ _ _ _ _ _ _ _ _ _ _ _ _ _ _ _ _ _ _ _ _
   | exact plan_Locks.mono _ _ _ _ _ _ _ _ _ _ _ _ _
   | exact quorumlaw0_Locks.mono _ _
   | exact quorumlaw12_Heavy.mono _ _ _ _
   | exact quorumref0_CopyPend.mono _ _ _
   | exact quorumref0_EqLocks.mono _ _ _
   | exact quorumref0_EqPend.mono _ _ _ _ _
   | exact quorumref8_Pend.mono _ _ _
   | exact LeO.none _
   | refine LeO.ite ?_ ?_
   | refine LeO.bind ?_ (fun _ => ?_)
  ·intro y0 y1 y2 y3 y4 y5 y6 y7 y8 y9 y10 y11 y12 y13 y14 y15 y16
   unfold quorumlaw12_PlanLocks.j5
   repeat' first
   | (with_reducible exact ih0 _ _ _ _ _ _)
   | (with_reducible exact ih1 _ _ _ _ _ _ _)
   | (with_reducible exact ih2 _ _ _ _ _ _ _ _ _ _ _ _ _ _ _ _)
   | (with_reducible exact ih3 _ _ _ _ _ _ _ _ _ _ _ _ _ _ _ _ _)
   | (with_reducible exact ih4 _ _ _ _ _ _ _ _ _ _ _ _ _ _ _ _)
   | (with_reducible exact ih5 _ _ _ _ _ _ _ _ _ _ _ _ _ _ _ _ _)
   | (with_reducible exact ih6 _ _ _ _ _ _ _ _ _ _ _ _ _ _ _ _ _)
   | (with_reducible exact ih7 _ _ _ _ _ _ _ _ _ _ _ _ _ _ _ _ _ _)
   | (with_reducible exact ih8 _ _ _ _ _ _ _ _ _ _ _ _ _ _ _ _ _ _ _ _ _ _ _ _)
   | (with_reducible exact ih9 _ _ _ _ _ _ _ _ _ _ _ _ _ _ _ _ _ _ _ _ _ _ _)
   | (with_reducible exact plan_Locks.mono _ _ _ _ _ _ _ _ _ _ _ _ _)
   | (with_reducible exact quorumlaw0_Locks.mono _ _)
   | (with_reducible exact quorumlaw12_Heavy.mono _ _ _ _)
   | (with_reducible exact quorumref0_CopyPend.mono _ _ _)
   | (with_reducible exact quorumref0_EqLocks.mono _ _ _)
   | (with_reducible exact quorumref0_EqPend.mono _ _ _ _ _)
   | (with_reducible exact quorumref8_Pend.mono _ _ _)
   | (with_reducible exact LeO.refl _)
   | (with_reducible exact LeO.none _)
   | (with_reducible refine LeO.ite ?_ ?_)
   | (with_reducible refine LeO.bind ?_ (fun _ => ?_))
   | exact ih0 _ _ _ _ _ _
   | exact ih1 _ _ _ _ _ _ _
   | exact ih2 _ _ _ _ _ _ _ _ _ _ _ _ _ _ _ _
   | exact ih3 _ _ _ _ _ _ _ _ _ _ _ _ _ _ _ _ _
   | exact ih4 _ _ _ _ _ _ _ _ _ _ _ _ _ _ _ _
   | exact ih5 _ _ _ _ _ _ _ _ _ _ _ _ _ _ _ _ _
   | exact ih6 _ _ _ _ _ _ _ _ _ _ _ _ _ _ _ _ _
   | exact ih7 _ _ _ _ _ _ _ _ _ _ _ _ _ _ _ _ _ _
   | exact ih8 _ _ _ _ _ _ _ _ _ _ _ _ _ _ _ _ _ _ _ _ _ _ _ _
   | exact ih9 _ _ _ _ _ _ _ _ _ _ _ _ _ _ _ _ _ _ _ _ _ _ _
   | exact plan_Locks.mono _ _ _ _ _ _ _ _ _ _ _ _ _
   | exact quorumlaw0_Locks.mono _ _
   | exact quorumlaw12_Heavy.mono _ _ _ _
   | exact quorumref0_CopyPend.mono _ _ _
   | exact quorumref0_EqLocks.mono _ _ _
   | exact quorumref0_EqPend.mono _ _ _ _ _
   | exact quorumref8_Pend.mono _ _ _
   | exact LeO.none _
   | refine LeO.ite ?_ ?_
   | refine LeO.bind ?_ (fun _ => ?_)
  ·intro y0 y1 y2 y3 y4 y5 y6 y7 y8 y9 y10 y11 y12 y13 y14 y15 y16
   unfold quorumlaw12_PlanLocks.l3
   repeat' first
   | (with_reducible exact ih0 _ _ _ _ _ _)
   | (with_reducible exact ih1 _ _ _ _ _ _ _)
   | (with_reducible exact ih2 _ _ _ _ _ _ _ _ _ _ _ _ _ _ _ _)
   | (with_reducible exact ih3 _ _ _ _ _ _ _ _ _ _ _ _ _ _ _ _ _)
   | (with_reducible exact ih4 _ _ _ _ _ _ _ _ _ _ _ _ _ _ _ _)
   | (with_reducible exact ih5 _ _ _ _ _ _ _ _ _ _ _ _ _ _ _ _ _)
   | (with_reducible exact ih6 _ _ _ _ _ _ _ _ _ _ _ _ _ _ _ _ _)
   | (with_reducible exact ih7 _ _ _ _ _ _ _ _ _ _ _ _ _ _ _ _ _ _)
   | (with_reducible exact ih8 _ _ _ _ _ _ _ _ _ _ _ _ _ _ _ _ _ _ _ _ _ _ _ _)
   | (with_reducible exact ih9 _ _ _ _ _ _ _ _ _ _ _ _ _ _ _ _ _ _ _ _ _ _ _)
   | (with_reducible exact plan_Locks.mono _ _ _ _ _ _ _ _ _ _ _ _ _)
   | (with_reducible exact quorumlaw0_Locks.mono _ _)
   | (with_reducible exact quorumlaw12_Heavy.mono _ _ _ _)
   | (with_reducible exact quorumref0_CopyPend.mono _ _ _)
   | (with_reducible exact quorumref0_EqLocks.mono _ _ _)
   | (with_reducible exact quorumref0_EqPend.mono _ _ _ _ _)
   | (with_reducible exact quorumref8_Pend.mono _ _ _)
   | (with_reducible exact LeO.refl _)
   | (with_reducible exact LeO.none _)
   | (with_reducible refine LeO.ite ?_ ?_)
   | (with_reducible refine LeO.bind ?_ (fun _ => ?_))
   | exact ih0 _ _ _ _ _ _
   | exact ih1 _ _ _ _ _ _ _
   | exact ih2 _ _ _ _ _ _ _ _ _ _ _ _ _ _ _ _
   | exact ih3 _ _ _ _ _ _ _ _ _ _ _ _ _ _ _ _ _
   | exact ih4 _ _ _ _ _ _ _ _ _ _ _ _ _ _ _ _
   | exact ih5 _ _ _ _ _ _ _ _ _ _ _ _ _ _ _ _ _
   | exact ih6 _ _ _ _ _ _ _ _ _ _ _ _ _ _ _ _ _
   | exact ih7 _ _ _ _ _ _ _ _ _ _ _ _ _ _ _ _ _ _
   | exact ih8 _ _ _ _ _ _ _ _ _ _ _ _ _ _ _ _ _ _ _ _ _ _ _ _
   | exact ih9 _ _ _ _ _ _ _ _ _ _ _ _ _ _ _ _ _ _ _ _ _ _ _
   | exact plan_Locks.mono _ _ _ _ _ _ _ _ _ _ _ _ _
   | exact quorumlaw0_Locks.mono _ _
   | exact quorumlaw12_Heavy.mono _ _ _ _
   | exact quorumref0_CopyPend.mono _ _ _
   | exact quorumref0_EqLocks.mono _ _ _
   | exact quorumref0_EqPend.mono _ _ _ _ _
   | exact quorumref8_Pend.mono _ _ _
   | exact LeO.none _
   | refine LeO.ite ?_ ?_
   | refine LeO.bind ?_ (fun _ => ?_)
  ·intro y0 y1 y2 y3 y4 y5 y6 y7 y8 y9 y10 y11 y12 y13 y14 y15 y16 y17
   unfold quorumlaw12_PlanLocks.j7
   repeat' first
   | (with_reducible exact ih0 _ _ _ _ _ _)
   | (with_reducible exact ih1 _ _ _ _ _ _ _)
   | (with_reducible exact ih2 _ _ _ _ _ _ _ _ _ _ _ _ _ _ _ _)
   | (with_reducible exact ih3 _ _ _ _ _ _ _ _ _ _ _ _ _ _ _ _ _)
   | (with_reducible exact ih4 _ _ _ _ _ _ _ _ _ _ _ _ _ _ _ _)
   | (with_reducible exact ih5 _ _ _ _ _ _ _ _ _ _ _ _ _ _ _ _ _)
   | (with_reducible exact ih6 _ _ _ _ _ _ _ _ _ _ _ _ _ _ _ _ _)
   | (with_reducible exact ih7 _ _ _ _ _ _ _ _ _ _ _ _ _ _ _ _ _ _)
   | (with_reducible exact ih8 _ _ _ _ _ _ _ _ _ _ _ _ _ _ _ _ _ _ _ _ _ _ _ _)
   | (with_reducible exact ih9 _ _ _ _ _ _ _ _ _ _ _ _ _ _ _ _ _ _ _ _ _ _ _)
   | (with_reducible exact plan_Locks.mono _ _ _ _ _ _ _ _ _ _ _ _ _)
   | (with_reducible exact quorumlaw0_Locks.mono _ _)
   | (with_reducible exact quorumlaw12_Heavy.mono _ _ _ _)
   | (with_reducible exact quorumref0_CopyPend.mono _ _ _)
   | (with_reducible exact quorumref0_EqLocks.mono _ _ _)
   | (with_reducible exact quorumref0_EqPend.mono _ _ _ _ _)
   | (with_reducible exact quorumref8_Pend.mono _ _ _)
   | (with_reducible exact LeO.refl _)
   | (with_reducible exact LeO.none _)
   | (with_reducible refine LeO.ite ?_ ?_)
   | (with_reducible refine LeO.bind ?_ (fun _ => ?_))
   | exact ih0 _ _ _ _ _ _
   | exact ih1 _ _ _ _ _ _ _
   | exact ih2 _ _ _ _ _ _ _ _ _ _ _ _ _ _ _ _
   | exact ih3 _ _ _ _ _ _ _ _ _ _ _ _ _ _ _ _ _
   | exact ih4 _ _ _ _ _ _ _ _ _ _ _ _ _ _ _ _
   | exact ih5 _ _ _ _ _ _ _ _ _ _ _ _ _ _ _ _ _
   | exact ih6 _ _ _ _ _ _ _ _ _ _ _ _ _ _ _ _ _
   | exact ih7 _ _ _ _ _ _ _ _ _ _ _ _ _ _ _ _ _ _
   | exact ih8 _ _ _ _ _ _ _ _ _ _ _ _ _ _ _ _ _ _ _ _ _ _ _ _
   | exact ih9 _ _ _ _ _ _ _ _ _ _ _ _ _ _ _ _ _ _ _ _ _ _ _
   | exact plan_Locks.mono _ _ _ _ _ _ _ _ _ _ _ _ _
   | exact quorumlaw0_Locks.mono _ _
   | exact quorumlaw12_Heavy.mono _ _ _ _
   | exact quorumref0_CopyPend.mono _ _ _
   | exact quorumref0_EqLocks.mono _ _ _
   | exact quorumref0_EqPend.mono _ _ _ _ _
   | exact quorumref8_Pend.mono _ _ _
   | exact LeO.none _
   | refine LeO.ite ?_ ?_
   | refine LeO.bind ?_ (fun _ => ?_)
  ·intro y0 y1 y2 y3 y4 y5 y6 y7 y8 y9 y10 y11 y12 y13 y14 y15 y16 y17 y18 y19 y20 y21 y22 y23
   unfold quorumlaw12_PlanLocks.j8
   repeat' first
   | (with_reducible exact ih0 _ _ _ _ _ _)
   | (with_reducible exact ih1 _ _ _ _ _ _ _)
   | (with_reducible exact ih2 _ _ _ _ _ _ _ _ _ _ _ _ _ _ _ _)
   | (with_reducible exact ih3 _ _ _ _ _ _ _ _ _ _ _ _ _ _ _ _ _)
   | (with_reducible exact ih4 _ _ _ _ _ _ _ _ _ _ _ _ _ _ _ _)
   | (with_reducible exact ih5 _ _ _ _ _ _ _ _ _ _ _ _ _ _ _ _ _)
   | (with_reducible exact ih6 _ _ _ _ _ _ _ _ _ _ _ _ _ _ _ _ _)
   | (with_reducible exact ih7 _ _ _ _ _ _ _ _ _ _ _ _ _ _ _ _ _ _)
   | (with_reducible exact ih8 _ _ _ _ _ _ _ _ _ _ _ _ _ _ _ _ _ _ _ _ _ _ _ _)
   | (with_reducible exact ih9 _ _ _ _ _ _ _ _ _ _ _ _ _ _ _ _ _ _ _ _ _ _ _)
   | (with_reducible exact plan_Locks.mono _ _ _ _ _ _ _ _ _ _ _ _ _)
   | (with_reducible exact quorumlaw0_Locks.mono _ _)
   | (with_reducible exact quorumlaw12_Heavy.mono _ _ _ _)
   | (with_reducible exact quorumref0_CopyPend.mono _ _ _)
   | (with_reducible exact quorumref0_EqLocks.mono _ _ _)
   | (with_reducible exact quorumref0_EqPend.mono _ _ _ _ _)
   | (with_reducible exact quorumref8_Pend.mono _ _ _)
   | (with_reducible exact LeO.refl _)
   | (with_reducible exact LeO.none _)
   | (with_reducible refine LeO.ite ?_ ?_)
   | (with_reducible refine LeO.bind ?_ (fun _ => ?_))
   | exact ih0 _ _ _ _ _ _
   | exact ih1 _ _ _ _ _ _ _
   | exact ih2 _ _ _ _ _ _ _ _ _ _ _ _ _ _ _ _
   | exact ih3 _ _ _ _ _ _ _ _ _ _ _ _ _ _ _ _ _
   | exact ih4 _ _ _ _ _ _ _ _ _ _ _ _ _ _ _ _
   | exact ih5 _ _ _ _ _ _ _ _ _ _ _ _ _ _ _ _ _
   | exact ih6 _ _ _ _ _ _ _ _ _ _ _ _ _ _ _ _ _
   | exact ih7 _ _ _ _ _ _ _ _ _ _ _ _ _ _ _ _ _ _
   | exact ih8 _ _ _ _ _ _ _ _ _ _ _ _ _ _ _ _ _ _ _ _ _ _ _ _
   | exact ih9 _ _ _ _ _ _ _ _ _ _ _ _ _ _ _ _ _ _ _ _ _ _ _
   | exact plan_Locks.mono _ _ _ _ _ _ _ _ _ _ _ _ _
   | exact quorumlaw0_Locks.mono _ _
   | exact quorumlaw12_Heavy.mono _ _ _ _
   | exact quorumref0_CopyPend.mono _ _ _
   | exact quorumref0_EqLocks.mono _ _ _
   | exact quorumref0_EqPend.mono _ _ _ _ _
   | exact quorumref8_Pend.mono _ _ _
   | exact LeO.none _
   | refine LeO.ite ?_ ?_
   | refine LeO.bind ?_ (fun _ => ?_)
  ·intro y0 y1 y2 y3 y4 y5 y6 y7 y8 y9 y10 y11 y12 y13 y14 y15 y16 y17 y18 y19 y20 y21 y22
   unfold quorumlaw12_PlanLocks.j9
   repeat' first
   | (with_reducible exact ih0 _ _ _ _ _ _)
   | (with_reducible exact ih1 _ _ _ _ _ _ _)
   | (with_reducible exact ih2 _ _ _ _ _ _ _ _ _ _ _ _ _ _ _ _)
   | (with_reducible exact ih3 _ _ _ _ _ _ _ _ _ _ _ _ _ _ _ _ _)
   | (with_reducible exact ih4 _ _ _ _ _ _ _ _ _ _ _ _ _ _ _ _)
   | (with_reducible exact ih5 _ _ _ _ _ _ _ _ _ _ _ _ _ _ _ _ _)
   | (with_reducible exact ih6 _ _ _ _ _ _ _ _ _ _ _ _ _ _ _ _ _)
   | (with_reducible exact ih7 _ _ _ _ _ _ _ _ _ _ _ _ _ _ _ _ _ _)
   | (with_reducible exact ih8 _ _ _ _ _ _ _ _ _ _ _ _ _ _ _ _ _ _ _ _ _ _ _ _)
   | (with_reducible exact ih9 _ _ _ _ _ _ _ _ _ _ _ _ _ _ _ _ _ _ _ _ _ _ _)
   | (with_reducible exact plan_Locks.mono _ _ _ _ _ _ _ _ _ _ _ _ _)
   | (with_reducible exact quorumlaw0_Locks.mono _ _)
   | (with_reducible exact quorumlaw12_Heavy.mono _ _ _ _)
   | (with_reducible exact quorumref0_CopyPend.mono _ _ _)
   | (with_reducible exact quorumref0_EqLocks.mono _ _ _)
   | (with_reducible exact quorumref0_EqPend.mono _ _ _ _ _)
   | (with_reducible exact quorumref8_Pend.mono _ _ _)
   | (with_reducible exact LeO.refl _)
   | (with_reducible exact LeO.none _)
   | (with_reducible refine LeO.ite ?_ ?_)
   | (with_reducible refine LeO.bind ?_ (fun _ => ?_))
   | exact ih0 _ _ _ _ _ _
   | exact ih1 _ _ _ _ _ _ _
   | exact ih2 _ _ _ _ _ _ _ _ _ _ _ _ _ _ _ _
   | exact ih3 _ _ _ _ _ _ _ _ _ _ _ _ _ _ _ _ _
   | exact ih4 _ _ _ _ _ _ _ _ _ _ _ _ _ _ _ _
   | exact ih5 _ _ _ _ _ _ _ _ _ _ _ _ _ _ _ _ _
   | exact ih6 _ _ _ _ _ _ _ _ _ _ _ _ _ _ _ _ _
   | exact ih7 _ _ _ _ _ _ _ _ _ _ _ _ _ _ _ _ _ _
   | exact ih8 _ _ _ _ _ _ _ _ _ _ _ _ _ _ _ _ _ _ _ _ _ _ _ _
   | exact ih9 _ _ _ _ _ _ _ _ _ _ _ _ _ _ _ _ _ _ _ _ _ _ _
   | exact plan_Locks.mono _ _ _ _ _ _ _ _ _ _ _ _ _
   | exact quorumlaw0_Locks.mono _ _
   | exact quorumlaw12_Heavy.mono _ _ _ _
   | exact quorumref0_CopyPend.mono _ _ _
   | exact quorumref0_EqLocks.mono _ _ _
   | exact quorumref0_EqPend.mono _ _ _ _ _
   | exact quorumref8_Pend.mono _ _ _
   | exact LeO.none _
   | refine LeO.ite ?_ ?_
   | refine LeO.bind ?_ (fun _ => ?_)
theorem quorumlaw12_PlanLocks.mono : ∀ a0 a1 a2 k, LeO (quorumlaw12_PlanLocks.f k a0 a1 a2) (quorumlaw12_PlanLocks.f (k + 1) a0 a1 a2) := by
 intro a0 a1 a2 k
 obtain ⟨ih0, ih1, ih2, ih3, ih4, ih5, ih6, ih7, ih8, ih9⟩ := quorumlaw12_PlanLocks.mono_l k
 unfold quorumlaw12_PlanLocks.f
 repeat' first
   | (with_reducible exact ih0 _ _ _ _ _ _)
   | (with_reducible exact ih1 _ _ _ _ _ _ _)
   | (with_reducible exact ih2 _ _ _ _ _ _ _ _ _ _ _ _ _ _ _ _)
   | (with_reducible exact ih3 _ _ _ _ _ _ _ _ _ _ _ _ _ _ _ _ _)
   | (with_reducible exact ih4 _ _ _ _ _ _ _ _ _ _ _ _ _ _ _ _)
   | (with_reducible exact ih5 _ _ _ _ _ _ _ _ _ _ _ _ _ _ _ _ _)
   | (with_reducible exact ih6 _ _ _ _ _ _ _ _ _ _ _ _ _ _ _ _ _)
   | (with_reducible exact ih7 _ _ _ _ _ _ _ _ _ _ _ _ _ _ _ _ _ _)
   | (with_reducible exact ih8 _ _ _ _ _ _ _ _ _ _ _ _ _ _ _ _ _ _ _ _ _ _ _ _)
   | (with_reducible exact ih9 _ _ _ _ _ _ _ _ _ _ _ _ _ _ _ _ _ _ _ _ _ _ _)
   | (with_reducible exact plan_Locks.mono _ _ _ _ _ _ _ _ _ _ _ _ _)
   | (with_reducible exact quorumlaw0_Locks.mono _ _)
   | (with_reducible exact quorumlaw12_Heavy.mono _ _ _ _)
   | (with_reducible exact quorumref0_CopyPend.mono _ _ _)
   | (with_reducible exact quorumref0_EqLocks.mono _ _ _)
   | (with_reducible exact quorumref0_EqPend.mono _ _ _ _ _)
   | (with_reducible exact quorumref8_Pend.mono _ _ _)
   | (with_reducible exact LeO.refl _)
   | (with_reducible exact LeO.none _)
   | (with_reducible refine LeO.ite ?_ ?_)
   | (with_reducible refine LeO.bind ?_ (fun _ => ?_))
   | exact ih0 _ _ _ _ _ _
   | exact ih1 _ _ _ _ _ _ _
   | exact ih2 _ _ _ _ _ _ _ _ _ _ _ _ _ _ _ _
   | exact ih3 _ _ _ _ _ _ _ _ _ _ _ _ _ _ _ _ _
   | exact ih4 _ _ _ _ _ _ _ _ _ _ _ _ _ _ _ _
   | exact ih5 _ _ _ _ _ _ _ _ _ _ _ _ _ _ _ _ _
   | exact ih6 _ _ _ _ _ _ _ _ _ _ _ _ _ _ _ _ _
   | exact ih7 _ _ _ _ _ _ _ _ _ _ _ _ _ _ _ _ _ _
   | exact ih8 _ _ _ _ _ _ _ _ _ _ _ _ _ _ _ _ _ _ _ _ _ _ _ _
   | exact ih9 _ _ _ _ _ _ _ _ _ _ _ _ _ _ _ _ _ _ _ _ _ _ _
   | exact plan_Locks.mono _ _ _ _ _ _ _ _ _ _ _ _ _
   | exact quorumlaw0_Locks.mono _ _
   | exact quorumlaw12_Heavy.mono _ _ _ _
   | exact quorumref0_CopyPend.mono _ _ _
   | exact quorumref0_EqLocks.mono _ _ _
   | exact quorumref0_EqPend.mono _ _ _ _ _
   | exact quorumref8_Pend.mono _ _ _
   | exact LeO.none _
   | refine LeO.ite ?_ ?_
   | refine LeO.bind ?_ (fun _ => ?_)
def quorumlaw12_PlanLocks.T24 : Bool × List (List Nat × List Nat) := (true, [([], []), ([], []), ([], []), ([], []), ([2, 3], [2, 3]), ([4], [4]), ([0, 1, 5], [0, 1, 5]), ([6], [6]), ([7], [7]), ([7], [7]), ([8, 6, 0, 1, 2, 3, 4, 5, 6, 7, 8], [8]), ([9, 10, 0, 1, 2, 3, 4, 5, 6, 7, 8, 9, 10], [9])])
def quorumlaw12_PlanLocks.B24 : List Nat := [0, 0, 0, 0, 12, 28, 63, 127, 255, 255, 511, 2047]
theorem quorumlaw12_PlanLocks.tab24 : rtab .any (opsOf Try.f31 24) = quorumlaw12_PlanLocks.T24 := by kernel_rfl
theorem quorumlaw12_PlanLocks.bits24 : waitsOk quorumlaw12_PlanLocks.T24.2 quorumlaw12_PlanLocks.B24 = true := by kernel_rfl
def quorumlaw12_PlanLocks.T28 : Bool × List (List Nat × List Nat) := (true, [([], []), ([], []), ([], []), ([1, 2], [1, 2]), ([3], [3]), ([], []), ([], []), ([5, 6], [5, 6]), ([7], [7]), ([0, 4, 8], [0, 4, 8]), ([9], []), ([9, 10, 0, 1, 2, 3, 4, 5, 6, 7, 8, 9, 10], [9])])
def quorumlaw12_PlanLocks.B28 : List Nat := [0, 0, 0, 6, 14, 0, 0, 96, 224, 511, 1023, 2047]
theorem quorumlaw12_PlanLocks.tab28 : rtab .any (opsOf Try.f31 28) = quorumlaw12_PlanLocks.T28 := by kernel_rfl
theorem quorumlaw12_PlanLocks.bits28 : waitsOk quorumlaw12_PlanLocks.T28.2 quorumlaw12_PlanLocks.B28 = true := by kernel_rfl
def quorumlaw12_PlanLocks.T29 : Bool × List (List Nat × List Nat) := (true, [([], []), ([0], [0]), ([], []), ([1, 2], [1, 2]), ([3, 1], [3]), ([4], [4]), ([4], [4]), ([5, 6, 4, 4], [4, 5, 6]), ([7, 4], [4, 7]), ([4, 8], [4, 8]), ([9, 7], [9]), ([10], [10]), ([10], [10]), ([10], [10]), ([12, 13, 10], [10, 12, 13]), ([14, 10], [10, 14]), ([11, 15, 10, 10], [10, 11, 15]), ([16, 10], [10, 16]), ([10, 17], [10, 17])])
def quorumlaw12_PlanLocks.B29 : List Nat := [0, 1, 0, 7, 15, 31, 31, 127, 255, 511, 1023, 2047, 2047, 2047, 14335, 30719, 65535, 131071, 262143]
theorem quorumlaw12_PlanLocks.tab29 : rtab .any (opsOf Try.f31 29) = quorumlaw12_PlanLocks.T29 := by kernel_rfl
theorem quorumlaw12_PlanLocks.bits29 : waitsOk quorumlaw12_PlanLocks.T29.2 quorumlaw12_PlanLocks.B29 = true := by kernel_rfl

end Go.Proofs.Ytlnplaajhalekaa.PLk
