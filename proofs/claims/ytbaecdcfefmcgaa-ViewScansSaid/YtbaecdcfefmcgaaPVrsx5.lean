-- PRINTED by print.py (a twelfth state) out of the translation. Not trusted: Lean checks it.
import Derived.Test.YtbaecdcfefmcgaaPVrsx0
import Derived.Test.YtbaecdcfefmcgaaPVrsx2
import Derived.Test.YtbaecdcfefmcgaaPVrsx3
import Derived.Test.YtbaecdcfefmcgaaPVrsx4
namespace Go.Proofs.Ytbaecdcfefmcgaa.PVrs
open Go.RowKit Go.Proofs.YtbaecdcfefmcgaaW.PrintWords Go.Proofs.YtbaecdcfefmcgaaW.PrintLast Go.Proofs.YtbaecdcfefmcgaaW.PrintMore
attribute [local go_sem] max2_int min2_int max_two min_two max_three min_three max_four min_four   -- for this text's walks alone
set_option linter.unusedVariables false
set_option linter.unusedSimpArgs false

/-! ### quorumlaw0_WritesWeight: function 36 -/
mutual
def quorumlaw0_WritesWeight.l0 : Nat → List (S36) → Int → Int → Option (Int)
 | 0, _, _, _ => none
 | k + 1, x0, x3, x4 => if x4 < (x0.length : Int) then (quorumlaw0_WritesWeight.j1 k x0 x3 x4 (decide (x3 < 1048576))) else (quorumlaw0_WritesWeight.j1 k x0 x3 x4 false)
def quorumlaw0_WritesWeight.j1 : Nat → List (S36) → Int → Int → Bool → Option (Int)
 | 0, _, _, _, _ => none
 | k + 1, x0, x3, x4, x14 => if x14 = true then (if 0 ≤ x4 then (if x4 < (x0.length : Int) then (quorumlaw0_WritesWeight.l0 k x0 (wrap64 (x3 + (wrap64 (Int.tdiv (wrap64 ((((rd_T36 x0 x4).f1).size : Int) + (((rd_T36 x0 x4).f2).size : Int))) 8)))) (wrap64 (x4 + 1))) else (none)) else (none)) else (some x3)
end
def quorumlaw0_WritesWeight.f (k : Nat) (l0 : List (S36)) : Option (Int) := quorumlaw0_WritesWeight.l0 k l0 (l0.length : Int) 0
theorem quorumlaw0_WritesWeight.mono_l : ∀ k, (∀ y0 y1 y2, LeO (quorumlaw0_WritesWeight.l0 k y0 y1 y2) (quorumlaw0_WritesWeight.l0 (k + 1) y0 y1 y2)) ∧ (∀ y0 y1 y2 y3, LeO (quorumlaw0_WritesWeight.j1 k y0 y1 y2 y3) (quorumlaw0_WritesWeight.j1 (k + 1) y0 y1 y2 y3))
 | 0 => ⟨fun _ _ _ r h => by simp [quorumlaw0_WritesWeight.l0] at h, fun _ _ _ _ r h => by simp [quorumlaw0_WritesWeight.j1] at h⟩
 | k + 1 => by
  obtain ⟨ih0, ih1⟩ := quorumlaw0_WritesWeight.mono_l k
  refine ⟨?_, ?_⟩
  ·intro y0 y1 y2
   unfold quorumlaw0_WritesWeight.l0
   repeat' first
   | (with_reducible exact ih0 _ _ _)
   | (with_reducible exact ih1 _ _ _ _)
   | (with_reducible exact LeO.refl _)
   | (with_reducible exact LeO.none _)
   | (with_reducible refine LeO.ite ?_ ?_)
   | (with_reducible refine LeO.bind ?_ (fun _ => ?_))
   | exact ih0 _ _ _
   | exact ih1 _ _ _ _
   | exact LeO.none _
   | refine LeO.ite ?_ ?_
   | refine LeO.bind ?_ (fun _ => ?_)
  ·intro y0 y1 y2 y3
   unfold quorumlaw0_WritesWeight.j1
   repeat' first
   | (with_reducible exact ih0 _ _ _)
   | (with_reducible exact ih1 _ _ _ _)
   | (with_reducible exact LeO.refl _)
   | (with_reducible exact LeO.none _)
   | (with_reducible refine LeO.ite ?_ ?_)
   | (with_reducible refine LeO.bind ?_ (fun _ => ?_))
   | exact ih0 _ _ _
   | exact ih1 _ _ _ _
   | exact LeO.none _
   | refine LeO.ite ?_ ?_
   | refine LeO.bind ?_ (fun _ => ?_)
theorem quorumlaw0_WritesWeight.mono : ∀ a0 k, LeO (quorumlaw0_WritesWeight.f k a0) (quorumlaw0_WritesWeight.f (k + 1) a0) := by
 intro a0 k
 obtain ⟨ih0, ih1⟩ := quorumlaw0_WritesWeight.mono_l k
 unfold quorumlaw0_WritesWeight.f
 repeat' first
   | (with_reducible exact ih0 _ _ _)
   | (with_reducible exact ih1 _ _ _ _)
   | (with_reducible exact LeO.refl _)
   | (with_reducible exact LeO.none _)
   | (with_reducible refine LeO.ite ?_ ?_)
   | (with_reducible refine LeO.bind ?_ (fun _ => ?_))
   | exact ih0 _ _ _
   | exact ih1 _ _ _ _
   | exact LeO.none _
   | refine LeO.ite ?_ ?_
   | refine LeO.bind ?_ (fun _ => ?_)
set_option maxHeartbeats 8000000 in
set_option maxRecDepth 100000 in
theorem quorumlaw0_WritesWeight.calls (k : Nat) (A0 : Option Addr) (c0 : Nat) (l0 : List (S36)) (r : Int) (w : World) (hr0 : Kd.C k36 w A0 l0.length l0) (hc0 : l0.length ≤ c0) (h : quorumlaw0_WritesWeight.f k l0 = some r) :
  Calls Try.prog 36 #[.slice A0 l0.length c0] w fun e w' => e = .returned (.int .i64 r) ∧ Drawn0 w w' := by
 have HR0 := mk0 hr0
 have HC0 := mk0 hc0
 clear hr0 hc0
 have H : (quorumlaw0_WritesWeight.l0 k l0 (l0.length : Int) 0) = some r := h
 clear h
 have H' := mk0 H
 clear H
 go_enter Try.func36, Try.ntmps36
 go_wp2
 repeat (go_quiet (fail); try go_wp2)
 go_loopg [3, 4] k (fun kq v3 v4 w' => ∃ (x3_1 : Int) (x4_1 : Int), v3 = .int .i64 x3_1 ∧ v4 = .int .i64 x4_1 ∧ Fc (quorumlaw0_WritesWeight.l0 kq l0 x3_1 x4_1 = some r) ∧ Fc (kq ≤ k) ∧ Drawn0 w w')
 case atStart => exact ⟨((l0.length : Int)), (0), (by first | rfl | (simp; done) | (simp [*]; done)), (by first | rfl | (simp; done) | (simp [*]; done)), H', ⟨Nat.le_refl _⟩, by repeat (first | exact Drawn0.refl _ | apply Drawn0.step)⟩
 case round =>
  clear H'
  obtain ⟨x3_1, x4_1, rfl, rfl, HA, HK1, ⟨m1, rfl⟩⟩ := hrel
  cases gk with
  | zero => exact absurd HA.out (by simp [quorumlaw0_WritesWeight.l0])
  | succ k1 =>
   have H := HA.out
   clear HA
   simp only [quorumlaw0_WritesWeight.l0] at H
   as_aux_lemma =>
    have HC2 := mk0 H
    clear H
    go_upto_region 3 with (fail)
    repeat (go_quiet (fail); go_upto_region 3 with (fail))
    go_cut [14] (fun v14 wc => ∃ (kq : Nat) (x14_1 : Bool), v14 = .bool x14_1 ∧ Fc (quorumlaw0_WritesWeight.j1 kq l0 x3_1 x4_1 x14_1 = some r) ∧ Fc (kq ≤ k1) ∧ Drawn0 w wc)
    case first =>
     have H := HC2.out
     clear HC2
     by_cases c3 : x4_1 < (l0.length : Int)
     ·rw [if_pos c3] at H
      have c3b0 : decide (x4_1 < (l0.length : Int)) = true := decide_eq_true c3
      clear c3
      (first | rw [c3b0] | (simp only [i64_w, i32_w]; rw [c3b0]) | skip)
      have H' := mk0 H
      clear H
      go_wp2
      repeat (go_quiet (fail); try go_wp2)
      go_meet
      case rel => exact ⟨_, (decide (x3_1 < 1048576)), (by first | rfl | (simp; done) | (simp [*]; done)), H', ⟨by have := HK1.out; first | omega | exact Nat.le_refl _⟩, by repeat (first | exact Drawn0.refl _ | apply Drawn0.step)⟩
     ·rw [if_neg c3] at H
      have c3b0 : decide (x4_1 < (l0.length : Int)) = false := decide_eq_false c3
      clear c3
      (first | rw [c3b0] | (simp only [i64_w, i32_w]; rw [c3b0]) | skip)
      have H' := mk0 H
      clear H
      go_wp2
      repeat (go_quiet (fail); try go_wp2)
      go_meet
      case rel => exact ⟨_, (false), (by first | rfl | (simp; done) | (simp [*]; done)), H', ⟨by have := HK1.out; first | omega | exact Nat.le_refl _⟩, by repeat (first | exact Drawn0.refl _ | apply Drawn0.step)⟩
    case rest =>
     clear HC2
     try clear c3
     try clear c3b0
     obtain ⟨kq, x14_1, rfl, HA, HJ1, ⟨mc1, rfl⟩⟩ := hcut
     cases kq with
     | zero => exact absurd HA.out (by simp [quorumlaw0_WritesWeight.j1])
     | succ kj1 =>
      have H := HA.out
      clear HA
      simp only [quorumlaw0_WritesWeight.j1] at H
      as_aux_lemma =>
       by_cases c4 : x14_1 = true
       ·subst c4
        rw [if_pos rfl] at H
        by_cases c5 : 0 ≤ x4_1
        ·rw [if_pos c5] at H
         have c5b0 : decide (0 ≤ x4_1) = true := decide_eq_true c5
         clear c5
         by_cases c6 : x4_1 < (l0.length : Int)
         ·rw [if_pos c6] at H
          have c6b0 : decide (x4_1 < (l0.length : Int)) = true := decide_eq_true c6
          clear c6
          have H' := mk0 H
          clear H
          have p132 : 0 ≤ (x4_1 : Int) := of_decide_eq_true (by first | (with_reducible assumption) | assumption)
          have q132 : x4_1 < (l0.length : Int) := of_decide_eq_true (by first | (with_reducible assumption) | assumption)
          obtain ⟨ad132, e132, hx132_0, hx132_1, hx132_2, hx132_3⟩ := at_T36 HR0.out x4_1 p132 q132
          cases e132
          replace p132 := eq_true p132
          replace q132 := eq_true q132
          have p133 : 0 ≤ (x4_1 : Int) := of_decide_eq_true (by first | (with_reducible assumption) | assumption)
          have q133 : x4_1 < (l0.length : Int) := of_decide_eq_true (by first | (with_reducible assumption) | assumption)
          obtain ⟨ad133, e133, hx133_0, hx133_1, hx133_2, hx133_3⟩ := at_T36 HR0.out x4_1 p133 q133
          obtain rfl : ad132 = ad133 := (by injection e133)
          replace p133 := eq_true p133
          replace q133 := eq_true q133
          go_wp2
          repeat (go_quiet (fail); try go_wp2)
          go_roundg kj1
          case measure => have := HK1.out; have := HJ1.out; omega
          case rel => exact ⟨(wrap64 (x3_1 + (wrap64 (Int.tdiv (wrap64 ((((rd_T36 l0 x4_1).f1).size : Int) + (((rd_T36 l0 x4_1).f2).size : Int))) 8)))), (wrap64 (x4_1 + 1)), (by first | rfl | (simp; done) | (simp [*]; done)), (by first | rfl | (simp; done) | (simp [*]; done)), H', ⟨by have := HK1.out; have := HJ1.out; omega⟩, by repeat (first | exact Drawn0.refl _ | apply Drawn0.step)⟩
         ·rw [if_neg c6] at H
          exact absurd H (by simp)
        ·rw [if_neg c5] at H
         exact absurd H (by simp)
       ·replace c4 := Bool.eq_false_iff.mpr c4
        subst c4
        rw [if_neg (show ¬ (false = true) by decide)] at H
        obtain rfl := Option.some.inj H
        go_wp2
        repeat (go_quiet (fail); try go_wp2)
        go_ret
        exact ⟨by first | rfl | (simp; done) | (simp [*]; done), by repeat (first | exact Drawn0.refl _ | apply Drawn0.step)⟩

/-! ### quorumlaw11_Heavy: function 14 -/
mutual
def quorumlaw11_Heavy.l0 : Nat → Int → Int → List (S47) → List (S34) → List Int → List ByteArray → List (S74) → List Int → Option (Bool)
 | 0, _, _, _, _, _, _, _, _ => none
 | k + 1, x3, x4, x135000, x135001, x135002, x135003, x135004, x135005 => if x4 < (x135001.length : Int) then (quorumlaw11_Heavy.j1 k x3 x4 (decide (x3 < 1048576)) x135000 x135001 x135002 x135003 x135004 x135005) else (quorumlaw11_Heavy.j1 k x3 x4 false x135000 x135001 x135002 x135003 x135004 x135005)
def quorumlaw11_Heavy.j1 : Nat → Int → Int → Bool → List (S47) → List (S34) → List Int → List ByteArray → List (S74) → List Int → Option (Bool)
 | 0, _, _, _, _, _, _, _, _, _ => none
 | k + 1, x3, x4, x37, x135000, x135001, x135002, x135003, x135004, x135005 => if x37 = true then (if 0 ≤ x4 then (if x4 < (x135001.length : Int) then ((quorumlaw0_WritesWeight.f k ((rd_T34 x135001 x4).f0)).bind fun t138 => (quorumlaw11_Heavy.l0 k (wrap64 ((wrap64 (x3 + t138)) + (((rd_T34 x135001 x4).f1).length : Int))) (wrap64 (x4 + 1)) x135000 x135001 x135002 x135003 x135004 x135005)) else (none)) else (none)) else (some (decide (x3 > 700)))
end
def quorumlaw11_Heavy.f (k : Nat) (l0_0 : List (S47)) (l0_1 : List (S34)) (l0_2 : List Int) (l0_3 : List ByteArray) (l0_4 : List (S74)) (l0_5 : List Int) : Option (Bool) := (quorumlaw0_TablesWeight.f k l0_0).bind fun t135 => ((quorumlaw0_Texts.f k l0_3).bind fun t136 => (quorumlaw11_Heavy.l0 k (wrap64 ((wrap64 ((wrap64 ((wrap64 ((wrap64 (t135 + (wrap64 (Int.tdiv t136 8)))) + (l0_1.length : Int))) + (l0_2.length : Int))) + (l0_4.length : Int))) + (l0_5.length : Int))) 0 l0_0 l0_1 l0_2 l0_3 l0_4 l0_5))
theorem quorumlaw11_Heavy.mono_l : ∀ k, (∀ y0 y1 y2 y3 y4 y5 y6 y7, LeO (quorumlaw11_Heavy.l0 k y0 y1 y2 y3 y4 y5 y6 y7) (quorumlaw11_Heavy.l0 (k + 1) y0 y1 y2 y3 y4 y5 y6 y7)) ∧ (∀ y0 y1 y2 y3 y4 y5 y6 y7 y8, LeO (quorumlaw11_Heavy.j1 k y0 y1 y2 y3 y4 y5 y6 y7 y8) (quorumlaw11_Heavy.j1 (k + 1) y0 y1 y2 y3 y4 y5 y6 y7 y8))
 | 0 => ⟨fun _ _ _ _ _ _ _ _ r h => by simp [quorumlaw11_Heavy.l0] at h, fun _ _ _ _ _ _ _ _ _ r h => by simp [quorumlaw11_Heavy.j1] at h⟩
 | k + 1 => by
  obtain ⟨ih0, ih1⟩ := quorumlaw11_Heavy.mono_l k
  refine ⟨?_, ?_⟩
  ·intro y0 y1 y2 y3 y4 y5 y6 y7
   unfold quorumlaw11_Heavy.l0
   repeat' first
   | (with_reducible exact ih0 _ _ _ _ _ _ _ _)
   | (with_reducible exact ih1 _ _ _ _ _ _ _ _ _)
   | (with_reducible exact quorumlaw0_TablesWeight.mono _ _)
   | (with_reducible exact quorumlaw0_Texts.mono _ _)
   | (with_reducible exact quorumlaw0_WritesWeight.mono _ _)
   | (with_reducible exact LeO.refl _)
   | (with_reducible exact LeO.none _)
   | (with_reducible refine LeO.ite ?_ ?_)
   | (with_reducible refine LeO.bind ?_ (fun _ => ?_))
   | exact ih0 _ _ _ _ _ _ _ _
   | exact ih1 _ _ _ _ _ _ _ _ _
   | exact quorumlaw0_TablesWeight.mono _ _
   | exact quorumlaw0_Texts.mono _ _
   | exact quorumlaw0_WritesWeight.mono _ _
   | exact LeO.none _
   | refine LeO.ite ?_ ?_
   | refine LeO.bind ?_ (fun _ => ?_)
  ·intro y0 y1 y2 y3 y4 y5 y6 y7 y8
   unfold quorumlaw11_Heavy.j1
   repeat' first
   | (with_reducible exact ih0 _ _ _ _ _ _ _ _)
   | (with_reducible exact ih1 _ _ _ _ _ _ _ _ _)
   | (with_reducible exact quorumlaw0_TablesWeight.mono _ _)
   | (with_reducible exact quorumlaw0_Texts.mono _ _)
   | (with_reducible exact quorumlaw0_WritesWeight.mono _ _)
   | (with_reducible exact LeO.refl _)
   | (with_reducible exact LeO.none _)
   | (with_reducible refine LeO.ite ?_ ?_)
   | (with_reducible refine LeO.bind ?_ (fun _ => ?_))
   | exact ih0 _ _ _ _ _ _ _ _
   | exact ih1 _ _ _ _ _ _ _ _ _
   | exact quorumlaw0_TablesWeight.mono _ _
   | exact quorumlaw0_Texts.mono _ _
   | exact quorumlaw0_WritesWeight.mono _ _
   | exact LeO.none _
   | refine LeO.ite ?_ ?_
   | refine LeO.bind ?_ (fun _ => ?_)
theorem quorumlaw11_Heavy.mono : ∀ a0 a1 a2 a3 a4 a5 k, LeO (quorumlaw11_Heavy.f k a0 a1 a2 a3 a4 a5) (quorumlaw11_Heavy.f (k + 1) a0 a1 a2 a3 a4 a5) := by
 intro a0 a1 a2 a3 a4 a5 k
 obtain ⟨ih0, ih1⟩ := quorumlaw11_Heavy.mono_l k
 unfold quorumlaw11_Heavy.f
 repeat' first
   | (with_reducible exact ih0 _ _ _ _ _ _ _ _)
   | (with_reducible exact ih1 _ _ _ _ _ _ _ _ _)
   | (with_reducible exact quorumlaw0_TablesWeight.mono _ _)
   | (with_reducible exact quorumlaw0_Texts.mono _ _)
   | (with_reducible exact quorumlaw0_WritesWeight.mono _ _)
   | (with_reducible exact LeO.refl _)
   | (with_reducible exact LeO.none _)
   | (with_reducible refine LeO.ite ?_ ?_)
   | (with_reducible refine LeO.bind ?_ (fun _ => ?_))
   | exact ih0 _ _ _ _ _ _ _ _
   | exact ih1 _ _ _ _ _ _ _ _ _
   | exact quorumlaw0_TablesWeight.mono _ _
   | exact quorumlaw0_Texts.mono _ _
   | exact quorumlaw0_WritesWeight.mono _ _
   | exact LeO.none _
   | refine LeO.ite ?_ ?_
   | refine LeO.bind ?_ (fun _ => ?_)
def quorumlaw11_Heavy.T1 : Bool × List (List Nat × List Nat) := (true, [([], []), ([0], [0]), ([1], [1]), ([], []), ([3], [3]), ([4, 2], [4]), ([5], [5]), ([2, 6], [2, 6]), ([], []), ([8], [8]), ([9], [9]), ([7, 10], [7, 10]), ([], []), ([12], [12]), ([13], [13]), ([11, 14], [11, 14]), ([], []), ([16], [16]), ([17], [17]), ([15, 18], [15, 18]), ([], []), ([20], [20]), ([21], [21]), ([19, 22], [19, 22]), ([23, 5, 0, 1, 2, 3, 4, 5, 6, 7, 8, 9, 10, 11, 12, 13, 14, 15, 16, 17, 18, 19, 20, 21, 22, 23], [23])])
def quorumlaw11_Heavy.B1 : List Nat := [0, 1, 3, 0, 8, 31, 63, 127, 0, 256, 768, 2047, 0, 4096, 12288, 32767, 0, 65536, 196608, 524287, 0, 1048576, 3145728, 8388607, 16777215]
theorem quorumlaw11_Heavy.tab1 : rtab .any (opsOf Try.f14 1) = quorumlaw11_Heavy.T1 := by kernel_rfl
theorem quorumlaw11_Heavy.bits1 : waitsOk quorumlaw11_Heavy.T1.2 quorumlaw11_Heavy.B1 = true := by kernel_rfl
def quorumlaw11_Heavy.T5 : Bool × List (List Nat × List Nat) := (true, [([], []), ([], []), ([1], [1]), ([], []), ([2, 3], [2, 3]), ([4], [4]), ([5], [5]), ([6], [6]), ([0, 7], [0, 7]), ([], []), ([9], [9]), ([], []), ([10, 11], [10, 11]), ([12], [12]), ([13], [13]), ([14], [14]), ([8, 15], [8, 15]), ([16, 7, 0, 1, 2, 3, 4, 5, 6, 7, 8, 9, 10, 11, 12, 13, 14, 15, 16], [0, 16])])
def quorumlaw11_Heavy.B5 : List Nat := [0, 0, 2, 0, 14, 30, 62, 126, 255, 0, 512, 0, 3584, 7680, 15872, 32256, 65535, 131071]
theorem quorumlaw11_Heavy.tab5 : rtab .any (opsOf Try.f14 5) = quorumlaw11_Heavy.T5 := by kernel_rfl
theorem quorumlaw11_Heavy.bits5 : waitsOk quorumlaw11_Heavy.T5.2 quorumlaw11_Heavy.B5 = true := by kernel_rfl
set_option maxHeartbeats 8000000 in
set_option maxRecDepth 100000 in
theorem quorumlaw11_Heavy.calls (k : Nat) (A0_0 : Option Addr) (c0_0 : Nat) (l0_0 : List (S47)) (A0_1 : Option Addr) (c0_1 : Nat) (l0_1 : List (S34)) (A0_2 : Option Addr) (c0_2 : Nat) (l0_2 : List Int) (A0_3 : Option Addr) (c0_3 : Nat) (l0_3 : List ByteArray) (A0_4 : Option Addr) (c0_4 : Nat) (l0_4 : List (S74)) (A0_5 : Option Addr) (c0_5 : Nat) (l0_5 : List Int) (r : Bool) (w : World) (hr0_0 : Kd.C k47 w A0_0 l0_0.length l0_0) (hc0_0 : l0_0.length ≤ c0_0) (hr0_1 : Kd.C k34 w A0_1 l0_1.length l0_1) (hc0_1 : l0_1.length ≤ c0_1) (hr0_2 : Kd.C (Kd.int .i64) w A0_2 l0_2.length l0_2) (hc0_2 : l0_2.length ≤ c0_2) (hr0_3 : Kd.C Kd.string w A0_3 l0_3.length l0_3) (hc0_3 : l0_3.length ≤ c0_3) (hr0_4 : Kd.C k74 w A0_4 l0_4.length l0_4) (hc0_4 : l0_4.length ≤ c0_4) (hr0_5 : Kd.C (Kd.int .i64) w A0_5 l0_5.length l0_5) (hc0_5 : l0_5.length ≤ c0_5) (h : quorumlaw11_Heavy.f k l0_0 l0_1 l0_2 l0_3 l0_4 l0_5 = some r) :
  Calls Try.prog 14 #[.agg #[.slice A0_0 l0_0.length c0_0, .slice A0_1 l0_1.length c0_1, .slice A0_2 l0_2.length c0_2, .slice A0_3 l0_3.length c0_3, .slice A0_4 l0_4.length c0_4, .slice A0_5 l0_5.length c0_5]] w fun e w' => e = .returned (.bool r) ∧ Below w.heap.size w w' := by
 have hu28 := Try.underlying28
 have HR0_0 := mk0 hr0_0
 have HC0_0 := mk0 hc0_0
 clear hr0_0 hc0_0
 have HR0_1 := mk0 hr0_1
 have HC0_1 := mk0 hc0_1
 clear hr0_1 hc0_1
 have HR0_2 := mk0 hr0_2
 have HC0_2 := mk0 hc0_2
 clear hr0_2 hc0_2
 have HR0_3 := mk0 hr0_3
 have HC0_3 := mk0 hc0_3
 clear hr0_3 hc0_3
 have HR0_4 := mk0 hr0_4
 have HC0_4 := mk0 hc0_4
 clear hr0_4 hc0_4
 have HR0_5 := mk0 hr0_5
 have HC0_5 := mk0 hc0_5
 clear hr0_5 hc0_5
 have HB := mk0 (Below.refl w.heap.size w)
 have H : ((quorumlaw0_TablesWeight.f k l0_0).bind fun t135 => ((quorumlaw0_Texts.f k l0_3).bind fun t136 => (quorumlaw11_Heavy.l0 k (wrap64 ((wrap64 ((wrap64 ((wrap64 ((wrap64 (t135 + (wrap64 (Int.tdiv t136 8)))) + (l0_1.length : Int))) + (l0_2.length : Int))) + (l0_4.length : Int))) + (l0_5.length : Int))) 0 l0_0 l0_1 l0_2 l0_3 l0_4 l0_5))) = some r := h
 clear h
 replace H := Option.bind_eq_some_iff.mp H
 obtain ⟨t135, A20, H⟩ := H
 try dsimp only at H
 have A2 := mk0 A20
 clear A20
 replace H := Option.bind_eq_some_iff.mp H
 obtain ⟨t136, A30, H⟩ := H
 try dsimp only at H
 have A3 := mk0 A30
 clear A30
 have H' := mk0 H
 clear H
 go_enter Try.func14, Try.ntmps14
 try go_wp2_with (first | ((with_reducible refine gate_dst (N := 1) rfl ?_); refine bx_ (N := 1) (cs := #[.slice A0_0 l0_0.length c0_0, .slice A0_1 l0_1.length c0_1, .slice A0_2 l0_2.length c0_2, .slice A0_3 l0_3.length c0_3, .slice A0_4 l0_4.length c0_4, .slice A0_5 l0_5.length c0_5]) (t := 28) (h := ?_); intro gb134 hg w4 hbox hb; have n2_ := mk0 (gz_ HB hg); have n3_ := mk0 (gz_ HB hg); replace HB := mk0 (bt_ (b_ HB) hb); have BK134 := mk0 (hbox); have GW134 := n2_; have GE134 := n3_; clear n2_ n3_; clear hb hbox hg))
 replace BK134 := mk0 (bD_ BK134.out)
 replace HB := mk0 (b1_ HB.out)
 refine start_ (n := 25) (S := fun w' => w'.cell? ⟨gb134, 0, none⟩ = some (.slice A0_0 l0_0.length c0_0) ∧ w'.cell? ⟨gb134, 1, none⟩ = some (.slice A0_1 l0_1.length c0_1) ∧ w'.cell? ⟨gb134, 2, none⟩ = some (.slice A0_2 l0_2.length c0_2) ∧ w'.cell? ⟨gb134, 3, none⟩ = some (.slice A0_3 l0_3.length c0_3) ∧ w'.cell? ⟨gb134, 4, none⟩ = some (.slice A0_4 l0_4.length c0_4) ∧ w'.cell? ⟨gb134, 5, none⟩ = some (.slice A0_5 l0_5.length c0_5)) (ds := []) (bt 25 0) (by kernel_rfl) rfl rfl ⟨bk_ BK134 0, bk_ BK134 1, bk_ BK134 2, bk_ BK134 3, bk_ BK134 4, bk_ BK134 5⟩ (fun hHeld => ?_); refine with_tabW quorumlaw11_Heavy.tab1 quorumlaw11_Heavy.bits1 (fun HT_ HW_ => ?_)
 generalize w4.drew = w5 at BK134 HB hHeld ⊢
 refine pq_ HT_.out 0 5 (bt 25 1) (h := ?_)
 refine pq_ HT_.out 3 8 (bt 25 9) (h := ?_)
 refine pq_ HT_.out 8 13 (bt 25 265) (h := ?_)
 refine pq_ HT_.out 12 17 (bt 25 4361) (h := ?_)
 refine pq_ HT_.out 16 21 (bt 25 69897) (h := ?_)
 refine pq_ HT_.out 20 25 (bt 25 1118473) (h := ?_)
 refine tq6_ HT_.out HW_.out 1 6 (bt 25 1118475) hHeld (h := ?_)
 refine tq6_ HT_.out HW_.out 4 9 (bt 25 1118491) hHeld (h := ?_)
 refine tq6_ HT_.out HW_.out 9 14 (bt 25 1119003) hHeld (h := ?_)
 refine pq_ HT_.out 10 15 (bt 25 1120027) (h := ?_)
 refine tq6_ HT_.out HW_.out 13 18 (bt 25 1128219) hHeld (h := ?_)
 refine pq_ HT_.out 14 19 (bt 25 1144603) (h := ?_)
 refine tq6_ HT_.out HW_.out 17 22 (bt 25 1275675) hHeld (h := ?_)
 refine pq_ HT_.out 18 23 (bt 25 1537819) (h := ?_)
 refine tq6_ HT_.out HW_.out 21 26 (bt 25 3634971) hHeld (h := ?_)
 refine pq_ HT_.out 22 27 (bt 25 7829275) (h := ?_)
 refine one_ (i := 2) (N := some 7) (bt 25 7829279) rfl rfl (one_of HT_.out (by kernel_rfl)) (by decide) (fun K hK => ?_)
 refine goes_ Try.func34 (by kernel_rfl) rfl #[.slice A0_0 l0_0.length c0_0] (by rfl) rfl rfl (by (try simp only [List.map_toArray, List.map_cons, List.map_nil]); first | done | rfl | (simp only [List.length_drop, List.length_take]; rfl)) ?_
 with_reducible refine (quorumlaw0_TablesWeight.calls k _ _ l0_0 t135 _ ?side1 ?side2 A2.out).mono ?_
 (case side1 => exact cb_ HR0_0 HB)
 (case side2 => exact HC0_0.out)
 rintro e w6 ⟨rfl, hb⟩
 refine ⟨_, rfl, ?_⟩
 replace BK134 := mk0 (u_ BK134 hb)
 replace HB := mk0 (bt_ (b_ HB) hb)
 (try clear hb)
 (try clear hb2)
 (try clear hk)
 (try clear hi)
 refine hK.out _ _ ⟨bk_ BK134 0, bk_ BK134 1, bk_ BK134 2, bk_ BK134 3, bk_ BK134 4, bk_ BK134 5⟩ (fun hHeld => ?_)
 clear hK K
 refine norm_ (a' := ?_) ?_ ?_
 rotate_left
 ·show Act.put _ (some 7) _ = _
  simp only [z_]
  rfl
 refine one_ (i := 5) (N := some 10) (bt 25 7829311) rfl rfl (one_of HT_.out (by kernel_rfl)) (by decide) (fun K hK => ?_)
 refine goes_ Try.func35 (by kernel_rfl) rfl #[.slice A0_3 l0_3.length c0_3] (by rfl) rfl rfl (by (try simp only [List.map_toArray, List.map_cons, List.map_nil]); first | done | rfl | (simp only [List.length_drop, List.length_take]; rfl)) ?_
 with_reducible refine (quorumlaw0_Texts.calls k _ _ l0_3 t136 _ ?side1 ?side2 A3.out).mono ?_
 (case side1 => exact cb_ HR0_3 HB)
 (case side2 => exact HC0_3.out)
 rintro e w' ⟨rfl, ⟨nd, rfl⟩⟩
 refine ⟨_, rfl, ?_⟩
 refine hK.out _ _ ⟨bk_ BK134 0, bk_ BK134 1, bk_ BK134 2, bk_ BK134 3, bk_ BK134 4, bk_ BK134 5⟩ (fun hHeld => ?_)
 clear hK K
 refine norm_ (a' := ?_) ?_ ?_
 rotate_left
 ·show Act.put _ (some 10) _ = _
  simp only [z_]
  rfl
 refine pq_ HT_.out 6 11 (bt 25 7829375) (h := ?_)
 refine pq_ HT_.out 7 12 (bt 25 7829503) (h := ?_)
 refine pq_ HT_.out 11 16 (bt 25 7831551) (h := ?_)
 refine pq_ HT_.out 15 20 (bt 25 7864319) (h := ?_)
 refine pq_ HT_.out 19 24 (bt 25 8388607) (h := ?_)
 refine pq_ HT_.out 23 28 (bt 25 16777215) (h := ?_)
 refine pq_ HT_.out 24 3 (bt 25 33554431) (h := ?_)
 refine done_ (done_of HT_.out (by kernel_rfl)) ?_
 try go_wp2
 go_loopg [3, 4] k (fun kq v3 v4 w' => ∃ (x3_1 : Int) (x4_1 : Int), v3 = .int .i64 x3_1 ∧ v4 = .int .i64 x4_1 ∧ Fc (quorumlaw11_Heavy.l0 kq x3_1 x4_1 l0_0 l0_1 l0_2 l0_3 l0_4 l0_5 = some r) ∧ Fc (kq ≤ k) ∧ Fc (w'.heap[gb134]? = some (.cells #[(.slice A0_0 l0_0.length c0_0), (.slice A0_1 l0_1.length c0_1), (.slice A0_2 l0_2.length c0_2), (.slice A0_3 l0_3.length c0_3), (.slice A0_4 l0_4.length c0_4), (.slice A0_5 l0_5.length c0_5)] 28 (0, 0))) ∧ Fc (Below w.heap.size w w'))
 case atStart => exact ⟨(wrap64 ((wrap64 ((wrap64 ((wrap64 ((wrap64 (t135 + (wrap64 (Int.tdiv t136 8)))) + (l0_1.length : Int))) + (l0_2.length : Int))) + (l0_4.length : Int))) + (l0_5.length : Int))), (0), (by first | rfl | (simp; done) | (simp [*]; done)), (by first | rfl | (simp; done) | (simp [*]; done)), H', ⟨Nat.le_refl _⟩, ⟨h_ BK134⟩, ⟨b_ HB⟩⟩
 case round =>
  clear H'
  obtain ⟨x3_1, x4_1, rfl, rfl, HA, HK1, BK134, HB⟩ := hrel
  cases gk with
  | zero => exact absurd HA.out (by simp [quorumlaw11_Heavy.l0])
  | succ k1 =>
   have H := HA.out
   clear HA
   simp only [quorumlaw11_Heavy.l0] at H
   as_aux_lemma =>
    have HC7 := mk0 H
    clear H
    go_upto_region 3 with (fail)
    go_cut [37] (fun v37 wc => ∃ (kq : Nat) (x37_6 : Bool), v37 = .bool x37_6 ∧ Fc (quorumlaw11_Heavy.j1 kq x3_1 x4_1 x37_6 l0_0 l0_1 l0_2 l0_3 l0_4 l0_5 = some r) ∧ Fc (kq ≤ k1) ∧ Fc (wc.heap[gb134]? = some (.cells #[(.slice A0_0 l0_0.length c0_0), (.slice A0_1 l0_1.length c0_1), (.slice A0_2 l0_2.length c0_2), (.slice A0_3 l0_3.length c0_3), (.slice A0_4 l0_4.length c0_4), (.slice A0_5 l0_5.length c0_5)] 28 (0, 0))) ∧ Fc (Below w.heap.size w wc))
    case first =>
     have H := HC7.out
     clear HC7
     by_cases c8 : x4_1 < (l0_1.length : Int)
     ·rw [if_pos c8] at H
      have c8b0 : decide (x4_1 < (l0_1.length : Int)) = true := decide_eq_true c8
      clear c8
      (first | rw [c8b0] | (simp only [i64_w, i32_w]; rw [c8b0]) | skip)
      have H' := mk0 H
      clear H
      obtain ⟨hcz9_0, hcz9_1, hcz9_2, hcz9_3, hcz9_4, hcz9_5, hfz9_0, hfz9_1, hfz9_2, hfz9_3, hfz9_4, hfz9_5⟩ := c6_ BK134
      go_wp2
      go_meet
      case rel => exact ⟨_, (decide (x3_1 < 1048576)), (by first | rfl | (simp; done) | (simp [*]; done)), H', ⟨by have := HK1.out; first | omega | exact Nat.le_refl _⟩, ⟨h_ BK134⟩, ⟨b_ HB⟩⟩
     ·rw [if_neg c8] at H
      have c8b0 : decide (x4_1 < (l0_1.length : Int)) = false := decide_eq_false c8
      clear c8
      (first | rw [c8b0] | (simp only [i64_w, i32_w]; rw [c8b0]) | skip)
      have H' := mk0 H
      clear H
      obtain ⟨hcz10_0, hcz10_1, hcz10_2, hcz10_3, hcz10_4, hcz10_5, hfz10_0, hfz10_1, hfz10_2, hfz10_3, hfz10_4, hfz10_5⟩ := c6_ BK134
      go_wp2
      go_meet
      case rel => exact ⟨_, (false), (by first | rfl | (simp; done) | (simp [*]; done)), H', ⟨by have := HK1.out; first | omega | exact Nat.le_refl _⟩, ⟨h_ BK134⟩, ⟨b_ HB⟩⟩
    case rest =>
     clear HC7
     try clear c8
     try clear c8b0
     try clear hcz10_0
     try clear hcz10_1
     try clear hcz10_2
     try clear hcz10_3
     try clear hcz10_4
     try clear hcz10_5
     try clear hcz9_0
     try clear hcz9_1
     try clear hcz9_2
     try clear hcz9_3
     try clear hcz9_4
     try clear hcz9_5
     try clear hfz10_0
     try clear hfz10_1
     try clear hfz10_2
     try clear hfz10_3
     try clear hfz10_4
     try clear hfz10_5
     try clear hfz9_0
     try clear hfz9_1
     try clear hfz9_2
     try clear hfz9_3
     try clear hfz9_4
     try clear hfz9_5
     obtain ⟨kq, x37_6, rfl, HA, HJ6, BK134, HB⟩ := hcut
     cases kq with
     | zero => exact absurd HA.out (by simp [quorumlaw11_Heavy.j1])
     | succ kj6 =>
      have H := HA.out
      clear HA
      simp only [quorumlaw11_Heavy.j1] at H
      as_aux_lemma =>
       by_cases c11 : x37_6 = true
       ·subst c11
        rw [if_pos rfl] at H
        by_cases c12 : 0 ≤ x4_1
        ·rw [if_pos c12] at H
         have c12b0 : decide (0 ≤ x4_1) = true := decide_eq_true c12
         clear c12
         by_cases c13 : x4_1 < (l0_1.length : Int)
         ·rw [if_pos c13] at H
          have c13b0 : decide (x4_1 < (l0_1.length : Int)) = true := decide_eq_true c13
          clear c13
          replace H := Option.bind_eq_some_iff.mp H
          obtain ⟨t138, A140, H⟩ := H
          try dsimp only at H
          have A14 := mk0 A140
          clear A140
          have H' := mk0 H
          clear H
          try go_wp2
          replace BK134 := mk0 (bD_ BK134.out)
          replace HB := mk0 (b1_ HB.out)
          have p137 : 0 ≤ (x4_1 : Int) := of_decide_eq_true (by first | (with_reducible assumption) | assumption)
          have q137 : x4_1 < (l0_1.length : Int) := of_decide_eq_true (by first | (with_reducible assumption) | assumption)
          obtain ⟨ad137, A137_0, c137_0, A137_1, c137_1, e137, hx137_0, hx137_1, hl137_0, hi137_0, hl137_1, hi137_1⟩ := at_T34 HR0_1.out x4_1 p137 q137
          have hw137_1 := hx137_1
          have hw137_0 := hx137_0
          cases e137
          replace hx137_0 := (bc_ HB hx137_0 :)
          replace hx137_1 := (bc_ HB hx137_1 :)
          have HR137_0 := mk0 hi137_0
          have HC137_0 := mk0 hl137_0
          clear hi137_0 hl137_0
          have HR137_1 := mk0 hi137_1
          have HC137_1 := mk0 hl137_1
          clear hi137_1 hl137_1
          replace p137 := eq_true p137
          replace q137 := eq_true q137
          have p139 : 0 ≤ (x4_1 : Int) := of_decide_eq_true (by first | (with_reducible assumption) | assumption)
          have q139 : x4_1 < (l0_1.length : Int) := of_decide_eq_true (by first | (with_reducible assumption) | assumption)
          obtain ⟨ad139, A139_0, c139_0, A139_1, c139_1, e139, hx139_0, hx139_1, hl139_0, hi139_0, hl139_1, hi139_1⟩ := at_T34 HR0_1.out x4_1 p139 q139
          have hw139_1 := hx139_1
          have hw139_0 := hx139_0
          obtain rfl : ad137 = ad139 := (by injection e139)
          replace hx139_0 := (bc_ HB hx139_0 :)
          replace hx139_1 := (bc_ HB hx139_1 :)
          have HR139_0 := mk0 hi139_0
          have HC139_0 := mk0 hl139_0
          clear hi139_0 hl139_0
          have HR139_1 := mk0 hi139_1
          have HC139_1 := mk0 hl139_1
          clear hi139_1 hl139_1
          replace p139 := eq_true p139
          replace q139 := eq_true q139
          have ea_ := Option.some.inj (hx137_0.symm.trans hx139_0)
          injection ea_ with ea_ en_ ec_
          subst ea_
          subst ec_
          clear en_
          have ea_ := Option.some.inj (hx137_1.symm.trans hx139_1)
          injection ea_ with ea_ en_ ec_
          subst ea_
          subst ec_
          clear en_
          refine start_ (n := 18) (S := fun w' => w'.cell? ⟨gb134, 0, none⟩ = some (.slice A0_0 l0_0.length c0_0) ∧ w'.cell? ⟨gb134, 1, none⟩ = some (.slice (some ad137) l0_1.length c0_1) ∧ w'.cell? ⟨gb134, 2, none⟩ = some (.slice A0_2 l0_2.length c0_2) ∧ w'.cell? ⟨gb134, 3, none⟩ = some (.slice A0_3 l0_3.length c0_3) ∧ w'.cell? ⟨gb134, 4, none⟩ = some (.slice A0_4 l0_4.length c0_4) ∧ w'.cell? ⟨gb134, 5, none⟩ = some (.slice A0_5 l0_5.length c0_5) ∧ w'.cell? (ad137.add ((x4_1).toNat * 2)) = some (.slice A137_0 ((rd_T34 l0_1 x4_1).f0).length c137_0) ∧ w'.cell? ⟨(ad137.add ((x4_1).toNat * 2)).block, (ad137.add ((x4_1).toNat * 2)).off + 1, none⟩ = some (.slice A137_1 ((rd_T34 l0_1 x4_1).f1).length c137_1) ∧ w'.cell? (ad137.add ((x4_1).toNat * 2)) = some (.slice A137_0 ((rd_T34 l0_1 x4_1).f0).length c137_0) ∧ w'.cell? ⟨(ad137.add ((x4_1).toNat * 2)).block, (ad137.add ((x4_1).toNat * 2)).off + 1, none⟩ = some (.slice A137_1 ((rd_T34 l0_1 x4_1).f1).length c137_1)) (ds := []) (bt 18 0) (by kernel_rfl) rfl rfl ⟨bk_ BK134 0, bk_ BK134 1, bk_ BK134 2, bk_ BK134 3, bk_ BK134 4, bk_ BK134 5, ((bc_ HB hw137_0 :)), ((bc_ HB hw137_1 :)), ((bc_ HB hw139_0 :)), ((bc_ HB hw139_1 :))⟩ (fun hHeld => ?_); refine with_tabW quorumlaw11_Heavy.tab5 quorumlaw11_Heavy.bits5 (fun HT_ HW_ => ?_)
          generalize wc.drew = w15 at BK134 HB HR137_0 HR137_1 HR139_0 HR139_1 hx137_0 hx137_1 hx139_0 hx139_1 hHeld ⊢
          refine pq_ HT_.out 0 40 (bt 18 1) (h := ?_)
          refine pq_ HT_.out 1 41 (bt 18 3) (h := ?_)
          refine pq_ HT_.out 3 43 (bt 18 11) (h := ?_)
          refine pq_ HT_.out 9 49 (bt 18 523) (h := ?_)
          refine pq_ HT_.out 11 51 (bt 18 2571) (h := ?_)
          refine tq10_ HT_.out HW_.out 2 42 (bt 18 2575) hHeld (h := ?_)
          refine pq_ HT_.out 4 44 (bt 18 2591) (h := ?_)
          refine pq_ HT_.out 5 45 (bt 18 2623) (h := ?_)
          refine tq10_ HT_.out HW_.out 6 46 (bt 18 2687) hHeld (h := ?_)
          refine tq10_ HT_.out HW_.out 10 50 (bt 18 3711) hHeld (h := ?_)
          refine pq_ HT_.out 12 52 (bt 18 7807) (h := ?_)
          refine pq_ HT_.out 13 53 (bt 18 15999) (h := ?_)
          refine tq10_ HT_.out HW_.out 14 54 (bt 18 32383) hHeld (h := ?_)
          refine pq_ HT_.out 15 55 (bt 18 65151) (h := ?_)
          refine one_ (i := 7) (N := some 47) (bt 18 65279) rfl rfl (one_of HT_.out (by kernel_rfl)) (by decide) (fun K hK => ?_)
          refine goes_ Try.func36 (by kernel_rfl) rfl #[.slice A137_0 ((rd_T34 l0_1 x4_1).f0).length c137_0] (by rfl) rfl rfl (by (try simp only [List.map_toArray, List.map_cons, List.map_nil]); first | done | rfl | (simp only [List.length_drop, List.length_take]; rfl)) ?_
          with_reducible refine (quorumlaw0_WritesWeight.calls kj6 _ _ ((rd_T34 l0_1 x4_1).f0) t138 _ ?side1 ?side2 A14.out).mono ?_
          (case side1 => exact cb_ HR137_0 HB)
          (case side2 => exact HC137_0.out)
          rintro e w' ⟨rfl, ⟨nd, rfl⟩⟩
          refine ⟨_, rfl, ?_⟩
          refine hK.out _ _ ⟨bk_ BK134 0, bk_ BK134 1, bk_ BK134 2, bk_ BK134 3, bk_ BK134 4, bk_ BK134 5, ((bc_ HB hw137_0 :)), ((bc_ HB hw137_1 :)), ((bc_ HB hw139_0 :)), ((bc_ HB hw139_1 :))⟩ (fun hHeld => ?_)
          clear hK K
          refine norm_ (a' := ?_) ?_ ?_
          rotate_left
          ·show Act.put _ (some 47) _ = _
           simp only [z_]
           rfl
          refine pq_ HT_.out 8 48 (bt 18 65535) (h := ?_)
          refine pq_ HT_.out 16 56 (bt 18 131071) (h := ?_)
          refine pq_ HT_.out 17 3 (bt 18 262143) (h := ?_)
          refine done_ (done_of HT_.out (by kernel_rfl)) ?_
          try go_wp2
          go_roundg kj6
          case measure => have := HK1.out; have := HJ6.out; omega
          case rel => exact ⟨(wrap64 ((wrap64 (x3_1 + t138)) + (((rd_T34 l0_1 x4_1).f1).length : Int))), (wrap64 (x4_1 + 1)), (by first | rfl | (simp; done) | (simp [*]; done)), (by first | rfl | (simp; done) | (simp [*]; done)), H', ⟨by have := HK1.out; have := HJ6.out; omega⟩, ⟨h_ BK134⟩, ⟨b_ HB⟩⟩
         ·rw [if_neg c13] at H
          exact absurd H (by simp)
        ·rw [if_neg c12] at H
         exact absurd H (by simp)
       ·replace c11 := Bool.eq_false_iff.mpr c11
        subst c11
        rw [if_neg (show ¬ (false = true) by decide)] at H
        obtain rfl := Option.some.inj H
        go_wp2
        go_ret
        exact ⟨by first | rfl | (simp [errW_none, errW_some] <;> rfl) | (simp [*, errW_none, errW_some] <;> rfl), b_ HB⟩

-- NOT PRINTED: function 145 (api_Table_145)

/-! ### api_Table_96: function 96 (by hand) -/
set_option maxHeartbeats 800000 in
set_option maxRecDepth 100000 in
theorem idx_ct.calls_ (pred : S47 → Bool) (F : Nat) (A0 : Option Addr) (c0 : Nat) (l0 : List S47) (w : World) (hr0 : Kd.C k47 w A0 l0.length l0) (hc0 : l0.length ≤ c0)
    (eg : ∀ args w, (callFunc F args).run Try.prog w = .ok (.enter F args) w)
    (HP : ∀ i : Nat, i < l0.length → (∀ j : Nat, j < i → pred (rd_T47 l0 j) = false) → ∀ (W : World), Below w.heap.size w W → ∀ A1 c1, (rd_T47 l0 i).f0.length ≤ c1 → Kd.C k99 W A1 (rd_T47 l0 i).f0.length (rd_T47 l0 i).f0 →
      Calls Try.prog F #[.agg #[.slice A1 (rd_T47 l0 i).f0.length c1]] W fun e W' => e = .returned (.bool (pred (rd_T47 l0 i))) ∧ Below w.heap.size w W') :
    Calls Try.prog 145 #[.slice A0 l0.length c0, .func (Fn.func F) #[] #[]] w fun e w' => ∃ q : Int, e = .returned (.int .i64 q) ∧ decide ((0 : Int) ≤ q) = l0.any pred ∧ Below w.heap.size w w' := by
  have HR0 := Aside0.mk hr0
  have HC0 := Aside0.mk hc0
  have hlen := hr0.2.1
  have hrd : ∀ i : Nat, ∀ h : i < l0.length, rd_T47 l0 (i : Int) = l0[i] := fun i h => by simp [rd_T47, h]
  have HY := Aside0.mk (show ∀ i : Nat, i < l0.length → pred (rd_T47 l0 i) = true → true = l0.any pred from fun i h hp => by rw [hrd i h] at hp; exact (List.any_eq_true.2 ⟨_, List.getElem_mem h, hp⟩).symm)
  have HZ := Aside0.mk (show (∀ i : Nat, i < l0.length → pred (rd_T47 l0 i) = false) → false = l0.any pred from fun h => by
    symm
    rw [List.any_eq_false]
    intro x hx
    obtain ⟨j, hj, rfl⟩ := List.mem_iff_getElem.1 hx
    have := h j hj
    rw [hrd j hj] at this
    simp [this])
  clear hr0 hc0 hrd
  have HPA := Aside0.mk HP
  clear HP
  have HB := Aside0.mk (Below.refl w.heap.size w)
  go_enter Try.func145, Try.ntmps145
  go_wp2
  go_loopg [5, 8] l0.length (fun kq _ v8 w' => ∃ (i : Nat), v8 = .int .i64 i ∧ Aside0 (kq + i = l0.length) ∧ Aside0 (∀ j : Nat, j < i → pred (rd_T47 l0 j) = false) ∧ Aside0 (Below w.heap.size w w'))
  case atStart => exact ⟨0, rfl, ⟨by omega⟩, ⟨fun j h => by omega⟩, HB⟩
  case round =>
    clear HB
    obtain ⟨i, rfl, HK, HN, HB⟩ := hrel
    by_cases hi : i < l0.length
    · have p200 : (0:Int) ≤ (i : Int) := by omega
      have q200 : (i:Int) < (l0.length : Int) := by omega
      obtain ⟨ad200, A200, c200, e200, hx200_0, hl200, hC200⟩ := at_T47 HR0.out (i:Int) p200 q200
      cases e200
      replace hx200_0 := (HB.out.cell (World.block_lt_of_cell? w _ hx200_0)).trans hx200_0
      simp only [Int.toNat_natCast] at hx200_0
      have hcall := HPA.out i hi HN.out wr HB.out A200 c200 hl200 (Kd.C_below hC200 HB.out)
      clear hl200 hC200
      cases hq : pred (rd_T47 l0 i) with
      | true =>
        rw [hq] at hcall
        have HQ := Aside0.mk hq
        clear hq
        go_wp2_with ((with_reducible refine hcall.mono ?_); rintro e w' ⟨rfl, hb'⟩)
        go_ret
        exact ⟨_, rfl, by rw [← HY.out i hi HQ.out, decide_eq_true_eq]; omega, hb'⟩
      | false =>
        rw [hq] at hcall
        have HQ := Aside0.mk hq
        clear hq
        go_wp2_with ((with_reducible refine hcall.mono ?_); rintro e w' ⟨rfl, hb'⟩)
        go_roundg (gk - 1)
        case measure => have := HK.out; omega
        case rel =>
          refine ⟨i + 1, by go_num, ⟨by have := HK.out; omega⟩, ⟨fun j h => ?_⟩, ⟨hb'⟩⟩
          rcases Nat.lt_or_ge j i with hj | hj
          · exact HN.out j hj
          · obtain rfl : j = i := by omega
            exact HQ.out
    · have hltz : ¬ (i : Int) < (l0.length : Int) := by omega
      go_wp2
      go_ret
      refine ⟨_, rfl, ?_, HB.out⟩
      rw [← HZ.out (fun j hj => HN.out j (by omega))]
      decide
def api_Table_96.l0 (k : Nat) : List S47 → Option Bool
  | [] => some false
  | t :: ts => (view_May_1.f k t.f0).bind fun b => if b = true then some true else api_Table_96.l0 k ts
def api_Table_96.f (k : Nat) (l0 : List S47) : Option Bool := api_Table_96.l0 k l0
theorem api_Table_96.mono : ∀ a0 k, LeO (api_Table_96.f k a0) (api_Table_96.f (k + 1) a0) := by
  intro a0 k
  unfold api_Table_96.f
  induction a0 with
  | nil => exact LeO.refl _
  | cons t ts ih =>
    simp only [api_Table_96.l0]
    exact LeO.bind (view_May_1.mono _ _) (fun b => LeO.ite (LeO.refl _) ih)
def api_Table_96.p (k : Nat) (x : S47) : Bool := (view_May_1.f k x.f0).getD false
theorem api_Table_96.any_ (k : Nat) : ∀ (l : List S47) (r : Bool), api_Table_96.l0 k l = some r → r = l.any (api_Table_96.p k) ∧ ∀ i (h : i < l.length), (∀ j (h2 : j < l.length), j < i → api_Table_96.p k l[j] = false) → view_May_1.f k (l[i]).f0 = some (api_Table_96.p k l[i])
  | [], r, h => by
    obtain rfl := Option.some.inj h
    exact ⟨rfl, fun i h => absurd h (by simp)⟩
  | t :: ts, r, h => by
    simp only [api_Table_96.l0] at h
    obtain ⟨b, hb, h⟩ := Option.bind_eq_some_iff.1 h
    have hp : api_Table_96.p k t = b := by unfold api_Table_96.p; rw [hb]; rfl
    cases b with
    | true =>
      rw [if_pos rfl] at h
      obtain rfl := Option.some.inj h
      refine ⟨by simp [hp], fun i hi hj => ?_⟩
      cases i with
      | zero => show _ = some (api_Table_96.p k t); rw [hp]; exact hb
      | succ i => have := hj 0 (by simp) (by omega); rw [List.getElem_cons_zero, hp] at this; cases this
    | false =>
      rw [if_neg (by simp)] at h
      obtain ⟨h1, h2⟩ := api_Table_96.any_ k ts r h
      refine ⟨by rw [List.any_cons, hp, Bool.false_or]; exact h1, fun i hi hj => ?_⟩
      cases i with
      | zero => show _ = some (api_Table_96.p k t); rw [hp]; exact hb
      | succ i => exact h2 i (by simpa using hi) (fun j h3 h4 => by have := hj (j + 1) (by simpa using h3) (by omega); simpa using this)
set_option maxHeartbeats 800000 in
set_option maxRecDepth 100000 in
theorem api_Table_96.calls (k : Nat) (A0 : Option Addr) (c0 : Nat) (l0 : List S47) (r : Bool) (w : World) (hr0 : Kd.C k47 w A0 l0.length l0) (hc0 : l0.length ≤ c0) (h : api_Table_96.f k l0 = some r) :
    Calls Try.prog 96 #[.slice A0 l0.length c0, .func (Fn.func 94) #[] #[]] w fun e w' => e = .returned (.bool r) ∧ Below w.heap.size w w' := by
  have eg : ∀ args w, (callFunc 94 args).run Try.prog w = .ok (.enter 94 args) w := enters_of Try.func94 (by kernel_rfl) rfl
  obtain ⟨hany, hat⟩ := api_Table_96.any_ k l0 r h
  have hrd : ∀ i : Nat, ∀ h : i < l0.length, rd_T47 l0 (i : Int) = l0[i] := fun i h => by simp [rd_T47, h]
  have hcon := idx_ct.calls_ (api_Table_96.p k) 94 A0 c0 l0 w hr0 hc0 eg (fun i hi hn W hb A1 c1 hl1 hC1 => (view_May_1.calls k A1 c1 (rd_T47 l0 i).f0 (api_Table_96.p k (rd_T47 l0 i)) W hC1 hl1 (by
      rw [hrd i hi]
      exact hat i hi (fun j h2 h3 => by have := hn j h3; rwa [hrd j h2] at this))).mono fun e W' h => ⟨h.1, hb.trans (h.2.mono hb.size)⟩)
  subst hany
  clear hr0 hc0 eg h hat hrd
  generalize l0.any (api_Table_96.p k) = r at hcon ⊢
  go_enter Try.func96, Try.ntmps96
  go_wp2_with ((with_reducible refine hcon.mono ?_); rintro e w' ⟨q, rfl, hq, hb'⟩; subst hq)
  go_ret
  exact ⟨rfl, hb'⟩


/-! ### pend_Table: function 113 -/
def pend_Table.f (a0 : Int) : Option (Bool) := if a0 ≥ 0 then (some (decide (a0 < 3))) else (some false)
set_option maxHeartbeats 8000000 in
set_option maxRecDepth 100000 in
theorem pend_Table.calls (a0 : Int) (r : Bool) (w : World) (h : pend_Table.f a0 = some r) :
  Calls Try.prog 113 #[.int .i64 a0] w fun e w' => e = .returned (.bool r) ∧ Drawn0 w w' := by
 have H : (if a0 ≥ 0 then (some (decide (a0 < 3))) else (some false)) = some r := h
 clear h
 by_cases c2 : a0 ≥ 0
 ·rw [if_pos c2] at H
  have c2b0 : decide (0 ≤ a0) = true := decide_eq_true c2
  clear c2
  obtain rfl := Option.some.inj H
  go_enter Try.func113, Try.ntmps113
  go_wp2
  go_ret
  exact ⟨by first | rfl | (simp; done) | (simp [*]; done), by repeat (first | exact Drawn0.refl _ | apply Drawn0.step)⟩
 ·rw [if_neg c2] at H
  have c2b0 : decide (0 ≤ a0) = false := decide_eq_false c2
  clear c2
  obtain rfl := Option.some.inj H
  go_enter Try.func113, Try.ntmps113
  go_wp2
  go_ret
  exact ⟨by first | rfl | (simp; done) | (simp [*]; done), by repeat (first | exact Drawn0.refl _ | apply Drawn0.step)⟩

/-! ### pend_Is: function 116 -/
def pend_Is.f (a0_0 : Int) (a0_1 : ByteArray) (a0_2 : ByteArray) (a0_3 : Bool) : Option (Bool) := (pend_Table.f a0_0).bind fun t141 => (if t141 = true then ((key_Is.f a0_1).bind fun t142 => (if t142 = true then ((key_Fits.f a0_2).bind fun t143 => (if t143 = true then (if a0_3 = true then (some (a0_2.toList == ([] : List UInt8))) else (some true)) else (some false))) else (some false))) else (some false))
set_option maxHeartbeats 8000000 in
set_option maxRecDepth 100000 in
theorem pend_Is.calls (a0_0 : Int) (a0_1 : ByteArray) (a0_2 : ByteArray) (a0_3 : Bool) (r : Bool) (w : World) (h : pend_Is.f a0_0 a0_1 a0_2 a0_3 = some r) :
  Calls Try.prog 116 #[.agg #[.int .i64 a0_0, .string a0_1, .string a0_2, .bool a0_3]] w fun e w' => e = .returned (.bool r) ∧ Below w.heap.size w w' := by
 have hu36 := Try.underlying36
 have HB := mk0 (Below.refl w.heap.size w)
 have H : ((pend_Table.f a0_0).bind fun t141 => (if t141 = true then ((key_Is.f a0_1).bind fun t142 => (if t142 = true then ((key_Fits.f a0_2).bind fun t143 => (if t143 = true then (if a0_3 = true then (some (a0_2.toList == ([] : List UInt8))) else (some true)) else (some false))) else (some false))) else (some false))) = some r := h
 clear h
 replace H := Option.bind_eq_some_iff.mp H
 obtain ⟨t141, A20, H⟩ := H
 try dsimp only at H
 have A2 := mk0 A20
 clear A20
 by_cases c3 : t141 = true
 ·subst c3
  rw [if_pos rfl] at H
  replace H := Option.bind_eq_some_iff.mp H
  obtain ⟨t142, A40, H⟩ := H
  try dsimp only at H
  have A4 := mk0 A40
  clear A40
  by_cases c5 : t142 = true
  ·subst c5
   rw [if_pos rfl] at H
   replace H := Option.bind_eq_some_iff.mp H
   obtain ⟨t143, A60, H⟩ := H
   try dsimp only at H
   have A6 := mk0 A60
   clear A60
   by_cases c7 : t143 = true
   ·subst c7
    rw [if_pos rfl] at H
    by_cases c8 : a0_3 = true
    ·subst c8
     rw [if_pos rfl] at H
     obtain rfl := Option.some.inj H
     go_enter Try.func116, Try.ntmps116
     go_wp2_with (first | ((with_reducible refine gate_dst (N := 1) rfl ?_); refine bx_ (N := 1) (cs := #[.int .i64 a0_0, .string a0_1, .string a0_2, .bool true]) (t := 36) (h := ?_); intro gb140 hg w9 hbox hb; have n2_ := mk0 (gz_ HB hg); have n3_ := mk0 (gz_ HB hg); replace HB := mk0 (bt_ (b_ HB) hb); have BK140 := mk0 (hbox); have GW140 := n2_; have GE140 := n3_; clear n2_ n3_ hb hbox hg; obtain ⟨hcz10_0, hcz10_1, hcz10_2, hcz10_3, hfz10_0, hfz10_1, hfz10_2, hfz10_3⟩ := c4_ BK140) | ((with_reducible refine gate_callee (f := 113) rfl ?_); refine gL_ (some 5) Try.func113 #[.int .i64 a0_0] (h := ?_); (with_reducible refine (pend_Table.calls a0_0 true _ A2.out).mono ?_); rintro e w' ⟨rfl, ⟨nd, rfl⟩⟩; refine ⟨_, rfl, ?_⟩) | (go_at_call 42; (with_reducible refine (key_Is.calls a0_1 true _ A4.out).mono ?_); rintro e w' ⟨rfl, ⟨nd, rfl⟩⟩) | (go_at_call 163; (with_reducible refine (key_Fits.calls a0_2 true _ A6.out).mono ?_); rintro e w' ⟨rfl, ⟨nd, rfl⟩⟩))
     go_ret
     exact ⟨by first | rfl | (simp [errW_none, errW_some] <;> rfl) | (simp [*, errW_none, errW_some] <;> rfl), b_ HB⟩
    ·replace c8 := Bool.eq_false_iff.mpr c8
     subst c8
     rw [if_neg (show ¬ (false = true) by decide)] at H
     obtain rfl := Option.some.inj H
     go_enter Try.func116, Try.ntmps116
     go_wp2_with (first | ((with_reducible refine gate_dst (N := 1) rfl ?_); refine bx_ (N := 1) (cs := #[.int .i64 a0_0, .string a0_1, .string a0_2, .bool false]) (t := 36) (h := ?_); intro gb140 hg w11 hbox hb; have n2_ := mk0 (gz_ HB hg); have n3_ := mk0 (gz_ HB hg); replace HB := mk0 (bt_ (b_ HB) hb); have BK140 := mk0 (hbox); have GW140 := n2_; have GE140 := n3_; clear n2_ n3_ hb hbox hg; obtain ⟨hcz12_0, hcz12_1, hcz12_2, hcz12_3, hfz12_0, hfz12_1, hfz12_2, hfz12_3⟩ := c4_ BK140) | ((with_reducible refine gate_callee (f := 113) rfl ?_); refine gL_ (some 5) Try.func113 #[.int .i64 a0_0] (h := ?_); (with_reducible refine (pend_Table.calls a0_0 true _ A2.out).mono ?_); rintro e w' ⟨rfl, ⟨nd, rfl⟩⟩; refine ⟨_, rfl, ?_⟩) | (go_at_call 42; (with_reducible refine (key_Is.calls a0_1 true _ A4.out).mono ?_); rintro e w' ⟨rfl, ⟨nd, rfl⟩⟩) | (go_at_call 163; (with_reducible refine (key_Fits.calls a0_2 true _ A6.out).mono ?_); rintro e w' ⟨rfl, ⟨nd, rfl⟩⟩))
     go_ret
     exact ⟨by first | rfl | (simp [errW_none, errW_some] <;> rfl) | (simp [*, errW_none, errW_some] <;> rfl), b_ HB⟩
   ·replace c7 := Bool.eq_false_iff.mpr c7
    subst c7
    rw [if_neg (show ¬ (false = true) by decide)] at H
    obtain rfl := Option.some.inj H
    go_enter Try.func116, Try.ntmps116
    go_wp2_with (first | ((with_reducible refine gate_dst (N := 1) rfl ?_); refine bx_ (N := 1) (cs := #[.int .i64 a0_0, .string a0_1, .string a0_2, .bool a0_3]) (t := 36) (h := ?_); intro gb140 hg w13 hbox hb; have n2_ := mk0 (gz_ HB hg); have n3_ := mk0 (gz_ HB hg); replace HB := mk0 (bt_ (b_ HB) hb); have BK140 := mk0 (hbox); have GW140 := n2_; have GE140 := n3_; clear n2_ n3_ hb hbox hg; obtain ⟨hcz14_0, hcz14_1, hcz14_2, hcz14_3, hfz14_0, hfz14_1, hfz14_2, hfz14_3⟩ := c4_ BK140) | ((with_reducible refine gate_callee (f := 113) rfl ?_); refine gL_ (some 5) Try.func113 #[.int .i64 a0_0] (h := ?_); (with_reducible refine (pend_Table.calls a0_0 true _ A2.out).mono ?_); rintro e w' ⟨rfl, ⟨nd, rfl⟩⟩; refine ⟨_, rfl, ?_⟩) | (go_at_call 42; (with_reducible refine (key_Is.calls a0_1 true _ A4.out).mono ?_); rintro e w' ⟨rfl, ⟨nd, rfl⟩⟩) | (go_at_call 163; (with_reducible refine (key_Fits.calls a0_2 false _ A6.out).mono ?_); rintro e w' ⟨rfl, ⟨nd, rfl⟩⟩))
    go_ret
    exact ⟨by first | rfl | (simp [errW_none, errW_some] <;> rfl) | (simp [*, errW_none, errW_some] <;> rfl), b_ HB⟩
  ·replace c5 := Bool.eq_false_iff.mpr c5
   subst c5
   rw [if_neg (show ¬ (false = true) by decide)] at H
   obtain rfl := Option.some.inj H
   go_enter Try.func116, Try.ntmps116
   go_wp2_with (first | ((with_reducible refine gate_dst (N := 1) rfl ?_); refine bx_ (N := 1) (cs := #[.int .i64 a0_0, .string a0_1, .string a0_2, .bool a0_3]) (t := 36) (h := ?_); intro gb140 hg w15 hbox hb; have n2_ := mk0 (gz_ HB hg); have n3_ := mk0 (gz_ HB hg); replace HB := mk0 (bt_ (b_ HB) hb); have BK140 := mk0 (hbox); have GW140 := n2_; have GE140 := n3_; clear n2_ n3_ hb hbox hg; obtain ⟨hcz16_0, hcz16_1, hcz16_2, hcz16_3, hfz16_0, hfz16_1, hfz16_2, hfz16_3⟩ := c4_ BK140) | ((with_reducible refine gate_callee (f := 113) rfl ?_); refine gL_ (some 5) Try.func113 #[.int .i64 a0_0] (h := ?_); (with_reducible refine (pend_Table.calls a0_0 true _ A2.out).mono ?_); rintro e w' ⟨rfl, ⟨nd, rfl⟩⟩; refine ⟨_, rfl, ?_⟩) | (go_at_call 42; (with_reducible refine (key_Is.calls a0_1 false _ A4.out).mono ?_); rintro e w' ⟨rfl, ⟨nd, rfl⟩⟩))
   go_ret
   exact ⟨by first | rfl | (simp [errW_none, errW_some] <;> rfl) | (simp [*, errW_none, errW_some] <;> rfl), b_ HB⟩
 ·replace c3 := Bool.eq_false_iff.mpr c3
  subst c3
  rw [if_neg (show ¬ (false = true) by decide)] at H
  obtain rfl := Option.some.inj H
  go_enter Try.func116, Try.ntmps116
  go_wp2_with (first | ((with_reducible refine gate_dst (N := 1) rfl ?_); refine bx_ (N := 1) (cs := #[.int .i64 a0_0, .string a0_1, .string a0_2, .bool a0_3]) (t := 36) (h := ?_); intro gb140 hg w17 hbox hb; have n2_ := mk0 (gz_ HB hg); have n3_ := mk0 (gz_ HB hg); replace HB := mk0 (bt_ (b_ HB) hb); have BK140 := mk0 (hbox); have GW140 := n2_; have GE140 := n3_; clear n2_ n3_ hb hbox hg; obtain ⟨hcz18_0, hcz18_1, hcz18_2, hcz18_3, hfz18_0, hfz18_1, hfz18_2, hfz18_3⟩ := c4_ BK140) | ((with_reducible refine gate_callee (f := 113) rfl ?_); refine gL_ (some 5) Try.func113 #[.int .i64 a0_0] (h := ?_); (with_reducible refine (pend_Table.calls a0_0 false _ A2.out).mono ?_); rintro e w' ⟨rfl, ⟨nd, rfl⟩⟩; refine ⟨_, rfl, ?_⟩))
  go_ret
  exact ⟨by first | rfl | (simp [errW_none, errW_some] <;> rfl) | (simp [*, errW_none, errW_some] <;> rfl), b_ HB⟩

/-! ### pend_May_1: function 147 -/
def pend_May_1.f (a0_0 : Int) (a0_1 : ByteArray) (a0_2 : ByteArray) (a0_3 : Bool) : Option (Bool) := (pend_Is.f a0_0 a0_1 a0_2 a0_3).bind fun t145 => (some (!t145))
set_option maxHeartbeats 8000000 in
set_option maxRecDepth 100000 in
theorem pend_May_1.calls (a0_0 : Int) (a0_1 : ByteArray) (a0_2 : ByteArray) (a0_3 : Bool) (r : Bool) (w : World) (h : pend_May_1.f a0_0 a0_1 a0_2 a0_3 = some r) :
  Calls Try.prog 147 #[.agg #[.int .i64 a0_0, .string a0_1, .string a0_2, .bool a0_3]] w fun e w' => e = .returned (.bool r) ∧ Below w.heap.size w w' := by
 have hu36 := Try.underlying36
 have HB := mk0 (Below.refl w.heap.size w)
 have H : ((pend_Is.f a0_0 a0_1 a0_2 a0_3).bind fun t145 => (some (!t145))) = some r := h
 clear h
 replace H := Option.bind_eq_some_iff.mp H
 obtain ⟨t145, A20, H⟩ := H
 try dsimp only at H
 have A2 := mk0 A20
 clear A20
 obtain rfl := Option.some.inj H
 go_enter Try.func147, Try.ntmps147
 go_wp2_with (first | ((with_reducible refine gate_dst (N := 1) rfl ?_); refine bx_ (N := 1) (cs := #[.int .i64 a0_0, .string a0_1, .string a0_2, .bool a0_3]) (t := 36) (h := ?_); intro gb144 hg w3 hbox hb; have n2_ := mk0 (gz_ HB hg); have n3_ := mk0 (gz_ HB hg); replace HB := mk0 (bt_ (b_ HB) hb); have BK144 := mk0 (hbox); have GW144 := n2_; have GE144 := n3_; clear n2_ n3_ hb hbox hg; obtain ⟨hcz4_0, hcz4_1, hcz4_2, hcz4_3, hfz4_0, hfz4_1, hfz4_2, hfz4_3⟩ := c4_ BK144) | ((with_reducible refine gate_callee (f := 116) rfl ?_); refine gL_ (some 4) Try.func116 #[.agg #[.int .i64 a0_0, .string a0_1, .string a0_2, .bool a0_3]] (h := ?_); (with_reducible refine (pend_Is.calls a0_0 a0_1 a0_2 a0_3 t145 _ A2.out).mono ?_); rintro e w5 ⟨rfl, hb⟩; refine ⟨_, rfl, ?_⟩; replace BK144 := mk0 (u_ BK144 hb); replace HB := mk0 (bt_ (b_ HB) hb); (try clear hb)))
 go_ret
 exact ⟨by first | rfl | (simp [errW_none, errW_some] <;> rfl) | (simp [*, errW_none, errW_some] <;> rfl), b_ HB⟩

-- NOT PRINTED: function 180 (api_Write_180)

/-! ### api_Write_146: function 146 (by hand) -/
def idxRes_cw {α : Type} (pred : α → Bool) (l : List α) : Int := if l.findIdx pred < l.length then (l.findIdx pred : Int) else -1
set_option maxHeartbeats 800000 in
set_option maxRecDepth 100000 in
theorem idx_cw.calls_ (pred : S36 → Bool) (F : Nat) (A0 : Option Addr) (c0 : Nat) (l0 : List S36) (w : World) (hr0 : Kd.C k36 w A0 l0.length l0) (hc0 : l0.length ≤ c0)
    (eg : ∀ args w, (callFunc F args).run Try.prog w = .ok (.enter F args) w)
    (HP : ∀ (x : S36) (W : World), Below w.heap.size w W → Calls Try.prog F #[.agg #[.int .i64 x.f0, .string x.f1, .string x.f2, .bool x.f3]] W fun e W' => e = .returned (.bool (pred x)) ∧ Below w.heap.size w W') :
    Calls Try.prog 180 #[.slice A0 l0.length c0, .func (Fn.func F) #[] #[]] w fun e w' => e = .returned (.int .i64 (idxRes_cw pred l0)) ∧ Below w.heap.size w w' := by
  have HR0 := Aside0.mk hr0
  have HC0 := Aside0.mk hc0
  have hlen := hr0.2.1
  clear hr0 hc0
  have HPA := Aside0.mk HP
  clear HP
  have HB := Aside0.mk (Below.refl w.heap.size w)
  go_enter Try.func180, Try.ntmps180
  go_wp2
  go_loopg [5, 8] l0.length (fun kq _ v8 w' => ∃ (i : Nat), v8 = .int .i64 i ∧ Aside0 (kq + i = l0.length) ∧ Aside0 (∀ j (h2 : j < l0.length) (h : j < i), pred (l0[j]) = false) ∧ Aside0 (Below w.heap.size w w'))
  case atStart => exact ⟨0, rfl, ⟨by omega⟩, ⟨fun j _ h => by omega⟩, HB⟩
  case round =>
    clear HB
    obtain ⟨i, rfl, HK, HN, HB⟩ := hrel
    by_cases hi : i < l0.length
    · have p200 : (0:Int) ≤ (i : Int) := by omega
      have q200 : (i:Int) < (l0.length : Int) := by omega
      obtain ⟨ad200, e200, hx200_0, hx200_1, hx200_2, hx200_3⟩ := at_T36 HR0.out (i:Int) p200 q200
      cases e200
      replace hx200_0 := (HB.out.cell (World.block_lt_of_cell? w _ hx200_0)).trans hx200_0
      replace hx200_1 := (HB.out.cell (World.block_lt_of_cell? w _ hx200_1)).trans hx200_1
      replace hx200_2 := (HB.out.cell (World.block_lt_of_cell? w _ hx200_2)).trans hx200_2
      replace hx200_3 := (HB.out.cell (World.block_lt_of_cell? w _ hx200_3)).trans hx200_3
      simp only [Int.toNat_natCast] at hx200_0 hx200_1 hx200_2 hx200_3
      have hcall := HPA.out (rd_T36 l0 i) wr HB.out
      have hrd : rd_T36 l0 i = l0[i] := by simp [rd_T36, hi]
      have HRD := Aside0.mk hrd
      clear hrd
      cases hq : pred (rd_T36 l0 i) with
      | true =>
        rw [hq] at hcall
        have HQ := Aside0.mk hq
        clear hq
        go_wp2_with ((with_reducible refine hcall.mono ?_); rintro e w' ⟨rfl, hb'⟩)
        go_ret
        have e1 : l0.findIdx pred = i := (List.findIdx_eq hi).2 ⟨by rw [← HRD.out]; exact HQ.out, fun j hj => HN.out j (by omega) hj⟩
        exact ⟨by unfold idxRes_cw; rw [e1, if_pos hi]; rfl, hb'⟩
      | false =>
        rw [hq] at hcall
        have HQ := Aside0.mk hq
        clear hq
        go_wp2_with ((with_reducible refine hcall.mono ?_); rintro e w' ⟨rfl, hb'⟩)
        go_roundg (gk - 1)
        case measure => have := HK.out; omega
        case rel =>
          refine ⟨i + 1, by go_num, ⟨by have := HK.out; omega⟩, ⟨fun j h2 h => ?_⟩, ⟨hb'⟩⟩
          rcases Nat.lt_or_ge j i with hj | hj
          · exact HN.out j h2 hj
          · obtain rfl : j = i := by omega
            rw [← HRD.out]; exact HQ.out
    · have hltz : ¬ (i : Int) < (l0.length : Int) := by omega
      go_wp2
      go_ret
      have hil : i = l0.length := by have := HK.out; omega
      have e1 : l0.findIdx pred = l0.length := List.findIdx_eq_length.2 (fun x hx => by
        obtain ⟨j, hj, rfl⟩ := List.mem_iff_getElem.1 hx
        exact HN.out j hj (by omega))
      exact ⟨by unfold idxRes_cw; rw [e1, if_neg (Nat.lt_irrefl _)]; rfl, HB.out⟩
def api_Write_146.p (x : S36) : Bool := (pend_May_1.f x.f0 x.f1 x.f2 x.f3).getD true
theorem api_Write_146.tot (x : S36) : pend_May_1.f x.f0 x.f1 x.f2 x.f3 = some (api_Write_146.p x) := by
  unfold api_Write_146.p
  have : ∃ b, pend_May_1.f x.f0 x.f1 x.f2 x.f3 = some b := by
    obtain ⟨b1, h1⟩ : ∃ b, pend_Table.f x.f0 = some b := by unfold pend_Table.f; split <;> exact ⟨_, rfl⟩
    obtain ⟨b2, h2⟩ : ∃ b, key_Is.f x.f1 = some b := by unfold key_Is.f; split <;> exact ⟨_, rfl⟩
    obtain ⟨b3, h3⟩ : ∃ b, key_Fits.f x.f2 = some b := ⟨_, rfl⟩
    unfold pend_May_1.f pend_Is.f
    rw [h1, h2, h3]
    simp only [Option.bind_some]
    cases b1 <;> cases b2 <;> cases b3 <;> cases x.f3 <;> exact ⟨_, rfl⟩
  obtain ⟨b, hb⟩ := this
  rw [hb]; rfl
def api_Write_146.f (l0 : List S36) : Option Bool := some (l0.any api_Write_146.p)
theorem api_Write_146.any_idx {α : Type} (p : α → Bool) (l : List α) : decide ((0 : Int) ≤ idxRes_cw p l) = l.any p := by
  unfold idxRes_cw
  by_cases h : l.findIdx p < l.length
  · rw [if_pos h]
    have h1 := List.findIdx_getElem (p := p) (xs := l) (w := h)
    have h2 : l.any p = true := List.any_eq_true.2 ⟨_, List.getElem_mem h, h1⟩
    rw [h2]; simp
  · rw [if_neg h]
    have h1 : l.findIdx p = l.length := Nat.le_antisymm List.findIdx_le_length (by omega)
    have h2 : l.any p = false := by
      rw [List.any_eq_false]
      intro x hx
      have := List.findIdx_eq_length.1 h1 x hx
      simp [this]
    rw [h2]; simp
set_option maxHeartbeats 800000 in
set_option maxRecDepth 100000 in
theorem api_Write_146.calls (A0 : Option Addr) (c0 : Nat) (l0 : List S36) (r : Bool) (w : World) (hr0 : Kd.C k36 w A0 l0.length l0) (hc0 : l0.length ≤ c0) (h : api_Write_146.f l0 = some r) :
    Calls Try.prog 146 #[.slice A0 l0.length c0, .func (Fn.func 147) #[] #[]] w fun e w' => e = .returned (.bool r) ∧ Below w.heap.size w w' := by
  have eg : ∀ args w, (callFunc 147 args).run Try.prog w = .ok (.enter 147 args) w := enters_of Try.func147 (by kernel_rfl) rfl
  have hcon := idx_cw.calls_ api_Write_146.p 147 A0 c0 l0 w hr0 hc0 eg (fun x W hb => ((pend_May_1.calls x.f0 x.f1 x.f2 x.f3 _ W (api_Write_146.tot x)).mono fun e W' h => ⟨h.1, hb.trans (h.2.mono hb.size)⟩))
  have hr : decide ((0 : Int) ≤ idxRes_cw api_Write_146.p l0) = r := by rw [api_Write_146.any_idx]; exact Option.some.inj h
  clear hr0 hc0 eg h
  generalize idxRes_cw api_Write_146.p l0 = q at hcon hr
  subst hr
  go_enter Try.func146, Try.ntmps146
  go_wp2_with ((with_reducible refine hcon.mono ?_); rintro e w' ⟨rfl, hb'⟩)
  go_ret
  exact ⟨rfl, hb'⟩


end Go.Proofs.Ytbaecdcfefmcgaa.PVrs
