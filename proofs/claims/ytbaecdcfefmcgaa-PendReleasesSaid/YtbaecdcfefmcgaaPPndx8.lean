-- PRINTED by print.py (a twelfth state) out of the translation. Not trusted: Lean checks it.
import Derived.Test.YtbaecdcfefmcgaaPPndx0
import Derived.Test.YtbaecdcfefmcgaaPPndx1
import Derived.Test.YtbaecdcfefmcgaaPPndx4
namespace Go.Proofs.Ytbaecdcfefmcgaa.PPnd
open Go.RowKit Go.Proofs.YtbaecdcfefmcgaaW.PrintWords Go.Proofs.YtbaecdcfefmcgaaW.PrintLast Go.Proofs.YtbaecdcfefmcgaaW.PrintMore
attribute [local go_sem] max2_int min2_int max_two min_two max_three min_three max_four min_four   -- for this text's walks alone
set_option linter.unusedVariables false
set_option linter.unusedSimpArgs false

attribute [local go_sem high] eqA36
/-! ### quorumlaw10_num: function 63 -/
def quorumlaw10_num.f (a0 : Int) : Option (Int) := some a0
set_option maxHeartbeats 8000000 in
set_option maxRecDepth 100000 in
theorem quorumlaw10_num.calls (a0 : Int) (r : Int) (w : World) (h : quorumlaw10_num.f a0 = some r) :
  Calls Try.prog 63 #[.int .i64 a0] w fun e w' => e = .returned (.int .i64 r) ∧ Drawn0 w w' := by
 have H : (some a0) = some r := h
 clear h
 obtain rfl := Option.some.inj H
 go_enter Try.func63, Try.ntmps63
 go_wp2
 go_ret
 exact ⟨by first | rfl | (simp; done) | (simp [*]; done), by repeat (first | exact Drawn0.refl _ | apply Drawn0.step)⟩

/-! ### quorumref0_EqWrites: function 64 -/
def quorumref0_EqWrites.l0 : Nat → List (S36) → List (S36) → Int → Option (Bool)
 | 0, _, _, _ => none
 | k + 1, x0, x1, x5 => if x5 < (x0.length : Int) then (if 0 ≤ x5 then (if x5 < (x1.length : Int) then (if (!(((rd_T36 x0 x5).f0) == ((rd_T36 x1 x5).f0)) || (!((((rd_T36 x0 x5).f1).toList) == (((rd_T36 x1 x5).f1).toList)) || (!((((rd_T36 x0 x5).f2).toList) == (((rd_T36 x1 x5).f2).toList)) || (!(((rd_T36 x0 x5).f3) == ((rd_T36 x1 x5).f3)))))) = true then (some false) else (quorumref0_EqWrites.l0 k x0 x1 (wrap64 (x5 + 1)))) else (none)) else (none)) else (some true)
def quorumref0_EqWrites.f (k : Nat) (l0 : List (S36)) (l1 : List (S36)) : Option (Bool) := if (l0.length : Int) = (l1.length : Int) then (quorumref0_EqWrites.l0 k l0 l1 0) else (some false)
theorem quorumref0_EqWrites.mono_l : ∀ k, (∀ y0 y1 y2, LeO (quorumref0_EqWrites.l0 k y0 y1 y2) (quorumref0_EqWrites.l0 (k + 1) y0 y1 y2))
 | 0 => fun _ _ _ r h => by simp [quorumref0_EqWrites.l0] at h
 | k + 1 => by
  have ih0 := quorumref0_EqWrites.mono_l k
  ·intro y0 y1 y2
   unfold quorumref0_EqWrites.l0
   repeat' first
   | (with_reducible exact ih0 _ _ _)
   | (with_reducible exact LeO.refl _)
   | (with_reducible exact LeO.none _)
   | (with_reducible refine LeO.ite ?_ ?_)
   | (with_reducible refine LeO.bind ?_ (fun _ => ?_))
   | exact ih0 _ _ _
   | exact LeO.none _
   | refine LeO.ite ?_ ?_
   | refine LeO.bind ?_ (fun _ => ?_)
theorem quorumref0_EqWrites.mono : ∀ a0 a1 k, LeO (quorumref0_EqWrites.f k a0 a1) (quorumref0_EqWrites.f (k + 1) a0 a1) := by
 intro a0 a1 k
 have ih0 := quorumref0_EqWrites.mono_l k
 unfold quorumref0_EqWrites.f
 repeat' first
   | (with_reducible exact ih0 _ _ _)
   | (with_reducible exact LeO.refl _)
   | (with_reducible exact LeO.none _)
   | (with_reducible refine LeO.ite ?_ ?_)
   | (with_reducible refine LeO.bind ?_ (fun _ => ?_))
   | exact ih0 _ _ _
   | exact LeO.none _
   | refine LeO.ite ?_ ?_
   | refine LeO.bind ?_ (fun _ => ?_)
set_option maxHeartbeats 8000000 in
set_option maxRecDepth 100000 in
theorem quorumref0_EqWrites.calls (k : Nat) (A0 : Option Addr) (c0 : Nat) (l0 : List (S36)) (A1 : Option Addr) (c1 : Nat) (l1 : List (S36)) (r : Bool) (w : World) (hr0 : Kd.C k36 w A0 l0.length l0) (hc0 : l0.length ≤ c0) (hr1 : Kd.C k36 w A1 l1.length l1) (hc1 : l1.length ≤ c1) (h : quorumref0_EqWrites.f k l0 l1 = some r) :
  Calls Try.prog 64 #[.slice A0 l0.length c0, .slice A1 l1.length c1] w fun e w' => e = .returned (.bool r) ∧ Drawn0 w w' := by
 have hu36 := Try.underlying36
 have HR0 := mk0 hr0
 have HC0 := mk0 hc0
 clear hr0 hc0
 have HR1 := mk0 hr1
 have HC1 := mk0 hc1
 clear hr1 hc1
 have H : (if (l0.length : Int) = (l1.length : Int) then (quorumref0_EqWrites.l0 k l0 l1 0) else (some false)) = some r := h
 clear h
 by_cases c3 : (l0.length : Int) = (l1.length : Int)
 ·rw [if_pos c3] at H
  have c3b0 : ((l0.length : Int) == (l1.length : Int)) = true := beq_iff_eq.mpr c3
  have c3b1 : ((l0.length : Int) != (l1.length : Int)) = false := bne_eq_false_iff_eq.mpr c3
  have c3b2 : (l0.length == l1.length) = true := by first | simpa using c3 | (simp at c3 ⊢; omega)
  clear c3
  have H' := mk0 H
  clear H
  go_enter Try.func64, Try.ntmps64
  go_wp2
  repeat (go_quiet (fail); try go_wp2)
  go_loopg [5] k (fun kq v5 w' => ∃ (x5_1 : Int), v5 = .int .i64 x5_1 ∧ Fc (quorumref0_EqWrites.l0 kq l0 l1 x5_1 = some r) ∧ Fc (kq ≤ k) ∧ Drawn0 w w')
  case atStart => exact ⟨(0), (by first | rfl | (simp; done) | (simp [*]; done)), H', ⟨Nat.le_refl _⟩, by repeat (first | exact Drawn0.refl _ | apply Drawn0.step)⟩
  case round =>
   clear H'
   try clear c1
   try clear c3
   try clear c3b0
   try clear c3b1
   try clear c3b2
   obtain ⟨x5_1, rfl, HA, HK1, ⟨m1, rfl⟩⟩ := hrel
   cases gk with
   | zero => exact absurd HA.out (by simp [quorumref0_EqWrites.l0])
   | succ k1 =>
    have H := HA.out
    clear HA
    simp only [quorumref0_EqWrites.l0] at H
    as_aux_lemma =>
     by_cases c4 : x5_1 < (l0.length : Int)
     ·rw [if_pos c4] at H
      have c4b0 : decide (x5_1 < (l0.length : Int)) = true := decide_eq_true c4
      clear c4
      by_cases c5 : 0 ≤ x5_1
      ·rw [if_pos c5] at H
       have c5b0 : decide (0 ≤ x5_1) = true := decide_eq_true c5
       clear c5
       by_cases c6 : x5_1 < (l1.length : Int)
       ·rw [if_pos c6] at H
        have c6b0 : decide (x5_1 < (l1.length : Int)) = true := decide_eq_true c6
        clear c6
        by_cases c7 : (!(((rd_T36 l0 x5_1).f0) == ((rd_T36 l1 x5_1).f0)) || (!((((rd_T36 l0 x5_1).f1).toList) == (((rd_T36 l1 x5_1).f1).toList)) || (!((((rd_T36 l0 x5_1).f2).toList) == (((rd_T36 l1 x5_1).f2).toList)) || (!(((rd_T36 l0 x5_1).f3) == ((rd_T36 l1 x5_1).f3)))))) = true
        ·rw [if_pos c7] at H
         have c7b0 : (!(((rd_T36 l0 x5_1).f0) == ((rd_T36 l1 x5_1).f0)) || (!((((rd_T36 l0 x5_1).f1).toList) == (((rd_T36 l1 x5_1).f1).toList)) || (!((((rd_T36 l0 x5_1).f2).toList) == (((rd_T36 l1 x5_1).f2).toList)) || (!(((rd_T36 l0 x5_1).f3) == ((rd_T36 l1 x5_1).f3)))))) = true := c7
         clear c7
         obtain rfl := Option.some.inj H
         have p302 : 0 ≤ (x5_1 : Int) := of_decide_eq_true (by first | (with_reducible assumption) | assumption)
         have q302 : x5_1 < (l0.length : Int) := of_decide_eq_true (by first | (with_reducible assumption) | assumption)
         obtain ⟨ad302, e302, hx302_0, hx302_1, hx302_2, hx302_3⟩ := at_T36 HR0.out x5_1 p302 q302
         cases e302
         replace p302 := eq_true p302
         replace q302 := eq_true q302
         have p303 : 0 ≤ (x5_1 : Int) := of_decide_eq_true (by first | (with_reducible assumption) | assumption)
         have q303 : x5_1 < (l1.length : Int) := of_decide_eq_true (by first | (with_reducible assumption) | assumption)
         obtain ⟨ad303, e303, hx303_0, hx303_1, hx303_2, hx303_3⟩ := at_T36 HR1.out x5_1 p303 q303
         cases e303
         replace p303 := eq_true p303
         replace q303 := eq_true q303
         go_wp2
         repeat (go_quiet (fail); try go_wp2)
         go_ret
         exact ⟨by first | rfl | (simp; done) | (simp [*]; done), by repeat (first | exact Drawn0.refl _ | apply Drawn0.step)⟩
        ·rw [if_neg c7] at H
         have c7b0 : (!(((rd_T36 l0 x5_1).f0) == ((rd_T36 l1 x5_1).f0)) || (!((((rd_T36 l0 x5_1).f1).toList) == (((rd_T36 l1 x5_1).f1).toList)) || (!((((rd_T36 l0 x5_1).f2).toList) == (((rd_T36 l1 x5_1).f2).toList)) || (!(((rd_T36 l0 x5_1).f3) == ((rd_T36 l1 x5_1).f3)))))) = false := by simpa using c7
         clear c7
         have H' := mk0 H
         clear H
         have p302 : 0 ≤ (x5_1 : Int) := of_decide_eq_true (by first | (with_reducible assumption) | assumption)
         have q302 : x5_1 < (l0.length : Int) := of_decide_eq_true (by first | (with_reducible assumption) | assumption)
         obtain ⟨ad302, e302, hx302_0, hx302_1, hx302_2, hx302_3⟩ := at_T36 HR0.out x5_1 p302 q302
         cases e302
         replace p302 := eq_true p302
         replace q302 := eq_true q302
         have p303 : 0 ≤ (x5_1 : Int) := of_decide_eq_true (by first | (with_reducible assumption) | assumption)
         have q303 : x5_1 < (l1.length : Int) := of_decide_eq_true (by first | (with_reducible assumption) | assumption)
         obtain ⟨ad303, e303, hx303_0, hx303_1, hx303_2, hx303_3⟩ := at_T36 HR1.out x5_1 p303 q303
         cases e303
         replace p303 := eq_true p303
         replace q303 := eq_true q303
         go_wp2
         repeat (go_quiet (fail); try go_wp2)
         go_roundg k1
         case measure => have := HK1.out; omega
         case rel => exact ⟨(wrap64 (x5_1 + 1)), (by first | rfl | (simp; done) | (simp [*]; done)), H', ⟨by have := HK1.out; omega⟩, by repeat (first | exact Drawn0.refl _ | apply Drawn0.step)⟩
       ·rw [if_neg c6] at H
        exact absurd H (by simp)
      ·rw [if_neg c5] at H
       exact absurd H (by simp)
     ·rw [if_neg c4] at H
      have c4b0 : decide (x5_1 < (l0.length : Int)) = false := decide_eq_false c4
      clear c4
      obtain rfl := Option.some.inj H
      go_wp2
      repeat (go_quiet (fail); try go_wp2)
      go_ret
      exact ⟨by first | rfl | (simp; done) | (simp [*]; done), by repeat (first | exact Drawn0.refl _ | apply Drawn0.step)⟩
 ·rw [if_neg c3] at H
  have c3b0 : ((l0.length : Int) == (l1.length : Int)) = false := beq_eq_false_iff_ne.mpr c3
  have c3b1 : ((l0.length : Int) != (l1.length : Int)) = true := bne_iff_ne.mpr c3
  have c3b2 : (l0.length == l1.length) = false := by first | simpa using c3 | (simp at c3 ⊢; omega)
  obtain rfl := Option.some.inj H
  go_enter Try.func64, Try.ntmps64
  go_wp2
  repeat (go_quiet (fail); try go_wp2)
  go_ret
  exact ⟨by first | rfl | (simp; done) | (simp [*]; done), by repeat (first | exact Drawn0.refl _ | apply Drawn0.step)⟩

/-! ### quorumref0_EqNumbers: function 115 -/
def quorumref0_EqNumbers.l0 : Nat → List Int → List Int → Int → Option (Bool)
 | 0, _, _, _ => none
 | k + 1, x0, x1, x5 => if x5 < (x0.length : Int) then (if 0 ≤ x5 then (if x5 < (x1.length : Int) then (if (rd x0 x5) = (rd x1 x5) then (quorumref0_EqNumbers.l0 k x0 x1 (wrap64 (x5 + 1))) else (some false)) else (none)) else (none)) else (some true)
def quorumref0_EqNumbers.f (k : Nat) (l0 : List Int) (l1 : List Int) : Option (Bool) := if (l0.length : Int) = (l1.length : Int) then (quorumref0_EqNumbers.l0 k l0 l1 0) else (some false)
theorem quorumref0_EqNumbers.mono_l : ∀ k, (∀ y0 y1 y2, LeO (quorumref0_EqNumbers.l0 k y0 y1 y2) (quorumref0_EqNumbers.l0 (k + 1) y0 y1 y2))
 | 0 => fun _ _ _ r h => by simp [quorumref0_EqNumbers.l0] at h
 | k + 1 => by
  have ih0 := quorumref0_EqNumbers.mono_l k
  ·intro y0 y1 y2
   unfold quorumref0_EqNumbers.l0
   repeat' first
   | (with_reducible exact ih0 _ _ _)
   | (with_reducible exact LeO.refl _)
   | (with_reducible exact LeO.none _)
   | (with_reducible refine LeO.ite ?_ ?_)
   | (with_reducible refine LeO.bind ?_ (fun _ => ?_))
   | exact ih0 _ _ _
   | exact LeO.none _
   | refine LeO.ite ?_ ?_
   | refine LeO.bind ?_ (fun _ => ?_)
theorem quorumref0_EqNumbers.mono : ∀ a0 a1 k, LeO (quorumref0_EqNumbers.f k a0 a1) (quorumref0_EqNumbers.f (k + 1) a0 a1) := by
 intro a0 a1 k
 have ih0 := quorumref0_EqNumbers.mono_l k
 unfold quorumref0_EqNumbers.f
 repeat' first
   | (with_reducible exact ih0 _ _ _)
   | (with_reducible exact LeO.refl _)
   | (with_reducible exact LeO.none _)
   | (with_reducible refine LeO.ite ?_ ?_)
   | (with_reducible refine LeO.bind ?_ (fun _ => ?_))
   | exact ih0 _ _ _
   | exact LeO.none _
   | refine LeO.ite ?_ ?_
   | refine LeO.bind ?_ (fun _ => ?_)
set_option maxHeartbeats 8000000 in
set_option maxRecDepth 100000 in
theorem quorumref0_EqNumbers.calls (k : Nat) (A0 : Option Addr) (c0 : Nat) (l0 : List Int) (A1 : Option Addr) (c1 : Nat) (l1 : List Int) (r : Bool) (w : World) (hr0 : Kd.C (Kd.int .i64) w A0 l0.length l0) (hc0 : l0.length ≤ c0) (hr1 : Kd.C (Kd.int .i64) w A1 l1.length l1) (hc1 : l1.length ≤ c1) (h : quorumref0_EqNumbers.f k l0 l1 = some r) :
  Calls Try.prog 115 #[.slice A0 l0.length c0, .slice A1 l1.length c1] w fun e w' => e = .returned (.bool r) ∧ Drawn0 w w' := by
 have HR0 := mk0 hr0
 have HC0 := mk0 hc0
 clear hr0 hc0
 have HR1 := mk0 hr1
 have HC1 := mk0 hc1
 clear hr1 hc1
 have H : (if (l0.length : Int) = (l1.length : Int) then (quorumref0_EqNumbers.l0 k l0 l1 0) else (some false)) = some r := h
 clear h
 by_cases c3 : (l0.length : Int) = (l1.length : Int)
 ·rw [if_pos c3] at H
  have c3b0 : ((l0.length : Int) == (l1.length : Int)) = true := beq_iff_eq.mpr c3
  have c3b1 : ((l0.length : Int) != (l1.length : Int)) = false := bne_eq_false_iff_eq.mpr c3
  have c3b2 : (l0.length == l1.length) = true := by first | simpa using c3 | (simp at c3 ⊢; omega)
  clear c3
  have H' := mk0 H
  clear H
  go_enter Try.func115, Try.ntmps115
  go_wp2
  repeat (go_quiet (fail); try go_wp2)
  go_loopg [5] k (fun kq v5 w' => ∃ (x5_1 : Int), v5 = .int .i64 x5_1 ∧ Fc (quorumref0_EqNumbers.l0 kq l0 l1 x5_1 = some r) ∧ Fc (kq ≤ k) ∧ Drawn0 w w')
  case atStart => exact ⟨(0), (by first | rfl | (simp; done) | (simp [*]; done)), H', ⟨Nat.le_refl _⟩, by repeat (first | exact Drawn0.refl _ | apply Drawn0.step)⟩
  case round =>
   clear H'
   try clear c1
   try clear c3
   try clear c3b0
   try clear c3b1
   try clear c3b2
   obtain ⟨x5_1, rfl, HA, HK1, ⟨m1, rfl⟩⟩ := hrel
   cases gk with
   | zero => exact absurd HA.out (by simp [quorumref0_EqNumbers.l0])
   | succ k1 =>
    have H := HA.out
    clear HA
    simp only [quorumref0_EqNumbers.l0] at H
    as_aux_lemma =>
     by_cases c4 : x5_1 < (l0.length : Int)
     ·rw [if_pos c4] at H
      have c4b0 : decide (x5_1 < (l0.length : Int)) = true := decide_eq_true c4
      clear c4
      by_cases c5 : 0 ≤ x5_1
      ·rw [if_pos c5] at H
       have c5b0 : decide (0 ≤ x5_1) = true := decide_eq_true c5
       clear c5
       by_cases c6 : x5_1 < (l1.length : Int)
       ·rw [if_pos c6] at H
        have c6b0 : decide (x5_1 < (l1.length : Int)) = true := decide_eq_true c6
        clear c6
        by_cases c7 : (rd l0 x5_1) = (rd l1 x5_1)
        ·rw [if_pos c7] at H
         have c7b0 : ((rd l0 x5_1) == (rd l1 x5_1)) = true := beq_iff_eq.mpr c7
         have c7b1 : ((rd l0 x5_1) != (rd l1 x5_1)) = false := bne_eq_false_iff_eq.mpr c7
         clear c7
         have H' := mk0 H
         clear H
         have p304 : 0 ≤ (x5_1 : Int) := of_decide_eq_true (by first | (with_reducible assumption) | assumption)
         have q304 : x5_1 < (l0.length : Int) := of_decide_eq_true (by first | (with_reducible assumption) | assumption)
         obtain ⟨ad304, e304, hx304_0⟩ := Kd.at_int HR0.out x5_1 p304 q304
         cases e304
         replace p304 := eq_true p304
         replace q304 := eq_true q304
         have p305 : 0 ≤ (x5_1 : Int) := of_decide_eq_true (by first | (with_reducible assumption) | assumption)
         have q305 : x5_1 < (l1.length : Int) := of_decide_eq_true (by first | (with_reducible assumption) | assumption)
         obtain ⟨ad305, e305, hx305_0⟩ := Kd.at_int HR1.out x5_1 p305 q305
         cases e305
         replace p305 := eq_true p305
         replace q305 := eq_true q305
         go_wp2
         repeat (go_quiet (fail); try go_wp2)
         go_roundg k1
         case measure => have := HK1.out; omega
         case rel => exact ⟨(wrap64 (x5_1 + 1)), (by first | rfl | (simp; done) | (simp [*]; done)), H', ⟨by have := HK1.out; omega⟩, by repeat (first | exact Drawn0.refl _ | apply Drawn0.step)⟩
        ·rw [if_neg c7] at H
         have c7b0 : ((rd l0 x5_1) == (rd l1 x5_1)) = false := beq_eq_false_iff_ne.mpr c7
         have c7b1 : ((rd l0 x5_1) != (rd l1 x5_1)) = true := bne_iff_ne.mpr c7
         obtain rfl := Option.some.inj H
         have p304 : 0 ≤ (x5_1 : Int) := of_decide_eq_true (by first | (with_reducible assumption) | assumption)
         have q304 : x5_1 < (l0.length : Int) := of_decide_eq_true (by first | (with_reducible assumption) | assumption)
         obtain ⟨ad304, e304, hx304_0⟩ := Kd.at_int HR0.out x5_1 p304 q304
         cases e304
         replace p304 := eq_true p304
         replace q304 := eq_true q304
         have p305 : 0 ≤ (x5_1 : Int) := of_decide_eq_true (by first | (with_reducible assumption) | assumption)
         have q305 : x5_1 < (l1.length : Int) := of_decide_eq_true (by first | (with_reducible assumption) | assumption)
         obtain ⟨ad305, e305, hx305_0⟩ := Kd.at_int HR1.out x5_1 p305 q305
         cases e305
         replace p305 := eq_true p305
         replace q305 := eq_true q305
         go_wp2
         repeat (go_quiet (fail); try go_wp2)
         go_ret
         exact ⟨by first | rfl | (simp; done) | (simp [*]; done), by repeat (first | exact Drawn0.refl _ | apply Drawn0.step)⟩
       ·rw [if_neg c6] at H
        exact absurd H (by simp)
      ·rw [if_neg c5] at H
       exact absurd H (by simp)
     ·rw [if_neg c4] at H
      have c4b0 : decide (x5_1 < (l0.length : Int)) = false := decide_eq_false c4
      clear c4
      obtain rfl := Option.some.inj H
      go_wp2
      repeat (go_quiet (fail); try go_wp2)
      go_ret
      exact ⟨by first | rfl | (simp; done) | (simp [*]; done), by repeat (first | exact Drawn0.refl _ | apply Drawn0.step)⟩
 ·rw [if_neg c3] at H
  have c3b0 : ((l0.length : Int) == (l1.length : Int)) = false := beq_eq_false_iff_ne.mpr c3
  have c3b1 : ((l0.length : Int) != (l1.length : Int)) = true := bne_iff_ne.mpr c3
  have c3b2 : (l0.length == l1.length) = false := by first | simpa using c3 | (simp at c3 ⊢; omega)
  obtain rfl := Option.some.inj H
  go_enter Try.func115, Try.ntmps115
  go_wp2
  repeat (go_quiet (fail); try go_wp2)
  go_ret
  exact ⟨by first | rfl | (simp; done) | (simp [*]; done), by repeat (first | exact Drawn0.refl _ | apply Drawn0.step)⟩

/-! ### quorumref0_EqPend: function 65 -/
def quorumref0_EqPend.f (k : Nat) (l0_0 : List (S36)) (l0_1 : List Int) (l1_0 : List (S36)) (l1_1 : List Int) : Option (Bool) := (quorumref0_EqWrites.f k l0_0 l1_0).bind fun t308 => (if t308 = true then ((quorumref0_EqNumbers.f k l0_1 l1_1).bind fun t309 => (some t309)) else (some false))
theorem quorumref0_EqPend.mono : ∀ a0 a1 a2 a3 k, LeO (quorumref0_EqPend.f k a0 a1 a2 a3) (quorumref0_EqPend.f (k + 1) a0 a1 a2 a3) := by
 intro a0 a1 a2 a3 k
 unfold quorumref0_EqPend.f
 repeat' first
   | (with_reducible exact quorumref0_EqNumbers.mono _ _ _)
   | (with_reducible exact quorumref0_EqWrites.mono _ _ _)
   | (with_reducible exact LeO.refl _)
   | (with_reducible exact LeO.none _)
   | (with_reducible refine LeO.ite ?_ ?_)
   | (with_reducible refine LeO.bind ?_ (fun _ => ?_))
   | exact quorumref0_EqNumbers.mono _ _ _
   | exact quorumref0_EqWrites.mono _ _ _
   | exact LeO.none _
   | refine LeO.ite ?_ ?_
   | refine LeO.bind ?_ (fun _ => ?_)
set_option maxHeartbeats 8000000 in
set_option maxRecDepth 100000 in
theorem quorumref0_EqPend.calls (k : Nat) (A0_0 : Option Addr) (c0_0 : Nat) (l0_0 : List (S36)) (A0_1 : Option Addr) (c0_1 : Nat) (l0_1 : List Int) (A1_0 : Option Addr) (c1_0 : Nat) (l1_0 : List (S36)) (A1_1 : Option Addr) (c1_1 : Nat) (l1_1 : List Int) (r : Bool) (w : World) (hr0_0 : Kd.C k36 w A0_0 l0_0.length l0_0) (hc0_0 : l0_0.length ≤ c0_0) (hr0_1 : Kd.C (Kd.int .i64) w A0_1 l0_1.length l0_1) (hc0_1 : l0_1.length ≤ c0_1) (hr1_0 : Kd.C k36 w A1_0 l1_0.length l1_0) (hc1_0 : l1_0.length ≤ c1_0) (hr1_1 : Kd.C (Kd.int .i64) w A1_1 l1_1.length l1_1) (hc1_1 : l1_1.length ≤ c1_1) (h : quorumref0_EqPend.f k l0_0 l0_1 l1_0 l1_1 = some r) :
  Calls Try.prog 65 #[.agg #[.slice A0_0 l0_0.length c0_0, .slice A0_1 l0_1.length c0_1], .agg #[.slice A1_0 l1_0.length c1_0, .slice A1_1 l1_1.length c1_1]] w fun e w' => e = .returned (.bool r) ∧ Below w.heap.size w w' := by
 have hu34 := Try.underlying34
 have HR0_0 := mk0 hr0_0
 have HC0_0 := mk0 hc0_0
 clear hr0_0 hc0_0
 have HR0_1 := mk0 hr0_1
 have HC0_1 := mk0 hc0_1
 clear hr0_1 hc0_1
 have HR1_0 := mk0 hr1_0
 have HC1_0 := mk0 hc1_0
 clear hr1_0 hc1_0
 have HR1_1 := mk0 hr1_1
 have HC1_1 := mk0 hc1_1
 clear hr1_1 hc1_1
 have HB := mk0 (Below.refl w.heap.size w)
 have H : ((quorumref0_EqWrites.f k l0_0 l1_0).bind fun t308 => (if t308 = true then ((quorumref0_EqNumbers.f k l0_1 l1_1).bind fun t309 => (some t309)) else (some false))) = some r := h
 clear h
 replace H := Option.bind_eq_some_iff.mp H
 obtain ⟨t308, A30, H⟩ := H
 try dsimp only at H
 have A3 := mk0 A30
 clear A30
 by_cases c4 : t308 = true
 focus
  subst c4
  rw [if_pos rfl] at H
  replace H := Option.bind_eq_some_iff.mp H
  obtain ⟨t309, A50, H⟩ := H
  try dsimp only at H
  have A5 := mk0 A50
  clear A50
  obtain rfl := Option.some.inj H
  go_enter Try.func65, Try.ntmps65
 rotate_left 1
 focus
  replace c4 := Bool.eq_false_iff.mpr c4
  subst c4
  rw [if_neg (show ¬ (false = true) by decide)] at H
  obtain rfl := Option.some.inj H
  go_enter Try.func65, Try.ntmps65
 rotate_right 1
 all_goals go_wp2_with (first | ((with_reducible refine gate_dst (N := 2) rfl ?_); refine bx_ (N := 2) (cs := #[.slice A0_0 l0_0.length c0_0, .slice A0_1 l0_1.length c0_1]) (t := 34) (h := ?_); intro gb306 hg w6 hbox hb; have n2_ := mk0 (gz_ HB hg); have n3_ := mk0 (gz_ HB hg); replace HB := mk0 (bt_ (b_ HB) hb); have BK306 := mk0 (hbox); have GW306 := n2_; have GE306 := n3_; clear n2_ n3_; clear hb hbox hg) | ((with_reducible refine gate_dst (N := 3) rfl ?_); refine bx_ (N := 3) (cs := #[.slice A1_0 l1_0.length c1_0, .slice A1_1 l1_1.length c1_1]) (t := 34) (h := ?_); intro gb307 hg w7 hbox hb; have n3_ := mk0 (gz_ HB hg); have n4_ := mk0 (gz_ HB hg); have n5_ := mk0 (ne1_ BK306 hg); have n6_ := mk0 (ne2_ BK306 hg); replace BK306 := mk0 (u_ BK306 hb); replace HB := mk0 (bt_ (b_ HB) hb); have BK307 := mk0 (hbox); have GW307 := n3_; have GE307 := n4_; have NB306_307 := n5_; have NB307_306 := n6_; clear n3_ n4_ n5_ n6_ hb hbox hg; have hnb8 := NB306_307.out; have hnc8 := NB307_306.out; obtain ⟨hcz9_0, hcz9_1, hfz9_0, hfz9_1⟩ := c2_ BK306; obtain ⟨hcz10_0, hcz10_1, hfz10_0, hfz10_1⟩ := c2_ BK307) | ((with_reducible refine gate_callee (f := 64) rfl ?_); refine gL_ (some 9) Try.func64 #[.slice A0_0 l0_0.length c0_0, .slice A1_0 l1_0.length c1_0] (h := ?_); (with_reducible refine (quorumref0_EqWrites.calls k _ _ l0_0 _ _ l1_0 true _ ?side1 ?side2 ?side3 ?side4 A3.out).mono ?_); (case side1 => exact cb_ HR0_0 HB); (case side2 => exact HC0_0.out); (case side3 => exact cb_ HR1_0 HB); (case side4 => exact HC1_0.out); rintro e w' ⟨rfl, ⟨nd, rfl⟩⟩; refine ⟨_, rfl, ?_⟩) | (go_at_call 115; (with_reducible refine (quorumref0_EqNumbers.calls k _ _ l0_1 _ _ l1_1 t309 _ ?side1 ?side2 ?side3 ?side4 A5.out).mono ?_); (case side1 => repeat (first | exact (Kd.C_below HR0_1.out (b_ HB)) | (with_reducible refine Kd.C_alloc ?_ _) | (with_reducible refine Kd.C_drewN ?_ _) | (with_reducible refine Kd.C_drew ?_))); (case side2 => exact HC0_1.out); (case side3 => repeat (first | exact (Kd.C_below HR1_1.out (b_ HB)) | (with_reducible refine Kd.C_alloc ?_ _) | (with_reducible refine Kd.C_drewN ?_ _) | (with_reducible refine Kd.C_drew ?_))); (case side4 => exact HC1_1.out); rintro e w' ⟨rfl, ⟨nd, rfl⟩⟩) | ((with_reducible refine gate_callee (f := 64) rfl ?_); refine gL_ (some 9) Try.func64 #[.slice A0_0 l0_0.length c0_0, .slice A1_0 l1_0.length c1_0] (h := ?_); (with_reducible refine (quorumref0_EqWrites.calls k _ _ l0_0 _ _ l1_0 false _ ?side1 ?side2 ?side3 ?side4 A3.out).mono ?_); (case side1 => exact cb_ HR0_0 HB); (case side2 => exact HC0_0.out); (case side3 => exact cb_ HR1_0 HB); (case side4 => exact HC1_0.out); rintro e w' ⟨rfl, ⟨nd, rfl⟩⟩; refine ⟨_, rfl, ?_⟩))
 ·go_ret
  exact ⟨by first | rfl | (simp [errW_none, errW_some] <;> rfl) | (simp [*, errW_none, errW_some] <;> rfl), b_ HB⟩
 ·go_ret
  exact ⟨by first | rfl | (simp [errW_none, errW_some] <;> rfl) | (simp [*, errW_none, errW_some] <;> rfl), b_ HB⟩

/-! ### pend_Put: function 66 -/
def pend_Put.j0 : Nat → Bool → List (S36) → List Int → Int → ByteArray → ByteArray → Bool → Option ((List (S36)) × List Int × Int)
 | 0, _, _, _, _, _, _, _ => none
 | k + 1, x6, x311000, x311001, x312000, x312001, x312002, x312003 => if x6 = true then (some (([] : List (S36)), ([] : List Int), 1)) else (if (x311000.length : Int) ≥ 12 then (some (([] : List (S36)), ([] : List Int), 2)) else ((pend_Own.f x311000 x311001).bind fun bt315 => (if bt315.1.length < 2932031007402 then (some ((bt315.1 ++ [(⟨x312000, x312001, x312002, x312003⟩ : S36)]), bt315.2, 0)) else (none))))
def pend_Put.f (k : Nat) (l0_0 : List (S36)) (l0_1 : List Int) (a1_0 : Int) (a1_1 : ByteArray) (a1_2 : ByteArray) (a1_3 : Bool) : Option ((List (S36)) × List Int × Int) := (pend_May.f k l0_0 l0_1).bind fun t313 => (if t313 = true then ((pend_Is.f a1_0 a1_1 a1_2 a1_3).bind fun t314 => (pend_Put.j0 k (!t314) l0_0 l0_1 a1_0 a1_1 a1_2 a1_3)) else (pend_Put.j0 k true l0_0 l0_1 a1_0 a1_1 a1_2 a1_3))
theorem pend_Put.mono_l : ∀ k, (∀ y0 y1 y2 y3 y4 y5 y6, LeO (pend_Put.j0 k y0 y1 y2 y3 y4 y5 y6) (pend_Put.j0 (k + 1) y0 y1 y2 y3 y4 y5 y6))
 | 0 => fun _ _ _ _ _ _ _ r h => by simp [pend_Put.j0] at h
 | k + 1 => by
  have ih0 := pend_Put.mono_l k
  ·intro y0 y1 y2 y3 y4 y5 y6
   unfold pend_Put.j0
   repeat' first
   | (with_reducible exact ih0 _ _ _ _ _ _ _)
   | (with_reducible exact pend_May.mono _ _ _)
   | (with_reducible exact LeO.refl _)
   | (with_reducible exact LeO.none _)
   | (with_reducible refine LeO.ite ?_ ?_)
   | (with_reducible refine LeO.bind ?_ (fun _ => ?_))
   | exact ih0 _ _ _ _ _ _ _
   | exact pend_May.mono _ _ _
   | exact LeO.none _
   | refine LeO.ite ?_ ?_
   | refine LeO.bind ?_ (fun _ => ?_)
theorem pend_Put.mono : ∀ a0 a1 a2 a3 a4 a5 k, LeO (pend_Put.f k a0 a1 a2 a3 a4 a5) (pend_Put.f (k + 1) a0 a1 a2 a3 a4 a5) := by
 intro a0 a1 a2 a3 a4 a5 k
 have ih0 := pend_Put.mono_l k
 unfold pend_Put.f
 repeat' first
   | (with_reducible exact ih0 _ _ _ _ _ _ _)
   | (with_reducible exact pend_May.mono _ _ _)
   | (with_reducible exact LeO.refl _)
   | (with_reducible exact LeO.none _)
   | (with_reducible refine LeO.ite ?_ ?_)
   | (with_reducible refine LeO.bind ?_ (fun _ => ?_))
   | exact ih0 _ _ _ _ _ _ _
   | exact pend_May.mono _ _ _
   | exact LeO.none _
   | refine LeO.ite ?_ ?_
   | refine LeO.bind ?_ (fun _ => ?_)
set_option maxHeartbeats 8000000 in
set_option maxRecDepth 100000 in
theorem pend_Put.calls (k : Nat) (A0_0 : Option Addr) (c0_0 : Nat) (l0_0 : List (S36)) (A0_1 : Option Addr) (c0_1 : Nat) (l0_1 : List Int) (a1_0 : Int) (a1_1 : ByteArray) (a1_2 : ByteArray) (a1_3 : Bool) (r1 : List (S36)) (r2 : List Int) (r3 : Int) (w : World) (hr0_0 : Kd.C k36 w A0_0 l0_0.length l0_0) (hc0_0 : l0_0.length ≤ c0_0) (hr0_1 : Kd.C (Kd.int .i64) w A0_1 l0_1.length l0_1) (hc0_1 : l0_1.length ≤ c0_1) (h : pend_Put.f k l0_0 l0_1 a1_0 a1_1 a1_2 a1_3 = some (r1, r2, r3)) :
  Calls Try.prog 66 #[.agg #[.slice A0_0 l0_0.length c0_0, .slice A0_1 l0_1.length c0_1], .agg #[.int .i64 a1_0, .string a1_1, .string a1_2, .bool a1_3]] w fun e w' => ∃ v0_ v1_ : Value, e = .returned (.tuple #[.agg #[v0_, v1_], .int .i64 r3]) ∧ Kd.R k36 36 w' w.heap.size (fun _ => True) v0_ r1 ∧ Kd.R (Kd.int .i64) 3 w' w.heap.size (fun _ => True) v1_ r2 ∧ Below w.heap.size w w' := by
 have hu34 := Try.underlying34
 have hu36 := Try.underlying36
 have HR0_0 := mk0 hr0_0
 have HC0_0 := mk0 hc0_0
 clear hr0_0 hc0_0
 have HR0_1 := mk0 hr0_1
 have HC0_1 := mk0 hc0_1
 clear hr0_1 hc0_1
 have HB := mk0 (Below.refl w.heap.size w)
 have H : ((pend_May.f k l0_0 l0_1).bind fun t313 => (if t313 = true then ((pend_Is.f a1_0 a1_1 a1_2 a1_3).bind fun t314 => (pend_Put.j0 k (!t314) l0_0 l0_1 a1_0 a1_1 a1_2 a1_3)) else (pend_Put.j0 k true l0_0 l0_1 a1_0 a1_1 a1_2 a1_3))) = some (r1, r2, r3) := h
 clear h
 have HC3 := mk0 H
 clear H
 go_enter Try.func66, Try.ntmps66
 go_upto_region 1 with (first | ((with_reducible refine gate_dst (N := 2) rfl ?_); refine bx_ (N := 2) (cs := #[.slice A0_0 l0_0.length c0_0, .slice A0_1 l0_1.length c0_1]) (t := 34) (h := ?_); intro gb310 hg w4 hbox hb; have n2_ := mk0 (gz_ HB hg); have n3_ := mk0 (gz_ HB hg); replace HB := mk0 (bt_ (b_ HB) hb); have BK310 := mk0 (hbox); have GW310 := n2_; have GE310 := n3_; clear n2_ n3_; clear hb hbox hg) | ((with_reducible refine gate_dst (N := 3) rfl ?_); refine bx_ (N := 3) (cs := #[.int .i64 a1_0, .string a1_1, .string a1_2, .bool a1_3]) (t := 36) (h := ?_); intro gb311 hg w5 hbox hb; have n3_ := mk0 (gz_ HB hg); have n4_ := mk0 (gz_ HB hg); have n5_ := mk0 (ne1_ BK310 hg); have n6_ := mk0 (ne2_ BK310 hg); replace BK310 := mk0 (u_ BK310 hb); replace HB := mk0 (bt_ (b_ HB) hb); have BK311 := mk0 (hbox); have GW311 := n3_; have GE311 := n4_; have NB310_311 := n5_; have NB311_310 := n6_; clear n3_ n4_ n5_ n6_; clear hb hbox hg) | ((with_reducible refine gate_dst (N := 4) rfl ?_); refine bx_ (N := 4) (cs := #[.slice none 0 0, .slice none 0 0]) (t := 34) (h := ?_); intro gb312 hg w6 hbox hb; have n4_ := mk0 (gz_ HB hg); have n5_ := mk0 (gz_ HB hg); have n6_ := mk0 (ne1_ BK310 hg); have n7_ := mk0 (ne2_ BK310 hg); have n8_ := mk0 (ne1_ BK311 hg); have n9_ := mk0 (ne2_ BK311 hg); replace BK310 := mk0 (u_ BK310 hb); replace BK311 := mk0 (u_ BK311 hb); replace HB := mk0 (bt_ (b_ HB) hb); have BK312 := mk0 (hbox); have GW312 := n4_; have GE312 := n5_; have NB310_312 := n6_; have NB312_310 := n7_; have NB311_312 := n8_; have NB312_311 := n9_; clear n4_ n5_ n6_ n7_ n8_ n9_; clear hb hbox hg))
 (try simp only [Act.put, List.setIfInBounds_toArray, List.set_cons_zero, List.set_cons_succ])
 go_cut [6] (fun v6 wc => ∃ (kq : Nat) (x6_2 : Bool), v6 = .bool x6_2 ∧ Fc (pend_Put.j0 kq x6_2 l0_0 l0_1 a1_0 a1_1 a1_2 a1_3 = some (r1, r2, r3)) ∧ Fc (kq ≤ k) ∧ Fc (wc.heap[gb310]? = some (.cells #[(.slice A0_0 l0_0.length c0_0), (.slice A0_1 l0_1.length c0_1)] 34 (0, 0))) ∧ Fc (wc.heap[gb311]? = some (.cells #[.int .i64 a1_0, .string a1_1, .string a1_2, .bool a1_3] 36 (0, 0))) ∧ Fc (wc.heap[gb312]? = some (.cells #[(.slice none 0 0), (.slice none 0 0)] 34 (0, 0))) ∧ Fc (Below w.heap.size w wc))
 case first =>
  have H := HC3.out
  clear HC3
  replace H := Option.bind_eq_some_iff.mp H
  obtain ⟨t313, A70, H⟩ := H
  try dsimp only at H
  have A7 := mk0 A70
  clear A70
  by_cases c8 : t313 = true
  ·subst c8
   rw [if_pos rfl] at H
   replace H := Option.bind_eq_some_iff.mp H
   obtain ⟨t314, A90, H⟩ := H
   try dsimp only at H
   have A9 := mk0 A90
   clear A90
   have H' := mk0 H
   clear H
   have hnb10 := NB310_311.out
   have hnc10 := NB311_310.out
   have hnb11 := NB310_312.out
   have hnc11 := NB312_310.out
   obtain ⟨hcz12_0, hcz12_1, hfz12_0, hfz12_1⟩ := c2_ BK310
   go_wp2_with (first | ((with_reducible refine gate_callee (f := 97) rfl ?_); refine gL_ (some 8) Try.func97 #[.agg #[.slice A0_0 l0_0.length c0_0, .slice A0_1 l0_1.length c0_1]] (h := ?_); (with_reducible refine (pend_May.calls k _ _ l0_0 _ _ l0_1 true _ ?side1 ?side2 ?side3 ?side4 A7.out).mono ?_); (case side1 => exact cb_ HR0_0 HB); (case side2 => exact HC0_0.out); (case side3 => exact cb_ HR0_1 HB); (case side4 => exact HC0_1.out); rintro e w13 ⟨rfl, hb⟩; refine ⟨_, rfl, ?_⟩; replace BK310 := mk0 (u_ BK310 hb); replace BK311 := mk0 (u_ BK311 hb); replace BK312 := mk0 (u_ BK312 hb); replace HB := mk0 (bt_ (b_ HB) hb); (try clear hb); have hnb14 := NB311_312.out; have hnc14 := NB312_311.out; obtain ⟨hcz15_0, hcz15_1, hcz15_2, hcz15_3, hfz15_0, hfz15_1, hfz15_2, hfz15_3⟩ := c4_ BK311) | (go_at_call 116; (with_reducible refine (pend_Is.calls a1_0 a1_1 a1_2 a1_3 t314 _ A9.out).mono ?_); rintro e w16 ⟨rfl, hb⟩; replace BK310 := mk0 (u_ BK310 hb); replace BK311 := mk0 (u_ BK311 hb); replace BK312 := mk0 (u_ BK312 hb); replace HB := mk0 (bt_ (b_ HB) hb); (try clear hb)))
   go_meet
   case rel => exact ⟨_, (!t314), (by first | rfl | (simp; done) | (simp [*]; done)), H', ⟨by first | omega | exact Nat.le_refl _⟩, ⟨h_ BK310⟩, ⟨h_ BK311⟩, ⟨h_ BK312⟩, ⟨b_ HB⟩⟩
  ·replace c8 := Bool.eq_false_iff.mpr c8
   subst c8
   rw [if_neg (show ¬ (false = true) by decide)] at H
   have H' := mk0 H
   clear H
   have hnb17 := NB310_311.out
   have hnc17 := NB311_310.out
   have hnb18 := NB310_312.out
   have hnc18 := NB312_310.out
   obtain ⟨hcz19_0, hcz19_1, hfz19_0, hfz19_1⟩ := c2_ BK310
   go_wp2_with (first | ((with_reducible refine gate_callee (f := 97) rfl ?_); refine gL_ (some 8) Try.func97 #[.agg #[.slice A0_0 l0_0.length c0_0, .slice A0_1 l0_1.length c0_1]] (h := ?_); (with_reducible refine (pend_May.calls k _ _ l0_0 _ _ l0_1 false _ ?side1 ?side2 ?side3 ?side4 A7.out).mono ?_); (case side1 => exact cb_ HR0_0 HB); (case side2 => exact HC0_0.out); (case side3 => exact cb_ HR0_1 HB); (case side4 => exact HC0_1.out); rintro e w20 ⟨rfl, hb⟩; refine ⟨_, rfl, ?_⟩; replace BK310 := mk0 (u_ BK310 hb); replace BK311 := mk0 (u_ BK311 hb); replace BK312 := mk0 (u_ BK312 hb); replace HB := mk0 (bt_ (b_ HB) hb); (try clear hb)))
   go_meet
   case rel => exact ⟨_, (true), (by first | rfl | (simp; done) | (simp [*]; done)), H', ⟨by first | omega | exact Nat.le_refl _⟩, ⟨h_ BK310⟩, ⟨h_ BK311⟩, ⟨h_ BK312⟩, ⟨b_ HB⟩⟩
 case rest =>
  clear HC3
  try clear c8
  try clear hcz12_0
  try clear hcz12_1
  try clear hcz15_0
  try clear hcz15_1
  try clear hcz15_2
  try clear hcz15_3
  try clear hcz19_0
  try clear hcz19_1
  try clear hfz12_0
  try clear hfz12_1
  try clear hfz15_0
  try clear hfz15_1
  try clear hfz15_2
  try clear hfz15_3
  try clear hfz19_0
  try clear hfz19_1
  obtain ⟨kq, x6_2, rfl, HA, HJ2, BK310, BK311, BK312, HB⟩ := hcut
  cases kq with
  | zero => exact absurd HA.out (by simp [pend_Put.j0])
  | succ kj2 =>
   have H := HA.out
   clear HA
   simp only [pend_Put.j0] at H
   as_aux_lemma =>
    by_cases c21 : x6_2 = true
    ·subst c21
     rw [if_pos rfl] at H
     simp only [Option.some.injEq, Prod.mk.injEq] at H
     obtain ⟨rfl, rfl, rfl⟩ := H
     have hnb22 := NB312_310.out
     have hnc22 := NB310_312.out
     have hnb23 := NB312_311.out
     have hnc23 := NB311_312.out
     obtain ⟨hcz24_0, hcz24_1, hfz24_0, hfz24_1⟩ := c2_ BK312
     go_wp2
     refine bodyPost_ret (results_ct rfl _ _ gb312 34 #[.slice none 0 0, .slice none 0 0] (0, 0) _ rfl (pu_ (cs := #[.slice none 0 0, .slice none 0 0]) (pu_ (cs := #[.slice none 0 0, .slice none 0 0]) (h_ BK312))) Try.underlying34 rfl (by kernel_rfl)) rfl ?_
     exact ⟨_, _, by first | rfl | (simp [errW_none, errW_some] <;> rfl) | (simp [*, errW_none, errW_some] <;> rfl), by first | exact Kd.R_nil _ _ _ _ _ | exact Kd.N_nil _ _ _ _ _ | exact Kd.V_nil _ _ _ _ _ | exact Kd.Q_nil _ _ _ _ _ | exact Kd.S_nil _ _ _ _ _, by first | exact Kd.R_nil _ _ _ _ _ | exact Kd.N_nil _ _ _ _ _ | exact Kd.V_nil _ _ _ _ _ | exact Kd.Q_nil _ _ _ _ _ | exact Kd.S_nil _ _ _ _ _, b_ HB⟩
    ·replace c21 := Bool.eq_false_iff.mpr c21
     subst c21
     rw [if_neg (show ¬ (false = true) by decide)] at H
     by_cases c25 : (l0_0.length : Int) ≥ 12
     ·rw [if_pos c25] at H
      have c25b0 : decide (12 ≤ (l0_0.length : Int)) = true := decide_eq_true c25
      have c25b1 : decide (12 ≤ l0_0.length) = true := decide_eq_true (by omega)
      clear c25
      simp only [Option.some.injEq, Prod.mk.injEq] at H
      obtain ⟨rfl, rfl, rfl⟩ := H
      have hnb26 := NB310_311.out
      have hnc26 := NB311_310.out
      have hnb27 := NB310_312.out
      have hnc27 := NB312_310.out
      obtain ⟨hcz28_0, hcz28_1, hfz28_0, hfz28_1⟩ := c2_ BK310
      have hnb29 := NB312_311.out
      have hnc29 := NB311_312.out
      obtain ⟨hcz30_0, hcz30_1, hfz30_0, hfz30_1⟩ := c2_ BK312
      go_wp2
      refine bodyPost_ret (results_ct rfl _ _ gb312 34 #[.slice none 0 0, .slice none 0 0] (0, 0) _ rfl (pu_ (cs := #[.slice none 0 0, .slice none 0 0]) (pu_ (cs := #[.slice none 0 0, .slice none 0 0]) (h_ BK312))) Try.underlying34 rfl (by kernel_rfl)) rfl ?_
      exact ⟨_, _, by first | rfl | (simp [errW_none, errW_some] <;> rfl) | (simp [*, errW_none, errW_some] <;> rfl), by first | exact Kd.R_nil _ _ _ _ _ | exact Kd.N_nil _ _ _ _ _ | exact Kd.V_nil _ _ _ _ _ | exact Kd.Q_nil _ _ _ _ _ | exact Kd.S_nil _ _ _ _ _, by first | exact Kd.R_nil _ _ _ _ _ | exact Kd.N_nil _ _ _ _ _ | exact Kd.V_nil _ _ _ _ _ | exact Kd.Q_nil _ _ _ _ _ | exact Kd.S_nil _ _ _ _ _, b_ HB⟩
     ·rw [if_neg c25] at H
      have c25b0 : decide (12 ≤ (l0_0.length : Int)) = false := decide_eq_false c25
      have c25b1 : decide (12 ≤ l0_0.length) = false := decide_eq_false (by omega)
      clear c25
      replace H := Option.bind_eq_some_iff.mp H
      obtain ⟨⟨t315, t318⟩, A310, H⟩ := H
      try dsimp only at H
      have A31 := mk0 A310
      clear A310
      by_cases c32 : t315.length < 2932031007402
      ·rw [if_pos c32] at H
       have LMc32 := mk0 c32
       clear c32
       obtain ⟨y321, hy321⟩ : ∃ y_ : List (S36), y_ = (t315 ++ [(⟨a1_0, a1_1, a1_2, a1_3⟩ : S36)]) := ⟨_, rfl⟩
       replace H : (some (y321, t318, 0)) = some (r1, r2, r3) := by first | (rw [hy321]; with_reducible exact H) | (have H2_ := (Option.bind_some _ _).symm.trans H; rw [hy321]; with_reducible exact H2_) | (have H2_ := (Option.bind_some _ _).symm.trans H; with_reducible exact H2_) | with_reducible exact H | (rw [hy321]; exact H) | exact H
       have Ny321 := mk0 hy321
       clear hy321
       simp only [Option.some.injEq, Prod.mk.injEq] at H
       obtain ⟨rfl, rfl, rfl⟩ := H
       have hnb33 := NB310_311.out
       have hnc33 := NB311_310.out
       have hnb34 := NB310_312.out
       have hnc34 := NB312_310.out
       obtain ⟨hcz35_0, hcz35_1, hfz35_0, hfz35_1⟩ := c2_ BK310
       go_wp2_with (first | ((with_reducible refine gate_callee (f := 111) rfl ?_); refine gL_ (some 23) Try.func111 #[.agg #[.slice A0_0 l0_0.length c0_0, .slice A0_1 l0_1.length c0_1]] (h := ?_); (with_reducible refine (pend_Own.calls _ _ l0_0 _ _ l0_1 t315 t318 _ ?side1 ?side2 ?side3 ?side4 A31.out).mono ?_); (case side1 => exact cb_ HR0_0 HB); (case side2 => exact HC0_0.out); (case side3 => exact cb_ HR0_1 HB); (case side4 => exact HC0_1.out); rintro e w36 ⟨v316, v319, rfl, ho0, ho1, hb⟩; refine ⟨_, rfl, ?_⟩; have n0_ := mk0 (Kd.R_lower (Kd.R_newB ho0 (g := gb311) (o := .cells #[.int .i64 a1_0, .string a1_1, .string a1_2, .bool a1_3] 36 (0, 0)) (h_ BK311)) (bz_ (b_ HB))); have n1_ := mk0 (Kd.R_lower ho1 (bz_ (b_ HB))); replace BK310 := mk0 (u_ BK310 hb); replace BK311 := mk0 (u_ BK311 hb); replace BK312 := mk0 (u_ BK312 hb); replace HB := mk0 (bt_ (b_ HB) hb); have HO317 := n0_; have HO320 := n1_; clear n0_ n1_; (try clear hb); (try clear ho0); (try clear ho1); obtain ⟨Ao37, co37, eo37⟩ := Kd.R_slice HO317.out; subst eo37; obtain ⟨hcz38_0, hcz38_1, hfz38_0, hfz38_1⟩ := c2_ BK310; obtain ⟨Ao39, co39, eo39⟩ := Kd.R_slice HO320.out; subst eo39; have hnb40 := NB311_312.out; have hnc40 := NB312_311.out; obtain ⟨hcz41_0, hcz41_1, hcz41_2, hcz41_3, hfz41_0, hfz41_1, hfz41_2, hfz41_3⟩ := c4_ BK311) | ((with_reducible refine gate_builtin (b := .append) (xs := #[.tmp 25, .tmp 27]) rfl ?_); at_builtin; refine Kd.R_append k36 (w0 := w) w.heap.size rfl (.tmp 25) (.tmp 27) 32 36 (.agg #[(.int .i64 0), (.string ⟨#[]⟩), (.string ⟨#[]⟩), (.bool false)]) 48 rfl Try.underlying32 info36 rfl (by decide) (by omega) (.slice Ao37 t315.length co37) t315 (⟨a1_0, a1_1, a1_2, a1_3⟩ : S36) [.int .i64 a1_0, .string a1_1, .string a1_2, .bool a1_3] (fun k_ => k_ ≠ gb311) (fun _ => False) rfl (by first | (go_simp; done) | (go_simp; rfl)) ?aP (fun _ hk => hk.elim) ?aF ?aO ?aB ?aS ?aL ?_; (case aP => exact k36_mkM _ _ _ (⟨a1_0, a1_1, a1_2, a1_3⟩ : S36)); (case aB => exact (b_ HB)); (case aF => exact (fun k_ hk => Kd.freshB (g := gb311) (o := .cells #[.int .i64 a1_0, .string a1_1, .string a1_2, .bool a1_3] 36 (0, 0)) (fa_ (fa_ (h_ BK311) NB311_310.out) NB311_310.out) k_ hk)); (case aO => exact (r2_ (Kd.R_mono (Kd.R_far (p := ⟨gb310, 1, none⟩) (Kd.R_far (p := ⟨gb310, 0, none⟩) (Kd.R_types HO317.out BK310.out (by decide)) (fun _ hk => hk.2) (.slice Ao37 t315.length co37)) (fun _ hk => hk.2) (.slice Ao39 t318.length co39)) (fun _ hk => hk.1.2)))); (case aS => exact (bz_ (b_ HB))); (case aL => have := LMc32.out; omega); intro v322 w42 ho hb hg hat; rw [← Ny321.out] at ho; have n3_ := mk0 (Kd.R_over' (r2_ (Kd.R_mono (Kd.R_far (p := ⟨gb310, 1, none⟩) (Kd.R_far (p := ⟨gb310, 0, none⟩) (Kd.R_types HO320.out BK310.out (by decide)) (fun _ hk => hk.2) (.slice Ao37 t315.length co37)) (fun _ hk => hk.2) (.slice Ao39 t318.length co39)) (fun _ h_ => h_.1))) (Kd.R_typed (r2_ (Kd.R_mono (Kd.R_far (p := ⟨gb310, 1, none⟩) (Kd.R_far (p := ⟨gb310, 0, none⟩) (Kd.R_types HO317.out BK310.out (by decide)) (fun _ hk => hk.2) (.slice Ao37 t315.length co37)) (fun _ hk => hk.2) (.slice Ao39 t318.length co39)) (fun _ h_ => h_.1)))) (by decide) hg); replace BK310 := mk0 (blk_grown (g := gb310) (o := .cells #[.slice Ao37 t315.length co37, .slice Ao39 t318.length co39] 34 (0, 0)) (pu_ (cs := #[.slice Ao37 t315.length co37, .slice A0_1 l0_1.length c0_1]) (pu_ (cs := #[.slice A0_0 l0_0.length c0_0, .slice A0_1 l0_1.length c0_1]) (h_ BK310))) hg (Kd.R_ne HO317.out BK310.out (by decide))); replace BK311 := mk0 (blk_grown (g := gb311) (o := .cells #[.int .i64 a1_0, .string a1_1, .string a1_2, .bool a1_3] 36 (0, 0)) (fa_ (fa_ (h_ BK311) NB311_310.out) NB311_310.out) hg (Kd.R_away HO317.out (fun _ hk => hk.2))); replace BK312 := mk0 (blk_grown (g := gb312) (o := .cells #[.slice none 0 0, .slice none 0 0] 34 (0, 0)) (fa_ (fa_ (h_ BK312) NB312_310.out) NB312_310.out) hg (Kd.R_ne HO317.out BK312.out (by decide))); replace HB := mk0 (hb); have HO323 := mk0 (ho); clear HO320 HO317; have HO320 := n3_; clear n3_ ho hb hg hat; obtain ⟨Ao43, co43, eo43⟩ := Kd.R_slice HO323.out; subst eo43; obtain ⟨hcz44_0, hcz44_1, hfz44_0, hfz44_1⟩ := c2_ BK310; obtain ⟨hcz45_0, hcz45_1, hfz45_0, hfz45_1⟩ := c2_ BK312))
       refine bodyPost_ret (results_ct rfl _ _ gb312 34 #[.slice Ao43 y321.length co43, .slice Ao39 t318.length co39] (0, 0) _ rfl (pu_ (cs := #[.slice Ao43 y321.length co43, .slice none 0 0]) (pu_ (cs := #[.slice none 0 0, .slice none 0 0]) (fa_ (h_ BK312) NB312_310.out))) Try.underlying34 rfl (by kernel_rfl)) rfl ?_
       exact ⟨_, _, by first | rfl | (simp [errW_none, errW_some] <;> rfl) | (simp [*, errW_none, errW_some] <;> rfl), by (with_reducible repeat (first | apply Ra_ | apply Rn_ | apply Rd_)); exact Kd.R_mono (Kd.R_far (p := ⟨gb312, 1, none⟩) (Kd.R_far (p := ⟨gb312, 0, none⟩) (Kd.R_far (p := ⟨gb310, 0, none⟩) (Kd.R_types (Kd.R_types HO323.out BK310.out (by decide)) BK312.out (by decide)) (fun _ hk => hk.1.2) (.slice Ao43 y321.length co43)) (fun _ hk => hk.2) (.slice Ao43 y321.length co43)) (fun _ hk => hk.2) (.slice Ao39 t318.length co39)) (fun _ hk => trivial), by (with_reducible repeat (first | apply Ra_ | apply Rn_ | apply Rd_)); exact Kd.R_mono (Kd.R_far (p := ⟨gb312, 1, none⟩) (Kd.R_far (p := ⟨gb312, 0, none⟩) (Kd.R_far (p := ⟨gb310, 0, none⟩) (Kd.R_types (Kd.R_types HO320.out BK310.out (by decide)) BK312.out (by decide)) (fun _ hk => hk.1.2) (.slice Ao43 y321.length co43)) (fun _ hk => hk.2) (.slice Ao43 y321.length co43)) (fun _ hk => hk.2) (.slice Ao39 t318.length co39)) (fun _ hk => trivial), b_ HB⟩
      ·rw [if_neg c32] at H
       exact absurd H (by simp)

/-! ### pend_Check: function 67 -/
def pend_Check.f (k : Nat) (l0_0 : List (S36)) (l0_1 : List Int) : Option (Int) := (pend_May.f k l0_0 l0_1).bind fun t325 => (if t325 = true then (some 0) else (some 1))
theorem pend_Check.mono : ∀ a0 a1 k, LeO (pend_Check.f k a0 a1) (pend_Check.f (k + 1) a0 a1) := by
 intro a0 a1 k
 unfold pend_Check.f
 repeat' first
   | (with_reducible exact pend_May.mono _ _ _)
   | (with_reducible exact LeO.refl _)
   | (with_reducible exact LeO.none _)
   | (with_reducible refine LeO.ite ?_ ?_)
   | (with_reducible refine LeO.bind ?_ (fun _ => ?_))
   | exact pend_May.mono _ _ _
   | exact LeO.none _
   | refine LeO.ite ?_ ?_
   | refine LeO.bind ?_ (fun _ => ?_)
set_option maxHeartbeats 8000000 in
set_option maxRecDepth 100000 in
theorem pend_Check.calls (k : Nat) (A0_0 : Option Addr) (c0_0 : Nat) (l0_0 : List (S36)) (A0_1 : Option Addr) (c0_1 : Nat) (l0_1 : List Int) (r : Int) (w : World) (hr0_0 : Kd.C k36 w A0_0 l0_0.length l0_0) (hc0_0 : l0_0.length ≤ c0_0) (hr0_1 : Kd.C (Kd.int .i64) w A0_1 l0_1.length l0_1) (hc0_1 : l0_1.length ≤ c0_1) (h : pend_Check.f k l0_0 l0_1 = some r) :
  Calls Try.prog 67 #[.agg #[.slice A0_0 l0_0.length c0_0, .slice A0_1 l0_1.length c0_1]] w fun e w' => e = .returned (.int .i64 r) ∧ Below w.heap.size w w' := by
 have hu34 := Try.underlying34
 have HR0_0 := mk0 hr0_0
 have HC0_0 := mk0 hc0_0
 clear hr0_0 hc0_0
 have HR0_1 := mk0 hr0_1
 have HC0_1 := mk0 hc0_1
 clear hr0_1 hc0_1
 have HB := mk0 (Below.refl w.heap.size w)
 have H : ((pend_May.f k l0_0 l0_1).bind fun t325 => (if t325 = true then (some 0) else (some 1))) = some r := h
 clear h
 replace H := Option.bind_eq_some_iff.mp H
 obtain ⟨t325, A20, H⟩ := H
 try dsimp only at H
 have A2 := mk0 A20
 clear A20
 by_cases c3 : t325 = true
 ·subst c3
  rw [if_pos rfl] at H
  obtain rfl := Option.some.inj H
  go_enter Try.func67, Try.ntmps67
  go_wp2_with (first | ((with_reducible refine gate_dst (N := 1) rfl ?_); refine bx_ (N := 1) (cs := #[.slice A0_0 l0_0.length c0_0, .slice A0_1 l0_1.length c0_1]) (t := 34) (h := ?_); intro gb324 hg w4 hbox hb; have n2_ := mk0 (gz_ HB hg); have n3_ := mk0 (gz_ HB hg); replace HB := mk0 (bt_ (b_ HB) hb); have BK324 := mk0 (hbox); have GW324 := n2_; have GE324 := n3_; clear n2_ n3_ hb hbox hg; obtain ⟨hcz5_0, hcz5_1, hfz5_0, hfz5_1⟩ := c2_ BK324) | ((with_reducible refine gate_callee (f := 97) rfl ?_); refine gL_ (some 4) Try.func97 #[.agg #[.slice A0_0 l0_0.length c0_0, .slice A0_1 l0_1.length c0_1]] (h := ?_); (with_reducible refine (pend_May.calls k _ _ l0_0 _ _ l0_1 true _ ?side1 ?side2 ?side3 ?side4 A2.out).mono ?_); (case side1 => exact cb_ HR0_0 HB); (case side2 => exact HC0_0.out); (case side3 => exact cb_ HR0_1 HB); (case side4 => exact HC0_1.out); rintro e w6 ⟨rfl, hb⟩; refine ⟨_, rfl, ?_⟩; replace BK324 := mk0 (u_ BK324 hb); replace HB := mk0 (bt_ (b_ HB) hb); (try clear hb)))
  go_ret
  exact ⟨by first | rfl | (simp [errW_none, errW_some] <;> rfl) | (simp [*, errW_none, errW_some] <;> rfl), b_ HB⟩
 ·replace c3 := Bool.eq_false_iff.mpr c3
  subst c3
  rw [if_neg (show ¬ (false = true) by decide)] at H
  obtain rfl := Option.some.inj H
  go_enter Try.func67, Try.ntmps67
  go_wp2_with (first | ((with_reducible refine gate_dst (N := 1) rfl ?_); refine bx_ (N := 1) (cs := #[.slice A0_0 l0_0.length c0_0, .slice A0_1 l0_1.length c0_1]) (t := 34) (h := ?_); intro gb324 hg w7 hbox hb; have n2_ := mk0 (gz_ HB hg); have n3_ := mk0 (gz_ HB hg); replace HB := mk0 (bt_ (b_ HB) hb); have BK324 := mk0 (hbox); have GW324 := n2_; have GE324 := n3_; clear n2_ n3_ hb hbox hg; obtain ⟨hcz8_0, hcz8_1, hfz8_0, hfz8_1⟩ := c2_ BK324) | ((with_reducible refine gate_callee (f := 97) rfl ?_); refine gL_ (some 4) Try.func97 #[.agg #[.slice A0_0 l0_0.length c0_0, .slice A0_1 l0_1.length c0_1]] (h := ?_); (with_reducible refine (pend_May.calls k _ _ l0_0 _ _ l0_1 false _ ?side1 ?side2 ?side3 ?side4 A2.out).mono ?_); (case side1 => exact cb_ HR0_0 HB); (case side2 => exact HC0_0.out); (case side3 => exact cb_ HR0_1 HB); (case side4 => exact HC0_1.out); rintro e w9 ⟨rfl, hb⟩; refine ⟨_, rfl, ?_⟩; replace BK324 := mk0 (u_ BK324 hb); replace HB := mk0 (bt_ (b_ HB) hb); (try clear hb)))
  go_ret
  exact ⟨by first | rfl | (simp [errW_none, errW_some] <;> rfl) | (simp [*, errW_none, errW_some] <;> rfl), b_ HB⟩

/-! ### quorumlaw0_Writes: function 117 -/
def quorumlaw0_Writes.l0 : Nat → List (S36) → Int → Option ((List (S36)))
 | 0, _, _ => none
 | k + 1, x0, x2 => if x2 < (x0.length : Int) then (if 0 ≤ x2 then (quorumlaw0_Writes.l0 k (x0.set (x2 : Int).toNat (⟨(-9), (⟨#[]⟩ : ByteArray), (⟨#[]⟩ : ByteArray), false⟩ : S36)) (wrap64 (x2 + 1))) else (none)) else (some x0)
def quorumlaw0_Writes.f (k : Nat) (l0 : List (S36)) : Option ((List (S36))) := quorumlaw0_Writes.l0 k l0 0
theorem quorumlaw0_Writes.mono_l : ∀ k, (∀ y0 y1, LeO (quorumlaw0_Writes.l0 k y0 y1) (quorumlaw0_Writes.l0 (k + 1) y0 y1))
 | 0 => fun _ _ r h => by simp [quorumlaw0_Writes.l0] at h
 | k + 1 => by
  have ih0 := quorumlaw0_Writes.mono_l k
  ·intro y0 y1
   unfold quorumlaw0_Writes.l0
   repeat' first
   | (with_reducible exact ih0 _ _)
   | (with_reducible exact LeO.refl _)
   | (with_reducible exact LeO.none _)
   | (with_reducible refine LeO.ite ?_ ?_)
   | (with_reducible refine LeO.bind ?_ (fun _ => ?_))
   | exact ih0 _ _
   | exact LeO.none _
   | refine LeO.ite ?_ ?_
   | refine LeO.bind ?_ (fun _ => ?_)
theorem quorumlaw0_Writes.mono : ∀ a0 k, LeO (quorumlaw0_Writes.f k a0) (quorumlaw0_Writes.f (k + 1) a0) := by
 intro a0 k
 have ih0 := quorumlaw0_Writes.mono_l k
 unfold quorumlaw0_Writes.f
 repeat' first
   | (with_reducible exact ih0 _ _)
   | (with_reducible exact LeO.refl _)
   | (with_reducible exact LeO.none _)
   | (with_reducible refine LeO.ite ?_ ?_)
   | (with_reducible refine LeO.bind ?_ (fun _ => ?_))
   | exact ih0 _ _
   | exact LeO.none _
   | refine LeO.ite ?_ ?_
   | refine LeO.bind ?_ (fun _ => ?_)
set_option maxHeartbeats 8000000 in
set_option maxRecDepth 100000 in
theorem quorumlaw0_Writes.calls (k : Nat) (P0_ : Nat → Prop) (u9000_ : Value) (l0 : List (S36)) (r : List (S36)) (w0 w : World) (hB : Below w0.heap.size w0 w) (ho0 : Kd.R k36 36 w w0.heap.size P0_ u9000_ l0) (h : quorumlaw0_Writes.f k l0 = some r) :
  Calls Try.prog 117 #[u9000_] w fun e w' => e = .returned (.tuple #[]) ∧ Kd.R k36 36 w' w0.heap.size (fun k_ => (P0_ k_ ∨ w.heap.size ≤ k_)) u9000_ r ∧ Below w0.heap.size w0 w' ∧ Kept w w' (fun k_ => P0_ k_) := by
 have hu36 := Try.underlying36
 have HO0 := mk0 (show Kd.R k36 36 w w0.heap.size (fun k_ => (P0_ k_ ∨ w.heap.size ≤ k_)) u9000_ l0 from Kd.R_mono ho0 (fun k_ hk => (.inl hk)))
 have HK := mk0 (Kept.refl w (fun k_ => P0_ k_))
 have HW0 := mk0 hB.size
 have HB := mk0 hB
 clear hB
 have H : (quorumlaw0_Writes.l0 k l0 0) = some r := h
 clear h
 have H' := mk0 H
 clear H
 go_enter Try.func117, Try.ntmps117
 go_wp2
 go_loopg [2] k (fun kq v2 w' => ∃ (x0_1 : List (S36)) (x2_1 : Int), v2 = .int .i64 x2_1 ∧ Fc (quorumlaw0_Writes.l0 kq x0_1 x2_1 = some r) ∧ Fc (kq ≤ k) ∧ Fc (Kd.R k36 36 w' w0.heap.size (fun k_ => (P0_ k_ ∨ w.heap.size ≤ k_)) u9000_ x0_1) ∧ Fc (Kept w w' (fun k_ => P0_ k_)) ∧ Fc (Below w0.heap.size w0 w'))
 case atStart => exact ⟨(l0), (0), (by first | rfl | (simp; done) | (simp [*]; done)), H', ⟨Nat.le_refl _⟩, ⟨by (with_reducible repeat (first | apply Ra_ | apply Rn_ | apply Rd_)); exact HO0.out⟩, ⟨k_ HK⟩, ⟨b_ HB⟩⟩
 case round =>
  clear H'
  obtain ⟨x0_1, x2_1, rfl, HA, HK1, HO_0, HK, HB⟩ := hrel
  cases gk with
  | zero => exact absurd HA.out (by simp [quorumlaw0_Writes.l0])
  | succ k1 =>
   have H := HA.out
   clear HA
   simp only [quorumlaw0_Writes.l0] at H
   as_aux_lemma =>
    by_cases c2 : x2_1 < (x0_1.length : Int)
    ·rw [if_pos c2] at H
     have c2b0 : decide (x2_1 < (x0_1.length : Int)) = true := decide_eq_true c2
     clear c2
     by_cases c3 : 0 ≤ x2_1
     ·rw [if_pos c3] at H
      have c3b0 : decide (0 ≤ x2_1) = true := decide_eq_true c3
      clear c3
      obtain ⟨y326, hy326⟩ : ∃ y_ : List (S36), y_ = (x0_1.set (x2_1 : Int).toNat (⟨(-9), (⟨#[]⟩ : ByteArray), (⟨#[]⟩ : ByteArray), false⟩ : S36)) := ⟨_, rfl⟩
      replace H : (quorumlaw0_Writes.l0 k1 y326 (wrap64 (x2_1 + 1))) = some r := by first | (rw [hy326]; with_reducible exact H) | (have H2_ := (Option.bind_some _ _).symm.trans H; rw [hy326]; with_reducible exact H2_) | (have H2_ := (Option.bind_some _ _).symm.trans H; with_reducible exact H2_) | with_reducible exact H | (rw [hy326]; exact H) | exact H
      have Ny326 := mk0 hy326
      clear hy326
      have H' := mk0 H
      clear H
      obtain ⟨Ao5, co5, eo5⟩ := Kd.R_slice HO_0.out
      subst eo5
      have p4 : 0 ≤ (x2_1 : Int) := of_decide_eq_true (by first | (with_reducible assumption) | assumption)
      have q4 : (x2_1 : Int) < ((x0_1.length : Int) : Int) := of_decide_eq_true (by first | (with_reducible assumption) | assumption)
      obtain ⟨go4, co4, eo4, gb4, gl4, cl4, HG4⟩ := Kd.R_form HO_0.out (by omega)
      (first | cases eo4 | (injection eo4 with ea_ en_ ec_; (first | subst ea_ | (injection ea_ with ea_; subst ea_)); subst ec_; clear en_))
      have GB4 := mk0 gb4
      have GG4 := mk0 HG4
      clear gb4 gl4 HG4
      have HMgo4 := mk0 (show (P0_ go4 ∨ w.heap.size ≤ go4) from (HO_0.out.1 _ rfl))
      obtain ⟨ce4, hcl4, hM4, hcc4, hfr4⟩ := Kd.R_elem HO_0.out z36 (x2_1 : Int) p4 q4
      obtain rfl := k36_openM hM4
      have hx4_0 : wr.cell? ⟨go4, (x2_1 : Int).toNat * 4, none⟩ = some (.int .i64 ((rd_T36 x0_1 x2_1).f0)) := hcc4 0 _ rfl
      have hx4_1 : wr.cell? ⟨go4, (x2_1 : Int).toNat * 4 + 1, none⟩ = some (.string ((rd_T36 x0_1 x2_1).f1)) := hcc4 1 _ rfl
      have hx4_2 : wr.cell? ⟨go4, (x2_1 : Int).toNat * 4 + 2, none⟩ = some (.string ((rd_T36 x0_1 x2_1).f2)) := hcc4 2 _ rfl
      have hx4_3 : wr.cell? ⟨go4, (x2_1 : Int).toNat * 4 + 3, none⟩ = some (.bool ((rd_T36 x0_1 x2_1).f3)) := hcc4 3 _ rfl
      have hf4_0 : wr.frozen? ⟨go4, (x2_1 : Int).toNat * 4, none⟩ = false := hfr4 0
      have hf4_1 : wr.frozen? ⟨go4, (x2_1 : Int).toNat * 4 + 1, none⟩ = false := hfr4 1
      have hf4_2 : wr.frozen? ⟨go4, (x2_1 : Int).toNat * 4 + 2, none⟩ = false := hfr4 2
      have hf4_3 : wr.frozen? ⟨go4, (x2_1 : Int).toNat * 4 + 3, none⟩ = false := hfr4 3
      clear hcl4 hcc4 hfr4 hM4
      replace p4 := eq_true p4
      replace q4 := eq_true q4
      have HX6 := mk0 (show Kd.R k36 36 wr w0.heap.size (fun k_ => (P0_ k_ ∨ w.heap.size ≤ k_)) (.slice (some ⟨go4, 0, none⟩) x0_1.length co5) x0_1 from (r_ HO_0))
      obtain ⟨ce6, hcl6, hM6, hcc6, hfr6⟩ := Kd.R_elem HX6.out z36 (x2_1 : Int) (of_decide_eq_true (by first | (with_reducible assumption) | assumption)) (by have h_ : (x2_1 : Int) < ((x0_1.length : Int) : Int) := of_decide_eq_true (by first | (with_reducible assumption) | assumption); first | exact h_ | (have e_ := (Kd.R_reads' HO_0.out).1; omega) | simpa using h_)
      obtain rfl := k36_openM hM6
      have HP6 := Kd.R_seg HX6.out (x2_1 : Int) (of_decide_eq_true (by first | (with_reducible assumption) | assumption)) (by have h_ : (x2_1 : Int) < ((x0_1.length : Int) : Int) := of_decide_eq_true (by first | (with_reducible assumption) | assumption); first | exact h_ | (have e_ := (Kd.R_reads' HO_0.out).1; omega) | simpa using h_) (seg := [.int .i64 (-9), .string (⟨#[]⟩ : ByteArray), .string (⟨#[]⟩ : ByteArray), .bool false]) (j := 0) hcl6 hcc6 (show 4 ≤ 4 from by decide) (x' := (⟨(-9), (⟨#[]⟩ : ByteArray), (⟨#[]⟩ : ByteArray), false⟩ : S36)) (k36_mkM _ _ _ (⟨(-9), (⟨#[]⟩ : ByteArray), (⟨#[]⟩ : ByteArray), false⟩ : S36) ) (fun _ hk => hk)
      have hx6_0 := hcc6 0 _ rfl
      (try simp only [show (k36).sz = 4 from rfl, Nat.mul_one, Nat.add_zero] at hx6_0)
      have hf6_0 := hfr6 0
      (try simp only [show (k36).sz = 4 from rfl, Nat.mul_one, Nat.add_zero] at hf6_0)
      have hx6_1 := hcc6 1 _ rfl
      (try simp only [show (k36).sz = 4 from rfl, Nat.mul_one, Nat.add_zero] at hx6_1)
      have hf6_1 := hfr6 1
      (try simp only [show (k36).sz = 4 from rfl, Nat.mul_one, Nat.add_zero] at hf6_1)
      have hx6_2 := hcc6 2 _ rfl
      (try simp only [show (k36).sz = 4 from rfl, Nat.mul_one, Nat.add_zero] at hx6_2)
      have hf6_2 := hfr6 2
      (try simp only [show (k36).sz = 4 from rfl, Nat.mul_one, Nat.add_zero] at hf6_2)
      have hx6_3 := hcc6 3 _ rfl
      (try simp only [show (k36).sz = 4 from rfl, Nat.mul_one, Nat.add_zero] at hx6_3)
      have hf6_3 := hfr6 3
      (try simp only [show (k36).sz = 4 from rfl, Nat.mul_one, Nat.add_zero] at hf6_3)
      clear hcl6 hcc6 hfr6 hM6
      go_wp2_with (first | ((with_reducible refine gate_store (t := 36) (p := 12) rfl ?_); refine sv_ (t := 36) (p := 12) (w1 := ((((wr.setCell ⟨go4, (x2_1 : Int).toNat * 4, none⟩ (.int .i64 (-9))).setCell ⟨go4, (x2_1 : Int).toNat * 4 + 1, none⟩ (.string (⟨#[]⟩ : ByteArray))).setCell ⟨go4, (x2_1 : Int).toNat * 4 + 2, none⟩ (.string (⟨#[]⟩ : ByteArray))).setCell ⟨go4, (x2_1 : Int).toNat * 4 + 3, none⟩ (.bool false))) (h := ?_); intro w7 hw; have hg : wr.grownBy w7 (some go4) := (by rw [hw]; exact HP6.2); have hp_ : Kd.R k36 36 w7 w0.heap.size (fun k_ => (P0_ k_ ∨ w.heap.size ≤ k_)) (.slice (some ⟨go4, 0, none⟩) x0_1.length co5) y326 := (by rw [hw, Ny326.out]; exact HP6.1); clear HP6; have n2_ := mk0 (Kept.of_grown (S := (fun k_ => P0_ k_)) hg (k_ HK) (fun k_ e_ => (HO_0.out.1 k_ e_))); replace HO_0 := mk0 (hp_); replace HB := mk0 ((by rw [hw]; exact bs_ (bs_ (bs_ (bs_ (HB.out) GB4.out) GB4.out) GB4.out) GB4.out : Below w0.heap.size w0 w7)); clear HK; have HK := n2_; clear n2_; clear hg hw hp_))
      go_roundg k1
      case measure => have := HK1.out; omega
      case rel => exact ⟨(y326), (wrap64 (x2_1 + 1)), (by first | rfl | (simp; done) | (simp [*]; done)), H', ⟨by have := HK1.out; omega⟩, ⟨by (with_reducible repeat (first | apply Ra_ | apply Rn_ | apply Rd_)); exact HO_0.out⟩, ⟨k_ HK⟩, ⟨b_ HB⟩⟩
     ·rw [if_neg c3] at H
      exact absurd H (by simp)
    ·rw [if_neg c2] at H
     have c2b0 : decide (x2_1 < (x0_1.length : Int)) = false := decide_eq_false c2
     clear c2
     obtain rfl := Option.some.inj H
     obtain ⟨Ao8, co8, eo8⟩ := Kd.R_slice HO_0.out
     subst eo8
     go_wp2
     first | go_end0 | ((try simp only [Exit.inBlock, Exit.then]); refine bodyPost_ret (results_none rfl _ _ _) rfl ?_)
     exact ⟨by first | rfl | (simp [errW_none, errW_some] <;> rfl) | (simp [*, errW_none, errW_some] <;> rfl), by (with_reducible repeat (first | apply Ra_ | apply Rn_ | apply Rd_)); exact HO_0.out, b_ HB, k_ HK⟩

/-! ### quorumlaw0_Numbers: function 118 -/
def quorumlaw0_Numbers.l0 : Nat → List Int → Int → Option (List Int)
 | 0, _, _ => none
 | k + 1, x0, x2 => if x2 < (x0.length : Int) then (if 0 ≤ x2 then (quorumlaw0_Numbers.l0 k (x0.set (x2 : Int).toNat (-99)) (wrap64 (x2 + 1))) else (none)) else (some x0)
def quorumlaw0_Numbers.f (k : Nat) (l0 : List Int) : Option (List Int) := quorumlaw0_Numbers.l0 k l0 0
theorem quorumlaw0_Numbers.mono_l : ∀ k, (∀ y0 y1, LeO (quorumlaw0_Numbers.l0 k y0 y1) (quorumlaw0_Numbers.l0 (k + 1) y0 y1))
 | 0 => fun _ _ r h => by simp [quorumlaw0_Numbers.l0] at h
 | k + 1 => by
  have ih0 := quorumlaw0_Numbers.mono_l k
  ·intro y0 y1
   unfold quorumlaw0_Numbers.l0
   repeat' first
   | (with_reducible exact ih0 _ _)
   | (with_reducible exact LeO.refl _)
   | (with_reducible exact LeO.none _)
   | (with_reducible refine LeO.ite ?_ ?_)
   | (with_reducible refine LeO.bind ?_ (fun _ => ?_))
   | exact ih0 _ _
   | exact LeO.none _
   | refine LeO.ite ?_ ?_
   | refine LeO.bind ?_ (fun _ => ?_)
theorem quorumlaw0_Numbers.mono : ∀ a0 k, LeO (quorumlaw0_Numbers.f k a0) (quorumlaw0_Numbers.f (k + 1) a0) := by
 intro a0 k
 have ih0 := quorumlaw0_Numbers.mono_l k
 unfold quorumlaw0_Numbers.f
 repeat' first
   | (with_reducible exact ih0 _ _)
   | (with_reducible exact LeO.refl _)
   | (with_reducible exact LeO.none _)
   | (with_reducible refine LeO.ite ?_ ?_)
   | (with_reducible refine LeO.bind ?_ (fun _ => ?_))
   | exact ih0 _ _
   | exact LeO.none _
   | refine LeO.ite ?_ ?_
   | refine LeO.bind ?_ (fun _ => ?_)
set_option maxHeartbeats 8000000 in
set_option maxRecDepth 100000 in
theorem quorumlaw0_Numbers.calls (k : Nat) (P0_ : Nat → Prop) (u9000_ : Value) (l0 : List Int) (r : List Int) (w0 w : World) (hB : Below w0.heap.size w0 w) (ho0 : Kd.R (Kd.int .i64) 3 w w0.heap.size P0_ u9000_ l0) (h : quorumlaw0_Numbers.f k l0 = some r) :
  Calls Try.prog 118 #[u9000_] w fun e w' => e = .returned (.tuple #[]) ∧ Kd.R (Kd.int .i64) 3 w' w0.heap.size (fun k_ => (P0_ k_ ∨ w.heap.size ≤ k_)) u9000_ r ∧ Below w0.heap.size w0 w' ∧ Kept w w' (fun k_ => P0_ k_) := by
 have HO0 := mk0 (show Kd.R (Kd.int .i64) 3 w w0.heap.size (fun k_ => (P0_ k_ ∨ w.heap.size ≤ k_)) u9000_ l0 from Kd.R_mono ho0 (fun k_ hk => (.inl hk)))
 have HK := mk0 (Kept.refl w (fun k_ => P0_ k_))
 have HW0 := mk0 hB.size
 have HB := mk0 hB
 clear hB
 have H : (quorumlaw0_Numbers.l0 k l0 0) = some r := h
 clear h
 have H' := mk0 H
 clear H
 go_enter Try.func118, Try.ntmps118
 go_wp2
 go_loopg [2] k (fun kq v2 w' => ∃ (x0_1 : List Int) (x2_1 : Int), v2 = .int .i64 x2_1 ∧ Fc (quorumlaw0_Numbers.l0 kq x0_1 x2_1 = some r) ∧ Fc (kq ≤ k) ∧ Fc (Kd.R (Kd.int .i64) 3 w' w0.heap.size (fun k_ => (P0_ k_ ∨ w.heap.size ≤ k_)) u9000_ x0_1) ∧ Fc (Kept w w' (fun k_ => P0_ k_)) ∧ Fc (Below w0.heap.size w0 w'))
 case atStart => exact ⟨(l0), (0), (by first | rfl | (simp; done) | (simp [*]; done)), H', ⟨Nat.le_refl _⟩, ⟨by (with_reducible repeat (first | apply Ra_ | apply Rn_ | apply Rd_)); exact HO0.out⟩, ⟨k_ HK⟩, ⟨b_ HB⟩⟩
 case round =>
  clear H'
  obtain ⟨x0_1, x2_1, rfl, HA, HK1, HO_0, HK, HB⟩ := hrel
  cases gk with
  | zero => exact absurd HA.out (by simp [quorumlaw0_Numbers.l0])
  | succ k1 =>
   have H := HA.out
   clear HA
   simp only [quorumlaw0_Numbers.l0] at H
   as_aux_lemma =>
    by_cases c2 : x2_1 < (x0_1.length : Int)
    ·rw [if_pos c2] at H
     have c2b0 : decide (x2_1 < (x0_1.length : Int)) = true := decide_eq_true c2
     clear c2
     by_cases c3 : 0 ≤ x2_1
     ·rw [if_pos c3] at H
      have c3b0 : decide (0 ≤ x2_1) = true := decide_eq_true c3
      clear c3
      obtain ⟨y327, hy327⟩ : ∃ y_ : List Int, y_ = (x0_1.set (x2_1 : Int).toNat (-99)) := ⟨_, rfl⟩
      replace H : (quorumlaw0_Numbers.l0 k1 y327 (wrap64 (x2_1 + 1))) = some r := by first | (rw [hy327]; with_reducible exact H) | (have H2_ := (Option.bind_some _ _).symm.trans H; rw [hy327]; with_reducible exact H2_) | (have H2_ := (Option.bind_some _ _).symm.trans H; with_reducible exact H2_) | with_reducible exact H | (rw [hy327]; exact H) | exact H
      have Ny327 := mk0 hy327
      clear hy327
      have H' := mk0 H
      clear H
      obtain ⟨Ao5, co5, eo5⟩ := Kd.R_slice HO_0.out
      subst eo5
      have p4 : 0 ≤ (x2_1 : Int) := of_decide_eq_true (by first | (with_reducible assumption) | assumption)
      have q4 : (x2_1 : Int) < ((x0_1.length : Int) : Int) := of_decide_eq_true (by first | (with_reducible assumption) | assumption)
      obtain ⟨go4, co4, eo4, gb4, gl4, cl4, HG4⟩ := Kd.R_form HO_0.out (by omega)
      (first | cases eo4 | (injection eo4 with ea_ en_ ec_; (first | subst ea_ | (injection ea_ with ea_; subst ea_)); subst ec_; clear en_))
      have GB4 := mk0 gb4
      have GG4 := mk0 HG4
      clear gb4 gl4 HG4
      have HMgo4 := mk0 (show (P0_ go4 ∨ w.heap.size ≤ go4) from (HO_0.out.1 _ rfl))
      obtain ⟨hx4_0, hf4_0⟩ := Kd.R_celln 0 HO_0.out (x2_1 : Int) p4 q4
      replace p4 := eq_true p4
      replace q4 := eq_true q4
      have HP6 := Kd.R_putg HO_0.out (x2_1 : Int) (-99)
      go_wp2_with (first | ((with_reducible refine gate_store (t := 3) (p := 11) rfl ?_); refine sv_ (t := 3) (p := 11) (w1 := (wr.setCell ⟨go4, (x2_1 : Int).toNat, none⟩ (.int .i64 (-99)))) (h := ?_); intro w7 hw; have hg : wr.grownBy w7 (some go4) := (by rw [hw]; exact HP6.2); have hp_ : Kd.R (Kd.int .i64) 3 w7 w0.heap.size (fun k_ => (P0_ k_ ∨ w.heap.size ≤ k_)) (.slice (some ⟨go4, 0, none⟩) x0_1.length co5) y327 := (by rw [hw, Ny327.out]; exact HP6.1); clear HP6; have n2_ := mk0 (Kept.of_grown (S := (fun k_ => P0_ k_)) hg (k_ HK) (fun k_ e_ => (HO_0.out.1 k_ e_))); replace HO_0 := mk0 (hp_); replace HB := mk0 ((by rw [hw]; exact bs_ (HB.out) GB4.out : Below w0.heap.size w0 w7)); clear HK; have HK := n2_; clear n2_; clear hg hw hp_))
      go_roundg k1
      case measure => have := HK1.out; omega
      case rel => exact ⟨(y327), (wrap64 (x2_1 + 1)), (by first | rfl | (simp; done) | (simp [*]; done)), H', ⟨by have := HK1.out; omega⟩, ⟨by (with_reducible repeat (first | apply Ra_ | apply Rn_ | apply Rd_)); exact HO_0.out⟩, ⟨k_ HK⟩, ⟨b_ HB⟩⟩
     ·rw [if_neg c3] at H
      exact absurd H (by simp)
    ·rw [if_neg c2] at H
     have c2b0 : decide (x2_1 < (x0_1.length : Int)) = false := decide_eq_false c2
     clear c2
     obtain rfl := Option.some.inj H
     obtain ⟨Ao8, co8, eo8⟩ := Kd.R_slice HO_0.out
     subst eo8
     go_wp2
     first | go_end0 | ((try simp only [Exit.inBlock, Exit.then]); refine bodyPost_ret (results_none rfl _ _ _) rfl ?_)
     exact ⟨by first | rfl | (simp [errW_none, errW_some] <;> rfl) | (simp [*, errW_none, errW_some] <;> rfl), by (with_reducible repeat (first | apply Ra_ | apply Rn_ | apply Rd_)); exact HO_0.out, b_ HB, k_ HK⟩

end Go.Proofs.Ytbaecdcfefmcgaa.PPnd
