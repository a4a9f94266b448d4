-- PRINTED by print.py (a twelfth state) out of the translation. Not trusted: Lean checks it.
import Derived.Test.YtafiikiofalpnaaPPendx0
import Derived.Test.YtafiikiofalpnaaPPendx1
import Derived.Test.YtafiikiofalpnaaPPendx2
import Derived.Test.YtafiikiofalpnaaPPendx3
import Derived.Test.YtafiikiofalpnaaPPendx4
import Derived.Test.YtafiikiofalpnaaPPendx5
namespace Go.Proofs.Ytafiikiofalpnaa.PPend
open Go.RowKit Go.Proofs.YtafiikiofalpnaaW.PrintWords Go.Proofs.YtafiikiofalpnaaW.PrintLast Go.Proofs.YtafiikiofalpnaaW.PrintMore
attribute [local go_sem] max2_int min2_int max_two min_two max_three min_three max_four min_four   -- for this text's walks alone
set_option linter.unusedVariables false
set_option linter.unusedSimpArgs false

attribute [local go_sem high] eqA55
/-! ### quorumref0_EqWrites: function 29 -/
def quorumref0_EqWrites.l0 : Nat → List (S55) → List (S55) → Int → Option (Bool)
 | 0, _, _, _ => none
 | k + 1, x0, x1, x5 => if x5 < (x0.length : Int) then (if 0 ≤ x5 then (if x5 < (x1.length : Int) then (if (!(((rd_T55 x0 x5).f0) == ((rd_T55 x1 x5).f0)) || (!((((rd_T55 x0 x5).f1).toList) == (((rd_T55 x1 x5).f1).toList)) || (!((((rd_T55 x0 x5).f2).toList) == (((rd_T55 x1 x5).f2).toList)) || (!(((rd_T55 x0 x5).f3) == ((rd_T55 x1 x5).f3)))))) = true then (some false) else (quorumref0_EqWrites.l0 k x0 x1 (wrap64 (x5 + 1)))) else (none)) else (none)) else (some true)
def quorumref0_EqWrites.f (k : Nat) (l0 : List (S55)) (l1 : List (S55)) : Option (Bool) := if (l0.length : Int) = (l1.length : Int) then (quorumref0_EqWrites.l0 k l0 l1 0) else (some false)
theorem quorumref0_EqWrites.mono_l : ∀ k, (∀ y0 y1 y2, LeO (quorumref0_EqWrites.l0 k y0 y1 y2) (quorumref0_EqWrites.l0 (k + 1) y0 y1 y2))
 | 0 => fun _ _ _ r h => by simp [quorumref0_EqWrites.l0] at h
 | k + 1 => by
  have ih0 := quorumref0_EqWrites.mono_l k
  ·intro y0 y1 y2
   unfold quorumref0_EqWrites.l0
   repeat' first
   | (with_reducible exact ih0 _ _ _)
   | (with_reducible exact LeO.refl _)
   | (with_reducible exact LeO.none _)
   | (with_reducible refine LeO.ite ?_ ?_)
   | (with_reducible refine LeO.bind ?_ (fun _ => ?_))
   | exact ih0 _ _ _
   | exact LeO.none _
   | refine LeO.ite ?_ ?_
   | refine LeO.bind ?_ (fun _ => ?_)
theorem quorumref0_EqWrites.mono : ∀ a0 a1 k, LeO (quorumref0_EqWrites.f k a0 a1) (quorumref0_EqWrites.f (k + 1) a0 a1) := by
 intro a0 a1 k
 have ih0 := quorumref0_EqWrites.mono_l k
 unfold quorumref0_EqWrites.f
 repeat' first
   | (with_reducible exact ih0 _ _ _)
   | (with_reducible exact LeO.refl _)
   | (with_reducible exact LeO.none _)
   | (with_reducible refine LeO.ite ?_ ?_)
   | (with_reducible refine LeO.bind ?_ (fun _ => ?_))
   | exact ih0 _ _ _
   | exact LeO.none _
   | refine LeO.ite ?_ ?_
   | refine LeO.bind ?_ (fun _ => ?_)
set_option maxHeartbeats 8000000 in
set_option maxRecDepth 100000 in
theorem quorumref0_EqWrites.calls (k : Nat) (A0 : Option Addr) (c0 : Nat) (l0 : List (S55)) (A1 : Option Addr) (c1 : Nat) (l1 : List (S55)) (r : Bool) (w : World) (hr0 : Kd.C k55 w A0 l0.length l0) (hc0 : l0.length ≤ c0) (hr1 : Kd.C k55 w A1 l1.length l1) (hc1 : l1.length ≤ c1) (h : quorumref0_EqWrites.f k l0 l1 = some r) :
  Calls Try.prog 29 #[.slice A0 l0.length c0, .slice A1 l1.length c1] w fun e w' => e = .returned (.bool r) ∧ Drawn0 w w' := by
 have hu55 := Try.underlying55
 have HR0 := mk0 hr0
 have HC0 := mk0 hc0
 clear hr0 hc0
 have HR1 := mk0 hr1
 have HC1 := mk0 hc1
 clear hr1 hc1
 have H : (if (l0.length : Int) = (l1.length : Int) then (quorumref0_EqWrites.l0 k l0 l1 0) else (some false)) = some r := h
 clear h
 by_cases c3 : (l0.length : Int) = (l1.length : Int)
 ·rw [if_pos c3] at H
  have c3b0 : ((l0.length : Int) == (l1.length : Int)) = true := beq_iff_eq.mpr c3
  have c3b1 : ((l0.length : Int) != (l1.length : Int)) = false := bne_eq_false_iff_eq.mpr c3
  have c3b2 : (l0.length == l1.length) = true := by first | simpa using c3 | (simp at c3 ⊢; omega)
  clear c3
  have H' := mk0 H
  clear H
  go_enter Try.func29, Try.ntmps29
  go_wp2
  repeat (go_quiet (fail); try go_wp2)
  go_loopg [5] k (fun kq v5 w' => ∃ (x5_1 : Int), v5 = .int .i64 x5_1 ∧ Aside0 (quorumref0_EqWrites.l0 kq l0 l1 x5_1 = some r) ∧ Aside0 (kq ≤ k) ∧ Drawn0 w w')
  case atStart => exact ⟨(0), (by first | rfl | (simp; done) | (simp [*]; done)), H', ⟨Nat.le_refl _⟩, by repeat (first | exact Drawn0.refl _ | apply Drawn0.step)⟩
  case round =>
   clear H'
   try clear c1
   try clear c2
   try clear p2
   try clear c3
   try clear c3b0
   try clear c3b1
   try clear c3b2
   obtain ⟨x5_1, rfl, HA, HK1, ⟨m1, rfl⟩⟩ := hrel
   cases gk with
   | zero => exact absurd HA.out (by simp [quorumref0_EqWrites.l0])
   | succ k1 =>
    have H := HA.out
    clear HA
    simp only [quorumref0_EqWrites.l0] at H
    by_cases c4 : x5_1 < (l0.length : Int)
    ·rw [if_pos c4] at H
     have c4b0 : decide (x5_1 < (l0.length : Int)) = true := decide_eq_true c4
     clear c4
     by_cases c5 : 0 ≤ x5_1
     ·rw [if_pos c5] at H
      have c5b0 : decide (0 ≤ x5_1) = true := decide_eq_true c5
      clear c5
      by_cases c6 : x5_1 < (l1.length : Int)
      ·rw [if_pos c6] at H
       have c6b0 : decide (x5_1 < (l1.length : Int)) = true := decide_eq_true c6
       clear c6
       by_cases c7 : (!(((rd_T55 l0 x5_1).f0) == ((rd_T55 l1 x5_1).f0)) || (!((((rd_T55 l0 x5_1).f1).toList) == (((rd_T55 l1 x5_1).f1).toList)) || (!((((rd_T55 l0 x5_1).f2).toList) == (((rd_T55 l1 x5_1).f2).toList)) || (!(((rd_T55 l0 x5_1).f3) == ((rd_T55 l1 x5_1).f3)))))) = true
       ·rw [if_pos c7] at H
        have c7b0 : (!(((rd_T55 l0 x5_1).f0) == ((rd_T55 l1 x5_1).f0)) || (!((((rd_T55 l0 x5_1).f1).toList) == (((rd_T55 l1 x5_1).f1).toList)) || (!((((rd_T55 l0 x5_1).f2).toList) == (((rd_T55 l1 x5_1).f2).toList)) || (!(((rd_T55 l0 x5_1).f3) == ((rd_T55 l1 x5_1).f3)))))) = true := c7
        clear c7
        obtain rfl := Option.some.inj H
        have p228 : 0 ≤ (x5_1 : Int) := of_decide_eq_true (by first | (with_reducible assumption) | assumption)
        have q228 : x5_1 < (l0.length : Int) := of_decide_eq_true (by first | (with_reducible assumption) | assumption)
        obtain ⟨ad228, e228, hx228_0, hx228_1, hx228_2, hx228_3⟩ := at_T55 HR0.out x5_1 p228 q228
        cases e228
        replace p228 := eq_true p228
        replace q228 := eq_true q228
        have p229 : 0 ≤ (x5_1 : Int) := of_decide_eq_true (by first | (with_reducible assumption) | assumption)
        have q229 : x5_1 < (l1.length : Int) := of_decide_eq_true (by first | (with_reducible assumption) | assumption)
        obtain ⟨ad229, e229, hx229_0, hx229_1, hx229_2, hx229_3⟩ := at_T55 HR1.out x5_1 p229 q229
        cases e229
        replace p229 := eq_true p229
        replace q229 := eq_true q229
        go_wp2
        repeat (go_quiet (fail); try go_wp2)
        go_ret
        exact ⟨by first | rfl | (simp; done) | (simp [*]; done), by repeat (first | exact Drawn0.refl _ | apply Drawn0.step)⟩
       ·rw [if_neg c7] at H
        have c7b0 : (!(((rd_T55 l0 x5_1).f0) == ((rd_T55 l1 x5_1).f0)) || (!((((rd_T55 l0 x5_1).f1).toList) == (((rd_T55 l1 x5_1).f1).toList)) || (!((((rd_T55 l0 x5_1).f2).toList) == (((rd_T55 l1 x5_1).f2).toList)) || (!(((rd_T55 l0 x5_1).f3) == ((rd_T55 l1 x5_1).f3)))))) = false := by simpa using c7
        clear c7
        have H' := mk0 H
        clear H
        have p228 : 0 ≤ (x5_1 : Int) := of_decide_eq_true (by first | (with_reducible assumption) | assumption)
        have q228 : x5_1 < (l0.length : Int) := of_decide_eq_true (by first | (with_reducible assumption) | assumption)
        obtain ⟨ad228, e228, hx228_0, hx228_1, hx228_2, hx228_3⟩ := at_T55 HR0.out x5_1 p228 q228
        cases e228
        replace p228 := eq_true p228
        replace q228 := eq_true q228
        have p229 : 0 ≤ (x5_1 : Int) := of_decide_eq_true (by first | (with_reducible assumption) | assumption)
        have q229 : x5_1 < (l1.length : Int) := of_decide_eq_true (by first | (with_reducible assumption) | assumption)
        obtain ⟨ad229, e229, hx229_0, hx229_1, hx229_2, hx229_3⟩ := at_T55 HR1.out x5_1 p229 q229
        cases e229
        replace p229 := eq_true p229
        replace q229 := eq_true q229
        go_wp2
        repeat (go_quiet (fail); try go_wp2)
        go_roundg k1
        case measure => have := HK1.out; omega
        case rel => exact ⟨(wrap64 (x5_1 + 1)), (by first | rfl | (simp; done) | (simp [*]; done)), H', ⟨by have := HK1.out; omega⟩, by repeat (first | exact Drawn0.refl _ | apply Drawn0.step)⟩
      ·rw [if_neg c6] at H
       exact absurd H (by simp)
     ·rw [if_neg c5] at H
      exact absurd H (by simp)
    ·rw [if_neg c4] at H
     have c4b0 : decide (x5_1 < (l0.length : Int)) = false := decide_eq_false c4
     clear c4
     obtain rfl := Option.some.inj H
     go_wp2
     repeat (go_quiet (fail); try go_wp2)
     go_ret
     exact ⟨by first | rfl | (simp; done) | (simp [*]; done), by repeat (first | exact Drawn0.refl _ | apply Drawn0.step)⟩
 ·rw [if_neg c3] at H
  have c3b0 : ((l0.length : Int) == (l1.length : Int)) = false := beq_eq_false_iff_ne.mpr c3
  have c3b1 : ((l0.length : Int) != (l1.length : Int)) = true := bne_iff_ne.mpr c3
  have c3b2 : (l0.length == l1.length) = false := by first | simpa using c3 | (simp at c3 ⊢; omega)
  obtain rfl := Option.some.inj H
  go_enter Try.func29, Try.ntmps29
  go_wp2
  repeat (go_quiet (fail); try go_wp2)
  go_ret
  exact ⟨by first | rfl | (simp; done) | (simp [*]; done), by repeat (first | exact Drawn0.refl _ | apply Drawn0.step)⟩

/-! ### quorumref0_EqNumbers: function 79 -/
def quorumref0_EqNumbers.l0 : Nat → List Int → List Int → Int → Option (Bool)
 | 0, _, _, _ => none
 | k + 1, x0, x1, x5 => if x5 < (x0.length : Int) then (if 0 ≤ x5 then (if x5 < (x1.length : Int) then (if (rd x0 x5) = (rd x1 x5) then (quorumref0_EqNumbers.l0 k x0 x1 (wrap64 (x5 + 1))) else (some false)) else (none)) else (none)) else (some true)
def quorumref0_EqNumbers.f (k : Nat) (l0 : List Int) (l1 : List Int) : Option (Bool) := if (l0.length : Int) = (l1.length : Int) then (quorumref0_EqNumbers.l0 k l0 l1 0) else (some false)
theorem quorumref0_EqNumbers.mono_l : ∀ k, (∀ y0 y1 y2, LeO (quorumref0_EqNumbers.l0 k y0 y1 y2) (quorumref0_EqNumbers.l0 (k + 1) y0 y1 y2))
 | 0 => fun _ _ _ r h => by simp [quorumref0_EqNumbers.l0] at h
 | k + 1 => by
  have ih0 := quorumref0_EqNumbers.mono_l k
  ·intro y0 y1 y2
   unfold quorumref0_EqNumbers.l0
   repeat' first
   | (with_reducible exact ih0 _ _ _)
   | (with_reducible exact LeO.refl _)
   | (with_reducible exact LeO.none _)
   | (with_reducible refine LeO.ite ?_ ?_)
   | (with_reducible refine LeO.bind ?_ (fun _ => ?_))
   | exact ih0 _ _ _
   | exact LeO.none _
   | refine LeO.ite ?_ ?_
   | refine LeO.bind ?_ (fun _ => ?_)
theorem quorumref0_EqNumbers.mono : ∀ a0 a1 k, LeO (quorumref0_EqNumbers.f k a0 a1) (quorumref0_EqNumbers.f (k + 1) a0 a1) := by
 intro a0 a1 k
 have ih0 := quorumref0_EqNumbers.mono_l k
 unfold quorumref0_EqNumbers.f
 repeat' first
   | (with_reducible exact ih0 _ _ _)
   | (with_reducible exact LeO.refl _)
   | (with_reducible exact LeO.none _)
   | (with_reducible refine LeO.ite ?_ ?_)
   | (with_reducible refine LeO.bind ?_ (fun _ => ?_))
   | exact ih0 _ _ _
   | exact LeO.none _
   | refine LeO.ite ?_ ?_
   | refine LeO.bind ?_ (fun _ => ?_)
set_option maxHeartbeats 8000000 in
set_option maxRecDepth 100000 in
theorem quorumref0_EqNumbers.calls (k : Nat) (A0 : Option Addr) (c0 : Nat) (l0 : List Int) (A1 : Option Addr) (c1 : Nat) (l1 : List Int) (r : Bool) (w : World) (hr0 : Kd.C (Kd.int .i64) w A0 l0.length l0) (hc0 : l0.length ≤ c0) (hr1 : Kd.C (Kd.int .i64) w A1 l1.length l1) (hc1 : l1.length ≤ c1) (h : quorumref0_EqNumbers.f k l0 l1 = some r) :
  Calls Try.prog 79 #[.slice A0 l0.length c0, .slice A1 l1.length c1] w fun e w' => e = .returned (.bool r) ∧ Drawn0 w w' := by
 have HR0 := mk0 hr0
 have HC0 := mk0 hc0
 clear hr0 hc0
 have HR1 := mk0 hr1
 have HC1 := mk0 hc1
 clear hr1 hc1
 have H : (if (l0.length : Int) = (l1.length : Int) then (quorumref0_EqNumbers.l0 k l0 l1 0) else (some false)) = some r := h
 clear h
 by_cases c3 : (l0.length : Int) = (l1.length : Int)
 ·rw [if_pos c3] at H
  have c3b0 : ((l0.length : Int) == (l1.length : Int)) = true := beq_iff_eq.mpr c3
  have c3b1 : ((l0.length : Int) != (l1.length : Int)) = false := bne_eq_false_iff_eq.mpr c3
  have c3b2 : (l0.length == l1.length) = true := by first | simpa using c3 | (simp at c3 ⊢; omega)
  clear c3
  have H' := mk0 H
  clear H
  go_enter Try.func79, Try.ntmps79
  go_wp2
  repeat (go_quiet (fail); try go_wp2)
  go_loopg [5] k (fun kq v5 w' => ∃ (x5_1 : Int), v5 = .int .i64 x5_1 ∧ Aside0 (quorumref0_EqNumbers.l0 kq l0 l1 x5_1 = some r) ∧ Aside0 (kq ≤ k) ∧ Drawn0 w w')
  case atStart => exact ⟨(0), (by first | rfl | (simp; done) | (simp [*]; done)), H', ⟨Nat.le_refl _⟩, by repeat (first | exact Drawn0.refl _ | apply Drawn0.step)⟩
  case round =>
   clear H'
   try clear c1
   try clear p2
   try clear c3
   try clear c3b0
   try clear c3b1
   try clear c3b2
   obtain ⟨x5_1, rfl, HA, HK1, ⟨m1, rfl⟩⟩ := hrel
   cases gk with
   | zero => exact absurd HA.out (by simp [quorumref0_EqNumbers.l0])
   | succ k1 =>
    have H := HA.out
    clear HA
    simp only [quorumref0_EqNumbers.l0] at H
    by_cases c4 : x5_1 < (l0.length : Int)
    ·rw [if_pos c4] at H
     have c4b0 : decide (x5_1 < (l0.length : Int)) = true := decide_eq_true c4
     clear c4
     by_cases c5 : 0 ≤ x5_1
     ·rw [if_pos c5] at H
      have c5b0 : decide (0 ≤ x5_1) = true := decide_eq_true c5
      clear c5
      by_cases c6 : x5_1 < (l1.length : Int)
      ·rw [if_pos c6] at H
       have c6b0 : decide (x5_1 < (l1.length : Int)) = true := decide_eq_true c6
       clear c6
       by_cases c7 : (rd l0 x5_1) = (rd l1 x5_1)
       ·rw [if_pos c7] at H
        have c7b0 : ((rd l0 x5_1) == (rd l1 x5_1)) = true := beq_iff_eq.mpr c7
        have c7b1 : ((rd l0 x5_1) != (rd l1 x5_1)) = false := bne_eq_false_iff_eq.mpr c7
        clear c7
        have H' := mk0 H
        clear H
        have p230 : 0 ≤ (x5_1 : Int) := of_decide_eq_true (by first | (with_reducible assumption) | assumption)
        have q230 : x5_1 < (l0.length : Int) := of_decide_eq_true (by first | (with_reducible assumption) | assumption)
        obtain ⟨ad230, e230, hx230_0⟩ := Kd.at_int HR0.out x5_1 p230 q230
        cases e230
        replace p230 := eq_true p230
        replace q230 := eq_true q230
        have p231 : 0 ≤ (x5_1 : Int) := of_decide_eq_true (by first | (with_reducible assumption) | assumption)
        have q231 : x5_1 < (l1.length : Int) := of_decide_eq_true (by first | (with_reducible assumption) | assumption)
        obtain ⟨ad231, e231, hx231_0⟩ := Kd.at_int HR1.out x5_1 p231 q231
        cases e231
        replace p231 := eq_true p231
        replace q231 := eq_true q231
        go_wp2
        repeat (go_quiet (fail); try go_wp2)
        go_roundg k1
        case measure => have := HK1.out; omega
        case rel => exact ⟨(wrap64 (x5_1 + 1)), (by first | rfl | (simp; done) | (simp [*]; done)), H', ⟨by have := HK1.out; omega⟩, by repeat (first | exact Drawn0.refl _ | apply Drawn0.step)⟩
       ·rw [if_neg c7] at H
        have c7b0 : ((rd l0 x5_1) == (rd l1 x5_1)) = false := beq_eq_false_iff_ne.mpr c7
        have c7b1 : ((rd l0 x5_1) != (rd l1 x5_1)) = true := bne_iff_ne.mpr c7
        obtain rfl := Option.some.inj H
        have p230 : 0 ≤ (x5_1 : Int) := of_decide_eq_true (by first | (with_reducible assumption) | assumption)
        have q230 : x5_1 < (l0.length : Int) := of_decide_eq_true (by first | (with_reducible assumption) | assumption)
        obtain ⟨ad230, e230, hx230_0⟩ := Kd.at_int HR0.out x5_1 p230 q230
        cases e230
        replace p230 := eq_true p230
        replace q230 := eq_true q230
        have p231 : 0 ≤ (x5_1 : Int) := of_decide_eq_true (by first | (with_reducible assumption) | assumption)
        have q231 : x5_1 < (l1.length : Int) := of_decide_eq_true (by first | (with_reducible assumption) | assumption)
        obtain ⟨ad231, e231, hx231_0⟩ := Kd.at_int HR1.out x5_1 p231 q231
        cases e231
        replace p231 := eq_true p231
        replace q231 := eq_true q231
        go_wp2
        repeat (go_quiet (fail); try go_wp2)
        go_ret
        exact ⟨by first | rfl | (simp; done) | (simp [*]; done), by repeat (first | exact Drawn0.refl _ | apply Drawn0.step)⟩
      ·rw [if_neg c6] at H
       exact absurd H (by simp)
     ·rw [if_neg c5] at H
      exact absurd H (by simp)
    ·rw [if_neg c4] at H
     have c4b0 : decide (x5_1 < (l0.length : Int)) = false := decide_eq_false c4
     clear c4
     obtain rfl := Option.some.inj H
     go_wp2
     repeat (go_quiet (fail); try go_wp2)
     go_ret
     exact ⟨by first | rfl | (simp; done) | (simp [*]; done), by repeat (first | exact Drawn0.refl _ | apply Drawn0.step)⟩
 ·rw [if_neg c3] at H
  have c3b0 : ((l0.length : Int) == (l1.length : Int)) = false := beq_eq_false_iff_ne.mpr c3
  have c3b1 : ((l0.length : Int) != (l1.length : Int)) = true := bne_iff_ne.mpr c3
  have c3b2 : (l0.length == l1.length) = false := by first | simpa using c3 | (simp at c3 ⊢; omega)
  obtain rfl := Option.some.inj H
  go_enter Try.func79, Try.ntmps79
  go_wp2
  repeat (go_quiet (fail); try go_wp2)
  go_ret
  exact ⟨by first | rfl | (simp; done) | (simp [*]; done), by repeat (first | exact Drawn0.refl _ | apply Drawn0.step)⟩

/-! ### quorumref0_EqPend: function 31 -/
def quorumref0_EqPend.f (k : Nat) (l0_0 : List (S55)) (l0_1 : List Int) (l1_0 : List (S55)) (l1_1 : List Int) : Option (Bool) := (quorumref0_EqWrites.f k l0_0 l1_0).bind fun t234 => (if t234 = true then ((quorumref0_EqNumbers.f k l0_1 l1_1).bind fun t235 => (some t235)) else (some false))
theorem quorumref0_EqPend.mono : ∀ a0 a1 a2 a3 k, LeO (quorumref0_EqPend.f k a0 a1 a2 a3) (quorumref0_EqPend.f (k + 1) a0 a1 a2 a3) := by
 intro a0 a1 a2 a3 k
 unfold quorumref0_EqPend.f
 repeat' first
   | (with_reducible exact quorumref0_EqNumbers.mono _ _ _)
   | (with_reducible exact quorumref0_EqWrites.mono _ _ _)
   | (with_reducible exact LeO.refl _)
   | (with_reducible exact LeO.none _)
   | (with_reducible refine LeO.ite ?_ ?_)
   | (with_reducible refine LeO.bind ?_ (fun _ => ?_))
   | exact quorumref0_EqNumbers.mono _ _ _
   | exact quorumref0_EqWrites.mono _ _ _
   | exact LeO.none _
   | refine LeO.ite ?_ ?_
   | refine LeO.bind ?_ (fun _ => ?_)
set_option maxHeartbeats 8000000 in
set_option maxRecDepth 100000 in
theorem quorumref0_EqPend.calls (k : Nat) (A0_0 : Option Addr) (c0_0 : Nat) (l0_0 : List (S55)) (A0_1 : Option Addr) (c0_1 : Nat) (l0_1 : List Int) (A1_0 : Option Addr) (c1_0 : Nat) (l1_0 : List (S55)) (A1_1 : Option Addr) (c1_1 : Nat) (l1_1 : List Int) (r : Bool) (w : World) (hr0_0 : Kd.C k55 w A0_0 l0_0.length l0_0) (hc0_0 : l0_0.length ≤ c0_0) (hr0_1 : Kd.C (Kd.int .i64) w A0_1 l0_1.length l0_1) (hc0_1 : l0_1.length ≤ c0_1) (hr1_0 : Kd.C k55 w A1_0 l1_0.length l1_0) (hc1_0 : l1_0.length ≤ c1_0) (hr1_1 : Kd.C (Kd.int .i64) w A1_1 l1_1.length l1_1) (hc1_1 : l1_1.length ≤ c1_1) (h : quorumref0_EqPend.f k l0_0 l0_1 l1_0 l1_1 = some r) :
  Calls Try.prog 31 #[.agg #[.slice A0_0 l0_0.length c0_0, .slice A0_1 l0_1.length c0_1], .agg #[.slice A1_0 l1_0.length c1_0, .slice A1_1 l1_1.length c1_1]] w fun e w' => e = .returned (.bool r) ∧ Below w.heap.size w w' := by
 have hu44 := Try.underlying44
 have HR0_0 := mk0 hr0_0
 have HC0_0 := mk0 hc0_0
 clear hr0_0 hc0_0
 have HR0_1 := mk0 hr0_1
 have HC0_1 := mk0 hc0_1
 clear hr0_1 hc0_1
 have HR1_0 := mk0 hr1_0
 have HC1_0 := mk0 hc1_0
 clear hr1_0 hc1_0
 have HR1_1 := mk0 hr1_1
 have HC1_1 := mk0 hc1_1
 clear hr1_1 hc1_1
 have HB := mk0 (Below.refl w.heap.size w)
 have H : ((quorumref0_EqWrites.f k l0_0 l1_0).bind fun t234 => (if t234 = true then ((quorumref0_EqNumbers.f k l0_1 l1_1).bind fun t235 => (some t235)) else (some false))) = some r := h
 clear h
 replace H := Option.bind_eq_some_iff.mp H
 obtain ⟨t234, A30, H⟩ := H
 replace H : (if t234 = true then ((quorumref0_EqNumbers.f k l0_1 l1_1).bind fun t235 => (some t235)) else (some false)) = some r := H
 have A3 := mk0 A30
 clear A30
 by_cases c4 : t234 = true
 ·subst c4
  have H1 : ((quorumref0_EqNumbers.f k l0_1 l1_1).bind fun t235 => (some t235)) = some r := by rw [if_pos rfl] at H; exact H
  clear H
  have H := H1
  clear H1
  replace H := Option.bind_eq_some_iff.mp H
  obtain ⟨t235, A50, H⟩ := H
  replace H : (some t235) = some r := H
  have A5 := mk0 A50
  clear A50
  obtain rfl := Option.some.inj H
  go_enter Try.func31, Try.ntmps31
  go_wp2_with (first | ((with_reducible refine gate_dst (N := 2) rfl ?_); refine box_event ?hg (N := 2) ?hd (cs := #[.slice A0_0 l0_0.length c0_0, .slice A0_1 l0_1.length c0_1]) (t := 44) ?hr ?_; (case hd => rfl); (case hg => rfl); (case hr => first | (go_simp; done) | (go_simp; rfl)); intro gb232 hg w6 hbox hb; have n0_ := mk0 (bt_ (by repeat (first | (with_reducible first | exact HB.out | apply bL_ | apply pN_ | apply b1_) | exact HB.out)) hb); have n1_ := mk0 (hbox); have n2_ := mk0 ((by rw [hg]; exact (bz_ (by repeat (first | (with_reducible first | exact HB.out | apply bL_ | apply pN_ | apply b1_) | exact HB.out))) : w.heap.size ≤ gb232)); have n3_ := mk0 ((by rw [hg]; exact (bz_ (by repeat (first | (with_reducible first | exact HB.out | apply bL_ | apply pN_ | apply b1_) | exact HB.out))) : w.heap.size ≤ gb232)); clear HB; have HB := n0_; have BK232 := n1_; have GW232 := n2_; have GE232 := n3_; clear n0_ n1_ n2_ n3_; clear hb hbox hg) | ((with_reducible refine gate_dst (N := 3) rfl ?_); refine box_event ?hg (N := 3) ?hd (cs := #[.slice A1_0 l1_0.length c1_0, .slice A1_1 l1_1.length c1_1]) (t := 44) ?hr ?_; (case hd => rfl); (case hg => rfl); (case hr => first | (go_simp; done) | (go_simp; rfl)); intro gb233 hg w7 hbox hb; have n0_ := mk0 (blk_below (g := gb232) (o := .cells #[.slice A0_0 l0_0.length c0_0, .slice A0_1 l0_1.length c0_1] 44 (0, 0)) (by (with_reducible repeat (first | refine bN_ ?_ _ | refine bD_ ?_ | refine bA_ ?_ _)); exact BK232.out) hb); have n1_ := mk0 (bt_ (by repeat (first | (with_reducible first | exact HB.out | apply bL_ | apply pN_ | apply b1_ | refine bs_ ?_ GE232.out) | exact HB.out)) hb); have n2_ := mk0 (hbox); have n3_ := mk0 ((by rw [hg]; exact (bz_ (by repeat (first | (with_reducible first | exact HB.out | apply bL_ | apply pN_ | apply b1_ | refine bs_ ?_ GE232.out) | exact HB.out))) : w.heap.size ≤ gb233)); have n4_ := mk0 ((by rw [hg]; exact (bz_ (by repeat (first | (with_reducible first | exact HB.out | apply bL_ | apply pN_ | apply b1_ | refine bs_ ?_ GE232.out) | exact HB.out))) : w.heap.size ≤ gb233)); have n5_ := mk0 ((by rw [hg]; exact Nat.ne_of_lt (blk_lt (g := gb232) (o := .cells #[.slice A0_0 l0_0.length c0_0, .slice A0_1 l0_1.length c0_1] 44 (0, 0)) (by (with_reducible repeat (first | refine bN_ ?_ _ | refine bD_ ?_ | refine bA_ ?_ _)); exact BK232.out)) : gb232 ≠ gb233)); have n6_ := mk0 ((by rw [hg]; exact Nat.ne_of_gt (blk_lt (g := gb232) (o := .cells #[.slice A0_0 l0_0.length c0_0, .slice A0_1 l0_1.length c0_1] 44 (0, 0)) (by (with_reducible repeat (first | refine bN_ ?_ _ | refine bD_ ?_ | refine bA_ ?_ _)); exact BK232.out)) : gb233 ≠ gb232)); clear BK232; clear HB; have BK232 := n0_; have HB := n1_; have BK233 := n2_; have GW233 := n3_; have GE233 := n4_; have NB232_233 := n5_; have NB233_232 := n6_; clear n0_ n1_ n2_ n3_ n4_ n5_ n6_; clear hb hbox hg; have hnb8 := NB232_233.out; have hnc8 := NB233_232.out; have hcz9_0 : w7.cell? ⟨gb232, 0, none⟩ = some (.slice A0_0 l0_0.length c0_0) := (blk_cell BK232.out 0).trans rfl; have hcz9_1 : w7.cell? ⟨gb232, 1, none⟩ = some (.slice A0_1 l0_1.length c0_1) := (blk_cell BK232.out 1).trans rfl; have hfz9_0 := blk_frozen BK232.out 0; have hfz9_1 := blk_frozen BK232.out 1; have hcz10_0 : w7.cell? ⟨gb233, 0, none⟩ = some (.slice A1_0 l1_0.length c1_0) := (blk_cell BK233.out 0).trans rfl; have hcz10_1 : w7.cell? ⟨gb233, 1, none⟩ = some (.slice A1_1 l1_1.length c1_1) := (blk_cell BK233.out 1).trans rfl; have hfz10_0 := blk_frozen BK233.out 0; have hfz10_1 := blk_frozen BK233.out 1) | ((with_reducible refine gate_callee (f := 29) rfl ?_); refine goesL_ (some 9) rfl rfl Try.func29 (by kernel_rfl) rfl #[.slice A0_0 l0_0.length c0_0, .slice A1_0 l1_0.length c1_0] rfl (by (try simp only [List.map_toArray, List.map_cons, List.map_nil]); first | done | rfl | (simp only [List.length_drop, List.length_take]; rfl)) ?_; (with_reducible refine (quorumref0_EqWrites.calls k _ _ l0_0 _ _ l1_0 true _ ?side1 ?side2 ?side3 ?side4 A3.out).mono ?_); (case side1 => repeat (first | exact (Kd.C_below HR0_0.out HB.out) | (with_reducible refine Kd.C_alloc ?_ _) | (with_reducible refine Kd.C_drewN ?_ _) | (with_reducible refine Kd.C_drew ?_))); (case side2 => exact HC0_0.out); (case side3 => repeat (first | exact (Kd.C_below HR1_0.out HB.out) | (with_reducible refine Kd.C_alloc ?_ _) | (with_reducible refine Kd.C_drewN ?_ _) | (with_reducible refine Kd.C_drew ?_))); (case side4 => exact HC1_0.out); rintro e w' ⟨rfl, ⟨nd, rfl⟩⟩; refine ⟨_, rfl, ?_⟩) | (go_at_call 79; (with_reducible refine (quorumref0_EqNumbers.calls k _ _ l0_1 _ _ l1_1 t235 _ ?side1 ?side2 ?side3 ?side4 A5.out).mono ?_); (case side1 => repeat (first | exact (Kd.C_below HR0_1.out (by repeat (first | (with_reducible first | exact HB.out | apply bL_ | apply pN_ | apply b1_ | refine bs_ ?_ GE232.out | refine bs_ ?_ GE233.out) | exact HB.out))) | (with_reducible refine Kd.C_alloc ?_ _) | (with_reducible refine Kd.C_drewN ?_ _) | (with_reducible refine Kd.C_drew ?_))); (case side2 => exact HC0_1.out); (case side3 => repeat (first | exact (Kd.C_below HR1_1.out (by repeat (first | (with_reducible first | exact HB.out | apply bL_ | apply pN_ | apply b1_ | refine bs_ ?_ GE232.out | refine bs_ ?_ GE233.out) | exact HB.out))) | (with_reducible refine Kd.C_alloc ?_ _) | (with_reducible refine Kd.C_drewN ?_ _) | (with_reducible refine Kd.C_drew ?_))); (case side4 => exact HC1_1.out); rintro e w' ⟨rfl, ⟨nd, rfl⟩⟩))
  go_ret
  exact ⟨by first | rfl | (simp [errW_none, errW_some] <;> rfl) | (simp [*, errW_none, errW_some] <;> rfl), by repeat (first | (with_reducible first | exact HB.out | apply bL_ | apply pN_ | apply b1_ | refine bs_ ?_ GE232.out | refine bs_ ?_ GE233.out) | exact HB.out)⟩
 ·replace c4 := Bool.eq_false_iff.mpr c4
  subst c4
  have H1 : (some false) = some r := by rw [if_neg (show ¬ (false = true) by decide)] at H; exact H
  clear H
  have H := H1
  clear H1
  obtain rfl := Option.some.inj H
  go_enter Try.func31, Try.ntmps31
  go_wp2_with (first | ((with_reducible refine gate_dst (N := 2) rfl ?_); refine box_event ?hg (N := 2) ?hd (cs := #[.slice A0_0 l0_0.length c0_0, .slice A0_1 l0_1.length c0_1]) (t := 44) ?hr ?_; (case hd => rfl); (case hg => rfl); (case hr => first | (go_simp; done) | (go_simp; rfl)); intro gb232 hg w11 hbox hb; have n0_ := mk0 (bt_ (by repeat (first | (with_reducible first | exact HB.out | apply bL_ | apply pN_ | apply b1_) | exact HB.out)) hb); have n1_ := mk0 (hbox); have n2_ := mk0 ((by rw [hg]; exact (bz_ (by repeat (first | (with_reducible first | exact HB.out | apply bL_ | apply pN_ | apply b1_) | exact HB.out))) : w.heap.size ≤ gb232)); have n3_ := mk0 ((by rw [hg]; exact (bz_ (by repeat (first | (with_reducible first | exact HB.out | apply bL_ | apply pN_ | apply b1_) | exact HB.out))) : w.heap.size ≤ gb232)); clear HB; have HB := n0_; have BK232 := n1_; have GW232 := n2_; have GE232 := n3_; clear n0_ n1_ n2_ n3_; clear hb hbox hg) | ((with_reducible refine gate_dst (N := 3) rfl ?_); refine box_event ?hg (N := 3) ?hd (cs := #[.slice A1_0 l1_0.length c1_0, .slice A1_1 l1_1.length c1_1]) (t := 44) ?hr ?_; (case hd => rfl); (case hg => rfl); (case hr => first | (go_simp; done) | (go_simp; rfl)); intro gb233 hg w12 hbox hb; have n0_ := mk0 (blk_below (g := gb232) (o := .cells #[.slice A0_0 l0_0.length c0_0, .slice A0_1 l0_1.length c0_1] 44 (0, 0)) (by (with_reducible repeat (first | refine bN_ ?_ _ | refine bD_ ?_ | refine bA_ ?_ _)); exact BK232.out) hb); have n1_ := mk0 (bt_ (by repeat (first | (with_reducible first | exact HB.out | apply bL_ | apply pN_ | apply b1_ | refine bs_ ?_ GE232.out) | exact HB.out)) hb); have n2_ := mk0 (hbox); have n3_ := mk0 ((by rw [hg]; exact (bz_ (by repeat (first | (with_reducible first | exact HB.out | apply bL_ | apply pN_ | apply b1_ | refine bs_ ?_ GE232.out) | exact HB.out))) : w.heap.size ≤ gb233)); have n4_ := mk0 ((by rw [hg]; exact (bz_ (by repeat (first | (with_reducible first | exact HB.out | apply bL_ | apply pN_ | apply b1_ | refine bs_ ?_ GE232.out) | exact HB.out))) : w.heap.size ≤ gb233)); have n5_ := mk0 ((by rw [hg]; exact Nat.ne_of_lt (blk_lt (g := gb232) (o := .cells #[.slice A0_0 l0_0.length c0_0, .slice A0_1 l0_1.length c0_1] 44 (0, 0)) (by (with_reducible repeat (first | refine bN_ ?_ _ | refine bD_ ?_ | refine bA_ ?_ _)); exact BK232.out)) : gb232 ≠ gb233)); have n6_ := mk0 ((by rw [hg]; exact Nat.ne_of_gt (blk_lt (g := gb232) (o := .cells #[.slice A0_0 l0_0.length c0_0, .slice A0_1 l0_1.length c0_1] 44 (0, 0)) (by (with_reducible repeat (first | refine bN_ ?_ _ | refine bD_ ?_ | refine bA_ ?_ _)); exact BK232.out)) : gb233 ≠ gb232)); clear BK232; clear HB; have BK232 := n0_; have HB := n1_; have BK233 := n2_; have GW233 := n3_; have GE233 := n4_; have NB232_233 := n5_; have NB233_232 := n6_; clear n0_ n1_ n2_ n3_ n4_ n5_ n6_; clear hb hbox hg; have hnb13 := NB232_233.out; have hnc13 := NB233_232.out; have hcz14_0 : w12.cell? ⟨gb232, 0, none⟩ = some (.slice A0_0 l0_0.length c0_0) := (blk_cell BK232.out 0).trans rfl; have hcz14_1 : w12.cell? ⟨gb232, 1, none⟩ = some (.slice A0_1 l0_1.length c0_1) := (blk_cell BK232.out 1).trans rfl; have hfz14_0 := blk_frozen BK232.out 0; have hfz14_1 := blk_frozen BK232.out 1; have hcz15_0 : w12.cell? ⟨gb233, 0, none⟩ = some (.slice A1_0 l1_0.length c1_0) := (blk_cell BK233.out 0).trans rfl; have hcz15_1 : w12.cell? ⟨gb233, 1, none⟩ = some (.slice A1_1 l1_1.length c1_1) := (blk_cell BK233.out 1).trans rfl; have hfz15_0 := blk_frozen BK233.out 0; have hfz15_1 := blk_frozen BK233.out 1) | ((with_reducible refine gate_callee (f := 29) rfl ?_); refine goesL_ (some 9) rfl rfl Try.func29 (by kernel_rfl) rfl #[.slice A0_0 l0_0.length c0_0, .slice A1_0 l1_0.length c1_0] rfl (by (try simp only [List.map_toArray, List.map_cons, List.map_nil]); first | done | rfl | (simp only [List.length_drop, List.length_take]; rfl)) ?_; (with_reducible refine (quorumref0_EqWrites.calls k _ _ l0_0 _ _ l1_0 false _ ?side1 ?side2 ?side3 ?side4 A3.out).mono ?_); (case side1 => repeat (first | exact (Kd.C_below HR0_0.out HB.out) | (with_reducible refine Kd.C_alloc ?_ _) | (with_reducible refine Kd.C_drewN ?_ _) | (with_reducible refine Kd.C_drew ?_))); (case side2 => exact HC0_0.out); (case side3 => repeat (first | exact (Kd.C_below HR1_0.out HB.out) | (with_reducible refine Kd.C_alloc ?_ _) | (with_reducible refine Kd.C_drewN ?_ _) | (with_reducible refine Kd.C_drew ?_))); (case side4 => exact HC1_0.out); rintro e w' ⟨rfl, ⟨nd, rfl⟩⟩; refine ⟨_, rfl, ?_⟩))
  go_ret
  exact ⟨by first | rfl | (simp [errW_none, errW_some] <;> rfl) | (simp [*, errW_none, errW_some] <;> rfl), by repeat (first | (with_reducible first | exact HB.out | apply bL_ | apply pN_ | apply b1_ | refine bs_ ?_ GE232.out | refine bs_ ?_ GE233.out) | exact HB.out)⟩

/-! ### quorumlaw10_PendBack: function 4 -/
mutual
def quorumlaw10_PendBack.j0 : Nat → Bool → List (S55) → List Int → List (S57) → Option (Bool)
 | 0, _, _, _, _ => none
 | k + 1, x21, x237000, x237001, x237002 => if x21 = true then (some true) else ((pend_Save.f k x237000 x237001).bind fun bt239 => ((quorumlaw10_num.f bt239.2.2.2).bind fun t248 => (if t248 = 0 then (quorumlaw10_PendBack.l0 k bt239.2.2.1 0 x237000 x237001 x237002 bt239.1 bt239.2.1 bt239.1 bt239.2.1) else (if (x237001.length : Int) = 6 then ((quorumlaw10_wakes.f k).bind fun t249 => (some t249)) else (some false)))))
def quorumlaw10_PendBack.l0 : Nat → Int → Int → List (S55) → List Int → List (S57) → List (S55) → List Int → List (S55) → List Int → Option (Bool)
 | 0, _, _, _, _, _, _, _, _, _ => none
 | k + 1, x4, x7, x237000, x237001, x237002, x248000, x248001, x251000, x251001 => if x7 < (x237002.length : Int) then (quorumlaw10_PendBack.j2 k x4 x7 (decide (x7 < 20)) x237000 x237001 x237002 x248000 x248001 x251000 x251001) else (quorumlaw10_PendBack.j2 k x4 x7 false x237000 x237001 x237002 x248000 x248001 x251000 x251001)
def quorumlaw10_PendBack.j2 : Nat → Int → Int → Bool → List (S55) → List Int → List (S57) → List (S55) → List Int → List (S55) → List Int → Option (Bool)
 | 0, _, _, _, _, _, _, _, _, _, _ => none
 | k + 1, x4, x7, x49, x237000, x237001, x237002, x248000, x248001, x251000, x251001 => if x49 = true then (if (Int.tmod x7 3) = 0 then (quorumlaw10_PendBack.j3 k x4 x7 ((Int.tmod x7 3) == 0) x237000 x237001 x237002 x248000 x248001 x251000 x251001) else (quorumlaw10_PendBack.j3 k x4 x7 ((Int.tmod x7 3) == 1) x237000 x237001 x237002 x248000 x248001 x251000 x251001)) else ((quorumlaw10_wakes.f k).bind fun t251 => (some t251))
def quorumlaw10_PendBack.j4 : Nat → Int → Int → Int → List (S55) → List Int → List (S57) → List (S55) → List Int → List (S55) → List Int → List (S55) → List Int → Option (Bool)
 | 0, _, _, _, _, _, _, _, _, _, _, _, _ => none
 | k + 1, x4, x7, x9, x237000, x237001, x237002, x248000, x248001, x251000, x251001, x253000, x253001 => (quorumlaw10_num.f x9).bind fun t269 => (if t269 = 0 then (if 0 ≤ x7 then (if x7 < (x237002.length : Int) then (if (Go.bits .and .i64 ((rd_T57 x237002 x7).f1) 3) = 0 then (quorumlaw10_PendBack.j5 k x4 x7 (decide ((x253001.length : Int) > (wrap64 (x4 + 1)))) x237000 x237001 x237002 x248000 x248001 x253000 x253001) else (quorumlaw10_PendBack.j5 k x4 x7 false x237000 x237001 x237002 x248000 x248001 x253000 x253001)) else (none)) else (none)) else (quorumlaw10_PendBack.l0 k x4 (wrap64 (x7 + 1)) x237000 x237001 x237002 x248000 x248001 x251000 x251001))
def quorumlaw10_PendBack.j5 : Nat → Int → Int → Bool → List (S55) → List Int → List (S57) → List (S55) → List Int → List (S55) → List Int → Option (Bool)
 | 0, _, _, _, _, _, _, _, _, _, _ => none
 | k + 1, x4, x7, x92, x237000, x237001, x237002, x248000, x248001, x253000, x253001 => if x92 = true then ((pend_Release.f k x253000 x253001 (wrap64 ((x253001.length : Int) - 1))).bind fun bt271 => ((quorumlaw10_num.f bt271.2.2).bind fun t279 => (if t279 = 0 then ((quorumref0_EqWrites.f k bt271.1 x253000).bind fun t280 => (if t280 = true then (quorumlaw10_PendBack.j6 k x4 x7 x237000 x237001 x237002 x248000 x248001 bt271.1 bt271.2.1) else (some false))) else (some false)))) else (quorumlaw10_PendBack.j6 k x4 x7 x237000 x237001 x237002 x248000 x248001 x253000 x253001)
def quorumlaw10_PendBack.j6 : Nat → Int → Int → List (S55) → List Int → List (S57) → List (S55) → List Int → List (S55) → List Int → Option (Bool)
 | 0, _, _, _, _, _, _, _, _, _ => none
 | k + 1, x4, x7, x237000, x237001, x237002, x248000, x248001, x253000, x253001 => (pend_Return.f k x253000 x253001 x4).bind fun bt281 => ((quorumlaw10_num.f bt281.2.2).bind fun t289 => (if t289 = 0 then ((quorumref0_EqPend.f k bt281.1 bt281.2.1 x248000 x248001).bind fun t290 => (if t290 = true then (quorumlaw10_PendBack.l0 k x4 (wrap64 (x7 + 1)) x237000 x237001 x237002 x248000 x248001 x253000 x253001) else (some false))) else (some false)))
def quorumlaw10_PendBack.j3 : Nat → Int → Int → Bool → List (S55) → List Int → List (S57) → List (S55) → List Int → List (S55) → List Int → Option (Bool)
 | 0, _, _, _, _, _, _, _, _, _, _ => none
 | k + 1, x4, x7, x60, x237000, x237001, x237002, x248000, x248001, x251000, x251001 => if x60 = true then (if 0 ≤ x7 then (if x7 < (x237002.length : Int) then ((pend_Put.f k x251000 x251001 ((rd_T57 x237002 x7).f2.f0) ((rd_T57 x237002 x7).f2.f1) ((rd_T57 x237002 x7).f2.f2) ((rd_T57 x237002 x7).f2.f3)).bind fun bt254 => (quorumlaw10_PendBack.j4 k x4 x7 bt254.2.2 x237000 x237001 x237002 x248000 x248001 x251000 x251001 bt254.1 bt254.2.1)) else (none)) else (none)) else ((pend_Save.f k x251000 x251001).bind fun bt261 => (quorumlaw10_PendBack.j4 k x4 x7 bt261.2.2.2 x237000 x237001 x237002 x248000 x248001 x251000 x251001 bt261.1 bt261.2.1))
end
def quorumlaw10_PendBack.f (k : Nat) (l0_0 : List (S55)) (l0_1 : List Int) (l0_2 : List (S57)) : Option (Bool) := (quorumlaw10_Heavy.f k l0_0 l0_1 l0_2).bind fun t237 => (if t237 = true then (quorumlaw10_PendBack.j0 k true l0_0 l0_1 l0_2) else ((quorumref8_Pend.f k l0_0 l0_1).bind fun t238 => (quorumlaw10_PendBack.j0 k (!t238) l0_0 l0_1 l0_2)))
theorem quorumlaw10_PendBack.mono_l : ∀ k, (∀ y0 y1 y2 y3, LeO (quorumlaw10_PendBack.j0 k y0 y1 y2 y3) (quorumlaw10_PendBack.j0 (k + 1) y0 y1 y2 y3)) ∧ (∀ y0 y1 y2 y3 y4 y5 y6 y7 y8, LeO (quorumlaw10_PendBack.l0 k y0 y1 y2 y3 y4 y5 y6 y7 y8) (quorumlaw10_PendBack.l0 (k + 1) y0 y1 y2 y3 y4 y5 y6 y7 y8)) ∧ (∀ y0 y1 y2 y3 y4 y5 y6 y7 y8 y9, LeO (quorumlaw10_PendBack.j2 k y0 y1 y2 y3 y4 y5 y6 y7 y8 y9) (quorumlaw10_PendBack.j2 (k + 1) y0 y1 y2 y3 y4 y5 y6 y7 y8 y9)) ∧ (∀ y0 y1 y2 y3 y4 y5 y6 y7 y8 y9 y10 y11, LeO (quorumlaw10_PendBack.j4 k y0 y1 y2 y3 y4 y5 y6 y7 y8 y9 y10 y11) (quorumlaw10_PendBack.j4 (k + 1) y0 y1 y2 y3 y4 y5 y6 y7 y8 y9 y10 y11)) ∧ (∀ y0 y1 y2 y3 y4 y5 y6 y7 y8 y9, LeO (quorumlaw10_PendBack.j5 k y0 y1 y2 y3 y4 y5 y6 y7 y8 y9) (quorumlaw10_PendBack.j5 (k + 1) y0 y1 y2 y3 y4 y5 y6 y7 y8 y9)) ∧ (∀ y0 y1 y2 y3 y4 y5 y6 y7 y8, LeO (quorumlaw10_PendBack.j6 k y0 y1 y2 y3 y4 y5 y6 y7 y8) (quorumlaw10_PendBack.j6 (k + 1) y0 y1 y2 y3 y4 y5 y6 y7 y8)) ∧ (∀ y0 y1 y2 y3 y4 y5 y6 y7 y8 y9, LeO (quorumlaw10_PendBack.j3 k y0 y1 y2 y3 y4 y5 y6 y7 y8 y9) (quorumlaw10_PendBack.j3 (k + 1) y0 y1 y2 y3 y4 y5 y6 y7 y8 y9))
 | 0 => ⟨fun _ _ _ _ r h => by simp [quorumlaw10_PendBack.j0] at h, fun _ _ _ _ _ _ _ _ _ r h => by simp [quorumlaw10_PendBack.l0] at h, fun _ _ _ _ _ _ _ _ _ _ r h => by simp [quorumlaw10_PendBack.j2] at h, fun _ _ _ _ _ _ _ _ _ _ _ _ r h => by simp [quorumlaw10_PendBack.j4] at h, fun _ _ _ _ _ _ _ _ _ _ r h => by simp [quorumlaw10_PendBack.j5] at h, fun _ _ _ _ _ _ _ _ _ r h => by simp [quorumlaw10_PendBack.j6] at h, fun _ _ _ _ _ _ _ _ _ _ r h => by simp [quorumlaw10_PendBack.j3] at h⟩
 | k + 1 => by
  obtain ⟨ih0, ih1, ih2, ih3, ih4, ih5, ih6⟩ := quorumlaw10_PendBack.mono_l k
  refine ⟨?_, ?_, ?_, ?_, ?_, ?_, ?_⟩
  ·intro y0 y1 y2 y3
   unfold quorumlaw10_PendBack.j0
   repeat' first
   | (with_reducible exact ih0 _ _ _ _)
   | (with_reducible exact ih1 _ _ _ _ _ _ _ _ _)
   | (with_reducible exact ih2 _ _ _ _ _ _ _ _ _ _)
   | (with_reducible exact ih3 _ _ _ _ _ _ _ _ _ _ _ _)
   | (with_reducible exact ih4 _ _ _ _ _ _ _ _ _ _)
   | (with_reducible exact ih5 _ _ _ _ _ _ _ _ _)
   | (with_reducible exact ih6 _ _ _ _ _ _ _ _ _ _)
   | (with_reducible exact pend_Put.mono _ _ _ _ _ _ _)
   | (with_reducible exact pend_Release.mono _ _ _ _)
   | (with_reducible exact pend_Return.mono _ _ _ _)
   | (with_reducible exact pend_Save.mono _ _ _)
   | (with_reducible exact quorumlaw10_Heavy.mono _ _ _ _)
   | (with_reducible exact quorumlaw10_wakes.mono _)
   | (with_reducible exact quorumref0_EqPend.mono _ _ _ _ _)
   | (with_reducible exact quorumref0_EqWrites.mono _ _ _)
   | (with_reducible exact quorumref8_Pend.mono _ _ _)
   | (with_reducible exact LeO.refl _)
   | (with_reducible exact LeO.none _)
   | (with_reducible refine LeO.ite ?_ ?_)
   | (with_reducible refine LeO.bind ?_ (fun _ => ?_))
   | exact ih0 _ _ _ _
   | exact ih1 _ _ _ _ _ _ _ _ _
   | exact ih2 _ _ _ _ _ _ _ _ _ _
   | exact ih3 _ _ _ _ _ _ _ _ _ _ _ _
   | exact ih4 _ _ _ _ _ _ _ _ _ _
   | exact ih5 _ _ _ _ _ _ _ _ _
   | exact ih6 _ _ _ _ _ _ _ _ _ _
   | exact pend_Put.mono _ _ _ _ _ _ _
   | exact pend_Release.mono _ _ _ _
   | exact pend_Return.mono _ _ _ _
   | exact pend_Save.mono _ _ _
   | exact quorumlaw10_Heavy.mono _ _ _ _
   | exact quorumlaw10_wakes.mono _
   | exact quorumref0_EqPend.mono _ _ _ _ _
   | exact quorumref0_EqWrites.mono _ _ _
   | exact quorumref8_Pend.mono _ _ _
   | exact LeO.none _
   | refine LeO.ite ?_ ?_
   | refine LeO.bind ?_ (fun _ => ?_)
  ·intro y0 y1 y2 y3 y4 y5 y6 y7 y8
   unfold quorumlaw10_PendBack.l0
   repeat' first
   | (with_reducible exact ih0 _ _ _ _)
   | (with_reducible exact ih1 _ _ _ _ _ _ _ _ _)
   | (with_reducible exact ih2 _ _ _ _ _ _ _ _ _ _)
   | (with_reducible exact ih3 _ _ _ _ _ _ _ _ _ _ _ _)
   | (with_reducible exact ih4 _ _ _ _ _ _ _ _ _ _)
   | (with_reducible exact ih5 _ _ _ _ _ _ _ _ _)
   | (with_reducible exact ih6 _ _ _ _ _ _ _ _ _ _)
   | (with_reducible exact pend_Put.mono _ _ _ _ _ _ _)
   | (with_reducible exact pend_Release.mono _ _ _ _)
   | (with_reducible exact pend_Return.mono _ _ _ _)
   | (with_reducible exact pend_Save.mono _ _ _)
   | (with_reducible exact quorumlaw10_Heavy.mono _ _ _ _)
   | (with_reducible exact quorumlaw10_wakes.mono _)
   | (with_reducible exact quorumref0_EqPend.mono _ _ _ _ _)
   | (with_reducible exact quorumref0_EqWrites.mono _ _ _)
   | (with_reducible exact quorumref8_Pend.mono _ _ _)
   | (with_reducible exact LeO.refl _)
   | (with_reducible exact LeO.none _)
   | (with_reducible refine LeO.ite ?_ ?_)
   | (with_reducible refine LeO.bind ?_ (fun _ => ?_))
   | exact ih0 _ _ _ _
   | exact ih1 _ _ _ _ _ _ _ _ _
   | exact ih2 _ _ _ _ _ _ _ _ _ _
   | exact ih3 _ _ _ _ _ _ _ _ _ _ _ _
   | exact ih4 _ _ _ _ _ _ _ _ _ _
   | exact ih5 _ _ _ _ _ _ _ _ _
   | exact ih6 _ _ _ _ _ _ _ _ _ _
   | exact pend_Put.mono _ _ _ _ _ _ _
   | exact pend_Release.mono _ _ _ _
   | exact pend_Return.mono _ _ _ _
   | exact pend_Save.mono _ _ _
   | exact quorumlaw10_Heavy.mono _ _ _ _
   | exact quorumlaw10_wakes.mono _
   | exact quorumref0_EqPend.mono _ _ _ _ _
   | exact quorumref0_EqWrites.mono _ _ _
   | exact quorumref8_Pend.mono _ _ _
   | exact LeO.none _
   | refine LeO.ite ?_ ?_
   | refine LeO.bind ?_ (fun _ => ?_)
  ·intro y0 y1 y2 y3 y4 y5 y6 y7 y8 y9
   unfold quorumlaw10_PendBack.j2
   repeat' first
   | (with_reducible exact ih0 _ _ _ _)
   | (with_reducible exact ih1 _ _ _ _ _ _ _ _ _)
   | (with_reducible exact ih2 _ _ _ _ _ _ _ _ _ _)
   | (with_reducible exact ih3 _ _ _ _ _ _ _ _ _ _ _ _)
   | (with_reducible exact ih4 _ _ _ _ _ _ _ _ _ _)
   | (with_reducible exact ih5 _ _ _ _ _ _ _ _ _)
   | (with_reducible exact ih6 _ _ _ _ _ _ _ _ _ _)
   | (with_reducible exact pend_Put.mono _ _ _ _ _ _ _)
   | (with_reducible exact pend_Release.mono _ _ _ _)
   | (with_reducible exact pend_Return.mono _ _ _ _)
   | (with_reducible exact pend_Save.mono _ _ _)
   | (with_reducible exact quorumlaw10_Heavy.mono _ _ _ _)
   | (with_reducible exact quorumlaw10_wakes.mono _)
   | (with_reducible exact quorumref0_EqPend.mono _ _ _ _ _)
   | (with_reducible exact quorumref0_EqWrites.mono _ _ _)
   | (with_reducible exact quorumref8_Pend.mono _ _ _)
   | (with_reducible exact LeO.refl _)
   | (with_reducible exact LeO.none _)
   | (with_reducible refine LeO.ite ?_ ?_)
   | (with_reducible refine LeO.bind ?_ (fun _ => ?_))
   | exact ih0 _ _ _ _
   | exact ih1 _ _ _ _ _ _ _ _ _
   | exact ih2 _ _ _ _ _ _ _ _ _ _
   | exact ih3 _ _ _ _ _ _ _ _ _ _ _ _
   | exact ih4 _ _ _ _ _ _ _ _ _ _
   | exact ih5 _ _ _ _ _ _ _ _ _
   | exact ih6 _ _ _ _ _ _ _ _ _ _
   | exact pend_Put.mono _ _ _ _ _ _ _
   | exact pend_Release.mono _ _ _ _
   | exact pend_Return.mono _ _ _ _
   | exact pend_Save.mono _ _ _
   | exact quorumlaw10_Heavy.mono _ _ _ _
   | exact quorumlaw10_wakes.mono _
   | exact quorumref0_EqPend.mono _ _ _ _ _
   | exact quorumref0_EqWrites.mono _ _ _
   | exact quorumref8_Pend.mono _ _ _
   | exact LeO.none _
   | refine LeO.ite ?_ ?_
   | refine LeO.bind ?_ (fun _ => ?_)
  ·intro y0 y1 y2 y3 y4 y5 y6 y7 y8 y9 y10 y11
   unfold quorumlaw10_PendBack.j4
   repeat' first
   | (with_reducible exact ih0 _ _ _ _)
   | (with_reducible exact ih1 _ _ _ _ _ _ _ _ _)
   | (with_reducible exact ih2 _ _ _ _ _ _ _ _ _ _)
   | (with_reducible exact ih3 _ _ _ _ _ _ _ _ _ _ _ _)
   | (with_reducible exact ih4 _ _ _ _ _ _ _ _ _ _)
   | (with_reducible exact ih5 _ _ _ _ _ _ _ _ _)
   | (with_reducible exact ih6 _ _ _ _ _ _ _ _ _ _)
   | (with_reducible exact pend_Put.mono _ _ _ _ _ _ _)
   | (with_reducible exact pend_Release.mono _ _ _ _)
   | (with_reducible exact pend_Return.mono _ _ _ _)
   | (with_reducible exact pend_Save.mono _ _ _)
   | (with_reducible exact quorumlaw10_Heavy.mono _ _ _ _)
   | (with_reducible exact quorumlaw10_wakes.mono _)
   | (with_reducible exact quorumref0_EqPend.mono _ _ _ _ _)
   | (with_reducible exact quorumref0_EqWrites.mono _ _ _)
   | (with_reducible exact quorumref8_Pend.mono _ _ _)
   | (with_reducible exact LeO.refl _)
   | (with_reducible exact LeO.none _)
   | (with_reducible refine LeO.ite ?_ ?_)
   | (with_reducible refine LeO.bind ?_ (fun _ => ?_))
   | exact ih0 _ _ _ _
   | exact ih1 _ _ _ _ _ _ _ _ _
   | exact ih2 _ _ _ _ _ _ _ _ _ _
   | exact ih3 _ _ _ _ _ _ _ _ _ _ _ _
   | exact ih4 _ _ _ _ _ _ _ _ _ _
   | exact ih5 _ _ _ _ _ _ _ _ _
   | exact ih6 _ _ _ _ _ _ _ _ _ _
   | exact pend_Put.mono _ _ _ _ _ _ _
   | exact pend_Release.mono _ _ _ _
   | exact pend_Return.mono _ _ _ _
   | exact pend_Save.mono _ _ _
   | exact quorumlaw10_Heavy.mono _ _ _ _
   | exact quorumlaw10_wakes.mono _
   | exact quorumref0_EqPend.mono _ _ _ _ _
   | exact quorumref0_EqWrites.mono _ _ _
   | exact quorumref8_Pend.mono _ _ _
   | exact LeO.none _
   | refine LeO.ite ?_ ?_
   | refine LeO.bind ?_ (fun _ => ?_)
  ·intro y0 y1 y2 y3 y4 y5 y6 y7 y8 y9
   unfold quorumlaw10_PendBack.j5
   repeat' first
   | (with_reducible exact ih0 _ _ _ _)
   | (with_reducible exact ih1 _ _ _ _ _ _ _ _ _)
   | (with_reducible exact ih2 _ _ _ _ _ _ _ _ _ _)
   | (with_reducible exact ih3 _ _ _ _ _ _ _ _ _ _ _ _)
   | (with_reducible exact ih4 _ _ _ _ _ _ _ _ _ _)
   | (with_reducible exact ih5 _ _ _ _ _ _ _ _ _)
   | (with_reducible exact ih6 _ _ _ _ _ _ _ _ _ _)
   | (with_reducible exact pend_Put.mono _ _ _ _ _ _ _)
   | (with_reducible exact pend_Release.mono _ _ _ _)
   | (with_reducible exact pend_Return.mono _ _ _ _)
   | (with_reducible exact pend_Save.mono _ _ _)
   | (with_reducible exact quorumlaw10_Heavy.mono _ _ _ _)
   | (with_reducible exact quorumlaw10_wakes.mono _)
   | (with_reducible exact quorumref0_EqPend.mono _ _ _ _ _)
   | (with_reducible exact quorumref0_EqWrites.mono _ _ _)
   | (with_reducible exact quorumref8_Pend.mono _ _ _)
   | (with_reducible exact LeO.refl _)
   | (with_reducible exact LeO.none _)
   | (with_reducible refine LeO.ite ?_ ?_)
   | (with_reducible refine LeO.bind ?_ (fun _ => ?_))
   | exact ih0 _ _ _ _
   | exact ih1 _ _ _ _ _ _ _ _ _
   | exact ih2 _ _ _ _ _ _ _ _ _ _
   | exact ih3 _ _ _ _ _ _ _ _ _ _ _ _
   | exact ih4 _ _ _ _ _ _ _ _ _ _
   | exact ih5 _ _ _ _ _ _ _ _ _
   | exact ih6 _ _ _ _ _ _ _ _ _ _
   | exact pend_Put.mono _ _ _ _ _ _ _
   | exact pend_Release.mono _ _ _ _
   | exact pend_Return.mono _ _ _ _
   | exact pend_Save.mono _ _ _
   | exact quorumlaw10_Heavy.mono _ _ _ _
   | exact quorumlaw10_wakes.mono _
   | exact quorumref0_EqPend.mono _ _ _ _ _
   | exact quorumref0_EqWrites.mono _ _ _
   | exact quorumref8_Pend.mono _ _ _
   | exact LeO.none _
   | refine LeO.ite ?_ ?_
   | refine LeO.bind ?_ (fun _ => ?_)
  ·intro y0 y1 y2 y3 y4 y5 y6 y7 y8
   unfold quorumlaw10_PendBack.j6
   repeat' first
   | (with_reducible exact ih0 _ _ _ _)
   | (with_reducible exact ih1 _ _ _ _ _ _ _ _ _)
   | (with_reducible exact ih2 _ _ _ _ _ _ _ _ _ _)
   | (with_reducible exact ih3 _ _ _ _ _ _ _ _ _ _ _ _)
   | (with_reducible exact ih4 _ _ _ _ _ _ _ _ _ _)
   | (with_reducible exact ih5 _ _ _ _ _ _ _ _ _)
   | (with_reducible exact ih6 _ _ _ _ _ _ _ _ _ _)
   | (with_reducible exact pend_Put.mono _ _ _ _ _ _ _)
   | (with_reducible exact pend_Release.mono _ _ _ _)
   | (with_reducible exact pend_Return.mono _ _ _ _)
   | (with_reducible exact pend_Save.mono _ _ _)
   | (with_reducible exact quorumlaw10_Heavy.mono _ _ _ _)
   | (with_reducible exact quorumlaw10_wakes.mono _)
   | (with_reducible exact quorumref0_EqPend.mono _ _ _ _ _)
   | (with_reducible exact quorumref0_EqWrites.mono _ _ _)
   | (with_reducible exact quorumref8_Pend.mono _ _ _)
   | (with_reducible exact LeO.refl _)
   | (with_reducible exact LeO.none _)
   | (with_reducible refine LeO.ite ?_ ?_)
   | (with_reducible refine LeO.bind ?_ (fun _ => ?_))
   | exact ih0 _ _ _ _
   | exact ih1 _ _ _ _ _ _ _ _ _
   | exact ih2 _ _ _ _ _ _ _ _ _ _
   | exact ih3 _ _ _ _ _ _ _ _ _ _ _ _
   | exact ih4 _ _ _ _ _ _ _ _ _ _
   | exact ih5 _ _ _ _ _ _ _ _ _
   | exact ih6 _ _ _ _ _ _ _ _ _ _
   | exact pend_Put.mono _ _ _ _ _ _ _
   | exact pend_Release.mono _ _ _ _
   | exact pend_Return.mono _ _ _ _
   | exact pend_Save.mono _ _ _
   | exact quorumlaw10_Heavy.mono _ _ _ _
   | exact quorumlaw10_wakes.mono _
   | exact quorumref0_EqPend.mono _ _ _ _ _
   | exact quorumref0_EqWrites.mono _ _ _
   | exact quorumref8_Pend.mono _ _ _
   | exact LeO.none _
   | refine LeO.ite ?_ ?_
   | refine LeO.bind ?_ (fun _ => ?_)
  ·intro y0 y1 y2 y3 y4 y5 y6 y7 y8 y9
   unfold quorumlaw10_PendBack.j3
   repeat' first
   | (with_reducible exact ih0 _ _ _ _)
   | (with_reducible exact ih1 _ _ _ _ _ _ _ _ _)
   | (with_reducible exact ih2 _ _ _ _ _ _ _ _ _ _)
   | (with_reducible exact ih3 _ _ _ _ _ _ _ _ _ _ _ _)
   | (with_reducible exact ih4 _ _ _ _ _ _ _ _ _ _)
   | (with_reducible exact ih5 _ _ _ _ _ _ _ _ _)
   | (with_reducible exact ih6 _ _ _ _ _ _ _ _ _ _)
   | (with_reducible exact pend_Put.mono _ _ _ _ _ _ _)
   | (with_reducible exact pend_Release.mono _ _ _ _)
   | (with_reducible exact pend_Return.mono _ _ _ _)
   | (with_reducible exact pend_Save.mono _ _ _)
   | (with_reducible exact quorumlaw10_Heavy.mono _ _ _ _)
   | (with_reducible exact quorumlaw10_wakes.mono _)
   | (with_reducible exact quorumref0_EqPend.mono _ _ _ _ _)
   | (with_reducible exact quorumref0_EqWrites.mono _ _ _)
   | (with_reducible exact quorumref8_Pend.mono _ _ _)
   | (with_reducible exact LeO.refl _)
   | (with_reducible exact LeO.none _)
   | (with_reducible refine LeO.ite ?_ ?_)
   | (with_reducible refine LeO.bind ?_ (fun _ => ?_))
   | exact ih0 _ _ _ _
   | exact ih1 _ _ _ _ _ _ _ _ _
   | exact ih2 _ _ _ _ _ _ _ _ _ _
   | exact ih3 _ _ _ _ _ _ _ _ _ _ _ _
   | exact ih4 _ _ _ _ _ _ _ _ _ _
   | exact ih5 _ _ _ _ _ _ _ _ _
   | exact ih6 _ _ _ _ _ _ _ _ _ _
   | exact pend_Put.mono _ _ _ _ _ _ _
   | exact pend_Release.mono _ _ _ _
   | exact pend_Return.mono _ _ _ _
   | exact pend_Save.mono _ _ _
   | exact quorumlaw10_Heavy.mono _ _ _ _
   | exact quorumlaw10_wakes.mono _
   | exact quorumref0_EqPend.mono _ _ _ _ _
   | exact quorumref0_EqWrites.mono _ _ _
   | exact quorumref8_Pend.mono _ _ _
   | exact LeO.none _
   | refine LeO.ite ?_ ?_
   | refine LeO.bind ?_ (fun _ => ?_)
theorem quorumlaw10_PendBack.mono : ∀ a0 a1 a2 k, LeO (quorumlaw10_PendBack.f k a0 a1 a2) (quorumlaw10_PendBack.f (k + 1) a0 a1 a2) := by
 intro a0 a1 a2 k
 obtain ⟨ih0, ih1, ih2, ih3, ih4, ih5, ih6⟩ := quorumlaw10_PendBack.mono_l k
 unfold quorumlaw10_PendBack.f
 repeat' first
   | (with_reducible exact ih0 _ _ _ _)
   | (with_reducible exact ih1 _ _ _ _ _ _ _ _ _)
   | (with_reducible exact ih2 _ _ _ _ _ _ _ _ _ _)
   | (with_reducible exact ih3 _ _ _ _ _ _ _ _ _ _ _ _)
   | (with_reducible exact ih4 _ _ _ _ _ _ _ _ _ _)
   | (with_reducible exact ih5 _ _ _ _ _ _ _ _ _)
   | (with_reducible exact ih6 _ _ _ _ _ _ _ _ _ _)
   | (with_reducible exact pend_Put.mono _ _ _ _ _ _ _)
   | (with_reducible exact pend_Release.mono _ _ _ _)
   | (with_reducible exact pend_Return.mono _ _ _ _)
   | (with_reducible exact pend_Save.mono _ _ _)
   | (with_reducible exact quorumlaw10_Heavy.mono _ _ _ _)
   | (with_reducible exact quorumlaw10_wakes.mono _)
   | (with_reducible exact quorumref0_EqPend.mono _ _ _ _ _)
   | (with_reducible exact quorumref0_EqWrites.mono _ _ _)
   | (with_reducible exact quorumref8_Pend.mono _ _ _)
   | (with_reducible exact LeO.refl _)
   | (with_reducible exact LeO.none _)
   | (with_reducible refine LeO.ite ?_ ?_)
   | (with_reducible refine LeO.bind ?_ (fun _ => ?_))
   | exact ih0 _ _ _ _
   | exact ih1 _ _ _ _ _ _ _ _ _
   | exact ih2 _ _ _ _ _ _ _ _ _ _
   | exact ih3 _ _ _ _ _ _ _ _ _ _ _ _
   | exact ih4 _ _ _ _ _ _ _ _ _ _
   | exact ih5 _ _ _ _ _ _ _ _ _
   | exact ih6 _ _ _ _ _ _ _ _ _ _
   | exact pend_Put.mono _ _ _ _ _ _ _
   | exact pend_Release.mono _ _ _ _
   | exact pend_Return.mono _ _ _ _
   | exact pend_Save.mono _ _ _
   | exact quorumlaw10_Heavy.mono _ _ _ _
   | exact quorumlaw10_wakes.mono _
   | exact quorumref0_EqPend.mono _ _ _ _ _
   | exact quorumref0_EqWrites.mono _ _ _
   | exact quorumref8_Pend.mono _ _ _
   | exact LeO.none _
   | refine LeO.ite ?_ ?_
   | refine LeO.bind ?_ (fun _ => ?_)
def quorumlaw10_PendBack.T16 : Bool × List (List Nat × List Nat) := (true, [([], []), ([], []), ([1], [1]), ([], []), ([2, 3], [2, 3]), ([4], [4]), ([5], [5]), ([0, 6], [0, 6]), ([7], [7]), ([8], [8]), ([8], [8]), ([9, 7, 0, 1, 2, 3, 4, 5, 6, 7, 8, 9], [9]), ([10, 11, 0, 1, 2, 3, 4, 5, 6, 7, 8, 9, 10, 11], [10])])
def quorumlaw10_PendBack.B16 : List Nat := [0, 0, 2, 0, 14, 30, 62, 127, 255, 511, 511, 1023, 4095]
theorem quorumlaw10_PendBack.tab16 : rtab .any (opsOf Try.f4 16) = quorumlaw10_PendBack.T16 := by kernel_rfl
theorem quorumlaw10_PendBack.bits16 : waitsOk quorumlaw10_PendBack.T16.2 quorumlaw10_PendBack.B16 = true := by kernel_rfl

end Go.Proofs.Ytafiikiofalpnaa.PPend
