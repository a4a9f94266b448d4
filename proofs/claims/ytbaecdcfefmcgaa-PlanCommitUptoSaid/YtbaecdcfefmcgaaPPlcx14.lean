-- PRINTED by print.py (a twelfth state) out of the translation. Not trusted: Lean checks it.
import Derived.Test.YtbaecdcfefmcgaaPPlcx0
import Derived.Test.YtbaecdcfefmcgaaPPlcx3
namespace Go.Proofs.Ytbaecdcfefmcgaa.PPlc
open Go.RowKit Go.Proofs.YtbaecdcfefmcgaaW.PrintWords Go.Proofs.YtbaecdcfefmcgaaW.PrintLast Go.Proofs.YtbaecdcfefmcgaaW.PrintMore
attribute [local go_sem] max2_int min2_int max_two min_two max_three min_three max_four min_four   -- for this text's walks alone
set_option linter.unusedVariables false
set_option linter.unusedSimpArgs false

attribute [local go_sem high] eqA191
/-! ### quorumref0_EqLocks: function 108 -/
def quorumref0_EqLocks.l0 : Nat → List (S191) → List (S191) → Int → Option (Bool)
 | 0, _, _, _ => none
 | k + 1, x0, x1, x5 => if x5 < (x0.length : Int) then (if 0 ≤ x5 then (if x5 < (x1.length : Int) then (if (!(((rd_T191 x0 x5).f0) == ((rd_T191 x1 x5).f0)) || (!(((rd_T191 x0 x5).f1) == ((rd_T191 x1 x5).f1)) || ((!((((rd_T191 x0 x5).f2.f0).toList) == (((rd_T191 x1 x5).f2.f0).toList)) || (!((((rd_T191 x0 x5).f2.f1).toList) == (((rd_T191 x1 x5).f2.f1).toList)) || (!(((rd_T191 x0 x5).f2.f2) == ((rd_T191 x1 x5).f2.f2))))) || (!(((rd_T191 x0 x5).f3) == ((rd_T191 x1 x5).f3)))))) = true then (some false) else (quorumref0_EqLocks.l0 k x0 x1 (wrap64 (x5 + 1)))) else (none)) else (none)) else (some true)
def quorumref0_EqLocks.f (k : Nat) (l0 : List (S191)) (l1 : List (S191)) : Option (Bool) := if (l0.length : Int) = (l1.length : Int) then (quorumref0_EqLocks.l0 k l0 l1 0) else (some false)
theorem quorumref0_EqLocks.mono_l : ∀ k, (∀ y0 y1 y2, LeO (quorumref0_EqLocks.l0 k y0 y1 y2) (quorumref0_EqLocks.l0 (k + 1) y0 y1 y2))
 | 0 => fun _ _ _ r h => by simp [quorumref0_EqLocks.l0] at h
 | k + 1 => by
  have ih0 := quorumref0_EqLocks.mono_l k
  ·intro y0 y1 y2
   unfold quorumref0_EqLocks.l0
   repeat' first
   | (with_reducible exact ih0 _ _ _)
   | (with_reducible exact LeO.refl _)
   | (with_reducible exact LeO.none _)
   | (with_reducible refine LeO.ite ?_ ?_)
   | (with_reducible refine LeO.bind ?_ (fun _ => ?_))
   | exact ih0 _ _ _
   | exact LeO.none _
   | refine LeO.ite ?_ ?_
   | refine LeO.bind ?_ (fun _ => ?_)
theorem quorumref0_EqLocks.mono : ∀ a0 a1 k, LeO (quorumref0_EqLocks.f k a0 a1) (quorumref0_EqLocks.f (k + 1) a0 a1) := by
 intro a0 a1 k
 have ih0 := quorumref0_EqLocks.mono_l k
 unfold quorumref0_EqLocks.f
 repeat' first
   | (with_reducible exact ih0 _ _ _)
   | (with_reducible exact LeO.refl _)
   | (with_reducible exact LeO.none _)
   | (with_reducible refine LeO.ite ?_ ?_)
   | (with_reducible refine LeO.bind ?_ (fun _ => ?_))
   | exact ih0 _ _ _
   | exact LeO.none _
   | refine LeO.ite ?_ ?_
   | refine LeO.bind ?_ (fun _ => ?_)
set_option maxHeartbeats 8000000 in
set_option maxRecDepth 100000 in
theorem quorumref0_EqLocks.calls (k : Nat) (A0 : Option Addr) (c0 : Nat) (l0 : List (S191)) (A1 : Option Addr) (c1 : Nat) (l1 : List (S191)) (r : Bool) (w : World) (hr0 : Kd.C k191 w A0 l0.length l0) (hc0 : l0.length ≤ c0) (hr1 : Kd.C k191 w A1 l1.length l1) (hc1 : l1.length ≤ c1) (h : quorumref0_EqLocks.f k l0 l1 = some r) :
  Calls Try.prog 108 #[.slice A0 l0.length c0, .slice A1 l1.length c1] w fun e w' => e = .returned (.bool r) ∧ Drawn0 w w' := by
 have hu191 := Try.underlying191
 have HR0 := mk0 hr0
 have HC0 := mk0 hc0
 clear hr0 hc0
 have HR1 := mk0 hr1
 have HC1 := mk0 hc1
 clear hr1 hc1
 have H : (if (l0.length : Int) = (l1.length : Int) then (quorumref0_EqLocks.l0 k l0 l1 0) else (some false)) = some r := h
 clear h
 by_cases c3 : (l0.length : Int) = (l1.length : Int)
 ·rw [if_pos c3] at H
  have c3b0 : ((l0.length : Int) == (l1.length : Int)) = true := beq_iff_eq.mpr c3
  have c3b1 : ((l0.length : Int) != (l1.length : Int)) = false := bne_eq_false_iff_eq.mpr c3
  have c3b2 : (l0.length == l1.length) = true := by first | simpa using c3 | (simp at c3 ⊢; omega)
  clear c3
  have H' := mk0 H
  clear H
  go_enter Try.func108, Try.ntmps108
  go_wp2
  repeat (go_quiet (fail); try go_wp2)
  go_loopg [5] k (fun kq v5 w' => ∃ (x5_1 : Int), v5 = .int .i64 x5_1 ∧ Fc (quorumref0_EqLocks.l0 kq l0 l1 x5_1 = some r) ∧ Fc (kq ≤ k) ∧ Drawn0 w w')
  case atStart => exact ⟨(0), (by first | rfl | (simp; done) | (simp [*]; done)), H', ⟨Nat.le_refl _⟩, by repeat (first | exact Drawn0.refl _ | apply Drawn0.step)⟩
  case round =>
   clear H'
   try clear c1
   try clear c3
   try clear c3b0
   try clear c3b1
   try clear c3b2
   obtain ⟨x5_1, rfl, HA, HK1, ⟨m1, rfl⟩⟩ := hrel
   cases gk with
   | zero => exact absurd HA.out (by simp [quorumref0_EqLocks.l0])
   | succ k1 =>
    have H := HA.out
    clear HA
    simp only [quorumref0_EqLocks.l0] at H
    as_aux_lemma =>
     by_cases c4 : x5_1 < (l0.length : Int)
     ·rw [if_pos c4] at H
      have c4b0 : decide (x5_1 < (l0.length : Int)) = true := decide_eq_true c4
      clear c4
      by_cases c5 : 0 ≤ x5_1
      ·rw [if_pos c5] at H
       have c5b0 : decide (0 ≤ x5_1) = true := decide_eq_true c5
       clear c5
       by_cases c6 : x5_1 < (l1.length : Int)
       ·rw [if_pos c6] at H
        have c6b0 : decide (x5_1 < (l1.length : Int)) = true := decide_eq_true c6
        clear c6
        by_cases c7 : (!(((rd_T191 l0 x5_1).f0) == ((rd_T191 l1 x5_1).f0)) || (!(((rd_T191 l0 x5_1).f1) == ((rd_T191 l1 x5_1).f1)) || ((!((((rd_T191 l0 x5_1).f2.f0).toList) == (((rd_T191 l1 x5_1).f2.f0).toList)) || (!((((rd_T191 l0 x5_1).f2.f1).toList) == (((rd_T191 l1 x5_1).f2.f1).toList)) || (!(((rd_T191 l0 x5_1).f2.f2) == ((rd_T191 l1 x5_1).f2.f2))))) || (!(((rd_T191 l0 x5_1).f3) == ((rd_T191 l1 x5_1).f3)))))) = true
        ·rw [if_pos c7] at H
         have c7b0 : (!(((rd_T191 l0 x5_1).f0) == ((rd_T191 l1 x5_1).f0)) || (!(((rd_T191 l0 x5_1).f1) == ((rd_T191 l1 x5_1).f1)) || ((!((((rd_T191 l0 x5_1).f2.f0).toList) == (((rd_T191 l1 x5_1).f2.f0).toList)) || (!((((rd_T191 l0 x5_1).f2.f1).toList) == (((rd_T191 l1 x5_1).f2.f1).toList)) || (!(((rd_T191 l0 x5_1).f2.f2) == ((rd_T191 l1 x5_1).f2.f2))))) || (!(((rd_T191 l0 x5_1).f3) == ((rd_T191 l1 x5_1).f3)))))) = true := c7
         clear c7
         obtain rfl := Option.some.inj H
         have p292 : 0 ≤ (x5_1 : Int) := of_decide_eq_true (by first | (with_reducible assumption) | assumption)
         have q292 : x5_1 < (l0.length : Int) := of_decide_eq_true (by first | (with_reducible assumption) | assumption)
         obtain ⟨ad292, e292, hx292_0, hx292_1, hx292_2, hx292_3, hx292_4, hx292_5⟩ := at_T191 HR0.out x5_1 p292 q292
         cases e292
         replace p292 := eq_true p292
         replace q292 := eq_true q292
         have p293 : 0 ≤ (x5_1 : Int) := of_decide_eq_true (by first | (with_reducible assumption) | assumption)
         have q293 : x5_1 < (l1.length : Int) := of_decide_eq_true (by first | (with_reducible assumption) | assumption)
         obtain ⟨ad293, e293, hx293_0, hx293_1, hx293_2, hx293_3, hx293_4, hx293_5⟩ := at_T191 HR1.out x5_1 p293 q293
         cases e293
         replace p293 := eq_true p293
         replace q293 := eq_true q293
         go_wp2
         repeat (go_quiet (fail); try go_wp2)
         go_ret
         exact ⟨by first | rfl | (simp; done) | (simp [*]; done), by repeat (first | exact Drawn0.refl _ | apply Drawn0.step)⟩
        ·rw [if_neg c7] at H
         have c7b0 : (!(((rd_T191 l0 x5_1).f0) == ((rd_T191 l1 x5_1).f0)) || (!(((rd_T191 l0 x5_1).f1) == ((rd_T191 l1 x5_1).f1)) || ((!((((rd_T191 l0 x5_1).f2.f0).toList) == (((rd_T191 l1 x5_1).f2.f0).toList)) || (!((((rd_T191 l0 x5_1).f2.f1).toList) == (((rd_T191 l1 x5_1).f2.f1).toList)) || (!(((rd_T191 l0 x5_1).f2.f2) == ((rd_T191 l1 x5_1).f2.f2))))) || (!(((rd_T191 l0 x5_1).f3) == ((rd_T191 l1 x5_1).f3)))))) = false := by simpa using c7
         clear c7
         have H' := mk0 H
         clear H
         have p292 : 0 ≤ (x5_1 : Int) := of_decide_eq_true (by first | (with_reducible assumption) | assumption)
         have q292 : x5_1 < (l0.length : Int) := of_decide_eq_true (by first | (with_reducible assumption) | assumption)
         obtain ⟨ad292, e292, hx292_0, hx292_1, hx292_2, hx292_3, hx292_4, hx292_5⟩ := at_T191 HR0.out x5_1 p292 q292
         cases e292
         replace p292 := eq_true p292
         replace q292 := eq_true q292
         have p293 : 0 ≤ (x5_1 : Int) := of_decide_eq_true (by first | (with_reducible assumption) | assumption)
         have q293 : x5_1 < (l1.length : Int) := of_decide_eq_true (by first | (with_reducible assumption) | assumption)
         obtain ⟨ad293, e293, hx293_0, hx293_1, hx293_2, hx293_3, hx293_4, hx293_5⟩ := at_T191 HR1.out x5_1 p293 q293
         cases e293
         replace p293 := eq_true p293
         replace q293 := eq_true q293
         go_wp2
         repeat (go_quiet (fail); try go_wp2)
         go_roundg k1
         case measure => have := HK1.out; omega
         case rel => exact ⟨(wrap64 (x5_1 + 1)), (by first | rfl | (simp; done) | (simp [*]; done)), H', ⟨by have := HK1.out; omega⟩, by repeat (first | exact Drawn0.refl _ | apply Drawn0.step)⟩
       ·rw [if_neg c6] at H
        exact absurd H (by simp)
      ·rw [if_neg c5] at H
       exact absurd H (by simp)
     ·rw [if_neg c4] at H
      have c4b0 : decide (x5_1 < (l0.length : Int)) = false := decide_eq_false c4
      clear c4
      obtain rfl := Option.some.inj H
      go_wp2
      repeat (go_quiet (fail); try go_wp2)
      go_ret
      exact ⟨by first | rfl | (simp; done) | (simp [*]; done), by repeat (first | exact Drawn0.refl _ | apply Drawn0.step)⟩
 ·rw [if_neg c3] at H
  have c3b0 : ((l0.length : Int) == (l1.length : Int)) = false := beq_eq_false_iff_ne.mpr c3
  have c3b1 : ((l0.length : Int) != (l1.length : Int)) = true := bne_iff_ne.mpr c3
  have c3b2 : (l0.length == l1.length) = false := by first | simpa using c3 | (simp at c3 ⊢; omega)
  obtain rfl := Option.some.inj H
  go_enter Try.func108, Try.ntmps108
  go_wp2
  repeat (go_quiet (fail); try go_wp2)
  go_ret
  exact ⟨by first | rfl | (simp; done) | (simp [*]; done), by repeat (first | exact Drawn0.refl _ | apply Drawn0.step)⟩

/-! ### quorumlaw0_Locks: function 109 -/
def quorumlaw0_Locks.l0 : Nat → List (S191) → Int → Option ((List (S191)))
 | 0, _, _ => none
 | k + 1, x0, x2 => if x2 < (x0.length : Int) then (if 0 ≤ x2 then (quorumlaw0_Locks.l0 k (x0.set (x2 : Int).toNat (⟨(-9), 0, (⟨(⟨#[]⟩ : ByteArray), (⟨#[]⟩ : ByteArray), false⟩ : S74), 0⟩ : S191)) (wrap64 (x2 + 1))) else (none)) else (some x0)
def quorumlaw0_Locks.f (k : Nat) (l0 : List (S191)) : Option ((List (S191))) := quorumlaw0_Locks.l0 k l0 0
theorem quorumlaw0_Locks.mono_l : ∀ k, (∀ y0 y1, LeO (quorumlaw0_Locks.l0 k y0 y1) (quorumlaw0_Locks.l0 (k + 1) y0 y1))
 | 0 => fun _ _ r h => by simp [quorumlaw0_Locks.l0] at h
 | k + 1 => by
  have ih0 := quorumlaw0_Locks.mono_l k
  ·intro y0 y1
   unfold quorumlaw0_Locks.l0
   repeat' first
   | (with_reducible exact ih0 _ _)
   | (with_reducible exact LeO.refl _)
   | (with_reducible exact LeO.none _)
   | (with_reducible refine LeO.ite ?_ ?_)
   | (with_reducible refine LeO.bind ?_ (fun _ => ?_))
   | exact ih0 _ _
   | exact LeO.none _
   | refine LeO.ite ?_ ?_
   | refine LeO.bind ?_ (fun _ => ?_)
theorem quorumlaw0_Locks.mono : ∀ a0 k, LeO (quorumlaw0_Locks.f k a0) (quorumlaw0_Locks.f (k + 1) a0) := by
 intro a0 k
 have ih0 := quorumlaw0_Locks.mono_l k
 unfold quorumlaw0_Locks.f
 repeat' first
   | (with_reducible exact ih0 _ _)
   | (with_reducible exact LeO.refl _)
   | (with_reducible exact LeO.none _)
   | (with_reducible refine LeO.ite ?_ ?_)
   | (with_reducible refine LeO.bind ?_ (fun _ => ?_))
   | exact ih0 _ _
   | exact LeO.none _
   | refine LeO.ite ?_ ?_
   | refine LeO.bind ?_ (fun _ => ?_)
set_option maxHeartbeats 8000000 in
set_option maxRecDepth 100000 in
theorem quorumlaw0_Locks.calls (k : Nat) (P0_ : Nat → Prop) (u9000_ : Value) (l0 : List (S191)) (r : List (S191)) (w0 w : World) (hB : Below w0.heap.size w0 w) (ho0 : Kd.R k191 191 w w0.heap.size P0_ u9000_ l0) (h : quorumlaw0_Locks.f k l0 = some r) :
  Calls Try.prog 109 #[u9000_] w fun e w' => e = .returned (.tuple #[]) ∧ Kd.R k191 191 w' w0.heap.size (fun k_ => (P0_ k_ ∨ w.heap.size ≤ k_)) u9000_ r ∧ Below w0.heap.size w0 w' ∧ Kept w w' (fun k_ => P0_ k_) := by
 have hu191 := Try.underlying191
 have HO0 := mk0 (show Kd.R k191 191 w w0.heap.size (fun k_ => (P0_ k_ ∨ w.heap.size ≤ k_)) u9000_ l0 from Kd.R_mono ho0 (fun k_ hk => (.inl hk)))
 have HK := mk0 (Kept.refl w (fun k_ => P0_ k_))
 have HW0 := mk0 hB.size
 have HB := mk0 hB
 clear hB
 have H : (quorumlaw0_Locks.l0 k l0 0) = some r := h
 clear h
 have H' := mk0 H
 clear H
 go_enter Try.func109, Try.ntmps109
 go_wp2
 go_loopg [2] k (fun kq v2 w' => ∃ (x0_1 : List (S191)) (x2_1 : Int), v2 = .int .i64 x2_1 ∧ Fc (quorumlaw0_Locks.l0 kq x0_1 x2_1 = some r) ∧ Fc (kq ≤ k) ∧ Fc (Kd.R k191 191 w' w0.heap.size (fun k_ => (P0_ k_ ∨ w.heap.size ≤ k_)) u9000_ x0_1) ∧ Fc (Kept w w' (fun k_ => P0_ k_)) ∧ Fc (Below w0.heap.size w0 w'))
 case atStart => exact ⟨(l0), (0), (by first | rfl | (simp; done) | (simp [*]; done)), H', ⟨Nat.le_refl _⟩, ⟨by (with_reducible repeat (first | apply Ra_ | apply Rn_ | apply Rd_)); exact HO0.out⟩, ⟨k_ HK⟩, ⟨b_ HB⟩⟩
 case round =>
  clear H'
  obtain ⟨x0_1, x2_1, rfl, HA, HK1, HO_0, HK, HB⟩ := hrel
  cases gk with
  | zero => exact absurd HA.out (by simp [quorumlaw0_Locks.l0])
  | succ k1 =>
   have H := HA.out
   clear HA
   simp only [quorumlaw0_Locks.l0] at H
   as_aux_lemma =>
    by_cases c2 : x2_1 < (x0_1.length : Int)
    ·rw [if_pos c2] at H
     have c2b0 : decide (x2_1 < (x0_1.length : Int)) = true := decide_eq_true c2
     clear c2
     by_cases c3 : 0 ≤ x2_1
     ·rw [if_pos c3] at H
      have c3b0 : decide (0 ≤ x2_1) = true := decide_eq_true c3
      clear c3
      obtain ⟨y294, hy294⟩ : ∃ y_ : List (S191), y_ = (x0_1.set (x2_1 : Int).toNat (⟨(-9), 0, (⟨(⟨#[]⟩ : ByteArray), (⟨#[]⟩ : ByteArray), false⟩ : S74), 0⟩ : S191)) := ⟨_, rfl⟩
      replace H : (quorumlaw0_Locks.l0 k1 y294 (wrap64 (x2_1 + 1))) = some r := by first | (rw [hy294]; with_reducible exact H) | (have H2_ := (Option.bind_some _ _).symm.trans H; rw [hy294]; with_reducible exact H2_) | (have H2_ := (Option.bind_some _ _).symm.trans H; with_reducible exact H2_) | with_reducible exact H | (rw [hy294]; exact H) | exact H
      have Ny294 := mk0 hy294
      clear hy294
      have H' := mk0 H
      clear H
      obtain ⟨Ao5, co5, eo5⟩ := Kd.R_slice HO_0.out
      subst eo5
      have p4 : 0 ≤ (x2_1 : Int) := of_decide_eq_true (by first | (with_reducible assumption) | assumption)
      have q4 : (x2_1 : Int) < ((x0_1.length : Int) : Int) := of_decide_eq_true (by first | (with_reducible assumption) | assumption)
      obtain ⟨go4, co4, eo4, gb4, gl4, cl4, HG4⟩ := Kd.R_form HO_0.out (by omega)
      (first | cases eo4 | (injection eo4 with ea_ en_ ec_; (first | subst ea_ | (injection ea_ with ea_; subst ea_)); subst ec_; clear en_))
      have GB4 := mk0 gb4
      have GG4 := mk0 HG4
      clear gb4 gl4 HG4
      have HMgo4 := mk0 (show (P0_ go4 ∨ w.heap.size ≤ go4) from (HO_0.out.1 _ rfl))
      obtain ⟨ce4, hcl4, hM4, hcc4, hfr4⟩ := Kd.R_elem HO_0.out z191 (x2_1 : Int) p4 q4
      obtain rfl := k191_openM hM4
      have hx4_0 : wr.cell? ⟨go4, (x2_1 : Int).toNat * 6, none⟩ = some (.int .i64 ((rd_T191 x0_1 x2_1).f0)) := hcc4 0 _ rfl
      have hx4_1 : wr.cell? ⟨go4, (x2_1 : Int).toNat * 6 + 1, none⟩ = some (.int .i64 ((rd_T191 x0_1 x2_1).f1)) := hcc4 1 _ rfl
      have hx4_2 : wr.cell? ⟨go4, (x2_1 : Int).toNat * 6 + 2, none⟩ = some (.string ((rd_T191 x0_1 x2_1).f2.f0)) := hcc4 2 _ rfl
      have hx4_3 : wr.cell? ⟨go4, (x2_1 : Int).toNat * 6 + 3, none⟩ = some (.string ((rd_T191 x0_1 x2_1).f2.f1)) := hcc4 3 _ rfl
      have hx4_4 : wr.cell? ⟨go4, (x2_1 : Int).toNat * 6 + 4, none⟩ = some (.bool ((rd_T191 x0_1 x2_1).f2.f2)) := hcc4 4 _ rfl
      have hx4_5 : wr.cell? ⟨go4, (x2_1 : Int).toNat * 6 + 5, none⟩ = some (.int .i64 ((rd_T191 x0_1 x2_1).f3)) := hcc4 5 _ rfl
      have hf4_0 : wr.frozen? ⟨go4, (x2_1 : Int).toNat * 6, none⟩ = false := hfr4 0
      have hf4_1 : wr.frozen? ⟨go4, (x2_1 : Int).toNat * 6 + 1, none⟩ = false := hfr4 1
      have hf4_2 : wr.frozen? ⟨go4, (x2_1 : Int).toNat * 6 + 2, none⟩ = false := hfr4 2
      have hf4_3 : wr.frozen? ⟨go4, (x2_1 : Int).toNat * 6 + 3, none⟩ = false := hfr4 3
      have hf4_4 : wr.frozen? ⟨go4, (x2_1 : Int).toNat * 6 + 4, none⟩ = false := hfr4 4
      have hf4_5 : wr.frozen? ⟨go4, (x2_1 : Int).toNat * 6 + 5, none⟩ = false := hfr4 5
      clear hcl4 hcc4 hfr4 hM4
      replace p4 := eq_true p4
      replace q4 := eq_true q4
      have HX6 := mk0 (show Kd.R k191 191 wr w0.heap.size (fun k_ => (P0_ k_ ∨ w.heap.size ≤ k_)) (.slice (some ⟨go4, 0, none⟩) x0_1.length co5) x0_1 from (r_ HO_0))
      obtain ⟨ce6, hcl6, hM6, hcc6, hfr6⟩ := Kd.R_elem HX6.out z191 (x2_1 : Int) (of_decide_eq_true (by first | (with_reducible assumption) | assumption)) (by have h_ : (x2_1 : Int) < ((x0_1.length : Int) : Int) := of_decide_eq_true (by first | (with_reducible assumption) | assumption); first | exact h_ | (have e_ := (Kd.R_reads' HO_0.out).1; omega) | simpa using h_)
      obtain rfl := k191_openM hM6
      have HP6 := Kd.R_seg HX6.out (x2_1 : Int) (of_decide_eq_true (by first | (with_reducible assumption) | assumption)) (by have h_ : (x2_1 : Int) < ((x0_1.length : Int) : Int) := of_decide_eq_true (by first | (with_reducible assumption) | assumption); first | exact h_ | (have e_ := (Kd.R_reads' HO_0.out).1; omega) | simpa using h_) (seg := [.int .i64 (-9), .int .i64 0, .string (⟨#[]⟩ : ByteArray), .string (⟨#[]⟩ : ByteArray), .bool false, .int .i64 0]) (j := 0) hcl6 hcc6 (show 6 ≤ 6 from by decide) (x' := (⟨(-9), 0, (⟨(⟨#[]⟩ : ByteArray), (⟨#[]⟩ : ByteArray), false⟩ : S74), 0⟩ : S191)) (k191_mkM _ _ _ (⟨(-9), 0, (⟨(⟨#[]⟩ : ByteArray), (⟨#[]⟩ : ByteArray), false⟩ : S74), 0⟩ : S191) ) (fun _ hk => hk)
      have hx6_0 := hcc6 0 _ rfl
      (try simp only [show (k191).sz = 6 from rfl, Nat.mul_one, Nat.add_zero] at hx6_0)
      have hf6_0 := hfr6 0
      (try simp only [show (k191).sz = 6 from rfl, Nat.mul_one, Nat.add_zero] at hf6_0)
      have hx6_1 := hcc6 1 _ rfl
      (try simp only [show (k191).sz = 6 from rfl, Nat.mul_one, Nat.add_zero] at hx6_1)
      have hf6_1 := hfr6 1
      (try simp only [show (k191).sz = 6 from rfl, Nat.mul_one, Nat.add_zero] at hf6_1)
      have hx6_2 := hcc6 2 _ rfl
      (try simp only [show (k191).sz = 6 from rfl, Nat.mul_one, Nat.add_zero] at hx6_2)
      have hf6_2 := hfr6 2
      (try simp only [show (k191).sz = 6 from rfl, Nat.mul_one, Nat.add_zero] at hf6_2)
      have hx6_3 := hcc6 3 _ rfl
      (try simp only [show (k191).sz = 6 from rfl, Nat.mul_one, Nat.add_zero] at hx6_3)
      have hf6_3 := hfr6 3
      (try simp only [show (k191).sz = 6 from rfl, Nat.mul_one, Nat.add_zero] at hf6_3)
      have hx6_4 := hcc6 4 _ rfl
      (try simp only [show (k191).sz = 6 from rfl, Nat.mul_one, Nat.add_zero] at hx6_4)
      have hf6_4 := hfr6 4
      (try simp only [show (k191).sz = 6 from rfl, Nat.mul_one, Nat.add_zero] at hf6_4)
      have hx6_5 := hcc6 5 _ rfl
      (try simp only [show (k191).sz = 6 from rfl, Nat.mul_one, Nat.add_zero] at hx6_5)
      have hf6_5 := hfr6 5
      (try simp only [show (k191).sz = 6 from rfl, Nat.mul_one, Nat.add_zero] at hf6_5)
      clear hcl6 hcc6 hfr6 hM6
      go_wp2_with (first | ((with_reducible refine gate_store (t := 191) (p := 12) rfl ?_); refine sv_ (t := 191) (p := 12) (w1 := ((((((wr.setCell ⟨go4, (x2_1 : Int).toNat * 6, none⟩ (.int .i64 (-9))).setCell ⟨go4, (x2_1 : Int).toNat * 6 + 1, none⟩ (.int .i64 0)).setCell ⟨go4, (x2_1 : Int).toNat * 6 + 2, none⟩ (.string (⟨#[]⟩ : ByteArray))).setCell ⟨go4, (x2_1 : Int).toNat * 6 + 3, none⟩ (.string (⟨#[]⟩ : ByteArray))).setCell ⟨go4, (x2_1 : Int).toNat * 6 + 4, none⟩ (.bool false)).setCell ⟨go4, (x2_1 : Int).toNat * 6 + 5, none⟩ (.int .i64 0))) (h := ?_); intro w7 hw; have hg : wr.grownBy w7 (some go4) := (by rw [hw]; exact HP6.2); have hp_ : Kd.R k191 191 w7 w0.heap.size (fun k_ => (P0_ k_ ∨ w.heap.size ≤ k_)) (.slice (some ⟨go4, 0, none⟩) x0_1.length co5) y294 := (by rw [hw, Ny294.out]; exact HP6.1); clear HP6; have n2_ := mk0 (Kept.of_grown (S := (fun k_ => P0_ k_)) hg (k_ HK) (fun k_ e_ => (HO_0.out.1 k_ e_))); replace HO_0 := mk0 (hp_); replace HB := mk0 ((by rw [hw]; exact bs_ (bs_ (bs_ (bs_ (bs_ (bs_ (HB.out) GB4.out) GB4.out) GB4.out) GB4.out) GB4.out) GB4.out : Below w0.heap.size w0 w7)); clear HK; have HK := n2_; clear n2_; clear hg hw hp_))
      go_roundg k1
      case measure => have := HK1.out; omega
      case rel => exact ⟨(y294), (wrap64 (x2_1 + 1)), (by first | rfl | (simp; done) | (simp [*]; done)), H', ⟨by have := HK1.out; omega⟩, ⟨by (with_reducible repeat (first | apply Ra_ | apply Rn_ | apply Rd_)); exact HO_0.out⟩, ⟨k_ HK⟩, ⟨b_ HB⟩⟩
     ·rw [if_neg c3] at H
      exact absurd H (by simp)
    ·rw [if_neg c2] at H
     have c2b0 : decide (x2_1 < (x0_1.length : Int)) = false := decide_eq_false c2
     clear c2
     obtain rfl := Option.some.inj H
     obtain ⟨Ao8, co8, eo8⟩ := Kd.R_slice HO_0.out
     subst eo8
     go_wp2
     first | go_end0 | ((try simp only [Exit.inBlock, Exit.then]); refine bodyPost_ret (results_none rfl _ _ _) rfl ?_)
     exact ⟨by first | rfl | (simp [errW_none, errW_some] <;> rfl) | (simp [*, errW_none, errW_some] <;> rfl), by (with_reducible repeat (first | apply Ra_ | apply Rn_ | apply Rd_)); exact HO_0.out, b_ HB, k_ HK⟩

/-! ### quorumlaw12_wakes: function 110 (by hand) -/
set_option maxHeartbeats 2000000 in
theorem quorumlaw12_wakes.idx_nil (w : World) : Calls Try.prog 180 #[.slice none 0 0, .func (.func 147) #[] #[]] w fun e w' => e = .returned (.int .i64 (-1)) ∧ w' = w := by
  go_enter Try.func180, Try.ntmps180
  go_wp2_with fail
  go_loopg [8] 0 (fun kq v8 w' => v8 = .int .i64 0 ∧ w' = w)
  case atStart => exact ⟨rfl, rfl⟩
  case round =>
    obtain ⟨rfl, rfl⟩ := hrel
    go_wp2
    go_ret
    exact ⟨rfl, rfl⟩
set_option maxHeartbeats 2000000 in
theorem quorumlaw12_wakes.may_nil (w : World) : Calls Try.prog 97 #[.agg #[.slice none 0 0, .slice none 0 0]] w fun e w' => e = .returned (.bool true) ∧ w' = w.alloc (Obj.cells #[.slice none 0 0, .slice none 0 0] 34) := by
  have hi := quorumlaw12_wakes.idx_nil
  go_enter Try.func97, Try.ntmps97
  go_wp2_with (first | (go_at_call 180; refine (hi _).mono ?_; rintro e w' ⟨rfl, rfl⟩) | go_in)
  go_loopg [23] 0 (fun kq v23 w' => v23 = .int .i64 0 ∧ w' = w.alloc (Obj.cells #[.slice none 0 0, .slice none 0 0] 34))
  case atStart => exact ⟨rfl, rfl⟩
  case round =>
    obtain ⟨rfl, rfl⟩ := hrel
    go_wp2
    go_ret
    exact ⟨rfl, rfl⟩
set_option maxHeartbeats 2000000 in
theorem quorumlaw12_wakes.alone_a (w : World) : Calls Try.prog 187 #[.string ⟨#[97]⟩] w fun e w' => e = .returned (.agg #[.string ⟨#[97]⟩, .string (⟨#[97]⟩ ++ ⟨#[0]⟩), .bool false]) ∧ w' = w.alloc (Obj.cells #[.string ⟨#[97]⟩, .string (⟨#[97]⟩ ++ ⟨#[0]⟩), .bool false] 74) := by
  go_enter Try.func187, Try.ntmps187
  go_wp2
  have hb := heap_alloc_new w (Obj.cells #[.string ⟨#[97]⟩, .string (⟨#[97]⟩ ++ ⟨#[0]⟩), .bool false] 74)
  refine bodyPost_ret (results_cell_row rfl _ _ w.heap.size 74 #[.string ⟨#[97]⟩, .string (⟨#[97]⟩ ++ ⟨#[0]⟩), .bool false] (0, 0) _ rfl hb Try.underlying74 rfl (by kernel_rfl)) rfl ?_
  exact ⟨rfl, rfl⟩
set_option maxHeartbeats 4000000 in
set_option maxRecDepth 100000 in
theorem quorumlaw12_wakes.wakes12 (w : World) : Calls Try.prog 110 #[] w fun e w' => e = .returned (.bool true) ∧ Below w.heap.size w w' := by
  have hm := quorumlaw12_wakes.may_nil
  have ha := quorumlaw12_wakes.alone_a
  have hbl : Op.bytesLess [97] ((⟨#[97]⟩ : ByteArray) ++ (⟨#[0]⟩ : ByteArray)).toList = true := by decide +kernel
  have HB := mk0 (Below.refl w.heap.size w)
  go_enter Try.func110, Try.ntmps110
  go_wp2_with (first | (go_at_call 97; refine (hm _).mono ?_; rintro e w' ⟨rfl, rfl⟩) | (go_at_call 187; refine (ha _).mono ?_; rintro e w' ⟨rfl, rfl⟩) | go_in)
  all_goals go_outline
  all_goals go_ret
  all_goals refine ⟨rfl, ?_⟩
  all_goals repeat (first | (with_reducible first | exact HB.out | apply bL_ | apply pN_ | apply b1_) | exact HB.out)
def quorumlaw12_wakes.f : Option Bool := some true
theorem quorumlaw12_wakes.calls (r : Bool) (w : World) (h : quorumlaw12_wakes.f = some r) : Calls Try.prog 110 #[] w fun e w' => e = .returned (.bool r) ∧ Below w.heap.size w w' := by
  obtain rfl := Option.some.inj h
  exact quorumlaw12_wakes.wakes12 w


end Go.Proofs.Ytbaecdcfefmcgaa.PPlc
