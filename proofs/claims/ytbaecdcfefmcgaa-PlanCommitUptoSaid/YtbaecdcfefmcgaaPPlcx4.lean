-- PRINTED by print.py (a twelfth state) out of the translation. Not trusted: Lean checks it.
import Derived.Test.YtbaecdcfefmcgaaPPlcx0
namespace Go.Proofs.Ytbaecdcfefmcgaa.PPlc
open Go.RowKit Go.Proofs.YtbaecdcfefmcgaaW.PrintWords Go.Proofs.YtbaecdcfefmcgaaW.PrintLast Go.Proofs.YtbaecdcfefmcgaaW.PrintMore
attribute [local go_sem] max2_int min2_int max_two min_two max_three min_three max_four min_four   -- for this text's walks alone
set_option linter.unusedVariables false
set_option linter.unusedSimpArgs false

/-! ### quorumlaw12_Bare: function 46 (by hand) -/
def quorumlaw12_Bare.f (a0_0 : Int) (a0_1 : Int) (a0_2 : ByteArray) (a0_3 : ByteArray) (a0_4 : ByteArray) (a0_5 : ByteArray) (a0_6 : Bool) (a0_7 : Int) (a0_8 : Bool) : Option (Int × Int × ByteArray × ByteArray × ByteArray × ByteArray × Bool × Int × Bool) :=
  if a0_0 = 6 then none else if a0_0 = 1 ∨ a0_0 = 2 ∨ a0_0 = 5 then some (a0_0, a0_1, a0_2, (⟨#[]⟩ : ByteArray), (⟨#[]⟩ : ByteArray), (⟨#[]⟩ : ByteArray), false, 0, false) else if a0_0 = 3 ∨ a0_0 = 4 then some (a0_0, a0_1, a0_2, a0_3, (⟨#[]⟩ : ByteArray), (⟨#[]⟩ : ByteArray), false, 0, false)
  else if a0_0 = 7 then some (a0_0, a0_1, (⟨#[]⟩ : ByteArray), (⟨#[]⟩ : ByteArray), (⟨#[]⟩ : ByteArray), (⟨#[]⟩ : ByteArray), false, wrap64 (1 + (Go.bits .and .i64 a0_7 1)), false) else if a0_0 = 9 ∨ a0_0 = 10 then some (a0_0, 0, (⟨#[]⟩ : ByteArray), (⟨#[]⟩ : ByteArray), (⟨#[]⟩ : ByteArray), (⟨#[]⟩ : ByteArray), false, a0_7, false) else some (a0_0, 0, (⟨#[]⟩ : ByteArray), (⟨#[]⟩ : ByteArray), (⟨#[]⟩ : ByteArray), (⟨#[]⟩ : ByteArray), false, 0, false)
set_option maxHeartbeats 8000000 in
set_option maxRecDepth 100000 in
theorem quorumlaw12_Bare.calls (a0_0 : Int) (a0_1 : Int) (a0_2 : ByteArray) (a0_3 : ByteArray) (a0_4 : ByteArray) (a0_5 : ByteArray) (a0_6 : Bool) (a0_7 : Int) (a0_8 : Bool) (r1 : Int) (r2 : Int) (r3 : ByteArray) (r4 : ByteArray) (r5 : ByteArray) (r6 : ByteArray) (r7 : Bool) (r8 : Int) (r9 : Bool) (w : World) (h : quorumlaw12_Bare.f a0_0 a0_1 a0_2 a0_3 a0_4 a0_5 a0_6 a0_7 a0_8 = some (r1, r2, r3, r4, r5, r6, r7, r8, r9)) :
    Calls Try.prog 46 #[.agg #[.int .i64 a0_0, .int .i64 a0_1, .string a0_2, .string a0_3, .string a0_4, .string a0_5, .bool a0_6, .int .i64 a0_7, .bool a0_8]] w fun e w' => e = .returned (.agg #[.int .i64 r1, .int .i64 r2, .string r3, .string r4, .string r5, .string r6, .bool r7, .int .i64 r8, .bool r9]) ∧ Below w.heap.size w w' := by
  unfold quorumlaw12_Bare.f at h
  by_cases h6 : a0_0 = 6
  · rw [if_pos h6] at h; cases h
  rw [if_neg h6] at h
  have HB := mk0 (Below.refl w.heap.size w)
  have hb : ∀ o1 o2 o3 : Obj, (((w.alloc o1).alloc o2).alloc o3).heap[w.heap.size + 1]? = some o2 := fun o1 o2 o3 => by
    have h := bA_ (heap_alloc_new (w.alloc o1) o2) o3
    simpa using h
  by_cases hin : 1 ≤ a0_0 ∧ a0_0 ≤ 12
  · have hcl : a0_0 = 1 ∨ a0_0 = 2 ∨ a0_0 = 3 ∨ a0_0 = 4 ∨ a0_0 = 5 ∨ a0_0 = 7 ∨ a0_0 = 8 ∨ a0_0 = 9 ∨ a0_0 = 10 ∨ a0_0 = 11 ∨ a0_0 = 12 := by omega
    rcases hcl with rfl | rfl | rfl | rfl | rfl | rfl | rfl | rfl | rfl | rfl | rfl
    · simp (decide := true) only [if_pos, if_neg, Option.some.injEq, Prod.mk.injEq] at h
      obtain ⟨rfl, rfl, rfl, rfl, rfl, rfl, rfl, rfl, rfl⟩ := h
      go_enter Try.func46, Try.ntmps46
      go_wp2
      go_region
      go_wp2
      refine bodyPost_ret (results_cell_row rfl _ _ (w.heap.size + 1) 101 _ (0, 0) _ rfl (by first | exact bD_ (hb _ _ _) | exact hb _ _ _) Try.underlying101 rfl (by kernel_rfl)) rfl ?_
      exact ⟨rfl, by repeat (first | (with_reducible first | exact HB.out | apply bL_ | apply pN_ | apply b1_) | exact HB.out)⟩
    · simp (decide := true) only [if_pos, if_neg, Option.some.injEq, Prod.mk.injEq] at h
      obtain ⟨rfl, rfl, rfl, rfl, rfl, rfl, rfl, rfl, rfl⟩ := h
      go_enter Try.func46, Try.ntmps46
      go_wp2
      go_region
      go_wp2
      refine bodyPost_ret (results_cell_row rfl _ _ (w.heap.size + 1) 101 _ (0, 0) _ rfl (by first | exact bD_ (hb _ _ _) | exact hb _ _ _) Try.underlying101 rfl (by kernel_rfl)) rfl ?_
      exact ⟨rfl, by repeat (first | (with_reducible first | exact HB.out | apply bL_ | apply pN_ | apply b1_) | exact HB.out)⟩
    · simp (decide := true) only [if_pos, if_neg, Option.some.injEq, Prod.mk.injEq] at h
      obtain ⟨rfl, rfl, rfl, rfl, rfl, rfl, rfl, rfl, rfl⟩ := h
      go_enter Try.func46, Try.ntmps46
      go_wp2
      go_region
      go_wp2
      refine bodyPost_ret (results_cell_row rfl _ _ (w.heap.size + 1) 101 _ (0, 0) _ rfl (by first | exact bD_ (hb _ _ _) | exact hb _ _ _) Try.underlying101 rfl (by kernel_rfl)) rfl ?_
      exact ⟨rfl, by repeat (first | (with_reducible first | exact HB.out | apply bL_ | apply pN_ | apply b1_) | exact HB.out)⟩
    · simp (decide := true) only [if_pos, if_neg, Option.some.injEq, Prod.mk.injEq] at h
      obtain ⟨rfl, rfl, rfl, rfl, rfl, rfl, rfl, rfl, rfl⟩ := h
      go_enter Try.func46, Try.ntmps46
      go_wp2
      go_region
      go_wp2
      refine bodyPost_ret (results_cell_row rfl _ _ (w.heap.size + 1) 101 _ (0, 0) _ rfl (by first | exact bD_ (hb _ _ _) | exact hb _ _ _) Try.underlying101 rfl (by kernel_rfl)) rfl ?_
      exact ⟨rfl, by repeat (first | (with_reducible first | exact HB.out | apply bL_ | apply pN_ | apply b1_) | exact HB.out)⟩
    · simp (decide := true) only [if_pos, if_neg, Option.some.injEq, Prod.mk.injEq] at h
      obtain ⟨rfl, rfl, rfl, rfl, rfl, rfl, rfl, rfl, rfl⟩ := h
      go_enter Try.func46, Try.ntmps46
      go_wp2
      go_region
      go_wp2
      refine bodyPost_ret (results_cell_row rfl _ _ (w.heap.size + 1) 101 _ (0, 0) _ rfl (by first | exact bD_ (hb _ _ _) | exact hb _ _ _) Try.underlying101 rfl (by kernel_rfl)) rfl ?_
      exact ⟨rfl, by repeat (first | (with_reducible first | exact HB.out | apply bL_ | apply pN_ | apply b1_) | exact HB.out)⟩
    · simp (decide := true) only [if_pos, if_neg, Option.some.injEq, Prod.mk.injEq] at h
      obtain ⟨rfl, rfl, rfl, rfl, rfl, rfl, rfl, rfl, rfl⟩ := h
      go_enter Try.func46, Try.ntmps46
      go_wp2
      go_region
      go_wp2
      refine bodyPost_ret (results_cell_row rfl _ _ (w.heap.size + 1) 101 _ (0, 0) _ rfl (by first | exact bD_ (hb _ _ _) | exact hb _ _ _) Try.underlying101 rfl (by kernel_rfl)) rfl ?_
      exact ⟨rfl, by repeat (first | (with_reducible first | exact HB.out | apply bL_ | apply pN_ | apply b1_) | exact HB.out)⟩
    · simp (decide := true) only [if_pos, if_neg, Option.some.injEq, Prod.mk.injEq] at h
      obtain ⟨rfl, rfl, rfl, rfl, rfl, rfl, rfl, rfl, rfl⟩ := h
      go_enter Try.func46, Try.ntmps46
      go_wp2
      refine bodyPost_ret (results_cell_row rfl _ _ (w.heap.size + 1) 101 _ (0, 0) _ rfl (by first | exact bD_ (hb _ _ _) | exact hb _ _ _) Try.underlying101 rfl (by kernel_rfl)) rfl ?_
      exact ⟨rfl, by repeat (first | (with_reducible first | exact HB.out | apply bL_ | apply pN_ | apply b1_) | exact HB.out)⟩
    · simp (decide := true) only [if_pos, if_neg, Option.some.injEq, Prod.mk.injEq] at h
      obtain ⟨rfl, rfl, rfl, rfl, rfl, rfl, rfl, rfl, rfl⟩ := h
      go_enter Try.func46, Try.ntmps46
      go_wp2
      refine bodyPost_ret (results_cell_row rfl _ _ (w.heap.size + 1) 101 _ (0, 0) _ rfl (by first | exact bD_ (hb _ _ _) | exact hb _ _ _) Try.underlying101 rfl (by kernel_rfl)) rfl ?_
      exact ⟨rfl, by repeat (first | (with_reducible first | exact HB.out | apply bL_ | apply pN_ | apply b1_) | exact HB.out)⟩
    · simp (decide := true) only [if_pos, if_neg, Option.some.injEq, Prod.mk.injEq] at h
      obtain ⟨rfl, rfl, rfl, rfl, rfl, rfl, rfl, rfl, rfl⟩ := h
      go_enter Try.func46, Try.ntmps46
      go_wp2
      refine bodyPost_ret (results_cell_row rfl _ _ (w.heap.size + 1) 101 _ (0, 0) _ rfl (by first | exact bD_ (hb _ _ _) | exact hb _ _ _) Try.underlying101 rfl (by kernel_rfl)) rfl ?_
      exact ⟨rfl, by repeat (first | (with_reducible first | exact HB.out | apply bL_ | apply pN_ | apply b1_) | exact HB.out)⟩
    · simp (decide := true) only [if_pos, if_neg, Option.some.injEq, Prod.mk.injEq] at h
      obtain ⟨rfl, rfl, rfl, rfl, rfl, rfl, rfl, rfl, rfl⟩ := h
      go_enter Try.func46, Try.ntmps46
      go_wp2
      refine bodyPost_ret (results_cell_row rfl _ _ (w.heap.size + 1) 101 _ (0, 0) _ rfl (by first | exact bD_ (hb _ _ _) | exact hb _ _ _) Try.underlying101 rfl (by kernel_rfl)) rfl ?_
      exact ⟨rfl, by repeat (first | (with_reducible first | exact HB.out | apply bL_ | apply pN_ | apply b1_) | exact HB.out)⟩
    · simp (decide := true) only [if_pos, if_neg, Option.some.injEq, Prod.mk.injEq] at h
      obtain ⟨rfl, rfl, rfl, rfl, rfl, rfl, rfl, rfl, rfl⟩ := h
      go_enter Try.func46, Try.ntmps46
      go_wp2
      refine bodyPost_ret (results_cell_row rfl _ _ (w.heap.size + 1) 101 _ (0, 0) _ rfl (by first | exact bD_ (hb _ _ _) | exact hb _ _ _) Try.underlying101 rfl (by kernel_rfl)) rfl ?_
      exact ⟨rfl, by repeat (first | (with_reducible first | exact HB.out | apply bL_ | apply pN_ | apply b1_) | exact HB.out)⟩
  · rw [if_neg (by omega), if_neg (by omega), if_neg (by omega), if_neg (by omega)] at h
    simp only [Option.some.injEq, Prod.mk.injEq] at h
    obtain ⟨rfl, rfl, rfl, rfl, rfl, rfl, rfl, rfl, rfl⟩ := h
    have k1 : (a0_0 == 1) = false := beq_eq_false_iff_ne.2 (by omega)
    have k2 : (a0_0 == 2) = false := beq_eq_false_iff_ne.2 (by omega)
    have k3 : (a0_0 == 3) = false := beq_eq_false_iff_ne.2 (by omega)
    have k4 : (a0_0 == 4) = false := beq_eq_false_iff_ne.2 (by omega)
    have k5 : (a0_0 == 5) = false := beq_eq_false_iff_ne.2 (by omega)
    have k6 : (a0_0 == 6) = false := beq_eq_false_iff_ne.2 (by omega)
    have k7 : (a0_0 == 7) = false := beq_eq_false_iff_ne.2 (by omega)
    have k9 : (a0_0 == 9) = false := beq_eq_false_iff_ne.2 (by omega)
    have k10 : (a0_0 == 10) = false := beq_eq_false_iff_ne.2 (by omega)
    go_enter Try.func46, Try.ntmps46
    go_wp2
    refine bodyPost_ret (results_cell_row rfl _ _ (w.heap.size + 1) 101 _ (0, 0) _ rfl (by first | exact bD_ (hb _ _ _) | exact hb _ _ _) Try.underlying101 rfl (by kernel_rfl)) rfl ?_
    exact ⟨rfl, by repeat (first | (with_reducible first | exact HB.out | apply bL_ | apply pN_ | apply b1_) | exact HB.out)⟩


/-! ### quorumref0_Num: function 39 -/
def quorumref0_Num.f (a0 : Int) (a1 : Int) : Option (Bool) := if a0 ≥ 0 then (some (decide (a0 ≤ a1))) else (some false)
set_option maxHeartbeats 8000000 in
set_option maxRecDepth 100000 in
theorem quorumref0_Num.calls (a0 : Int) (a1 : Int) (r : Bool) (w : World) (h : quorumref0_Num.f a0 a1 = some r) :
  Calls Try.prog 39 #[.int .i64 a0, .int .i64 a1] w fun e w' => e = .returned (.bool r) ∧ Drawn0 w w' := by
 have H : (if a0 ≥ 0 then (some (decide (a0 ≤ a1))) else (some false)) = some r := h
 clear h
 by_cases c3 : a0 ≥ 0
 ·rw [if_pos c3] at H
  have c3b0 : decide (0 ≤ a0) = true := decide_eq_true c3
  clear c3
  obtain rfl := Option.some.inj H
  go_enter Try.func39, Try.ntmps39
  go_wp2
  go_ret
  exact ⟨by first | rfl | (simp; done) | (simp [*]; done), by repeat (first | exact Drawn0.refl _ | apply Drawn0.step)⟩
 ·rw [if_neg c3] at H
  have c3b0 : decide (0 ≤ a0) = false := decide_eq_false c3
  clear c3
  obtain rfl := Option.some.inj H
  go_enter Try.func39, Try.ntmps39
  go_wp2
  go_ret
  exact ⟨by first | rfl | (simp; done) | (simp [*]; done), by repeat (first | exact Drawn0.refl _ | apply Drawn0.step)⟩

/-! ### quorumref0_Between: function 102 -/
def quorumref0_Between.f (a0 : Int) (a1 : Int) (a2 : Int) : Option (Bool) := if a0 ≥ a1 then (some (decide (a0 ≤ a2))) else (some false)
set_option maxHeartbeats 8000000 in
set_option maxRecDepth 100000 in
theorem quorumref0_Between.calls (a0 : Int) (a1 : Int) (a2 : Int) (r : Bool) (w : World) (h : quorumref0_Between.f a0 a1 a2 = some r) :
  Calls Try.prog 102 #[.int .i64 a0, .int .i64 a1, .int .i64 a2] w fun e w' => e = .returned (.bool r) ∧ Drawn0 w w' := by
 have H : (if a0 ≥ a1 then (some (decide (a0 ≤ a2))) else (some false)) = some r := h
 clear h
 by_cases c4 : a0 ≥ a1
 ·rw [if_pos c4] at H
  have c4b0 : decide (a1 ≤ a0) = true := decide_eq_true c4
  clear c4
  obtain rfl := Option.some.inj H
  go_enter Try.func102, Try.ntmps102
  go_wp2
  go_ret
  exact ⟨by first | rfl | (simp; done) | (simp [*]; done), by repeat (first | exact Drawn0.refl _ | apply Drawn0.step)⟩
 ·rw [if_neg c4] at H
  have c4b0 : decide (a1 ≤ a0) = false := decide_eq_false c4
  clear c4
  obtain rfl := Option.some.inj H
  go_enter Try.func102, Try.ntmps102
  go_wp2
  go_ret
  exact ⟨by first | rfl | (simp; done) | (simp [*]; done), by repeat (first | exact Drawn0.refl _ | apply Drawn0.step)⟩

/-! ### quorumref1_Key: function 62 -/
def quorumref1_Key.f (a0 : ByteArray) : Option (Bool) := (quorumref0_Between.f (a0.size : Int) 1 12).bind fun t101 => (some t101)
set_option maxHeartbeats 8000000 in
set_option maxRecDepth 100000 in
theorem quorumref1_Key.calls (a0 : ByteArray) (r : Bool) (w : World) (h : quorumref1_Key.f a0 = some r) :
  Calls Try.prog 62 #[.string a0] w fun e w' => e = .returned (.bool r) ∧ Drawn0 w w' := by
 have H : ((quorumref0_Between.f (a0.size : Int) 1 12).bind fun t101 => (some t101)) = some r := h
 clear h
 replace H := Option.bind_eq_some_iff.mp H
 obtain ⟨t101, A20, H⟩ := H
 try dsimp only at H
 have A2 := mk0 A20
 clear A20
 obtain rfl := Option.some.inj H
 go_enter Try.func62, Try.ntmps62
 go_wp2_with (first | ((with_reducible refine gate_callee (f := 102) rfl ?_); refine gL_ (some 5) Try.func102 #[.int .i64 (a0.size : Int), .int .i64 1, .int .i64 12] (h := ?_); (with_reducible refine (quorumref0_Between.calls (a0.size : Int) 1 12 t101 _ A2.out).mono ?_); rintro e w' ⟨rfl, ⟨nd, rfl⟩⟩; refine ⟨_, rfl, ?_⟩))
 go_ret
 exact ⟨by first | rfl | (simp; done) | (simp [*]; done), by repeat (first | exact Drawn0.refl _ | apply Drawn0.step)⟩

/-! ### quorumref1_Value: function 93 -/
def quorumref1_Value.f (a0 : ByteArray) : Option (Bool) := some (decide ((a0.size : Int) ≤ 20))
set_option maxHeartbeats 8000000 in
set_option maxRecDepth 100000 in
theorem quorumref1_Value.calls (a0 : ByteArray) (r : Bool) (w : World) (h : quorumref1_Value.f a0 = some r) :
  Calls Try.prog 93 #[.string a0] w fun e w' => e = .returned (.bool r) ∧ Drawn0 w w' := by
 have H : (some (decide ((a0.size : Int) ≤ 20))) = some r := h
 clear h
 obtain rfl := Option.some.inj H
 go_enter Try.func93, Try.ntmps93
 go_wp2
 go_ret
 exact ⟨by first | rfl | (simp; done) | (simp [*]; done), by repeat (first | exact Drawn0.refl _ | apply Drawn0.step)⟩

/-! ### quorumref8_Write: function 38 -/
def quorumref8_Write.f (a0_0 : Int) (a0_1 : ByteArray) (a0_2 : ByteArray) (a0_3 : Bool) : Option (Bool) := (quorumref0_Num.f a0_0 2).bind fun t103 => (if t103 = true then ((quorumref1_Key.f a0_1).bind fun t104 => (if t104 = true then ((quorumref1_Value.f a0_2).bind fun t105 => (if t105 = true then (if a0_3 = true then (some (a0_2.toList == ([] : List UInt8))) else (some true)) else (some false))) else (some false))) else (some false))
set_option maxHeartbeats 8000000 in
set_option maxRecDepth 100000 in
theorem quorumref8_Write.calls (a0_0 : Int) (a0_1 : ByteArray) (a0_2 : ByteArray) (a0_3 : Bool) (r : Bool) (w : World) (h : quorumref8_Write.f a0_0 a0_1 a0_2 a0_3 = some r) :
  Calls Try.prog 38 #[.agg #[.int .i64 a0_0, .string a0_1, .string a0_2, .bool a0_3]] w fun e w' => e = .returned (.bool r) ∧ Below w.heap.size w w' := by
 have hu36 := Try.underlying36
 have HB := mk0 (Below.refl w.heap.size w)
 have H : ((quorumref0_Num.f a0_0 2).bind fun t103 => (if t103 = true then ((quorumref1_Key.f a0_1).bind fun t104 => (if t104 = true then ((quorumref1_Value.f a0_2).bind fun t105 => (if t105 = true then (if a0_3 = true then (some (a0_2.toList == ([] : List UInt8))) else (some true)) else (some false))) else (some false))) else (some false))) = some r := h
 clear h
 replace H := Option.bind_eq_some_iff.mp H
 obtain ⟨t103, A20, H⟩ := H
 try dsimp only at H
 have A2 := mk0 A20
 clear A20
 by_cases c3 : t103 = true
 ·subst c3
  rw [if_pos rfl] at H
  replace H := Option.bind_eq_some_iff.mp H
  obtain ⟨t104, A40, H⟩ := H
  try dsimp only at H
  have A4 := mk0 A40
  clear A40
  by_cases c5 : t104 = true
  ·subst c5
   rw [if_pos rfl] at H
   replace H := Option.bind_eq_some_iff.mp H
   obtain ⟨t105, A60, H⟩ := H
   try dsimp only at H
   have A6 := mk0 A60
   clear A60
   by_cases c7 : t105 = true
   ·subst c7
    rw [if_pos rfl] at H
    by_cases c8 : a0_3 = true
    ·subst c8
     rw [if_pos rfl] at H
     obtain rfl := Option.some.inj H
     go_enter Try.func38, Try.ntmps38
     go_wp2_with (first | ((with_reducible refine gate_dst (N := 1) rfl ?_); refine bx_ (N := 1) (cs := #[.int .i64 a0_0, .string a0_1, .string a0_2, .bool true]) (t := 36) (h := ?_); intro gb102 hg w9 hbox hb; have n2_ := mk0 (gz_ HB hg); have n3_ := mk0 (gz_ HB hg); replace HB := mk0 (bt_ (b_ HB) hb); have BK102 := mk0 (hbox); have GW102 := n2_; have GE102 := n3_; clear n2_ n3_ hb hbox hg; obtain ⟨hcz10_0, hcz10_1, hcz10_2, hcz10_3, hfz10_0, hfz10_1, hfz10_2, hfz10_3⟩ := c4_ BK102) | ((with_reducible refine gate_callee (f := 39) rfl ?_); refine gL_ (some 5) Try.func39 #[.int .i64 a0_0, .int .i64 2] (h := ?_); (with_reducible refine (quorumref0_Num.calls a0_0 2 true _ A2.out).mono ?_); rintro e w' ⟨rfl, ⟨nd, rfl⟩⟩; refine ⟨_, rfl, ?_⟩) | (go_at_call 62; (with_reducible refine (quorumref1_Key.calls a0_1 true _ A4.out).mono ?_); rintro e w' ⟨rfl, ⟨nd, rfl⟩⟩) | (go_at_call 93; (with_reducible refine (quorumref1_Value.calls a0_2 true _ A6.out).mono ?_); rintro e w' ⟨rfl, ⟨nd, rfl⟩⟩))
     go_ret
     exact ⟨by first | rfl | (simp [errW_none, errW_some] <;> rfl) | (simp [*, errW_none, errW_some] <;> rfl), b_ HB⟩
    ·replace c8 := Bool.eq_false_iff.mpr c8
     subst c8
     rw [if_neg (show ¬ (false = true) by decide)] at H
     obtain rfl := Option.some.inj H
     go_enter Try.func38, Try.ntmps38
     go_wp2_with (first | ((with_reducible refine gate_dst (N := 1) rfl ?_); refine bx_ (N := 1) (cs := #[.int .i64 a0_0, .string a0_1, .string a0_2, .bool false]) (t := 36) (h := ?_); intro gb102 hg w11 hbox hb; have n2_ := mk0 (gz_ HB hg); have n3_ := mk0 (gz_ HB hg); replace HB := mk0 (bt_ (b_ HB) hb); have BK102 := mk0 (hbox); have GW102 := n2_; have GE102 := n3_; clear n2_ n3_ hb hbox hg; obtain ⟨hcz12_0, hcz12_1, hcz12_2, hcz12_3, hfz12_0, hfz12_1, hfz12_2, hfz12_3⟩ := c4_ BK102) | ((with_reducible refine gate_callee (f := 39) rfl ?_); refine gL_ (some 5) Try.func39 #[.int .i64 a0_0, .int .i64 2] (h := ?_); (with_reducible refine (quorumref0_Num.calls a0_0 2 true _ A2.out).mono ?_); rintro e w' ⟨rfl, ⟨nd, rfl⟩⟩; refine ⟨_, rfl, ?_⟩) | (go_at_call 62; (with_reducible refine (quorumref1_Key.calls a0_1 true _ A4.out).mono ?_); rintro e w' ⟨rfl, ⟨nd, rfl⟩⟩) | (go_at_call 93; (with_reducible refine (quorumref1_Value.calls a0_2 true _ A6.out).mono ?_); rintro e w' ⟨rfl, ⟨nd, rfl⟩⟩))
     go_ret
     exact ⟨by first | rfl | (simp [errW_none, errW_some] <;> rfl) | (simp [*, errW_none, errW_some] <;> rfl), b_ HB⟩
   ·replace c7 := Bool.eq_false_iff.mpr c7
    subst c7
    rw [if_neg (show ¬ (false = true) by decide)] at H
    obtain rfl := Option.some.inj H
    go_enter Try.func38, Try.ntmps38
    go_wp2_with (first | ((with_reducible refine gate_dst (N := 1) rfl ?_); refine bx_ (N := 1) (cs := #[.int .i64 a0_0, .string a0_1, .string a0_2, .bool a0_3]) (t := 36) (h := ?_); intro gb102 hg w13 hbox hb; have n2_ := mk0 (gz_ HB hg); have n3_ := mk0 (gz_ HB hg); replace HB := mk0 (bt_ (b_ HB) hb); have BK102 := mk0 (hbox); have GW102 := n2_; have GE102 := n3_; clear n2_ n3_ hb hbox hg; obtain ⟨hcz14_0, hcz14_1, hcz14_2, hcz14_3, hfz14_0, hfz14_1, hfz14_2, hfz14_3⟩ := c4_ BK102) | ((with_reducible refine gate_callee (f := 39) rfl ?_); refine gL_ (some 5) Try.func39 #[.int .i64 a0_0, .int .i64 2] (h := ?_); (with_reducible refine (quorumref0_Num.calls a0_0 2 true _ A2.out).mono ?_); rintro e w' ⟨rfl, ⟨nd, rfl⟩⟩; refine ⟨_, rfl, ?_⟩) | (go_at_call 62; (with_reducible refine (quorumref1_Key.calls a0_1 true _ A4.out).mono ?_); rintro e w' ⟨rfl, ⟨nd, rfl⟩⟩) | (go_at_call 93; (with_reducible refine (quorumref1_Value.calls a0_2 false _ A6.out).mono ?_); rintro e w' ⟨rfl, ⟨nd, rfl⟩⟩))
    go_ret
    exact ⟨by first | rfl | (simp [errW_none, errW_some] <;> rfl) | (simp [*, errW_none, errW_some] <;> rfl), b_ HB⟩
  ·replace c5 := Bool.eq_false_iff.mpr c5
   subst c5
   rw [if_neg (show ¬ (false = true) by decide)] at H
   obtain rfl := Option.some.inj H
   go_enter Try.func38, Try.ntmps38
   go_wp2_with (first | ((with_reducible refine gate_dst (N := 1) rfl ?_); refine bx_ (N := 1) (cs := #[.int .i64 a0_0, .string a0_1, .string a0_2, .bool a0_3]) (t := 36) (h := ?_); intro gb102 hg w15 hbox hb; have n2_ := mk0 (gz_ HB hg); have n3_ := mk0 (gz_ HB hg); replace HB := mk0 (bt_ (b_ HB) hb); have BK102 := mk0 (hbox); have GW102 := n2_; have GE102 := n3_; clear n2_ n3_ hb hbox hg; obtain ⟨hcz16_0, hcz16_1, hcz16_2, hcz16_3, hfz16_0, hfz16_1, hfz16_2, hfz16_3⟩ := c4_ BK102) | ((with_reducible refine gate_callee (f := 39) rfl ?_); refine gL_ (some 5) Try.func39 #[.int .i64 a0_0, .int .i64 2] (h := ?_); (with_reducible refine (quorumref0_Num.calls a0_0 2 true _ A2.out).mono ?_); rintro e w' ⟨rfl, ⟨nd, rfl⟩⟩; refine ⟨_, rfl, ?_⟩) | (go_at_call 62; (with_reducible refine (quorumref1_Key.calls a0_1 false _ A4.out).mono ?_); rintro e w' ⟨rfl, ⟨nd, rfl⟩⟩))
   go_ret
   exact ⟨by first | rfl | (simp [errW_none, errW_some] <;> rfl) | (simp [*, errW_none, errW_some] <;> rfl), b_ HB⟩
 ·replace c3 := Bool.eq_false_iff.mpr c3
  subst c3
  rw [if_neg (show ¬ (false = true) by decide)] at H
  obtain rfl := Option.some.inj H
  go_enter Try.func38, Try.ntmps38
  go_wp2_with (first | ((with_reducible refine gate_dst (N := 1) rfl ?_); refine bx_ (N := 1) (cs := #[.int .i64 a0_0, .string a0_1, .string a0_2, .bool a0_3]) (t := 36) (h := ?_); intro gb102 hg w17 hbox hb; have n2_ := mk0 (gz_ HB hg); have n3_ := mk0 (gz_ HB hg); replace HB := mk0 (bt_ (b_ HB) hb); have BK102 := mk0 (hbox); have GW102 := n2_; have GE102 := n3_; clear n2_ n3_ hb hbox hg; obtain ⟨hcz18_0, hcz18_1, hcz18_2, hcz18_3, hfz18_0, hfz18_1, hfz18_2, hfz18_3⟩ := c4_ BK102) | ((with_reducible refine gate_callee (f := 39) rfl ?_); refine gL_ (some 5) Try.func39 #[.int .i64 a0_0, .int .i64 2] (h := ?_); (with_reducible refine (quorumref0_Num.calls a0_0 2 false _ A2.out).mono ?_); rintro e w' ⟨rfl, ⟨nd, rfl⟩⟩; refine ⟨_, rfl, ?_⟩))
  go_ret
  exact ⟨by first | rfl | (simp [errW_none, errW_some] <;> rfl) | (simp [*, errW_none, errW_some] <;> rfl), b_ HB⟩

/-! ### quorumref8_Pend: function 16 -/
mutual
def quorumref8_Pend.j0 : Nat → Bool → List (S36) → List Int → Option (Bool)
 | 0, _, _, _ => none
 | k + 1, x14, x107000, x107001 => if x14 = true then (some false) else (quorumref8_Pend.l0 k 0 x107000 x107001)
def quorumref8_Pend.l0 : Nat → Int → List (S36) → List Int → Option (Bool)
 | 0, _, _, _ => none
 | k + 1, x3, x107000, x107001 => if x3 < (x107000.length : Int) then (if 0 ≤ x3 then ((quorumref8_Write.f ((rd_T36 x107000 x3).f0) ((rd_T36 x107000 x3).f1) ((rd_T36 x107000 x3).f2) ((rd_T36 x107000 x3).f3)).bind fun t108 => (if t108 = true then (quorumref8_Pend.l0 k (wrap64 (x3 + 1)) x107000 x107001) else (some false))) else (none)) else (quorumref8_Pend.l1 k 0 x107000 x107001)
def quorumref8_Pend.l1 : Nat → Int → List (S36) → List Int → Option (Bool)
 | 0, _, _, _ => none
 | k + 1, x4, x107000, x107001 => if x4 < (x107001.length : Int) then (if 0 ≤ x4 then ((quorumref0_Num.f (rd x107001 x4) (x107000.length : Int)).bind fun t110 => (if t110 = true then (if x4 > 0 then (if 0 ≤ (wrap64 (x4 - 1)) then (if (wrap64 (x4 - 1)) < (x107001.length : Int) then (quorumref8_Pend.j3 k x4 (decide ((rd x107001 (wrap64 (x4 - 1))) > (rd x107001 x4))) x107000 x107001) else (none)) else (none)) else (quorumref8_Pend.j3 k x4 false x107000 x107001)) else (quorumref8_Pend.j3 k x4 true x107000 x107001))) else (none)) else (some true)
def quorumref8_Pend.j3 : Nat → Int → Bool → List (S36) → List Int → Option (Bool)
 | 0, _, _, _, _ => none
 | k + 1, x4, x63, x107000, x107001 => if x63 = true then (some false) else (quorumref8_Pend.l1 k (wrap64 (x4 + 1)) x107000 x107001)
end
def quorumref8_Pend.f (k : Nat) (l0_0 : List (S36)) (l0_1 : List Int) : Option (Bool) := if (l0_0.length : Int) > 12 then (quorumref8_Pend.j0 k true l0_0 l0_1) else (quorumref8_Pend.j0 k (decide ((l0_1.length : Int) > 6)) l0_0 l0_1)
theorem quorumref8_Pend.mono_l : ∀ k, (∀ y0 y1 y2, LeO (quorumref8_Pend.j0 k y0 y1 y2) (quorumref8_Pend.j0 (k + 1) y0 y1 y2)) ∧ (∀ y0 y1 y2, LeO (quorumref8_Pend.l0 k y0 y1 y2) (quorumref8_Pend.l0 (k + 1) y0 y1 y2)) ∧ (∀ y0 y1 y2, LeO (quorumref8_Pend.l1 k y0 y1 y2) (quorumref8_Pend.l1 (k + 1) y0 y1 y2)) ∧ (∀ y0 y1 y2 y3, LeO (quorumref8_Pend.j3 k y0 y1 y2 y3) (quorumref8_Pend.j3 (k + 1) y0 y1 y2 y3))
 | 0 => ⟨fun _ _ _ r h => by simp [quorumref8_Pend.j0] at h, fun _ _ _ r h => by simp [quorumref8_Pend.l0] at h, fun _ _ _ r h => by simp [quorumref8_Pend.l1] at h, fun _ _ _ _ r h => by simp [quorumref8_Pend.j3] at h⟩
 | k + 1 => by
  obtain ⟨ih0, ih1, ih2, ih3⟩ := quorumref8_Pend.mono_l k
  refine ⟨?_, ?_, ?_, ?_⟩
  ·intro y0 y1 y2
   unfold quorumref8_Pend.j0
   repeat' first
   | (with_reducible exact ih0 _ _ _)
   | (with_reducible exact ih1 _ _ _)
   | (with_reducible exact ih2 _ _ _)
   | (with_reducible exact ih3 _ _ _ _)
   | (with_reducible exact LeO.refl _)
   | (with_reducible exact LeO.none _)
   | (with_reducible refine LeO.ite ?_ ?_)
   | (with_reducible refine LeO.bind ?_ (fun _ => ?_))
   | exact ih0 _ _ _
   | exact ih1 _ _ _
   | exact ih2 _ _ _
   | exact ih3 _ _ _ _
   | exact LeO.none _
   | refine LeO.ite ?_ ?_
   | refine LeO.bind ?_ (fun _ => ?_)
  ·intro y0 y1 y2
   unfold quorumref8_Pend.l0
   repeat' first
   | (with_reducible exact ih0 _ _ _)
   | (with_reducible exact ih1 _ _ _)
   | (with_reducible exact ih2 _ _ _)
   | (with_reducible exact ih3 _ _ _ _)
   | (with_reducible exact LeO.refl _)
   | (with_reducible exact LeO.none _)
   | (with_reducible refine LeO.ite ?_ ?_)
   | (with_reducible refine LeO.bind ?_ (fun _ => ?_))
   | exact ih0 _ _ _
   | exact ih1 _ _ _
   | exact ih2 _ _ _
   | exact ih3 _ _ _ _
   | exact LeO.none _
   | refine LeO.ite ?_ ?_
   | refine LeO.bind ?_ (fun _ => ?_)
  ·intro y0 y1 y2
   unfold quorumref8_Pend.l1
   repeat' first
   | (with_reducible exact ih0 _ _ _)
   | (with_reducible exact ih1 _ _ _)
   | (with_reducible exact ih2 _ _ _)
   | (with_reducible exact ih3 _ _ _ _)
   | (with_reducible exact LeO.refl _)
   | (with_reducible exact LeO.none _)
   | (with_reducible refine LeO.ite ?_ ?_)
   | (with_reducible refine LeO.bind ?_ (fun _ => ?_))
   | exact ih0 _ _ _
   | exact ih1 _ _ _
   | exact ih2 _ _ _
   | exact ih3 _ _ _ _
   | exact LeO.none _
   | refine LeO.ite ?_ ?_
   | refine LeO.bind ?_ (fun _ => ?_)
  ·intro y0 y1 y2 y3
   unfold quorumref8_Pend.j3
   repeat' first
   | (with_reducible exact ih0 _ _ _)
   | (with_reducible exact ih1 _ _ _)
   | (with_reducible exact ih2 _ _ _)
   | (with_reducible exact ih3 _ _ _ _)
   | (with_reducible exact LeO.refl _)
   | (with_reducible exact LeO.none _)
   | (with_reducible refine LeO.ite ?_ ?_)
   | (with_reducible refine LeO.bind ?_ (fun _ => ?_))
   | exact ih0 _ _ _
   | exact ih1 _ _ _
   | exact ih2 _ _ _
   | exact ih3 _ _ _ _
   | exact LeO.none _
   | refine LeO.ite ?_ ?_
   | refine LeO.bind ?_ (fun _ => ?_)
theorem quorumref8_Pend.mono : ∀ a0 a1 k, LeO (quorumref8_Pend.f k a0 a1) (quorumref8_Pend.f (k + 1) a0 a1) := by
 intro a0 a1 k
 obtain ⟨ih0, ih1, ih2, ih3⟩ := quorumref8_Pend.mono_l k
 unfold quorumref8_Pend.f
 repeat' first
   | (with_reducible exact ih0 _ _ _)
   | (with_reducible exact ih1 _ _ _)
   | (with_reducible exact ih2 _ _ _)
   | (with_reducible exact ih3 _ _ _ _)
   | (with_reducible exact LeO.refl _)
   | (with_reducible exact LeO.none _)
   | (with_reducible refine LeO.ite ?_ ?_)
   | (with_reducible refine LeO.bind ?_ (fun _ => ?_))
   | exact ih0 _ _ _
   | exact ih1 _ _ _
   | exact ih2 _ _ _
   | exact ih3 _ _ _ _
   | exact LeO.none _
   | refine LeO.ite ?_ ?_
   | refine LeO.bind ?_ (fun _ => ?_)
set_option maxHeartbeats 8000000 in
set_option maxRecDepth 100000 in
theorem quorumref8_Pend.calls (k : Nat) (A0_0 : Option Addr) (c0_0 : Nat) (l0_0 : List (S36)) (A0_1 : Option Addr) (c0_1 : Nat) (l0_1 : List Int) (r : Bool) (w : World) (hr0_0 : Kd.C k36 w A0_0 l0_0.length l0_0) (hc0_0 : l0_0.length ≤ c0_0) (hr0_1 : Kd.C (Kd.int .i64) w A0_1 l0_1.length l0_1) (hc0_1 : l0_1.length ≤ c0_1) (h : quorumref8_Pend.f k l0_0 l0_1 = some r) :
  Calls Try.prog 16 #[.agg #[.slice A0_0 l0_0.length c0_0, .slice A0_1 l0_1.length c0_1]] w fun e w' => e = .returned (.bool r) ∧ Below w.heap.size w w' := by
 have hu34 := Try.underlying34
 have hu36 := Try.underlying36
 have HR0_0 := mk0 hr0_0
 have HC0_0 := mk0 hc0_0
 clear hr0_0 hc0_0
 have HR0_1 := mk0 hr0_1
 have HC0_1 := mk0 hc0_1
 clear hr0_1 hc0_1
 have HB := mk0 (Below.refl w.heap.size w)
 have H : (if (l0_0.length : Int) > 12 then (quorumref8_Pend.j0 k true l0_0 l0_1) else (quorumref8_Pend.j0 k (decide ((l0_1.length : Int) > 6)) l0_0 l0_1)) = some r := h
 clear h
 have HC2 := mk0 H
 clear H
 go_enter Try.func16, Try.ntmps16
 go_upto_region 1 with (first | ((with_reducible refine gate_dst (N := 1) rfl ?_); (try (refine gate_guard (by rfl) ?_; dsimp only)); refine bx_ (N := 1) (cs := #[.slice A0_0 l0_0.length c0_0, .slice A0_1 l0_1.length c0_1]) (t := 34) (h := ?_); intro gb106 hg w3 hbox hb; have n2_ := mk0 (gz_ HB hg); have n3_ := mk0 (gz_ HB hg); replace HB := mk0 (bt_ (b_ HB) hb); have BK106 := mk0 (hbox); have GW106 := n2_; have GE106 := n3_; clear n2_ n3_; clear hb hbox hg))
 repeat (go_quiet (first | ((with_reducible refine gate_dst (N := 1) rfl ?_); (try (refine gate_guard (by rfl) ?_; dsimp only)); refine bx_ (N := 1) (cs := #[.slice A0_0 l0_0.length c0_0, .slice A0_1 l0_1.length c0_1]) (t := 34) (h := ?_); intro gb106 hg w3 hbox hb; have n2_ := mk0 (gz_ HB hg); have n3_ := mk0 (gz_ HB hg); replace HB := mk0 (bt_ (b_ HB) hb); have BK106 := mk0 (hbox); have GW106 := n2_; have GE106 := n3_; clear n2_ n3_; clear hb hbox hg)); go_upto_region 1 with (first | ((with_reducible refine gate_dst (N := 1) rfl ?_); (try (refine gate_guard (by rfl) ?_; dsimp only)); refine bx_ (N := 1) (cs := #[.slice A0_0 l0_0.length c0_0, .slice A0_1 l0_1.length c0_1]) (t := 34) (h := ?_); intro gb106 hg w3 hbox hb; have n2_ := mk0 (gz_ HB hg); have n3_ := mk0 (gz_ HB hg); replace HB := mk0 (bt_ (b_ HB) hb); have BK106 := mk0 (hbox); have GW106 := n2_; have GE106 := n3_; clear n2_ n3_; clear hb hbox hg)))
 (try simp only [Act.put, List.setIfInBounds_toArray, List.set_cons_zero, List.set_cons_succ])
 go_cut [14] (fun v14 wc => ∃ (kq : Nat) (x14_1 : Bool), v14 = .bool x14_1 ∧ Fc (quorumref8_Pend.j0 kq x14_1 l0_0 l0_1 = some r) ∧ Fc (kq ≤ k) ∧ Fc (wc.heap[gb106]? = some (.cells #[(.slice A0_0 l0_0.length c0_0), (.slice A0_1 l0_1.length c0_1)] 34 (0, 0))) ∧ Fc (Below w.heap.size w wc))
 case first =>
  have H := HC2.out
  clear HC2
  by_cases c4 : (l0_0.length : Int) > 12
  ·rw [if_pos c4] at H
   have c4b0 : decide (12 < (l0_0.length : Int)) = true := decide_eq_true c4
   have c4b1 : decide (12 < l0_0.length) = true := decide_eq_true (by omega)
   clear c4
   (first | rw [c4b0] | (simp only [i64_w, i32_w]; rw [c4b0]) | skip)
   have H' := mk0 H
   clear H
   obtain ⟨hcz5_0, hcz5_1, hfz5_0, hfz5_1⟩ := c2_ BK106
   go_wp2
   repeat (go_quiet (fail); try go_wp2)
   go_meet
   case rel => exact ⟨_, (true), (by first | rfl | (simp; done) | (simp [*]; done)), H', ⟨by first | omega | exact Nat.le_refl _⟩, ⟨h_ BK106⟩, ⟨b_ HB⟩⟩
  ·rw [if_neg c4] at H
   have c4b0 : decide (12 < (l0_0.length : Int)) = false := decide_eq_false c4
   have c4b1 : decide (12 < l0_0.length) = false := decide_eq_false (by omega)
   clear c4
   (first | rw [c4b0] | (simp only [i64_w, i32_w]; rw [c4b0]) | skip)
   have H' := mk0 H
   clear H
   obtain ⟨hcz6_0, hcz6_1, hfz6_0, hfz6_1⟩ := c2_ BK106
   go_wp2
   repeat (go_quiet (fail); try go_wp2)
   go_meet
   case rel => exact ⟨_, (decide ((l0_1.length : Int) > 6)), (by first | rfl | (simp; done) | (simp [*]; done)), H', ⟨by first | omega | exact Nat.le_refl _⟩, ⟨h_ BK106⟩, ⟨b_ HB⟩⟩
 case rest =>
  clear HC2
  try clear c4
  try clear c4b0
  try clear c4b1
  try clear hcz5_0
  try clear hcz5_1
  try clear hcz6_0
  try clear hcz6_1
  try clear hfz5_0
  try clear hfz5_1
  try clear hfz6_0
  try clear hfz6_1
  obtain ⟨kq, x14_1, rfl, HA, HJ1, BK106, HB⟩ := hcut
  cases kq with
  | zero => exact absurd HA.out (by simp [quorumref8_Pend.j0])
  | succ kj1 =>
   have H := HA.out
   clear HA
   simp only [quorumref8_Pend.j0] at H
   as_aux_lemma =>
    by_cases c7 : x14_1 = true
    ·subst c7
     rw [if_pos rfl] at H
     obtain rfl := Option.some.inj H
     go_wp2
     repeat (go_quiet (fail); try go_wp2)
     go_ret
     exact ⟨by first | rfl | (simp [errW_none, errW_some] <;> rfl) | (simp [*, errW_none, errW_some] <;> rfl), b_ HB⟩
    ·replace c7 := Bool.eq_false_iff.mpr c7
     subst c7
     rw [if_neg (show ¬ (false = true) by decide)] at H
     have H' := mk0 H
     clear H
     go_wp2
     repeat (go_quiet (fail); try go_wp2)
     go_loopg [3] kj1 (fun kq v3 w' => ∃ (x3_2 : Int), v3 = .int .i64 x3_2 ∧ Fc (quorumref8_Pend.l0 kq x3_2 l0_0 l0_1 = some r) ∧ Fc (kq ≤ kj1) ∧ Fc (w'.heap[gb106]? = some (.cells #[(.slice A0_0 l0_0.length c0_0), (.slice A0_1 l0_1.length c0_1)] 34 (0, 0))) ∧ Fc (Below w.heap.size w w'))
     case atStart => exact ⟨(0), (by first | rfl | (simp; done) | (simp [*]; done)), H', ⟨Nat.le_refl _⟩, ⟨h_ BK106⟩, ⟨b_ HB⟩⟩
     case round =>
      clear H'
      try clear c4
      try clear c4b0
      try clear c4b1
      try clear c7
      try clear hcz5_0
      try clear hcz5_1
      try clear hcz6_0
      try clear hcz6_1
      try clear hfz5_0
      try clear hfz5_1
      try clear hfz6_0
      try clear hfz6_1
      obtain ⟨x3_2, rfl, HA, HK2, BK106, HB⟩ := hrel
      cases gk with
      | zero => exact absurd HA.out (by simp [quorumref8_Pend.l0])
      | succ k2 =>
       have H := HA.out
       clear HA
       simp only [quorumref8_Pend.l0] at H
       as_aux_lemma =>
        by_cases c8 : x3_2 < (l0_0.length : Int)
        ·rw [if_pos c8] at H
         have c8b0 : decide (x3_2 < (l0_0.length : Int)) = true := decide_eq_true c8
         clear c8
         by_cases c9 : 0 ≤ x3_2
         ·rw [if_pos c9] at H
          have c9b0 : decide (0 ≤ x3_2) = true := decide_eq_true c9
          clear c9
          replace H := Option.bind_eq_some_iff.mp H
          obtain ⟨t108, A100, H⟩ := H
          try dsimp only at H
          have A10 := mk0 A100
          clear A100
          by_cases c11 : t108 = true
          ·subst c11
           rw [if_pos rfl] at H
           have H' := mk0 H
           clear H
           obtain ⟨hcz12_0, hcz12_1, hfz12_0, hfz12_1⟩ := c2_ BK106
           have p107 : 0 ≤ (x3_2 : Int) := of_decide_eq_true (by first | (with_reducible assumption) | assumption)
           have q107 : x3_2 < (l0_0.length : Int) := of_decide_eq_true (by first | (with_reducible assumption) | assumption)
           obtain ⟨ad107, e107, hx107_0, hx107_1, hx107_2, hx107_3⟩ := at_T36 HR0_0.out x3_2 p107 q107
           cases e107
           replace hx107_0 := (bc_ HB hx107_0 :)
           replace hx107_1 := (bc_ HB hx107_1 :)
           replace hx107_2 := (bc_ HB hx107_2 :)
           replace hx107_3 := (bc_ HB hx107_3 :)
           replace p107 := eq_true p107
           replace q107 := eq_true q107
           go_wp2_with (first | (go_at_call 38; (with_reducible refine (quorumref8_Write.calls ((rd_T36 l0_0 x3_2).f0) ((rd_T36 l0_0 x3_2).f1) ((rd_T36 l0_0 x3_2).f2) ((rd_T36 l0_0 x3_2).f3) true _ A10.out).mono ?_); rintro e w13 ⟨rfl, hb⟩; replace BK106 := mk0 (u_ BK106 hb); replace HB := mk0 (bt_ (b_ HB) hb); (try clear hb)))
           repeat (go_quiet (first | (go_at_call 38; (with_reducible refine (quorumref8_Write.calls ((rd_T36 l0_0 x3_2).f0) ((rd_T36 l0_0 x3_2).f1) ((rd_T36 l0_0 x3_2).f2) ((rd_T36 l0_0 x3_2).f3) true _ A10.out).mono ?_); rintro e w13 ⟨rfl, hb⟩; replace BK106 := mk0 (u_ BK106 hb); replace HB := mk0 (bt_ (b_ HB) hb); (try clear hb))); try go_wp2_with (first | (go_at_call 38; (with_reducible refine (quorumref8_Write.calls ((rd_T36 l0_0 x3_2).f0) ((rd_T36 l0_0 x3_2).f1) ((rd_T36 l0_0 x3_2).f2) ((rd_T36 l0_0 x3_2).f3) true _ A10.out).mono ?_); rintro e w13 ⟨rfl, hb⟩; replace BK106 := mk0 (u_ BK106 hb); replace HB := mk0 (bt_ (b_ HB) hb); (try clear hb))))
           go_roundg k2
           case measure => have := HJ1.out; have := HK2.out; omega
           case rel => exact ⟨(wrap64 (x3_2 + 1)), (by first | rfl | (simp; done) | (simp [*]; done)), H', ⟨by have := HJ1.out; have := HK2.out; omega⟩, ⟨h_ BK106⟩, ⟨b_ HB⟩⟩
          ·replace c11 := Bool.eq_false_iff.mpr c11
           subst c11
           rw [if_neg (show ¬ (false = true) by decide)] at H
           obtain rfl := Option.some.inj H
           obtain ⟨hcz14_0, hcz14_1, hfz14_0, hfz14_1⟩ := c2_ BK106
           have p107 : 0 ≤ (x3_2 : Int) := of_decide_eq_true (by first | (with_reducible assumption) | assumption)
           have q107 : x3_2 < (l0_0.length : Int) := of_decide_eq_true (by first | (with_reducible assumption) | assumption)
           obtain ⟨ad107, e107, hx107_0, hx107_1, hx107_2, hx107_3⟩ := at_T36 HR0_0.out x3_2 p107 q107
           cases e107
           replace hx107_0 := (bc_ HB hx107_0 :)
           replace hx107_1 := (bc_ HB hx107_1 :)
           replace hx107_2 := (bc_ HB hx107_2 :)
           replace hx107_3 := (bc_ HB hx107_3 :)
           replace p107 := eq_true p107
           replace q107 := eq_true q107
           go_wp2_with (first | (go_at_call 38; (with_reducible refine (quorumref8_Write.calls ((rd_T36 l0_0 x3_2).f0) ((rd_T36 l0_0 x3_2).f1) ((rd_T36 l0_0 x3_2).f2) ((rd_T36 l0_0 x3_2).f3) false _ A10.out).mono ?_); rintro e w15 ⟨rfl, hb⟩; replace BK106 := mk0 (u_ BK106 hb); replace HB := mk0 (bt_ (b_ HB) hb); (try clear hb)))
           repeat (go_quiet (first | (go_at_call 38; (with_reducible refine (quorumref8_Write.calls ((rd_T36 l0_0 x3_2).f0) ((rd_T36 l0_0 x3_2).f1) ((rd_T36 l0_0 x3_2).f2) ((rd_T36 l0_0 x3_2).f3) false _ A10.out).mono ?_); rintro e w15 ⟨rfl, hb⟩; replace BK106 := mk0 (u_ BK106 hb); replace HB := mk0 (bt_ (b_ HB) hb); (try clear hb))); try go_wp2_with (first | (go_at_call 38; (with_reducible refine (quorumref8_Write.calls ((rd_T36 l0_0 x3_2).f0) ((rd_T36 l0_0 x3_2).f1) ((rd_T36 l0_0 x3_2).f2) ((rd_T36 l0_0 x3_2).f3) false _ A10.out).mono ?_); rintro e w15 ⟨rfl, hb⟩; replace BK106 := mk0 (u_ BK106 hb); replace HB := mk0 (bt_ (b_ HB) hb); (try clear hb))))
           go_ret
           exact ⟨by first | rfl | (simp [errW_none, errW_some] <;> rfl) | (simp [*, errW_none, errW_some] <;> rfl), b_ HB⟩
         ·rw [if_neg c9] at H
          exact absurd H (by simp)
        ·rw [if_neg c8] at H
         have c8b0 : decide (x3_2 < (l0_0.length : Int)) = false := decide_eq_false c8
         clear c8
         have H' := mk0 H
         clear H
         obtain ⟨hcz16_0, hcz16_1, hfz16_0, hfz16_1⟩ := c2_ BK106
         go_wp2
         repeat (go_quiet (fail); try go_wp2)
         go_loopg [4] k2 (fun kq v4 w' => ∃ (x4_3 : Int), v4 = .int .i64 x4_3 ∧ Fc (quorumref8_Pend.l1 kq x4_3 l0_0 l0_1 = some r) ∧ Fc (kq ≤ k2) ∧ Fc (w'.heap[gb106]? = some (.cells #[(.slice A0_0 l0_0.length c0_0), (.slice A0_1 l0_1.length c0_1)] 34 (0, 0))) ∧ Fc (Below w.heap.size w w'))
         case atStart => exact ⟨(0), (by first | rfl | (simp; done) | (simp [*]; done)), H', ⟨Nat.le_refl _⟩, ⟨h_ BK106⟩, ⟨b_ HB⟩⟩
         case round =>
          clear H'
          try clear c4
          try clear c4b0
          try clear c4b1
          try clear c7
          try clear c8
          try clear c8b0
          try clear c9
          try clear c9b0
          try clear c11
          try clear hcz12_0
          try clear hcz12_1
          try clear hcz14_0
          try clear hcz14_1
          try clear hcz16_0
          try clear hcz16_1
          try clear hcz5_0
          try clear hcz5_1
          try clear hcz6_0
          try clear hcz6_1
          try clear hfz12_0
          try clear hfz12_1
          try clear hfz14_0
          try clear hfz14_1
          try clear hfz16_0
          try clear hfz16_1
          try clear hfz5_0
          try clear hfz5_1
          try clear hfz6_0
          try clear hfz6_1
          try clear hx107_0
          try clear hx107_1
          try clear hx107_2
          try clear hx107_3
          try clear p107
          try clear q107
          obtain ⟨x4_3, rfl, HA, HK3, BK106, HB⟩ := hrel
          cases gk with
          | zero => exact absurd HA.out (by simp [quorumref8_Pend.l1])
          | succ k3 =>
           have H := HA.out
           clear HA
           simp only [quorumref8_Pend.l1] at H
           as_aux_lemma =>
            by_cases c17 : x4_3 < (l0_1.length : Int)
            ·rw [if_pos c17] at H
             have c17b0 : decide (x4_3 < (l0_1.length : Int)) = true := decide_eq_true c17
             clear c17
             have HC18 := mk0 H
             clear H
             obtain ⟨hcz19_0, hcz19_1, hfz19_0, hfz19_1⟩ := c2_ BK106
             go_upto_region 11 with (fail)
             repeat (go_quiet (fail); go_upto_region 11 with (fail))
             go_cut [63] (fun v63 wc => ∃ (kq : Nat) (x63_17 : Bool), v63 = .bool x63_17 ∧ Fc (quorumref8_Pend.j3 kq x4_3 x63_17 l0_0 l0_1 = some r) ∧ Fc (kq ≤ k3) ∧ Fc (wc.heap[gb106]? = some (.cells #[(.slice A0_0 l0_0.length c0_0), (.slice A0_1 l0_1.length c0_1)] 34 (0, 0))) ∧ Fc (Below w.heap.size w wc))
             case first =>
              have H := HC18.out
              clear HC18
              by_cases c20 : 0 ≤ x4_3
              ·rw [if_pos c20] at H
               have c20b0 : decide (0 ≤ x4_3) = true := decide_eq_true c20
               clear c20
               (first | rw [c20b0] | (simp only [i64_w, i32_w]; rw [c20b0]) | skip)
               replace H := Option.bind_eq_some_iff.mp H
               obtain ⟨t110, A210, H⟩ := H
               try dsimp only at H
               have A21 := mk0 A210
               clear A210
               by_cases c22 : t110 = true
               ·subst c22
                rw [if_pos rfl] at H
                by_cases c23 : x4_3 > 0
                ·rw [if_pos c23] at H
                 have c23b0 : decide (0 < x4_3) = true := decide_eq_true c23
                 clear c23
                 obtain ⟨ji24, hji24⟩ : ∃ j_ : Int, (wrap64 (x4_3 - 1)) = j_ := ⟨_, rfl⟩
                 replace H : (if 0 ≤ (ji24) then (if (ji24) < (l0_1.length : Int) then (quorumref8_Pend.j3 k3 x4_3 (decide ((rd l0_1 (ji24)) > (rd l0_1 x4_3))) l0_0 l0_1) else (none)) else (none)) = some r := by first | (rw [hji24] at H; exact H) | (simp only [hji24] at H ⊢; exact H)
                 (try rw [hji24] at A21)
                 have hji24w : (IntKind.i64.wrap (x4_3 - 1)) = ji24 := (i64_w _).trans hji24
                 by_cases c25 : 0 ≤ (ji24)
                 ·rw [if_pos c25] at H
                  have c25b0 : decide (0 ≤ (ji24)) = true := decide_eq_true c25
                  clear c25
                  by_cases c26 : (ji24) < (l0_1.length : Int)
                  ·rw [if_pos c26] at H
                   have c26b0 : decide ((ji24) < (l0_1.length : Int)) = true := decide_eq_true c26
                   clear c26
                   have H' := mk0 H
                   clear H
                   obtain ⟨hcz27_0, hcz27_1, hfz27_0, hfz27_1⟩ := c2_ BK106
                   have p109 : 0 ≤ (x4_3 : Int) := of_decide_eq_true (by first | (with_reducible assumption) | assumption)
                   have q109 : x4_3 < (l0_1.length : Int) := of_decide_eq_true (by first | (with_reducible assumption) | assumption)
                   obtain ⟨ad109, e109, hx109_0⟩ := Kd.at_int HR0_1.out x4_3 p109 q109
                   cases e109
                   replace hx109_0 := (bc_ HB hx109_0 :)
                   replace p109 := eq_true p109
                   replace q109 := eq_true q109
                   go_wp2_with (first | (go_at_call 39; (with_reducible refine (quorumref0_Num.calls (rd l0_1 x4_3) (l0_0.length : Int) true _ A21.out).mono ?_); rintro e w' ⟨rfl, ⟨nd, rfl⟩⟩; (try first | exact ⟨rfl, _, World.drewN_drewN _ _ _⟩ | exact ⟨rfl, _, Eq.trans (World.drewN_drewN _ _ _) (congrArg (World.drewN _) (Nat.add_assoc _ _ _))⟩); have p111 : 0 ≤ ((ji24) : Int) := of_decide_eq_true (by first | (with_reducible assumption) | assumption); have q111 : (ji24) < (l0_1.length : Int) := of_decide_eq_true (by first | (with_reducible assumption) | assumption); obtain ⟨ad111, e111, hx111_0⟩ := Kd.at_int HR0_1.out (ji24) p111 q111; obtain rfl : ad109 = ad111 := (by injection e111); replace hx111_0 := (bc_ HB hx111_0 :); replace p111 := eq_true p111; replace q111 := eq_true q111; have p112 : 0 ≤ (x4_3 : Int) := of_decide_eq_true (by first | (with_reducible assumption) | assumption); have q112 : x4_3 < (l0_1.length : Int) := of_decide_eq_true (by first | (with_reducible assumption) | assumption); obtain ⟨ad112, e112, hx112_0⟩ := Kd.at_int HR0_1.out x4_3 p112 q112; obtain rfl : ad109 = ad112 := (by injection e112); replace hx112_0 := (bc_ HB hx112_0 :); replace p112 := eq_true p112; replace q112 := eq_true q112))
                   repeat (go_quiet (first | (go_at_call 39; (with_reducible refine (quorumref0_Num.calls (rd l0_1 x4_3) (l0_0.length : Int) true _ A21.out).mono ?_); rintro e w' ⟨rfl, ⟨nd, rfl⟩⟩; (try first | exact ⟨rfl, _, World.drewN_drewN _ _ _⟩ | exact ⟨rfl, _, Eq.trans (World.drewN_drewN _ _ _) (congrArg (World.drewN _) (Nat.add_assoc _ _ _))⟩); have p111 : 0 ≤ ((ji24) : Int) := of_decide_eq_true (by first | (with_reducible assumption) | assumption); have q111 : (ji24) < (l0_1.length : Int) := of_decide_eq_true (by first | (with_reducible assumption) | assumption); obtain ⟨ad111, e111, hx111_0⟩ := Kd.at_int HR0_1.out (ji24) p111 q111; obtain rfl : ad109 = ad111 := (by injection e111); replace hx111_0 := (bc_ HB hx111_0 :); replace p111 := eq_true p111; replace q111 := eq_true q111; have p112 : 0 ≤ (x4_3 : Int) := of_decide_eq_true (by first | (with_reducible assumption) | assumption); have q112 : x4_3 < (l0_1.length : Int) := of_decide_eq_true (by first | (with_reducible assumption) | assumption); obtain ⟨ad112, e112, hx112_0⟩ := Kd.at_int HR0_1.out x4_3 p112 q112; obtain rfl : ad109 = ad112 := (by injection e112); replace hx112_0 := (bc_ HB hx112_0 :); replace p112 := eq_true p112; replace q112 := eq_true q112)); try go_wp2_with (first | (go_at_call 39; (with_reducible refine (quorumref0_Num.calls (rd l0_1 x4_3) (l0_0.length : Int) true _ A21.out).mono ?_); rintro e w' ⟨rfl, ⟨nd, rfl⟩⟩; (try first | exact ⟨rfl, _, World.drewN_drewN _ _ _⟩ | exact ⟨rfl, _, Eq.trans (World.drewN_drewN _ _ _) (congrArg (World.drewN _) (Nat.add_assoc _ _ _))⟩); have p111 : 0 ≤ ((ji24) : Int) := of_decide_eq_true (by first | (with_reducible assumption) | assumption); have q111 : (ji24) < (l0_1.length : Int) := of_decide_eq_true (by first | (with_reducible assumption) | assumption); obtain ⟨ad111, e111, hx111_0⟩ := Kd.at_int HR0_1.out (ji24) p111 q111; obtain rfl : ad109 = ad111 := (by injection e111); replace hx111_0 := (bc_ HB hx111_0 :); replace p111 := eq_true p111; replace q111 := eq_true q111; have p112 : 0 ≤ (x4_3 : Int) := of_decide_eq_true (by first | (with_reducible assumption) | assumption); have q112 : x4_3 < (l0_1.length : Int) := of_decide_eq_true (by first | (with_reducible assumption) | assumption); obtain ⟨ad112, e112, hx112_0⟩ := Kd.at_int HR0_1.out x4_3 p112 q112; obtain rfl : ad109 = ad112 := (by injection e112); replace hx112_0 := (bc_ HB hx112_0 :); replace p112 := eq_true p112; replace q112 := eq_true q112)))
                   go_meet
                   case rel => exact ⟨_, (decide ((rd l0_1 (ji24)) > (rd l0_1 x4_3))), (by first | rfl | (simp; done) | (simp only [← hji24] <;> (first | rfl | (simp [leq_]; done) | (simp; done))) | (simp [*]; done)), H', ⟨by have := HJ1.out; have := HK2.out; have := HK3.out; first | omega | exact Nat.le_refl _⟩, ⟨h_ BK106⟩, ⟨b_ HB⟩⟩
                  ·rw [if_neg c26] at H
                   exact absurd H (by simp)
                 ·rw [if_neg c25] at H
                  exact absurd H (by simp)
                ·rw [if_neg c23] at H
                 have c23b0 : decide (0 < x4_3) = false := decide_eq_false c23
                 clear c23
                 have H' := mk0 H
                 clear H
                 obtain ⟨hcz28_0, hcz28_1, hfz28_0, hfz28_1⟩ := c2_ BK106
                 have p109 : 0 ≤ (x4_3 : Int) := of_decide_eq_true (by first | (with_reducible assumption) | assumption)
                 have q109 : x4_3 < (l0_1.length : Int) := of_decide_eq_true (by first | (with_reducible assumption) | assumption)
                 obtain ⟨ad109, e109, hx109_0⟩ := Kd.at_int HR0_1.out x4_3 p109 q109
                 cases e109
                 replace hx109_0 := (bc_ HB hx109_0 :)
                 replace p109 := eq_true p109
                 replace q109 := eq_true q109
                 go_wp2_with (first | (go_at_call 39; (with_reducible refine (quorumref0_Num.calls (rd l0_1 x4_3) (l0_0.length : Int) true _ A21.out).mono ?_); rintro e w' ⟨rfl, ⟨nd, rfl⟩⟩; (try first | exact ⟨rfl, _, World.drewN_drewN _ _ _⟩ | exact ⟨rfl, _, Eq.trans (World.drewN_drewN _ _ _) (congrArg (World.drewN _) (Nat.add_assoc _ _ _))⟩)))
                 repeat (go_quiet (first | (go_at_call 39; (with_reducible refine (quorumref0_Num.calls (rd l0_1 x4_3) (l0_0.length : Int) true _ A21.out).mono ?_); rintro e w' ⟨rfl, ⟨nd, rfl⟩⟩; (try first | exact ⟨rfl, _, World.drewN_drewN _ _ _⟩ | exact ⟨rfl, _, Eq.trans (World.drewN_drewN _ _ _) (congrArg (World.drewN _) (Nat.add_assoc _ _ _))⟩))); try go_wp2_with (first | (go_at_call 39; (with_reducible refine (quorumref0_Num.calls (rd l0_1 x4_3) (l0_0.length : Int) true _ A21.out).mono ?_); rintro e w' ⟨rfl, ⟨nd, rfl⟩⟩; (try first | exact ⟨rfl, _, World.drewN_drewN _ _ _⟩ | exact ⟨rfl, _, Eq.trans (World.drewN_drewN _ _ _) (congrArg (World.drewN _) (Nat.add_assoc _ _ _))⟩))))
                 go_meet
                 case rel => exact ⟨_, (false), (by first | rfl | (simp; done) | (simp [*]; done)), H', ⟨by have := HJ1.out; have := HK2.out; have := HK3.out; first | omega | exact Nat.le_refl _⟩, ⟨h_ BK106⟩, ⟨b_ HB⟩⟩
               ·replace c22 := Bool.eq_false_iff.mpr c22
                subst c22
                rw [if_neg (show ¬ (false = true) by decide)] at H
                have H' := mk0 H
                clear H
                obtain ⟨hcz29_0, hcz29_1, hfz29_0, hfz29_1⟩ := c2_ BK106
                have p109 : 0 ≤ (x4_3 : Int) := of_decide_eq_true (by first | (with_reducible assumption) | assumption)
                have q109 : x4_3 < (l0_1.length : Int) := of_decide_eq_true (by first | (with_reducible assumption) | assumption)
                obtain ⟨ad109, e109, hx109_0⟩ := Kd.at_int HR0_1.out x4_3 p109 q109
                cases e109
                replace hx109_0 := (bc_ HB hx109_0 :)
                replace p109 := eq_true p109
                replace q109 := eq_true q109
                go_wp2_with (first | (go_at_call 39; (with_reducible refine (quorumref0_Num.calls (rd l0_1 x4_3) (l0_0.length : Int) false _ A21.out).mono ?_); rintro e w' ⟨rfl, ⟨nd, rfl⟩⟩; (try first | exact ⟨rfl, _, World.drewN_drewN _ _ _⟩ | exact ⟨rfl, _, Eq.trans (World.drewN_drewN _ _ _) (congrArg (World.drewN _) (Nat.add_assoc _ _ _))⟩)))
                repeat (go_quiet (first | (go_at_call 39; (with_reducible refine (quorumref0_Num.calls (rd l0_1 x4_3) (l0_0.length : Int) false _ A21.out).mono ?_); rintro e w' ⟨rfl, ⟨nd, rfl⟩⟩; (try first | exact ⟨rfl, _, World.drewN_drewN _ _ _⟩ | exact ⟨rfl, _, Eq.trans (World.drewN_drewN _ _ _) (congrArg (World.drewN _) (Nat.add_assoc _ _ _))⟩))); try go_wp2_with (first | (go_at_call 39; (with_reducible refine (quorumref0_Num.calls (rd l0_1 x4_3) (l0_0.length : Int) false _ A21.out).mono ?_); rintro e w' ⟨rfl, ⟨nd, rfl⟩⟩; (try first | exact ⟨rfl, _, World.drewN_drewN _ _ _⟩ | exact ⟨rfl, _, Eq.trans (World.drewN_drewN _ _ _) (congrArg (World.drewN _) (Nat.add_assoc _ _ _))⟩))))
                go_meet
                case rel => exact ⟨_, (true), (by first | rfl | (simp; done) | (simp [*]; done)), H', ⟨by have := HJ1.out; have := HK2.out; have := HK3.out; first | omega | exact Nat.le_refl _⟩, ⟨h_ BK106⟩, ⟨b_ HB⟩⟩
              ·rw [if_neg c20] at H
               exact absurd H (by simp)
             case rest =>
              clear HC18
              try clear c4
              try clear c4b0
              try clear c4b1
              try clear c7
              try clear c8
              try clear c8b0
              try clear c9
              try clear c9b0
              try clear c11
              try clear c17
              try clear c17b0
              try clear c20
              try clear c20b0
              try clear c22
              try clear c23
              try clear c23b0
              try clear c25
              try clear c25b0
              try clear c26
              try clear c26b0
              try clear hcz12_0
              try clear hcz12_1
              try clear hcz14_0
              try clear hcz14_1
              try clear hcz16_0
              try clear hcz16_1
              try clear hcz19_0
              try clear hcz19_1
              try clear hcz27_0
              try clear hcz27_1
              try clear hcz28_0
              try clear hcz28_1
              try clear hcz29_0
              try clear hcz29_1
              try clear hcz5_0
              try clear hcz5_1
              try clear hcz6_0
              try clear hcz6_1
              try clear hfz12_0
              try clear hfz12_1
              try clear hfz14_0
              try clear hfz14_1
              try clear hfz16_0
              try clear hfz16_1
              try clear hfz19_0
              try clear hfz19_1
              try clear hfz27_0
              try clear hfz27_1
              try clear hfz28_0
              try clear hfz28_1
              try clear hfz29_0
              try clear hfz29_1
              try clear hfz5_0
              try clear hfz5_1
              try clear hfz6_0
              try clear hfz6_1
              try clear hx107_0
              try clear hx107_1
              try clear hx107_2
              try clear hx107_3
              try clear hx109_0
              try clear hx111_0
              try clear hx112_0
              try clear p107
              try clear p109
              try clear p111
              try clear p112
              try clear q107
              try clear q109
              try clear q111
              try clear q112
              obtain ⟨kq, x63_17, rfl, HA, HJ17, BK106, HB⟩ := hcut
              cases kq with
              | zero => exact absurd HA.out (by simp [quorumref8_Pend.j3])
              | succ kj17 =>
               have H := HA.out
               clear HA
               simp only [quorumref8_Pend.j3] at H
               as_aux_lemma =>
                by_cases c30 : x63_17 = true
                ·subst c30
                 rw [if_pos rfl] at H
                 obtain rfl := Option.some.inj H
                 go_wp2
                 repeat (go_quiet (fail); try go_wp2)
                 go_ret
                 exact ⟨by first | rfl | (simp [errW_none, errW_some] <;> rfl) | (simp [*, errW_none, errW_some] <;> rfl), b_ HB⟩
                ·replace c30 := Bool.eq_false_iff.mpr c30
                 subst c30
                 rw [if_neg (show ¬ (false = true) by decide)] at H
                 have H' := mk0 H
                 clear H
                 go_wp2
                 repeat (go_quiet (fail); try go_wp2)
                 go_roundg kj17
                 case measure => have := HJ1.out; have := HK2.out; have := HK3.out; have := HJ17.out; omega
                 case rel => exact ⟨(wrap64 (x4_3 + 1)), (by first | rfl | (simp; done) | (simp [*]; done)), H', ⟨by have := HJ1.out; have := HK2.out; have := HK3.out; have := HJ17.out; omega⟩, ⟨h_ BK106⟩, ⟨b_ HB⟩⟩
            ·rw [if_neg c17] at H
             have c17b0 : decide (x4_3 < (l0_1.length : Int)) = false := decide_eq_false c17
             clear c17
             obtain rfl := Option.some.inj H
             obtain ⟨hcz31_0, hcz31_1, hfz31_0, hfz31_1⟩ := c2_ BK106
             go_wp2
             repeat (go_quiet (fail); try go_wp2)
             go_ret
             exact ⟨by first | rfl | (simp [errW_none, errW_some] <;> rfl) | (simp [*, errW_none, errW_some] <;> rfl), b_ HB⟩

end Go.Proofs.Ytbaecdcfefmcgaa.PPlc
