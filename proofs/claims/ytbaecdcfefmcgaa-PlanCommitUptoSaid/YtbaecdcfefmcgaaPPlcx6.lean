-- PRINTED by print.py (a twelfth state) out of the translation. Not trusted: Lean checks it.
import Derived.Shelf.SlSorted.Search
import Derived.Test.YtbaecdcfefmcgaaPPlcx0
import Derived.Test.YtbaecdcfefmcgaaPPlcx2
import Derived.Test.YtbaecdcfefmcgaaPPlcx4
import Derived.Test.YtbaecdcfefmcgaaPPlcx5
namespace Go.Proofs.Ytbaecdcfefmcgaa.PPlc
open Go.RowKit Go.Proofs.YtbaecdcfefmcgaaW.PrintWords Go.Proofs.YtbaecdcfefmcgaaW.PrintLast Go.Proofs.YtbaecdcfefmcgaaW.PrintMore
attribute [local go_sem] max2_int min2_int max_two min_two max_three min_three max_four min_four   -- for this text's walks alone
set_option linter.unusedVariables false
set_option linter.unusedSimpArgs false

/-! ### quorumlaw0_OpsWeight: function 149 -/
mutual
def quorumlaw0_OpsWeight.l0 : Nat → List (S101) → Int → Int → Option (Int)
 | 0, _, _, _ => none
 | k + 1, x0, x3, x4 => if x4 < (x0.length : Int) then (quorumlaw0_OpsWeight.j1 k x0 x3 x4 (decide (x3 < 1048576))) else (quorumlaw0_OpsWeight.j1 k x0 x3 x4 false)
def quorumlaw0_OpsWeight.j1 : Nat → List (S101) → Int → Int → Bool → Option (Int)
 | 0, _, _, _, _ => none
 | k + 1, x0, x3, x4, x14 => if x14 = true then (if 0 ≤ x4 then (if x4 < (x0.length : Int) then (quorumlaw0_OpsWeight.l0 k x0 (wrap64 (x3 + (wrap64 (Int.tdiv (wrap64 ((wrap64 ((wrap64 ((((rd_T101 x0 x4).f2).size : Int) + (((rd_T101 x0 x4).f3).size : Int))) + (((rd_T101 x0 x4).f4.f0).size : Int))) + (((rd_T101 x0 x4).f4.f1).size : Int))) 8)))) (wrap64 (x4 + 1))) else (none)) else (none)) else (some x3)
end
def quorumlaw0_OpsWeight.f (k : Nat) (l0 : List (S101)) : Option (Int) := quorumlaw0_OpsWeight.l0 k l0 (l0.length : Int) 0
theorem quorumlaw0_OpsWeight.mono_l : ∀ k, (∀ y0 y1 y2, LeO (quorumlaw0_OpsWeight.l0 k y0 y1 y2) (quorumlaw0_OpsWeight.l0 (k + 1) y0 y1 y2)) ∧ (∀ y0 y1 y2 y3, LeO (quorumlaw0_OpsWeight.j1 k y0 y1 y2 y3) (quorumlaw0_OpsWeight.j1 (k + 1) y0 y1 y2 y3))
 | 0 => ⟨fun _ _ _ r h => by simp [quorumlaw0_OpsWeight.l0] at h, fun _ _ _ _ r h => by simp [quorumlaw0_OpsWeight.j1] at h⟩
 | k + 1 => by
  obtain ⟨ih0, ih1⟩ := quorumlaw0_OpsWeight.mono_l k
  refine ⟨?_, ?_⟩
  ·intro y0 y1 y2
   unfold quorumlaw0_OpsWeight.l0
   repeat' first
   | (with_reducible exact ih0 _ _ _)
   | (with_reducible exact ih1 _ _ _ _)
   | (with_reducible exact LeO.refl _)
   | (with_reducible exact LeO.none _)
   | (with_reducible refine LeO.ite ?_ ?_)
   | (with_reducible refine LeO.bind ?_ (fun _ => ?_))
   | exact ih0 _ _ _
   | exact ih1 _ _ _ _
   | exact LeO.none _
   | refine LeO.ite ?_ ?_
   | refine LeO.bind ?_ (fun _ => ?_)
  ·intro y0 y1 y2 y3
   unfold quorumlaw0_OpsWeight.j1
   repeat' first
   | (with_reducible exact ih0 _ _ _)
   | (with_reducible exact ih1 _ _ _ _)
   | (with_reducible exact LeO.refl _)
   | (with_reducible exact LeO.none _)
   | (with_reducible refine LeO.ite ?_ ?_)
   | (with_reducible refine LeO.bind ?_ (fun _ => ?_))
   | exact ih0 _ _ _
   | exact ih1 _ _ _ _
   | exact LeO.none _
   | refine LeO.ite ?_ ?_
   | refine LeO.bind ?_ (fun _ => ?_)
theorem quorumlaw0_OpsWeight.mono : ∀ a0 k, LeO (quorumlaw0_OpsWeight.f k a0) (quorumlaw0_OpsWeight.f (k + 1) a0) := by
 intro a0 k
 obtain ⟨ih0, ih1⟩ := quorumlaw0_OpsWeight.mono_l k
 unfold quorumlaw0_OpsWeight.f
 repeat' first
   | (with_reducible exact ih0 _ _ _)
   | (with_reducible exact ih1 _ _ _ _)
   | (with_reducible exact LeO.refl _)
   | (with_reducible exact LeO.none _)
   | (with_reducible refine LeO.ite ?_ ?_)
   | (with_reducible refine LeO.bind ?_ (fun _ => ?_))
   | exact ih0 _ _ _
   | exact ih1 _ _ _ _
   | exact LeO.none _
   | refine LeO.ite ?_ ?_
   | refine LeO.bind ?_ (fun _ => ?_)
set_option maxHeartbeats 8000000 in
set_option maxRecDepth 100000 in
theorem quorumlaw0_OpsWeight.calls (k : Nat) (A0 : Option Addr) (c0 : Nat) (l0 : List (S101)) (r : Int) (w : World) (hr0 : Kd.C k101 w A0 l0.length l0) (hc0 : l0.length ≤ c0) (h : quorumlaw0_OpsWeight.f k l0 = some r) :
  Calls Try.prog 149 #[.slice A0 l0.length c0] w fun e w' => e = .returned (.int .i64 r) ∧ Drawn0 w w' := by
 have HR0 := mk0 hr0
 have HC0 := mk0 hc0
 clear hr0 hc0
 have H : (quorumlaw0_OpsWeight.l0 k l0 (l0.length : Int) 0) = some r := h
 clear h
 have H' := mk0 H
 clear H
 go_enter Try.func149, Try.ntmps149
 go_wp2
 repeat (go_quiet (fail); try go_wp2)
 go_loopg [3, 4] k (fun kq v3 v4 w' => ∃ (x3_1 : Int) (x4_1 : Int), v3 = .int .i64 x3_1 ∧ v4 = .int .i64 x4_1 ∧ Fc (quorumlaw0_OpsWeight.l0 kq l0 x3_1 x4_1 = some r) ∧ Fc (kq ≤ k) ∧ Drawn0 w w')
 case atStart => exact ⟨((l0.length : Int)), (0), (by first | rfl | (simp; done) | (simp [*]; done)), (by first | rfl | (simp; done) | (simp [*]; done)), H', ⟨Nat.le_refl _⟩, by repeat (first | exact Drawn0.refl _ | apply Drawn0.step)⟩
 case round =>
  clear H'
  obtain ⟨x3_1, x4_1, rfl, rfl, HA, HK1, ⟨m1, rfl⟩⟩ := hrel
  cases gk with
  | zero => exact absurd HA.out (by simp [quorumlaw0_OpsWeight.l0])
  | succ k1 =>
   have H := HA.out
   clear HA
   simp only [quorumlaw0_OpsWeight.l0] at H
   as_aux_lemma =>
    have HC2 := mk0 H
    clear H
    go_upto_region 3 with (fail)
    repeat (go_quiet (fail); go_upto_region 3 with (fail))
    go_cut [14] (fun v14 wc => ∃ (kq : Nat) (x14_1 : Bool), v14 = .bool x14_1 ∧ Fc (quorumlaw0_OpsWeight.j1 kq l0 x3_1 x4_1 x14_1 = some r) ∧ Fc (kq ≤ k1) ∧ Drawn0 w wc)
    case first =>
     have H := HC2.out
     clear HC2
     by_cases c3 : x4_1 < (l0.length : Int)
     ·rw [if_pos c3] at H
      have c3b0 : decide (x4_1 < (l0.length : Int)) = true := decide_eq_true c3
      clear c3
      (first | rw [c3b0] | (simp only [i64_w, i32_w]; rw [c3b0]) | skip)
      have H' := mk0 H
      clear H
      go_wp2
      repeat (go_quiet (fail); try go_wp2)
      go_meet
      case rel => exact ⟨_, (decide (x3_1 < 1048576)), (by first | rfl | (simp; done) | (simp [*]; done)), H', ⟨by have := HK1.out; first | omega | exact Nat.le_refl _⟩, by repeat (first | exact Drawn0.refl _ | apply Drawn0.step)⟩
     ·rw [if_neg c3] at H
      have c3b0 : decide (x4_1 < (l0.length : Int)) = false := decide_eq_false c3
      clear c3
      (first | rw [c3b0] | (simp only [i64_w, i32_w]; rw [c3b0]) | skip)
      have H' := mk0 H
      clear H
      go_wp2
      repeat (go_quiet (fail); try go_wp2)
      go_meet
      case rel => exact ⟨_, (false), (by first | rfl | (simp; done) | (simp [*]; done)), H', ⟨by have := HK1.out; first | omega | exact Nat.le_refl _⟩, by repeat (first | exact Drawn0.refl _ | apply Drawn0.step)⟩
    case rest =>
     clear HC2
     try clear c3
     try clear c3b0
     obtain ⟨kq, x14_1, rfl, HA, HJ1, ⟨mc1, rfl⟩⟩ := hcut
     cases kq with
     | zero => exact absurd HA.out (by simp [quorumlaw0_OpsWeight.j1])
     | succ kj1 =>
      have H := HA.out
      clear HA
      simp only [quorumlaw0_OpsWeight.j1] at H
      as_aux_lemma =>
       by_cases c4 : x14_1 = true
       ·subst c4
        rw [if_pos rfl] at H
        by_cases c5 : 0 ≤ x4_1
        ·rw [if_pos c5] at H
         have c5b0 : decide (0 ≤ x4_1) = true := decide_eq_true c5
         clear c5
         by_cases c6 : x4_1 < (l0.length : Int)
         ·rw [if_pos c6] at H
          have c6b0 : decide (x4_1 < (l0.length : Int)) = true := decide_eq_true c6
          clear c6
          have H' := mk0 H
          clear H
          have p143 : 0 ≤ (x4_1 : Int) := of_decide_eq_true (by first | (with_reducible assumption) | assumption)
          have q143 : x4_1 < (l0.length : Int) := of_decide_eq_true (by first | (with_reducible assumption) | assumption)
          obtain ⟨ad143, e143, hx143_0, hx143_1, hx143_2, hx143_3, hx143_4, hx143_5, hx143_6, hx143_7, hx143_8⟩ := at_T101 HR0.out x4_1 p143 q143
          cases e143
          replace p143 := eq_true p143
          replace q143 := eq_true q143
          have p144 : 0 ≤ (x4_1 : Int) := of_decide_eq_true (by first | (with_reducible assumption) | assumption)
          have q144 : x4_1 < (l0.length : Int) := of_decide_eq_true (by first | (with_reducible assumption) | assumption)
          obtain ⟨ad144, e144, hx144_0, hx144_1, hx144_2, hx144_3, hx144_4, hx144_5, hx144_6, hx144_7, hx144_8⟩ := at_T101 HR0.out x4_1 p144 q144
          obtain rfl : ad143 = ad144 := (by injection e144)
          replace p144 := eq_true p144
          replace q144 := eq_true q144
          have p145 : 0 ≤ (x4_1 : Int) := of_decide_eq_true (by first | (with_reducible assumption) | assumption)
          have q145 : x4_1 < (l0.length : Int) := of_decide_eq_true (by first | (with_reducible assumption) | assumption)
          obtain ⟨ad145, e145, hx145_0, hx145_1, hx145_2, hx145_3, hx145_4, hx145_5, hx145_6, hx145_7, hx145_8⟩ := at_T101 HR0.out x4_1 p145 q145
          obtain rfl : ad143 = ad145 := (by injection e145)
          replace p145 := eq_true p145
          replace q145 := eq_true q145
          have p146 : 0 ≤ (x4_1 : Int) := of_decide_eq_true (by first | (with_reducible assumption) | assumption)
          have q146 : x4_1 < (l0.length : Int) := of_decide_eq_true (by first | (with_reducible assumption) | assumption)
          obtain ⟨ad146, e146, hx146_0, hx146_1, hx146_2, hx146_3, hx146_4, hx146_5, hx146_6, hx146_7, hx146_8⟩ := at_T101 HR0.out x4_1 p146 q146
          obtain rfl : ad143 = ad146 := (by injection e146)
          replace p146 := eq_true p146
          replace q146 := eq_true q146
          go_wp2
          repeat (go_quiet (fail); try go_wp2)
          go_roundg kj1
          case measure => have := HK1.out; have := HJ1.out; omega
          case rel => exact ⟨(wrap64 (x3_1 + (wrap64 (Int.tdiv (wrap64 ((wrap64 ((wrap64 ((((rd_T101 l0 x4_1).f2).size : Int) + (((rd_T101 l0 x4_1).f3).size : Int))) + (((rd_T101 l0 x4_1).f4.f0).size : Int))) + (((rd_T101 l0 x4_1).f4.f1).size : Int))) 8)))), (wrap64 (x4_1 + 1)), (by first | rfl | (simp; done) | (simp [*]; done)), (by first | rfl | (simp; done) | (simp [*]; done)), H', ⟨by have := HK1.out; have := HJ1.out; omega⟩, by repeat (first | exact Drawn0.refl _ | apply Drawn0.step)⟩
         ·rw [if_neg c6] at H
          exact absurd H (by simp)
        ·rw [if_neg c5] at H
         exact absurd H (by simp)
       ·replace c4 := Bool.eq_false_iff.mpr c4
        subst c4
        rw [if_neg (show ¬ (false = true) by decide)] at H
        obtain rfl := Option.some.inj H
        go_wp2
        repeat (go_quiet (fail); try go_wp2)
        go_ret
        exact ⟨by first | rfl | (simp; done) | (simp [*]; done), by repeat (first | exact Drawn0.refl _ | apply Drawn0.step)⟩

/-! ### quorumlaw12_Heavy: function 101 -/
mutual
def quorumlaw12_Heavy.l0 : Nat → Int → Int → List (S101) → List (S34) → List Int → Option (Bool)
 | 0, _, _, _, _, _ => none
 | k + 1, x3, x4, x148000, x148001, x148002 => if x4 < (x148001.length : Int) then (quorumlaw12_Heavy.j1 k x3 x4 (decide (x3 < 1048576)) x148000 x148001 x148002) else (quorumlaw12_Heavy.j1 k x3 x4 false x148000 x148001 x148002)
def quorumlaw12_Heavy.j1 : Nat → Int → Int → Bool → List (S101) → List (S34) → List Int → Option (Bool)
 | 0, _, _, _, _, _, _ => none
 | k + 1, x3, x4, x24, x148000, x148001, x148002 => if x24 = true then (if 0 ≤ x4 then (if x4 < (x148001.length : Int) then ((quorumlaw0_WritesWeight.f k ((rd_T34 x148001 x4).f0)).bind fun t150 => (quorumlaw12_Heavy.l0 k (wrap64 ((wrap64 (x3 + t150)) + (((rd_T34 x148001 x4).f1).length : Int))) (wrap64 (x4 + 1)) x148000 x148001 x148002)) else (none)) else (none)) else (some (decide (x3 > 700)))
end
def quorumlaw12_Heavy.f (k : Nat) (l0_0 : List (S101)) (l0_1 : List (S34)) (l0_2 : List Int) : Option (Bool) := (quorumlaw0_OpsWeight.f k l0_0).bind fun t148 => (quorumlaw12_Heavy.l0 k (wrap64 ((wrap64 (t148 + (l0_1.length : Int))) + (l0_2.length : Int))) 0 l0_0 l0_1 l0_2)
theorem quorumlaw12_Heavy.mono_l : ∀ k, (∀ y0 y1 y2 y3 y4, LeO (quorumlaw12_Heavy.l0 k y0 y1 y2 y3 y4) (quorumlaw12_Heavy.l0 (k + 1) y0 y1 y2 y3 y4)) ∧ (∀ y0 y1 y2 y3 y4 y5, LeO (quorumlaw12_Heavy.j1 k y0 y1 y2 y3 y4 y5) (quorumlaw12_Heavy.j1 (k + 1) y0 y1 y2 y3 y4 y5))
 | 0 => ⟨fun _ _ _ _ _ r h => by simp [quorumlaw12_Heavy.l0] at h, fun _ _ _ _ _ _ r h => by simp [quorumlaw12_Heavy.j1] at h⟩
 | k + 1 => by
  obtain ⟨ih0, ih1⟩ := quorumlaw12_Heavy.mono_l k
  refine ⟨?_, ?_⟩
  ·intro y0 y1 y2 y3 y4
   unfold quorumlaw12_Heavy.l0
   repeat' first
   | (with_reducible exact ih0 _ _ _ _ _)
   | (with_reducible exact ih1 _ _ _ _ _ _)
   | (with_reducible exact quorumlaw0_OpsWeight.mono _ _)
   | (with_reducible exact quorumlaw0_WritesWeight.mono _ _)
   | (with_reducible exact LeO.refl _)
   | (with_reducible exact LeO.none _)
   | (with_reducible refine LeO.ite ?_ ?_)
   | (with_reducible refine LeO.bind ?_ (fun _ => ?_))
   | exact ih0 _ _ _ _ _
   | exact ih1 _ _ _ _ _ _
   | exact quorumlaw0_OpsWeight.mono _ _
   | exact quorumlaw0_WritesWeight.mono _ _
   | exact LeO.none _
   | refine LeO.ite ?_ ?_
   | refine LeO.bind ?_ (fun _ => ?_)
  ·intro y0 y1 y2 y3 y4 y5
   unfold quorumlaw12_Heavy.j1
   repeat' first
   | (with_reducible exact ih0 _ _ _ _ _)
   | (with_reducible exact ih1 _ _ _ _ _ _)
   | (with_reducible exact quorumlaw0_OpsWeight.mono _ _)
   | (with_reducible exact quorumlaw0_WritesWeight.mono _ _)
   | (with_reducible exact LeO.refl _)
   | (with_reducible exact LeO.none _)
   | (with_reducible refine LeO.ite ?_ ?_)
   | (with_reducible refine LeO.bind ?_ (fun _ => ?_))
   | exact ih0 _ _ _ _ _
   | exact ih1 _ _ _ _ _ _
   | exact quorumlaw0_OpsWeight.mono _ _
   | exact quorumlaw0_WritesWeight.mono _ _
   | exact LeO.none _
   | refine LeO.ite ?_ ?_
   | refine LeO.bind ?_ (fun _ => ?_)
theorem quorumlaw12_Heavy.mono : ∀ a0 a1 a2 k, LeO (quorumlaw12_Heavy.f k a0 a1 a2) (quorumlaw12_Heavy.f (k + 1) a0 a1 a2) := by
 intro a0 a1 a2 k
 obtain ⟨ih0, ih1⟩ := quorumlaw12_Heavy.mono_l k
 unfold quorumlaw12_Heavy.f
 repeat' first
   | (with_reducible exact ih0 _ _ _ _ _)
   | (with_reducible exact ih1 _ _ _ _ _ _)
   | (with_reducible exact quorumlaw0_OpsWeight.mono _ _)
   | (with_reducible exact quorumlaw0_WritesWeight.mono _ _)
   | (with_reducible exact LeO.refl _)
   | (with_reducible exact LeO.none _)
   | (with_reducible refine LeO.ite ?_ ?_)
   | (with_reducible refine LeO.bind ?_ (fun _ => ?_))
   | exact ih0 _ _ _ _ _
   | exact ih1 _ _ _ _ _ _
   | exact quorumlaw0_OpsWeight.mono _ _
   | exact quorumlaw0_WritesWeight.mono _ _
   | exact LeO.none _
   | refine LeO.ite ?_ ?_
   | refine LeO.bind ?_ (fun _ => ?_)
set_option maxHeartbeats 8000000 in
set_option maxRecDepth 100000 in
theorem quorumlaw12_Heavy.calls (k : Nat) (A0_0 : Option Addr) (c0_0 : Nat) (l0_0 : List (S101)) (A0_1 : Option Addr) (c0_1 : Nat) (l0_1 : List (S34)) (A0_2 : Option Addr) (c0_2 : Nat) (l0_2 : List Int) (r : Bool) (w : World) (hr0_0 : Kd.C k101 w A0_0 l0_0.length l0_0) (hc0_0 : l0_0.length ≤ c0_0) (hr0_1 : Kd.C k34 w A0_1 l0_1.length l0_1) (hc0_1 : l0_1.length ≤ c0_1) (hr0_2 : Kd.C (Kd.int .i64) w A0_2 l0_2.length l0_2) (hc0_2 : l0_2.length ≤ c0_2) (h : quorumlaw12_Heavy.f k l0_0 l0_1 l0_2 = some r) :
  Calls Try.prog 101 #[.agg #[.slice A0_0 l0_0.length c0_0, .slice A0_1 l0_1.length c0_1, .slice A0_2 l0_2.length c0_2]] w fun e w' => e = .returned (.bool r) ∧ Below w.heap.size w w' := by
 have hu51 := Try.underlying51
 have HR0_0 := mk0 hr0_0
 have HC0_0 := mk0 hc0_0
 clear hr0_0 hc0_0
 have HR0_1 := mk0 hr0_1
 have HC0_1 := mk0 hc0_1
 clear hr0_1 hc0_1
 have HR0_2 := mk0 hr0_2
 have HC0_2 := mk0 hc0_2
 clear hr0_2 hc0_2
 have HB := mk0 (Below.refl w.heap.size w)
 have H : ((quorumlaw0_OpsWeight.f k l0_0).bind fun t148 => (quorumlaw12_Heavy.l0 k (wrap64 ((wrap64 (t148 + (l0_1.length : Int))) + (l0_2.length : Int))) 0 l0_0 l0_1 l0_2)) = some r := h
 clear h
 replace H := Option.bind_eq_some_iff.mp H
 obtain ⟨t148, A20, H⟩ := H
 try dsimp only at H
 have A2 := mk0 A20
 clear A20
 have H' := mk0 H
 clear H
 go_enter Try.func101, Try.ntmps101
 go_wp2_with (first | ((with_reducible refine gate_dst (N := 1) rfl ?_); refine bx_ (N := 1) (cs := #[.slice A0_0 l0_0.length c0_0, .slice A0_1 l0_1.length c0_1, .slice A0_2 l0_2.length c0_2]) (t := 51) (h := ?_); intro gb147 hg w3 hbox hb; have n2_ := mk0 (gz_ HB hg); have n3_ := mk0 (gz_ HB hg); replace HB := mk0 (bt_ (b_ HB) hb); have BK147 := mk0 (hbox); have GW147 := n2_; have GE147 := n3_; clear n2_ n3_ hb hbox hg; obtain ⟨hcz4_0, hcz4_1, hcz4_2, hfz4_0, hfz4_1, hfz4_2⟩ := c3_ BK147) | (go_at_call 149; (with_reducible refine (quorumlaw0_OpsWeight.calls k _ _ l0_0 t148 _ ?side1 ?side2 A2.out).mono ?_); (case side1 => exact cb_ HR0_0 HB); (case side2 => exact HC0_0.out); rintro e w' ⟨rfl, ⟨nd, rfl⟩⟩; (try first | exact ⟨rfl, _, World.drewN_drewN _ _ _⟩ | exact ⟨rfl, _, Eq.trans (World.drewN_drewN _ _ _) (congrArg (World.drewN _) (Nat.add_assoc _ _ _))⟩)))
 repeat (go_quiet (first | ((with_reducible refine gate_dst (N := 1) rfl ?_); refine bx_ (N := 1) (cs := #[.slice A0_0 l0_0.length c0_0, .slice A0_1 l0_1.length c0_1, .slice A0_2 l0_2.length c0_2]) (t := 51) (h := ?_); intro gb147 hg w3 hbox hb; have n2_ := mk0 (gz_ HB hg); have n3_ := mk0 (gz_ HB hg); replace HB := mk0 (bt_ (b_ HB) hb); have BK147 := mk0 (hbox); have GW147 := n2_; have GE147 := n3_; clear n2_ n3_ hb hbox hg; obtain ⟨hcz4_0, hcz4_1, hcz4_2, hfz4_0, hfz4_1, hfz4_2⟩ := c3_ BK147) | (go_at_call 149; (with_reducible refine (quorumlaw0_OpsWeight.calls k _ _ l0_0 t148 _ ?side1 ?side2 A2.out).mono ?_); (case side1 => exact cb_ HR0_0 HB); (case side2 => exact HC0_0.out); rintro e w' ⟨rfl, ⟨nd, rfl⟩⟩; (try first | exact ⟨rfl, _, World.drewN_drewN _ _ _⟩ | exact ⟨rfl, _, Eq.trans (World.drewN_drewN _ _ _) (congrArg (World.drewN _) (Nat.add_assoc _ _ _))⟩))); try go_wp2_with (first | ((with_reducible refine gate_dst (N := 1) rfl ?_); refine bx_ (N := 1) (cs := #[.slice A0_0 l0_0.length c0_0, .slice A0_1 l0_1.length c0_1, .slice A0_2 l0_2.length c0_2]) (t := 51) (h := ?_); intro gb147 hg w3 hbox hb; have n2_ := mk0 (gz_ HB hg); have n3_ := mk0 (gz_ HB hg); replace HB := mk0 (bt_ (b_ HB) hb); have BK147 := mk0 (hbox); have GW147 := n2_; have GE147 := n3_; clear n2_ n3_ hb hbox hg; obtain ⟨hcz4_0, hcz4_1, hcz4_2, hfz4_0, hfz4_1, hfz4_2⟩ := c3_ BK147) | (go_at_call 149; (with_reducible refine (quorumlaw0_OpsWeight.calls k _ _ l0_0 t148 _ ?side1 ?side2 A2.out).mono ?_); (case side1 => exact cb_ HR0_0 HB); (case side2 => exact HC0_0.out); rintro e w' ⟨rfl, ⟨nd, rfl⟩⟩; (try first | exact ⟨rfl, _, World.drewN_drewN _ _ _⟩ | exact ⟨rfl, _, Eq.trans (World.drewN_drewN _ _ _) (congrArg (World.drewN _) (Nat.add_assoc _ _ _))⟩))))
 go_loopg [3, 4] k (fun kq v3 v4 w' => ∃ (x3_1 : Int) (x4_1 : Int), v3 = .int .i64 x3_1 ∧ v4 = .int .i64 x4_1 ∧ Fc (quorumlaw12_Heavy.l0 kq x3_1 x4_1 l0_0 l0_1 l0_2 = some r) ∧ Fc (kq ≤ k) ∧ Fc (w'.heap[gb147]? = some (.cells #[(.slice A0_0 l0_0.length c0_0), (.slice A0_1 l0_1.length c0_1), (.slice A0_2 l0_2.length c0_2)] 51 (0, 0))) ∧ Fc (Below w.heap.size w w'))
 case atStart => exact ⟨(wrap64 ((wrap64 (t148 + (l0_1.length : Int))) + (l0_2.length : Int))), (0), (by first | rfl | (simp only [i64_w]; done) | (simp; done) | (simp [*]; done)), (by first | rfl | (simp only [i64_w]; done) | (simp; done) | (simp [*]; done)), H', ⟨Nat.le_refl _⟩, ⟨h_ BK147⟩, ⟨b_ HB⟩⟩
 case round =>
  clear H'
  try clear hcz4_0
  try clear hcz4_1
  try clear hcz4_2
  try clear hfz4_0
  try clear hfz4_1
  try clear hfz4_2
  obtain ⟨x3_1, x4_1, rfl, rfl, HA, HK1, BK147, HB⟩ := hrel
  cases gk with
  | zero => exact absurd HA.out (by simp [quorumlaw12_Heavy.l0])
  | succ k1 =>
   have H := HA.out
   clear HA
   simp only [quorumlaw12_Heavy.l0] at H
   as_aux_lemma =>
    have HC5 := mk0 H
    clear H
    go_upto_region 3 with (fail)
    repeat (go_quiet (fail); go_upto_region 3 with (fail))
    go_cut [24] (fun v24 wc => ∃ (kq : Nat) (x24_4 : Bool), v24 = .bool x24_4 ∧ Fc (quorumlaw12_Heavy.j1 kq x3_1 x4_1 x24_4 l0_0 l0_1 l0_2 = some r) ∧ Fc (kq ≤ k1) ∧ Fc (wc.heap[gb147]? = some (.cells #[(.slice A0_0 l0_0.length c0_0), (.slice A0_1 l0_1.length c0_1), (.slice A0_2 l0_2.length c0_2)] 51 (0, 0))) ∧ Fc (Below w.heap.size w wc))
    case first =>
     have H := HC5.out
     clear HC5
     by_cases c6 : x4_1 < (l0_1.length : Int)
     ·rw [if_pos c6] at H
      have c6b0 : decide (x4_1 < (l0_1.length : Int)) = true := decide_eq_true c6
      clear c6
      (first | rw [c6b0] | (simp only [i64_w, i32_w]; rw [c6b0]) | skip)
      have H' := mk0 H
      clear H
      obtain ⟨hcz7_0, hcz7_1, hcz7_2, hfz7_0, hfz7_1, hfz7_2⟩ := c3_ BK147
      go_wp2
      repeat (go_quiet (fail); try go_wp2)
      go_meet
      case rel => exact ⟨_, (decide (x3_1 < 1048576)), (by first | rfl | (simp only [i64_w]; done) | (simp; done) | (simp [*]; done)), H', ⟨by have := HK1.out; first | omega | exact Nat.le_refl _⟩, ⟨h_ BK147⟩, ⟨b_ HB⟩⟩
     ·rw [if_neg c6] at H
      have c6b0 : decide (x4_1 < (l0_1.length : Int)) = false := decide_eq_false c6
      clear c6
      (first | rw [c6b0] | (simp only [i64_w, i32_w]; rw [c6b0]) | skip)
      have H' := mk0 H
      clear H
      obtain ⟨hcz8_0, hcz8_1, hcz8_2, hfz8_0, hfz8_1, hfz8_2⟩ := c3_ BK147
      go_wp2
      repeat (go_quiet (fail); try go_wp2)
      go_meet
      case rel => exact ⟨_, (false), (by first | rfl | (simp only [i64_w]; done) | (simp; done) | (simp [*]; done)), H', ⟨by have := HK1.out; first | omega | exact Nat.le_refl _⟩, ⟨h_ BK147⟩, ⟨b_ HB⟩⟩
    case rest =>
     clear HC5
     try clear c6
     try clear c6b0
     try clear hcz4_0
     try clear hcz4_1
     try clear hcz4_2
     try clear hcz7_0
     try clear hcz7_1
     try clear hcz7_2
     try clear hcz8_0
     try clear hcz8_1
     try clear hcz8_2
     try clear hfz4_0
     try clear hfz4_1
     try clear hfz4_2
     try clear hfz7_0
     try clear hfz7_1
     try clear hfz7_2
     try clear hfz8_0
     try clear hfz8_1
     try clear hfz8_2
     obtain ⟨kq, x24_4, rfl, HA, HJ4, BK147, HB⟩ := hcut
     cases kq with
     | zero => exact absurd HA.out (by simp [quorumlaw12_Heavy.j1])
     | succ kj4 =>
      have H := HA.out
      clear HA
      simp only [quorumlaw12_Heavy.j1] at H
      as_aux_lemma =>
       by_cases c9 : x24_4 = true
       ·subst c9
        rw [if_pos rfl] at H
        by_cases c10 : 0 ≤ x4_1
        ·rw [if_pos c10] at H
         have c10b0 : decide (0 ≤ x4_1) = true := decide_eq_true c10
         clear c10
         by_cases c11 : x4_1 < (l0_1.length : Int)
         ·rw [if_pos c11] at H
          have c11b0 : decide (x4_1 < (l0_1.length : Int)) = true := decide_eq_true c11
          clear c11
          replace H := Option.bind_eq_some_iff.mp H
          obtain ⟨t150, A120, H⟩ := H
          try dsimp only at H
          have A12 := mk0 A120
          clear A120
          have H' := mk0 H
          clear H
          obtain ⟨hcz13_0, hcz13_1, hcz13_2, hfz13_0, hfz13_1, hfz13_2⟩ := c3_ BK147
          have p149 : 0 ≤ (x4_1 : Int) := of_decide_eq_true (by first | (with_reducible assumption) | assumption)
          have q149 : x4_1 < (l0_1.length : Int) := of_decide_eq_true (by first | (with_reducible assumption) | assumption)
          obtain ⟨ad149, A149_0, c149_0, A149_1, c149_1, e149, hx149_0, hx149_1, hl149_0, hi149_0, hl149_1, hi149_1⟩ := at_T34 HR0_1.out x4_1 p149 q149
          cases e149
          replace hx149_0 := (bc_ HB hx149_0 :)
          replace hx149_1 := (bc_ HB hx149_1 :)
          have HR149_0 := mk0 hi149_0
          have HC149_0 := mk0 hl149_0
          clear hi149_0 hl149_0
          have HR149_1 := mk0 hi149_1
          have HC149_1 := mk0 hl149_1
          clear hi149_1 hl149_1
          replace p149 := eq_true p149
          replace q149 := eq_true q149
          go_wp2_with (first | (go_at_call 36; (with_reducible refine (quorumlaw0_WritesWeight.calls kj4 _ _ ((rd_T34 l0_1 x4_1).f0) t150 _ ?side1 ?side2 A12.out).mono ?_); (case side1 => exact cb_ HR149_0 HB); (case side2 => exact HC149_0.out); rintro e w' ⟨rfl, ⟨nd, rfl⟩⟩; (try first | exact ⟨rfl, _, World.drewN_drewN _ _ _⟩ | exact ⟨rfl, _, Eq.trans (World.drewN_drewN _ _ _) (congrArg (World.drewN _) (Nat.add_assoc _ _ _))⟩); have p151 : 0 ≤ (x4_1 : Int) := of_decide_eq_true (by first | (with_reducible assumption) | assumption); have q151 : x4_1 < (l0_1.length : Int) := of_decide_eq_true (by first | (with_reducible assumption) | assumption); obtain ⟨ad151, A151_0, c151_0, A151_1, c151_1, e151, hx151_0, hx151_1, hl151_0, hi151_0, hl151_1, hi151_1⟩ := at_T34 HR0_1.out x4_1 p151 q151; obtain rfl : ad149 = ad151 := (by injection e151); replace hx151_0 := (bc_ HB hx151_0 :); replace hx151_1 := (bc_ HB hx151_1 :); have HR151_0 := mk0 hi151_0; have HC151_0 := mk0 hl151_0; clear hi151_0 hl151_0; have HR151_1 := mk0 hi151_1; have HC151_1 := mk0 hl151_1; clear hi151_1 hl151_1; replace p151 := eq_true p151; replace q151 := eq_true q151; have ea_ := Option.some.inj (hx149_0.symm.trans hx151_0); injection ea_ with ea_ en_ ec_; subst ea_; subst ec_; clear en_; have ea_ := Option.some.inj (hx149_1.symm.trans hx151_1); injection ea_ with ea_ en_ ec_; subst ea_; subst ec_; clear en_))
          repeat (go_quiet (first | (go_at_call 36; (with_reducible refine (quorumlaw0_WritesWeight.calls kj4 _ _ ((rd_T34 l0_1 x4_1).f0) t150 _ ?side1 ?side2 A12.out).mono ?_); (case side1 => exact cb_ HR149_0 HB); (case side2 => exact HC149_0.out); rintro e w' ⟨rfl, ⟨nd, rfl⟩⟩; (try first | exact ⟨rfl, _, World.drewN_drewN _ _ _⟩ | exact ⟨rfl, _, Eq.trans (World.drewN_drewN _ _ _) (congrArg (World.drewN _) (Nat.add_assoc _ _ _))⟩); have p151 : 0 ≤ (x4_1 : Int) := of_decide_eq_true (by first | (with_reducible assumption) | assumption); have q151 : x4_1 < (l0_1.length : Int) := of_decide_eq_true (by first | (with_reducible assumption) | assumption); obtain ⟨ad151, A151_0, c151_0, A151_1, c151_1, e151, hx151_0, hx151_1, hl151_0, hi151_0, hl151_1, hi151_1⟩ := at_T34 HR0_1.out x4_1 p151 q151; obtain rfl : ad149 = ad151 := (by injection e151); replace hx151_0 := (bc_ HB hx151_0 :); replace hx151_1 := (bc_ HB hx151_1 :); have HR151_0 := mk0 hi151_0; have HC151_0 := mk0 hl151_0; clear hi151_0 hl151_0; have HR151_1 := mk0 hi151_1; have HC151_1 := mk0 hl151_1; clear hi151_1 hl151_1; replace p151 := eq_true p151; replace q151 := eq_true q151; have ea_ := Option.some.inj (hx149_0.symm.trans hx151_0); injection ea_ with ea_ en_ ec_; subst ea_; subst ec_; clear en_; have ea_ := Option.some.inj (hx149_1.symm.trans hx151_1); injection ea_ with ea_ en_ ec_; subst ea_; subst ec_; clear en_)); try go_wp2_with (first | (go_at_call 36; (with_reducible refine (quorumlaw0_WritesWeight.calls kj4 _ _ ((rd_T34 l0_1 x4_1).f0) t150 _ ?side1 ?side2 A12.out).mono ?_); (case side1 => exact cb_ HR149_0 HB); (case side2 => exact HC149_0.out); rintro e w' ⟨rfl, ⟨nd, rfl⟩⟩; (try first | exact ⟨rfl, _, World.drewN_drewN _ _ _⟩ | exact ⟨rfl, _, Eq.trans (World.drewN_drewN _ _ _) (congrArg (World.drewN _) (Nat.add_assoc _ _ _))⟩); have p151 : 0 ≤ (x4_1 : Int) := of_decide_eq_true (by first | (with_reducible assumption) | assumption); have q151 : x4_1 < (l0_1.length : Int) := of_decide_eq_true (by first | (with_reducible assumption) | assumption); obtain ⟨ad151, A151_0, c151_0, A151_1, c151_1, e151, hx151_0, hx151_1, hl151_0, hi151_0, hl151_1, hi151_1⟩ := at_T34 HR0_1.out x4_1 p151 q151; obtain rfl : ad149 = ad151 := (by injection e151); replace hx151_0 := (bc_ HB hx151_0 :); replace hx151_1 := (bc_ HB hx151_1 :); have HR151_0 := mk0 hi151_0; have HC151_0 := mk0 hl151_0; clear hi151_0 hl151_0; have HR151_1 := mk0 hi151_1; have HC151_1 := mk0 hl151_1; clear hi151_1 hl151_1; replace p151 := eq_true p151; replace q151 := eq_true q151; have ea_ := Option.some.inj (hx149_0.symm.trans hx151_0); injection ea_ with ea_ en_ ec_; subst ea_; subst ec_; clear en_; have ea_ := Option.some.inj (hx149_1.symm.trans hx151_1); injection ea_ with ea_ en_ ec_; subst ea_; subst ec_; clear en_)))
          go_roundg kj4
          case measure => have := HK1.out; have := HJ4.out; omega
          case rel => exact ⟨(wrap64 ((wrap64 (x3_1 + t150)) + (((rd_T34 l0_1 x4_1).f1).length : Int))), (wrap64 (x4_1 + 1)), (by first | rfl | (simp only [i64_w]; done) | (simp; done) | (simp [*]; done)), (by first | rfl | (simp only [i64_w]; done) | (simp; done) | (simp [*]; done)), H', ⟨by have := HK1.out; have := HJ4.out; omega⟩, ⟨h_ BK147⟩, ⟨b_ HB⟩⟩
         ·rw [if_neg c11] at H
          exact absurd H (by simp)
        ·rw [if_neg c10] at H
         exact absurd H (by simp)
       ·replace c9 := Bool.eq_false_iff.mpr c9
        subst c9
        rw [if_neg (show ¬ (false = true) by decide)] at H
        obtain rfl := Option.some.inj H
        go_wp2
        repeat (go_quiet (fail); try go_wp2)
        go_ret
        exact ⟨by first | rfl | (simp [errW_none, errW_some] <;> rfl) | (simp [*, errW_none, errW_some] <;> rfl), b_ HB⟩

/-! ### quorumref12_Op: function 103 (by hand) -/
attribute [local go_sem high] eqA101
def plan_Is.ok (k t : Int) (key v lo hi : ByteArray) (top : Bool) (n : Int) (back : Bool) (m : Int) : Bool :=
  decide (1 ≤ k ∧ k ≤ 12) && (if k = 7 then decide (n = 1 ∨ n = 2) else if k = 9 ∨ k = 10 then decide (0 ≤ n ∧ n < 6) else decide (n = 0)) &&
  (if k ≤ 7 then decide (0 ≤ t ∧ t < m) else decide (t = 0)) && (if k ≤ 5 then !key.toList.isEmpty && decide ((key.size : Int) ≤ 12) else key.toList.isEmpty) &&
  (if k = 3 ∨ k = 4 then decide ((v.size : Int) ≤ 20) else v.toList.isEmpty) && (!back && lo.toList.isEmpty && hi.toList.isEmpty && !top)
theorem quorumref12_Op.bet (a b c : Int) : quorumref0_Between.f a b c = some (decide (b ≤ a) && decide (a ≤ c)) := by
  unfold quorumref0_Between.f
  by_cases h : b ≤ a <;> simp [h]
theorem quorumref12_Op.num (a b : Int) : quorumref0_Num.f a b = some (decide (0 ≤ a) && decide (a ≤ b)) := by
  unfold quorumref0_Num.f
  by_cases h : 0 ≤ a <;> simp [h]
theorem quorumref12_Op.key (a : ByteArray) : quorumref1_Key.f a = some (decide (1 ≤ (a.size : Int)) && decide ((a.size : Int) ≤ 12)) := by
  unfold quorumref1_Key.f
  rw [quorumref12_Op.bet]
  rfl
theorem quorumref12_Op.val (a : ByteArray) : quorumref1_Value.f a = some (decide ((a.size : Int) ≤ 20)) := rfl
theorem quorumref12_Op.emp (a : ByteArray) : (a.toList = [] ∧ a.toList.isEmpty = true ∧ (a.size : Int) ≤ 0) ∨ (¬ a.toList = [] ∧ a.toList.isEmpty = false ∧ 1 ≤ (a.size : Int)) := by
  have hl : a.toList.length = a.size := by rw [ByteArray.toList_eq]; rfl
  cases h : a.toList with
  | nil => rw [h] at hl; exact .inl ⟨rfl, rfl, by simp at hl; omega⟩
  | cons x t => rw [h] at hl; exact .inr ⟨by simp, rfl, by simp at hl; omega⟩
def quorumref12_Op.f (a0_0 : Int) (a0_1 : Int) (a0_2 : ByteArray) (a0_3 : ByteArray) (a0_4 : ByteArray) (a0_5 : ByteArray) (a0_6 : Bool) (a0_7 : Int) (a0_8 : Bool) (a1 : Int) : Option Bool := if a0_0 = 6 ∨ a1 < 1 ∨ 9 < a1 then none else some (plan_Is.ok a0_0 a0_1 a0_2 a0_3 a0_4 a0_5 a0_6 a0_7 a0_8 a1)
set_option maxHeartbeats 8000000 in
set_option maxRecDepth 100000 in
theorem quorumref12_Op.calls (a0_0 : Int) (a0_1 : Int) (a0_2 : ByteArray) (a0_3 : ByteArray) (a0_4 : ByteArray) (a0_5 : ByteArray) (a0_6 : Bool) (a0_7 : Int) (a0_8 : Bool) (a1 : Int) (r : Bool) (w : World) (h : quorumref12_Op.f a0_0 a0_1 a0_2 a0_3 a0_4 a0_5 a0_6 a0_7 a0_8 a1 = some r) :
    Calls Try.prog 103 #[.agg #[.int .i64 a0_0, .int .i64 a0_1, .string a0_2, .string a0_3, .string a0_4, .string a0_5, .bool a0_6, .int .i64 a0_7, .bool a0_8], .int .i64 a1] w fun e w' => e = .returned (.bool r) ∧ Below w.heap.size w w' := by
  unfold quorumref12_Op.f at h
  by_cases h6 : a0_0 = 6 ∨ a1 < 1 ∨ 9 < a1
  · rw [if_pos h6] at h; cases h
  rw [if_neg h6] at h
  obtain rfl := Option.some.inj h
  clear h
  have HB := mk0 (Below.refl w.heap.size w)
  have HS := mk0 (show wrap64 (a1 - 1) = a1 - 1 from (by unfold wrap64; omega))
  have hcl : (a0_0 < 1 ∨ 12 < a0_0) ∨ a0_0 = 1 ∨ a0_0 = 2 ∨ a0_0 = 3 ∨ a0_0 = 4 ∨ a0_0 = 5 ∨ a0_0 = 7 ∨ a0_0 = 8 ∨ a0_0 = 9 ∨ a0_0 = 10 ∨ a0_0 = 11 ∨ a0_0 = 12 := by omega
  rcases hcl with hk | rfl | rfl | rfl | rfl | rfl | rfl | rfl | rfl | rfl | rfl | rfl
  · skip
    have k1 : (a0_0 == 1) = false := beq_eq_false_iff_ne.2 (by omega)
    have k2 : (a0_0 == 2) = false := beq_eq_false_iff_ne.2 (by omega)
    have k3 : (a0_0 == 3) = false := beq_eq_false_iff_ne.2 (by omega)
    have k4 : (a0_0 == 4) = false := beq_eq_false_iff_ne.2 (by omega)
    have k5 : (a0_0 == 5) = false := beq_eq_false_iff_ne.2 (by omega)
    have k6 : (a0_0 == 6) = false := beq_eq_false_iff_ne.2 (by omega)
    have k7 : (a0_0 == 7) = false := beq_eq_false_iff_ne.2 (by omega)
    have k8 : (a0_0 == 8) = false := beq_eq_false_iff_ne.2 (by omega)
    have k9 : (a0_0 == 9) = false := beq_eq_false_iff_ne.2 (by omega)
    have k10 : (a0_0 == 10) = false := beq_eq_false_iff_ne.2 (by omega)
    have k11 : (a0_0 == 11) = false := beq_eq_false_iff_ne.2 (by omega)
    have k12 : (a0_0 == 12) = false := beq_eq_false_iff_ne.2 (by omega)
    go_enter Try.func103, Try.ntmps103
    go_wp2
    go_ret
    refine ⟨by simp [plan_Is.ok]; omega, by repeat (first | (with_reducible first | exact HB.out | apply bL_ | apply pN_ | apply b1_) | exact HB.out)⟩
  · skip
    go_enter Try.func103, Try.ntmps103
    go_wp2_with (first | (go_at_call 102; (with_reducible refine (quorumref0_Between.calls _ _ _ _ _ (quorumref12_Op.bet _ _ _ )).mono ?_); rintro e w' ⟨rfl, ⟨nd, rfl⟩⟩) | (go_at_call 62; (with_reducible refine (quorumref1_Key.calls _ _ _ (quorumref12_Op.key _ )).mono ?_); rintro e w' ⟨rfl, ⟨nd, rfl⟩⟩) | (go_at_call 93; (with_reducible refine (quorumref1_Value.calls _ _ _ (quorumref12_Op.val _ )).mono ?_); rintro e w' ⟨rfl, ⟨nd, rfl⟩⟩) | (go_at_call 39; (with_reducible refine (quorumref0_Num.calls _ _ _ _ (quorumref12_Op.num _ _ )).mono ?_); rintro e w' ⟨rfl, ⟨nd, rfl⟩⟩) | go_in)
    go_region
    go_wp2_with (first | (go_at_call 102; (with_reducible refine (quorumref0_Between.calls _ _ _ _ _ (quorumref12_Op.bet _ _ _ )).mono ?_); rintro e w' ⟨rfl, ⟨nd, rfl⟩⟩) | (go_at_call 62; (with_reducible refine (quorumref1_Key.calls _ _ _ (quorumref12_Op.key _ )).mono ?_); rintro e w' ⟨rfl, ⟨nd, rfl⟩⟩) | (go_at_call 93; (with_reducible refine (quorumref1_Value.calls _ _ _ (quorumref12_Op.val _ )).mono ?_); rintro e w' ⟨rfl, ⟨nd, rfl⟩⟩) | (go_at_call 39; (with_reducible refine (quorumref0_Num.calls _ _ _ _ (quorumref12_Op.num _ _ )).mono ?_); rintro e w' ⟨rfl, ⟨nd, rfl⟩⟩) | go_in)
    all_goals go_ret
    all_goals refine ⟨?_, by repeat (first | (with_reducible first | exact HB.out | apply bL_ | apply pN_ | apply b1_) | exact HB.out)⟩
    all_goals (have hs := HS.out; clear HB HS)
    all_goals (rcases quorumref12_Op.emp a0_2 with ⟨h2, h2b, h2c⟩ | ⟨h2, h2b, h2c⟩ <;> rcases quorumref12_Op.emp a0_3 with ⟨h3, h3b, h3c⟩ | ⟨h3, h3b, h3c⟩ <;> first | (exfalso; omega) | (simp_all [plan_Is.ok, Int.le_sub_one_iff]; done) | (cases a0_6 <;> cases a0_8 <;> simp_all [plan_Is.ok, Int.le_sub_one_iff] <;> (intros; first | omega | (exfalso; omega) | (intro hx; simp_all; done) | (simp_all; done))))
  · skip
    go_enter Try.func103, Try.ntmps103
    go_wp2_with (first | (go_at_call 102; (with_reducible refine (quorumref0_Between.calls _ _ _ _ _ (quorumref12_Op.bet _ _ _ )).mono ?_); rintro e w' ⟨rfl, ⟨nd, rfl⟩⟩) | (go_at_call 62; (with_reducible refine (quorumref1_Key.calls _ _ _ (quorumref12_Op.key _ )).mono ?_); rintro e w' ⟨rfl, ⟨nd, rfl⟩⟩) | (go_at_call 93; (with_reducible refine (quorumref1_Value.calls _ _ _ (quorumref12_Op.val _ )).mono ?_); rintro e w' ⟨rfl, ⟨nd, rfl⟩⟩) | (go_at_call 39; (with_reducible refine (quorumref0_Num.calls _ _ _ _ (quorumref12_Op.num _ _ )).mono ?_); rintro e w' ⟨rfl, ⟨nd, rfl⟩⟩) | go_in)
    go_region
    go_wp2_with (first | (go_at_call 102; (with_reducible refine (quorumref0_Between.calls _ _ _ _ _ (quorumref12_Op.bet _ _ _ )).mono ?_); rintro e w' ⟨rfl, ⟨nd, rfl⟩⟩) | (go_at_call 62; (with_reducible refine (quorumref1_Key.calls _ _ _ (quorumref12_Op.key _ )).mono ?_); rintro e w' ⟨rfl, ⟨nd, rfl⟩⟩) | (go_at_call 93; (with_reducible refine (quorumref1_Value.calls _ _ _ (quorumref12_Op.val _ )).mono ?_); rintro e w' ⟨rfl, ⟨nd, rfl⟩⟩) | (go_at_call 39; (with_reducible refine (quorumref0_Num.calls _ _ _ _ (quorumref12_Op.num _ _ )).mono ?_); rintro e w' ⟨rfl, ⟨nd, rfl⟩⟩) | go_in)
    all_goals go_ret
    all_goals refine ⟨?_, by repeat (first | (with_reducible first | exact HB.out | apply bL_ | apply pN_ | apply b1_) | exact HB.out)⟩
    all_goals (have hs := HS.out; clear HB HS)
    all_goals (rcases quorumref12_Op.emp a0_2 with ⟨h2, h2b, h2c⟩ | ⟨h2, h2b, h2c⟩ <;> rcases quorumref12_Op.emp a0_3 with ⟨h3, h3b, h3c⟩ | ⟨h3, h3b, h3c⟩ <;> first | (exfalso; omega) | (simp_all [plan_Is.ok, Int.le_sub_one_iff]; done) | (cases a0_6 <;> cases a0_8 <;> simp_all [plan_Is.ok, Int.le_sub_one_iff] <;> (intros; first | omega | (exfalso; omega) | (intro hx; simp_all; done) | (simp_all; done))))
  · skip
    go_enter Try.func103, Try.ntmps103
    go_wp2_with (first | (go_at_call 102; (with_reducible refine (quorumref0_Between.calls _ _ _ _ _ (quorumref12_Op.bet _ _ _ )).mono ?_); rintro e w' ⟨rfl, ⟨nd, rfl⟩⟩) | (go_at_call 62; (with_reducible refine (quorumref1_Key.calls _ _ _ (quorumref12_Op.key _ )).mono ?_); rintro e w' ⟨rfl, ⟨nd, rfl⟩⟩) | (go_at_call 93; (with_reducible refine (quorumref1_Value.calls _ _ _ (quorumref12_Op.val _ )).mono ?_); rintro e w' ⟨rfl, ⟨nd, rfl⟩⟩) | (go_at_call 39; (with_reducible refine (quorumref0_Num.calls _ _ _ _ (quorumref12_Op.num _ _ )).mono ?_); rintro e w' ⟨rfl, ⟨nd, rfl⟩⟩) | go_in)
    go_region
    go_wp2_with (first | (go_at_call 102; (with_reducible refine (quorumref0_Between.calls _ _ _ _ _ (quorumref12_Op.bet _ _ _ )).mono ?_); rintro e w' ⟨rfl, ⟨nd, rfl⟩⟩) | (go_at_call 62; (with_reducible refine (quorumref1_Key.calls _ _ _ (quorumref12_Op.key _ )).mono ?_); rintro e w' ⟨rfl, ⟨nd, rfl⟩⟩) | (go_at_call 93; (with_reducible refine (quorumref1_Value.calls _ _ _ (quorumref12_Op.val _ )).mono ?_); rintro e w' ⟨rfl, ⟨nd, rfl⟩⟩) | (go_at_call 39; (with_reducible refine (quorumref0_Num.calls _ _ _ _ (quorumref12_Op.num _ _ )).mono ?_); rintro e w' ⟨rfl, ⟨nd, rfl⟩⟩) | go_in)
    all_goals go_ret
    all_goals refine ⟨?_, by repeat (first | (with_reducible first | exact HB.out | apply bL_ | apply pN_ | apply b1_) | exact HB.out)⟩
    all_goals (have hs := HS.out; clear HB HS)
    all_goals (rcases quorumref12_Op.emp a0_2 with ⟨h2, h2b, h2c⟩ | ⟨h2, h2b, h2c⟩ <;> rcases quorumref12_Op.emp a0_3 with ⟨h3, h3b, h3c⟩ | ⟨h3, h3b, h3c⟩ <;> first | (exfalso; omega) | (simp_all [plan_Is.ok, Int.le_sub_one_iff]; done) | (cases a0_6 <;> cases a0_8 <;> simp_all [plan_Is.ok, Int.le_sub_one_iff] <;> (intros; first | omega | (exfalso; omega) | (intro hx; simp_all; done) | (simp_all; done))))
  · skip
    go_enter Try.func103, Try.ntmps103
    go_wp2_with (first | (go_at_call 102; (with_reducible refine (quorumref0_Between.calls _ _ _ _ _ (quorumref12_Op.bet _ _ _ )).mono ?_); rintro e w' ⟨rfl, ⟨nd, rfl⟩⟩) | (go_at_call 62; (with_reducible refine (quorumref1_Key.calls _ _ _ (quorumref12_Op.key _ )).mono ?_); rintro e w' ⟨rfl, ⟨nd, rfl⟩⟩) | (go_at_call 93; (with_reducible refine (quorumref1_Value.calls _ _ _ (quorumref12_Op.val _ )).mono ?_); rintro e w' ⟨rfl, ⟨nd, rfl⟩⟩) | (go_at_call 39; (with_reducible refine (quorumref0_Num.calls _ _ _ _ (quorumref12_Op.num _ _ )).mono ?_); rintro e w' ⟨rfl, ⟨nd, rfl⟩⟩) | go_in)
    go_region
    go_wp2_with (first | (go_at_call 102; (with_reducible refine (quorumref0_Between.calls _ _ _ _ _ (quorumref12_Op.bet _ _ _ )).mono ?_); rintro e w' ⟨rfl, ⟨nd, rfl⟩⟩) | (go_at_call 62; (with_reducible refine (quorumref1_Key.calls _ _ _ (quorumref12_Op.key _ )).mono ?_); rintro e w' ⟨rfl, ⟨nd, rfl⟩⟩) | (go_at_call 93; (with_reducible refine (quorumref1_Value.calls _ _ _ (quorumref12_Op.val _ )).mono ?_); rintro e w' ⟨rfl, ⟨nd, rfl⟩⟩) | (go_at_call 39; (with_reducible refine (quorumref0_Num.calls _ _ _ _ (quorumref12_Op.num _ _ )).mono ?_); rintro e w' ⟨rfl, ⟨nd, rfl⟩⟩) | go_in)
    all_goals go_ret
    all_goals refine ⟨?_, by repeat (first | (with_reducible first | exact HB.out | apply bL_ | apply pN_ | apply b1_) | exact HB.out)⟩
    all_goals (have hs := HS.out; clear HB HS)
    all_goals (rcases quorumref12_Op.emp a0_2 with ⟨h2, h2b, h2c⟩ | ⟨h2, h2b, h2c⟩ <;> rcases quorumref12_Op.emp a0_3 with ⟨h3, h3b, h3c⟩ | ⟨h3, h3b, h3c⟩ <;> first | (exfalso; omega) | (simp_all [plan_Is.ok, Int.le_sub_one_iff]; done) | (cases a0_6 <;> cases a0_8 <;> simp_all [plan_Is.ok, Int.le_sub_one_iff] <;> (intros; first | omega | (exfalso; omega) | (intro hx; simp_all; done) | (simp_all; done))))
  · skip
    go_enter Try.func103, Try.ntmps103
    go_wp2_with (first | (go_at_call 102; (with_reducible refine (quorumref0_Between.calls _ _ _ _ _ (quorumref12_Op.bet _ _ _ )).mono ?_); rintro e w' ⟨rfl, ⟨nd, rfl⟩⟩) | (go_at_call 62; (with_reducible refine (quorumref1_Key.calls _ _ _ (quorumref12_Op.key _ )).mono ?_); rintro e w' ⟨rfl, ⟨nd, rfl⟩⟩) | (go_at_call 93; (with_reducible refine (quorumref1_Value.calls _ _ _ (quorumref12_Op.val _ )).mono ?_); rintro e w' ⟨rfl, ⟨nd, rfl⟩⟩) | (go_at_call 39; (with_reducible refine (quorumref0_Num.calls _ _ _ _ (quorumref12_Op.num _ _ )).mono ?_); rintro e w' ⟨rfl, ⟨nd, rfl⟩⟩) | go_in)
    go_region
    go_wp2_with (first | (go_at_call 102; (with_reducible refine (quorumref0_Between.calls _ _ _ _ _ (quorumref12_Op.bet _ _ _ )).mono ?_); rintro e w' ⟨rfl, ⟨nd, rfl⟩⟩) | (go_at_call 62; (with_reducible refine (quorumref1_Key.calls _ _ _ (quorumref12_Op.key _ )).mono ?_); rintro e w' ⟨rfl, ⟨nd, rfl⟩⟩) | (go_at_call 93; (with_reducible refine (quorumref1_Value.calls _ _ _ (quorumref12_Op.val _ )).mono ?_); rintro e w' ⟨rfl, ⟨nd, rfl⟩⟩) | (go_at_call 39; (with_reducible refine (quorumref0_Num.calls _ _ _ _ (quorumref12_Op.num _ _ )).mono ?_); rintro e w' ⟨rfl, ⟨nd, rfl⟩⟩) | go_in)
    all_goals go_ret
    all_goals refine ⟨?_, by repeat (first | (with_reducible first | exact HB.out | apply bL_ | apply pN_ | apply b1_) | exact HB.out)⟩
    all_goals (have hs := HS.out; clear HB HS)
    all_goals (rcases quorumref12_Op.emp a0_2 with ⟨h2, h2b, h2c⟩ | ⟨h2, h2b, h2c⟩ <;> rcases quorumref12_Op.emp a0_3 with ⟨h3, h3b, h3c⟩ | ⟨h3, h3b, h3c⟩ <;> first | (exfalso; omega) | (simp_all [plan_Is.ok, Int.le_sub_one_iff]; done) | (cases a0_6 <;> cases a0_8 <;> simp_all [plan_Is.ok, Int.le_sub_one_iff] <;> (intros; first | omega | (exfalso; omega) | (intro hx; simp_all; done) | (simp_all; done))))
  · skip
    go_enter Try.func103, Try.ntmps103
    go_wp2_with (first | (go_at_call 102; (with_reducible refine (quorumref0_Between.calls _ _ _ _ _ (quorumref12_Op.bet _ _ _ )).mono ?_); rintro e w' ⟨rfl, ⟨nd, rfl⟩⟩) | (go_at_call 62; (with_reducible refine (quorumref1_Key.calls _ _ _ (quorumref12_Op.key _ )).mono ?_); rintro e w' ⟨rfl, ⟨nd, rfl⟩⟩) | (go_at_call 93; (with_reducible refine (quorumref1_Value.calls _ _ _ (quorumref12_Op.val _ )).mono ?_); rintro e w' ⟨rfl, ⟨nd, rfl⟩⟩) | (go_at_call 39; (with_reducible refine (quorumref0_Num.calls _ _ _ _ (quorumref12_Op.num _ _ )).mono ?_); rintro e w' ⟨rfl, ⟨nd, rfl⟩⟩) | go_in)
    go_region
    go_wp2_with (first | (go_at_call 102; (with_reducible refine (quorumref0_Between.calls _ _ _ _ _ (quorumref12_Op.bet _ _ _ )).mono ?_); rintro e w' ⟨rfl, ⟨nd, rfl⟩⟩) | (go_at_call 62; (with_reducible refine (quorumref1_Key.calls _ _ _ (quorumref12_Op.key _ )).mono ?_); rintro e w' ⟨rfl, ⟨nd, rfl⟩⟩) | (go_at_call 93; (with_reducible refine (quorumref1_Value.calls _ _ _ (quorumref12_Op.val _ )).mono ?_); rintro e w' ⟨rfl, ⟨nd, rfl⟩⟩) | (go_at_call 39; (with_reducible refine (quorumref0_Num.calls _ _ _ _ (quorumref12_Op.num _ _ )).mono ?_); rintro e w' ⟨rfl, ⟨nd, rfl⟩⟩) | go_in)
    all_goals go_ret
    all_goals refine ⟨?_, by repeat (first | (with_reducible first | exact HB.out | apply bL_ | apply pN_ | apply b1_) | exact HB.out)⟩
    all_goals (have hs := HS.out; clear HB HS)
    all_goals (rcases quorumref12_Op.emp a0_2 with ⟨h2, h2b, h2c⟩ | ⟨h2, h2b, h2c⟩ <;> rcases quorumref12_Op.emp a0_3 with ⟨h3, h3b, h3c⟩ | ⟨h3, h3b, h3c⟩ <;> first | (exfalso; omega) | (simp_all [plan_Is.ok, Int.le_sub_one_iff]; done) | (cases a0_6 <;> cases a0_8 <;> simp_all [plan_Is.ok, Int.le_sub_one_iff] <;> (intros; first | omega | (exfalso; omega) | (intro hx; simp_all; done) | (simp_all; done))))
  · skip
    go_enter Try.func103, Try.ntmps103
    go_wp2_with (first | (go_at_call 102; (with_reducible refine (quorumref0_Between.calls _ _ _ _ _ (quorumref12_Op.bet _ _ _ )).mono ?_); rintro e w' ⟨rfl, ⟨nd, rfl⟩⟩) | (go_at_call 62; (with_reducible refine (quorumref1_Key.calls _ _ _ (quorumref12_Op.key _ )).mono ?_); rintro e w' ⟨rfl, ⟨nd, rfl⟩⟩) | (go_at_call 93; (with_reducible refine (quorumref1_Value.calls _ _ _ (quorumref12_Op.val _ )).mono ?_); rintro e w' ⟨rfl, ⟨nd, rfl⟩⟩) | (go_at_call 39; (with_reducible refine (quorumref0_Num.calls _ _ _ _ (quorumref12_Op.num _ _ )).mono ?_); rintro e w' ⟨rfl, ⟨nd, rfl⟩⟩) | go_in)
    all_goals go_ret
    all_goals refine ⟨?_, by repeat (first | (with_reducible first | exact HB.out | apply bL_ | apply pN_ | apply b1_) | exact HB.out)⟩
    all_goals (have hs := HS.out; clear HB HS)
    all_goals (rcases quorumref12_Op.emp a0_2 with ⟨h2, h2b, h2c⟩ | ⟨h2, h2b, h2c⟩ <;> rcases quorumref12_Op.emp a0_3 with ⟨h3, h3b, h3c⟩ | ⟨h3, h3b, h3c⟩ <;> first | (exfalso; omega) | (simp_all [plan_Is.ok, Int.le_sub_one_iff]; done) | (cases a0_6 <;> cases a0_8 <;> simp_all [plan_Is.ok, Int.le_sub_one_iff] <;> (intros; first | omega | (exfalso; omega) | (intro hx; simp_all; done) | (simp_all; done))))
  · skip
    go_enter Try.func103, Try.ntmps103
    go_wp2_with (first | (go_at_call 102; (with_reducible refine (quorumref0_Between.calls _ _ _ _ _ (quorumref12_Op.bet _ _ _ )).mono ?_); rintro e w' ⟨rfl, ⟨nd, rfl⟩⟩) | (go_at_call 62; (with_reducible refine (quorumref1_Key.calls _ _ _ (quorumref12_Op.key _ )).mono ?_); rintro e w' ⟨rfl, ⟨nd, rfl⟩⟩) | (go_at_call 93; (with_reducible refine (quorumref1_Value.calls _ _ _ (quorumref12_Op.val _ )).mono ?_); rintro e w' ⟨rfl, ⟨nd, rfl⟩⟩) | (go_at_call 39; (with_reducible refine (quorumref0_Num.calls _ _ _ _ (quorumref12_Op.num _ _ )).mono ?_); rintro e w' ⟨rfl, ⟨nd, rfl⟩⟩) | go_in)
    all_goals go_ret
    all_goals refine ⟨?_, by repeat (first | (with_reducible first | exact HB.out | apply bL_ | apply pN_ | apply b1_) | exact HB.out)⟩
    all_goals (have hs := HS.out; clear HB HS)
    all_goals (rcases quorumref12_Op.emp a0_2 with ⟨h2, h2b, h2c⟩ | ⟨h2, h2b, h2c⟩ <;> rcases quorumref12_Op.emp a0_3 with ⟨h3, h3b, h3c⟩ | ⟨h3, h3b, h3c⟩ <;> first | (exfalso; omega) | (simp_all [plan_Is.ok, Int.le_sub_one_iff]; done) | (cases a0_6 <;> cases a0_8 <;> simp_all [plan_Is.ok, Int.le_sub_one_iff] <;> (intros; first | omega | (exfalso; omega) | (intro hx; simp_all; done) | (simp_all; done))))
  · skip
    go_enter Try.func103, Try.ntmps103
    go_wp2_with (first | (go_at_call 102; (with_reducible refine (quorumref0_Between.calls _ _ _ _ _ (quorumref12_Op.bet _ _ _ )).mono ?_); rintro e w' ⟨rfl, ⟨nd, rfl⟩⟩) | (go_at_call 62; (with_reducible refine (quorumref1_Key.calls _ _ _ (quorumref12_Op.key _ )).mono ?_); rintro e w' ⟨rfl, ⟨nd, rfl⟩⟩) | (go_at_call 93; (with_reducible refine (quorumref1_Value.calls _ _ _ (quorumref12_Op.val _ )).mono ?_); rintro e w' ⟨rfl, ⟨nd, rfl⟩⟩) | (go_at_call 39; (with_reducible refine (quorumref0_Num.calls _ _ _ _ (quorumref12_Op.num _ _ )).mono ?_); rintro e w' ⟨rfl, ⟨nd, rfl⟩⟩) | go_in)
    all_goals go_ret
    all_goals refine ⟨?_, by repeat (first | (with_reducible first | exact HB.out | apply bL_ | apply pN_ | apply b1_) | exact HB.out)⟩
    all_goals (have hs := HS.out; clear HB HS)
    all_goals (rcases quorumref12_Op.emp a0_2 with ⟨h2, h2b, h2c⟩ | ⟨h2, h2b, h2c⟩ <;> rcases quorumref12_Op.emp a0_3 with ⟨h3, h3b, h3c⟩ | ⟨h3, h3b, h3c⟩ <;> first | (exfalso; omega) | (simp_all [plan_Is.ok, Int.le_sub_one_iff]; done) | (cases a0_6 <;> cases a0_8 <;> simp_all [plan_Is.ok, Int.le_sub_one_iff] <;> (intros; first | omega | (exfalso; omega) | (intro hx; simp_all; done) | (simp_all; done))))
  · skip
    go_enter Try.func103, Try.ntmps103
    go_wp2_with (first | (go_at_call 102; (with_reducible refine (quorumref0_Between.calls _ _ _ _ _ (quorumref12_Op.bet _ _ _ )).mono ?_); rintro e w' ⟨rfl, ⟨nd, rfl⟩⟩) | (go_at_call 62; (with_reducible refine (quorumref1_Key.calls _ _ _ (quorumref12_Op.key _ )).mono ?_); rintro e w' ⟨rfl, ⟨nd, rfl⟩⟩) | (go_at_call 93; (with_reducible refine (quorumref1_Value.calls _ _ _ (quorumref12_Op.val _ )).mono ?_); rintro e w' ⟨rfl, ⟨nd, rfl⟩⟩) | (go_at_call 39; (with_reducible refine (quorumref0_Num.calls _ _ _ _ (quorumref12_Op.num _ _ )).mono ?_); rintro e w' ⟨rfl, ⟨nd, rfl⟩⟩) | go_in)
    all_goals go_ret
    all_goals refine ⟨?_, by repeat (first | (with_reducible first | exact HB.out | apply bL_ | apply pN_ | apply b1_) | exact HB.out)⟩
    all_goals (have hs := HS.out; clear HB HS)
    all_goals (rcases quorumref12_Op.emp a0_2 with ⟨h2, h2b, h2c⟩ | ⟨h2, h2b, h2c⟩ <;> rcases quorumref12_Op.emp a0_3 with ⟨h3, h3b, h3c⟩ | ⟨h3, h3b, h3c⟩ <;> first | (exfalso; omega) | (simp_all [plan_Is.ok, Int.le_sub_one_iff]; done) | (cases a0_6 <;> cases a0_8 <;> simp_all [plan_Is.ok, Int.le_sub_one_iff] <;> (intros; first | omega | (exfalso; omega) | (intro hx; simp_all; done) | (simp_all; done))))
  · skip
    go_enter Try.func103, Try.ntmps103
    go_wp2_with (first | (go_at_call 102; (with_reducible refine (quorumref0_Between.calls _ _ _ _ _ (quorumref12_Op.bet _ _ _ )).mono ?_); rintro e w' ⟨rfl, ⟨nd, rfl⟩⟩) | (go_at_call 62; (with_reducible refine (quorumref1_Key.calls _ _ _ (quorumref12_Op.key _ )).mono ?_); rintro e w' ⟨rfl, ⟨nd, rfl⟩⟩) | (go_at_call 93; (with_reducible refine (quorumref1_Value.calls _ _ _ (quorumref12_Op.val _ )).mono ?_); rintro e w' ⟨rfl, ⟨nd, rfl⟩⟩) | (go_at_call 39; (with_reducible refine (quorumref0_Num.calls _ _ _ _ (quorumref12_Op.num _ _ )).mono ?_); rintro e w' ⟨rfl, ⟨nd, rfl⟩⟩) | go_in)
    all_goals go_ret
    all_goals refine ⟨?_, by repeat (first | (with_reducible first | exact HB.out | apply bL_ | apply pN_ | apply b1_) | exact HB.out)⟩
    all_goals (have hs := HS.out; clear HB HS)
    all_goals (rcases quorumref12_Op.emp a0_2 with ⟨h2, h2b, h2c⟩ | ⟨h2, h2b, h2c⟩ <;> rcases quorumref12_Op.emp a0_3 with ⟨h3, h3b, h3c⟩ | ⟨h3, h3b, h3c⟩ <;> first | (exfalso; omega) | (simp_all [plan_Is.ok, Int.le_sub_one_iff]; done) | (cases a0_6 <;> cases a0_8 <;> simp_all [plan_Is.ok, Int.le_sub_one_iff] <;> (intros; first | omega | (exfalso; omega) | (intro hx; simp_all; done) | (simp_all; done))))


/-! ### quorumlaw12_num: function 104 -/
def quorumlaw12_num.f (a0 : Int) : Option (Int) := some a0
set_option maxHeartbeats 8000000 in
set_option maxRecDepth 100000 in
theorem quorumlaw12_num.calls (a0 : Int) (r : Int) (w : World) (h : quorumlaw12_num.f a0 = some r) :
  Calls Try.prog 104 #[.int .i64 a0] w fun e w' => e = .returned (.int .i64 r) ∧ Drawn0 w w' := by
 have H : (some a0) = some r := h
 clear h
 obtain rfl := Option.some.inj H
 go_enter Try.func104, Try.ntmps104
 go_wp2
 go_ret
 exact ⟨by first | rfl | (simp; done) | (simp [*]; done), by repeat (first | exact Drawn0.refl _ | apply Drawn0.step)⟩

/-! ### key_Is: function 42 -/
def key_Is.f (a0 : ByteArray) : Option (Bool) := if a0.toList = ([] : List UInt8) then (some false) else (some (decide ((a0.size : Int) ≤ 12)))
set_option maxHeartbeats 8000000 in
set_option maxRecDepth 100000 in
theorem key_Is.calls (a0 : ByteArray) (r : Bool) (w : World) (h : key_Is.f a0 = some r) :
  Calls Try.prog 42 #[.string a0] w fun e w' => e = .returned (.bool r) ∧ Drawn0 w w' := by
 have H : (if a0.toList = ([] : List UInt8) then (some false) else (some (decide ((a0.size : Int) ≤ 12)))) = some r := h
 clear h
 by_cases c2 : a0.toList = ([] : List UInt8)
 ·rw [if_pos c2] at H
  have c2b0 : (a0.toList == ([] : List UInt8)) = true := beq_iff_eq.mpr c2
  have c2b1 : (a0.toList != ([] : List UInt8)) = false := bne_eq_false_iff_eq.mpr c2
  clear c2
  obtain rfl := Option.some.inj H
  go_enter Try.func42, Try.ntmps42
  go_wp2
  go_ret
  exact ⟨by first | rfl | (simp; done) | (simp [*]; done), by repeat (first | exact Drawn0.refl _ | apply Drawn0.step)⟩
 ·rw [if_neg c2] at H
  have c2b0 : (a0.toList == ([] : List UInt8)) = false := beq_eq_false_iff_ne.mpr c2
  have c2b1 : (a0.toList != ([] : List UInt8)) = true := bne_iff_ne.mpr c2
  obtain rfl := Option.some.inj H
  go_enter Try.func42, Try.ntmps42
  go_wp2
  go_ret
  exact ⟨by first | rfl | (simp; done) | (simp [*]; done), by repeat (first | exact Drawn0.refl _ | apply Drawn0.step)⟩

/-! ### key_May: function 131 -/
def key_May.j0 : Nat → Bool → ByteArray → ByteArray → Bool → Option (Bool)
 | 0, _, _, _, _ => none
 | k + 1, x12, x153000, x153001, x153002 => if x12 = true then (some false) else (if x153002 = true then (some (x153001.toList == ([] : List UInt8))) else (some (!(Op.bytesLess x153001.toList x153000.toList))))
def key_May.f (k : Nat) (a0_0 : ByteArray) (a0_1 : ByteArray) (a0_2 : Bool) : Option (Bool) := if (a0_0.size : Int) > 13 then (key_May.j0 k true a0_0 a0_1 a0_2) else (key_May.j0 k (decide ((a0_1.size : Int) > 13)) a0_0 a0_1 a0_2)
theorem key_May.mono_l : ∀ k, (∀ y0 y1 y2 y3, LeO (key_May.j0 k y0 y1 y2 y3) (key_May.j0 (k + 1) y0 y1 y2 y3))
 | 0 => fun _ _ _ _ r h => by simp [key_May.j0] at h
 | k + 1 => by
  have ih0 := key_May.mono_l k
  ·intro y0 y1 y2 y3
   unfold key_May.j0
   repeat' first
   | (with_reducible exact ih0 _ _ _ _)
   | (with_reducible exact LeO.refl _)
   | (with_reducible exact LeO.none _)
   | (with_reducible refine LeO.ite ?_ ?_)
   | (with_reducible refine LeO.bind ?_ (fun _ => ?_))
   | exact ih0 _ _ _ _
   | exact LeO.none _
   | refine LeO.ite ?_ ?_
   | refine LeO.bind ?_ (fun _ => ?_)
theorem key_May.mono : ∀ a0 a1 a2 k, LeO (key_May.f k a0 a1 a2) (key_May.f (k + 1) a0 a1 a2) := by
 intro a0 a1 a2 k
 have ih0 := key_May.mono_l k
 unfold key_May.f
 repeat' first
   | (with_reducible exact ih0 _ _ _ _)
   | (with_reducible exact LeO.refl _)
   | (with_reducible exact LeO.none _)
   | (with_reducible refine LeO.ite ?_ ?_)
   | (with_reducible refine LeO.bind ?_ (fun _ => ?_))
   | exact ih0 _ _ _ _
   | exact LeO.none _
   | refine LeO.ite ?_ ?_
   | refine LeO.bind ?_ (fun _ => ?_)
set_option maxHeartbeats 8000000 in
set_option maxRecDepth 100000 in
theorem key_May.calls (k : Nat) (a0_0 : ByteArray) (a0_1 : ByteArray) (a0_2 : Bool) (r : Bool) (w : World) (h : key_May.f k a0_0 a0_1 a0_2 = some r) :
  Calls Try.prog 131 #[.agg #[.string a0_0, .string a0_1, .bool a0_2]] w fun e w' => e = .returned (.bool r) ∧ Below w.heap.size w w' := by
 have hu74 := Try.underlying74
 have HB := mk0 (Below.refl w.heap.size w)
 have H : (if (a0_0.size : Int) > 13 then (key_May.j0 k true a0_0 a0_1 a0_2) else (key_May.j0 k (decide ((a0_1.size : Int) > 13)) a0_0 a0_1 a0_2)) = some r := h
 clear h
 have HC2 := mk0 H
 clear H
 go_enter Try.func131, Try.ntmps131
 go_upto_region 1 with (first | ((with_reducible refine gate_dst (N := 1) rfl ?_); (try (refine gate_guard (by rfl) ?_; dsimp only)); refine bx_ (N := 1) (cs := #[.string a0_0, .string a0_1, .bool a0_2]) (t := 74) (h := ?_); intro gb152 hg w3 hbox hb; have n2_ := mk0 (gz_ HB hg); have n3_ := mk0 (gz_ HB hg); replace HB := mk0 (bt_ (b_ HB) hb); have BK152 := mk0 (hbox); have GW152 := n2_; have GE152 := n3_; clear n2_ n3_; clear hb hbox hg))
 (try simp only [Act.put, List.setIfInBounds_toArray, List.set_cons_zero, List.set_cons_succ])
 go_cut [12] (fun v12 wc => ∃ (kq : Nat) (x12_1 : Bool), v12 = .bool x12_1 ∧ Fc (key_May.j0 kq x12_1 a0_0 a0_1 a0_2 = some r) ∧ Fc (kq ≤ k) ∧ Fc (wc.heap[gb152]? = some (.cells #[.string a0_0, .string a0_1, .bool a0_2] 74 (0, 0))) ∧ Fc (Below w.heap.size w wc))
 case first =>
  have H := HC2.out
  clear HC2
  by_cases c4 : (a0_0.size : Int) > 13
  ·rw [if_pos c4] at H
   have c4b0 : decide (13 < (a0_0.size : Int)) = true := decide_eq_true c4
   have c4b1 : decide (13 < a0_0.size) = true := decide_eq_true (by omega)
   clear c4
   (first | rw [c4b0] | (simp only [i64_w, i32_w]; rw [c4b0]) | skip)
   have H' := mk0 H
   clear H
   obtain ⟨hcz5_0, hcz5_1, hcz5_2, hfz5_0, hfz5_1, hfz5_2⟩ := c3_ BK152
   go_wp2
   go_meet
   case rel => exact ⟨_, (true), (by first | rfl | (simp; done) | (simp [*]; done)), H', ⟨by first | omega | exact Nat.le_refl _⟩, ⟨h_ BK152⟩, ⟨b_ HB⟩⟩
  ·rw [if_neg c4] at H
   have c4b0 : decide (13 < (a0_0.size : Int)) = false := decide_eq_false c4
   have c4b1 : decide (13 < a0_0.size) = false := decide_eq_false (by omega)
   clear c4
   (first | rw [c4b0] | (simp only [i64_w, i32_w]; rw [c4b0]) | skip)
   have H' := mk0 H
   clear H
   obtain ⟨hcz6_0, hcz6_1, hcz6_2, hfz6_0, hfz6_1, hfz6_2⟩ := c3_ BK152
   go_wp2
   go_meet
   case rel => exact ⟨_, (decide ((a0_1.size : Int) > 13)), (by first | rfl | (simp; done) | (simp [*]; done)), H', ⟨by first | omega | exact Nat.le_refl _⟩, ⟨h_ BK152⟩, ⟨b_ HB⟩⟩
 case rest =>
  clear HC2
  try clear c4
  try clear c4b0
  try clear c4b1
  try clear hcz5_0
  try clear hcz5_1
  try clear hcz5_2
  try clear hcz6_0
  try clear hcz6_1
  try clear hcz6_2
  try clear hfz5_0
  try clear hfz5_1
  try clear hfz5_2
  try clear hfz6_0
  try clear hfz6_1
  try clear hfz6_2
  obtain ⟨kq, x12_1, rfl, HA, HJ1, BK152, HB⟩ := hcut
  cases kq with
  | zero => exact absurd HA.out (by simp [key_May.j0])
  | succ kj1 =>
   have H := HA.out
   clear HA
   simp only [key_May.j0] at H
   as_aux_lemma =>
    by_cases c7 : x12_1 = true
    ·subst c7
     rw [if_pos rfl] at H
     obtain rfl := Option.some.inj H
     go_wp2
     go_ret
     exact ⟨by first | rfl | (simp [errW_none, errW_some] <;> rfl) | (simp [*, errW_none, errW_some] <;> rfl), b_ HB⟩
    ·replace c7 := Bool.eq_false_iff.mpr c7
     subst c7
     rw [if_neg (show ¬ (false = true) by decide)] at H
     by_cases c8 : a0_2 = true
     ·subst c8
      rw [if_pos rfl] at H
      obtain rfl := Option.some.inj H
      obtain ⟨hcz9_0, hcz9_1, hcz9_2, hfz9_0, hfz9_1, hfz9_2⟩ := c3_ BK152
      go_wp2
      go_ret
      exact ⟨by first | rfl | (simp [errW_none, errW_some] <;> rfl) | (simp [*, errW_none, errW_some] <;> rfl), b_ HB⟩
     ·replace c8 := Bool.eq_false_iff.mpr c8
      subst c8
      rw [if_neg (show ¬ (false = true) by decide)] at H
      obtain rfl := Option.some.inj H
      obtain ⟨hcz10_0, hcz10_1, hcz10_2, hfz10_0, hfz10_1, hfz10_2⟩ := c3_ BK152
      go_wp2
      go_ret
      exact ⟨by first | rfl | (simp [errW_none, errW_some] <;> rfl) | (simp [*, errW_none, errW_some] <;> rfl), b_ HB⟩

/-! ### key_Fits: function 163 -/
def key_Fits.f (a0 : ByteArray) : Option (Bool) := some (decide ((a0.size : Int) ≤ 20))
set_option maxHeartbeats 8000000 in
set_option maxRecDepth 100000 in
theorem key_Fits.calls (a0 : ByteArray) (r : Bool) (w : World) (h : key_Fits.f a0 = some r) :
  Calls Try.prog 163 #[.string a0] w fun e w' => e = .returned (.bool r) ∧ Drawn0 w w' := by
 have H : (some (decide ((a0.size : Int) ≤ 20))) = some r := h
 clear h
 obtain rfl := Option.some.inj H
 go_enter Try.func163, Try.ntmps163
 go_wp2
 go_ret
 exact ⟨by first | rfl | (simp; done) | (simp [*]; done), by repeat (first | exact Drawn0.refl _ | apply Drawn0.step)⟩

/-! ### plan_keyed: function 184 -/
def plan_keyed.f (a0_0 : Int) (a0_1 : Int) (a0_2 : ByteArray) (a0_3 : ByteArray) (a0_4 : ByteArray) (a0_5 : ByteArray) (a0_6 : Bool) (a0_7 : Int) (a0_8 : Bool) : Option (Bool) := if a0_0 ≥ 1 then (some (decide (a0_0 ≤ 5))) else (some false)
set_option maxHeartbeats 8000000 in
set_option maxRecDepth 100000 in
theorem plan_keyed.calls (a0_0 : Int) (a0_1 : Int) (a0_2 : ByteArray) (a0_3 : ByteArray) (a0_4 : ByteArray) (a0_5 : ByteArray) (a0_6 : Bool) (a0_7 : Int) (a0_8 : Bool) (r : Bool) (w : World) (h : plan_keyed.f a0_0 a0_1 a0_2 a0_3 a0_4 a0_5 a0_6 a0_7 a0_8 = some r) :
  Calls Try.prog 184 #[.agg #[.int .i64 a0_0, .int .i64 a0_1, .string a0_2, .string a0_3, .string a0_4, .string a0_5, .bool a0_6, .int .i64 a0_7, .bool a0_8]] w fun e w' => e = .returned (.bool r) ∧ Below w.heap.size w w' := by
 have hu101 := Try.underlying101
 have HB := mk0 (Below.refl w.heap.size w)
 have H : (if a0_0 ≥ 1 then (some (decide (a0_0 ≤ 5))) else (some false)) = some r := h
 clear h
 by_cases c2 : a0_0 ≥ 1
 ·rw [if_pos c2] at H
  have c2b0 : decide (1 ≤ a0_0) = true := decide_eq_true c2
  clear c2
  obtain rfl := Option.some.inj H
  go_enter Try.func184, Try.ntmps184
  go_wp2_with (first | ((with_reducible refine gate_dst (N := 1) rfl ?_); refine bx_ (N := 1) (cs := #[.int .i64 a0_0, .int .i64 a0_1, .string a0_2, .string a0_3, .string a0_4, .string a0_5, .bool a0_6, .int .i64 a0_7, .bool a0_8]) (t := 101) (h := ?_); intro gb153 hg w3 hbox hb; have n2_ := mk0 (gz_ HB hg); have n3_ := mk0 (gz_ HB hg); replace HB := mk0 (bt_ (b_ HB) hb); have BK153 := mk0 (hbox); have GW153 := n2_; have GE153 := n3_; clear n2_ n3_ hb hbox hg; obtain ⟨hcz4_0, hcz4_1, hcz4_2, hcz4_3, hcz4_4, hcz4_5, hcz4_6, hcz4_7, hcz4_8, hfz4_0, hfz4_1, hfz4_2, hfz4_3, hfz4_4, hfz4_5, hfz4_6, hfz4_7, hfz4_8⟩ := c9_ BK153))
  go_ret
  exact ⟨by first | rfl | (simp [errW_none, errW_some] <;> rfl) | (simp [*, errW_none, errW_some] <;> rfl), b_ HB⟩
 ·rw [if_neg c2] at H
  have c2b0 : decide (1 ≤ a0_0) = false := decide_eq_false c2
  clear c2
  obtain rfl := Option.some.inj H
  go_enter Try.func184, Try.ntmps184
  go_wp2_with (first | ((with_reducible refine gate_dst (N := 1) rfl ?_); refine bx_ (N := 1) (cs := #[.int .i64 a0_0, .int .i64 a0_1, .string a0_2, .string a0_3, .string a0_4, .string a0_5, .bool a0_6, .int .i64 a0_7, .bool a0_8]) (t := 101) (h := ?_); intro gb153 hg w5 hbox hb; have n2_ := mk0 (gz_ HB hg); have n3_ := mk0 (gz_ HB hg); replace HB := mk0 (bt_ (b_ HB) hb); have BK153 := mk0 (hbox); have GW153 := n2_; have GE153 := n3_; clear n2_ n3_ hb hbox hg; obtain ⟨hcz6_0, hcz6_1, hcz6_2, hcz6_3, hcz6_4, hcz6_5, hcz6_6, hcz6_7, hcz6_8, hfz6_0, hfz6_1, hfz6_2, hfz6_3, hfz6_4, hfz6_5, hfz6_6, hfz6_7, hfz6_8⟩ := c9_ BK153))
  go_ret
  exact ⟨by first | rfl | (simp [errW_none, errW_some] <;> rfl) | (simp [*, errW_none, errW_some] <;> rfl), b_ HB⟩

/-! ### plan_Is: function 150 (by hand) -/
def plan_Is.f (a0_0 : Int) (a0_1 : Int) (a0_2 : ByteArray) (a0_3 : ByteArray) (a0_4 : ByteArray) (a0_5 : ByteArray) (a0_6 : Bool) (a0_7 : Int) (a0_8 : Bool) (a1 : Int) : Option Bool := if a0_0 = 6 then none else some (plan_Is.ok a0_0 a0_1 a0_2 a0_3 a0_4 a0_5 a0_6 a0_7 a0_8 a1)
set_option maxHeartbeats 8000000 in
set_option maxRecDepth 100000 in
theorem plan_Is.calls (a0_0 : Int) (a0_1 : Int) (a0_2 : ByteArray) (a0_3 : ByteArray) (a0_4 : ByteArray) (a0_5 : ByteArray) (a0_6 : Bool) (a0_7 : Int) (a0_8 : Bool) (a1 : Int) (r : Bool) (w : World) (h : plan_Is.f a0_0 a0_1 a0_2 a0_3 a0_4 a0_5 a0_6 a0_7 a0_8 a1 = some r) :
    Calls Try.prog 150 #[.agg #[.int .i64 a0_0, .int .i64 a0_1, .string a0_2, .string a0_3, .string a0_4, .string a0_5, .bool a0_6, .int .i64 a0_7, .bool a0_8], .int .i64 a1] w fun e w' => e = .returned (.bool r) ∧ Below w.heap.size w w' := by
  unfold plan_Is.f at h
  by_cases h6 : a0_0 = 6
  · rw [if_pos h6] at h; cases h
  rw [if_neg h6] at h
  obtain rfl := Option.some.inj h
  clear h
  have HB := mk0 (Below.refl w.heap.size w)
  have e6 : (a0_0 == 6) = false := beq_eq_false_iff_ne.2 h6
  have hcl : a0_0 < 1 ∨ 12 < a0_0 ∨ (a0_0 = 1 ∨ a0_0 = 2 ∨ a0_0 = 5) ∨ (a0_0 = 3 ∨ a0_0 = 4) ∨ a0_0 = 7 ∨ (a0_0 = 9 ∨ a0_0 = 10) ∨ (a0_0 = 8 ∨ a0_0 = 11 ∨ a0_0 = 12) := by omega
  rcases hcl with hk | hk | hk | hk | hk | hk | hk
  · skip
    have k0 : decide (a0_0 < 1) = true := decide_eq_true (by omega)
    have HK := mk0 (show ¬ 1 ≤ a0_0 by omega)
    clear hk h6
    go_enter Try.func150, Try.ntmps150
    go_wp2
    all_goals go_ret
    all_goals refine ⟨?_, by repeat (first | (with_reducible first | exact HB.out | apply bL_ | apply pN_ | apply b1_) | exact HB.out)⟩
    all_goals (have j0 := HK.out; simp_all [plan_Is.ok] <;> (intros; exfalso; omega))
  · skip
    have k0 : decide (a0_0 < 1) = false := decide_eq_false (by omega)
    have k1 : decide (12 < a0_0) = true := decide_eq_true (by omega)
    have HK := mk0 (show ¬ a0_0 ≤ 12 by omega)
    clear hk h6
    go_enter Try.func150, Try.ntmps150
    go_wp2
    all_goals go_ret
    all_goals refine ⟨?_, by repeat (first | (with_reducible first | exact HB.out | apply bL_ | apply pN_ | apply b1_) | exact HB.out)⟩
    all_goals (have j0 := HK.out; simp_all [plan_Is.ok] <;> (intros; exfalso; omega))
  · skip
    have k0 : decide (a0_0 < 1) = false := decide_eq_false (by omega)
    have k1 : decide (12 < a0_0) = false := decide_eq_false (by omega)
    have k2 : decide (1 ≤ a0_0) = true := decide_eq_true (by omega)
    have k3 : decide (a0_0 ≤ 7) = true := decide_eq_true (by omega)
    have k4 : decide (a0_0 ≤ 5) = true := decide_eq_true (by omega)
    have k5 : (a0_0 == 7) = false := beq_eq_false_iff_ne.2 (by omega)
    have k6 : (a0_0 == 9) = false := beq_eq_false_iff_ne.2 (by omega)
    have k7 : (a0_0 == 10) = false := beq_eq_false_iff_ne.2 (by omega)
    have k8 : (a0_0 == 3) = false := beq_eq_false_iff_ne.2 (by omega)
    have k9 : (a0_0 == 4) = false := beq_eq_false_iff_ne.2 (by omega)
    have HK := mk0 (show 1 ≤ a0_0 ∧ a0_0 ≤ 12 ∧ a0_0 ≤ 7 ∧ a0_0 ≤ 5 ∧ ¬ a0_0 = 7 ∧ ¬ a0_0 = 9 ∧ ¬ a0_0 = 10 ∧ ¬ a0_0 = 3 ∧ ¬ a0_0 = 4 by omega)
    clear hk h6
    go_enter Try.func150, Try.ntmps150
    go_wp2
    all_goals go_ret
    all_goals refine ⟨?_, by repeat (first | (with_reducible first | exact HB.out | apply bL_ | apply pN_ | apply b1_) | exact HB.out)⟩
    all_goals (obtain ⟨j0, j1, j2, j3, j4, j5, j6, j7, j8⟩ := HK.out; simp_all [plan_Is.ok] <;> (intros; exfalso; omega))
  · rcases hk with rfl | rfl
    all_goals go_enter Try.func150, Try.ntmps150
    all_goals go_wp2
    all_goals go_ret
    all_goals refine ⟨?_, by repeat (first | (with_reducible first | exact HB.out | apply bL_ | apply pN_ | apply b1_) | exact HB.out)⟩
    all_goals (simp_all [plan_Is.ok] <;> (intros; exfalso; omega))
  · subst hk
    all_goals go_enter Try.func150, Try.ntmps150
    all_goals go_wp2
    all_goals go_ret
    all_goals refine ⟨?_, by repeat (first | (with_reducible first | exact HB.out | apply bL_ | apply pN_ | apply b1_) | exact HB.out)⟩
    all_goals (simp_all [plan_Is.ok] <;> (intros; exfalso; omega))
  · rcases hk with rfl | rfl
    all_goals go_enter Try.func150, Try.ntmps150
    all_goals go_wp2
    all_goals go_ret
    all_goals refine ⟨?_, by repeat (first | (with_reducible first | exact HB.out | apply bL_ | apply pN_ | apply b1_) | exact HB.out)⟩
    all_goals (simp_all [plan_Is.ok] <;> (intros; exfalso; omega))
  · skip
    have k0 : decide (a0_0 < 1) = false := decide_eq_false (by omega)
    have k1 : decide (12 < a0_0) = false := decide_eq_false (by omega)
    have k2 : decide (1 ≤ a0_0) = true := decide_eq_true (by omega)
    have k3 : decide (a0_0 ≤ 7) = false := decide_eq_false (by omega)
    have k4 : decide (a0_0 ≤ 5) = false := decide_eq_false (by omega)
    have k5 : (a0_0 == 7) = false := beq_eq_false_iff_ne.2 (by omega)
    have k6 : (a0_0 == 9) = false := beq_eq_false_iff_ne.2 (by omega)
    have k7 : (a0_0 == 10) = false := beq_eq_false_iff_ne.2 (by omega)
    have k8 : (a0_0 == 3) = false := beq_eq_false_iff_ne.2 (by omega)
    have k9 : (a0_0 == 4) = false := beq_eq_false_iff_ne.2 (by omega)
    have HK := mk0 (show 1 ≤ a0_0 ∧ a0_0 ≤ 12 ∧ ¬ a0_0 ≤ 7 ∧ ¬ a0_0 ≤ 5 ∧ ¬ a0_0 = 7 ∧ ¬ a0_0 = 9 ∧ ¬ a0_0 = 10 ∧ ¬ a0_0 = 3 ∧ ¬ a0_0 = 4 by omega)
    clear hk h6
    go_enter Try.func150, Try.ntmps150
    go_wp2
    all_goals go_ret
    all_goals refine ⟨?_, by repeat (first | (with_reducible first | exact HB.out | apply bL_ | apply pN_ | apply b1_) | exact HB.out)⟩
    all_goals (obtain ⟨j0, j1, j2, j3, j4, j5, j6, j7, j8⟩ := HK.out; simp_all [plan_Is.ok] <;> (intros; exfalso; omega))


end Go.Proofs.Ytbaecdcfefmcgaa.PPlc
