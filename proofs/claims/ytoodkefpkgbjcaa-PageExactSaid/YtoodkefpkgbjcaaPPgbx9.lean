-- PRINTED by print.py (a twelfth state) out of the translation. Not trusted: Lean checks it.
import Derived.Test.YtoodkefpkgbjcaaPPgbx0
namespace Go.Proofs.Ytoodkefpkgbjcaa.PPgb
open Go.RowKit Go.Proofs.YtoodkefpkgbjcaaW.PrintWords Go.Proofs.YtoodkefpkgbjcaaW.PrintLast Go.Proofs.YtoodkefpkgbjcaaW.PrintMore
attribute [local go_sem] max2_int min2_int max_two min_two max_three min_three max_four min_four   -- for this text's walks alone
set_option linter.unusedVariables false
set_option linter.unusedSimpArgs false

/-! ### quorumref0_Rising: function 131 -/
mutual
def quorumref0_Rising.l0 : Nat → List Int → List Int → Int → Option (List Int)
 | 0, _, _, _ => none
 | k + 1, x0, x3, x4 => if x4 < (x0.length : Int) then (quorumref0_Rising.l1 k x0 x3 x4 0) else (some x3)
def quorumref0_Rising.l1 : Nat → List Int → List Int → Int → Int → Option (List Int)
 | 0, _, _, _, _ => none
 | k + 1, x0, x3, x4, x5 => if x5 < (x3.length : Int) then (if 0 ≤ x5 then (if 0 ≤ x4 then (if x4 < (x0.length : Int) then (quorumref0_Rising.j2 k x0 x3 x4 x5 (decide ((rd x3 x5) < (rd x0 x4)))) else (none)) else (none)) else (none)) else (quorumref0_Rising.j2 k x0 x3 x4 x5 false)
def quorumref0_Rising.j2 : Nat → List Int → List Int → Int → Int → Bool → Option (List Int)
 | 0, _, _, _, _, _ => none
 | k + 1, x0, x3, x4, x5, x27 => if x27 = true then (quorumref0_Rising.l1 k x0 x3 x4 (wrap64 (x5 + 1))) else (if x5 < (x3.length : Int) then (if 0 ≤ x5 then (if 0 ≤ x4 then (if x4 < (x0.length : Int) then (quorumref0_Rising.j3 k x0 x3 x4 x5 ((rd x3 x5) == (rd x0 x4))) else (none)) else (none)) else (none)) else (quorumref0_Rising.j3 k x0 x3 x4 x5 false))
def quorumref0_Rising.j3 : Nat → List Int → List Int → Int → Int → Bool → Option (List Int)
 | 0, _, _, _, _, _ => none
 | k + 1, x0, x3, x4, x5, x44 => if x44 = true then (quorumref0_Rising.l0 k x0 x3 (wrap64 (x4 + 1))) else (if x3.length < 17592186044416 then ((some (x3 ++ [0] : List Int)).bind fun y273 => (quorumref0_Rising.l2 k x0 y273 x4 x5 (wrap64 ((y273.length : Int) - 1)))) else (none))
def quorumref0_Rising.l2 : Nat → List Int → List Int → Int → Int → Int → Option (List Int)
 | 0, _, _, _, _, _ => none
 | k + 1, x0, x3, x4, x5, x6 => if x6 > x5 then (if 0 ≤ (wrap64 (x6 - 1)) then (if (wrap64 (x6 - 1)) < (x3.length : Int) then (if 0 ≤ x6 then (if x6 < (x3.length : Int) then (quorumref0_Rising.l2 k x0 (x3.set (x6 : Int).toNat (rd x3 (wrap64 (x6 - 1)))) x4 x5 (wrap64 (x6 - 1))) else (none)) else (none)) else (none)) else (none)) else (if 0 ≤ x4 then (if x4 < (x0.length : Int) then (if 0 ≤ x5 then (if x5 < (x3.length : Int) then (quorumref0_Rising.l0 k x0 (x3.set (x5 : Int).toNat (rd x0 x4)) (wrap64 (x4 + 1))) else (none)) else (none)) else (none)) else (none))
end
def quorumref0_Rising.f (k : Nat) (l0 : List Int) : Option (List Int) := quorumref0_Rising.l0 k l0 ([] : List Int) 0
theorem quorumref0_Rising.mono_l : ∀ k, (∀ y0 y1 y2, LeO (quorumref0_Rising.l0 k y0 y1 y2) (quorumref0_Rising.l0 (k + 1) y0 y1 y2)) ∧ (∀ y0 y1 y2 y3, LeO (quorumref0_Rising.l1 k y0 y1 y2 y3) (quorumref0_Rising.l1 (k + 1) y0 y1 y2 y3)) ∧ (∀ y0 y1 y2 y3 y4, LeO (quorumref0_Rising.j2 k y0 y1 y2 y3 y4) (quorumref0_Rising.j2 (k + 1) y0 y1 y2 y3 y4)) ∧ (∀ y0 y1 y2 y3 y4, LeO (quorumref0_Rising.j3 k y0 y1 y2 y3 y4) (quorumref0_Rising.j3 (k + 1) y0 y1 y2 y3 y4)) ∧ (∀ y0 y1 y2 y3 y4, LeO (quorumref0_Rising.l2 k y0 y1 y2 y3 y4) (quorumref0_Rising.l2 (k + 1) y0 y1 y2 y3 y4))
 | 0 => ⟨fun _ _ _ r h => by simp [quorumref0_Rising.l0] at h, fun _ _ _ _ r h => by simp [quorumref0_Rising.l1] at h, fun _ _ _ _ _ r h => by simp [quorumref0_Rising.j2] at h, fun _ _ _ _ _ r h => by simp [quorumref0_Rising.j3] at h, fun _ _ _ _ _ r h => by simp [quorumref0_Rising.l2] at h⟩
 | k + 1 => by
  obtain ⟨ih0, ih1, ih2, ih3, ih4⟩ := quorumref0_Rising.mono_l k
  refine ⟨?_, ?_, ?_, ?_, ?_⟩
  ·intro y0 y1 y2
   unfold quorumref0_Rising.l0
   repeat' first
   | (with_reducible exact ih0 _ _ _)
   | (with_reducible exact ih1 _ _ _ _)
   | (with_reducible exact ih2 _ _ _ _ _)
   | (with_reducible exact ih3 _ _ _ _ _)
   | (with_reducible exact ih4 _ _ _ _ _)
   | (with_reducible exact LeO.refl _)
   | (with_reducible exact LeO.none _)
   | (with_reducible refine LeO.ite ?_ ?_)
   | (with_reducible refine LeO.bind ?_ (fun _ => ?_))
   | exact ih0 _ _ _
   | exact ih1 _ _ _ _
   | exact ih2 _ _ _ _ _
   | exact ih3 _ _ _ _ _
   | exact ih4 _ _ _ _ _
   | exact LeO.none _
   | refine LeO.ite ?_ ?_
   | refine LeO.bind ?_ (fun _ => ?_)
  ·intro y0 y1 y2 y3
   unfold quorumref0_Rising.l1
   repeat' first
   | (with_reducible exact ih0 _ _ _)
   | (with_reducible exact ih1 _ _ _ _)
   | (with_reducible exact ih2 _ _ _ _ _)
   | (with_reducible exact ih3 _ _ _ _ _)
   | (with_reducible exact ih4 _ _ _ _ _)
   | (with_reducible exact LeO.refl _)
   | (with_reducible exact LeO.none _)
   | (with_reducible refine LeO.ite ?_ ?_)
   | (with_reducible refine LeO.bind ?_ (fun _ => ?_))
   | exact ih0 _ _ _
   | exact ih1 _ _ _ _
   | exact ih2 _ _ _ _ _
   | exact ih3 _ _ _ _ _
   | exact ih4 _ _ _ _ _
   | exact LeO.none _
   | refine LeO.ite ?_ ?_
   | refine LeO.bind ?_ (fun _ => ?_)
  ·intro y0 y1 y2 y3 y4
   unfold quorumref0_Rising.j2
   repeat' first
   | (with_reducible exact ih0 _ _ _)
   | (with_reducible exact ih1 _ _ _ _)
   | (with_reducible exact ih2 _ _ _ _ _)
   | (with_reducible exact ih3 _ _ _ _ _)
   | (with_reducible exact ih4 _ _ _ _ _)
   | (with_reducible exact LeO.refl _)
   | (with_reducible exact LeO.none _)
   | (with_reducible refine LeO.ite ?_ ?_)
   | (with_reducible refine LeO.bind ?_ (fun _ => ?_))
   | exact ih0 _ _ _
   | exact ih1 _ _ _ _
   | exact ih2 _ _ _ _ _
   | exact ih3 _ _ _ _ _
   | exact ih4 _ _ _ _ _
   | exact LeO.none _
   | refine LeO.ite ?_ ?_
   | refine LeO.bind ?_ (fun _ => ?_)
  ·intro y0 y1 y2 y3 y4
   unfold quorumref0_Rising.j3
   repeat' first
   | (with_reducible exact ih0 _ _ _)
   | (with_reducible exact ih1 _ _ _ _)
   | (with_reducible exact ih2 _ _ _ _ _)
   | (with_reducible exact ih3 _ _ _ _ _)
   | (with_reducible exact ih4 _ _ _ _ _)
   | (with_reducible exact LeO.refl _)
   | (with_reducible exact LeO.none _)
   | (with_reducible refine LeO.ite ?_ ?_)
   | (with_reducible refine LeO.bind ?_ (fun _ => ?_))
   | exact ih0 _ _ _
   | exact ih1 _ _ _ _
   | exact ih2 _ _ _ _ _
   | exact ih3 _ _ _ _ _
   | exact ih4 _ _ _ _ _
   | exact LeO.none _
   | refine LeO.ite ?_ ?_
   | refine LeO.bind ?_ (fun _ => ?_)
  ·intro y0 y1 y2 y3 y4
   unfold quorumref0_Rising.l2
   repeat' first
   | (with_reducible exact ih0 _ _ _)
   | (with_reducible exact ih1 _ _ _ _)
   | (with_reducible exact ih2 _ _ _ _ _)
   | (with_reducible exact ih3 _ _ _ _ _)
   | (with_reducible exact ih4 _ _ _ _ _)
   | (with_reducible exact LeO.refl _)
   | (with_reducible exact LeO.none _)
   | (with_reducible refine LeO.ite ?_ ?_)
   | (with_reducible refine LeO.bind ?_ (fun _ => ?_))
   | exact ih0 _ _ _
   | exact ih1 _ _ _ _
   | exact ih2 _ _ _ _ _
   | exact ih3 _ _ _ _ _
   | exact ih4 _ _ _ _ _
   | exact LeO.none _
   | refine LeO.ite ?_ ?_
   | refine LeO.bind ?_ (fun _ => ?_)
theorem quorumref0_Rising.mono : ∀ a0 k, LeO (quorumref0_Rising.f k a0) (quorumref0_Rising.f (k + 1) a0) := by
 intro a0 k
 obtain ⟨ih0, ih1, ih2, ih3, ih4⟩ := quorumref0_Rising.mono_l k
 unfold quorumref0_Rising.f
 repeat' first
   | (with_reducible exact ih0 _ _ _)
   | (with_reducible exact ih1 _ _ _ _)
   | (with_reducible exact ih2 _ _ _ _ _)
   | (with_reducible exact ih3 _ _ _ _ _)
   | (with_reducible exact ih4 _ _ _ _ _)
   | (with_reducible exact LeO.refl _)
   | (with_reducible exact LeO.none _)
   | (with_reducible refine LeO.ite ?_ ?_)
   | (with_reducible refine LeO.bind ?_ (fun _ => ?_))
   | exact ih0 _ _ _
   | exact ih1 _ _ _ _
   | exact ih2 _ _ _ _ _
   | exact ih3 _ _ _ _ _
   | exact ih4 _ _ _ _ _
   | exact LeO.none _
   | refine LeO.ite ?_ ?_
   | refine LeO.bind ?_ (fun _ => ?_)
set_option maxHeartbeats 8000000 in
set_option maxRecDepth 100000 in
theorem quorumref0_Rising.calls (k : Nat) (A0 : Option Addr) (c0 : Nat) (l0 : List Int) (r : List Int) (w : World) (hr0 : Kd.C (Kd.int .i64) w A0 l0.length l0) (hc0 : l0.length ≤ c0) (h : quorumref0_Rising.f k l0 = some r) :
  Calls Try.prog 131 #[.slice A0 l0.length c0] w fun e w' => ∃ v0_ : Value, e = .returned (v0_) ∧ Kd.R (Kd.int .i64) 3 w' w.heap.size (fun _ => True) v0_ r ∧ Below w.heap.size w w' := by
 have HR0 := mk0 hr0
 have HC0 := mk0 hc0
 clear hr0 hc0
 have HB := mk0 (Below.refl w.heap.size w)
 have H : (quorumref0_Rising.l0 k l0 ([] : List Int) 0) = some r := h
 clear h
 have H' := mk0 H
 clear H
 go_enter Try.func131, Try.ntmps131
 go_wp2
 repeat (go_quiet (fail); try go_wp2)
 go_loopg [3, 4] k (fun kq v3 v4 w' => ∃ (x3_1 : List Int) (x4_1 : Int), v4 = .int .i64 x4_1 ∧ Fc (quorumref0_Rising.l0 kq l0 x3_1 x4_1 = some r) ∧ Fc (kq ≤ k) ∧ Fc (Kd.R (Kd.int .i64) 3 w' w.heap.size (fun _ => True) v3 x3_1) ∧ Fc (Below w.heap.size w w'))
 case atStart => exact ⟨(([] : List Int)), (0), (by first | rfl | (simp; done) | (simp [*]; done)), H', ⟨Nat.le_refl _⟩, ⟨by first | exact Kd.R_nil _ _ _ _ _ | exact Kd.N_nil _ _ _ _ _ | exact Kd.V_nil _ _ _ _ _ | exact Kd.Q_nil _ _ _ _ _ | exact Kd.S_nil _ _ _ _ _⟩, ⟨b_ HB⟩⟩
 case round =>
  clear H'
  obtain ⟨x3_1, x4_1, rfl, HA, HK1, HO_3, HB⟩ := hrel
  cases gk with
  | zero => exact absurd HA.out (by simp [quorumref0_Rising.l0])
  | succ k1 =>
   have H := HA.out
   clear HA
   simp only [quorumref0_Rising.l0] at H
   as_aux_lemma =>
    by_cases c2 : x4_1 < (l0.length : Int)
    ·rw [if_pos c2] at H
     have c2b0 : decide (x4_1 < (l0.length : Int)) = true := decide_eq_true c2
     clear c2
     have H' := mk0 H
     clear H
     go_wp2
     repeat (go_quiet (fail); try go_wp2)
     go_loopg [5] k1 (fun kq v5 w' => ∃ (x5_2 : Int), v5 = .int .i64 x5_2 ∧ Fc (quorumref0_Rising.l1 kq l0 x3_1 x4_1 x5_2 = some r) ∧ Fc (kq ≤ k1) ∧ Fc (Kd.R (Kd.int .i64) 3 w' w.heap.size (fun _ => True) u3 x3_1) ∧ Fc (Below w.heap.size w w'))
     case atStart => exact ⟨(0), (by first | rfl | (simp; done) | (simp [*]; done)), H', ⟨Nat.le_refl _⟩, ⟨by (with_reducible repeat (first | apply Ra_ | apply Rn_ | apply Rd_)); exact HO_3.out⟩, ⟨b_ HB⟩⟩
     case round =>
      clear H'
      try clear c2
      try clear c2b0
      obtain ⟨x5_2, rfl, HA, HK2, HO_3, HB⟩ := hrel
      cases gk with
      | zero => exact absurd HA.out (by simp [quorumref0_Rising.l1])
      | succ k2 =>
       have H := HA.out
       clear HA
       simp only [quorumref0_Rising.l1] at H
       as_aux_lemma =>
        have HC3 := mk0 H
        clear H
        go_upto_region 6 with (fail)
        repeat (go_quiet (fail); go_upto_region 6 with (fail))
        go_cut [27] (fun v27 wc => ∃ (kq : Nat) (x27_2 : Bool), v27 = .bool x27_2 ∧ Fc (quorumref0_Rising.j2 kq l0 x3_1 x4_1 x5_2 x27_2 = some r) ∧ Fc (kq ≤ k2) ∧ Fc (Kd.R (Kd.int .i64) 3 wc w.heap.size (fun _ => True) u3 x3_1) ∧ Fc (Below w.heap.size w wc))
        case first =>
         have H := HC3.out
         clear HC3
         by_cases c4 : x5_2 < (x3_1.length : Int)
         ·rw [if_pos c4] at H
          have c4b0 : decide (x5_2 < (x3_1.length : Int)) = true := decide_eq_true c4
          clear c4
          (first | rw [c4b0] | (simp only [i64_w, i32_w]; rw [c4b0]) | skip)
          by_cases c5 : 0 ≤ x5_2
          ·rw [if_pos c5] at H
           have c5b0 : decide (0 ≤ x5_2) = true := decide_eq_true c5
           clear c5
           by_cases c6 : 0 ≤ x4_1
           ·rw [if_pos c6] at H
            have c6b0 : decide (0 ≤ x4_1) = true := decide_eq_true c6
            clear c6
            by_cases c7 : x4_1 < (l0.length : Int)
            ·rw [if_pos c7] at H
             have c7b0 : decide (x4_1 < (l0.length : Int)) = true := decide_eq_true c7
             clear c7
             have H' := mk0 H
             clear H
             obtain ⟨Ao8, co8, eo8⟩ := Kd.R_slice HO_3.out
             subst eo8
             have p269 : 0 ≤ (x5_2 : Int) := of_decide_eq_true (by first | (with_reducible assumption) | assumption)
             have q269 : x5_2 < (x3_1.length : Int) := of_decide_eq_true (by first | (with_reducible assumption) | assumption)
             obtain ⟨ad269, e269, hx269_0⟩ := Kd.at_int (Kd.R_reads' HO_3.out).2.2 x5_2 p269 q269
             cases e269
             replace p269 := eq_true p269
             replace q269 := eq_true q269
             have p270 : 0 ≤ (x4_1 : Int) := of_decide_eq_true (by first | (with_reducible assumption) | assumption)
             have q270 : x4_1 < (l0.length : Int) := of_decide_eq_true (by first | (with_reducible assumption) | assumption)
             obtain ⟨ad270, e270, hx270_0⟩ := Kd.at_int HR0.out x4_1 p270 q270
             cases e270
             replace hx270_0 := (HB.out.cell (World.block_lt_of_cell? w _ hx270_0)).trans hx270_0
             replace p270 := eq_true p270
             replace q270 := eq_true q270
             go_wp2
             repeat (go_quiet (fail); try go_wp2)
             go_meet
             case rel => exact ⟨_, (decide ((rd x3_1 x5_2) < (rd l0 x4_1))), (by first | rfl | (simp; done) | (simp [*]; done)), H', ⟨by have := HK1.out; have := HK2.out; first | omega | exact Nat.le_refl _⟩, ⟨by (with_reducible repeat (first | apply Ra_ | apply Rn_ | apply Rd_)); exact HO_3.out⟩, ⟨b_ HB⟩⟩
            ·rw [if_neg c7] at H
             exact absurd H (by simp)
           ·rw [if_neg c6] at H
            exact absurd H (by simp)
          ·rw [if_neg c5] at H
           exact absurd H (by simp)
         ·rw [if_neg c4] at H
          have c4b0 : decide (x5_2 < (x3_1.length : Int)) = false := decide_eq_false c4
          clear c4
          (first | rw [c4b0] | (simp only [i64_w, i32_w]; rw [c4b0]) | skip)
          have H' := mk0 H
          clear H
          obtain ⟨Ao9, co9, eo9⟩ := Kd.R_slice HO_3.out
          subst eo9
          go_wp2
          repeat (go_quiet (fail); try go_wp2)
          go_meet
          case rel => exact ⟨_, (false), (by first | rfl | (simp; done) | (simp [*]; done)), H', ⟨by have := HK1.out; have := HK2.out; first | omega | exact Nat.le_refl _⟩, ⟨by (with_reducible repeat (first | apply Ra_ | apply Rn_ | apply Rd_)); exact HO_3.out⟩, ⟨b_ HB⟩⟩
        case rest =>
         clear HC3
         try clear c2
         try clear c2b0
         try clear c4
         try clear c4b0
         try clear c5
         try clear c5b0
         try clear c6
         try clear c6b0
         try clear c7
         try clear c7b0
         try clear hx269_0
         try clear hx270_0
         try clear p269
         try clear p270
         try clear q269
         try clear q270
         obtain ⟨kq, x27_2, rfl, HA, HJ2, HO_3, HB⟩ := hcut
         cases kq with
         | zero => exact absurd HA.out (by simp [quorumref0_Rising.j2])
         | succ kj2 =>
          have H := HA.out
          clear HA
          simp only [quorumref0_Rising.j2] at H
          as_aux_lemma =>
           by_cases c10 : x27_2 = true
           ·subst c10
            rw [if_pos rfl] at H
            have H' := mk0 H
            clear H
            go_wp2
            repeat (go_quiet (fail); try go_wp2)
            go_roundg kj2
            case measure => have := HK1.out; have := HK2.out; have := HJ2.out; omega
            case rel => exact ⟨(wrap64 (x5_2 + 1)), (by first | rfl | (simp; done) | (simp [*]; done)), H', ⟨by have := HK1.out; have := HK2.out; have := HJ2.out; omega⟩, ⟨by (with_reducible repeat (first | apply Ra_ | apply Rn_ | apply Rd_)); exact HO_3.out⟩, ⟨b_ HB⟩⟩
           ·replace c10 := Bool.eq_false_iff.mpr c10
            subst c10
            rw [if_neg (show ¬ (false = true) by decide)] at H
            have HC11 := mk0 H
            clear H
            go_upto_region 8 with (fail)
            repeat (go_quiet (fail); go_upto_region 8 with (fail))
            go_cut [44] (fun v44 wc => ∃ (kq : Nat) (x44_10 : Bool), v44 = .bool x44_10 ∧ Fc (quorumref0_Rising.j3 kq l0 x3_1 x4_1 x5_2 x44_10 = some r) ∧ Fc (kq ≤ kj2) ∧ Fc (Kd.R (Kd.int .i64) 3 wc w.heap.size (fun _ => True) u3 x3_1) ∧ Fc (Below w.heap.size w wc))
            case first =>
             have H := HC11.out
             clear HC11
             by_cases c12 : x5_2 < (x3_1.length : Int)
             ·rw [if_pos c12] at H
              have c12b0 : decide (x5_2 < (x3_1.length : Int)) = true := decide_eq_true c12
              clear c12
              (first | rw [c12b0] | (simp only [i64_w, i32_w]; rw [c12b0]) | skip)
              by_cases c13 : 0 ≤ x5_2
              ·rw [if_pos c13] at H
               have c13b0 : decide (0 ≤ x5_2) = true := decide_eq_true c13
               clear c13
               by_cases c14 : 0 ≤ x4_1
               ·rw [if_pos c14] at H
                have c14b0 : decide (0 ≤ x4_1) = true := decide_eq_true c14
                clear c14
                by_cases c15 : x4_1 < (l0.length : Int)
                ·rw [if_pos c15] at H
                 have c15b0 : decide (x4_1 < (l0.length : Int)) = true := decide_eq_true c15
                 clear c15
                 have H' := mk0 H
                 clear H
                 obtain ⟨Ao16, co16, eo16⟩ := Kd.R_slice HO_3.out
                 subst eo16
                 have p271 : 0 ≤ (x5_2 : Int) := of_decide_eq_true (by first | (with_reducible assumption) | assumption)
                 have q271 : x5_2 < (x3_1.length : Int) := of_decide_eq_true (by first | (with_reducible assumption) | assumption)
                 obtain ⟨ad271, e271, hx271_0⟩ := Kd.at_int (Kd.R_reads' HO_3.out).2.2 x5_2 p271 q271
                 cases e271
                 replace p271 := eq_true p271
                 replace q271 := eq_true q271
                 have p272 : 0 ≤ (x4_1 : Int) := of_decide_eq_true (by first | (with_reducible assumption) | assumption)
                 have q272 : x4_1 < (l0.length : Int) := of_decide_eq_true (by first | (with_reducible assumption) | assumption)
                 obtain ⟨ad272, e272, hx272_0⟩ := Kd.at_int HR0.out x4_1 p272 q272
                 cases e272
                 replace hx272_0 := (HB.out.cell (World.block_lt_of_cell? w _ hx272_0)).trans hx272_0
                 replace p272 := eq_true p272
                 replace q272 := eq_true q272
                 go_wp2
                 repeat (go_quiet (fail); try go_wp2)
                 go_meet
                 case rel => exact ⟨_, (((rd x3_1 x5_2) == (rd l0 x4_1))), (by first | rfl | (simp; done) | (simp [*]; done)), H', ⟨by have := HK1.out; have := HK2.out; have := HJ2.out; first | omega | exact Nat.le_refl _⟩, ⟨by (with_reducible repeat (first | apply Ra_ | apply Rn_ | apply Rd_)); exact HO_3.out⟩, ⟨b_ HB⟩⟩
                ·rw [if_neg c15] at H
                 exact absurd H (by simp)
               ·rw [if_neg c14] at H
                exact absurd H (by simp)
              ·rw [if_neg c13] at H
               exact absurd H (by simp)
             ·rw [if_neg c12] at H
              have c12b0 : decide (x5_2 < (x3_1.length : Int)) = false := decide_eq_false c12
              clear c12
              (first | rw [c12b0] | (simp only [i64_w, i32_w]; rw [c12b0]) | skip)
              have H' := mk0 H
              clear H
              obtain ⟨Ao17, co17, eo17⟩ := Kd.R_slice HO_3.out
              subst eo17
              go_wp2
              repeat (go_quiet (fail); try go_wp2)
              go_meet
              case rel => exact ⟨_, (false), (by first | rfl | (simp; done) | (simp [*]; done)), H', ⟨by have := HK1.out; have := HK2.out; have := HJ2.out; first | omega | exact Nat.le_refl _⟩, ⟨by (with_reducible repeat (first | apply Ra_ | apply Rn_ | apply Rd_)); exact HO_3.out⟩, ⟨b_ HB⟩⟩
            case rest =>
             clear HC11
             try clear c2
             try clear c2b0
             try clear c4
             try clear c4b0
             try clear c5
             try clear c5b0
             try clear c6
             try clear c6b0
             try clear c7
             try clear c7b0
             try clear c10
             try clear c12
             try clear c12b0
             try clear c13
             try clear c13b0
             try clear c14
             try clear c14b0
             try clear c15
             try clear c15b0
             try clear hx269_0
             try clear hx270_0
             try clear hx271_0
             try clear hx272_0
             try clear p269
             try clear p270
             try clear p271
             try clear p272
             try clear q269
             try clear q270
             try clear q271
             try clear q272
             obtain ⟨kq, x44_10, rfl, HA, HJ10, HO_3, HB⟩ := hcut
             cases kq with
             | zero => exact absurd HA.out (by simp [quorumref0_Rising.j3])
             | succ kj10 =>
              have H := HA.out
              clear HA
              simp only [quorumref0_Rising.j3] at H
              as_aux_lemma =>
               by_cases c18 : x44_10 = true
               ·subst c18
                rw [if_pos rfl] at H
                have H' := mk0 H
                clear H
                go_wp2
                repeat (go_quiet (fail); try go_wp2)
                go_roundg kj10
                case measure => have := HK1.out; have := HK2.out; have := HJ2.out; have := HJ10.out; omega
                case rel => exact ⟨(x3_1), (wrap64 (x4_1 + 1)), (by first | rfl | (simp; done) | (simp [*]; done)), H', ⟨by have := HK1.out; have := HK2.out; have := HJ2.out; have := HJ10.out; omega⟩, ⟨by (with_reducible repeat (first | apply Ra_ | apply Rn_ | apply Rd_)); exact HO_3.out⟩, ⟨b_ HB⟩⟩
               ·replace c18 := Bool.eq_false_iff.mpr c18
                subst c18
                rw [if_neg (show ¬ (false = true) by decide)] at H
                by_cases c19 : x3_1.length < 17592186044416
                ·rw [if_pos c19] at H
                 have LMc19 := mk0 c19
                 clear c19
                 obtain ⟨y273, hy273⟩ : ∃ y_ : List Int, y_ = (x3_1 ++ [0]) := ⟨_, rfl⟩
                 replace H : (quorumref0_Rising.l2 kj10 l0 y273 x4_1 x5_2 (wrap64 ((y273.length : Int) - 1))) = some r := by first | (rw [hy273]; with_reducible exact H) | (have H2_ := (Option.bind_some _ _).symm.trans H; rw [hy273]; with_reducible exact H2_) | (have H2_ := (Option.bind_some _ _).symm.trans H; with_reducible exact H2_) | with_reducible exact H | (rw [hy273]; exact H) | exact H
                 have Ny273 := mk0 hy273
                 clear hy273
                 have H' := mk0 H
                 clear H
                 go_wp2_with (first | ((with_reducible refine gate_builtin (b := .append) (xs := #[.tmp 45, .tmp 46]) rfl ?_); at_builtin; refine Kd.R_append (Kd.int .i64) (w0 := w) w.heap.size rfl (.tmp 45) (.tmp 46) 24 3 (.int .i64 0) 8 rfl Try.underlying24 info3 rfl (by decide) (by omega) u3 x3_1 0 [.int .i64 0] (fun _ => True) (fun _ => False) rfl rfl ?aP (fun _ hk => hk.elim) ?aF ?aO ?aB ?aS ?aL ?_; (case aP => exact rfl); (case aB => exact (b_ HB)); (case aF => exact (fun _ _ => trivial)); (case aO => exact (r_ HO_3)); (case aS => exact (bz_ (b_ HB))); (case aL => have := LMc19.out; omega); intro v274 w20 ho hb hg hat; rw [← Ny273.out] at ho; replace HB := mk0 (hb); have HO275 := mk0 (ho); clear HO_3; clear ho hb hg hat; obtain ⟨Ao21, co21, eo21⟩ := Kd.R_slice HO275.out; subst eo21))
                 repeat (go_quiet (first | ((with_reducible refine gate_builtin (b := .append) (xs := #[.tmp 45, .tmp 46]) rfl ?_); at_builtin; refine Kd.R_append (Kd.int .i64) (w0 := w) w.heap.size rfl (.tmp 45) (.tmp 46) 24 3 (.int .i64 0) 8 rfl Try.underlying24 info3 rfl (by decide) (by omega) u3 x3_1 0 [.int .i64 0] (fun _ => True) (fun _ => False) rfl rfl ?aP (fun _ hk => hk.elim) ?aF ?aO ?aB ?aS ?aL ?_; (case aP => exact rfl); (case aB => exact (b_ HB)); (case aF => exact (fun _ _ => trivial)); (case aO => exact (r_ HO_3)); (case aS => exact (bz_ (b_ HB))); (case aL => have := LMc19.out; omega); intro v274 w20 ho hb hg hat; rw [← Ny273.out] at ho; replace HB := mk0 (hb); have HO275 := mk0 (ho); clear HO_3; clear ho hb hg hat; obtain ⟨Ao21, co21, eo21⟩ := Kd.R_slice HO275.out; subst eo21)); try go_wp2_with (first | ((with_reducible refine gate_builtin (b := .append) (xs := #[.tmp 45, .tmp 46]) rfl ?_); at_builtin; refine Kd.R_append (Kd.int .i64) (w0 := w) w.heap.size rfl (.tmp 45) (.tmp 46) 24 3 (.int .i64 0) 8 rfl Try.underlying24 info3 rfl (by decide) (by omega) u3 x3_1 0 [.int .i64 0] (fun _ => True) (fun _ => False) rfl rfl ?aP (fun _ hk => hk.elim) ?aF ?aO ?aB ?aS ?aL ?_; (case aP => exact rfl); (case aB => exact (b_ HB)); (case aF => exact (fun _ _ => trivial)); (case aO => exact (r_ HO_3)); (case aS => exact (bz_ (b_ HB))); (case aL => have := LMc19.out; omega); intro v274 w20 ho hb hg hat; rw [← Ny273.out] at ho; replace HB := mk0 (hb); have HO275 := mk0 (ho); clear HO_3; clear ho hb hg hat; obtain ⟨Ao21, co21, eo21⟩ := Kd.R_slice HO275.out; subst eo21)))
                 go_loopg [6] kj10 (fun kq v6 w' => ∃ (x3_5 : List Int) (x6_5 : Int), v6 = .int .i64 x6_5 ∧ Fc (quorumref0_Rising.l2 kq l0 x3_5 x4_1 x5_2 x6_5 = some r) ∧ Fc (kq ≤ kj10) ∧ Fc (Kd.R (Kd.int .i64) 3 w' w.heap.size (fun _ => True) (.slice Ao21 y273.length co21) x3_5) ∧ Fc (Below w.heap.size w w'))
                 case atStart => exact ⟨(y273), (wrap64 ((y273.length : Int) - 1)), (by first | rfl | (simp; done) | (simp [*]; done)), H', ⟨Nat.le_refl _⟩, ⟨by (with_reducible repeat (first | apply Ra_ | apply Rn_ | apply Rd_)); exact HO275.out⟩, ⟨b_ HB⟩⟩
                 case round =>
                  clear H'
                  try clear c2
                  try clear c2b0
                  try clear c4
                  try clear c4b0
                  try clear c5
                  try clear c5b0
                  try clear c6
                  try clear c6b0
                  try clear c7
                  try clear c7b0
                  try clear c10
                  try clear c12
                  try clear c12b0
                  try clear c13
                  try clear c13b0
                  try clear c14
                  try clear c14b0
                  try clear c15
                  try clear c15b0
                  try clear c18
                  try clear c19
                  try clear hx269_0
                  try clear hx270_0
                  try clear hx271_0
                  try clear hx272_0
                  try clear p269
                  try clear p270
                  try clear p271
                  try clear p272
                  try clear q269
                  try clear q270
                  try clear q271
                  try clear q272
                  obtain ⟨x3_5, x6_5, rfl, HA, HK5, HO_3, HB⟩ := hrel
                  have hl3_5 := (Kd.R_reads' HO_3.out).1
                  rw [hl3_5] at HO_3
                  (try simp only [hl3_5])
                  cases gk with
                  | zero => exact absurd HA.out (by simp [quorumref0_Rising.l2])
                  | succ k5 =>
                   have H := HA.out
                   clear HA
                   simp only [quorumref0_Rising.l2] at H
                   as_aux_lemma =>
                    by_cases c22 : x6_5 > x5_2
                    ·rw [if_pos c22] at H
                     have c22b0 : decide (x5_2 < x6_5) = true := decide_eq_true c22
                     clear c22
                     obtain ⟨ji23, hji23⟩ : ∃ j_ : Int, (wrap64 (x6_5 - 1)) = j_ := ⟨_, rfl⟩
                     replace H : (if 0 ≤ (ji23) then (if (ji23) < (x3_5.length : Int) then (if 0 ≤ x6_5 then (if x6_5 < (x3_5.length : Int) then (quorumref0_Rising.l2 k5 l0 (x3_5.set (x6_5 : Int).toNat (rd x3_5 (ji23))) x4_1 x5_2 ji23) else (none)) else (none)) else (none)) else (none)) = some r := by first | (rw [hji23] at H; exact H) | (simp only [hji23] at H ⊢; exact H)
                     have hji23w : (IntKind.i64.wrap (x6_5 - 1)) = ji23 := (i64_w _).trans hji23
                     by_cases c24 : 0 ≤ (ji23)
                     ·rw [if_pos c24] at H
                      have c24b0 : decide (0 ≤ (ji23)) = true := decide_eq_true c24
                      clear c24
                      by_cases c25 : (ji23) < (x3_5.length : Int)
                      ·rw [if_pos c25] at H
                       have c25b0 : decide ((ji23) < (x3_5.length : Int)) = true := decide_eq_true c25
                       clear c25
                       by_cases c26 : 0 ≤ x6_5
                       ·rw [if_pos c26] at H
                        have c26b0 : decide (0 ≤ x6_5) = true := decide_eq_true c26
                        clear c26
                        by_cases c27 : x6_5 < (x3_5.length : Int)
                        ·rw [if_pos c27] at H
                         have c27b0 : decide (x6_5 < (x3_5.length : Int)) = true := decide_eq_true c27
                         clear c27
                         obtain ⟨y277, hy277⟩ : ∃ y_ : List Int, y_ = (x3_5.set (x6_5 : Int).toNat (rd x3_5 (ji23))) := ⟨_, rfl⟩
                         replace H : (quorumref0_Rising.l2 k5 l0 y277 x4_1 x5_2 ji23) = some r := by first | (rw [hy277]; with_reducible exact H) | (have H2_ := (Option.bind_some _ _).symm.trans H; rw [hy277]; with_reducible exact H2_) | (have H2_ := (Option.bind_some _ _).symm.trans H; with_reducible exact H2_) | with_reducible exact H | (rw [hy277]; exact H) | exact H
                         have Ny277 := mk0 hy277
                         clear hy277
                         have H' := mk0 H
                         clear H
                         have p276 : 0 ≤ ((ji23) : Int) := of_decide_eq_true (by first | (with_reducible assumption) | assumption)
                         have q276 : (ji23) < (x3_5.length : Int) := of_decide_eq_true (by first | (with_reducible assumption) | assumption)
                         (try (obtain ⟨Aq_, cq_, eq_⟩ := Kd.R_slice HO_3.out; subst eq_))
                         obtain ⟨ad276, e276, hx276_0⟩ := Kd.at_int (Kd.R_reads' HO_3.out).2.2 (ji23) p276 q276
                         cases e276
                         replace p276 := eq_true p276
                         replace q276 := eq_true q276
                         have p28 : 0 ≤ (x6_5 : Int) := of_decide_eq_true (by first | (with_reducible assumption) | assumption)
                         have q28 : (x6_5 : Int) < ((x3_5.length : Int) : Int) := of_decide_eq_true (by first | (with_reducible assumption) | assumption)
                         obtain ⟨go28, co28, eo28, gb28, gl28, cl28, HG28⟩ := Kd.R_form HO_3.out (by omega)
                         (first | cases eo28 | (injection eo28 with ea_ en_ ec_; (first | subst ea_ | (injection ea_ with ea_; subst ea_)); subst ec_; clear en_))
                         have GB28 := mk0 gb28
                         have GG28 := mk0 HG28
                         clear gb28 gl28 HG28
                         (first | simp only [add_plain] at hx276_0 | skip)
                         obtain ⟨hx28_0, hf28_0⟩ := Kd.R_celln 0 HO_3.out (x6_5 : Int) p28 q28
                         replace p28 := eq_true p28
                         replace q28 := eq_true q28
                         have HP29 := Kd.R_putg HO_3.out (x6_5 : Int) (rd x3_5 (ji23))
                         go_wp2_with (first | ((with_reducible refine gate_store (t := 3) (p := 63) rfl ?_); (try (rw [drewN_self wr]; generalize hq_ : World.drewN wr _ = wr; replace HO_3 := mk0 (Kd.R_at hq_ HO_3.out); replace HB := mk0 (below_at hq_ HB.out); clear hq_; (try (have HP29 := Kd.R_putg HO_3.out (x6_5 : Int) (rd x3_5 (ji23)))))); refine sv_ (t := 3) (p := 63) (w1 := (wr.setCell ⟨go28, (x6_5 : Int).toNat, none⟩ (.int .i64 (rd x3_5 (ji23))))) (h := ?_); intro w30 hw; have hg : wr.grownBy w30 (some go28) := (by rw [hw]; exact HP29.2); have hp_ : Kd.R (Kd.int .i64) 3 w30 w.heap.size (fun _ => True) (.slice (some ⟨go28, 0, none⟩) x3_5.length co21) y277 := (by rw [hw, Ny277.out]; exact HP29.1); clear HP29; replace HO_3 := mk0 (hp_); replace HB := mk0 ((by rw [hw]; exact bs_ (HB.out) GB28.out : Below w.heap.size w w30)); clear hg hw hp_))
                         repeat (go_quiet (first | ((with_reducible refine gate_store (t := 3) (p := 63) rfl ?_); (try (rw [drewN_self wr]; generalize hq_ : World.drewN wr _ = wr; replace HO_3 := mk0 (Kd.R_at hq_ HO_3.out); replace HB := mk0 (below_at hq_ HB.out); clear hq_; (try (have HP29 := Kd.R_putg HO_3.out (x6_5 : Int) (rd x3_5 (ji23)))))); refine sv_ (t := 3) (p := 63) (w1 := (wr.setCell ⟨go28, (x6_5 : Int).toNat, none⟩ (.int .i64 (rd x3_5 (ji23))))) (h := ?_); intro w30 hw; have hg : wr.grownBy w30 (some go28) := (by rw [hw]; exact HP29.2); have hp_ : Kd.R (Kd.int .i64) 3 w30 w.heap.size (fun _ => True) (.slice (some ⟨go28, 0, none⟩) x3_5.length co21) y277 := (by rw [hw, Ny277.out]; exact HP29.1); clear HP29; replace HO_3 := mk0 (hp_); replace HB := mk0 ((by rw [hw]; exact bs_ (HB.out) GB28.out : Below w.heap.size w w30)); clear hg hw hp_)); try go_wp2_with (first | ((with_reducible refine gate_store (t := 3) (p := 63) rfl ?_); (try (rw [drewN_self wr]; generalize hq_ : World.drewN wr _ = wr; replace HO_3 := mk0 (Kd.R_at hq_ HO_3.out); replace HB := mk0 (below_at hq_ HB.out); clear hq_; (try (have HP29 := Kd.R_putg HO_3.out (x6_5 : Int) (rd x3_5 (ji23)))))); refine sv_ (t := 3) (p := 63) (w1 := (wr.setCell ⟨go28, (x6_5 : Int).toNat, none⟩ (.int .i64 (rd x3_5 (ji23))))) (h := ?_); intro w30 hw; have hg : wr.grownBy w30 (some go28) := (by rw [hw]; exact HP29.2); have hp_ : Kd.R (Kd.int .i64) 3 w30 w.heap.size (fun _ => True) (.slice (some ⟨go28, 0, none⟩) x3_5.length co21) y277 := (by rw [hw, Ny277.out]; exact HP29.1); clear HP29; replace HO_3 := mk0 (hp_); replace HB := mk0 ((by rw [hw]; exact bs_ (HB.out) GB28.out : Below w.heap.size w w30)); clear hg hw hp_)))
                         (try simp only [← hl3_5])
                         go_roundg k5
                         case measure => have := HK1.out; have := HK2.out; have := HJ2.out; have := HJ10.out; have := HK5.out; omega
                         case rel => exact ⟨(y277), (ji23), (by first | rfl | (simp; done) | (simp only [← hji23] <;> (first | rfl | simp)) | (simp [*]; done)), H', ⟨by have := HK1.out; have := HK2.out; have := HJ2.out; have := HJ10.out; have := HK5.out; omega⟩, ⟨by (try simp only [hl3_5]); (with_reducible repeat (first | apply Ra_ | apply Rn_ | apply Rd_)); exact HO_3.out⟩, ⟨b_ HB⟩⟩
                        ·rw [if_neg c27] at H
                         exact absurd H (by simp)
                       ·rw [if_neg c26] at H
                        exact absurd H (by simp)
                      ·rw [if_neg c25] at H
                       exact absurd H (by simp)
                     ·rw [if_neg c24] at H
                      exact absurd H (by simp)
                    ·rw [if_neg c22] at H
                     have c22b0 : decide (x5_2 < x6_5) = false := decide_eq_false c22
                     clear c22
                     by_cases c31 : 0 ≤ x4_1
                     ·rw [if_pos c31] at H
                      have c31b0 : decide (0 ≤ x4_1) = true := decide_eq_true c31
                      clear c31
                      by_cases c32 : x4_1 < (l0.length : Int)
                      ·rw [if_pos c32] at H
                       have c32b0 : decide (x4_1 < (l0.length : Int)) = true := decide_eq_true c32
                       clear c32
                       by_cases c33 : 0 ≤ x5_2
                       ·rw [if_pos c33] at H
                        have c33b0 : decide (0 ≤ x5_2) = true := decide_eq_true c33
                        clear c33
                        by_cases c34 : x5_2 < (x3_5.length : Int)
                        ·rw [if_pos c34] at H
                         have c34b0 : decide (x5_2 < (x3_5.length : Int)) = true := decide_eq_true c34
                         clear c34
                         obtain ⟨y279, hy279⟩ : ∃ y_ : List Int, y_ = (x3_5.set (x5_2 : Int).toNat (rd l0 x4_1)) := ⟨_, rfl⟩
                         replace H : (quorumref0_Rising.l0 k5 l0 y279 (wrap64 (x4_1 + 1))) = some r := by first | (rw [hy279]; with_reducible exact H) | (have H2_ := (Option.bind_some _ _).symm.trans H; rw [hy279]; with_reducible exact H2_) | (have H2_ := (Option.bind_some _ _).symm.trans H; with_reducible exact H2_) | with_reducible exact H | (rw [hy279]; exact H) | exact H
                         have Ny279 := mk0 hy279
                         clear hy279
                         have H' := mk0 H
                         clear H
                         have p278 : 0 ≤ (x4_1 : Int) := of_decide_eq_true (by first | (with_reducible assumption) | assumption)
                         have q278 : x4_1 < (l0.length : Int) := of_decide_eq_true (by first | (with_reducible assumption) | assumption)
                         obtain ⟨ad278, e278, hx278_0⟩ := Kd.at_int HR0.out x4_1 p278 q278
                         cases e278
                         replace hx278_0 := (HB.out.cell (World.block_lt_of_cell? w _ hx278_0)).trans hx278_0
                         replace p278 := eq_true p278
                         replace q278 := eq_true q278
                         have p35 : 0 ≤ (x5_2 : Int) := of_decide_eq_true (by first | (with_reducible assumption) | assumption)
                         have q35 : (x5_2 : Int) < ((x3_5.length : Int) : Int) := of_decide_eq_true (by first | (with_reducible assumption) | assumption)
                         obtain ⟨go35, co35, eo35, gb35, gl35, cl35, HG35⟩ := Kd.R_form HO_3.out (by omega)
                         (first | cases eo35 | (injection eo35 with ea_ en_ ec_; (first | subst ea_ | (injection ea_ with ea_; subst ea_)); subst ec_; clear en_))
                         have GB35 := mk0 gb35
                         have GG35 := mk0 HG35
                         clear gb35 gl35 HG35
                         obtain ⟨hx35_0, hf35_0⟩ := Kd.R_celln 0 HO_3.out (x5_2 : Int) p35 q35
                         replace p35 := eq_true p35
                         replace q35 := eq_true q35
                         have HP36 := Kd.R_putg HO_3.out (x5_2 : Int) (rd l0 x4_1)
                         go_wp2_with (first | ((with_reducible refine gate_store (t := 3) (p := 70) rfl ?_); (try (rw [drewN_self wr]; generalize hq_ : World.drewN wr _ = wr; replace HO_3 := mk0 (Kd.R_at hq_ HO_3.out); replace HB := mk0 (below_at hq_ HB.out); clear hq_; (try (have HP36 := Kd.R_putg HO_3.out (x5_2 : Int) (rd l0 x4_1))))); refine sv_ (t := 3) (p := 70) (w1 := (wr.setCell ⟨go35, (x5_2 : Int).toNat, none⟩ (.int .i64 (rd l0 x4_1)))) (h := ?_); intro w37 hw; have hg : wr.grownBy w37 (some go35) := (by rw [hw]; exact HP36.2); have hp_ : Kd.R (Kd.int .i64) 3 w37 w.heap.size (fun _ => True) (.slice (some ⟨go35, 0, none⟩) x3_5.length co21) y279 := (by rw [hw, Ny279.out]; exact HP36.1); clear HP36; replace HO_3 := mk0 (hp_); replace HB := mk0 ((by rw [hw]; exact bs_ (HB.out) GB35.out : Below w.heap.size w w37)); clear hg hw hp_))
                         repeat (go_quiet (first | ((with_reducible refine gate_store (t := 3) (p := 70) rfl ?_); (try (rw [drewN_self wr]; generalize hq_ : World.drewN wr _ = wr; replace HO_3 := mk0 (Kd.R_at hq_ HO_3.out); replace HB := mk0 (below_at hq_ HB.out); clear hq_; (try (have HP36 := Kd.R_putg HO_3.out (x5_2 : Int) (rd l0 x4_1))))); refine sv_ (t := 3) (p := 70) (w1 := (wr.setCell ⟨go35, (x5_2 : Int).toNat, none⟩ (.int .i64 (rd l0 x4_1)))) (h := ?_); intro w37 hw; have hg : wr.grownBy w37 (some go35) := (by rw [hw]; exact HP36.2); have hp_ : Kd.R (Kd.int .i64) 3 w37 w.heap.size (fun _ => True) (.slice (some ⟨go35, 0, none⟩) x3_5.length co21) y279 := (by rw [hw, Ny279.out]; exact HP36.1); clear HP36; replace HO_3 := mk0 (hp_); replace HB := mk0 ((by rw [hw]; exact bs_ (HB.out) GB35.out : Below w.heap.size w w37)); clear hg hw hp_)); try go_wp2_with (first | ((with_reducible refine gate_store (t := 3) (p := 70) rfl ?_); (try (rw [drewN_self wr]; generalize hq_ : World.drewN wr _ = wr; replace HO_3 := mk0 (Kd.R_at hq_ HO_3.out); replace HB := mk0 (below_at hq_ HB.out); clear hq_; (try (have HP36 := Kd.R_putg HO_3.out (x5_2 : Int) (rd l0 x4_1))))); refine sv_ (t := 3) (p := 70) (w1 := (wr.setCell ⟨go35, (x5_2 : Int).toNat, none⟩ (.int .i64 (rd l0 x4_1)))) (h := ?_); intro w37 hw; have hg : wr.grownBy w37 (some go35) := (by rw [hw]; exact HP36.2); have hp_ : Kd.R (Kd.int .i64) 3 w37 w.heap.size (fun _ => True) (.slice (some ⟨go35, 0, none⟩) x3_5.length co21) y279 := (by rw [hw, Ny279.out]; exact HP36.1); clear HP36; replace HO_3 := mk0 (hp_); replace HB := mk0 ((by rw [hw]; exact bs_ (HB.out) GB35.out : Below w.heap.size w w37)); clear hg hw hp_)))
                         (try simp only [← hl3_5])
                         go_roundg k5
                         case measure => have := HK1.out; have := HK2.out; have := HJ2.out; have := HJ10.out; have := HK5.out; omega
                         case rel => exact ⟨(y279), (wrap64 (x4_1 + 1)), (by first | rfl | (simp; done) | (simp [*]; done)), H', ⟨by have := HK1.out; have := HK2.out; have := HJ2.out; have := HJ10.out; have := HK5.out; omega⟩, ⟨by (try simp only [hl3_5]); (with_reducible repeat (first | apply Ra_ | apply Rn_ | apply Rd_)); exact HO_3.out⟩, ⟨b_ HB⟩⟩
                        ·rw [if_neg c34] at H
                         exact absurd H (by simp)
                       ·rw [if_neg c33] at H
                        exact absurd H (by simp)
                      ·rw [if_neg c32] at H
                       exact absurd H (by simp)
                     ·rw [if_neg c31] at H
                      exact absurd H (by simp)
                ·rw [if_neg c19] at H
                 exact absurd H (by simp)
    ·rw [if_neg c2] at H
     have c2b0 : decide (x4_1 < (l0.length : Int)) = false := decide_eq_false c2
     clear c2
     obtain rfl := Option.some.inj H
     go_wp2
     repeat (go_quiet (fail); try go_wp2)
     go_ret
     exact ⟨_, by first | rfl | (simp [errW_none, errW_some] <;> rfl) | (simp [*, errW_none, errW_some] <;> rfl), by (with_reducible repeat (first | apply Ra_ | apply Rn_ | apply Rd_)); exact HO_3.out, b_ HB⟩

end Go.Proofs.Ytoodkefpkgbjcaa.PPgb
