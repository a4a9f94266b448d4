-- PRINTED by print.py (a twelfth state) out of the translation. Not trusted: Lean checks it.
import Derived.Test.YtoodkefpkgbjcaaPChtx0
namespace Go.Proofs.Ytoodkefpkgbjcaa.PCht
open Go.RowKit Go.Proofs.YtoodkefpkgbjcaaW.PrintWords Go.Proofs.YtoodkefpkgbjcaaW.PrintLast Go.Proofs.YtoodkefpkgbjcaaW.PrintMore
attribute [local go_sem] max2_int min2_int max_two min_two max_three min_three max_four min_four   -- for this text's walks alone
set_option linter.unusedVariables false
set_option linter.unusedSimpArgs false

/-! ### quorumlaw0_TableWeight: function 58 -/
mutual
def quorumlaw0_TableWeight.l0 : Nat → Int → Int → List (S30) → Option (Int)
 | 0, _, _, _ => none
 | k + 1, x3, x4, x102000 => if x4 < (x102000.length : Int) then (quorumlaw0_TableWeight.j1 k x3 x4 (decide (x3 < 1048576)) x102000) else (quorumlaw0_TableWeight.j1 k x3 x4 false x102000)
def quorumlaw0_TableWeight.j1 : Nat → Int → Int → Bool → List (S30) → Option (Int)
 | 0, _, _, _, _ => none
 | k + 1, x3, x4, x17, x102000 => if x17 = true then (if 0 ≤ x4 then (if x4 < (x102000.length : Int) then (quorumlaw0_TableWeight.l1 k (wrap64 ((wrap64 (x3 + (((rd_T30 x102000 x4).f1).length : Int))) + (wrap64 ((((rd_T30 x102000 x4).f0).size : Int) / 8)))) x4 0 x102000) else (none)) else (none)) else (some x3)
def quorumlaw0_TableWeight.l1 : Nat → Int → Int → Int → List (S30) → Option (Int)
 | 0, _, _, _, _ => none
 | k + 1, x3, x4, x5, x102000 => if 0 ≤ x4 then (if x4 < (x102000.length : Int) then (if x5 < (((rd_T30 x102000 x4).f1).length : Int) then (if x3 < 1048576 then (if 0 ≤ x5 then (quorumlaw0_TableWeight.l1 k (wrap64 (x3 + (wrap64 ((((rd_T39 ((rd_T30 x102000 x4).f1) x5).f1).size : Int) / 8)))) x4 (wrap64 (x5 + 1)) x102000) else (none)) else (quorumlaw0_TableWeight.l0 k x3 (wrap64 (x4 + 1)) x102000)) else (quorumlaw0_TableWeight.l0 k x3 (wrap64 (x4 + 1)) x102000)) else (none)) else (none)
end
def quorumlaw0_TableWeight.f (k : Nat) (l0_0 : List (S30)) : Option (Int) := quorumlaw0_TableWeight.l0 k (l0_0.length : Int) 0 l0_0
theorem quorumlaw0_TableWeight.mono_l : ∀ k, (∀ y0 y1 y2, LeO (quorumlaw0_TableWeight.l0 k y0 y1 y2) (quorumlaw0_TableWeight.l0 (k + 1) y0 y1 y2)) ∧ (∀ y0 y1 y2 y3, LeO (quorumlaw0_TableWeight.j1 k y0 y1 y2 y3) (quorumlaw0_TableWeight.j1 (k + 1) y0 y1 y2 y3)) ∧ (∀ y0 y1 y2 y3, LeO (quorumlaw0_TableWeight.l1 k y0 y1 y2 y3) (quorumlaw0_TableWeight.l1 (k + 1) y0 y1 y2 y3))
 | 0 => ⟨fun _ _ _ r h => by simp [quorumlaw0_TableWeight.l0] at h, fun _ _ _ _ r h => by simp [quorumlaw0_TableWeight.j1] at h, fun _ _ _ _ r h => by simp [quorumlaw0_TableWeight.l1] at h⟩
 | k + 1 => by
  obtain ⟨ih0, ih1, ih2⟩ := quorumlaw0_TableWeight.mono_l k
  refine ⟨?_, ?_, ?_⟩
  ·intro y0 y1 y2
   unfold quorumlaw0_TableWeight.l0
   repeat' first
   | (with_reducible exact ih0 _ _ _)
   | (with_reducible exact ih1 _ _ _ _)
   | (with_reducible exact ih2 _ _ _ _)
   | (with_reducible exact LeO.refl _)
   | (with_reducible exact LeO.none _)
   | (with_reducible refine LeO.ite ?_ ?_)
   | (with_reducible refine LeO.bind ?_ (fun _ => ?_))
   | exact ih0 _ _ _
   | exact ih1 _ _ _ _
   | exact ih2 _ _ _ _
   | exact LeO.none _
   | refine LeO.ite ?_ ?_
   | refine LeO.bind ?_ (fun _ => ?_)
  ·intro y0 y1 y2 y3
   unfold quorumlaw0_TableWeight.j1
   repeat' first
   | (with_reducible exact ih0 _ _ _)
   | (with_reducible exact ih1 _ _ _ _)
   | (with_reducible exact ih2 _ _ _ _)
   | (with_reducible exact LeO.refl _)
   | (with_reducible exact LeO.none _)
   | (with_reducible refine LeO.ite ?_ ?_)
   | (with_reducible refine LeO.bind ?_ (fun _ => ?_))
   | exact ih0 _ _ _
   | exact ih1 _ _ _ _
   | exact ih2 _ _ _ _
   | exact LeO.none _
   | refine LeO.ite ?_ ?_
   | refine LeO.bind ?_ (fun _ => ?_)
  ·intro y0 y1 y2 y3
   unfold quorumlaw0_TableWeight.l1
   repeat' first
   | (with_reducible exact ih0 _ _ _)
   | (with_reducible exact ih1 _ _ _ _)
   | (with_reducible exact ih2 _ _ _ _)
   | (with_reducible exact LeO.refl _)
   | (with_reducible exact LeO.none _)
   | (with_reducible refine LeO.ite ?_ ?_)
   | (with_reducible refine LeO.bind ?_ (fun _ => ?_))
   | exact ih0 _ _ _
   | exact ih1 _ _ _ _
   | exact ih2 _ _ _ _
   | exact LeO.none _
   | refine LeO.ite ?_ ?_
   | refine LeO.bind ?_ (fun _ => ?_)
theorem quorumlaw0_TableWeight.mono : ∀ a0 k, LeO (quorumlaw0_TableWeight.f k a0) (quorumlaw0_TableWeight.f (k + 1) a0) := by
 intro a0 k
 obtain ⟨ih0, ih1, ih2⟩ := quorumlaw0_TableWeight.mono_l k
 unfold quorumlaw0_TableWeight.f
 repeat' first
   | (with_reducible exact ih0 _ _ _)
   | (with_reducible exact ih1 _ _ _ _)
   | (with_reducible exact ih2 _ _ _ _)
   | (with_reducible exact LeO.refl _)
   | (with_reducible exact LeO.none _)
   | (with_reducible refine LeO.ite ?_ ?_)
   | (with_reducible refine LeO.bind ?_ (fun _ => ?_))
   | exact ih0 _ _ _
   | exact ih1 _ _ _ _
   | exact ih2 _ _ _ _
   | exact LeO.none _
   | refine LeO.ite ?_ ?_
   | refine LeO.bind ?_ (fun _ => ?_)
set_option maxHeartbeats 8000000 in
set_option maxRecDepth 100000 in
theorem quorumlaw0_TableWeight.calls (k : Nat) (A0_0 : Option Addr) (c0_0 : Nat) (l0_0 : List (S30)) (r : Int) (w : World) (hr0_0 : Kd.C k30 w A0_0 l0_0.length l0_0) (hc0_0 : l0_0.length ≤ c0_0) (h : quorumlaw0_TableWeight.f k l0_0 = some r) :
  Calls Try.prog 58 #[.agg #[.slice A0_0 l0_0.length c0_0]] w fun e w' => e = .returned (.int .i64 r) ∧ Below w.heap.size w w' := by
 have hu79 := Try.underlying79
 have HR0_0 := mk0 hr0_0
 have HC0_0 := mk0 hc0_0
 clear hr0_0 hc0_0
 have HB := mk0 (Below.refl w.heap.size w)
 have H : (quorumlaw0_TableWeight.l0 k (l0_0.length : Int) 0 l0_0) = some r := h
 clear h
 have H' := mk0 H
 clear H
 go_enter Try.func58, Try.ntmps58
 go_wp2_with (first | ((with_reducible refine gate_dst (N := 1) rfl ?_); refine bx_ (N := 1) (cs := #[.slice A0_0 l0_0.length c0_0]) (t := 79) (h := ?_); intro gb101 hg w2 hbox hb; have n2_ := mk0 (gz_ HB hg); have n3_ := mk0 (gz_ HB hg); replace HB := mk0 (bt_ (b_ HB) hb); have BK101 := mk0 (hbox); have GW101 := n2_; have GE101 := n3_; clear n2_ n3_ hb hbox hg; obtain ⟨hcz3_0, hfz3_0⟩ := c1_ BK101))
 repeat (go_quiet (first | ((with_reducible refine gate_dst (N := 1) rfl ?_); refine bx_ (N := 1) (cs := #[.slice A0_0 l0_0.length c0_0]) (t := 79) (h := ?_); intro gb101 hg w2 hbox hb; have n2_ := mk0 (gz_ HB hg); have n3_ := mk0 (gz_ HB hg); replace HB := mk0 (bt_ (b_ HB) hb); have BK101 := mk0 (hbox); have GW101 := n2_; have GE101 := n3_; clear n2_ n3_ hb hbox hg; obtain ⟨hcz3_0, hfz3_0⟩ := c1_ BK101)); try go_wp2_with (first | ((with_reducible refine gate_dst (N := 1) rfl ?_); refine bx_ (N := 1) (cs := #[.slice A0_0 l0_0.length c0_0]) (t := 79) (h := ?_); intro gb101 hg w2 hbox hb; have n2_ := mk0 (gz_ HB hg); have n3_ := mk0 (gz_ HB hg); replace HB := mk0 (bt_ (b_ HB) hb); have BK101 := mk0 (hbox); have GW101 := n2_; have GE101 := n3_; clear n2_ n3_ hb hbox hg; obtain ⟨hcz3_0, hfz3_0⟩ := c1_ BK101)))
 go_loopg [3, 4] k (fun kq v3 v4 w' => ∃ (x3_1 : Int) (x4_1 : Int), v3 = .int .i64 x3_1 ∧ v4 = .int .i64 x4_1 ∧ Fc (quorumlaw0_TableWeight.l0 kq x3_1 x4_1 l0_0 = some r) ∧ Fc (kq ≤ k) ∧ Fc (w'.heap[gb101]? = some (.cells #[(.slice A0_0 l0_0.length c0_0)] 79 (0, 0))) ∧ Fc (Below w.heap.size w w'))
 case atStart => exact ⟨((l0_0.length : Int)), (0), (by first | rfl | (simp; done) | (simp [*]; done)), (by first | rfl | (simp; done) | (simp [*]; done)), H', ⟨Nat.le_refl _⟩, ⟨h_ BK101⟩, ⟨b_ HB⟩⟩
 case round =>
  clear H'
  try clear hcz3_0
  try clear hfz3_0
  obtain ⟨x3_1, x4_1, rfl, rfl, HA, HK1, BK101, HB⟩ := hrel
  cases gk with
  | zero => exact absurd HA.out (by simp [quorumlaw0_TableWeight.l0])
  | succ k1 =>
   have H := HA.out
   clear HA
   simp only [quorumlaw0_TableWeight.l0] at H
   as_aux_lemma =>
    have HC4 := mk0 H
    clear H
    go_upto_region 3 with (fail)
    repeat (go_quiet (fail); go_upto_region 3 with (fail))
    go_cut [17] (fun v17 wc => ∃ (kq : Nat) (x17_3 : Bool), v17 = .bool x17_3 ∧ Fc (quorumlaw0_TableWeight.j1 kq x3_1 x4_1 x17_3 l0_0 = some r) ∧ Fc (kq ≤ k1) ∧ Fc (wc.heap[gb101]? = some (.cells #[(.slice A0_0 l0_0.length c0_0)] 79 (0, 0))) ∧ Fc (Below w.heap.size w wc))
    case first =>
     have H := HC4.out
     clear HC4
     by_cases c5 : x4_1 < (l0_0.length : Int)
     ·rw [if_pos c5] at H
      have c5b0 : decide (x4_1 < (l0_0.length : Int)) = true := decide_eq_true c5
      clear c5
      (first | rw [c5b0] | (simp only [i64_w, i32_w]; rw [c5b0]) | skip)
      have H' := mk0 H
      clear H
      obtain ⟨hcz6_0, hfz6_0⟩ := c1_ BK101
      go_wp2
      repeat (go_quiet (fail); try go_wp2)
      go_meet
      case rel => exact ⟨_, (decide (x3_1 < 1048576)), (by first | rfl | (simp; done) | (simp [*]; done)), H', ⟨by have := HK1.out; first | omega | exact Nat.le_refl _⟩, ⟨h_ BK101⟩, ⟨b_ HB⟩⟩
     ·rw [if_neg c5] at H
      have c5b0 : decide (x4_1 < (l0_0.length : Int)) = false := decide_eq_false c5
      clear c5
      (first | rw [c5b0] | (simp only [i64_w, i32_w]; rw [c5b0]) | skip)
      have H' := mk0 H
      clear H
      obtain ⟨hcz7_0, hfz7_0⟩ := c1_ BK101
      go_wp2
      repeat (go_quiet (fail); try go_wp2)
      go_meet
      case rel => exact ⟨_, (false), (by first | rfl | (simp; done) | (simp [*]; done)), H', ⟨by have := HK1.out; first | omega | exact Nat.le_refl _⟩, ⟨h_ BK101⟩, ⟨b_ HB⟩⟩
    case rest =>
     clear HC4
     try clear c5
     try clear c5b0
     try clear hcz3_0
     try clear hcz6_0
     try clear hcz7_0
     try clear hfz3_0
     try clear hfz6_0
     try clear hfz7_0
     obtain ⟨kq, x17_3, rfl, HA, HJ3, BK101, HB⟩ := hcut
     cases kq with
     | zero => exact absurd HA.out (by simp [quorumlaw0_TableWeight.j1])
     | succ kj3 =>
      have H := HA.out
      clear HA
      simp only [quorumlaw0_TableWeight.j1] at H
      as_aux_lemma =>
       by_cases c8 : x17_3 = true
       ·subst c8
        rw [if_pos rfl] at H
        by_cases c9 : 0 ≤ x4_1
        ·rw [if_pos c9] at H
         have c9b0 : decide (0 ≤ x4_1) = true := decide_eq_true c9
         clear c9
         by_cases c10 : x4_1 < (l0_0.length : Int)
         ·rw [if_pos c10] at H
          have c10b0 : decide (x4_1 < (l0_0.length : Int)) = true := decide_eq_true c10
          clear c10
          have H' := mk0 H
          clear H
          obtain ⟨hcz11_0, hfz11_0⟩ := c1_ BK101
          have p102 : 0 ≤ (x4_1 : Int) := of_decide_eq_true (by first | (with_reducible assumption) | assumption)
          have q102 : x4_1 < (l0_0.length : Int) := of_decide_eq_true (by first | (with_reducible assumption) | assumption)
          obtain ⟨ad102, A102_1, c102_1, e102, hx102_0, hx102_1, hl102_1, hi102_1⟩ := at_T30 HR0_0.out x4_1 p102 q102
          cases e102
          replace hx102_0 := bc_ HB hx102_0
          replace hx102_1 := bc_ HB hx102_1
          have HR102_1 := mk0 hi102_1
          have HC102_1 := mk0 hl102_1
          clear hi102_1 hl102_1
          replace p102 := eq_true p102
          replace q102 := eq_true q102
          have p103 : 0 ≤ (x4_1 : Int) := of_decide_eq_true (by first | (with_reducible assumption) | assumption)
          have q103 : x4_1 < (l0_0.length : Int) := of_decide_eq_true (by first | (with_reducible assumption) | assumption)
          obtain ⟨ad103, A103_1, c103_1, e103, hx103_0, hx103_1, hl103_1, hi103_1⟩ := at_T30 HR0_0.out x4_1 p103 q103
          obtain rfl : ad102 = ad103 := (by injection e103)
          replace hx103_0 := bc_ HB hx103_0
          replace hx103_1 := bc_ HB hx103_1
          have HR103_1 := mk0 hi103_1
          have HC103_1 := mk0 hl103_1
          clear hi103_1 hl103_1
          replace p103 := eq_true p103
          replace q103 := eq_true q103
          have ea_ := Option.some.inj (hx102_1.symm.trans hx103_1)
          injection ea_ with ea_ en_ ec_
          subst ea_
          subst ec_
          clear en_
          go_wp2
          repeat (go_quiet (fail); try go_wp2)
          go_loopg [3, 5] kj3 (fun kq v3 v5 w' => ∃ (x3_3 : Int) (x5_3 : Int), v3 = .int .i64 x3_3 ∧ v5 = .int .i64 x5_3 ∧ Fc (quorumlaw0_TableWeight.l1 kq x3_3 x4_1 x5_3 l0_0 = some r) ∧ Fc (kq ≤ kj3) ∧ Fc (w'.heap[gb101]? = some (.cells #[(.slice (some ad102) l0_0.length c0_0)] 79 (0, 0))) ∧ Fc (Below w.heap.size w w'))
          case atStart => exact ⟨(wrap64 ((wrap64 (x3_1 + (((rd_T30 l0_0 x4_1).f1).length : Int))) + (wrap64 ((((rd_T30 l0_0 x4_1).f0).size : Int) / 8)))), (0), (by first | rfl | (simp; done) | (simp [*]; done)), (by first | rfl | (simp; done) | (simp [*]; done)), H', ⟨Nat.le_refl _⟩, ⟨h_ BK101⟩, ⟨b_ HB⟩⟩
          case round =>
           clear H'
           try clear c5
           try clear c5b0
           try clear c8
           try clear c9
           try clear c9b0
           try clear c10
           try clear c10b0
           try clear hcz11_0
           try clear hcz3_0
           try clear hcz6_0
           try clear hcz7_0
           try clear hfz11_0
           try clear hfz3_0
           try clear hfz6_0
           try clear hfz7_0
           try clear hx102_0
           try clear hx102_1
           try clear hx103_0
           try clear hx103_1
           try clear p102
           try clear p103
           try clear q102
           try clear q103
           obtain ⟨x3_3, x5_3, rfl, rfl, HA, HK3, BK101, HB⟩ := hrel
           cases gk with
           | zero => exact absurd HA.out (by simp [quorumlaw0_TableWeight.l1])
           | succ k3 =>
            have H := HA.out
            clear HA
            simp only [quorumlaw0_TableWeight.l1] at H
            as_aux_lemma =>
             by_cases c12 : 0 ≤ x4_1
             ·rw [if_pos c12] at H
              have c12b0 : decide (0 ≤ x4_1) = true := decide_eq_true c12
              clear c12
              by_cases c13 : x4_1 < (l0_0.length : Int)
              ·rw [if_pos c13] at H
               have c13b0 : decide (x4_1 < (l0_0.length : Int)) = true := decide_eq_true c13
               clear c13
               by_cases c14 : x5_3 < (((rd_T30 l0_0 x4_1).f1).length : Int)
               ·rw [if_pos c14] at H
                have c14b0 : decide (x5_3 < (((rd_T30 l0_0 x4_1).f1).length : Int)) = true := decide_eq_true c14
                clear c14
                by_cases c15 : x3_3 < 1048576
                ·rw [if_pos c15] at H
                 have c15b0 : decide (x3_3 < 1048576) = true := decide_eq_true c15
                 clear c15
                 by_cases c16 : 0 ≤ x5_3
                 ·rw [if_pos c16] at H
                  have c16b0 : decide (0 ≤ x5_3) = true := decide_eq_true c16
                  clear c16
                  have H' := mk0 H
                  clear H
                  obtain ⟨hcz17_0, hfz17_0⟩ := c1_ BK101
                  have p104 : 0 ≤ (x4_1 : Int) := of_decide_eq_true (by first | (with_reducible assumption) | assumption)
                  have q104 : x4_1 < (l0_0.length : Int) := of_decide_eq_true (by first | (with_reducible assumption) | assumption)
                  obtain ⟨ad104, A104_1, c104_1, e104, hx104_0, hx104_1, hl104_1, hi104_1⟩ := at_T30 HR0_0.out x4_1 p104 q104
                  obtain rfl : ad102 = ad104 := (by injection e104)
                  replace hx104_0 := bc_ HB hx104_0
                  replace hx104_1 := bc_ HB hx104_1
                  have HR104_1 := mk0 hi104_1
                  have HC104_1 := mk0 hl104_1
                  clear hi104_1 hl104_1
                  replace p104 := eq_true p104
                  replace q104 := eq_true q104
                  have p105 : 0 ≤ (x4_1 : Int) := of_decide_eq_true (by first | (with_reducible assumption) | assumption)
                  have q105 : x4_1 < (l0_0.length : Int) := of_decide_eq_true (by first | (with_reducible assumption) | assumption)
                  obtain ⟨ad105, A105_1, c105_1, e105, hx105_0, hx105_1, hl105_1, hi105_1⟩ := at_T30 HR0_0.out x4_1 p105 q105
                  obtain rfl : ad102 = ad105 := (by injection e105)
                  replace hx105_0 := bc_ HB hx105_0
                  replace hx105_1 := bc_ HB hx105_1
                  have HR105_1 := mk0 hi105_1
                  have HC105_1 := mk0 hl105_1
                  clear hi105_1 hl105_1
                  replace p105 := eq_true p105
                  replace q105 := eq_true q105
                  have ea_ := Option.some.inj (hx104_1.symm.trans hx105_1)
                  injection ea_ with ea_ en_ ec_
                  subst ea_
                  subst ec_
                  clear en_
                  have p106 : 0 ≤ (x5_3 : Int) := of_decide_eq_true (by first | (with_reducible assumption) | assumption)
                  have q106 : x5_3 < (((rd_T30 l0_0 x4_1).f1).length : Int) := of_decide_eq_true (by first | (with_reducible assumption) | assumption)
                  obtain ⟨ad106, e106, hx106_0, hx106_1, hx106_2⟩ := at_T39 HR105_1.out x5_3 p106 q106
                  cases e106
                  replace hx106_0 := bc_ HB hx106_0
                  replace hx106_1 := bc_ HB hx106_1
                  replace hx106_2 := bc_ HB hx106_2
                  replace p106 := eq_true p106
                  replace q106 := eq_true q106
                  go_wp2
                  repeat (go_quiet (fail); try go_wp2)
                  go_roundg k3
                  case measure => have := HK1.out; have := HJ3.out; have := HK3.out; omega
                  case rel => exact ⟨(wrap64 (x3_3 + (wrap64 ((((rd_T39 ((rd_T30 l0_0 x4_1).f1) x5_3).f1).size : Int) / 8)))), (wrap64 (x5_3 + 1)), (by first | rfl | (simp; done) | (simp [*]; done)), (by first | rfl | (simp; done) | (simp [*]; done)), H', ⟨by have := HK1.out; have := HJ3.out; have := HK3.out; omega⟩, ⟨h_ BK101⟩, ⟨b_ HB⟩⟩
                 ·rw [if_neg c16] at H
                  exact absurd H (by simp)
                ·rw [if_neg c15] at H
                 have c15b0 : decide (x3_3 < 1048576) = false := decide_eq_false c15
                 clear c15
                 have H' := mk0 H
                 clear H
                 obtain ⟨hcz18_0, hfz18_0⟩ := c1_ BK101
                 have p104 : 0 ≤ (x4_1 : Int) := of_decide_eq_true (by first | (with_reducible assumption) | assumption)
                 have q104 : x4_1 < (l0_0.length : Int) := of_decide_eq_true (by first | (with_reducible assumption) | assumption)
                 obtain ⟨ad104, A104_1, c104_1, e104, hx104_0, hx104_1, hl104_1, hi104_1⟩ := at_T30 HR0_0.out x4_1 p104 q104
                 obtain rfl : ad102 = ad104 := (by injection e104)
                 replace hx104_0 := bc_ HB hx104_0
                 replace hx104_1 := bc_ HB hx104_1
                 have HR104_1 := mk0 hi104_1
                 have HC104_1 := mk0 hl104_1
                 clear hi104_1 hl104_1
                 replace p104 := eq_true p104
                 replace q104 := eq_true q104
                 go_wp2
                 repeat (go_quiet (fail); try go_wp2)
                 go_roundg k3
                 case measure => have := HK1.out; have := HJ3.out; have := HK3.out; omega
                 case rel => exact ⟨(x3_3), (wrap64 (x4_1 + 1)), (by first | rfl | (simp; done) | (simp [*]; done)), (by first | rfl | (simp; done) | (simp [*]; done)), H', ⟨by have := HK1.out; have := HJ3.out; have := HK3.out; omega⟩, ⟨h_ BK101⟩, ⟨b_ HB⟩⟩
               ·rw [if_neg c14] at H
                have c14b0 : decide (x5_3 < (((rd_T30 l0_0 x4_1).f1).length : Int)) = false := decide_eq_false c14
                clear c14
                have H' := mk0 H
                clear H
                obtain ⟨hcz19_0, hfz19_0⟩ := c1_ BK101
                have p104 : 0 ≤ (x4_1 : Int) := of_decide_eq_true (by first | (with_reducible assumption) | assumption)
                have q104 : x4_1 < (l0_0.length : Int) := of_decide_eq_true (by first | (with_reducible assumption) | assumption)
                obtain ⟨ad104, A104_1, c104_1, e104, hx104_0, hx104_1, hl104_1, hi104_1⟩ := at_T30 HR0_0.out x4_1 p104 q104
                obtain rfl : ad102 = ad104 := (by injection e104)
                replace hx104_0 := bc_ HB hx104_0
                replace hx104_1 := bc_ HB hx104_1
                have HR104_1 := mk0 hi104_1
                have HC104_1 := mk0 hl104_1
                clear hi104_1 hl104_1
                replace p104 := eq_true p104
                replace q104 := eq_true q104
                go_wp2
                repeat (go_quiet (fail); try go_wp2)
                go_roundg k3
                case measure => have := HK1.out; have := HJ3.out; have := HK3.out; omega
                case rel => exact ⟨(x3_3), (wrap64 (x4_1 + 1)), (by first | rfl | (simp; done) | (simp [*]; done)), (by first | rfl | (simp; done) | (simp [*]; done)), H', ⟨by have := HK1.out; have := HJ3.out; have := HK3.out; omega⟩, ⟨h_ BK101⟩, ⟨b_ HB⟩⟩
              ·rw [if_neg c13] at H
               exact absurd H (by simp)
             ·rw [if_neg c12] at H
              exact absurd H (by simp)
         ·rw [if_neg c10] at H
          exact absurd H (by simp)
        ·rw [if_neg c9] at H
         exact absurd H (by simp)
       ·replace c8 := Bool.eq_false_iff.mpr c8
        subst c8
        rw [if_neg (show ¬ (false = true) by decide)] at H
        obtain rfl := Option.some.inj H
        go_wp2
        repeat (go_quiet (fail); try go_wp2)
        go_ret
        exact ⟨by first | rfl | (simp [errW_none, errW_some] <;> rfl) | (simp [*, errW_none, errW_some] <;> rfl), b_ HB⟩

/-! ### quorumlaw0_Texts: function 59 -/
def quorumlaw0_Texts.l0 : Nat → List ByteArray → Int → Int → Option (Int)
 | 0, _, _, _ => none
 | k + 1, x0, x3, x4 => if x4 < (x0.length : Int) then (if x3 < 1048576 then (if 0 ≤ x4 then (quorumlaw0_Texts.l0 k x0 (wrap64 (x3 + ((rdOf ByteArray.empty x0 x4).size : Int))) (wrap64 (x4 + 1))) else (none)) else (some x3)) else (some x3)
def quorumlaw0_Texts.f (k : Nat) (l0 : List ByteArray) : Option (Int) := quorumlaw0_Texts.l0 k l0 (l0.length : Int) 0
theorem quorumlaw0_Texts.mono_l : ∀ k, (∀ y0 y1 y2, LeO (quorumlaw0_Texts.l0 k y0 y1 y2) (quorumlaw0_Texts.l0 (k + 1) y0 y1 y2))
 | 0 => fun _ _ _ r h => by simp [quorumlaw0_Texts.l0] at h
 | k + 1 => by
  have ih0 := quorumlaw0_Texts.mono_l k
  ·intro y0 y1 y2
   unfold quorumlaw0_Texts.l0
   repeat' first
   | (with_reducible exact ih0 _ _ _)
   | (with_reducible exact LeO.refl _)
   | (with_reducible exact LeO.none _)
   | (with_reducible refine LeO.ite ?_ ?_)
   | (with_reducible refine LeO.bind ?_ (fun _ => ?_))
   | exact ih0 _ _ _
   | exact LeO.none _
   | refine LeO.ite ?_ ?_
   | refine LeO.bind ?_ (fun _ => ?_)
theorem quorumlaw0_Texts.mono : ∀ a0 k, LeO (quorumlaw0_Texts.f k a0) (quorumlaw0_Texts.f (k + 1) a0) := by
 intro a0 k
 have ih0 := quorumlaw0_Texts.mono_l k
 unfold quorumlaw0_Texts.f
 repeat' first
   | (with_reducible exact ih0 _ _ _)
   | (with_reducible exact LeO.refl _)
   | (with_reducible exact LeO.none _)
   | (with_reducible refine LeO.ite ?_ ?_)
   | (with_reducible refine LeO.bind ?_ (fun _ => ?_))
   | exact ih0 _ _ _
   | exact LeO.none _
   | refine LeO.ite ?_ ?_
   | refine LeO.bind ?_ (fun _ => ?_)
set_option maxHeartbeats 8000000 in
set_option maxRecDepth 100000 in
theorem quorumlaw0_Texts.calls (k : Nat) (A0 : Option Addr) (c0 : Nat) (l0 : List ByteArray) (r : Int) (w : World) (hr0 : Kd.C Kd.string w A0 l0.length l0) (hc0 : l0.length ≤ c0) (h : quorumlaw0_Texts.f k l0 = some r) :
  Calls Try.prog 59 #[.slice A0 l0.length c0] w fun e w' => e = .returned (.int .i64 r) ∧ Drawn0 w w' := by
 have HR0 := mk0 hr0
 have HC0 := mk0 hc0
 clear hr0 hc0
 have H : (quorumlaw0_Texts.l0 k l0 (l0.length : Int) 0) = some r := h
 clear h
 have H' := mk0 H
 clear H
 go_enter Try.func59, Try.ntmps59
 go_wp2
 go_loopg [3, 4] k (fun kq v3 v4 w' => ∃ (x3_1 : Int) (x4_1 : Int), v3 = .int .i64 x3_1 ∧ v4 = .int .i64 x4_1 ∧ Fc (quorumlaw0_Texts.l0 kq l0 x3_1 x4_1 = some r) ∧ Fc (kq ≤ k) ∧ Drawn0 w w')
 case atStart => exact ⟨((l0.length : Int)), (0), (by first | rfl | (simp; done) | (simp [*]; done)), (by first | rfl | (simp; done) | (simp [*]; done)), H', ⟨Nat.le_refl _⟩, by repeat (first | exact Drawn0.refl _ | apply Drawn0.step)⟩
 case round =>
  clear H'
  obtain ⟨x3_1, x4_1, rfl, rfl, HA, HK1, ⟨m1, rfl⟩⟩ := hrel
  cases gk with
  | zero => exact absurd HA.out (by simp [quorumlaw0_Texts.l0])
  | succ k1 =>
   have H := HA.out
   clear HA
   simp only [quorumlaw0_Texts.l0] at H
   as_aux_lemma =>
    by_cases c2 : x4_1 < (l0.length : Int)
    ·rw [if_pos c2] at H
     have c2b0 : decide (x4_1 < (l0.length : Int)) = true := decide_eq_true c2
     clear c2
     by_cases c3 : x3_1 < 1048576
     ·rw [if_pos c3] at H
      have c3b0 : decide (x3_1 < 1048576) = true := decide_eq_true c3
      clear c3
      by_cases c4 : 0 ≤ x4_1
      ·rw [if_pos c4] at H
       have c4b0 : decide (0 ≤ x4_1) = true := decide_eq_true c4
       clear c4
       have H' := mk0 H
       clear H
       have p107 : 0 ≤ (x4_1 : Int) := of_decide_eq_true (by first | (with_reducible assumption) | assumption)
       have q107 : x4_1 < (l0.length : Int) := of_decide_eq_true (by first | (with_reducible assumption) | assumption)
       obtain ⟨ad107, e107, hx107_0⟩ := Kd.at_string HR0.out x4_1 p107 q107
       cases e107
       replace p107 := eq_true p107
       replace q107 := eq_true q107
       go_wp2
       go_roundg k1
       case measure => have := HK1.out; omega
       case rel => exact ⟨(wrap64 (x3_1 + ((rdOf ByteArray.empty l0 x4_1).size : Int))), (wrap64 (x4_1 + 1)), (by first | rfl | (simp; done) | (simp [*]; done)), (by first | rfl | (simp; done) | (simp [*]; done)), H', ⟨by have := HK1.out; omega⟩, by repeat (first | exact Drawn0.refl _ | apply Drawn0.step)⟩
      ·rw [if_neg c4] at H
       exact absurd H (by simp)
     ·rw [if_neg c3] at H
      have c3b0 : decide (x3_1 < 1048576) = false := decide_eq_false c3
      clear c3
      obtain rfl := Option.some.inj H
      go_wp2
      go_ret
      exact ⟨by first | rfl | (simp; done) | (simp [*]; done), by repeat (first | exact Drawn0.refl _ | apply Drawn0.step)⟩
    ·rw [if_neg c2] at H
     have c2b0 : decide (x4_1 < (l0.length : Int)) = false := decide_eq_false c2
     clear c2
     obtain rfl := Option.some.inj H
     go_wp2
     go_ret
     exact ⟨by first | rfl | (simp; done) | (simp [*]; done), by repeat (first | exact Drawn0.refl _ | apply Drawn0.step)⟩

/-! ### quorumlaw8_Heavy: function 15 (by hand) -/
def quorumlaw8_Heavy.f (k : Nat) (l0_0 : List (S30)) (l0_1 : List (S39)) (l0_2 : List Int) (l0_3 : List ByteArray) : Option (Bool) := (quorumlaw0_TableWeight.f k l0_0).bind fun t109 => (if t109 > 800 then (some true) else (if (l0_1.length : Int) > 100 then (some true) else (if (l0_2.length : Int) > 100 then (some true) else ((quorumlaw0_Texts.f k l0_3).bind fun t110 => (if t110 > 900 then (some true) else ((quorumlaw0_TableWeight.f k (([(⟨(⟨#[]⟩ : ByteArray), l0_1⟩ : S30)] : List (S30)))).bind fun t114 => (some (decide (t114 > 800)))))))))

theorem quorumlaw8_Heavy.mono : ∀ a0 a1 a2 a3 k, LeO (quorumlaw8_Heavy.f k a0 a1 a2 a3) (quorumlaw8_Heavy.f (k + 1) a0 a1 a2 a3) := by
  intro a0 a1 a2 a3 k
  unfold quorumlaw8_Heavy.f
  repeat' first
      | (with_reducible exact quorumlaw0_TableWeight.mono _ _)
      | (with_reducible exact quorumlaw0_Texts.mono _ _)
      | (with_reducible exact LeO.refl _)
      | (with_reducible exact LeO.none _)
      | (with_reducible refine LeO.ite ?_ ?_)
      | (with_reducible refine LeO.bind ?_ (fun _ => ?_))
theorem quorumlaw8_Heavy.one (w : World) (A : Option Addr) (l : List S39) (c : Nat) (h : Kd.C k39 w A l.length l) (hc : l.length ≤ c) :
    Kd.C k30 (w.alloc (.cells #[.string ⟨#[]⟩, .slice A l.length c] 30)) (some ⟨w.heap.size, 0, none⟩) 1 [(⟨⟨#[]⟩, l⟩ : S30)] := by
  refine ⟨rfl, by omega, fun _ => ⟨_, rfl, fun j p hj => ?_⟩⟩
  match j, hj with
  | 0, hj =>
    obtain rfl : (⟨⟨#[]⟩, l⟩ : S30) = p := by simpa using hj
    refine ⟨_, rfl, k30_mk _ _ hc (Kd.C_below h (below_alloc (Below.refl _ _) _)), fun i u hu => ?_⟩
    match i, hu with
    | 0, hu => simp at hu; subst hu; rw [add_plain]; simp
    | 1, hu => simp at hu; subst hu; rw [add_plain]; simp
    | i + 2, hu => simp at hu
  | j + 1, hj => simp at hj

set_option maxHeartbeats 1600000 in
set_option maxRecDepth 100000 in
theorem quorumlaw8_Heavy.calls (k : Nat) (A0_0 : Option Addr) (c0_0 : Nat) (l0_0 : List (S30)) (A0_1 : Option Addr) (c0_1 : Nat) (l0_1 : List (S39)) (A0_2 : Option Addr) (c0_2 : Nat) (l0_2 : List Int) (A0_3 : Option Addr) (c0_3 : Nat) (l0_3 : List ByteArray) (r : Bool) (w : World) (hr0_0 : Kd.C k30 w A0_0 l0_0.length l0_0) (hc0_0 : l0_0.length ≤ c0_0) (hr0_1 : Kd.C k39 w A0_1 l0_1.length l0_1) (hc0_1 : l0_1.length ≤ c0_1) (hr0_2 : Kd.C (Kd.int .i64) w A0_2 l0_2.length l0_2) (hc0_2 : l0_2.length ≤ c0_2) (hr0_3 : Kd.C Kd.string w A0_3 l0_3.length l0_3) (hc0_3 : l0_3.length ≤ c0_3) (h : quorumlaw8_Heavy.f k l0_0 l0_1 l0_2 l0_3 = some r) :
    Calls Try.prog 15 #[.agg #[.slice A0_0 l0_0.length c0_0, .slice A0_1 l0_1.length c0_1, .slice A0_2 l0_2.length c0_2, .slice A0_3 l0_3.length c0_3]] w fun e w' => e = .returned (.bool r) ∧ Below w.heap.size w w' := by
  have hu27 := Try.underlying27
  have hu75 := Try.underlying79
  have hu31 := Try.underlying30
  have HA := fun (W : World) (hb : Below w.heap.size w W) => And.intro (Kd.C_below hr0_0 hb) (And.intro (Kd.C_below hr0_1 hb) (Kd.C_below hr0_3 hb))
  have HC := And.intro hc0_0 (And.intro hc0_1 hc0_3)
  have HAA := Aside0.mk HA
  have HCC := Aside0.mk HC
  clear hr0_0 hr0_1 hr0_2 hr0_3 hc0_0 hc0_1 hc0_2 hc0_3 HA HC
  unfold quorumlaw8_Heavy.f at h
  obtain ⟨t1, h1, h⟩ := Option.bind_eq_some_iff.1 h
  have H1 := Aside0.mk h1
  clear h1
  obtain ⟨w1, hw1⟩ : ∃ w1, w1 = w.alloc (.cells #[.slice A0_0 l0_0.length c0_0, .slice A0_1 l0_1.length c0_1, .slice A0_2 l0_2.length c0_2, .slice A0_3 l0_3.length c0_3] 27) := ⟨_, rfl⟩
  have hb1 : Below w.heap.size w w1 := by rw [hw1]; exact below_alloc (Below.refl _ _) _
  have hlt : w.heap.size < w1.heap.size := by rw [hw1]; simp
  have hcell : ∀ W, Below w1.heap.size w1 W → (W.cell? ⟨w.heap.size, 0, none⟩ = some (.slice A0_0 l0_0.length c0_0) ∧ W.cell? ⟨w.heap.size, 1, none⟩ = some (.slice A0_1 l0_1.length c0_1)) ∧ W.cell? ⟨w.heap.size, 2, none⟩ = some (.slice A0_2 l0_2.length c0_2) ∧ W.cell? ⟨w.heap.size, 3, none⟩ = some (.slice A0_3 l0_3.length c0_3) := fun W hb => by
    refine ⟨⟨?_, ?_⟩, ?_, ?_⟩ <;> (rw [hb.cell (by exact hlt), hw1]; simp)
  have HCELL := Aside0.mk hcell
  have HB1 := Aside0.mk hb1
  have HLT := Aside0.mk hlt
  clear hcell hb1 hlt
  go_enter Try.func15, Try.ntmps15
  go_wp2_with fail
  rw [← hw1]
  have HW1 := Aside0.mk hw1
  clear hw1
  refine (quorumlaw0_TableWeight.calls k _ _ l0_0 t1 _ (HAA.out _ HB1.out).1 HCC.out.1 H1.out).mono ?_
  rintro e w2 ⟨rfl, hb2⟩
  obtain ⟨⟨q0, q1⟩, q2, q3⟩ := HCELL.out _ hb2
  have HB2 := Aside0.mk hb2
  clear hb2
  by_cases c1 : t1 > 800
  · rw [if_pos c1] at h
    obtain rfl := Option.some.inj h
    go_wp2
    go_ret
    exact ⟨rfl, HB1.out.trans (HB2.out.mono (Nat.le_of_lt HLT.out))⟩
  rw [if_neg c1] at h
  have c1' : decide (800 < t1) = false := decide_eq_false c1
  by_cases c2 : (l0_1.length : Int) > 100
  · rw [if_pos c2] at h
    obtain rfl := Option.some.inj h
    have c2' : decide (100 < l0_1.length) = true := decide_eq_true (by omega)
    go_wp2
    go_ret
    exact ⟨rfl, HB1.out.trans (HB2.out.mono (Nat.le_of_lt HLT.out))⟩
  rw [if_neg c2] at h
  have c2' : decide (100 < l0_1.length) = false := decide_eq_false (by omega)
  have c2'' : decide (100 < (l0_1.length : Int)) = false := decide_eq_false (by omega)
  by_cases c3 : (l0_2.length : Int) > 100
  · rw [if_pos c3] at h
    obtain rfl := Option.some.inj h
    have c3' : decide (100 < l0_2.length) = true := decide_eq_true (by omega)
    go_wp2
    go_ret
    exact ⟨rfl, HB1.out.trans (HB2.out.mono (Nat.le_of_lt HLT.out))⟩
  rw [if_neg c3] at h
  have c3' : decide (100 < l0_2.length) = false := decide_eq_false (by omega)
  have c3'' : decide (100 < (l0_2.length : Int)) = false := decide_eq_false (by omega)
  obtain ⟨t2, h2, h⟩ := Option.bind_eq_some_iff.1 h
  have H2 := Aside0.mk h2
  clear h2
  go_wp2_with fail
  refine (quorumlaw0_Texts.calls k _ _ l0_3 t2 _ (HAA.out _ (HB1.out.trans (HB2.out.mono (Nat.le_of_lt HLT.out)))).2.2 HCC.out.2.2 H2.out).mono ?_
  rintro e w3 ⟨rfl, hd3⟩
  have hb3 : Below w1.heap.size w1 w3 := HB2.out.trans (hd3.below.mono HB2.out.size)
  obtain ⟨⟨q0, q1⟩, q2, q3⟩ := HCELL.out _ hb3
  have HB3 := Aside0.mk hb3
  clear hb3 hd3
  by_cases c4 : t2 > 900
  · rw [if_pos c4] at h
    obtain rfl := Option.some.inj h
    go_wp2
    go_ret
    exact ⟨rfl, HB1.out.trans (HB3.out.mono (Nat.le_of_lt HLT.out))⟩
  rw [if_neg c4] at h
  have c4' : decide (900 < t2) = false := decide_eq_false c4
  obtain ⟨t3, h3, h⟩ := Option.bind_eq_some_iff.1 h
  have H3 := Aside0.mk h3
  clear h3
  obtain rfl := Option.some.inj h
  go_wp2_with fail
  refine (quorumlaw0_TableWeight.calls k _ _ [(⟨⟨#[]⟩, l0_1⟩ : S30)] t3 _ (quorumlaw8_Heavy.one w3 _ _ _ (HAA.out _ (HB1.out.trans (HB3.out.mono (Nat.le_of_lt HLT.out)))).2.1 HCC.out.2.1) (Nat.le_refl 1) H3.out).mono ?_
  rintro e w4 ⟨rfl, hb4⟩
  go_wp2
  go_ret
  exact ⟨rfl, HB1.out.trans ((HB3.out.trans ((below_alloc (Below.refl _ _) _).trans (hb4.mono (by simp)) |>.mono HB3.out.size)).mono (Nat.le_of_lt HLT.out))⟩


/-! ### quorumref0_CopyVersions: function 60 -/
def quorumref0_CopyVersions.l0 : Nat → List (S39) → List (S39) → Int → Option ((List (S39)))
 | 0, _, _, _ => none
 | k + 1, x0, x3, x4 => if x4 < (x0.length : Int) then (if 0 ≤ x4 then (if x3.length < 4398046511104 then (quorumref0_CopyVersions.l0 k x0 (x3 ++ [(⟨(rd_T39 x0 x4).f0, (rd_T39 x0 x4).f1, (rd_T39 x0 x4).f2⟩ : S39)]) (wrap64 (x4 + 1))) else (none)) else (none)) else (some x3)
def quorumref0_CopyVersions.f (k : Nat) (l0 : List (S39)) : Option ((List (S39))) := quorumref0_CopyVersions.l0 k l0 ([] : List (S39)) 0
theorem quorumref0_CopyVersions.mono_l : ∀ k, (∀ y0 y1 y2, LeO (quorumref0_CopyVersions.l0 k y0 y1 y2) (quorumref0_CopyVersions.l0 (k + 1) y0 y1 y2))
 | 0 => fun _ _ _ r h => by simp [quorumref0_CopyVersions.l0] at h
 | k + 1 => by
  have ih0 := quorumref0_CopyVersions.mono_l k
  ·intro y0 y1 y2
   unfold quorumref0_CopyVersions.l0
   repeat' first
   | (with_reducible exact ih0 _ _ _)
   | (with_reducible exact LeO.refl _)
   | (with_reducible exact LeO.none _)
   | (with_reducible refine LeO.ite ?_ ?_)
   | (with_reducible refine LeO.bind ?_ (fun _ => ?_))
   | exact ih0 _ _ _
   | exact LeO.none _
   | refine LeO.ite ?_ ?_
   | refine LeO.bind ?_ (fun _ => ?_)
theorem quorumref0_CopyVersions.mono : ∀ a0 k, LeO (quorumref0_CopyVersions.f k a0) (quorumref0_CopyVersions.f (k + 1) a0) := by
 intro a0 k
 have ih0 := quorumref0_CopyVersions.mono_l k
 unfold quorumref0_CopyVersions.f
 repeat' first
   | (with_reducible exact ih0 _ _ _)
   | (with_reducible exact LeO.refl _)
   | (with_reducible exact LeO.none _)
   | (with_reducible refine LeO.ite ?_ ?_)
   | (with_reducible refine LeO.bind ?_ (fun _ => ?_))
   | exact ih0 _ _ _
   | exact LeO.none _
   | refine LeO.ite ?_ ?_
   | refine LeO.bind ?_ (fun _ => ?_)
set_option maxHeartbeats 8000000 in
set_option maxRecDepth 100000 in
theorem quorumref0_CopyVersions.calls (k : Nat) (A0 : Option Addr) (c0 : Nat) (l0 : List (S39)) (r : List (S39)) (w : World) (hr0 : Kd.C k39 w A0 l0.length l0) (hc0 : l0.length ≤ c0) (h : quorumref0_CopyVersions.f k l0 = some r) :
  Calls Try.prog 60 #[.slice A0 l0.length c0] w fun e w' => ∃ v0_ : Value, e = .returned (v0_) ∧ Kd.R k39 39 w' w.heap.size (fun _ => True) v0_ r ∧ Below w.heap.size w w' := by
 have hu39 := Try.underlying39
 have HR0 := mk0 hr0
 have HC0 := mk0 hc0
 clear hr0 hc0
 have HB := mk0 (Below.refl w.heap.size w)
 have H : (quorumref0_CopyVersions.l0 k l0 ([] : List (S39)) 0) = some r := h
 clear h
 have H' := mk0 H
 clear H
 go_enter Try.func60, Try.ntmps60
 go_wp2
 go_loopg [3, 4] k (fun kq v3 v4 w' => ∃ (x3_1 : List (S39)) (x4_1 : Int), v4 = .int .i64 x4_1 ∧ Fc (quorumref0_CopyVersions.l0 kq l0 x3_1 x4_1 = some r) ∧ Fc (kq ≤ k) ∧ Fc (Kd.R k39 39 w' w.heap.size (fun _ => True) v3 x3_1) ∧ Fc (Below w.heap.size w w'))
 case atStart => exact ⟨(([] : List (S39))), (0), (by first | rfl | (simp; done) | (simp [*]; done)), H', ⟨Nat.le_refl _⟩, ⟨by first | exact Kd.R_nil _ _ _ _ _ | exact Kd.N_nil _ _ _ _ _ | exact Kd.V_nil _ _ _ _ _ | exact Kd.Q_nil _ _ _ _ _ | exact Kd.S_nil _ _ _ _ _⟩, ⟨b_ HB⟩⟩
 case round =>
  clear H'
  obtain ⟨x3_1, x4_1, rfl, HA, HK1, HO_3, HB⟩ := hrel
  cases gk with
  | zero => exact absurd HA.out (by simp [quorumref0_CopyVersions.l0])
  | succ k1 =>
   have H := HA.out
   clear HA
   simp only [quorumref0_CopyVersions.l0] at H
   as_aux_lemma =>
    by_cases c2 : x4_1 < (l0.length : Int)
    ·rw [if_pos c2] at H
     have c2b0 : decide (x4_1 < (l0.length : Int)) = true := decide_eq_true c2
     clear c2
     by_cases c3 : 0 ≤ x4_1
     ·rw [if_pos c3] at H
      have c3b0 : decide (0 ≤ x4_1) = true := decide_eq_true c3
      clear c3
      by_cases c4 : x3_1.length < 4398046511104
      ·rw [if_pos c4] at H
       have LMc4 := mk0 c4
       clear c4
       obtain ⟨y109, hy109⟩ : ∃ y_ : List (S39), y_ = (x3_1 ++ [(⟨(rd_T39 l0 x4_1).f0, (rd_T39 l0 x4_1).f1, (rd_T39 l0 x4_1).f2⟩ : S39)]) := ⟨_, rfl⟩
       replace H : (quorumref0_CopyVersions.l0 k1 l0 y109 (wrap64 (x4_1 + 1))) = some r := by first | (rw [hy109]; with_reducible exact H) | (have H2_ := (Option.bind_some _ _).symm.trans H; rw [hy109]; with_reducible exact H2_) | (have H2_ := (Option.bind_some _ _).symm.trans H; with_reducible exact H2_) | with_reducible exact H | (rw [hy109]; exact H) | exact H
       have Ny109 := mk0 hy109
       clear hy109
       have H' := mk0 H
       clear H
       have p108 : 0 ≤ (x4_1 : Int) := of_decide_eq_true (by first | (with_reducible assumption) | assumption)
       have q108 : x4_1 < (l0.length : Int) := of_decide_eq_true (by first | (with_reducible assumption) | assumption)
       obtain ⟨ad108, e108, hx108_0, hx108_1, hx108_2⟩ := at_T39 HR0.out x4_1 p108 q108
       cases e108
       replace hx108_0 := bc_ HB hx108_0
       replace hx108_1 := bc_ HB hx108_1
       replace hx108_2 := bc_ HB hx108_2
       replace p108 := eq_true p108
       replace q108 := eq_true q108
       go_wp2_with (first | ((with_reducible refine gate_builtin (b := .append) (xs := #[.tmp 11, .tmp 16]) rfl ?_); at_builtin; refine Kd.R_append k39 (w0 := w) w.heap.size rfl (.tmp 11) (.tmp 16) 23 39 (.agg #[(.int .i64 0), (.string ⟨#[]⟩), (.bool false)]) 32 rfl Try.underlying23 info39 rfl (by decide) (by omega) u3 x3_1 (⟨(rd_T39 l0 x4_1).f0, (rd_T39 l0 x4_1).f1, (rd_T39 l0 x4_1).f2⟩ : S39) [.int .i64 ((rd_T39 l0 x4_1).f0), .string ((rd_T39 l0 x4_1).f1), .bool ((rd_T39 l0 x4_1).f2)] (fun _ => True) (fun _ => False) rfl rfl ?aP (fun _ hk => hk.elim) ?aF ?aO ?aB ?aS ?aL ?_; (case aP => exact k39_mkM _ _ _ (⟨(rd_T39 l0 x4_1).f0, (rd_T39 l0 x4_1).f1, (rd_T39 l0 x4_1).f2⟩ : S39)); (case aB => exact (b_ HB)); (case aF => exact (fun _ _ => trivial)); (case aO => exact (r_ HO_3)); (case aS => exact (bz_ (b_ HB))); (case aL => have := LMc4.out; omega); intro v110 w5 ho hb hg hat; rw [← Ny109.out] at ho; replace HB := mk0 (hb); have HO111 := mk0 (ho); clear HO_3; clear ho hb hg hat))
       go_roundg k1
       case measure => have := HK1.out; omega
       case rel => exact ⟨(y109), (wrap64 (x4_1 + 1)), (by first | rfl | (simp; done) | (simp [*]; done)), H', ⟨by have := HK1.out; omega⟩, ⟨by (with_reducible repeat (first | apply Ra_ | apply Rn_ | apply Rd_)); exact HO111.out⟩, ⟨b_ HB⟩⟩
      ·rw [if_neg c4] at H
       exact absurd H (by simp)
     ·rw [if_neg c3] at H
      exact absurd H (by simp)
    ·rw [if_neg c2] at H
     have c2b0 : decide (x4_1 < (l0.length : Int)) = false := decide_eq_false c2
     clear c2
     obtain rfl := Option.some.inj H
     go_wp2
     go_ret
     exact ⟨_, by first | rfl | (simp [errW_none, errW_some] <;> rfl) | (simp [*, errW_none, errW_some] <;> rfl), by (with_reducible repeat (first | apply Ra_ | apply Rn_ | apply Rd_)); exact HO_3.out, b_ HB⟩

/-! ### quorumref0_CopyChain: function 16 -/
def quorumref0_CopyChain.f (k : Nat) (a0_0 : ByteArray) (l0_1 : List (S39)) : Option (ByteArray × (List (S39))) := (quorumref0_CopyVersions.f k l0_1).bind fun t115 => (some (a0_0, t115))
theorem quorumref0_CopyChain.mono : ∀ a0 a1 k, LeO (quorumref0_CopyChain.f k a0 a1) (quorumref0_CopyChain.f (k + 1) a0 a1) := by
 intro a0 a1 k
 unfold quorumref0_CopyChain.f
 repeat' first
   | (with_reducible exact quorumref0_CopyVersions.mono _ _)
   | (with_reducible exact LeO.refl _)
   | (with_reducible exact LeO.none _)
   | (with_reducible refine LeO.ite ?_ ?_)
   | (with_reducible refine LeO.bind ?_ (fun _ => ?_))
   | exact quorumref0_CopyVersions.mono _ _
   | exact LeO.none _
   | refine LeO.ite ?_ ?_
   | refine LeO.bind ?_ (fun _ => ?_)
set_option maxHeartbeats 8000000 in
set_option maxRecDepth 100000 in
theorem quorumref0_CopyChain.calls (k : Nat) (a0_0 : ByteArray) (A0_1 : Option Addr) (c0_1 : Nat) (l0_1 : List (S39)) (r1 : ByteArray) (r2 : List (S39)) (w : World) (hr0_1 : Kd.C k39 w A0_1 l0_1.length l0_1) (hc0_1 : l0_1.length ≤ c0_1) (h : quorumref0_CopyChain.f k a0_0 l0_1 = some (r1, r2)) :
  Calls Try.prog 16 #[.agg #[.string a0_0, .slice A0_1 l0_1.length c0_1]] w fun e w' => ∃ v1_ : Value, e = .returned (.agg #[.string r1, v1_]) ∧ Kd.R k39 39 w' w.heap.size (fun _ => True) v1_ r2 ∧ Below w.heap.size w w' := by
 have hu30 := Try.underlying30
 have HR0_1 := mk0 hr0_1
 have HC0_1 := mk0 hc0_1
 clear hr0_1 hc0_1
 have HB := mk0 (Below.refl w.heap.size w)
 have H : ((quorumref0_CopyVersions.f k l0_1).bind fun t115 => (some (a0_0, t115))) = some (r1, r2) := h
 clear h
 replace H := Option.bind_eq_some_iff.mp H
 obtain ⟨t115, A20, H⟩ := H
 try dsimp only at H
 have A2 := mk0 A20
 clear A20
 simp only [Option.some.injEq, Prod.mk.injEq] at H
 obtain ⟨rfl, rfl⟩ := H
 go_enter Try.func16, Try.ntmps16
 go_wp2_with (first | ((with_reducible refine gate_dst (N := 1) rfl ?_); refine bx_ (N := 1) (cs := #[.string a0_0, .slice A0_1 l0_1.length c0_1]) (t := 30) (h := ?_); intro gb112 hg w3 hbox hb; have n2_ := mk0 (gz_ HB hg); have n3_ := mk0 (gz_ HB hg); replace HB := mk0 (bt_ (b_ HB) hb); have BK112 := mk0 (hbox); have GW112 := n2_; have GE112 := n3_; clear n2_ n3_; clear hb hbox hg) | ((with_reducible refine gate_dst (N := 2) rfl ?_); refine bx_ (N := 2) (cs := #[.string (⟨#[]⟩ : ByteArray), .slice none 0 0]) (t := 30) (h := ?_); intro gb113 hg w4 hbox hb; have n3_ := mk0 (gz_ HB hg); have n4_ := mk0 (gz_ HB hg); have n5_ := mk0 (ne1_ BK112 hg); have n6_ := mk0 (ne2_ BK112 hg); replace BK112 := mk0 (u_ BK112 hb); replace HB := mk0 (bt_ (b_ HB) hb); have BK113 := mk0 (hbox); have GW113 := n3_; have GE113 := n4_; have NB112_113 := n5_; have NB113_112 := n6_; clear n3_ n4_ n5_ n6_ hb hbox hg; have hnb5 := NB112_113.out; have hnc5 := NB113_112.out; obtain ⟨hcz6_0, hcz6_1, hfz6_0, hfz6_1⟩ := c2_ BK112) | ((with_reducible refine gate_dst (N := 3) rfl ?_); refine bx_ (N := 3) (cs := #[.string (⟨#[]⟩ : ByteArray), .slice none 0 0]) (t := 30) (h := ?_); intro gb114 hg w7 hbox hb; have n4_ := mk0 (gz_ HB hg); have n5_ := mk0 (gz_ HB hg); have n6_ := mk0 (ne1_ BK112 hg); have n7_ := mk0 (ne2_ BK112 hg); have n8_ := mk0 ((by rw [hg]; exact Nat.ne_of_lt (blk_lt (g := gb113) (o := .cells #[.string (⟨#[]⟩ : ByteArray), .slice none 0 0] 30 (0, 0)) (h_ BK113)) : gb113 ≠ gb114)); have n9_ := mk0 ((by rw [hg]; exact Nat.ne_of_gt (blk_lt (g := gb113) (o := .cells #[.string (⟨#[]⟩ : ByteArray), .slice none 0 0] 30 (0, 0)) (h_ BK113)) : gb114 ≠ gb113)); replace BK112 := mk0 (u_ BK112 hb); replace BK113 := mk0 (blk_below (g := gb113) (o := .cells #[.string (⟨#[]⟩ : ByteArray), .slice none 0 0] 30 (0, 0)) (h_ BK113) hb); replace HB := mk0 (bt_ (b_ HB) hb); have BK114 := mk0 (hbox); have GW114 := n4_; have GE114 := n5_; have NB112_114 := n6_; have NB114_112 := n7_; have NB113_114 := n8_; have NB114_113 := n9_; clear n4_ n5_ n6_ n7_ n8_ n9_ hb hbox hg; have hnb8 := NB114_112.out; have hnc8 := NB112_114.out; have hnb9 := NB114_113.out; have hnc9 := NB113_114.out; obtain ⟨hcz10_0, hcz10_1, hfz10_0, hfz10_1⟩ := c2_ BK114; obtain ⟨hcz11_0, hcz11_1, hfz11_0, hfz11_1⟩ := c2_ BK112) | ((with_reducible refine gate_callee (f := 60) rfl ?_); refine gL_ (some 7) Try.func60 #[.slice A0_1 l0_1.length c0_1] (h := ?_); (with_reducible refine (quorumref0_CopyVersions.calls k _ _ l0_1 t115 _ ?side1 ?side2 A2.out).mono ?_); (case side1 => exact Kd.C_below HR0_1.out (b_ HB)); (case side2 => exact HC0_1.out); rintro e w12 ⟨v116, rfl, ho0, hb⟩; refine ⟨_, rfl, ?_⟩; have n0_ := mk0 (Kd.R_lower ho0 (bz_ (b_ HB))); replace BK112 := mk0 (blk_below (g := gb112) (o := .cells #[.string a0_0, .slice A0_1 l0_1.length c0_1] 30 (0, 0)) (fa_ (fa_ (h_ BK112) NB112_114.out) NB112_114.out) hb); replace BK113 := mk0 (blk_below (g := gb113) (o := .cells #[.string (⟨#[]⟩ : ByteArray), .slice none 0 0] 30 (0, 0)) (fa_ (fa_ (h_ BK113) NB113_114.out) NB113_114.out) hb); replace BK114 := mk0 (blk_below (g := gb114) (o := .cells #[.string a0_0, .slice A0_1 l0_1.length c0_1] 30 (0, 0)) (pu_ (cs := #[.string a0_0, .slice none 0 0]) (pu_ (cs := #[.string (⟨#[]⟩ : ByteArray), .slice none 0 0]) (h_ BK114))) hb); replace HB := mk0 (bt_ (b_ HB) hb); have HO117 := n0_; clear n0_; (try clear hb); (try clear ho0); obtain ⟨Ao13, co13, eo13⟩ := Kd.R_slice HO117.out; subst eo13; obtain ⟨hcz14_0, hcz14_1, hfz14_0, hfz14_1⟩ := c2_ BK114; obtain ⟨hcz15_0, hcz15_1, hfz15_0, hfz15_1⟩ := c2_ BK113))
 refine bodyPost_ret (results_cell_row rfl _ _ gb113 30 #[.string a0_0, .slice Ao13 t115.length co13] (0, 0) _ rfl (pu_ (cs := #[.string a0_0, .slice none 0 0]) (pu_ (cs := #[.string (⟨#[]⟩ : ByteArray), .slice none 0 0]) (fa_ (h_ BK113) NB113_114.out))) Try.underlying30 rfl (by kernel_rfl)) rfl ?_
 exact ⟨_, by first | rfl | (simp [errW_none, errW_some] <;> rfl) | (simp [*, errW_none, errW_some] <;> rfl), by (with_reducible repeat (first | apply Ra_ | apply Rn_ | apply Rd_)); exact Kd.R_mono (Kd.R_far (p := ⟨gb113, 1, none⟩) (Kd.R_far (p := ⟨gb113, 0, none⟩) (Kd.R_far (p := ⟨gb114, 1, none⟩) (Kd.R_types (Kd.R_types HO117.out BK114.out (by decide)) BK113.out (by decide)) (fun _ hk => hk.1.2) (.slice Ao13 t115.length co13)) (fun _ hk => hk.2) (.string a0_0)) (fun _ hk => hk.2) (.slice Ao13 t115.length co13)) (fun _ hk => trivial), b_ HB⟩

/-! ### quorumref0_Between: function 67 -/
def quorumref0_Between.f (a0 : Int) (a1 : Int) (a2 : Int) : Option (Bool) := if a0 ≥ a1 then (some (decide (a0 ≤ a2))) else (some false)
set_option maxHeartbeats 8000000 in
set_option maxRecDepth 100000 in
theorem quorumref0_Between.calls (a0 : Int) (a1 : Int) (a2 : Int) (r : Bool) (w : World) (h : quorumref0_Between.f a0 a1 a2 = some r) :
  Calls Try.prog 67 #[.int .i64 a0, .int .i64 a1, .int .i64 a2] w fun e w' => e = .returned (.bool r) ∧ Drawn0 w w' := by
 have H : (if a0 ≥ a1 then (some (decide (a0 ≤ a2))) else (some false)) = some r := h
 clear h
 by_cases c4 : a0 ≥ a1
 ·rw [if_pos c4] at H
  have c4b0 : decide (a1 ≤ a0) = true := decide_eq_true c4
  clear c4
  obtain rfl := Option.some.inj H
  go_enter Try.func67, Try.ntmps67
  go_wp2
  go_ret
  exact ⟨by first | rfl | (simp; done) | (simp [*]; done), by repeat (first | exact Drawn0.refl _ | apply Drawn0.step)⟩
 ·rw [if_neg c4] at H
  have c4b0 : decide (a1 ≤ a0) = false := decide_eq_false c4
  clear c4
  obtain rfl := Option.some.inj H
  go_enter Try.func67, Try.ntmps67
  go_wp2
  go_ret
  exact ⟨by first | rfl | (simp; done) | (simp [*]; done), by repeat (first | exact Drawn0.refl _ | apply Drawn0.step)⟩

/-! ### quorumref1_Key: function 29 -/
def quorumref1_Key.f (a0 : ByteArray) : Option (Bool) := (quorumref0_Between.f (a0.size : Int) 1 12).bind fun t118 => (some t118)
set_option maxHeartbeats 8000000 in
set_option maxRecDepth 100000 in
theorem quorumref1_Key.calls (a0 : ByteArray) (r : Bool) (w : World) (h : quorumref1_Key.f a0 = some r) :
  Calls Try.prog 29 #[.string a0] w fun e w' => e = .returned (.bool r) ∧ Drawn0 w w' := by
 have H : ((quorumref0_Between.f (a0.size : Int) 1 12).bind fun t118 => (some t118)) = some r := h
 clear h
 replace H := Option.bind_eq_some_iff.mp H
 obtain ⟨t118, A20, H⟩ := H
 try dsimp only at H
 have A2 := mk0 A20
 clear A20
 obtain rfl := Option.some.inj H
 go_enter Try.func29, Try.ntmps29
 go_wp2_with (first | ((with_reducible refine gate_callee (f := 67) rfl ?_); refine gL_ (some 5) Try.func67 #[.int .i64 (a0.size : Int), .int .i64 1, .int .i64 12] (h := ?_); (with_reducible refine (quorumref0_Between.calls (a0.size : Int) 1 12 t118 _ A2.out).mono ?_); rintro e w' ⟨rfl, ⟨nd, rfl⟩⟩; refine ⟨_, rfl, ?_⟩))
 go_ret
 exact ⟨by first | rfl | (simp; done) | (simp [*]; done), by repeat (first | exact Drawn0.refl _ | apply Drawn0.step)⟩

/-! ### quorumref1_Value: function 68 -/
def quorumref1_Value.f (a0 : ByteArray) : Option (Bool) := some (decide ((a0.size : Int) ≤ 20))
set_option maxHeartbeats 8000000 in
set_option maxRecDepth 100000 in
theorem quorumref1_Value.calls (a0 : ByteArray) (r : Bool) (w : World) (h : quorumref1_Value.f a0 = some r) :
  Calls Try.prog 68 #[.string a0] w fun e w' => e = .returned (.bool r) ∧ Drawn0 w w' := by
 have H : (some (decide ((a0.size : Int) ≤ 20))) = some r := h
 clear h
 obtain rfl := Option.some.inj H
 go_enter Try.func68, Try.ntmps68
 go_wp2
 go_ret
 exact ⟨by first | rfl | (simp; done) | (simp [*]; done), by repeat (first | exact Drawn0.refl _ | apply Drawn0.step)⟩

/-! ### quorumref8_Version: function 30 -/
def quorumref8_Version.f (a0_0 : Int) (a0_1 : ByteArray) (a0_2 : Bool) : Option (Bool) := (quorumref0_Between.f a0_0 1 1073741824).bind fun t120 => (if t120 = true then ((quorumref1_Value.f a0_1).bind fun t121 => (if t121 = true then (if a0_2 = true then (some (a0_1.toList == ([] : List UInt8))) else (some true)) else (some false))) else (some false))
set_option maxHeartbeats 8000000 in
set_option maxRecDepth 100000 in
theorem quorumref8_Version.calls (a0_0 : Int) (a0_1 : ByteArray) (a0_2 : Bool) (r : Bool) (w : World) (h : quorumref8_Version.f a0_0 a0_1 a0_2 = some r) :
  Calls Try.prog 30 #[.agg #[.int .i64 a0_0, .string a0_1, .bool a0_2]] w fun e w' => e = .returned (.bool r) ∧ Below w.heap.size w w' := by
 have hu39 := Try.underlying39
 have HB := mk0 (Below.refl w.heap.size w)
 have H : ((quorumref0_Between.f a0_0 1 1073741824).bind fun t120 => (if t120 = true then ((quorumref1_Value.f a0_1).bind fun t121 => (if t121 = true then (if a0_2 = true then (some (a0_1.toList == ([] : List UInt8))) else (some true)) else (some false))) else (some false))) = some r := h
 clear h
 replace H := Option.bind_eq_some_iff.mp H
 obtain ⟨t120, A20, H⟩ := H
 try dsimp only at H
 have A2 := mk0 A20
 clear A20
 by_cases c3 : t120 = true
 ·subst c3
  rw [if_pos rfl] at H
  replace H := Option.bind_eq_some_iff.mp H
  obtain ⟨t121, A40, H⟩ := H
  try dsimp only at H
  have A4 := mk0 A40
  clear A40
  by_cases c5 : t121 = true
  ·subst c5
   rw [if_pos rfl] at H
   by_cases c6 : a0_2 = true
   ·subst c6
    rw [if_pos rfl] at H
    obtain rfl := Option.some.inj H
    go_enter Try.func30, Try.ntmps30
    go_wp2_with (first | ((with_reducible refine gate_dst (N := 1) rfl ?_); refine bx_ (N := 1) (cs := #[.int .i64 a0_0, .string a0_1, .bool true]) (t := 39) (h := ?_); intro gb119 hg w7 hbox hb; have n2_ := mk0 (gz_ HB hg); have n3_ := mk0 (gz_ HB hg); replace HB := mk0 (bt_ (b_ HB) hb); have BK119 := mk0 (hbox); have GW119 := n2_; have GE119 := n3_; clear n2_ n3_ hb hbox hg; obtain ⟨hcz8_0, hcz8_1, hcz8_2, hfz8_0, hfz8_1, hfz8_2⟩ := c3_ BK119) | ((with_reducible refine gate_callee (f := 67) rfl ?_); refine gL_ (some 5) Try.func67 #[.int .i64 a0_0, .int .i64 1, .int .i64 1073741824] (h := ?_); (with_reducible refine (quorumref0_Between.calls a0_0 1 1073741824 true _ A2.out).mono ?_); rintro e w' ⟨rfl, ⟨nd, rfl⟩⟩; refine ⟨_, rfl, ?_⟩) | (go_at_call 68; (with_reducible refine (quorumref1_Value.calls a0_1 true _ A4.out).mono ?_); rintro e w' ⟨rfl, ⟨nd, rfl⟩⟩))
    go_ret
    exact ⟨by first | rfl | (simp [errW_none, errW_some] <;> rfl) | (simp [*, errW_none, errW_some] <;> rfl), b_ HB⟩
   ·replace c6 := Bool.eq_false_iff.mpr c6
    subst c6
    rw [if_neg (show ¬ (false = true) by decide)] at H
    obtain rfl := Option.some.inj H
    go_enter Try.func30, Try.ntmps30
    go_wp2_with (first | ((with_reducible refine gate_dst (N := 1) rfl ?_); refine bx_ (N := 1) (cs := #[.int .i64 a0_0, .string a0_1, .bool false]) (t := 39) (h := ?_); intro gb119 hg w9 hbox hb; have n2_ := mk0 (gz_ HB hg); have n3_ := mk0 (gz_ HB hg); replace HB := mk0 (bt_ (b_ HB) hb); have BK119 := mk0 (hbox); have GW119 := n2_; have GE119 := n3_; clear n2_ n3_ hb hbox hg; obtain ⟨hcz10_0, hcz10_1, hcz10_2, hfz10_0, hfz10_1, hfz10_2⟩ := c3_ BK119) | ((with_reducible refine gate_callee (f := 67) rfl ?_); refine gL_ (some 5) Try.func67 #[.int .i64 a0_0, .int .i64 1, .int .i64 1073741824] (h := ?_); (with_reducible refine (quorumref0_Between.calls a0_0 1 1073741824 true _ A2.out).mono ?_); rintro e w' ⟨rfl, ⟨nd, rfl⟩⟩; refine ⟨_, rfl, ?_⟩) | (go_at_call 68; (with_reducible refine (quorumref1_Value.calls a0_1 true _ A4.out).mono ?_); rintro e w' ⟨rfl, ⟨nd, rfl⟩⟩))
    go_ret
    exact ⟨by first | rfl | (simp [errW_none, errW_some] <;> rfl) | (simp [*, errW_none, errW_some] <;> rfl), b_ HB⟩
  ·replace c5 := Bool.eq_false_iff.mpr c5
   subst c5
   rw [if_neg (show ¬ (false = true) by decide)] at H
   obtain rfl := Option.some.inj H
   go_enter Try.func30, Try.ntmps30
   go_wp2_with (first | ((with_reducible refine gate_dst (N := 1) rfl ?_); refine bx_ (N := 1) (cs := #[.int .i64 a0_0, .string a0_1, .bool a0_2]) (t := 39) (h := ?_); intro gb119 hg w11 hbox hb; have n2_ := mk0 (gz_ HB hg); have n3_ := mk0 (gz_ HB hg); replace HB := mk0 (bt_ (b_ HB) hb); have BK119 := mk0 (hbox); have GW119 := n2_; have GE119 := n3_; clear n2_ n3_ hb hbox hg; obtain ⟨hcz12_0, hcz12_1, hcz12_2, hfz12_0, hfz12_1, hfz12_2⟩ := c3_ BK119) | ((with_reducible refine gate_callee (f := 67) rfl ?_); refine gL_ (some 5) Try.func67 #[.int .i64 a0_0, .int .i64 1, .int .i64 1073741824] (h := ?_); (with_reducible refine (quorumref0_Between.calls a0_0 1 1073741824 true _ A2.out).mono ?_); rintro e w' ⟨rfl, ⟨nd, rfl⟩⟩; refine ⟨_, rfl, ?_⟩) | (go_at_call 68; (with_reducible refine (quorumref1_Value.calls a0_1 false _ A4.out).mono ?_); rintro e w' ⟨rfl, ⟨nd, rfl⟩⟩))
   go_ret
   exact ⟨by first | rfl | (simp [errW_none, errW_some] <;> rfl) | (simp [*, errW_none, errW_some] <;> rfl), b_ HB⟩
 ·replace c3 := Bool.eq_false_iff.mpr c3
  subst c3
  rw [if_neg (show ¬ (false = true) by decide)] at H
  obtain rfl := Option.some.inj H
  go_enter Try.func30, Try.ntmps30
  go_wp2_with (first | ((with_reducible refine gate_dst (N := 1) rfl ?_); refine bx_ (N := 1) (cs := #[.int .i64 a0_0, .string a0_1, .bool a0_2]) (t := 39) (h := ?_); intro gb119 hg w13 hbox hb; have n2_ := mk0 (gz_ HB hg); have n3_ := mk0 (gz_ HB hg); replace HB := mk0 (bt_ (b_ HB) hb); have BK119 := mk0 (hbox); have GW119 := n2_; have GE119 := n3_; clear n2_ n3_ hb hbox hg; obtain ⟨hcz14_0, hcz14_1, hcz14_2, hfz14_0, hfz14_1, hfz14_2⟩ := c3_ BK119) | ((with_reducible refine gate_callee (f := 67) rfl ?_); refine gL_ (some 5) Try.func67 #[.int .i64 a0_0, .int .i64 1, .int .i64 1073741824] (h := ?_); (with_reducible refine (quorumref0_Between.calls a0_0 1 1073741824 false _ A2.out).mono ?_); rintro e w' ⟨rfl, ⟨nd, rfl⟩⟩; refine ⟨_, rfl, ?_⟩))
  go_ret
  exact ⟨by first | rfl | (simp [errW_none, errW_some] <;> rfl) | (simp [*, errW_none, errW_some] <;> rfl), b_ HB⟩

end Go.Proofs.Ytoodkefpkgbjcaa.PCht
