-- PRINTED by print.py (a twelfth state) out of the translation. Not trusted: Lean checks it.
import Derived.Test.YtbaecdcfefmcgaaPPlcx0
namespace Go.Proofs.Ytbaecdcfefmcgaa.PPlc
open Go.RowKit Go.Proofs.YtbaecdcfefmcgaaW.PrintWords Go.Proofs.YtbaecdcfefmcgaaW.PrintLast Go.Proofs.YtbaecdcfefmcgaaW.PrintMore
attribute [local go_sem] max2_int min2_int max_two min_two max_three min_three max_four min_four   -- for this text's walks alone
set_option linter.unusedVariables false
set_option linter.unusedSimpArgs false

/-! ### quorumref8_Last: function 17 -/
mutual
def quorumref8_Last.l0 : Nat → Int → ByteArray → Int → List (S36) → List Int → Option (Int × ByteArray × ByteArray × Bool × Bool)
 | 0, _, _, _, _, _ => none
 | k + 1, x1, x2, x8, x218000, x218001 => if x8 ≥ 0 then (if 0 ≤ x8 then (if x8 < (x218000.length : Int) then (if ((rd_T36 x218000 x8).f0) = x1 then (quorumref8_Last.j1 k x1 x2 x8 (((rd_T36 x218000 x8).f1).toList == x2.toList) x218000 x218001) else (quorumref8_Last.j1 k x1 x2 x8 false x218000 x218001)) else (none)) else (none)) else (some (0, (⟨#[]⟩ : ByteArray), (⟨#[]⟩ : ByteArray), false, false))
def quorumref8_Last.j1 : Nat → Int → ByteArray → Int → Bool → List (S36) → List Int → Option (Int × ByteArray × ByteArray × Bool × Bool)
 | 0, _, _, _, _, _, _ => none
 | k + 1, x1, x2, x8, x34, x218000, x218001 => if x34 = true then (if 0 ≤ x8 then (if x8 < (x218000.length : Int) then (some ((rd_T36 x218000 x8).f0, (rd_T36 x218000 x8).f1, (rd_T36 x218000 x8).f2, (rd_T36 x218000 x8).f3, true)) else (none)) else (none)) else (quorumref8_Last.l0 k x1 x2 (wrap64 (x8 - 1)) x218000 x218001)
end
def quorumref8_Last.f (k : Nat) (l0_0 : List (S36)) (l0_1 : List Int) (a1 : Int) (a2 : ByteArray) : Option (Int × ByteArray × ByteArray × Bool × Bool) := quorumref8_Last.l0 k a1 a2 (wrap64 ((l0_0.length : Int) - 1)) l0_0 l0_1
theorem quorumref8_Last.mono_l : ∀ k, (∀ y0 y1 y2 y3 y4, LeO (quorumref8_Last.l0 k y0 y1 y2 y3 y4) (quorumref8_Last.l0 (k + 1) y0 y1 y2 y3 y4)) ∧ (∀ y0 y1 y2 y3 y4 y5, LeO (quorumref8_Last.j1 k y0 y1 y2 y3 y4 y5) (quorumref8_Last.j1 (k + 1) y0 y1 y2 y3 y4 y5))
 | 0 => ⟨fun _ _ _ _ _ r h => by simp [quorumref8_Last.l0] at h, fun _ _ _ _ _ _ r h => by simp [quorumref8_Last.j1] at h⟩
 | k + 1 => by
  obtain ⟨ih0, ih1⟩ := quorumref8_Last.mono_l k
  refine ⟨?_, ?_⟩
  ·intro y0 y1 y2 y3 y4
   unfold quorumref8_Last.l0
   repeat' first
   | (with_reducible exact ih0 _ _ _ _ _)
   | (with_reducible exact ih1 _ _ _ _ _ _)
   | (with_reducible exact LeO.refl _)
   | (with_reducible exact LeO.none _)
   | (with_reducible refine LeO.ite ?_ ?_)
   | (with_reducible refine LeO.bind ?_ (fun _ => ?_))
   | exact ih0 _ _ _ _ _
   | exact ih1 _ _ _ _ _ _
   | exact LeO.none _
   | refine LeO.ite ?_ ?_
   | refine LeO.bind ?_ (fun _ => ?_)
  ·intro y0 y1 y2 y3 y4 y5
   unfold quorumref8_Last.j1
   repeat' first
   | (with_reducible exact ih0 _ _ _ _ _)
   | (with_reducible exact ih1 _ _ _ _ _ _)
   | (with_reducible exact LeO.refl _)
   | (with_reducible exact LeO.none _)
   | (with_reducible refine LeO.ite ?_ ?_)
   | (with_reducible refine LeO.bind ?_ (fun _ => ?_))
   | exact ih0 _ _ _ _ _
   | exact ih1 _ _ _ _ _ _
   | exact LeO.none _
   | refine LeO.ite ?_ ?_
   | refine LeO.bind ?_ (fun _ => ?_)
theorem quorumref8_Last.mono : ∀ a0 a1 a2 a3 k, LeO (quorumref8_Last.f k a0 a1 a2 a3) (quorumref8_Last.f (k + 1) a0 a1 a2 a3) := by
 intro a0 a1 a2 a3 k
 obtain ⟨ih0, ih1⟩ := quorumref8_Last.mono_l k
 unfold quorumref8_Last.f
 repeat' first
   | (with_reducible exact ih0 _ _ _ _ _)
   | (with_reducible exact ih1 _ _ _ _ _ _)
   | (with_reducible exact LeO.refl _)
   | (with_reducible exact LeO.none _)
   | (with_reducible refine LeO.ite ?_ ?_)
   | (with_reducible refine LeO.bind ?_ (fun _ => ?_))
   | exact ih0 _ _ _ _ _
   | exact ih1 _ _ _ _ _ _
   | exact LeO.none _
   | refine LeO.ite ?_ ?_
   | refine LeO.bind ?_ (fun _ => ?_)
set_option maxHeartbeats 8000000 in
set_option maxRecDepth 100000 in
theorem quorumref8_Last.calls (k : Nat) (A0_0 : Option Addr) (c0_0 : Nat) (l0_0 : List (S36)) (A0_1 : Option Addr) (c0_1 : Nat) (l0_1 : List Int) (a1 : Int) (a2 : ByteArray) (r1 : Int) (r2 : ByteArray) (r3 : ByteArray) (r4 : Bool) (r5 : Bool) (w : World) (hr0_0 : Kd.C k36 w A0_0 l0_0.length l0_0) (hc0_0 : l0_0.length ≤ c0_0) (hr0_1 : Kd.C (Kd.int .i64) w A0_1 l0_1.length l0_1) (hc0_1 : l0_1.length ≤ c0_1) (h : quorumref8_Last.f k l0_0 l0_1 a1 a2 = some (r1, r2, r3, r4, r5)) :
  Calls Try.prog 17 #[.agg #[.slice A0_0 l0_0.length c0_0, .slice A0_1 l0_1.length c0_1], .int .i64 a1, .string a2] w fun e w' => e = .returned (.tuple #[.agg #[.int .i64 r1, .string r2, .string r3, .bool r4], .bool r5]) ∧ Below w.heap.size w w' := by
 have hu34 := Try.underlying34
 have hu36 := Try.underlying36
 have HR0_0 := mk0 hr0_0
 have HC0_0 := mk0 hc0_0
 clear hr0_0 hc0_0
 have HR0_1 := mk0 hr0_1
 have HC0_1 := mk0 hc0_1
 clear hr0_1 hc0_1
 have HB := mk0 (Below.refl w.heap.size w)
 have H : (quorumref8_Last.l0 k a1 a2 (wrap64 ((l0_0.length : Int) - 1)) l0_0 l0_1) = some (r1, r2, r3, r4, r5) := h
 clear h
 have H' := mk0 H
 clear H
 go_enter Try.func17, Try.ntmps17
 go_wp2_with (first | ((with_reducible refine gate_dst (N := 3) rfl ?_); refine bx_ (N := 3) (cs := #[.slice A0_0 l0_0.length c0_0, .slice A0_1 l0_1.length c0_1]) (t := 34) (h := ?_); intro gb217 hg w4 hbox hb; have n2_ := mk0 (gz_ HB hg); have n3_ := mk0 (gz_ HB hg); replace HB := mk0 (bt_ (b_ HB) hb); have BK217 := mk0 (hbox); have GW217 := n2_; have GE217 := n3_; clear n2_ n3_; clear hb hbox hg) | ((with_reducible refine gate_dst (N := 6) rfl ?_); refine bx_ (N := 6) (cs := #[.int .i64 0, .string (⟨#[]⟩ : ByteArray), .string (⟨#[]⟩ : ByteArray), .bool false]) (t := 36) (h := ?_); intro gb218 hg w5 hbox hb; have n3_ := mk0 (gz_ HB hg); have n4_ := mk0 (gz_ HB hg); have n5_ := mk0 (ne1_ BK217 hg); have n6_ := mk0 (ne2_ BK217 hg); replace BK217 := mk0 (u_ BK217 hb); replace HB := mk0 (bt_ (b_ HB) hb); have BK218 := mk0 (hbox); have GW218 := n3_; have GE218 := n4_; have NB217_218 := n5_; have NB218_217 := n6_; clear n3_ n4_ n5_ n6_ hb hbox hg; have hnb6 := NB217_218.out; have hnc6 := NB218_217.out; obtain ⟨hcz7_0, hcz7_1, hfz7_0, hfz7_1⟩ := c2_ BK217))
 go_loopg [8] k (fun kq v8 w' => ∃ (x8_1 : Int) (x219000_1 : Int) (x219001_1 : ByteArray) (x219002_1 : ByteArray) (x219003_1 : Bool), v8 = .int .i64 x8_1 ∧ Fc (quorumref8_Last.l0 kq a1 a2 x8_1 l0_0 l0_1 = some (r1, r2, r3, r4, r5)) ∧ Fc (kq ≤ k) ∧ Fc (w'.heap[gb217]? = some (.cells #[(.slice A0_0 l0_0.length c0_0), (.slice A0_1 l0_1.length c0_1)] 34 (0, 0))) ∧ Fc (w'.heap[gb218]? = some (.cells #[.int .i64 x219000_1, .string x219001_1, .string x219002_1, .bool x219003_1] 36 (0, 0))) ∧ Fc (Below w.heap.size w w'))
 case atStart => exact ⟨(wrap64 ((l0_0.length : Int) - 1)), (0), ((⟨#[]⟩ : ByteArray)), ((⟨#[]⟩ : ByteArray)), (false), (by first | rfl | (simp; done) | (simp [*]; done)), H', ⟨Nat.le_refl _⟩, ⟨h_ BK217⟩, ⟨h_ BK218⟩, ⟨b_ HB⟩⟩
 case round =>
  clear H'
  try clear hcz7_0
  try clear hcz7_1
  try clear hfz7_0
  try clear hfz7_1
  obtain ⟨x8_1, x219000_1, x219001_1, x219002_1, x219003_1, rfl, HA, HK1, BK217, BK218, HB⟩ := hrel
  cases gk with
  | zero => exact absurd HA.out (by simp [quorumref8_Last.l0])
  | succ k1 =>
   have H := HA.out
   clear HA
   simp only [quorumref8_Last.l0] at H
   as_aux_lemma =>
    by_cases c8 : x8_1 ≥ 0
    ·rw [if_pos c8] at H
     have c8b0 : decide (0 ≤ x8_1) = true := decide_eq_true c8
     clear c8
     have HC9 := mk0 H
     clear H
     go_upto_region 4 with (fail)
     go_cut [34] (fun v34 wc => ∃ (kq : Nat) (x34_8 : Bool), v34 = .bool x34_8 ∧ Fc (quorumref8_Last.j1 kq a1 a2 x8_1 x34_8 l0_0 l0_1 = some (r1, r2, r3, r4, r5)) ∧ Fc (kq ≤ k1) ∧ Fc (wc.heap[gb217]? = some (.cells #[(.slice A0_0 l0_0.length c0_0), (.slice A0_1 l0_1.length c0_1)] 34 (0, 0))) ∧ Fc (wc.heap[gb218]? = some (.cells #[.int .i64 x219000_1, .string x219001_1, .string x219002_1, .bool x219003_1] 36 (0, 0))) ∧ Fc (Below w.heap.size w wc))
     case first =>
      have H := HC9.out
      clear HC9
      by_cases c10 : 0 ≤ x8_1
      ·rw [if_pos c10] at H
       have c10b0 : decide (0 ≤ x8_1) = true := decide_eq_true c10
       clear c10
       (first | rw [c10b0] | (simp only [i64_w, i32_w]; rw [c10b0]) | skip)
       by_cases c11 : x8_1 < (l0_0.length : Int)
       ·rw [if_pos c11] at H
        have c11b0 : decide (x8_1 < (l0_0.length : Int)) = true := decide_eq_true c11
        clear c11
        by_cases c12 : ((rd_T36 l0_0 x8_1).f0) = a1
        ·rw [if_pos c12] at H
         have c12b0 : (((rd_T36 l0_0 x8_1).f0) == a1) = true := beq_iff_eq.mpr c12
         have c12b1 : (((rd_T36 l0_0 x8_1).f0) != a1) = false := bne_eq_false_iff_eq.mpr c12
         clear c12
         have H' := mk0 H
         clear H
         have hnb13 := NB217_218.out
         have hnc13 := NB218_217.out
         obtain ⟨hcz14_0, hcz14_1, hfz14_0, hfz14_1⟩ := c2_ BK217
         have p219 : 0 ≤ (x8_1 : Int) := of_decide_eq_true (by first | (with_reducible assumption) | assumption)
         have q219 : x8_1 < (l0_0.length : Int) := of_decide_eq_true (by first | (with_reducible assumption) | assumption)
         obtain ⟨ad219, e219, hx219_0, hx219_1, hx219_2, hx219_3⟩ := at_T36 HR0_0.out x8_1 p219 q219
         cases e219
         replace hx219_0 := (bc_ HB hx219_0 :)
         replace hx219_1 := (bc_ HB hx219_1 :)
         replace hx219_2 := (bc_ HB hx219_2 :)
         replace hx219_3 := (bc_ HB hx219_3 :)
         replace p219 := eq_true p219
         replace q219 := eq_true q219
         have p220 : 0 ≤ (x8_1 : Int) := of_decide_eq_true (by first | (with_reducible assumption) | assumption)
         have q220 : x8_1 < (l0_0.length : Int) := of_decide_eq_true (by first | (with_reducible assumption) | assumption)
         obtain ⟨ad220, e220, hx220_0, hx220_1, hx220_2, hx220_3⟩ := at_T36 HR0_0.out x8_1 p220 q220
         obtain rfl : ad219 = ad220 := (by injection e220)
         replace hx220_0 := (bc_ HB hx220_0 :)
         replace hx220_1 := (bc_ HB hx220_1 :)
         replace hx220_2 := (bc_ HB hx220_2 :)
         replace hx220_3 := (bc_ HB hx220_3 :)
         replace p220 := eq_true p220
         replace q220 := eq_true q220
         go_wp2
         go_meet
         case rel => exact ⟨_, ((((rd_T36 l0_0 x8_1).f1).toList == a2.toList)), (by first | rfl | (simp; done) | (simp [*]; done)), H', ⟨by have := HK1.out; first | omega | exact Nat.le_refl _⟩, ⟨h_ BK217⟩, ⟨h_ BK218⟩, ⟨b_ HB⟩⟩
        ·rw [if_neg c12] at H
         have c12b0 : (((rd_T36 l0_0 x8_1).f0) == a1) = false := beq_eq_false_iff_ne.mpr c12
         have c12b1 : (((rd_T36 l0_0 x8_1).f0) != a1) = true := bne_iff_ne.mpr c12
         have H' := mk0 H
         clear H
         have hnb15 := NB217_218.out
         have hnc15 := NB218_217.out
         obtain ⟨hcz16_0, hcz16_1, hfz16_0, hfz16_1⟩ := c2_ BK217
         have p219 : 0 ≤ (x8_1 : Int) := of_decide_eq_true (by first | (with_reducible assumption) | assumption)
         have q219 : x8_1 < (l0_0.length : Int) := of_decide_eq_true (by first | (with_reducible assumption) | assumption)
         obtain ⟨ad219, e219, hx219_0, hx219_1, hx219_2, hx219_3⟩ := at_T36 HR0_0.out x8_1 p219 q219
         cases e219
         replace hx219_0 := (bc_ HB hx219_0 :)
         replace hx219_1 := (bc_ HB hx219_1 :)
         replace hx219_2 := (bc_ HB hx219_2 :)
         replace hx219_3 := (bc_ HB hx219_3 :)
         replace p219 := eq_true p219
         replace q219 := eq_true q219
         go_wp2
         go_meet
         case rel => exact ⟨_, (false), (by first | rfl | (simp; done) | (simp [*]; done)), H', ⟨by have := HK1.out; first | omega | exact Nat.le_refl _⟩, ⟨h_ BK217⟩, ⟨h_ BK218⟩, ⟨b_ HB⟩⟩
       ·rw [if_neg c11] at H
        exact absurd H (by simp)
      ·rw [if_neg c10] at H
       exact absurd H (by simp)
     case rest =>
      clear HC9
      try clear c8
      try clear c8b0
      try clear c10
      try clear c10b0
      try clear c11
      try clear c11b0
      try clear c12
      try clear c12b0
      try clear c12b1
      try clear hcz14_0
      try clear hcz14_1
      try clear hcz16_0
      try clear hcz16_1
      try clear hcz7_0
      try clear hcz7_1
      try clear hfz14_0
      try clear hfz14_1
      try clear hfz16_0
      try clear hfz16_1
      try clear hfz7_0
      try clear hfz7_1
      try clear hx219_0
      try clear hx219_1
      try clear hx219_2
      try clear hx219_3
      try clear hx220_0
      try clear hx220_1
      try clear hx220_2
      try clear hx220_3
      try clear p219
      try clear p220
      try clear q219
      try clear q220
      obtain ⟨kq, x34_8, rfl, HA, HJ8, BK217, BK218, HB⟩ := hcut
      cases kq with
      | zero => exact absurd HA.out (by simp [quorumref8_Last.j1])
      | succ kj8 =>
       have H := HA.out
       clear HA
       simp only [quorumref8_Last.j1] at H
       as_aux_lemma =>
        by_cases c17 : x34_8 = true
        ·subst c17
         rw [if_pos rfl] at H
         by_cases c18 : 0 ≤ x8_1
         ·rw [if_pos c18] at H
          have c18b0 : decide (0 ≤ x8_1) = true := decide_eq_true c18
          clear c18
          by_cases c19 : x8_1 < (l0_0.length : Int)
          ·rw [if_pos c19] at H
           have c19b0 : decide (x8_1 < (l0_0.length : Int)) = true := decide_eq_true c19
           clear c19
           simp only [Option.some.injEq, Prod.mk.injEq] at H
           obtain ⟨rfl, rfl, rfl, rfl, rfl⟩ := H
           have hnb20 := NB217_218.out
           have hnc20 := NB218_217.out
           obtain ⟨hcz21_0, hcz21_1, hfz21_0, hfz21_1⟩ := c2_ BK217
           have p221 : 0 ≤ (x8_1 : Int) := of_decide_eq_true (by first | (with_reducible assumption) | assumption)
           have q221 : x8_1 < (l0_0.length : Int) := of_decide_eq_true (by first | (with_reducible assumption) | assumption)
           obtain ⟨ad221, e221, hx221_0, hx221_1, hx221_2, hx221_3⟩ := at_T36 HR0_0.out x8_1 p221 q221
           cases e221
           replace hx221_0 := (bc_ HB hx221_0 :)
           replace hx221_1 := (bc_ HB hx221_1 :)
           replace hx221_2 := (bc_ HB hx221_2 :)
           replace hx221_3 := (bc_ HB hx221_3 :)
           replace p221 := eq_true p221
           replace q221 := eq_true q221
           obtain ⟨hcz22_0, hcz22_1, hcz22_2, hcz22_3, hfz22_0, hfz22_1, hfz22_2, hfz22_3⟩ := c4_ BK218
           go_wp2
           refine bodyPost_ret (results_ct rfl _ _ gb218 36 #[.int .i64 ((rd_T36 l0_0 x8_1).f0), .string ((rd_T36 l0_0 x8_1).f1), .string ((rd_T36 l0_0 x8_1).f2), .bool ((rd_T36 l0_0 x8_1).f3)] (0, 0) _ rfl (pu_ (cs := #[.int .i64 ((rd_T36 l0_0 x8_1).f0), .string ((rd_T36 l0_0 x8_1).f1), .string ((rd_T36 l0_0 x8_1).f2), .bool x219003_1]) (pu_ (cs := #[.int .i64 ((rd_T36 l0_0 x8_1).f0), .string ((rd_T36 l0_0 x8_1).f1), .string x219002_1, .bool x219003_1]) (pu_ (cs := #[.int .i64 ((rd_T36 l0_0 x8_1).f0), .string x219001_1, .string x219002_1, .bool x219003_1]) (pu_ (cs := #[.int .i64 x219000_1, .string x219001_1, .string x219002_1, .bool x219003_1]) (h_ BK218))))) Try.underlying36 rfl (by kernel_rfl)) rfl ?_
           exact ⟨by first | rfl | (simp [errW_none, errW_some] <;> rfl) | (simp [*, errW_none, errW_some] <;> rfl), b_ HB⟩
          ·rw [if_neg c19] at H
           exact absurd H (by simp)
         ·rw [if_neg c18] at H
          exact absurd H (by simp)
        ·replace c17 := Bool.eq_false_iff.mpr c17
         subst c17
         rw [if_neg (show ¬ (false = true) by decide)] at H
         have H' := mk0 H
         clear H
         go_wp2
         go_roundg kj8
         case measure => have := HK1.out; have := HJ8.out; omega
         case rel => exact ⟨(wrap64 (x8_1 - 1)), (x219000_1), (x219001_1), (x219002_1), (x219003_1), (by first | rfl | (simp; done) | (simp [*]; done)), H', ⟨by have := HK1.out; have := HJ8.out; omega⟩, ⟨h_ BK217⟩, ⟨h_ BK218⟩, ⟨b_ HB⟩⟩
    ·rw [if_neg c8] at H
     have c8b0 : decide (0 ≤ x8_1) = false := decide_eq_false c8
     clear c8
     simp only [Option.some.injEq, Prod.mk.injEq] at H
     obtain ⟨rfl, rfl, rfl, rfl, rfl⟩ := H
     have hnb23 := NB218_217.out
     have hnc23 := NB217_218.out
     obtain ⟨hcz24_0, hcz24_1, hcz24_2, hcz24_3, hfz24_0, hfz24_1, hfz24_2, hfz24_3⟩ := c4_ BK218
     go_wp2
     refine bodyPost_ret (results_ct rfl _ _ gb218 36 #[.int .i64 0, .string (⟨#[]⟩ : ByteArray), .string (⟨#[]⟩ : ByteArray), .bool false] (0, 0) _ rfl (pu_ (cs := #[.int .i64 0, .string (⟨#[]⟩ : ByteArray), .string (⟨#[]⟩ : ByteArray), .bool x219003_1]) (pu_ (cs := #[.int .i64 0, .string (⟨#[]⟩ : ByteArray), .string x219002_1, .bool x219003_1]) (pu_ (cs := #[.int .i64 0, .string x219001_1, .string x219002_1, .bool x219003_1]) (pu_ (cs := #[.int .i64 x219000_1, .string x219001_1, .string x219002_1, .bool x219003_1]) (h_ BK218))))) Try.underlying36 rfl (by kernel_rfl)) rfl ?_
     exact ⟨by first | rfl | (simp [errW_none, errW_some] <;> rfl) | (simp [*, errW_none, errW_some] <;> rfl), b_ HB⟩

end Go.Proofs.Ytbaecdcfefmcgaa.PPlc
