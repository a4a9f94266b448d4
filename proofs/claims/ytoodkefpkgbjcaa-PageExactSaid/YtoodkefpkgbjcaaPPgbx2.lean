-- PRINTED by print.py (a twelfth state) out of the translation. Not trusted: Lean checks it.
import Derived.Test.YtoodkefpkgbjcaaPPgbx0
import Derived.Test.YtoodkefpkgbjcaaPPgbx1
namespace Go.Proofs.Ytoodkefpkgbjcaa.PPgb
open Go.RowKit Go.Proofs.YtoodkefpkgbjcaaW.PrintWords Go.Proofs.YtoodkefpkgbjcaaW.PrintLast Go.Proofs.YtoodkefpkgbjcaaW.PrintMore
attribute [local go_sem] max2_int min2_int max_two min_two max_three min_three max_four min_four   -- for this text's walks alone
set_option linter.unusedVariables false
set_option linter.unusedSimpArgs false

/-! ### page_free: function 130 -/
mutual
def page_free.l0 : Nat → List Int → Int → Int → List ByteArray → List Int → Option (Bool)
 | 0, _, _, _, _, _ => none
 | k + 1, x6, x7, x8, x109000, x109001 => if x8 < x7 then (if 0 ≤ x8 then (if x8 < (x6.length : Int) then (if (rd x6 x8) < 0 then (page_free.j1 k x6 x7 x8 true x109000 x109001) else (if (rd x6 x8) ≥ (x109000.length : Int) then (page_free.j1 k x6 x7 x8 true x109000 x109001) else (if 0 ≤ (rd x6 x8) then (if (rd x6 x8) < (x109000.length : Int) then (if (rdOf ByteArray.empty x109000 (rd x6 x8)).toList = ([] : List UInt8) then (if x8 > 0 then (if 0 ≤ (wrap64 (x8 - 1)) then (if (wrap64 (x8 - 1)) < (x109001.length : Int) then (page_free.j1 k x6 x7 x8 (decide ((rd x6 x8) ≤ (rd x109001 (wrap64 (x8 - 1))))) x109000 x109001) else (none)) else (none)) else (page_free.j1 k x6 x7 x8 false x109000 x109001)) else (page_free.j1 k x6 x7 x8 true x109000 x109001)) else (none)) else (none)))) else (none)) else (none)) else ((slices_Contains_int_int.f k x109001 (wrap64 ((x109000.length : Int) - 1))).bind fun t112 => (some (!t112)))
def page_free.j1 : Nat → List Int → Int → Int → Bool → List ByteArray → List Int → Option (Bool)
 | 0, _, _, _, _, _, _ => none
 | k + 1, x6, x7, x8, x43, x109000, x109001 => if x43 = true then (some false) else (page_free.l0 k x6 x7 (wrap64 (x8 + 1)) x109000 x109001)
end
def page_free.f (k : Nat) (l0_0 : List ByteArray) (l0_1 : List Int) : Option (Bool) := page_free.l0 k l0_1 (l0_1.length : Int) 0 l0_0 l0_1
theorem page_free.mono_l : ∀ k, (∀ y0 y1 y2 y3 y4, LeO (page_free.l0 k y0 y1 y2 y3 y4) (page_free.l0 (k + 1) y0 y1 y2 y3 y4)) ∧ (∀ y0 y1 y2 y3 y4 y5, LeO (page_free.j1 k y0 y1 y2 y3 y4 y5) (page_free.j1 (k + 1) y0 y1 y2 y3 y4 y5))
 | 0 => ⟨fun _ _ _ _ _ r h => by simp [page_free.l0] at h, fun _ _ _ _ _ _ r h => by simp [page_free.j1] at h⟩
 | k + 1 => by
  obtain ⟨ih0, ih1⟩ := page_free.mono_l k
  refine ⟨?_, ?_⟩
  ·intro y0 y1 y2 y3 y4
   unfold page_free.l0
   repeat' first
   | (with_reducible exact ih0 _ _ _ _ _)
   | (with_reducible exact ih1 _ _ _ _ _ _)
   | (with_reducible exact slices_Contains_int_int.mono _ _ _)
   | (with_reducible exact LeO.refl _)
   | (with_reducible exact LeO.none _)
   | (with_reducible refine LeO.ite ?_ ?_)
   | (with_reducible refine LeO.bind ?_ (fun _ => ?_))
   | exact ih0 _ _ _ _ _
   | exact ih1 _ _ _ _ _ _
   | exact slices_Contains_int_int.mono _ _ _
   | exact LeO.none _
   | refine LeO.ite ?_ ?_
   | refine LeO.bind ?_ (fun _ => ?_)
  ·intro y0 y1 y2 y3 y4 y5
   unfold page_free.j1
   repeat' first
   | (with_reducible exact ih0 _ _ _ _ _)
   | (with_reducible exact ih1 _ _ _ _ _ _)
   | (with_reducible exact slices_Contains_int_int.mono _ _ _)
   | (with_reducible exact LeO.refl _)
   | (with_reducible exact LeO.none _)
   | (with_reducible refine LeO.ite ?_ ?_)
   | (with_reducible refine LeO.bind ?_ (fun _ => ?_))
   | exact ih0 _ _ _ _ _
   | exact ih1 _ _ _ _ _ _
   | exact slices_Contains_int_int.mono _ _ _
   | exact LeO.none _
   | refine LeO.ite ?_ ?_
   | refine LeO.bind ?_ (fun _ => ?_)
theorem page_free.mono : ∀ a0 a1 k, LeO (page_free.f k a0 a1) (page_free.f (k + 1) a0 a1) := by
 intro a0 a1 k
 obtain ⟨ih0, ih1⟩ := page_free.mono_l k
 unfold page_free.f
 repeat' first
   | (with_reducible exact ih0 _ _ _ _ _)
   | (with_reducible exact ih1 _ _ _ _ _ _)
   | (with_reducible exact slices_Contains_int_int.mono _ _ _)
   | (with_reducible exact LeO.refl _)
   | (with_reducible exact LeO.none _)
   | (with_reducible refine LeO.ite ?_ ?_)
   | (with_reducible refine LeO.bind ?_ (fun _ => ?_))
   | exact ih0 _ _ _ _ _
   | exact ih1 _ _ _ _ _ _
   | exact slices_Contains_int_int.mono _ _ _
   | exact LeO.none _
   | refine LeO.ite ?_ ?_
   | refine LeO.bind ?_ (fun _ => ?_)
set_option maxHeartbeats 8000000 in
set_option maxRecDepth 100000 in
theorem page_free.calls (k : Nat) (A0_0 : Option Addr) (c0_0 : Nat) (l0_0 : List ByteArray) (A0_1 : Option Addr) (c0_1 : Nat) (l0_1 : List Int) (r : Bool) (w : World) (hr0_0 : Kd.C Kd.string w A0_0 l0_0.length l0_0) (hc0_0 : l0_0.length ≤ c0_0) (hr0_1 : Kd.C (Kd.int .i64) w A0_1 l0_1.length l0_1) (hc0_1 : l0_1.length ≤ c0_1) (h : page_free.f k l0_0 l0_1 = some r) :
  Calls Try.prog 130 #[.agg #[.slice A0_0 l0_0.length c0_0, .slice A0_1 l0_1.length c0_1]] w fun e w' => e = .returned (.bool r) ∧ Below w.heap.size w w' := by
 have hu56 := Try.underlying56
 have HR0_0 := mk0 hr0_0
 have HC0_0 := mk0 hc0_0
 clear hr0_0 hc0_0
 have HR0_1 := mk0 hr0_1
 have HC0_1 := mk0 hc0_1
 clear hr0_1 hc0_1
 have HB := mk0 (Below.refl w.heap.size w)
 have H : (page_free.l0 k l0_1 (l0_1.length : Int) 0 l0_0 l0_1) = some r := h
 clear h
 have H' := mk0 H
 clear H
 go_enter Try.func130, Try.ntmps130
 go_wp2_with (first | ((with_reducible refine gate_dst (N := 1) rfl ?_); (try (refine gate_guard (by rfl) ?_; dsimp only)); refine bx_ (N := 1) (cs := #[.slice A0_0 l0_0.length c0_0, .slice A0_1 l0_1.length c0_1]) (t := 56) (h := ?_); intro gb108 hg w2 hbox hb; have n2_ := mk0 (gz_ HB hg); have n3_ := mk0 (gz_ HB hg); replace HB := mk0 (bt_ (b_ HB) hb); have BK108 := mk0 (hbox); have GW108 := n2_; have GE108 := n3_; clear n2_ n3_ hb hbox hg; obtain ⟨hcz3_0, hcz3_1, hfz3_0, hfz3_1⟩ := c2_ BK108))
 go_loopg [8] k (fun kq v8 w' => ∃ (x8_1 : Int), v8 = .int .i64 x8_1 ∧ Fc (page_free.l0 kq l0_1 (l0_1.length : Int) x8_1 l0_0 l0_1 = some r) ∧ Fc (kq ≤ k) ∧ Fc (w'.heap[gb108]? = some (.cells #[(.slice A0_0 l0_0.length c0_0), (.slice A0_1 l0_1.length c0_1)] 56 (0, 0))) ∧ Fc (Below w.heap.size w w'))
 case atStart => exact ⟨(0), (by first | rfl | (simp; done) | (simp [*]; done)), H', ⟨Nat.le_refl _⟩, ⟨h_ BK108⟩, ⟨b_ HB⟩⟩
 case round =>
  clear H'
  try clear hcz3_0
  try clear hcz3_1
  try clear hfz3_0
  try clear hfz3_1
  obtain ⟨x8_1, rfl, HA, HK1, BK108, HB⟩ := hrel
  cases gk with
  | zero => exact absurd HA.out (by simp [page_free.l0])
  | succ k1 =>
   have H := HA.out
   clear HA
   simp only [page_free.l0] at H
   as_aux_lemma =>
    by_cases c4 : x8_1 < (l0_1.length : Int)
    ·rw [if_pos c4] at H
     have c4b0 : decide (x8_1 < (l0_1.length : Int)) = true := decide_eq_true c4
     clear c4
     by_cases c5 : 0 ≤ x8_1
     ·rw [if_pos c5] at H
      have c5b0 : decide (0 ≤ x8_1) = true := decide_eq_true c5
      clear c5
      by_cases c6 : x8_1 < (l0_1.length : Int)
      ·rw [if_pos c6] at H
       have c6b0 : decide (x8_1 < (l0_1.length : Int)) = true := decide_eq_true c6
       clear c6
       have HC7 := mk0 H
       clear H
       have p109 : 0 ≤ (x8_1 : Int) := of_decide_eq_true (by first | (with_reducible assumption) | assumption)
       have q109 : x8_1 < (l0_1.length : Int) := of_decide_eq_true (by first | (with_reducible assumption) | assumption)
       obtain ⟨ad109, e109, hx109_0⟩ := Kd.at_int HR0_1.out x8_1 p109 q109
       cases e109
       replace hx109_0 := (HB.out.cell (World.block_lt_of_cell? w _ hx109_0)).trans hx109_0
       replace p109 := eq_true p109
       replace q109 := eq_true q109
       go_upto_region 4 with (fail)
       go_cut [43] (fun v43 wc => ∃ (kq : Nat) (x43_6 : Bool), v43 = .bool x43_6 ∧ Fc (page_free.j1 kq l0_1 (l0_1.length : Int) x8_1 x43_6 l0_0 l0_1 = some r) ∧ Fc (kq ≤ k1) ∧ Fc (wc.heap[gb108]? = some (.cells #[(.slice A0_0 l0_0.length c0_0), (.slice (some ad109) l0_1.length c0_1)] 56 (0, 0))) ∧ Fc (Below w.heap.size w wc))
       case first =>
        have H := HC7.out
        clear HC7
        by_cases c8 : (rd l0_1 x8_1) < 0
        ·rw [if_pos c8] at H
         have c8b0 : decide ((rd l0_1 x8_1) < 0) = true := decide_eq_true c8
         clear c8
         (first | rw [c8b0] | (simp only [i64_w, i32_w]; rw [c8b0]) | skip)
         have H' := mk0 H
         clear H
         go_wp2
         go_meet
         case rel => exact ⟨_, (true), (by first | rfl | (simp; done) | (simp [*]; done)), H', ⟨by have := HK1.out; first | omega | exact Nat.le_refl _⟩, ⟨h_ BK108⟩, ⟨b_ HB⟩⟩
        ·rw [if_neg c8] at H
         have c8b0 : decide ((rd l0_1 x8_1) < 0) = false := decide_eq_false c8
         clear c8
         (first | rw [c8b0] | (simp only [i64_w, i32_w]; rw [c8b0]) | skip)
         by_cases c9 : (rd l0_1 x8_1) ≥ (l0_0.length : Int)
         ·rw [if_pos c9] at H
          have c9b0 : decide ((l0_0.length : Int) ≤ (rd l0_1 x8_1)) = true := decide_eq_true c9
          clear c9
          have H' := mk0 H
          clear H
          obtain ⟨hcz10_0, hcz10_1, hfz10_0, hfz10_1⟩ := c2_ BK108
          go_wp2
          go_meet
          case rel => exact ⟨_, (true), (by first | rfl | (simp; done) | (simp [*]; done)), H', ⟨by have := HK1.out; first | omega | exact Nat.le_refl _⟩, ⟨h_ BK108⟩, ⟨b_ HB⟩⟩
         ·rw [if_neg c9] at H
          have c9b0 : decide ((l0_0.length : Int) ≤ (rd l0_1 x8_1)) = false := decide_eq_false c9
          clear c9
          by_cases c11 : 0 ≤ (rd l0_1 x8_1)
          ·rw [if_pos c11] at H
           have c11b0 : decide (0 ≤ (rd l0_1 x8_1)) = true := decide_eq_true c11
           clear c11
           by_cases c12 : (rd l0_1 x8_1) < (l0_0.length : Int)
           ·rw [if_pos c12] at H
            have c12b0 : decide ((rd l0_1 x8_1) < (l0_0.length : Int)) = true := decide_eq_true c12
            clear c12
            by_cases c13 : (rdOf ByteArray.empty l0_0 (rd l0_1 x8_1)).toList = ([] : List UInt8)
            ·rw [if_pos c13] at H
             have c13b0 : ((rdOf ByteArray.empty l0_0 (rd l0_1 x8_1)).toList == ([] : List UInt8)) = true := beq_iff_eq.mpr c13
             have c13b1 : ((rdOf ByteArray.empty l0_0 (rd l0_1 x8_1)).toList != ([] : List UInt8)) = false := bne_eq_false_iff_eq.mpr c13
             clear c13
             by_cases c14 : x8_1 > 0
             ·rw [if_pos c14] at H
              have c14b0 : decide (0 < x8_1) = true := decide_eq_true c14
              clear c14
              obtain ⟨ji15, hji15⟩ : ∃ j_ : Int, (wrap64 (x8_1 - 1)) = j_ := ⟨_, rfl⟩
              replace H : (if 0 ≤ (ji15) then (if (ji15) < (l0_1.length : Int) then (page_free.j1 k1 l0_1 (l0_1.length : Int) x8_1 (decide ((rd l0_1 x8_1) ≤ (rd l0_1 (ji15)))) l0_0 l0_1) else (none)) else (none)) = some r := by first | (rw [hji15] at H; exact H) | (simp only [hji15] at H ⊢; exact H)
              have hji15w : (IntKind.i64.wrap (x8_1 - 1)) = ji15 := (i64_w _).trans hji15
              by_cases c16 : 0 ≤ (ji15)
              ·rw [if_pos c16] at H
               have c16b0 : decide (0 ≤ (ji15)) = true := decide_eq_true c16
               clear c16
               by_cases c17 : (ji15) < (l0_1.length : Int)
               ·rw [if_pos c17] at H
                have c17b0 : decide ((ji15) < (l0_1.length : Int)) = true := decide_eq_true c17
                clear c17
                have H' := mk0 H
                clear H
                obtain ⟨hcz18_0, hcz18_1, hfz18_0, hfz18_1⟩ := c2_ BK108
                have p110 : 0 ≤ ((rd l0_1 x8_1) : Int) := of_decide_eq_true (by first | (with_reducible assumption) | assumption)
                have q110 : (rd l0_1 x8_1) < (l0_0.length : Int) := of_decide_eq_true (by first | (with_reducible assumption) | assumption)
                obtain ⟨ad110, e110, hx110_0⟩ := Kd.at_string HR0_0.out (rd l0_1 x8_1) p110 q110
                cases e110
                replace hx110_0 := (HB.out.cell (World.block_lt_of_cell? w _ hx110_0)).trans hx110_0
                replace p110 := eq_true p110
                replace q110 := eq_true q110
                have p111 : 0 ≤ ((ji15) : Int) := of_decide_eq_true (by first | (with_reducible assumption) | assumption)
                have q111 : (ji15) < (l0_1.length : Int) := of_decide_eq_true (by first | (with_reducible assumption) | assumption)
                obtain ⟨ad111, e111, hx111_0⟩ := Kd.at_int HR0_1.out (ji15) p111 q111
                obtain rfl : ad109 = ad111 := (by injection e111)
                replace hx111_0 := (HB.out.cell (World.block_lt_of_cell? w _ hx111_0)).trans hx111_0
                replace p111 := eq_true p111
                replace q111 := eq_true q111
                go_wp2
                go_meet
                case rel => exact ⟨_, (decide ((rd l0_1 x8_1) ≤ (rd l0_1 (ji15)))), (by first | rfl | (simp; done) | (simp only [← hji15] <;> (first | rfl | simp)) | (simp [*]; done)), H', ⟨by have := HK1.out; first | omega | exact Nat.le_refl _⟩, ⟨h_ BK108⟩, ⟨b_ HB⟩⟩
               ·rw [if_neg c17] at H
                exact absurd H (by simp)
              ·rw [if_neg c16] at H
               exact absurd H (by simp)
             ·rw [if_neg c14] at H
              have c14b0 : decide (0 < x8_1) = false := decide_eq_false c14
              clear c14
              have H' := mk0 H
              clear H
              obtain ⟨hcz19_0, hcz19_1, hfz19_0, hfz19_1⟩ := c2_ BK108
              have p110 : 0 ≤ ((rd l0_1 x8_1) : Int) := of_decide_eq_true (by first | (with_reducible assumption) | assumption)
              have q110 : (rd l0_1 x8_1) < (l0_0.length : Int) := of_decide_eq_true (by first | (with_reducible assumption) | assumption)
              obtain ⟨ad110, e110, hx110_0⟩ := Kd.at_string HR0_0.out (rd l0_1 x8_1) p110 q110
              cases e110
              replace hx110_0 := (HB.out.cell (World.block_lt_of_cell? w _ hx110_0)).trans hx110_0
              replace p110 := eq_true p110
              replace q110 := eq_true q110
              go_wp2
              go_meet
              case rel => exact ⟨_, (false), (by first | rfl | (simp; done) | (simp [*]; done)), H', ⟨by have := HK1.out; first | omega | exact Nat.le_refl _⟩, ⟨h_ BK108⟩, ⟨b_ HB⟩⟩
            ·rw [if_neg c13] at H
             have c13b0 : ((rdOf ByteArray.empty l0_0 (rd l0_1 x8_1)).toList == ([] : List UInt8)) = false := beq_eq_false_iff_ne.mpr c13
             have c13b1 : ((rdOf ByteArray.empty l0_0 (rd l0_1 x8_1)).toList != ([] : List UInt8)) = true := bne_iff_ne.mpr c13
             have H' := mk0 H
             clear H
             obtain ⟨hcz20_0, hcz20_1, hfz20_0, hfz20_1⟩ := c2_ BK108
             have p110 : 0 ≤ ((rd l0_1 x8_1) : Int) := of_decide_eq_true (by first | (with_reducible assumption) | assumption)
             have q110 : (rd l0_1 x8_1) < (l0_0.length : Int) := of_decide_eq_true (by first | (with_reducible assumption) | assumption)
             obtain ⟨ad110, e110, hx110_0⟩ := Kd.at_string HR0_0.out (rd l0_1 x8_1) p110 q110
             cases e110
             replace hx110_0 := (HB.out.cell (World.block_lt_of_cell? w _ hx110_0)).trans hx110_0
             replace p110 := eq_true p110
             replace q110 := eq_true q110
             go_wp2
             go_meet
             case rel => exact ⟨_, (true), (by first | rfl | (simp; done) | (simp [*]; done)), H', ⟨by have := HK1.out; first | omega | exact Nat.le_refl _⟩, ⟨h_ BK108⟩, ⟨b_ HB⟩⟩
           ·rw [if_neg c12] at H
            exact absurd H (by simp)
          ·rw [if_neg c11] at H
           exact absurd H (by simp)
       case rest =>
        clear HC7
        try clear c4
        try clear c4b0
        try clear c5
        try clear c5b0
        try clear c6
        try clear c6b0
        try clear c8
        try clear c8b0
        try clear c9
        try clear c9b0
        try clear c11
        try clear c11b0
        try clear c12
        try clear c12b0
        try clear c13
        try clear c13b0
        try clear c13b1
        try clear c14
        try clear c14b0
        try clear c16
        try clear c16b0
        try clear c17
        try clear c17b0
        try clear hcz10_0
        try clear hcz10_1
        try clear hcz18_0
        try clear hcz18_1
        try clear hcz19_0
        try clear hcz19_1
        try clear hcz20_0
        try clear hcz20_1
        try clear hcz3_0
        try clear hcz3_1
        try clear hfz10_0
        try clear hfz10_1
        try clear hfz18_0
        try clear hfz18_1
        try clear hfz19_0
        try clear hfz19_1
        try clear hfz20_0
        try clear hfz20_1
        try clear hfz3_0
        try clear hfz3_1
        try clear hx109_0
        try clear hx110_0
        try clear hx111_0
        try clear p109
        try clear p110
        try clear p111
        try clear q109
        try clear q110
        try clear q111
        obtain ⟨kq, x43_6, rfl, HA, HJ6, BK108, HB⟩ := hcut
        cases kq with
        | zero => exact absurd HA.out (by simp [page_free.j1])
        | succ kj6 =>
         have H := HA.out
         clear HA
         simp only [page_free.j1] at H
         as_aux_lemma =>
          by_cases c21 : x43_6 = true
          ·subst c21
           rw [if_pos rfl] at H
           obtain rfl := Option.some.inj H
           go_wp2
           go_ret
           exact ⟨by first | rfl | (simp [errW_none, errW_some] <;> rfl) | (simp [*, errW_none, errW_some] <;> rfl), b_ HB⟩
          ·replace c21 := Bool.eq_false_iff.mpr c21
           subst c21
           rw [if_neg (show ¬ (false = true) by decide)] at H
           have H' := mk0 H
           clear H
           go_wp2
           go_roundg kj6
           case measure => have := HK1.out; have := HJ6.out; omega
           case rel => exact ⟨(wrap64 (x8_1 + 1)), (by first | rfl | (simp; done) | (simp [*]; done)), H', ⟨by have := HK1.out; have := HJ6.out; omega⟩, ⟨h_ BK108⟩, ⟨b_ HB⟩⟩
      ·rw [if_neg c6] at H
       exact absurd H (by simp)
     ·rw [if_neg c5] at H
      exact absurd H (by simp)
    ·rw [if_neg c4] at H
     have c4b0 : decide (x8_1 < (l0_1.length : Int)) = false := decide_eq_false c4
     clear c4
     replace H := Option.bind_eq_some_iff.mp H
     obtain ⟨t112, A220, H⟩ := H
     try dsimp only at H
     have A22 := mk0 A220
     clear A220
     obtain rfl := Option.some.inj H
     obtain ⟨hcz23_0, hcz23_1, hfz23_0, hfz23_1⟩ := c2_ BK108
     go_wp2_with (first | ((with_reducible refine gate_callee (f := 124) rfl ?_); refine gL_ (some 51) Try.func124 #[.slice A0_1 l0_1.length c0_1, .int .i64 (wrap64 ((l0_0.length : Int) - 1))] (h := ?_); (with_reducible refine (slices_Contains_int_int.calls k1 _ _ l0_1 (wrap64 ((l0_0.length : Int) - 1)) t112 _ ?side1 ?side2 A22.out).mono ?_); (case side1 => exact cb_ HR0_1 HB); (case side2 => exact HC0_1.out); rintro e w' ⟨rfl, ⟨nd, rfl⟩⟩; refine ⟨_, rfl, ?_⟩))
     go_ret
     exact ⟨by first | rfl | (simp [errW_none, errW_some] <;> rfl) | (simp [*, errW_none, errW_some] <;> rfl), b_ HB⟩

/-! ### page_may: function 72 -/
def page_may.f (k : Nat) (l0_0 : List ByteArray) (l0_1 : List Int) : Option (Bool) := if (l0_0.length : Int) ≤ 16 then ((page_size.f k l0_0).bind fun t114 => (if t114 ≤ 200 then ((page_free.f k l0_0 l0_1).bind fun t115 => (some t115)) else (some false))) else (some false)
theorem page_may.mono : ∀ a0 a1 k, LeO (page_may.f k a0 a1) (page_may.f (k + 1) a0 a1) := by
 intro a0 a1 k
 unfold page_may.f
 repeat' first
   | (with_reducible exact page_free.mono _ _ _)
   | (with_reducible exact page_size.mono _ _)
   | (with_reducible exact LeO.refl _)
   | (with_reducible exact LeO.none _)
   | (with_reducible refine LeO.ite ?_ ?_)
   | (with_reducible refine LeO.bind ?_ (fun _ => ?_))
   | exact page_free.mono _ _ _
   | exact page_size.mono _ _
   | exact LeO.none _
   | refine LeO.ite ?_ ?_
   | refine LeO.bind ?_ (fun _ => ?_)
set_option maxHeartbeats 8000000 in
set_option maxRecDepth 100000 in
theorem page_may.calls (k : Nat) (A0_0 : Option Addr) (c0_0 : Nat) (l0_0 : List ByteArray) (A0_1 : Option Addr) (c0_1 : Nat) (l0_1 : List Int) (r : Bool) (w : World) (hr0_0 : Kd.C Kd.string w A0_0 l0_0.length l0_0) (hc0_0 : l0_0.length ≤ c0_0) (hr0_1 : Kd.C (Kd.int .i64) w A0_1 l0_1.length l0_1) (hc0_1 : l0_1.length ≤ c0_1) (h : page_may.f k l0_0 l0_1 = some r) :
  Calls Try.prog 72 #[.agg #[.slice A0_0 l0_0.length c0_0, .slice A0_1 l0_1.length c0_1]] w fun e w' => e = .returned (.bool r) ∧ Below w.heap.size w w' := by
 have hu56 := Try.underlying56
 have HR0_0 := mk0 hr0_0
 have HC0_0 := mk0 hc0_0
 clear hr0_0 hc0_0
 have HR0_1 := mk0 hr0_1
 have HC0_1 := mk0 hc0_1
 clear hr0_1 hc0_1
 have HB := mk0 (Below.refl w.heap.size w)
 have H : (if (l0_0.length : Int) ≤ 16 then ((page_size.f k l0_0).bind fun t114 => (if t114 ≤ 200 then ((page_free.f k l0_0 l0_1).bind fun t115 => (some t115)) else (some false))) else (some false)) = some r := h
 clear h
 by_cases c2 : (l0_0.length : Int) ≤ 16
 ·rw [if_pos c2] at H
  have c2b0 : decide ((l0_0.length : Int) ≤ 16) = true := decide_eq_true c2
  have c2b1 : decide (l0_0.length ≤ 16) = true := decide_eq_true (by omega)
  clear c2
  replace H := Option.bind_eq_some_iff.mp H
  obtain ⟨t114, A30, H⟩ := H
  try dsimp only at H
  have A3 := mk0 A30
  clear A30
  by_cases c4 : t114 ≤ 200
  ·rw [if_pos c4] at H
   have c4b0 : decide (t114 ≤ 200) = true := decide_eq_true c4
   clear c4
   replace H := Option.bind_eq_some_iff.mp H
   obtain ⟨t115, A50, H⟩ := H
   try dsimp only at H
   have A5 := mk0 A50
   clear A50
   obtain rfl := Option.some.inj H
   go_enter Try.func72, Try.ntmps72
   go_wp2_with (first | ((with_reducible refine gate_dst (N := 1) rfl ?_); refine bx_ (N := 1) (cs := #[.slice A0_0 l0_0.length c0_0, .slice A0_1 l0_1.length c0_1]) (t := 56) (h := ?_); intro gb113 hg w6 hbox hb; have n2_ := mk0 (gz_ HB hg); have n3_ := mk0 (gz_ HB hg); replace HB := mk0 (bt_ (b_ HB) hb); have BK113 := mk0 (hbox); have GW113 := n2_; have GE113 := n3_; clear n2_ n3_ hb hbox hg; obtain ⟨hcz7_0, hcz7_1, hfz7_0, hfz7_1⟩ := c2_ BK113) | (go_at_call 129; (with_reducible refine (page_size.calls k _ _ l0_0 t114 _ ?side1 ?side2 A3.out).mono ?_); (case side1 => exact cb_ HR0_0 HB); (case side2 => exact HC0_0.out); rintro e w' ⟨rfl, ⟨nd, rfl⟩⟩) | (go_at_call 130; (with_reducible refine (page_free.calls k _ _ l0_0 _ _ l0_1 t115 _ ?side1 ?side2 ?side3 ?side4 A5.out).mono ?_); (case side1 => repeat (first | exact (Kd.C_below HR0_0.out (b_ HB)) | (with_reducible refine Kd.C_alloc ?_ _) | (with_reducible refine Kd.C_drewN ?_ _) | (with_reducible refine Kd.C_drew ?_))); (case side2 => exact HC0_0.out); (case side3 => repeat (first | exact (Kd.C_below HR0_1.out (b_ HB)) | (with_reducible refine Kd.C_alloc ?_ _) | (with_reducible refine Kd.C_drewN ?_ _) | (with_reducible refine Kd.C_drew ?_))); (case side4 => exact HC0_1.out); rintro e w8 ⟨rfl, hb⟩; replace BK113 := mk0 (u_ BK113 hb); replace HB := mk0 (bt_ (b_ HB) hb); (try clear hb)))
   go_ret
   exact ⟨by first | rfl | (simp [errW_none, errW_some] <;> rfl) | (simp [*, errW_none, errW_some] <;> rfl), b_ HB⟩
  ·rw [if_neg c4] at H
   have c4b0 : decide (t114 ≤ 200) = false := decide_eq_false c4
   clear c4
   obtain rfl := Option.some.inj H
   go_enter Try.func72, Try.ntmps72
   go_wp2_with (first | ((with_reducible refine gate_dst (N := 1) rfl ?_); refine bx_ (N := 1) (cs := #[.slice A0_0 l0_0.length c0_0, .slice A0_1 l0_1.length c0_1]) (t := 56) (h := ?_); intro gb113 hg w9 hbox hb; have n2_ := mk0 (gz_ HB hg); have n3_ := mk0 (gz_ HB hg); replace HB := mk0 (bt_ (b_ HB) hb); have BK113 := mk0 (hbox); have GW113 := n2_; have GE113 := n3_; clear n2_ n3_ hb hbox hg; obtain ⟨hcz10_0, hcz10_1, hfz10_0, hfz10_1⟩ := c2_ BK113) | (go_at_call 129; (with_reducible refine (page_size.calls k _ _ l0_0 t114 _ ?side1 ?side2 A3.out).mono ?_); (case side1 => exact cb_ HR0_0 HB); (case side2 => exact HC0_0.out); rintro e w' ⟨rfl, ⟨nd, rfl⟩⟩))
   go_ret
   exact ⟨by first | rfl | (simp [errW_none, errW_some] <;> rfl) | (simp [*, errW_none, errW_some] <;> rfl), b_ HB⟩
 ·rw [if_neg c2] at H
  have c2b0 : decide ((l0_0.length : Int) ≤ 16) = false := decide_eq_false c2
  have c2b1 : decide (l0_0.length ≤ 16) = false := decide_eq_false (by omega)
  clear c2
  obtain rfl := Option.some.inj H
  go_enter Try.func72, Try.ntmps72
  go_wp2_with (first | ((with_reducible refine gate_dst (N := 1) rfl ?_); refine bx_ (N := 1) (cs := #[.slice A0_0 l0_0.length c0_0, .slice A0_1 l0_1.length c0_1]) (t := 56) (h := ?_); intro gb113 hg w11 hbox hb; have n2_ := mk0 (gz_ HB hg); have n3_ := mk0 (gz_ HB hg); replace HB := mk0 (bt_ (b_ HB) hb); have BK113 := mk0 (hbox); have GW113 := n2_; have GE113 := n3_; clear n2_ n3_ hb hbox hg; obtain ⟨hcz12_0, hcz12_1, hfz12_0, hfz12_1⟩ := c2_ BK113))
  go_ret
  exact ⟨by first | rfl | (simp [errW_none, errW_some] <;> rfl) | (simp [*, errW_none, errW_some] <;> rfl), b_ HB⟩

/-! ### slices_Clone_string_string: function 73 (by hand) -/
def slices_Clone_string_string.f (l0 : List (ByteArray)) : Option (List (ByteArray)) := if l0.length < 8796093022208 then some l0 else none
theorem kd_empty_9 (w : World) : Kd.string.R 9 (w.alloc (.cells #[] 9)) w.heap.size (fun _ => True) (.slice (some ⟨w.heap.size, 0, none⟩) 0 0) [] := by
  refine ⟨fun _ _ => trivial, [], ⟨by simp, .inr ⟨w.heap.size, 0, #[], rfl, Nat.le_refl _, heap_alloc_new w _, Nat.le_refl _, by decide, by simp, by simp⟩⟩, ?_⟩
  exact Reps.none _ _
set_option maxHeartbeats 800000 in
set_option maxRecDepth 100000 in
theorem slices_Clone_string_string.calls (A0 : Option Addr) (c0 : Nat) (l0 : List (ByteArray)) (r : List (ByteArray)) (w : World) (hr0 : Kd.C Kd.string w A0 l0.length l0) (hc0 : l0.length ≤ c0) (h : slices_Clone_string_string.f l0 = some r) :
    Calls Try.prog 73 #[.slice A0 l0.length c0] w fun e w' => ∃ v0_ : Value, e = .returned (v0_) ∧ Kd.R Kd.string 9 w' w.heap.size (fun _ => True) v0_ r ∧ Below w.heap.size w w' := by
  have HC0 := Aside0.mk hc0
  clear hc0
  unfold slices_Clone_string_string.f at h
  split at h
  · obtain rfl := Option.some.inj h
    rename_i hlt
    clear h
    rcases A0 with _ | ad
    · have hl : l0 = [] := by
        rcases Nat.eq_zero_or_pos l0.length with h0 | h0
        · exact List.eq_nil_of_length_eq_zero h0
        · obtain ⟨ad, e, _⟩ := hr0.2.2 h0
          cases e
      subst hl
      have HN := fun w : World => Lib.run_eql_slice_nil (P := Try.prog) w 25 9 none 0 c0 0 0 Try.underlying25
      go_enter Try.func73, Try.ntmps73
      go_wp2
      go_ret
      exact ⟨_, rfl, Kd.R_nil _ _ _ _ _, Below.refl _ _⟩
    · have HN := fun w : World => Lib.run_eql_slice_nil (P := Try.prog) w 25 9 (some ad) l0.length c0 0 0 Try.underlying25
      have HR0 := Aside0.mk hr0
      clear hr0
      have HO := Aside0.mk (kd_empty_9 w)
      go_enter Try.func73, Try.ntmps73
      go_wp2_with (first | ((with_reducible refine gate_builtin (b := .append) (xs := #[.tmp 5, .tmp 6]) rfl ?_); at_builtin; refine Kd.R_append_rows Kd.string (w0 := w) w.heap.size rfl (.tmp 5) (.tmp 6) 25 9 (.string ⟨#[]⟩) 16 rfl Try.underlying25 info9 rfl (by decide) (by omega) (.slice (some ⟨w.heap.size, 0, none⟩) 0 0) ([] : List (ByteArray)) l0 _ _ _ (fun _ => True) (fun _ => False) rfl rfl ?aO ?aR (fun _ _ h => h) (fun _ h => h.elim) ?aF ?aB ?aS ?aL ?_; (case aR => exact (Kd.C_below HR0.out (below_alloc (Below.refl _ _) _))); (case aB => exact (below_alloc (Below.refl _ _) _)); (case aF => exact (fun _ _ => trivial)); (case aO => exact HO.out); (case aS => simp); (case aL => simp; omega); intro v1 w1 ho hb hg hat; clear hg hat))
      go_ret
      exact ⟨_, rfl, ho, hb⟩
  · cases h


/-! ### slices_Clone_int_int: function 74 (by hand) -/
def slices_Clone_int_int.f (l0 : List (Int)) : Option (List (Int)) := if l0.length < 17592186044416 then some l0 else none
theorem kd_empty_3 (w : World) : (Kd.int .i64).R 3 (w.alloc (.cells #[] 3)) w.heap.size (fun _ => True) (.slice (some ⟨w.heap.size, 0, none⟩) 0 0) [] := by
  refine ⟨fun _ _ => trivial, [], ⟨by simp, .inr ⟨w.heap.size, 0, #[], rfl, Nat.le_refl _, heap_alloc_new w _, Nat.le_refl _, by decide, by simp, by simp⟩⟩, ?_⟩
  exact Reps.none _ _
set_option maxHeartbeats 800000 in
set_option maxRecDepth 100000 in
theorem slices_Clone_int_int.calls (A0 : Option Addr) (c0 : Nat) (l0 : List (Int)) (r : List (Int)) (w : World) (hr0 : Kd.C (Kd.int .i64) w A0 l0.length l0) (hc0 : l0.length ≤ c0) (h : slices_Clone_int_int.f l0 = some r) :
    Calls Try.prog 74 #[.slice A0 l0.length c0] w fun e w' => ∃ v0_ : Value, e = .returned (v0_) ∧ Kd.R (Kd.int .i64) 3 w' w.heap.size (fun _ => True) v0_ r ∧ Below w.heap.size w w' := by
  have HC0 := Aside0.mk hc0
  clear hc0
  unfold slices_Clone_int_int.f at h
  split at h
  · obtain rfl := Option.some.inj h
    rename_i hlt
    clear h
    rcases A0 with _ | ad
    · have hl : l0 = [] := by
        rcases Nat.eq_zero_or_pos l0.length with h0 | h0
        · exact List.eq_nil_of_length_eq_zero h0
        · obtain ⟨ad, e, _⟩ := hr0.2.2 h0
          cases e
      subst hl
      have HN := fun w : World => Lib.run_eql_slice_nil (P := Try.prog) w 24 3 none 0 c0 0 0 Try.underlying24
      go_enter Try.func74, Try.ntmps74
      go_wp2
      go_ret
      exact ⟨_, rfl, Kd.R_nil _ _ _ _ _, Below.refl _ _⟩
    · have HN := fun w : World => Lib.run_eql_slice_nil (P := Try.prog) w 24 3 (some ad) l0.length c0 0 0 Try.underlying24
      have HR0 := Aside0.mk hr0
      clear hr0
      have HO := Aside0.mk (kd_empty_3 w)
      go_enter Try.func74, Try.ntmps74
      go_wp2_with (first | ((with_reducible refine gate_builtin (b := .append) (xs := #[.tmp 5, .tmp 6]) rfl ?_); at_builtin; refine Kd.R_append_rows (Kd.int .i64) (w0 := w) w.heap.size rfl (.tmp 5) (.tmp 6) 24 3 (.int .i64 0) 8 rfl Try.underlying24 info3 rfl (by decide) (by omega) (.slice (some ⟨w.heap.size, 0, none⟩) 0 0) ([] : List (Int)) l0 _ _ _ (fun _ => True) (fun _ => False) rfl rfl ?aO ?aR (fun _ _ h => h) (fun _ h => h.elim) ?aF ?aB ?aS ?aL ?_; (case aR => exact (Kd.C_below HR0.out (below_alloc (Below.refl _ _) _))); (case aB => exact (below_alloc (Below.refl _ _) _)); (case aF => exact (fun _ _ => trivial)); (case aO => exact HO.out); (case aS => simp); (case aL => simp; omega); intro v1 w1 ho hb hg hat; clear hg hat))
      go_ret
      exact ⟨_, rfl, ho, hb⟩
  · cases h


end Go.Proofs.Ytoodkefpkgbjcaa.PPgb
