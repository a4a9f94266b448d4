-- PRINTED by print.py (a twelfth state) out of the translation. Not trusted: Lean checks it.
import Derived.Test.YtbaecdcfefmcgaaPVrsx0
import Derived.Test.YtbaecdcfefmcgaaPVrsx5
import Derived.Test.YtbaecdcfefmcgaaHLook
import Derived.Test.YtbaecdcfefmcgaaShelfP
namespace Go.Proofs.Ytbaecdcfefmcgaa.PVrs
open Go.RowKit Go.Proofs.YtbaecdcfefmcgaaW.PrintWords Go.Proofs.YtbaecdcfefmcgaaW.PrintLast Go.Proofs.YtbaecdcfefmcgaaW.PrintMore
attribute [local go_sem] max2_int min2_int max_two min_two max_three min_three max_four min_four   -- for this text's walks alone
set_option linter.unusedVariables false
set_option linter.unusedSimpArgs false

/-! ### pend_May: function 97 -/
mutual
def pend_May.j0 : Nat → Bool → List (S36) → List Int → Option (Bool)
 | 0, _, _, _ => none
 | k + 1, x19, x147000, x147001 => if x19 = true then (some false) else (pend_May.l0 k x147001 (x147001.length : Int) 0 x147000 x147001)
def pend_May.l0 : Nat → List Int → Int → Int → List (S36) → List Int → Option (Bool)
 | 0, _, _, _, _, _ => none
 | k + 1, x21, x22, x23, x147000, x147001 => if x23 < x22 then (if 0 ≤ x23 then (if x23 < (x21.length : Int) then (if (rd x21 x23) < 0 then (pend_May.j2 k x21 x22 x23 true x147000 x147001) else (if (rd x21 x23) > (x147000.length : Int) then (pend_May.j2 k x21 x22 x23 true x147000 x147001) else (if x23 > 0 then (if 0 ≤ (wrap64 (x23 - 1)) then (if (wrap64 (x23 - 1)) < (x147001.length : Int) then (pend_May.j2 k x21 x22 x23 (decide ((rd x21 x23) < (rd x147001 (wrap64 (x23 - 1))))) x147000 x147001) else (none)) else (none)) else (pend_May.j2 k x21 x22 x23 false x147000 x147001)))) else (none)) else (none)) else (some true)
def pend_May.j2 : Nat → List Int → Int → Int → Bool → List (S36) → List Int → Option (Bool)
 | 0, _, _, _, _, _, _ => none
 | k + 1, x21, x22, x23, x50, x147000, x147001 => if x50 = true then (some false) else (pend_May.l0 k x21 x22 (wrap64 (x23 + 1)) x147000 x147001)
end
def pend_May.f (k : Nat) (l0_0 : List (S36)) (l0_1 : List Int) : Option (Bool) := if (l0_0.length : Int) > 12 then (pend_May.j0 k true l0_0 l0_1) else (if (l0_1.length : Int) > 6 then (pend_May.j0 k true l0_0 l0_1) else ((api_Write_146.f l0_0).bind fun t147 => (pend_May.j0 k t147 l0_0 l0_1)))
theorem pend_May.mono_l : ∀ k, (∀ y0 y1 y2, LeO (pend_May.j0 k y0 y1 y2) (pend_May.j0 (k + 1) y0 y1 y2)) ∧ (∀ y0 y1 y2 y3 y4, LeO (pend_May.l0 k y0 y1 y2 y3 y4) (pend_May.l0 (k + 1) y0 y1 y2 y3 y4)) ∧ (∀ y0 y1 y2 y3 y4 y5, LeO (pend_May.j2 k y0 y1 y2 y3 y4 y5) (pend_May.j2 (k + 1) y0 y1 y2 y3 y4 y5))
 | 0 => ⟨fun _ _ _ r h => by simp [pend_May.j0] at h, fun _ _ _ _ _ r h => by simp [pend_May.l0] at h, fun _ _ _ _ _ _ r h => by simp [pend_May.j2] at h⟩
 | k + 1 => by
  obtain ⟨ih0, ih1, ih2⟩ := pend_May.mono_l k
  refine ⟨?_, ?_, ?_⟩
  ·intro y0 y1 y2
   unfold pend_May.j0
   repeat' first
   | (with_reducible exact ih0 _ _ _)
   | (with_reducible exact ih1 _ _ _ _ _)
   | (with_reducible exact ih2 _ _ _ _ _ _)
   | (with_reducible exact LeO.refl _)
   | (with_reducible exact LeO.none _)
   | (with_reducible refine LeO.ite ?_ ?_)
   | (with_reducible refine LeO.bind ?_ (fun _ => ?_))
   | exact ih0 _ _ _
   | exact ih1 _ _ _ _ _
   | exact ih2 _ _ _ _ _ _
   | exact LeO.none _
   | refine LeO.ite ?_ ?_
   | refine LeO.bind ?_ (fun _ => ?_)
  ·intro y0 y1 y2 y3 y4
   unfold pend_May.l0
   repeat' first
   | (with_reducible exact ih0 _ _ _)
   | (with_reducible exact ih1 _ _ _ _ _)
   | (with_reducible exact ih2 _ _ _ _ _ _)
   | (with_reducible exact LeO.refl _)
   | (with_reducible exact LeO.none _)
   | (with_reducible refine LeO.ite ?_ ?_)
   | (with_reducible refine LeO.bind ?_ (fun _ => ?_))
   | exact ih0 _ _ _
   | exact ih1 _ _ _ _ _
   | exact ih2 _ _ _ _ _ _
   | exact LeO.none _
   | refine LeO.ite ?_ ?_
   | refine LeO.bind ?_ (fun _ => ?_)
  ·intro y0 y1 y2 y3 y4 y5
   unfold pend_May.j2
   repeat' first
   | (with_reducible exact ih0 _ _ _)
   | (with_reducible exact ih1 _ _ _ _ _)
   | (with_reducible exact ih2 _ _ _ _ _ _)
   | (with_reducible exact LeO.refl _)
   | (with_reducible exact LeO.none _)
   | (with_reducible refine LeO.ite ?_ ?_)
   | (with_reducible refine LeO.bind ?_ (fun _ => ?_))
   | exact ih0 _ _ _
   | exact ih1 _ _ _ _ _
   | exact ih2 _ _ _ _ _ _
   | exact LeO.none _
   | refine LeO.ite ?_ ?_
   | refine LeO.bind ?_ (fun _ => ?_)
theorem pend_May.mono : ∀ a0 a1 k, LeO (pend_May.f k a0 a1) (pend_May.f (k + 1) a0 a1) := by
 intro a0 a1 k
 obtain ⟨ih0, ih1, ih2⟩ := pend_May.mono_l k
 unfold pend_May.f
 repeat' first
   | (with_reducible exact ih0 _ _ _)
   | (with_reducible exact ih1 _ _ _ _ _)
   | (with_reducible exact ih2 _ _ _ _ _ _)
   | (with_reducible exact LeO.refl _)
   | (with_reducible exact LeO.none _)
   | (with_reducible refine LeO.ite ?_ ?_)
   | (with_reducible refine LeO.bind ?_ (fun _ => ?_))
   | exact ih0 _ _ _
   | exact ih1 _ _ _ _ _
   | exact ih2 _ _ _ _ _ _
   | exact LeO.none _
   | refine LeO.ite ?_ ?_
   | refine LeO.bind ?_ (fun _ => ?_)
set_option maxHeartbeats 8000000 in
set_option maxRecDepth 100000 in
theorem pend_May.calls (k : Nat) (A0_0 : Option Addr) (c0_0 : Nat) (l0_0 : List (S36)) (A0_1 : Option Addr) (c0_1 : Nat) (l0_1 : List Int) (r : Bool) (w : World) (hr0_0 : Kd.C k36 w A0_0 l0_0.length l0_0) (hc0_0 : l0_0.length ≤ c0_0) (hr0_1 : Kd.C (Kd.int .i64) w A0_1 l0_1.length l0_1) (hc0_1 : l0_1.length ≤ c0_1) (h : pend_May.f k l0_0 l0_1 = some r) :
  Calls Try.prog 97 #[.agg #[.slice A0_0 l0_0.length c0_0, .slice A0_1 l0_1.length c0_1]] w fun e w' => e = .returned (.bool r) ∧ Below w.heap.size w w' := by
 have hu34 := Try.underlying34
 have HR0_0 := mk0 hr0_0
 have HC0_0 := mk0 hc0_0
 clear hr0_0 hc0_0
 have HR0_1 := mk0 hr0_1
 have HC0_1 := mk0 hc0_1
 clear hr0_1 hc0_1
 have HB := mk0 (Below.refl w.heap.size w)
 have H : (if (l0_0.length : Int) > 12 then (pend_May.j0 k true l0_0 l0_1) else (if (l0_1.length : Int) > 6 then (pend_May.j0 k true l0_0 l0_1) else ((api_Write_146.f l0_0).bind fun t147 => (pend_May.j0 k t147 l0_0 l0_1)))) = some r := h
 clear h
 have HC2 := mk0 H
 clear H
 go_enter Try.func97, Try.ntmps97
 go_upto_region 1 with (first | ((with_reducible refine gate_dst (N := 1) rfl ?_); (try (refine gate_guard (by rfl) ?_; dsimp only)); refine bx_ (N := 1) (cs := #[.slice A0_0 l0_0.length c0_0, .slice A0_1 l0_1.length c0_1]) (t := 34) (h := ?_); intro gb146 hg w3 hbox hb; have n2_ := mk0 (gz_ HB hg); have n3_ := mk0 (gz_ HB hg); replace HB := mk0 (bt_ (b_ HB) hb); have BK146 := mk0 (hbox); have GW146 := n2_; have GE146 := n3_; clear n2_ n3_; clear hb hbox hg))
 (try simp only [Act.put, List.setIfInBounds_toArray, List.set_cons_zero, List.set_cons_succ])
 go_cut [19] (fun v19 wc => ∃ (kq : Nat) (x19_1 : Bool), v19 = .bool x19_1 ∧ Fc (pend_May.j0 kq x19_1 l0_0 l0_1 = some r) ∧ Fc (kq ≤ k) ∧ Fc (wc.heap[gb146]? = some (.cells #[(.slice A0_0 l0_0.length c0_0), (.slice A0_1 l0_1.length c0_1)] 34 (0, 0))) ∧ Fc (Below w.heap.size w wc))
 case first =>
  have H := HC2.out
  clear HC2
  by_cases c4 : (l0_0.length : Int) > 12
  ·rw [if_pos c4] at H
   have c4b0 : decide (12 < (l0_0.length : Int)) = true := decide_eq_true c4
   have c4b1 : decide (12 < l0_0.length) = true := decide_eq_true (by omega)
   clear c4
   (first | rw [c4b0] | (simp only [i64_w, i32_w]; rw [c4b0]) | skip)
   have H' := mk0 H
   clear H
   obtain ⟨hcz5_0, hcz5_1, hfz5_0, hfz5_1⟩ := c2_ BK146
   go_wp2
   go_meet
   case rel => exact ⟨_, (true), (by first | rfl | (simp; done) | (simp [*]; done)), H', ⟨by first | omega | exact Nat.le_refl _⟩, ⟨h_ BK146⟩, ⟨b_ HB⟩⟩
  ·rw [if_neg c4] at H
   have c4b0 : decide (12 < (l0_0.length : Int)) = false := decide_eq_false c4
   have c4b1 : decide (12 < l0_0.length) = false := decide_eq_false (by omega)
   clear c4
   (first | rw [c4b0] | (simp only [i64_w, i32_w]; rw [c4b0]) | skip)
   by_cases c6 : (l0_1.length : Int) > 6
   ·rw [if_pos c6] at H
    have c6b0 : decide (6 < (l0_1.length : Int)) = true := decide_eq_true c6
    have c6b1 : decide (6 < l0_1.length) = true := decide_eq_true (by omega)
    clear c6
    have H' := mk0 H
    clear H
    obtain ⟨hcz7_0, hcz7_1, hfz7_0, hfz7_1⟩ := c2_ BK146
    go_wp2
    go_meet
    case rel => exact ⟨_, (true), (by first | rfl | (simp; done) | (simp [*]; done)), H', ⟨by first | omega | exact Nat.le_refl _⟩, ⟨h_ BK146⟩, ⟨b_ HB⟩⟩
   ·rw [if_neg c6] at H
    have c6b0 : decide (6 < (l0_1.length : Int)) = false := decide_eq_false c6
    have c6b1 : decide (6 < l0_1.length) = false := decide_eq_false (by omega)
    clear c6
    replace H := Option.bind_eq_some_iff.mp H
    obtain ⟨t147, A80, H⟩ := H
    try dsimp only at H
    have A8 := mk0 A80
    clear A80
    have H' := mk0 H
    clear H
    obtain ⟨hcz9_0, hcz9_1, hfz9_0, hfz9_1⟩ := c2_ BK146
    go_wp2_with (first | (go_at_call 146; (with_reducible refine (api_Write_146.calls _ _ l0_0  t147 _ ?side1 ?side2 A8.out).mono ?_); (case side1 => exact cb_ HR0_0 HB); (case side2 => exact HC0_0.out); rintro e w10 ⟨rfl, hb⟩; replace BK146 := mk0 (u_ BK146 hb); replace HB := mk0 (bt_ (b_ HB) hb); (try clear hb)))
    go_meet
    case rel => exact ⟨_, (t147), (by first | rfl | (simp; done) | (simp [*]; done)), H', ⟨by first | omega | exact Nat.le_refl _⟩, ⟨h_ BK146⟩, ⟨b_ HB⟩⟩
 case rest =>
  clear HC2
  try clear c4
  try clear c4b0
  try clear c4b1
  try clear c6
  try clear c6b0
  try clear c6b1
  try clear hcz5_0
  try clear hcz5_1
  try clear hcz7_0
  try clear hcz7_1
  try clear hcz9_0
  try clear hcz9_1
  try clear hfz5_0
  try clear hfz5_1
  try clear hfz7_0
  try clear hfz7_1
  try clear hfz9_0
  try clear hfz9_1
  obtain ⟨kq, x19_1, rfl, HA, HJ1, BK146, HB⟩ := hcut
  cases kq with
  | zero => exact absurd HA.out (by simp [pend_May.j0])
  | succ kj1 =>
   have H := HA.out
   clear HA
   simp only [pend_May.j0] at H
   as_aux_lemma =>
    by_cases c11 : x19_1 = true
    ·subst c11
     rw [if_pos rfl] at H
     obtain rfl := Option.some.inj H
     go_wp2
     go_ret
     exact ⟨by first | rfl | (simp [errW_none, errW_some] <;> rfl) | (simp [*, errW_none, errW_some] <;> rfl), b_ HB⟩
    ·replace c11 := Bool.eq_false_iff.mpr c11
     subst c11
     rw [if_neg (show ¬ (false = true) by decide)] at H
     have H' := mk0 H
     clear H
     obtain ⟨hcz12_0, hcz12_1, hfz12_0, hfz12_1⟩ := c2_ BK146
     go_wp2
     go_loopg [23] kj1 (fun kq v23 w' => ∃ (x23_2 : Int), v23 = .int .i64 x23_2 ∧ Fc (pend_May.l0 kq l0_1 (l0_1.length : Int) x23_2 l0_0 l0_1 = some r) ∧ Fc (kq ≤ kj1) ∧ Fc (w'.heap[gb146]? = some (.cells #[(.slice A0_0 l0_0.length c0_0), (.slice A0_1 l0_1.length c0_1)] 34 (0, 0))) ∧ Fc (Below w.heap.size w w'))
     case atStart => exact ⟨(0), (by first | rfl | (simp; done) | (simp [*]; done)), H', ⟨Nat.le_refl _⟩, ⟨h_ BK146⟩, ⟨b_ HB⟩⟩
     case round =>
      clear H'
      try clear c4
      try clear c4b0
      try clear c4b1
      try clear c6
      try clear c6b0
      try clear c6b1
      try clear c11
      try clear hcz12_0
      try clear hcz12_1
      try clear hcz5_0
      try clear hcz5_1
      try clear hcz7_0
      try clear hcz7_1
      try clear hcz9_0
      try clear hcz9_1
      try clear hfz12_0
      try clear hfz12_1
      try clear hfz5_0
      try clear hfz5_1
      try clear hfz7_0
      try clear hfz7_1
      try clear hfz9_0
      try clear hfz9_1
      obtain ⟨x23_2, rfl, HA, HK2, BK146, HB⟩ := hrel
      cases gk with
      | zero => exact absurd HA.out (by simp [pend_May.l0])
      | succ k2 =>
       have H := HA.out
       clear HA
       simp only [pend_May.l0] at H
       as_aux_lemma =>
        by_cases c13 : x23_2 < (l0_1.length : Int)
        ·rw [if_pos c13] at H
         have c13b0 : decide (x23_2 < (l0_1.length : Int)) = true := decide_eq_true c13
         clear c13
         by_cases c14 : 0 ≤ x23_2
         ·rw [if_pos c14] at H
          have c14b0 : decide (0 ≤ x23_2) = true := decide_eq_true c14
          clear c14
          by_cases c15 : x23_2 < (l0_1.length : Int)
          ·rw [if_pos c15] at H
           have c15b0 : decide (x23_2 < (l0_1.length : Int)) = true := decide_eq_true c15
           clear c15
           have HC16 := mk0 H
           clear H
           have p148 : 0 ≤ (x23_2 : Int) := of_decide_eq_true (by first | (with_reducible assumption) | assumption)
           have q148 : x23_2 < (l0_1.length : Int) := of_decide_eq_true (by first | (with_reducible assumption) | assumption)
           obtain ⟨ad148, e148, hx148_0⟩ := Kd.at_int HR0_1.out x23_2 p148 q148
           cases e148
           replace hx148_0 := (bc_ HB hx148_0 :)
           replace p148 := eq_true p148
           replace q148 := eq_true q148
           go_upto_region 6 with (fail)
           go_cut [50] (fun v50 wc => ∃ (kq : Nat) (x50_15 : Bool), v50 = .bool x50_15 ∧ Fc (pend_May.j2 kq l0_1 (l0_1.length : Int) x23_2 x50_15 l0_0 l0_1 = some r) ∧ Fc (kq ≤ k2) ∧ Fc (wc.heap[gb146]? = some (.cells #[(.slice A0_0 l0_0.length c0_0), (.slice (some ad148) l0_1.length c0_1)] 34 (0, 0))) ∧ Fc (Below w.heap.size w wc))
           case first =>
            have H := HC16.out
            clear HC16
            by_cases c17 : (rd l0_1 x23_2) < 0
            ·rw [if_pos c17] at H
             have c17b0 : decide ((rd l0_1 x23_2) < 0) = true := decide_eq_true c17
             clear c17
             (first | rw [c17b0] | (simp only [i64_w, i32_w]; rw [c17b0]) | skip)
             have H' := mk0 H
             clear H
             go_wp2
             go_meet
             case rel => exact ⟨_, (true), (by first | rfl | (simp; done) | (simp [*]; done)), H', ⟨by have := HJ1.out; have := HK2.out; first | omega | exact Nat.le_refl _⟩, ⟨h_ BK146⟩, ⟨b_ HB⟩⟩
            ·rw [if_neg c17] at H
             have c17b0 : decide ((rd l0_1 x23_2) < 0) = false := decide_eq_false c17
             clear c17
             (first | rw [c17b0] | (simp only [i64_w, i32_w]; rw [c17b0]) | skip)
             by_cases c18 : (rd l0_1 x23_2) > (l0_0.length : Int)
             ·rw [if_pos c18] at H
              have c18b0 : decide ((l0_0.length : Int) < (rd l0_1 x23_2)) = true := decide_eq_true c18
              clear c18
              have H' := mk0 H
              clear H
              obtain ⟨hcz19_0, hcz19_1, hfz19_0, hfz19_1⟩ := c2_ BK146
              go_wp2
              go_meet
              case rel => exact ⟨_, (true), (by first | rfl | (simp; done) | (simp [*]; done)), H', ⟨by have := HJ1.out; have := HK2.out; first | omega | exact Nat.le_refl _⟩, ⟨h_ BK146⟩, ⟨b_ HB⟩⟩
             ·rw [if_neg c18] at H
              have c18b0 : decide ((l0_0.length : Int) < (rd l0_1 x23_2)) = false := decide_eq_false c18
              clear c18
              by_cases c20 : x23_2 > 0
              ·rw [if_pos c20] at H
               have c20b0 : decide (0 < x23_2) = true := decide_eq_true c20
               clear c20
               obtain ⟨ji21, hji21⟩ : ∃ j_ : Int, (wrap64 (x23_2 - 1)) = j_ := ⟨_, rfl⟩
               replace H : (if 0 ≤ (ji21) then (if (ji21) < (l0_1.length : Int) then (pend_May.j2 k2 l0_1 (l0_1.length : Int) x23_2 (decide ((rd l0_1 x23_2) < (rd l0_1 (ji21)))) l0_0 l0_1) else (none)) else (none)) = some r := by first | (rw [hji21] at H; exact H) | (simp only [hji21] at H ⊢; exact H)
               have hji21w : (IntKind.i64.wrap (x23_2 - 1)) = ji21 := (i64_w _).trans hji21
               by_cases c22 : 0 ≤ (ji21)
               ·rw [if_pos c22] at H
                have c22b0 : decide (0 ≤ (ji21)) = true := decide_eq_true c22
                clear c22
                by_cases c23 : (ji21) < (l0_1.length : Int)
                ·rw [if_pos c23] at H
                 have c23b0 : decide ((ji21) < (l0_1.length : Int)) = true := decide_eq_true c23
                 clear c23
                 have H' := mk0 H
                 clear H
                 obtain ⟨hcz24_0, hcz24_1, hfz24_0, hfz24_1⟩ := c2_ BK146
                 have p149 : 0 ≤ ((ji21) : Int) := of_decide_eq_true (by first | (with_reducible assumption) | assumption)
                 have q149 : (ji21) < (l0_1.length : Int) := of_decide_eq_true (by first | (with_reducible assumption) | assumption)
                 obtain ⟨ad149, e149, hx149_0⟩ := Kd.at_int HR0_1.out (ji21) p149 q149
                 obtain rfl : ad148 = ad149 := (by injection e149)
                 replace hx149_0 := (bc_ HB hx149_0 :)
                 replace p149 := eq_true p149
                 replace q149 := eq_true q149
                 go_wp2
                 go_meet
                 case rel => exact ⟨_, (decide ((rd l0_1 x23_2) < (rd l0_1 (ji21)))), (by first | rfl | (simp; done) | (simp only [← hji21] <;> (first | rfl | (simp [leq_]; done) | (simp; done))) | (simp [*]; done)), H', ⟨by have := HJ1.out; have := HK2.out; first | omega | exact Nat.le_refl _⟩, ⟨h_ BK146⟩, ⟨b_ HB⟩⟩
                ·rw [if_neg c23] at H
                 exact absurd H (by simp)
               ·rw [if_neg c22] at H
                exact absurd H (by simp)
              ·rw [if_neg c20] at H
               have c20b0 : decide (0 < x23_2) = false := decide_eq_false c20
               clear c20
               have H' := mk0 H
               clear H
               obtain ⟨hcz25_0, hcz25_1, hfz25_0, hfz25_1⟩ := c2_ BK146
               go_wp2
               go_meet
               case rel => exact ⟨_, (false), (by first | rfl | (simp; done) | (simp [*]; done)), H', ⟨by have := HJ1.out; have := HK2.out; first | omega | exact Nat.le_refl _⟩, ⟨h_ BK146⟩, ⟨b_ HB⟩⟩
           case rest =>
            clear HC16
            try clear c4
            try clear c4b0
            try clear c4b1
            try clear c6
            try clear c6b0
            try clear c6b1
            try clear c11
            try clear c13
            try clear c13b0
            try clear c14
            try clear c14b0
            try clear c15
            try clear c15b0
            try clear c17
            try clear c17b0
            try clear c18
            try clear c18b0
            try clear c20
            try clear c20b0
            try clear c22
            try clear c22b0
            try clear c23
            try clear c23b0
            try clear hcz12_0
            try clear hcz12_1
            try clear hcz19_0
            try clear hcz19_1
            try clear hcz24_0
            try clear hcz24_1
            try clear hcz25_0
            try clear hcz25_1
            try clear hcz5_0
            try clear hcz5_1
            try clear hcz7_0
            try clear hcz7_1
            try clear hcz9_0
            try clear hcz9_1
            try clear hfz12_0
            try clear hfz12_1
            try clear hfz19_0
            try clear hfz19_1
            try clear hfz24_0
            try clear hfz24_1
            try clear hfz25_0
            try clear hfz25_1
            try clear hfz5_0
            try clear hfz5_1
            try clear hfz7_0
            try clear hfz7_1
            try clear hfz9_0
            try clear hfz9_1
            try clear hx148_0
            try clear hx149_0
            try clear p148
            try clear p149
            try clear q148
            try clear q149
            obtain ⟨kq, x50_15, rfl, HA, HJ15, BK146, HB⟩ := hcut
            cases kq with
            | zero => exact absurd HA.out (by simp [pend_May.j2])
            | succ kj15 =>
             have H := HA.out
             clear HA
             simp only [pend_May.j2] at H
             as_aux_lemma =>
              by_cases c26 : x50_15 = true
              ·subst c26
               rw [if_pos rfl] at H
               obtain rfl := Option.some.inj H
               go_wp2
               go_ret
               exact ⟨by first | rfl | (simp [errW_none, errW_some] <;> rfl) | (simp [*, errW_none, errW_some] <;> rfl), b_ HB⟩
              ·replace c26 := Bool.eq_false_iff.mpr c26
               subst c26
               rw [if_neg (show ¬ (false = true) by decide)] at H
               have H' := mk0 H
               clear H
               go_wp2
               go_roundg kj15
               case measure => have := HJ1.out; have := HK2.out; have := HJ15.out; omega
               case rel => exact ⟨(wrap64 (x23_2 + 1)), (by first | rfl | (simp; done) | (simp [*]; done)), H', ⟨by have := HJ1.out; have := HK2.out; have := HJ15.out; omega⟩, ⟨h_ BK146⟩, ⟨b_ HB⟩⟩
          ·rw [if_neg c15] at H
           exact absurd H (by simp)
         ·rw [if_neg c14] at H
          exact absurd H (by simp)
        ·rw [if_neg c13] at H
         have c13b0 : decide (x23_2 < (l0_1.length : Int)) = false := decide_eq_false c13
         clear c13
         obtain rfl := Option.some.inj H
         go_wp2
         go_ret
         exact ⟨by first | rfl | (simp [errW_none, errW_some] <;> rfl) | (simp [*, errW_none, errW_some] <;> rfl), b_ HB⟩

/-! ### view_May: function 40 -/
def view_May.f (k : Nat) (l0 : List (S47)) (l1_0 : List (S36)) (l1_1 : List Int) : Option (Bool) := if (l0.length : Int) ≤ 3 then ((api_Table_96.f k l0).bind fun t151 => (if t151 = true then (some false) else ((pend_May.f k l1_0 l1_1).bind fun t152 => (some t152)))) else (some false)
theorem view_May.mono : ∀ a0 a1 a2 k, LeO (view_May.f k a0 a1 a2) (view_May.f (k + 1) a0 a1 a2) := by
 intro a0 a1 a2 k
 unfold view_May.f
 repeat' first
   | (with_reducible exact api_Table_96.mono _ _)
   | (with_reducible exact pend_May.mono _ _ _)
   | (with_reducible exact LeO.refl _)
   | (with_reducible exact LeO.none _)
   | (with_reducible refine LeO.ite ?_ ?_)
   | (with_reducible refine LeO.bind ?_ (fun _ => ?_))
   | exact api_Table_96.mono _ _
   | exact pend_May.mono _ _ _
   | exact LeO.none _
   | refine LeO.ite ?_ ?_
   | refine LeO.bind ?_ (fun _ => ?_)
set_option maxHeartbeats 8000000 in
set_option maxRecDepth 100000 in
theorem view_May.calls (k : Nat) (A0 : Option Addr) (c0 : Nat) (l0 : List (S47)) (A1_0 : Option Addr) (c1_0 : Nat) (l1_0 : List (S36)) (A1_1 : Option Addr) (c1_1 : Nat) (l1_1 : List Int) (r : Bool) (w : World) (hr0 : Kd.C k47 w A0 l0.length l0) (hc0 : l0.length ≤ c0) (hr1_0 : Kd.C k36 w A1_0 l1_0.length l1_0) (hc1_0 : l1_0.length ≤ c1_0) (hr1_1 : Kd.C (Kd.int .i64) w A1_1 l1_1.length l1_1) (hc1_1 : l1_1.length ≤ c1_1) (h : view_May.f k l0 l1_0 l1_1 = some r) :
  Calls Try.prog 40 #[.slice A0 l0.length c0, .agg #[.slice A1_0 l1_0.length c1_0, .slice A1_1 l1_1.length c1_1]] w fun e w' => e = .returned (.bool r) ∧ Below w.heap.size w w' := by
 have hu34 := Try.underlying34
 have HR0 := mk0 hr0
 have HC0 := mk0 hc0
 clear hr0 hc0
 have HR1_0 := mk0 hr1_0
 have HC1_0 := mk0 hc1_0
 clear hr1_0 hc1_0
 have HR1_1 := mk0 hr1_1
 have HC1_1 := mk0 hc1_1
 clear hr1_1 hc1_1
 have HB := mk0 (Below.refl w.heap.size w)
 have H : (if (l0.length : Int) ≤ 3 then ((api_Table_96.f k l0).bind fun t151 => (if t151 = true then (some false) else ((pend_May.f k l1_0 l1_1).bind fun t152 => (some t152)))) else (some false)) = some r := h
 clear h
 by_cases c3 : (l0.length : Int) ≤ 3
 ·rw [if_pos c3] at H
  have c3b0 : decide ((l0.length : Int) ≤ 3) = true := decide_eq_true c3
  have c3b1 : decide (l0.length ≤ 3) = true := decide_eq_true (by omega)
  clear c3
  replace H := Option.bind_eq_some_iff.mp H
  obtain ⟨t151, A40, H⟩ := H
  try dsimp only at H
  have A4 := mk0 A40
  clear A40
  by_cases c5 : t151 = true
  ·subst c5
   rw [if_pos rfl] at H
   obtain rfl := Option.some.inj H
   go_enter Try.func40, Try.ntmps40
   go_wp2_with (first | ((with_reducible refine gate_dst (N := 3) rfl ?_); refine bx_ (N := 3) (cs := #[.slice A1_0 l1_0.length c1_0, .slice A1_1 l1_1.length c1_1]) (t := 34) (h := ?_); intro gb150 hg w6 hbox hb; have n2_ := mk0 (gz_ HB hg); have n3_ := mk0 (gz_ HB hg); replace HB := mk0 (bt_ (b_ HB) hb); have BK150 := mk0 (hbox); have GW150 := n2_; have GE150 := n3_; clear n2_ n3_; clear hb hbox hg) | (go_at_call 96; (with_reducible refine (api_Table_96.calls k _ _ l0  true _ ?side1 ?side2 A4.out).mono ?_); (case side1 => exact cb_ HR0 HB); (case side2 => exact HC0.out); rintro e w7 ⟨rfl, hb⟩; replace BK150 := mk0 (u_ BK150 hb); replace HB := mk0 (bt_ (b_ HB) hb); (try clear hb)))
   go_ret
   exact ⟨by first | rfl | (simp [errW_none, errW_some] <;> rfl) | (simp [*, errW_none, errW_some] <;> rfl), b_ HB⟩
  ·replace c5 := Bool.eq_false_iff.mpr c5
   subst c5
   rw [if_neg (show ¬ (false = true) by decide)] at H
   replace H := Option.bind_eq_some_iff.mp H
   obtain ⟨t152, A80, H⟩ := H
   try dsimp only at H
   have A8 := mk0 A80
   clear A80
   obtain rfl := Option.some.inj H
   go_enter Try.func40, Try.ntmps40
   go_wp2_with (first | ((with_reducible refine gate_dst (N := 3) rfl ?_); refine bx_ (N := 3) (cs := #[.slice A1_0 l1_0.length c1_0, .slice A1_1 l1_1.length c1_1]) (t := 34) (h := ?_); intro gb150 hg w9 hbox hb; have n2_ := mk0 (gz_ HB hg); have n3_ := mk0 (gz_ HB hg); replace HB := mk0 (bt_ (b_ HB) hb); have BK150 := mk0 (hbox); have GW150 := n2_; have GE150 := n3_; clear n2_ n3_; clear hb hbox hg) | (go_at_call 96; (with_reducible refine (api_Table_96.calls k _ _ l0  false _ ?side1 ?side2 A4.out).mono ?_); (case side1 => exact cb_ HR0 HB); (case side2 => exact HC0.out); rintro e w10 ⟨rfl, hb⟩; replace BK150 := mk0 (u_ BK150 hb); replace HB := mk0 (bt_ (b_ HB) hb); (try clear hb); obtain ⟨hcz11_0, hcz11_1, hfz11_0, hfz11_1⟩ := c2_ BK150) | (go_at_call 97; (with_reducible refine (pend_May.calls k _ _ l1_0 _ _ l1_1 t152 _ ?side1 ?side2 ?side3 ?side4 A8.out).mono ?_); (case side1 => exact cb_ HR1_0 HB); (case side2 => exact HC1_0.out); (case side3 => exact cb_ HR1_1 HB); (case side4 => exact HC1_1.out); rintro e w12 ⟨rfl, hb⟩; replace BK150 := mk0 (u_ BK150 hb); replace HB := mk0 (bt_ (b_ HB) hb); (try clear hb)))
   go_ret
   exact ⟨by first | rfl | (simp [errW_none, errW_some] <;> rfl) | (simp [*, errW_none, errW_some] <;> rfl), b_ HB⟩
 ·rw [if_neg c3] at H
  have c3b0 : decide ((l0.length : Int) ≤ 3) = false := decide_eq_false c3
  have c3b1 : decide (l0.length ≤ 3) = false := decide_eq_false (by omega)
  clear c3
  obtain rfl := Option.some.inj H
  go_enter Try.func40, Try.ntmps40
  go_wp2_with (first | ((with_reducible refine gate_dst (N := 3) rfl ?_); refine bx_ (N := 3) (cs := #[.slice A1_0 l1_0.length c1_0, .slice A1_1 l1_1.length c1_1]) (t := 34) (h := ?_); intro gb150 hg w13 hbox hb; have n2_ := mk0 (gz_ HB hg); have n3_ := mk0 (gz_ HB hg); replace HB := mk0 (bt_ (b_ HB) hb); have BK150 := mk0 (hbox); have GW150 := n2_; have GE150 := n3_; clear n2_ n3_; clear hb hbox hg))
  go_ret
  exact ⟨by first | rfl | (simp [errW_none, errW_some] <;> rfl) | (simp [*, errW_none, errW_some] <;> rfl), b_ HB⟩

/-! ### view_there: function 41 -/
def view_there.f (l0 : List (S47)) (a1 : Int) : Option (Bool) := if a1 ≥ 0 then (some (decide (a1 < (l0.length : Int)))) else (some false)
set_option maxHeartbeats 8000000 in
set_option maxRecDepth 100000 in
theorem view_there.calls (A0 : Option Addr) (c0 : Nat) (l0 : List (S47)) (a1 : Int) (r : Bool) (w : World) (hr0 : Kd.C k47 w A0 l0.length l0) (hc0 : l0.length ≤ c0) (h : view_there.f l0 a1 = some r) :
  Calls Try.prog 41 #[.slice A0 l0.length c0, .int .i64 a1] w fun e w' => e = .returned (.bool r) ∧ Drawn0 w w' := by
 have HR0 := mk0 hr0
 have HC0 := mk0 hc0
 clear hr0 hc0
 have H : (if a1 ≥ 0 then (some (decide (a1 < (l0.length : Int)))) else (some false)) = some r := h
 clear h
 by_cases c3 : a1 ≥ 0
 ·rw [if_pos c3] at H
  have c3b0 : decide (0 ≤ a1) = true := decide_eq_true c3
  clear c3
  obtain rfl := Option.some.inj H
  go_enter Try.func41, Try.ntmps41
  go_wp2
  go_ret
  exact ⟨by first | rfl | (simp; done) | (simp [*]; done), by repeat (first | exact Drawn0.refl _ | apply Drawn0.step)⟩
 ·rw [if_neg c3] at H
  have c3b0 : decide (0 ≤ a1) = false := decide_eq_false c3
  clear c3
  obtain rfl := Option.some.inj H
  go_enter Try.func41, Try.ntmps41
  go_wp2
  go_ret
  exact ⟨by first | rfl | (simp; done) | (simp [*]; done), by repeat (first | exact Drawn0.refl _ | apply Drawn0.step)⟩

/-! ### pend_Look: function 98 (by hand) -/
def pend_Look.last (l : List (S36)) (t : Int) (k : ByteArray) : Option (S36) := l.reverse.find? (fun x => (x.f0 == t) && (x.f1.toList == k.toList))
def pend_Look.out : Option (S36) → (Int × ByteArray × ByteArray × Bool × Bool)
  | some x => (x.f0, x.f1, x.f2, x.f3, true)
  | none => (0, ⟨#[]⟩, ⟨#[]⟩, false, false)
def pend_Look.f (l0_0 : List (S36)) (l0_1 : List Int) (a1 : Int) (a2 : ByteArray) : Option (Int × ByteArray × ByteArray × Bool × Bool) := if l0_0.length ≤ 12 then some (pend_Look.out (pend_Look.last l0_0 a1 a2)) else none
theorem pend_Look.row (A0 : Option Addr) (c0 : Nat) (l0 : List (S36)) (w : World) (hr0 : Kd.C k36 w A0 l0.length l0) :
    HBack.Row w.heap.size w (.slice A0 l0.length c0) l0.length (fun j => ((rd_T36 l0 j).f0, (rd_T36 l0 j).f1, (rd_T36 l0 j).f2, (rd_T36 l0 j).f3)) := by
  rcases Nat.eq_zero_or_pos l0.length with h0 | h0
  · exact .inl ⟨A0, c0, by rw [h0], h0⟩
  · obtain ⟨⟨b, off, sp⟩, e1, x0, x1, x2, x3⟩ := at_T36 hr0 0 (by omega) (by omega)
    have x0' : w.cell? ⟨b, off, sp⟩ = some (.int .i64 (rd_T36 l0 0).f0) := x0
    have hb := World.block_lt_of_cell? w _ x0'
    obtain rfl : sp = none := by
      cases sp with
      | none => rfl
      | some s => simp only [World.cell?] at x0'; split at x0' <;> simp at x0'
    have ad_ : ∀ n, (⟨b, off, none⟩ : Addr).add n = ⟨b, off + n, none⟩ := fun n => by unfold Addr.add; split <;> simp_all
    refine .inr ⟨b, off, c0, by rw [e1], hb, fun j hj => ?_⟩
    obtain ⟨ad2, e2, y0, y1, y2, y3⟩ := at_T36 hr0 (j : Int) (by omega) (by omega)
    rw [e1] at e2
    cases e2
    rw [Int.toNat_natCast, ad_] at y0 y1 y2 y3
    exact ⟨y0, y1, y2, y3⟩
set_option maxHeartbeats 1000000 in
theorem pend_Look.calls (A0_0 : Option Addr) (c0_0 : Nat) (l0_0 : List (S36)) (A0_1 : Option Addr) (c0_1 : Nat) (l0_1 : List Int) (a1 : Int) (a2 : ByteArray) (r1 : Int) (r2 : ByteArray) (r3 : ByteArray) (r4 : Bool) (r5 : Bool) (w : World) (hr0_0 : Kd.C k36 w A0_0 l0_0.length l0_0) (hc0_0 : l0_0.length ≤ c0_0) (hr0_1 : Kd.C (Kd.int .i64) w A0_1 l0_1.length l0_1) (hc0_1 : l0_1.length ≤ c0_1) (h : pend_Look.f l0_0 l0_1 a1 a2 = some (r1, r2, r3, r4, r5)) :
    Calls Try.prog 98 #[.agg #[.slice A0_0 l0_0.length c0_0, .slice A0_1 l0_1.length c0_1], .int .i64 a1, .string a2] w fun e w' => e = .returned (.tuple #[.agg #[.int .i64 r1, .string r2, .string r3, .bool r4], .bool r5]) ∧ Below w.heap.size w w' := by
  unfold pend_Look.f at h
  split at h
  · rename_i h12
    have h2 := Option.some.inj h
    have hrd : ∀ k, k < l0_0.length → ∀ h3 : k < l0_0.reverse.length, l0_0.reverse[k] = rd_T36 l0_0 ((l0_0.length - 1 - k : Nat) : Int) := fun k hk h3 => by
      rw [List.getElem_reverse]
      simp [rd_T36, List.getD_eq_getElem?_getD, List.getElem?_eq_getElem (show l0_0.length - 1 - k < l0_0.length by omega)]
    refine (callsIn_wide (n := 3)).1 ((HBack.look_in Fence.wide 3 trivial trivial trivial rfl (Nat.le_refl _) A0_0 l0_0.length c0_0 (.slice A0_1 l0_1.length c0_1) a1 a2 _ (by omega) w (pend_Look.row A0_0 c0_0 l0_0 w hr0_0)).mono ?_)
    rintro r w' ⟨hB, ⟨k, hk, hx, hp, rfl⟩ | ⟨hn, rfl⟩⟩
    · have e : pend_Look.last l0_0 a1 a2 = some (rd_T36 l0_0 ((l0_0.length - 1 - k : Nat) : Int)) := by
        unfold pend_Look.last
        rw [List.find?_eq_some_iff_getElem]
        refine ⟨by simpa [HBack.hit] using hx, k, by simpa using hk, hrd k hk (by simpa using hk), fun j hj => ?_⟩
        rw [hrd j (by omega) (by simp; omega)]
        have h3 := hp j hj
        simp only [HBack.hit] at h3
        simp only [h3, Bool.not_false]
      rw [e] at h2
      simp only [pend_Look.out, Prod.mk.injEq] at h2
      obtain ⟨rfl, rfl, rfl, rfl, rfl⟩ := h2
      exact ⟨rfl, hB⟩
    · have e : pend_Look.last l0_0 a1 a2 = none := by
        unfold pend_Look.last
        rw [List.find?_eq_none]
        intro x hx
        obtain ⟨j, hj, rfl⟩ := List.mem_iff_getElem.1 hx
        have hj2 : j < l0_0.length := by simpa using hj
        rw [hrd j hj2 hj]
        simpa [HBack.hit] using hn j hj2
      rw [e] at h2
      simp only [pend_Look.out, Prod.mk.injEq] at h2
      obtain ⟨rfl, rfl, rfl, rfl, rfl⟩ := h2
      exact ⟨rfl, hB⟩
  · cases h


-- NOT PRINTED: function 197 (bytealg_abigen_runtime_cmpstring)

-- NOT PRINTED: function 175 (bytealg_CompareString)

-- NOT PRINTED: function 139 (strings_Compare)

-- NOT PRINTED: function 169 (table_seek_1)

/-! ### api_Chain_string: function 168 (by hand) -/
def api_Chain_string.cmp (a b : ByteArray) : Int := Lib.compareBytes a.data.toList b.data.toList
def api_Chain_string.bs (l : List (S99)) (k : ByteArray) : Nat → Nat → Nat → Nat
  | 0, i, _ => i
  | f + 1, i, j => if i < j then (if api_Chain_string.cmp (rd_T99 l (((i + j) / 2 : Nat) : Int)).f0 k < 0 then api_Chain_string.bs l k f ((i + j) / 2 + 1) j else api_Chain_string.bs l k f i ((i + j) / 2)) else i
def api_Chain_string.f (l0 : List (S99)) (a1 : ByteArray) : Option (Int × Bool) :=
  some ((api_Chain_string.bs l0 a1 l0.length 0 l0.length : Nat), decide (api_Chain_string.bs l0 a1 l0.length 0 l0.length < l0.length) && (api_Chain_string.cmp (rd_T99 l0 ((api_Chain_string.bs l0 a1 l0.length 0 l0.length : Nat) : Int)).f0 a1 == 0))
theorem api_Chain_string.clo (s : ByteArray) (A : Option Addr) (n c : Nat) (k : ByteArray) (W : World) : Calls Try.prog 169 #[.agg #[.string s, .slice A n c], .string k] W fun e W' => e = .returned (.int .i64 (api_Chain_string.cmp s k)) ∧ Below W.heap.size W W' := by
  have hcmp := fun W' => Go.Proofs.Any.strings_Compare Try.strCmp s k W'
  change ∀ W', Calls Try.prog 139 _ _ _ at hcmp
  unfold api_Chain_string.cmp
  generalize Lib.compareBytes s.data.toList k.data.toList = q at hcmp ⊢
  have HB := Aside0.mk (Below.refl W.heap.size W)
  go_enter Try.func169, Try.ntmps169
  go_wp2_with (first | (go_at_call 139; refine (hcmp _).mono ?_; rintro e w' ⟨rfl, rfl⟩) | go_in)
  go_ret
  exact ⟨rfl, by repeat (first | (with_reducible first | exact HB.out | apply bL_ | apply pN_ | apply b1_) | exact HB.out)⟩
set_option maxHeartbeats 4000000 in
set_option maxRecDepth 100000 in
theorem api_Chain_string.calls (A0 : Option Addr) (c0 : Nat) (l0 : List (S99)) (a1 : ByteArray) (r1 : Int) (r2 : Bool) (w : World) (hr0 : Kd.C k99 w A0 l0.length l0) (hc0 : l0.length ≤ c0) (h : api_Chain_string.f l0 a1 = some (r1, r2)) :
    Calls Try.prog 168 #[.slice A0 l0.length c0, .string a1, .func (Fn.func 169) #[] #[]] w fun e w' => e = .returned (.tuple #[.int .i64 r1, .bool r2]) ∧ Below w.heap.size w w' := by
  have hlen := hr0.2.1
  have eg : ∀ args w, (callFunc 169 args).run Try.prog w = .ok (.enter 169 args) w := enters_of Try.func169 (by kernel_rfl) rfl
  have HR0 := Aside0.mk hr0
  have HC0 := Aside0.mk hc0
  have HL := Aside0.mk hlen
  have HH := Aside0.mk h
  clear hr0 hc0 h hlen
  have HP := Aside0.mk (api_Chain_string.clo)
  have HB := Aside0.mk (Below.refl w.heap.size w)
  go_enter Try.func168, Try.ntmps168
  go_wp2
  go_loopg [9, 10] l0.length (fun kq v9 v10 w' => ∃ (i j : Nat), v9 = .int .i64 i ∧ v10 = .int .i64 j ∧ Aside0 (i ≤ j ∧ j ≤ l0.length) ∧ Aside0 (j - i ≤ kq) ∧ Aside0 (api_Chain_string.bs l0 a1 kq i j = api_Chain_string.bs l0 a1 l0.length 0 l0.length) ∧ Aside0 (Below w.heap.size w w'))
  case atStart => exact ⟨0, l0.length, rfl, rfl, ⟨by omega, by omega⟩, ⟨by omega⟩, ⟨rfl⟩, HB⟩
  case round =>
    clear HB
    obtain ⟨i, j, rfl, rfl, HI, HK, HS, HB⟩ := hrel
    by_cases hij : i < j
    · cases gk with
      | zero => exact absurd HK.out (by omega)
      | succ k1 =>
        have hi2 := HI.out
        have hl2 := HL.out
        have hm : wrap64 (IntKind.u64.wrap (wrap64 ((i : Int) + (j : Int))) / 2) = (((i + j) / 2 : Nat) : Int) := by
          have e : IntKind.u64.wrap (wrap64 ((i : Int) + (j : Int))) = (i : Int) + (j : Int) := by
            simp only [IntKind.wrap, IntKind.signed, IntKind.bits]
            unfold wrap64
            simp
            omega
          rw [e]
          unfold wrap64
          omega
        obtain ⟨m, hmd⟩ : ∃ m, m = (i + j) / 2 := ⟨_, rfl⟩
        rw [← hmd] at hm
        have p200 : (0:Int) ≤ (m : Int) := by omega
        have q200 : (m:Int) < (l0.length : Int) := by omega
        obtain ⟨ad, A1, c1, e1, hx0, hx1, hl1, hi1⟩ := at_T99 HR0.out (m:Int) p200 q200
        cases e1
        replace hx0 := (HB.out.cell (World.block_lt_of_cell? w _ hx0)).trans hx0
        replace hx1 := (HB.out.cell (World.block_lt_of_cell? w _ hx1)).trans hx1
        have hcall := HP.out (rd_T99 l0 (m : Int)).f0 A1 (rd_T99 l0 (m : Int)).f1.length c1 a1 wr
        have HM := Aside0.mk hmd
        have HJ := Aside0.mk hij
        clear hi1 hl1 hi2 hl2 hmd
        simp only [Int.toNat_natCast] at hx0 hx1
        go_wp2_with ((with_reducible refine hcall.mono ?_); rintro e w' ⟨rfl, hb'⟩)
        all_goals go_roundg k1
        case measure => omega
        case measure => omega
        all_goals rename_i hcm
        all_goals have hi2 := HI.out
        all_goals have hl2 := HL.out
        all_goals have hm2 := HM.out
        all_goals have hj2 := HJ.out
        all_goals have hk2 := HK.out
        all_goals have hs2 := HS.out
        · refine ⟨m + 1, j, ?_, rfl, ⟨by omega, by omega⟩, ⟨by omega⟩, ⟨?_⟩, ⟨HB.out.trans (hb'.mono HB.out.size)⟩⟩
          · congr 1
            unfold wrap64
            omega
          · rw [← hs2]
            show _ = api_Chain_string.bs l0 a1 (k1 + 1) i j
            rw [api_Chain_string.bs, if_pos hij, ← hm2, if_pos hcm]
        · refine ⟨i, m, rfl, rfl, ⟨by omega, by omega⟩, ⟨by omega⟩, ⟨?_⟩, ⟨HB.out.trans (hb'.mono HB.out.size)⟩⟩
          rw [← hs2]
          show _ = api_Chain_string.bs l0 a1 (k1 + 1) i j
          rw [api_Chain_string.bs, if_pos hij, ← hm2, if_neg (by omega)]
    · have hi2 := HI.out
      obtain rfl : i = j := by omega
      have hbs : api_Chain_string.bs l0 a1 gk i i = i := by cases gk <;> simp [api_Chain_string.bs]
      have hf := HH.out
      unfold api_Chain_string.f at hf
      rw [← HS.out, hbs] at hf
      simp only [Option.some.injEq, Prod.mk.injEq] at hf
      obtain ⟨rfl, rfl⟩ := hf
      clear hbs
      by_cases hi : i < l0.length
      · have p200 : (0:Int) ≤ (i : Int) := by omega
        have q200 : (i:Int) < (l0.length : Int) := by omega
        obtain ⟨ad, A1, c1, e1, hx0, hx1, hl1, hi1⟩ := at_T99 HR0.out (i:Int) p200 q200
        cases e1
        replace hx0 := (HB.out.cell (World.block_lt_of_cell? w _ hx0)).trans hx0
        replace hx1 := (HB.out.cell (World.block_lt_of_cell? w _ hx1)).trans hx1
        have hcall := HP.out (rd_T99 l0 (i : Int)).f0 A1 (rd_T99 l0 (i : Int)).f1.length c1 a1 wr
        clear hi1 hl1 hi2
        simp only [Int.toNat_natCast] at hx0 hx1
        go_wp2_with ((with_reducible refine hcall.mono ?_); rintro e w' ⟨rfl, hb'⟩)
        go_ret2
        exact ⟨by simp [hi], HB.out.trans (hb'.mono HB.out.size)⟩
      · go_wp2
        go_ret2
        exact ⟨by simp [hi], HB.out⟩


/-! ### table_seek: function 126 -/
def table_seek.f (l0_0 : List (S99)) (a1 : ByteArray) : Option (Int × Bool) := (api_Chain_string.f l0_0 a1).bind fun bt155 => (some (bt155.1, bt155.2))
set_option maxHeartbeats 8000000 in
set_option maxRecDepth 100000 in
theorem table_seek.calls (A0_0 : Option Addr) (c0_0 : Nat) (l0_0 : List (S99)) (a1 : ByteArray) (r1 : Int) (r2 : Bool) (w : World) (hr0_0 : Kd.C k99 w A0_0 l0_0.length l0_0) (hc0_0 : l0_0.length ≤ c0_0) (h : table_seek.f l0_0 a1 = some (r1, r2)) :
  Calls Try.prog 126 #[.agg #[.slice A0_0 l0_0.length c0_0], .string a1] w fun e w' => e = .returned (.tuple #[.int .i64 r1, .bool r2]) ∧ Below w.heap.size w w' := by
 have hu47 := Try.underlying47
 have HR0_0 := mk0 hr0_0
 have HC0_0 := mk0 hc0_0
 clear hr0_0 hc0_0
 have HB := mk0 (Below.refl w.heap.size w)
 have H : ((api_Chain_string.f l0_0 a1).bind fun bt155 => (some (bt155.1, bt155.2))) = some (r1, r2) := h
 clear h
 replace H := Option.bind_eq_some_iff.mp H
 obtain ⟨⟨t155, t156⟩, A30, H⟩ := H
 try dsimp only at H
 have A3 := mk0 A30
 clear A30
 simp only [Option.some.injEq, Prod.mk.injEq] at H
 obtain ⟨rfl, rfl⟩ := H
 go_enter Try.func126, Try.ntmps126
 go_wp2_with (first | ((with_reducible refine gate_dst (N := 2) rfl ?_); refine bx_ (N := 2) (cs := #[.slice A0_0 l0_0.length c0_0]) (t := 47) (h := ?_); intro gb154 hg w4 hbox hb; have n2_ := mk0 (gz_ HB hg); have n3_ := mk0 (gz_ HB hg); replace HB := mk0 (bt_ (b_ HB) hb); have BK154 := mk0 (hbox); have GW154 := n2_; have GE154 := n3_; clear n2_ n3_ hb hbox hg; obtain ⟨hcz5_0, hfz5_0⟩ := c1_ BK154) | ((with_reducible refine gate_callee (f := 168) rfl ?_); refine gL_ (some 9) Try.func168 #[.slice A0_0 l0_0.length c0_0, .string a1, .func (Fn.func 169) #[] #[]] (h := ?_); (with_reducible refine (api_Chain_string.calls _ _ l0_0 a1  t155 t156 _ ?side1 ?side2 A3.out).mono ?_); (case side1 => exact cb_ HR0_0 HB); (case side2 => exact HC0_0.out); rintro e w6 ⟨rfl, hb⟩; refine ⟨_, rfl, ?_⟩; replace BK154 := mk0 (u_ BK154 hb); replace HB := mk0 (bt_ (b_ HB) hb); (try clear hb)))
 go_ret2
 exact ⟨by first | rfl | (simp [errW_none, errW_some] <;> rfl) | (simp [*, errW_none, errW_some] <;> rfl), b_ HB⟩

-- NOT PRINTED: function 199 (api_Version)

/-! ### chain_place: function 178 (by hand) -/
def idxRes_v {α : Type} (pred : α → Bool) (l : List α) : Int := if l.findIdx pred < l.length then (l.findIdx pred : Int) else -1
set_option maxHeartbeats 800000 in
set_option maxRecDepth 100000 in
theorem idx_v.calls_ (pred : S72 → Bool) (F : Nat) (cap : Value) (A0 : Option Addr) (c0 : Nat) (l0 : List S72) (w : World) (hr0 : Kd.C k72 w A0 l0.length l0) (hc0 : l0.length ≤ c0)
    (eg : ∀ args w, (callFunc F args).run Try.prog w = .ok (.enter F args) w)
    (HP : ∀ (x : S72) (W : World), Below w.heap.size w W → Calls Try.prog F #[.agg #[.int .i64 x.f0, .string x.f1, .bool x.f2], cap] W fun e W' => e = .returned (.bool (pred x)) ∧ Below w.heap.size w W') :
    Calls Try.prog 199 #[.slice A0 l0.length c0, .func (Fn.func F) #[] #[cap]] w fun e w' => e = .returned (.int .i64 (idxRes_v pred l0)) ∧ Below w.heap.size w w' := by
  have HR0 := Aside0.mk hr0
  have HC0 := Aside0.mk hc0
  have hlen := hr0.2.1
  clear hr0 hc0
  have HPA := Aside0.mk HP
  clear HP
  have HB := Aside0.mk (Below.refl w.heap.size w)
  go_enter Try.func199, Try.ntmps199
  go_wp2
  go_loopg [5, 8] l0.length (fun kq _ v8 w' => ∃ (i : Nat), v8 = .int .i64 i ∧ Aside0 (kq + i = l0.length) ∧ Aside0 (∀ j (h2 : j < l0.length) (h : j < i), pred (l0[j]) = false) ∧ Aside0 (Below w.heap.size w w'))
  case atStart => exact ⟨0, rfl, ⟨by omega⟩, ⟨fun j _ h => by omega⟩, HB⟩
  case round =>
    clear HB
    obtain ⟨i, rfl, HK, HN, HB⟩ := hrel
    by_cases hi : i < l0.length
    · have p200 : (0:Int) ≤ (i : Int) := by omega
      have q200 : (i:Int) < (l0.length : Int) := by omega
      obtain ⟨ad200, e200, hx200_0, hx200_1, hx200_2⟩ := at_T72 HR0.out (i:Int) p200 q200
      cases e200
      replace hx200_0 := (HB.out.cell (World.block_lt_of_cell? w _ hx200_0)).trans hx200_0
      replace hx200_1 := (HB.out.cell (World.block_lt_of_cell? w _ hx200_1)).trans hx200_1
      replace hx200_2 := (HB.out.cell (World.block_lt_of_cell? w _ hx200_2)).trans hx200_2
      simp only [Int.toNat_natCast] at hx200_0 hx200_1 hx200_2
      have hcall := HPA.out (rd_T72 l0 i) wr HB.out
      have hrd : rd_T72 l0 i = l0[i] := by simp [rd_T72, hi]
      have HRD := Aside0.mk hrd
      clear hrd
      cases hq : pred (rd_T72 l0 i) with
      | true =>
        rw [hq] at hcall
        have HQ := Aside0.mk hq
        clear hq
        go_wp2_with ((with_reducible refine hcall.mono ?_); rintro e w' ⟨rfl, hb'⟩)
        go_ret
        have e1 : l0.findIdx pred = i := (List.findIdx_eq hi).2 ⟨by rw [← HRD.out]; exact HQ.out, fun j hj => HN.out j (by omega) hj⟩
        exact ⟨by unfold idxRes_v; rw [e1, if_pos hi]; rfl, hb'⟩
      | false =>
        rw [hq] at hcall
        have HQ := Aside0.mk hq
        clear hq
        go_wp2_with ((with_reducible refine hcall.mono ?_); rintro e w' ⟨rfl, hb'⟩)
        go_roundg (gk - 1)
        case measure => have := HK.out; omega
        case rel =>
          refine ⟨i + 1, by go_num, ⟨by have := HK.out; omega⟩, ⟨fun j h2 h => ?_⟩, ⟨hb'⟩⟩
          rcases Nat.lt_or_ge j i with hj | hj
          · exact HN.out j h2 hj
          · obtain rfl : j = i := by omega
            rw [← HRD.out]; exact HQ.out
    · have hltz : ¬ (i : Int) < (l0.length : Int) := by omega
      go_wp2
      go_ret
      have hil : i = l0.length := by have := HK.out; omega
      have e1 : l0.findIdx pred = l0.length := List.findIdx_eq_length.2 (fun x hx => by
        obtain ⟨j, hj, rfl⟩ := List.mem_iff_getElem.1 hx
        exact HN.out j hj (by omega))
      exact ⟨by unfold idxRes_v; rw [e1, if_neg (Nat.lt_irrefl _)]; rfl, HB.out⟩
set_option maxHeartbeats 400000 in
theorem chain_place.clo (n : Int) (B : Nat) (w : World) (hB : B < w.heap.size) (hcell : w.cell? ⟨B, 0, none⟩ = some (.int .i64 n)) (x : S72) (W : World) (hb : Below w.heap.size w W) :
    Calls Try.prog 200 #[.agg #[.int .i64 x.f0, .string x.f1, .bool x.f2], .pointer (some ⟨B, 0, none⟩)] W fun e W' => e = .returned (.bool (decide (x.f0 ≤ n))) ∧ Below w.heap.size w W' := by
  have hc : W.cell? ⟨B, 0, none⟩ = some (.int .i64 n) := (hb.cell (p := ⟨B, 0, none⟩) hB).trans hcell
  have hBW : B < W.heap.size := Nat.lt_of_lt_of_le hB hb.size
  have hne : B ≠ W.heap.size := by omega
  go_enter Try.func200, Try.ntmps200
  go_wp2
  all_goals (go_ret; exact ⟨by simp_all, hb.alloc hb.size _⟩)

def chain_place.f (a0_0 : ByteArray) (l0_1 : List S72) (a1 : Int) : Option Int := some (l0_1.findIdx (fun v => decide (v.f0 ≤ a1)) : Int)
set_option maxHeartbeats 800000 in
set_option maxRecDepth 100000 in
theorem chain_place.calls (a0_0 : ByteArray) (A0_1 : Option Addr) (c0_1 : Nat) (l0_1 : List S72) (a1 : Int) (r : Int) (w : World) (hr0_1 : Kd.C k72 w A0_1 l0_1.length l0_1) (hc0_1 : l0_1.length ≤ c0_1) (h : chain_place.f a0_0 l0_1 a1 = some r) :
    Calls Try.prog 178 #[.agg #[.string a0_0, .slice A0_1 l0_1.length c0_1], .int .i64 a1] w fun e w' => e = .returned (.int .i64 r) ∧ Below w.heap.size w w' := by
  have hu31 := Try.underlying99
  have eg : ∀ args w, (callFunc 200 args).run Try.prog w = .ok (.enter 200 args) w := enters_of Try.func200 (by kernel_rfl) rfl
  have hmf : ∀ (fn : Fn) (first cap : Array Value) (w : World), (Instr.makeFunc fn first cap).run Try.prog w = .ok (.func fn first cap) w := fun _ _ _ _ => rfl
  have hw2 : Below w.heap.size w ((w.alloc (.cells #[.string a0_0, .slice A0_1 l0_1.length c0_1] 99)).alloc (.cells #[.int .i64 a1] 3)) := below_alloc (below_alloc (Below.refl _ _) _) _
  have hcon := idx_v.calls_ (fun v => decide (v.f0 ≤ a1)) 200 (.pointer (some ⟨w.heap.size + 1, 0, none⟩)) A0_1 c0_1 l0_1 ((w.alloc (.cells #[.string a0_0, .slice A0_1 l0_1.length c0_1] 99)).alloc (.cells #[.int .i64 a1] 3))
    (Kd.C_below hr0_1 hw2) hc0_1 eg (chain_place.clo a1 (w.heap.size + 1) _ (by simp) (by rw [World.cell?_alloc_at _ _ _ _ (by simp)]; rfl))
  have HW2 := Aside0.mk hw2
  have hlen := hr0_1.2.1
  clear hr0_1 hc0_1 hw2 eg
  have hr : ((l0_1.findIdx (fun v => decide (v.f0 ≤ a1)) : Nat) : Int) = r := Option.some.inj h
  clear h
  have hle : l0_1.findIdx (fun v => decide (v.f0 ≤ a1)) ≤ l0_1.length := List.findIdx_le_length
  by_cases hlt : l0_1.findIdx (fun v => decide (v.f0 ≤ a1)) < l0_1.length
  · have e1 : idxRes_v (fun v : S72 => decide (v.f0 ≤ a1)) l0_1 = r := by unfold idxRes_v; rw [if_pos hlt]; exact hr
    rw [e1] at hcon
    have h0 : ¬ r < 0 := by omega
    clear hr hlt hle e1
    go_enter Try.func178, Try.ntmps178
    go_wp2_with ((with_reducible refine hcon.mono ?_); rintro e w' ⟨rfl, hb'⟩)
    go_ret
    exact ⟨rfl, HW2.out.trans (hb'.mono (by simp; omega))⟩
  · have e1 : idxRes_v (fun v : S72 => decide (v.f0 ≤ a1)) l0_1 = -1 := by unfold idxRes_v; rw [if_neg hlt]
    rw [e1] at hcon
    have hr2 := Aside0.mk (show r = l0_1.length by omega)
    clear hr hlt hle e1
    have hcb : ∀ w', Below ((w.alloc (.cells #[.string a0_0, .slice A0_1 l0_1.length c0_1] 99)).alloc (.cells #[.int .i64 a1] 3)).heap.size ((w.alloc (.cells #[.string a0_0, .slice A0_1 l0_1.length c0_1] 99)).alloc (.cells #[.int .i64 a1] 3)) w' → w'.cell? ⟨w.heap.size, 1, none⟩ = some (.slice A0_1 l0_1.length c0_1) := fun w' hb => by
      rw [hb.cell (p := ⟨w.heap.size, 1, none⟩) (by simp; omega), World.cell?_alloc_past _ _ _ (by simp), World.cell?_alloc_at _ _ _ _ rfl]; rfl
    have HCB := Aside0.mk hcb
    clear hcb
    go_enter Try.func178, Try.ntmps178
    go_wp2_with ((with_reducible refine hcon.mono ?_); rintro e w' ⟨rfl, hb'⟩; have hc1 := HCB.out _ hb')
    go_ret
    exact ⟨by rw [hr2.out]; rfl, HW2.out.trans (hb'.mono (by simp; omega))⟩


end Go.Proofs.Ytbaecdcfefmcgaa.PVrs
