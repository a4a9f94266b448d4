-- PRINTED by print.py (a twelfth state) out of the translation. Not trusted: Lean checks it.
import Derived.Test.YtbaecdcfefmcgaaPPndx0
import Derived.Test.YtbaecdcfefmcgaaPPndx2
namespace Go.Proofs.Ytbaecdcfefmcgaa.PPnd
open Go.RowKit Go.Proofs.YtbaecdcfefmcgaaW.PrintWords Go.Proofs.YtbaecdcfefmcgaaW.PrintLast Go.Proofs.YtbaecdcfefmcgaaW.PrintMore
attribute [local go_sem] max2_int min2_int max_two min_two max_three min_three max_four min_four   -- for this text's walks alone
set_option linter.unusedVariables false
set_option linter.unusedSimpArgs false

/-! ### quorumref8_Pend: function 16 -/
mutual
def quorumref8_Pend.j0 : Nat → Bool → List (S36) → List Int → Option (Bool)
 | 0, _, _, _ => none
 | k + 1, x14, x130000, x130001 => if x14 = true then (some false) else (quorumref8_Pend.l0 k 0 x130000 x130001)
def quorumref8_Pend.l0 : Nat → Int → List (S36) → List Int → Option (Bool)
 | 0, _, _, _ => none
 | k + 1, x3, x130000, x130001 => if x3 < (x130000.length : Int) then (if 0 ≤ x3 then ((quorumref8_Write.f ((rd_T36 x130000 x3).f0) ((rd_T36 x130000 x3).f1) ((rd_T36 x130000 x3).f2) ((rd_T36 x130000 x3).f3)).bind fun t131 => (if t131 = true then (quorumref8_Pend.l0 k (wrap64 (x3 + 1)) x130000 x130001) else (some false))) else (none)) else (quorumref8_Pend.l1 k 0 x130000 x130001)
def quorumref8_Pend.l1 : Nat → Int → List (S36) → List Int → Option (Bool)
 | 0, _, _, _ => none
 | k + 1, x4, x130000, x130001 => if x4 < (x130001.length : Int) then (if 0 ≤ x4 then ((quorumref0_Num.f (rd x130001 x4) (x130000.length : Int)).bind fun t133 => (if t133 = true then (if x4 > 0 then (if 0 ≤ (wrap64 (x4 - 1)) then (if (wrap64 (x4 - 1)) < (x130001.length : Int) then (quorumref8_Pend.j3 k x4 (decide ((rd x130001 (wrap64 (x4 - 1))) > (rd x130001 x4))) x130000 x130001) else (none)) else (none)) else (quorumref8_Pend.j3 k x4 false x130000 x130001)) else (quorumref8_Pend.j3 k x4 true x130000 x130001))) else (none)) else (some true)
def quorumref8_Pend.j3 : Nat → Int → Bool → List (S36) → List Int → Option (Bool)
 | 0, _, _, _, _ => none
 | k + 1, x4, x63, x130000, x130001 => if x63 = true then (some false) else (quorumref8_Pend.l1 k (wrap64 (x4 + 1)) x130000 x130001)
end
def quorumref8_Pend.f (k : Nat) (l0_0 : List (S36)) (l0_1 : List Int) : Option (Bool) := if (l0_0.length : Int) > 12 then (quorumref8_Pend.j0 k true l0_0 l0_1) else (quorumref8_Pend.j0 k (decide ((l0_1.length : Int) > 6)) l0_0 l0_1)
theorem quorumref8_Pend.mono_l : ∀ k, (∀ y0 y1 y2, LeO (quorumref8_Pend.j0 k y0 y1 y2) (quorumref8_Pend.j0 (k + 1) y0 y1 y2)) ∧ (∀ y0 y1 y2, LeO (quorumref8_Pend.l0 k y0 y1 y2) (quorumref8_Pend.l0 (k + 1) y0 y1 y2)) ∧ (∀ y0 y1 y2, LeO (quorumref8_Pend.l1 k y0 y1 y2) (quorumref8_Pend.l1 (k + 1) y0 y1 y2)) ∧ (∀ y0 y1 y2 y3, LeO (quorumref8_Pend.j3 k y0 y1 y2 y3) (quorumref8_Pend.j3 (k + 1) y0 y1 y2 y3))
 | 0 => ⟨fun _ _ _ r h => by simp [quorumref8_Pend.j0] at h, fun _ _ _ r h => by simp [quorumref8_Pend.l0] at h, fun _ _ _ r h => by simp [quorumref8_Pend.l1] at h, fun _ _ _ _ r h => by simp [quorumref8_Pend.j3] at h⟩
 | k + 1 => by
  obtain ⟨ih0, ih1, ih2, ih3⟩ := quorumref8_Pend.mono_l k
  refine ⟨?_, ?_, ?_, ?_⟩
  ·intro y0 y1 y2
   unfold quorumref8_Pend.j0
   repeat' first
   | (with_reducible exact ih0 _ _ _)
   | (with_reducible exact ih1 _ _ _)
   | (with_reducible exact ih2 _ _ _)
   | (with_reducible exact ih3 _ _ _ _)
   | (with_reducible exact LeO.refl _)
   | (with_reducible exact LeO.none _)
   | (with_reducible refine LeO.ite ?_ ?_)
   | (with_reducible refine LeO.bind ?_ (fun _ => ?_))
   | exact ih0 _ _ _
   | exact ih1 _ _ _
   | exact ih2 _ _ _
   | exact ih3 _ _ _ _
   | exact LeO.none _
   | refine LeO.ite ?_ ?_
   | refine LeO.bind ?_ (fun _ => ?_)
  ·intro y0 y1 y2
   unfold quorumref8_Pend.l0
   repeat' first
   | (with_reducible exact ih0 _ _ _)
   | (with_reducible exact ih1 _ _ _)
   | (with_reducible exact ih2 _ _ _)
   | (with_reducible exact ih3 _ _ _ _)
   | (with_reducible exact LeO.refl _)
   | (with_reducible exact LeO.none _)
   | (with_reducible refine LeO.ite ?_ ?_)
   | (with_reducible refine LeO.bind ?_ (fun _ => ?_))
   | exact ih0 _ _ _
   | exact ih1 _ _ _
   | exact ih2 _ _ _
   | exact ih3 _ _ _ _
   | exact LeO.none _
   | refine LeO.ite ?_ ?_
   | refine LeO.bind ?_ (fun _ => ?_)
  ·intro y0 y1 y2
   unfold quorumref8_Pend.l1
   repeat' first
   | (with_reducible exact ih0 _ _ _)
   | (with_reducible exact ih1 _ _ _)
   | (with_reducible exact ih2 _ _ _)
   | (with_reducible exact ih3 _ _ _ _)
   | (with_reducible exact LeO.refl _)
   | (with_reducible exact LeO.none _)
   | (with_reducible refine LeO.ite ?_ ?_)
   | (with_reducible refine LeO.bind ?_ (fun _ => ?_))
   | exact ih0 _ _ _
   | exact ih1 _ _ _
   | exact ih2 _ _ _
   | exact ih3 _ _ _ _
   | exact LeO.none _
   | refine LeO.ite ?_ ?_
   | refine LeO.bind ?_ (fun _ => ?_)
  ·intro y0 y1 y2 y3
   unfold quorumref8_Pend.j3
   repeat' first
   | (with_reducible exact ih0 _ _ _)
   | (with_reducible exact ih1 _ _ _)
   | (with_reducible exact ih2 _ _ _)
   | (with_reducible exact ih3 _ _ _ _)
   | (with_reducible exact LeO.refl _)
   | (with_reducible exact LeO.none _)
   | (with_reducible refine LeO.ite ?_ ?_)
   | (with_reducible refine LeO.bind ?_ (fun _ => ?_))
   | exact ih0 _ _ _
   | exact ih1 _ _ _
   | exact ih2 _ _ _
   | exact ih3 _ _ _ _
   | exact LeO.none _
   | refine LeO.ite ?_ ?_
   | refine LeO.bind ?_ (fun _ => ?_)
theorem quorumref8_Pend.mono : ∀ a0 a1 k, LeO (quorumref8_Pend.f k a0 a1) (quorumref8_Pend.f (k + 1) a0 a1) := by
 intro a0 a1 k
 obtain ⟨ih0, ih1, ih2, ih3⟩ := quorumref8_Pend.mono_l k
 unfold quorumref8_Pend.f
 repeat' first
   | (with_reducible exact ih0 _ _ _)
   | (with_reducible exact ih1 _ _ _)
   | (with_reducible exact ih2 _ _ _)
   | (with_reducible exact ih3 _ _ _ _)
   | (with_reducible exact LeO.refl _)
   | (with_reducible exact LeO.none _)
   | (with_reducible refine LeO.ite ?_ ?_)
   | (with_reducible refine LeO.bind ?_ (fun _ => ?_))
   | exact ih0 _ _ _
   | exact ih1 _ _ _
   | exact ih2 _ _ _
   | exact ih3 _ _ _ _
   | exact LeO.none _
   | refine LeO.ite ?_ ?_
   | refine LeO.bind ?_ (fun _ => ?_)
set_option maxHeartbeats 8000000 in
set_option maxRecDepth 100000 in
theorem quorumref8_Pend.calls (k : Nat) (A0_0 : Option Addr) (c0_0 : Nat) (l0_0 : List (S36)) (A0_1 : Option Addr) (c0_1 : Nat) (l0_1 : List Int) (r : Bool) (w : World) (hr0_0 : Kd.C k36 w A0_0 l0_0.length l0_0) (hc0_0 : l0_0.length ≤ c0_0) (hr0_1 : Kd.C (Kd.int .i64) w A0_1 l0_1.length l0_1) (hc0_1 : l0_1.length ≤ c0_1) (h : quorumref8_Pend.f k l0_0 l0_1 = some r) :
  Calls Try.prog 16 #[.agg #[.slice A0_0 l0_0.length c0_0, .slice A0_1 l0_1.length c0_1]] w fun e w' => e = .returned (.bool r) ∧ Below w.heap.size w w' := by
 have hu34 := Try.underlying34
 have hu36 := Try.underlying36
 have HR0_0 := mk0 hr0_0
 have HC0_0 := mk0 hc0_0
 clear hr0_0 hc0_0
 have HR0_1 := mk0 hr0_1
 have HC0_1 := mk0 hc0_1
 clear hr0_1 hc0_1
 have HB := mk0 (Below.refl w.heap.size w)
 have H : (if (l0_0.length : Int) > 12 then (quorumref8_Pend.j0 k true l0_0 l0_1) else (quorumref8_Pend.j0 k (decide ((l0_1.length : Int) > 6)) l0_0 l0_1)) = some r := h
 clear h
 have HC2 := mk0 H
 clear H
 go_enter Try.func16, Try.ntmps16
 go_upto_region 1 with (first | ((with_reducible refine gate_dst (N := 1) rfl ?_); (try (refine gate_guard (by rfl) ?_; dsimp only)); refine bx_ (N := 1) (cs := #[.slice A0_0 l0_0.length c0_0, .slice A0_1 l0_1.length c0_1]) (t := 34) (h := ?_); intro gb129 hg w3 hbox hb; have n2_ := mk0 (gz_ HB hg); have n3_ := mk0 (gz_ HB hg); replace HB := mk0 (bt_ (b_ HB) hb); have BK129 := mk0 (hbox); have GW129 := n2_; have GE129 := n3_; clear n2_ n3_; clear hb hbox hg))
 repeat (go_quiet (first | ((with_reducible refine gate_dst (N := 1) rfl ?_); (try (refine gate_guard (by rfl) ?_; dsimp only)); refine bx_ (N := 1) (cs := #[.slice A0_0 l0_0.length c0_0, .slice A0_1 l0_1.length c0_1]) (t := 34) (h := ?_); intro gb129 hg w3 hbox hb; have n2_ := mk0 (gz_ HB hg); have n3_ := mk0 (gz_ HB hg); replace HB := mk0 (bt_ (b_ HB) hb); have BK129 := mk0 (hbox); have GW129 := n2_; have GE129 := n3_; clear n2_ n3_; clear hb hbox hg)); go_upto_region 1 with (first | ((with_reducible refine gate_dst (N := 1) rfl ?_); (try (refine gate_guard (by rfl) ?_; dsimp only)); refine bx_ (N := 1) (cs := #[.slice A0_0 l0_0.length c0_0, .slice A0_1 l0_1.length c0_1]) (t := 34) (h := ?_); intro gb129 hg w3 hbox hb; have n2_ := mk0 (gz_ HB hg); have n3_ := mk0 (gz_ HB hg); replace HB := mk0 (bt_ (b_ HB) hb); have BK129 := mk0 (hbox); have GW129 := n2_; have GE129 := n3_; clear n2_ n3_; clear hb hbox hg)))
 (try simp only [Act.put, List.setIfInBounds_toArray, List.set_cons_zero, List.set_cons_succ])
 go_cut [14] (fun v14 wc => ∃ (kq : Nat) (x14_1 : Bool), v14 = .bool x14_1 ∧ Fc (quorumref8_Pend.j0 kq x14_1 l0_0 l0_1 = some r) ∧ Fc (kq ≤ k) ∧ Fc (wc.heap[gb129]? = some (.cells #[(.slice A0_0 l0_0.length c0_0), (.slice A0_1 l0_1.length c0_1)] 34 (0, 0))) ∧ Fc (Below w.heap.size w wc))
 case first =>
  have H := HC2.out
  clear HC2
  by_cases c4 : (l0_0.length : Int) > 12
  ·rw [if_pos c4] at H
   have c4b0 : decide (12 < (l0_0.length : Int)) = true := decide_eq_true c4
   have c4b1 : decide (12 < l0_0.length) = true := decide_eq_true (by omega)
   clear c4
   (first | rw [c4b0] | (simp only [i64_w, i32_w]; rw [c4b0]) | skip)
   have H' := mk0 H
   clear H
   obtain ⟨hcz5_0, hcz5_1, hfz5_0, hfz5_1⟩ := c2_ BK129
   go_wp2
   repeat (go_quiet (fail); try go_wp2)
   go_meet
   case rel => exact ⟨_, (true), (by first | rfl | (simp; done) | (simp [*]; done)), H', ⟨by first | omega | exact Nat.le_refl _⟩, ⟨h_ BK129⟩, ⟨b_ HB⟩⟩
  ·rw [if_neg c4] at H
   have c4b0 : decide (12 < (l0_0.length : Int)) = false := decide_eq_false c4
   have c4b1 : decide (12 < l0_0.length) = false := decide_eq_false (by omega)
   clear c4
   (first | rw [c4b0] | (simp only [i64_w, i32_w]; rw [c4b0]) | skip)
   have H' := mk0 H
   clear H
   obtain ⟨hcz6_0, hcz6_1, hfz6_0, hfz6_1⟩ := c2_ BK129
   go_wp2
   repeat (go_quiet (fail); try go_wp2)
   go_meet
   case rel => exact ⟨_, (decide ((l0_1.length : Int) > 6)), (by first | rfl | (simp; done) | (simp [*]; done)), H', ⟨by first | omega | exact Nat.le_refl _⟩, ⟨h_ BK129⟩, ⟨b_ HB⟩⟩
 case rest =>
  clear HC2
  try clear c4
  try clear c4b0
  try clear c4b1
  try clear hcz5_0
  try clear hcz5_1
  try clear hcz6_0
  try clear hcz6_1
  try clear hfz5_0
  try clear hfz5_1
  try clear hfz6_0
  try clear hfz6_1
  obtain ⟨kq, x14_1, rfl, HA, HJ1, BK129, HB⟩ := hcut
  cases kq with
  | zero => exact absurd HA.out (by simp [quorumref8_Pend.j0])
  | succ kj1 =>
   have H := HA.out
   clear HA
   simp only [quorumref8_Pend.j0] at H
   as_aux_lemma =>
    by_cases c7 : x14_1 = true
    ·subst c7
     rw [if_pos rfl] at H
     obtain rfl := Option.some.inj H
     go_wp2
     repeat (go_quiet (fail); try go_wp2)
     go_ret
     exact ⟨by first | rfl | (simp [errW_none, errW_some] <;> rfl) | (simp [*, errW_none, errW_some] <;> rfl), b_ HB⟩
    ·replace c7 := Bool.eq_false_iff.mpr c7
     subst c7
     rw [if_neg (show ¬ (false = true) by decide)] at H
     have H' := mk0 H
     clear H
     go_wp2
     repeat (go_quiet (fail); try go_wp2)
     go_loopg [3] kj1 (fun kq v3 w' => ∃ (x3_2 : Int), v3 = .int .i64 x3_2 ∧ Fc (quorumref8_Pend.l0 kq x3_2 l0_0 l0_1 = some r) ∧ Fc (kq ≤ kj1) ∧ Fc (w'.heap[gb129]? = some (.cells #[(.slice A0_0 l0_0.length c0_0), (.slice A0_1 l0_1.length c0_1)] 34 (0, 0))) ∧ Fc (Below w.heap.size w w'))
     case atStart => exact ⟨(0), (by first | rfl | (simp; done) | (simp [*]; done)), H', ⟨Nat.le_refl _⟩, ⟨h_ BK129⟩, ⟨b_ HB⟩⟩
     case round =>
      clear H'
      try clear c4
      try clear c4b0
      try clear c4b1
      try clear c7
      try clear hcz5_0
      try clear hcz5_1
      try clear hcz6_0
      try clear hcz6_1
      try clear hfz5_0
      try clear hfz5_1
      try clear hfz6_0
      try clear hfz6_1
      obtain ⟨x3_2, rfl, HA, HK2, BK129, HB⟩ := hrel
      cases gk with
      | zero => exact absurd HA.out (by simp [quorumref8_Pend.l0])
      | succ k2 =>
       have H := HA.out
       clear HA
       simp only [quorumref8_Pend.l0] at H
       as_aux_lemma =>
        by_cases c8 : x3_2 < (l0_0.length : Int)
        ·rw [if_pos c8] at H
         have c8b0 : decide (x3_2 < (l0_0.length : Int)) = true := decide_eq_true c8
         clear c8
         by_cases c9 : 0 ≤ x3_2
         ·rw [if_pos c9] at H
          have c9b0 : decide (0 ≤ x3_2) = true := decide_eq_true c9
          clear c9
          replace H := Option.bind_eq_some_iff.mp H
          obtain ⟨t131, A100, H⟩ := H
          try dsimp only at H
          have A10 := mk0 A100
          clear A100
          by_cases c11 : t131 = true
          ·subst c11
           rw [if_pos rfl] at H
           have H' := mk0 H
           clear H
           obtain ⟨hcz12_0, hcz12_1, hfz12_0, hfz12_1⟩ := c2_ BK129
           have p130 : 0 ≤ (x3_2 : Int) := of_decide_eq_true (by first | (with_reducible assumption) | assumption)
           have q130 : x3_2 < (l0_0.length : Int) := of_decide_eq_true (by first | (with_reducible assumption) | assumption)
           obtain ⟨ad130, e130, hx130_0, hx130_1, hx130_2, hx130_3⟩ := at_T36 HR0_0.out x3_2 p130 q130
           cases e130
           replace hx130_0 := (bc_ HB hx130_0 :)
           replace hx130_1 := (bc_ HB hx130_1 :)
           replace hx130_2 := (bc_ HB hx130_2 :)
           replace hx130_3 := (bc_ HB hx130_3 :)
           replace p130 := eq_true p130
           replace q130 := eq_true q130
           go_wp2_with (first | (go_at_call 38; (with_reducible refine (quorumref8_Write.calls ((rd_T36 l0_0 x3_2).f0) ((rd_T36 l0_0 x3_2).f1) ((rd_T36 l0_0 x3_2).f2) ((rd_T36 l0_0 x3_2).f3) true _ A10.out).mono ?_); rintro e w13 ⟨rfl, hb⟩; replace BK129 := mk0 (u_ BK129 hb); replace HB := mk0 (bt_ (b_ HB) hb); (try clear hb)))
           repeat (go_quiet (first | (go_at_call 38; (with_reducible refine (quorumref8_Write.calls ((rd_T36 l0_0 x3_2).f0) ((rd_T36 l0_0 x3_2).f1) ((rd_T36 l0_0 x3_2).f2) ((rd_T36 l0_0 x3_2).f3) true _ A10.out).mono ?_); rintro e w13 ⟨rfl, hb⟩; replace BK129 := mk0 (u_ BK129 hb); replace HB := mk0 (bt_ (b_ HB) hb); (try clear hb))); try go_wp2_with (first | (go_at_call 38; (with_reducible refine (quorumref8_Write.calls ((rd_T36 l0_0 x3_2).f0) ((rd_T36 l0_0 x3_2).f1) ((rd_T36 l0_0 x3_2).f2) ((rd_T36 l0_0 x3_2).f3) true _ A10.out).mono ?_); rintro e w13 ⟨rfl, hb⟩; replace BK129 := mk0 (u_ BK129 hb); replace HB := mk0 (bt_ (b_ HB) hb); (try clear hb))))
           go_roundg k2
           case measure => have := HJ1.out; have := HK2.out; omega
           case rel => exact ⟨(wrap64 (x3_2 + 1)), (by first | rfl | (simp; done) | (simp [*]; done)), H', ⟨by have := HJ1.out; have := HK2.out; omega⟩, ⟨h_ BK129⟩, ⟨b_ HB⟩⟩
          ·replace c11 := Bool.eq_false_iff.mpr c11
           subst c11
           rw [if_neg (show ¬ (false = true) by decide)] at H
           obtain rfl := Option.some.inj H
           obtain ⟨hcz14_0, hcz14_1, hfz14_0, hfz14_1⟩ := c2_ BK129
           have p130 : 0 ≤ (x3_2 : Int) := of_decide_eq_true (by first | (with_reducible assumption) | assumption)
           have q130 : x3_2 < (l0_0.length : Int) := of_decide_eq_true (by first | (with_reducible assumption) | assumption)
           obtain ⟨ad130, e130, hx130_0, hx130_1, hx130_2, hx130_3⟩ := at_T36 HR0_0.out x3_2 p130 q130
           cases e130
           replace hx130_0 := (bc_ HB hx130_0 :)
           replace hx130_1 := (bc_ HB hx130_1 :)
           replace hx130_2 := (bc_ HB hx130_2 :)
           replace hx130_3 := (bc_ HB hx130_3 :)
           replace p130 := eq_true p130
           replace q130 := eq_true q130
           go_wp2_with (first | (go_at_call 38; (with_reducible refine (quorumref8_Write.calls ((rd_T36 l0_0 x3_2).f0) ((rd_T36 l0_0 x3_2).f1) ((rd_T36 l0_0 x3_2).f2) ((rd_T36 l0_0 x3_2).f3) false _ A10.out).mono ?_); rintro e w15 ⟨rfl, hb⟩; replace BK129 := mk0 (u_ BK129 hb); replace HB := mk0 (bt_ (b_ HB) hb); (try clear hb)))
           repeat (go_quiet (first | (go_at_call 38; (with_reducible refine (quorumref8_Write.calls ((rd_T36 l0_0 x3_2).f0) ((rd_T36 l0_0 x3_2).f1) ((rd_T36 l0_0 x3_2).f2) ((rd_T36 l0_0 x3_2).f3) false _ A10.out).mono ?_); rintro e w15 ⟨rfl, hb⟩; replace BK129 := mk0 (u_ BK129 hb); replace HB := mk0 (bt_ (b_ HB) hb); (try clear hb))); try go_wp2_with (first | (go_at_call 38; (with_reducible refine (quorumref8_Write.calls ((rd_T36 l0_0 x3_2).f0) ((rd_T36 l0_0 x3_2).f1) ((rd_T36 l0_0 x3_2).f2) ((rd_T36 l0_0 x3_2).f3) false _ A10.out).mono ?_); rintro e w15 ⟨rfl, hb⟩; replace BK129 := mk0 (u_ BK129 hb); replace HB := mk0 (bt_ (b_ HB) hb); (try clear hb))))
           go_ret
           exact ⟨by first | rfl | (simp [errW_none, errW_some] <;> rfl) | (simp [*, errW_none, errW_some] <;> rfl), b_ HB⟩
         ·rw [if_neg c9] at H
          exact absurd H (by simp)
        ·rw [if_neg c8] at H
         have c8b0 : decide (x3_2 < (l0_0.length : Int)) = false := decide_eq_false c8
         clear c8
         have H' := mk0 H
         clear H
         obtain ⟨hcz16_0, hcz16_1, hfz16_0, hfz16_1⟩ := c2_ BK129
         go_wp2
         repeat (go_quiet (fail); try go_wp2)
         go_loopg [4] k2 (fun kq v4 w' => ∃ (x4_3 : Int), v4 = .int .i64 x4_3 ∧ Fc (quorumref8_Pend.l1 kq x4_3 l0_0 l0_1 = some r) ∧ Fc (kq ≤ k2) ∧ Fc (w'.heap[gb129]? = some (.cells #[(.slice A0_0 l0_0.length c0_0), (.slice A0_1 l0_1.length c0_1)] 34 (0, 0))) ∧ Fc (Below w.heap.size w w'))
         case atStart => exact ⟨(0), (by first | rfl | (simp; done) | (simp [*]; done)), H', ⟨Nat.le_refl _⟩, ⟨h_ BK129⟩, ⟨b_ HB⟩⟩
         case round =>
          clear H'
          try clear c4
          try clear c4b0
          try clear c4b1
          try clear c7
          try clear c8
          try clear c8b0
          try clear c9
          try clear c9b0
          try clear c11
          try clear hcz12_0
          try clear hcz12_1
          try clear hcz14_0
          try clear hcz14_1
          try clear hcz16_0
          try clear hcz16_1
          try clear hcz5_0
          try clear hcz5_1
          try clear hcz6_0
          try clear hcz6_1
          try clear hfz12_0
          try clear hfz12_1
          try clear hfz14_0
          try clear hfz14_1
          try clear hfz16_0
          try clear hfz16_1
          try clear hfz5_0
          try clear hfz5_1
          try clear hfz6_0
          try clear hfz6_1
          try clear hx130_0
          try clear hx130_1
          try clear hx130_2
          try clear hx130_3
          try clear p130
          try clear q130
          obtain ⟨x4_3, rfl, HA, HK3, BK129, HB⟩ := hrel
          cases gk with
          | zero => exact absurd HA.out (by simp [quorumref8_Pend.l1])
          | succ k3 =>
           have H := HA.out
           clear HA
           simp only [quorumref8_Pend.l1] at H
           as_aux_lemma =>
            by_cases c17 : x4_3 < (l0_1.length : Int)
            ·rw [if_pos c17] at H
             have c17b0 : decide (x4_3 < (l0_1.length : Int)) = true := decide_eq_true c17
             clear c17
             have HC18 := mk0 H
             clear H
             obtain ⟨hcz19_0, hcz19_1, hfz19_0, hfz19_1⟩ := c2_ BK129
             go_upto_region 11 with (fail)
             repeat (go_quiet (fail); go_upto_region 11 with (fail))
             go_cut [63] (fun v63 wc => ∃ (kq : Nat) (x63_17 : Bool), v63 = .bool x63_17 ∧ Fc (quorumref8_Pend.j3 kq x4_3 x63_17 l0_0 l0_1 = some r) ∧ Fc (kq ≤ k3) ∧ Fc (wc.heap[gb129]? = some (.cells #[(.slice A0_0 l0_0.length c0_0), (.slice A0_1 l0_1.length c0_1)] 34 (0, 0))) ∧ Fc (Below w.heap.size w wc))
             case first =>
              have H := HC18.out
              clear HC18
              by_cases c20 : 0 ≤ x4_3
              ·rw [if_pos c20] at H
               have c20b0 : decide (0 ≤ x4_3) = true := decide_eq_true c20
               clear c20
               (first | rw [c20b0] | (simp only [i64_w, i32_w]; rw [c20b0]) | skip)
               replace H := Option.bind_eq_some_iff.mp H
               obtain ⟨t133, A210, H⟩ := H
               try dsimp only at H
               have A21 := mk0 A210
               clear A210
               by_cases c22 : t133 = true
               ·subst c22
                rw [if_pos rfl] at H
                by_cases c23 : x4_3 > 0
                ·rw [if_pos c23] at H
                 have c23b0 : decide (0 < x4_3) = true := decide_eq_true c23
                 clear c23
                 obtain ⟨ji24, hji24⟩ : ∃ j_ : Int, (wrap64 (x4_3 - 1)) = j_ := ⟨_, rfl⟩
                 replace H : (if 0 ≤ (ji24) then (if (ji24) < (l0_1.length : Int) then (quorumref8_Pend.j3 k3 x4_3 (decide ((rd l0_1 (ji24)) > (rd l0_1 x4_3))) l0_0 l0_1) else (none)) else (none)) = some r := by first | (rw [hji24] at H; exact H) | (simp only [hji24] at H ⊢; exact H)
                 (try rw [hji24] at A21)
                 have hji24w : (IntKind.i64.wrap (x4_3 - 1)) = ji24 := (i64_w _).trans hji24
                 by_cases c25 : 0 ≤ (ji24)
                 ·rw [if_pos c25] at H
                  have c25b0 : decide (0 ≤ (ji24)) = true := decide_eq_true c25
                  clear c25
                  by_cases c26 : (ji24) < (l0_1.length : Int)
                  ·rw [if_pos c26] at H
                   have c26b0 : decide ((ji24) < (l0_1.length : Int)) = true := decide_eq_true c26
                   clear c26
                   have H' := mk0 H
                   clear H
                   obtain ⟨hcz27_0, hcz27_1, hfz27_0, hfz27_1⟩ := c2_ BK129
                   have p132 : 0 ≤ (x4_3 : Int) := of_decide_eq_true (by first | (with_reducible assumption) | assumption)
                   have q132 : x4_3 < (l0_1.length : Int) := of_decide_eq_true (by first | (with_reducible assumption) | assumption)
                   obtain ⟨ad132, e132, hx132_0⟩ := Kd.at_int HR0_1.out x4_3 p132 q132
                   cases e132
                   replace hx132_0 := (bc_ HB hx132_0 :)
                   replace p132 := eq_true p132
                   replace q132 := eq_true q132
                   go_wp2_with (first | (go_at_call 39; (with_reducible refine (quorumref0_Num.calls (rd l0_1 x4_3) (l0_0.length : Int) true _ A21.out).mono ?_); rintro e w' ⟨rfl, ⟨nd, rfl⟩⟩; (try first | exact ⟨rfl, _, World.drewN_drewN _ _ _⟩ | exact ⟨rfl, _, Eq.trans (World.drewN_drewN _ _ _) (congrArg (World.drewN _) (Nat.add_assoc _ _ _))⟩); have p134 : 0 ≤ ((ji24) : Int) := of_decide_eq_true (by first | (with_reducible assumption) | assumption); have q134 : (ji24) < (l0_1.length : Int) := of_decide_eq_true (by first | (with_reducible assumption) | assumption); obtain ⟨ad134, e134, hx134_0⟩ := Kd.at_int HR0_1.out (ji24) p134 q134; obtain rfl : ad132 = ad134 := (by injection e134); replace hx134_0 := (bc_ HB hx134_0 :); replace p134 := eq_true p134; replace q134 := eq_true q134; have p135 : 0 ≤ (x4_3 : Int) := of_decide_eq_true (by first | (with_reducible assumption) | assumption); have q135 : x4_3 < (l0_1.length : Int) := of_decide_eq_true (by first | (with_reducible assumption) | assumption); obtain ⟨ad135, e135, hx135_0⟩ := Kd.at_int HR0_1.out x4_3 p135 q135; obtain rfl : ad132 = ad135 := (by injection e135); replace hx135_0 := (bc_ HB hx135_0 :); replace p135 := eq_true p135; replace q135 := eq_true q135))
                   repeat (go_quiet (first | (go_at_call 39; (with_reducible refine (quorumref0_Num.calls (rd l0_1 x4_3) (l0_0.length : Int) true _ A21.out).mono ?_); rintro e w' ⟨rfl, ⟨nd, rfl⟩⟩; (try first | exact ⟨rfl, _, World.drewN_drewN _ _ _⟩ | exact ⟨rfl, _, Eq.trans (World.drewN_drewN _ _ _) (congrArg (World.drewN _) (Nat.add_assoc _ _ _))⟩); have p134 : 0 ≤ ((ji24) : Int) := of_decide_eq_true (by first | (with_reducible assumption) | assumption); have q134 : (ji24) < (l0_1.length : Int) := of_decide_eq_true (by first | (with_reducible assumption) | assumption); obtain ⟨ad134, e134, hx134_0⟩ := Kd.at_int HR0_1.out (ji24) p134 q134; obtain rfl : ad132 = ad134 := (by injection e134); replace hx134_0 := (bc_ HB hx134_0 :); replace p134 := eq_true p134; replace q134 := eq_true q134; have p135 : 0 ≤ (x4_3 : Int) := of_decide_eq_true (by first | (with_reducible assumption) | assumption); have q135 : x4_3 < (l0_1.length : Int) := of_decide_eq_true (by first | (with_reducible assumption) | assumption); obtain ⟨ad135, e135, hx135_0⟩ := Kd.at_int HR0_1.out x4_3 p135 q135; obtain rfl : ad132 = ad135 := (by injection e135); replace hx135_0 := (bc_ HB hx135_0 :); replace p135 := eq_true p135; replace q135 := eq_true q135)); try go_wp2_with (first | (go_at_call 39; (with_reducible refine (quorumref0_Num.calls (rd l0_1 x4_3) (l0_0.length : Int) true _ A21.out).mono ?_); rintro e w' ⟨rfl, ⟨nd, rfl⟩⟩; (try first | exact ⟨rfl, _, World.drewN_drewN _ _ _⟩ | exact ⟨rfl, _, Eq.trans (World.drewN_drewN _ _ _) (congrArg (World.drewN _) (Nat.add_assoc _ _ _))⟩); have p134 : 0 ≤ ((ji24) : Int) := of_decide_eq_true (by first | (with_reducible assumption) | assumption); have q134 : (ji24) < (l0_1.length : Int) := of_decide_eq_true (by first | (with_reducible assumption) | assumption); obtain ⟨ad134, e134, hx134_0⟩ := Kd.at_int HR0_1.out (ji24) p134 q134; obtain rfl : ad132 = ad134 := (by injection e134); replace hx134_0 := (bc_ HB hx134_0 :); replace p134 := eq_true p134; replace q134 := eq_true q134; have p135 : 0 ≤ (x4_3 : Int) := of_decide_eq_true (by first | (with_reducible assumption) | assumption); have q135 : x4_3 < (l0_1.length : Int) := of_decide_eq_true (by first | (with_reducible assumption) | assumption); obtain ⟨ad135, e135, hx135_0⟩ := Kd.at_int HR0_1.out x4_3 p135 q135; obtain rfl : ad132 = ad135 := (by injection e135); replace hx135_0 := (bc_ HB hx135_0 :); replace p135 := eq_true p135; replace q135 := eq_true q135)))
                   go_meet
                   case rel => exact ⟨_, (decide ((rd l0_1 (ji24)) > (rd l0_1 x4_3))), (by first | rfl | (simp; done) | (simp only [← hji24] <;> (first | rfl | (simp [leq_]; done) | (simp; done))) | (simp [*]; done)), H', ⟨by have := HJ1.out; have := HK2.out; have := HK3.out; first | omega | exact Nat.le_refl _⟩, ⟨h_ BK129⟩, ⟨b_ HB⟩⟩
                  ·rw [if_neg c26] at H
                   exact absurd H (by simp)
                 ·rw [if_neg c25] at H
                  exact absurd H (by simp)
                ·rw [if_neg c23] at H
                 have c23b0 : decide (0 < x4_3) = false := decide_eq_false c23
                 clear c23
                 have H' := mk0 H
                 clear H
                 obtain ⟨hcz28_0, hcz28_1, hfz28_0, hfz28_1⟩ := c2_ BK129
                 have p132 : 0 ≤ (x4_3 : Int) := of_decide_eq_true (by first | (with_reducible assumption) | assumption)
                 have q132 : x4_3 < (l0_1.length : Int) := of_decide_eq_true (by first | (with_reducible assumption) | assumption)
                 obtain ⟨ad132, e132, hx132_0⟩ := Kd.at_int HR0_1.out x4_3 p132 q132
                 cases e132
                 replace hx132_0 := (bc_ HB hx132_0 :)
                 replace p132 := eq_true p132
                 replace q132 := eq_true q132
                 go_wp2_with (first | (go_at_call 39; (with_reducible refine (quorumref0_Num.calls (rd l0_1 x4_3) (l0_0.length : Int) true _ A21.out).mono ?_); rintro e w' ⟨rfl, ⟨nd, rfl⟩⟩; (try first | exact ⟨rfl, _, World.drewN_drewN _ _ _⟩ | exact ⟨rfl, _, Eq.trans (World.drewN_drewN _ _ _) (congrArg (World.drewN _) (Nat.add_assoc _ _ _))⟩)))
                 repeat (go_quiet (first | (go_at_call 39; (with_reducible refine (quorumref0_Num.calls (rd l0_1 x4_3) (l0_0.length : Int) true _ A21.out).mono ?_); rintro e w' ⟨rfl, ⟨nd, rfl⟩⟩; (try first | exact ⟨rfl, _, World.drewN_drewN _ _ _⟩ | exact ⟨rfl, _, Eq.trans (World.drewN_drewN _ _ _) (congrArg (World.drewN _) (Nat.add_assoc _ _ _))⟩))); try go_wp2_with (first | (go_at_call 39; (with_reducible refine (quorumref0_Num.calls (rd l0_1 x4_3) (l0_0.length : Int) true _ A21.out).mono ?_); rintro e w' ⟨rfl, ⟨nd, rfl⟩⟩; (try first | exact ⟨rfl, _, World.drewN_drewN _ _ _⟩ | exact ⟨rfl, _, Eq.trans (World.drewN_drewN _ _ _) (congrArg (World.drewN _) (Nat.add_assoc _ _ _))⟩))))
                 go_meet
                 case rel => exact ⟨_, (false), (by first | rfl | (simp; done) | (simp [*]; done)), H', ⟨by have := HJ1.out; have := HK2.out; have := HK3.out; first | omega | exact Nat.le_refl _⟩, ⟨h_ BK129⟩, ⟨b_ HB⟩⟩
               ·replace c22 := Bool.eq_false_iff.mpr c22
                subst c22
                rw [if_neg (show ¬ (false = true) by decide)] at H
                have H' := mk0 H
                clear H
                obtain ⟨hcz29_0, hcz29_1, hfz29_0, hfz29_1⟩ := c2_ BK129
                have p132 : 0 ≤ (x4_3 : Int) := of_decide_eq_true (by first | (with_reducible assumption) | assumption)
                have q132 : x4_3 < (l0_1.length : Int) := of_decide_eq_true (by first | (with_reducible assumption) | assumption)
                obtain ⟨ad132, e132, hx132_0⟩ := Kd.at_int HR0_1.out x4_3 p132 q132
                cases e132
                replace hx132_0 := (bc_ HB hx132_0 :)
                replace p132 := eq_true p132
                replace q132 := eq_true q132
                go_wp2_with (first | (go_at_call 39; (with_reducible refine (quorumref0_Num.calls (rd l0_1 x4_3) (l0_0.length : Int) false _ A21.out).mono ?_); rintro e w' ⟨rfl, ⟨nd, rfl⟩⟩; (try first | exact ⟨rfl, _, World.drewN_drewN _ _ _⟩ | exact ⟨rfl, _, Eq.trans (World.drewN_drewN _ _ _) (congrArg (World.drewN _) (Nat.add_assoc _ _ _))⟩)))
                repeat (go_quiet (first | (go_at_call 39; (with_reducible refine (quorumref0_Num.calls (rd l0_1 x4_3) (l0_0.length : Int) false _ A21.out).mono ?_); rintro e w' ⟨rfl, ⟨nd, rfl⟩⟩; (try first | exact ⟨rfl, _, World.drewN_drewN _ _ _⟩ | exact ⟨rfl, _, Eq.trans (World.drewN_drewN _ _ _) (congrArg (World.drewN _) (Nat.add_assoc _ _ _))⟩))); try go_wp2_with (first | (go_at_call 39; (with_reducible refine (quorumref0_Num.calls (rd l0_1 x4_3) (l0_0.length : Int) false _ A21.out).mono ?_); rintro e w' ⟨rfl, ⟨nd, rfl⟩⟩; (try first | exact ⟨rfl, _, World.drewN_drewN _ _ _⟩ | exact ⟨rfl, _, Eq.trans (World.drewN_drewN _ _ _) (congrArg (World.drewN _) (Nat.add_assoc _ _ _))⟩))))
                go_meet
                case rel => exact ⟨_, (true), (by first | rfl | (simp; done) | (simp [*]; done)), H', ⟨by have := HJ1.out; have := HK2.out; have := HK3.out; first | omega | exact Nat.le_refl _⟩, ⟨h_ BK129⟩, ⟨b_ HB⟩⟩
              ·rw [if_neg c20] at H
               exact absurd H (by simp)
             case rest =>
              clear HC18
              try clear c4
              try clear c4b0
              try clear c4b1
              try clear c7
              try clear c8
              try clear c8b0
              try clear c9
              try clear c9b0
              try clear c11
              try clear c17
              try clear c17b0
              try clear c20
              try clear c20b0
              try clear c22
              try clear c23
              try clear c23b0
              try clear c25
              try clear c25b0
              try clear c26
              try clear c26b0
              try clear hcz12_0
              try clear hcz12_1
              try clear hcz14_0
              try clear hcz14_1
              try clear hcz16_0
              try clear hcz16_1
              try clear hcz19_0
              try clear hcz19_1
              try clear hcz27_0
              try clear hcz27_1
              try clear hcz28_0
              try clear hcz28_1
              try clear hcz29_0
              try clear hcz29_1
              try clear hcz5_0
              try clear hcz5_1
              try clear hcz6_0
              try clear hcz6_1
              try clear hfz12_0
              try clear hfz12_1
              try clear hfz14_0
              try clear hfz14_1
              try clear hfz16_0
              try clear hfz16_1
              try clear hfz19_0
              try clear hfz19_1
              try clear hfz27_0
              try clear hfz27_1
              try clear hfz28_0
              try clear hfz28_1
              try clear hfz29_0
              try clear hfz29_1
              try clear hfz5_0
              try clear hfz5_1
              try clear hfz6_0
              try clear hfz6_1
              try clear hx130_0
              try clear hx130_1
              try clear hx130_2
              try clear hx130_3
              try clear hx132_0
              try clear hx134_0
              try clear hx135_0
              try clear p130
              try clear p132
              try clear p134
              try clear p135
              try clear q130
              try clear q132
              try clear q134
              try clear q135
              obtain ⟨kq, x63_17, rfl, HA, HJ17, BK129, HB⟩ := hcut
              cases kq with
              | zero => exact absurd HA.out (by simp [quorumref8_Pend.j3])
              | succ kj17 =>
               have H := HA.out
               clear HA
               simp only [quorumref8_Pend.j3] at H
               as_aux_lemma =>
                by_cases c30 : x63_17 = true
                ·subst c30
                 rw [if_pos rfl] at H
                 obtain rfl := Option.some.inj H
                 go_wp2
                 repeat (go_quiet (fail); try go_wp2)
                 go_ret
                 exact ⟨by first | rfl | (simp [errW_none, errW_some] <;> rfl) | (simp [*, errW_none, errW_some] <;> rfl), b_ HB⟩
                ·replace c30 := Bool.eq_false_iff.mpr c30
                 subst c30
                 rw [if_neg (show ¬ (false = true) by decide)] at H
                 have H' := mk0 H
                 clear H
                 go_wp2
                 repeat (go_quiet (fail); try go_wp2)
                 go_roundg kj17
                 case measure => have := HJ1.out; have := HK2.out; have := HK3.out; have := HJ17.out; omega
                 case rel => exact ⟨(wrap64 (x4_3 + 1)), (by first | rfl | (simp; done) | (simp [*]; done)), H', ⟨by have := HJ1.out; have := HK2.out; have := HK3.out; have := HJ17.out; omega⟩, ⟨h_ BK129⟩, ⟨b_ HB⟩⟩
            ·rw [if_neg c17] at H
             have c17b0 : decide (x4_3 < (l0_1.length : Int)) = false := decide_eq_false c17
             clear c17
             obtain rfl := Option.some.inj H
             obtain ⟨hcz31_0, hcz31_1, hfz31_0, hfz31_1⟩ := c2_ BK129
             go_wp2
             repeat (go_quiet (fail); try go_wp2)
             go_ret
             exact ⟨by first | rfl | (simp [errW_none, errW_some] <;> rfl) | (simp [*, errW_none, errW_some] <;> rfl), b_ HB⟩

/-! ### quorumref8_Last: function 17 -/
mutual
def quorumref8_Last.l0 : Nat → Int → ByteArray → Int → List (S36) → List Int → Option (Int × ByteArray × ByteArray × Bool × Bool)
 | 0, _, _, _, _, _ => none
 | k + 1, x1, x2, x8, x137000, x137001 => if x8 ≥ 0 then (if 0 ≤ x8 then (if x8 < (x137000.length : Int) then (if ((rd_T36 x137000 x8).f0) = x1 then (quorumref8_Last.j1 k x1 x2 x8 (((rd_T36 x137000 x8).f1).toList == x2.toList) x137000 x137001) else (quorumref8_Last.j1 k x1 x2 x8 false x137000 x137001)) else (none)) else (none)) else (some (0, (⟨#[]⟩ : ByteArray), (⟨#[]⟩ : ByteArray), false, false))
def quorumref8_Last.j1 : Nat → Int → ByteArray → Int → Bool → List (S36) → List Int → Option (Int × ByteArray × ByteArray × Bool × Bool)
 | 0, _, _, _, _, _, _ => none
 | k + 1, x1, x2, x8, x34, x137000, x137001 => if x34 = true then (if 0 ≤ x8 then (if x8 < (x137000.length : Int) then (some ((rd_T36 x137000 x8).f0, (rd_T36 x137000 x8).f1, (rd_T36 x137000 x8).f2, (rd_T36 x137000 x8).f3, true)) else (none)) else (none)) else (quorumref8_Last.l0 k x1 x2 (wrap64 (x8 - 1)) x137000 x137001)
end
def quorumref8_Last.f (k : Nat) (l0_0 : List (S36)) (l0_1 : List Int) (a1 : Int) (a2 : ByteArray) : Option (Int × ByteArray × ByteArray × Bool × Bool) := quorumref8_Last.l0 k a1 a2 (wrap64 ((l0_0.length : Int) - 1)) l0_0 l0_1
theorem quorumref8_Last.mono_l : ∀ k, (∀ y0 y1 y2 y3 y4, LeO (quorumref8_Last.l0 k y0 y1 y2 y3 y4) (quorumref8_Last.l0 (k + 1) y0 y1 y2 y3 y4)) ∧ (∀ y0 y1 y2 y3 y4 y5, LeO (quorumref8_Last.j1 k y0 y1 y2 y3 y4 y5) (quorumref8_Last.j1 (k + 1) y0 y1 y2 y3 y4 y5))
 | 0 => ⟨fun _ _ _ _ _ r h => by simp [quorumref8_Last.l0] at h, fun _ _ _ _ _ _ r h => by simp [quorumref8_Last.j1] at h⟩
 | k + 1 => by
  obtain ⟨ih0, ih1⟩ := quorumref8_Last.mono_l k
  refine ⟨?_, ?_⟩
  ·intro y0 y1 y2 y3 y4
   unfold quorumref8_Last.l0
   repeat' first
   | (with_reducible exact ih0 _ _ _ _ _)
   | (with_reducible exact ih1 _ _ _ _ _ _)
   | (with_reducible exact LeO.refl _)
   | (with_reducible exact LeO.none _)
   | (with_reducible refine LeO.ite ?_ ?_)
   | (with_reducible refine LeO.bind ?_ (fun _ => ?_))
   | exact ih0 _ _ _ _ _
   | exact ih1 _ _ _ _ _ _
   | exact LeO.none _
   | refine LeO.ite ?_ ?_
   | refine LeO.bind ?_ (fun _ => ?_)
  ·intro y0 y1 y2 y3 y4 y5
   unfold quorumref8_Last.j1
   repeat' first
   | (with_reducible exact ih0 _ _ _ _ _)
   | (with_reducible exact ih1 _ _ _ _ _ _)
   | (with_reducible exact LeO.refl _)
   | (with_reducible exact LeO.none _)
   | (with_reducible refine LeO.ite ?_ ?_)
   | (with_reducible refine LeO.bind ?_ (fun _ => ?_))
   | exact ih0 _ _ _ _ _
   | exact ih1 _ _ _ _ _ _
   | exact LeO.none _
   | refine LeO.ite ?_ ?_
   | refine LeO.bind ?_ (fun _ => ?_)
theorem quorumref8_Last.mono : ∀ a0 a1 a2 a3 k, LeO (quorumref8_Last.f k a0 a1 a2 a3) (quorumref8_Last.f (k + 1) a0 a1 a2 a3) := by
 intro a0 a1 a2 a3 k
 obtain ⟨ih0, ih1⟩ := quorumref8_Last.mono_l k
 unfold quorumref8_Last.f
 repeat' first
   | (with_reducible exact ih0 _ _ _ _ _)
   | (with_reducible exact ih1 _ _ _ _ _ _)
   | (with_reducible exact LeO.refl _)
   | (with_reducible exact LeO.none _)
   | (with_reducible refine LeO.ite ?_ ?_)
   | (with_reducible refine LeO.bind ?_ (fun _ => ?_))
   | exact ih0 _ _ _ _ _
   | exact ih1 _ _ _ _ _ _
   | exact LeO.none _
   | refine LeO.ite ?_ ?_
   | refine LeO.bind ?_ (fun _ => ?_)
set_option maxHeartbeats 8000000 in
set_option maxRecDepth 100000 in
theorem quorumref8_Last.calls (k : Nat) (A0_0 : Option Addr) (c0_0 : Nat) (l0_0 : List (S36)) (A0_1 : Option Addr) (c0_1 : Nat) (l0_1 : List Int) (a1 : Int) (a2 : ByteArray) (r1 : Int) (r2 : ByteArray) (r3 : ByteArray) (r4 : Bool) (r5 : Bool) (w : World) (hr0_0 : Kd.C k36 w A0_0 l0_0.length l0_0) (hc0_0 : l0_0.length ≤ c0_0) (hr0_1 : Kd.C (Kd.int .i64) w A0_1 l0_1.length l0_1) (hc0_1 : l0_1.length ≤ c0_1) (h : quorumref8_Last.f k l0_0 l0_1 a1 a2 = some (r1, r2, r3, r4, r5)) :
  Calls Try.prog 17 #[.agg #[.slice A0_0 l0_0.length c0_0, .slice A0_1 l0_1.length c0_1], .int .i64 a1, .string a2] w fun e w' => e = .returned (.tuple #[.agg #[.int .i64 r1, .string r2, .string r3, .bool r4], .bool r5]) ∧ Below w.heap.size w w' := by
 have hu34 := Try.underlying34
 have hu36 := Try.underlying36
 have HR0_0 := mk0 hr0_0
 have HC0_0 := mk0 hc0_0
 clear hr0_0 hc0_0
 have HR0_1 := mk0 hr0_1
 have HC0_1 := mk0 hc0_1
 clear hr0_1 hc0_1
 have HB := mk0 (Below.refl w.heap.size w)
 have H : (quorumref8_Last.l0 k a1 a2 (wrap64 ((l0_0.length : Int) - 1)) l0_0 l0_1) = some (r1, r2, r3, r4, r5) := h
 clear h
 have H' := mk0 H
 clear H
 go_enter Try.func17, Try.ntmps17
 go_wp2_with (first | ((with_reducible refine gate_dst (N := 3) rfl ?_); refine bx_ (N := 3) (cs := #[.slice A0_0 l0_0.length c0_0, .slice A0_1 l0_1.length c0_1]) (t := 34) (h := ?_); intro gb136 hg w4 hbox hb; have n2_ := mk0 (gz_ HB hg); have n3_ := mk0 (gz_ HB hg); replace HB := mk0 (bt_ (b_ HB) hb); have BK136 := mk0 (hbox); have GW136 := n2_; have GE136 := n3_; clear n2_ n3_; clear hb hbox hg) | ((with_reducible refine gate_dst (N := 6) rfl ?_); refine bx_ (N := 6) (cs := #[.int .i64 0, .string (⟨#[]⟩ : ByteArray), .string (⟨#[]⟩ : ByteArray), .bool false]) (t := 36) (h := ?_); intro gb137 hg w5 hbox hb; have n3_ := mk0 (gz_ HB hg); have n4_ := mk0 (gz_ HB hg); have n5_ := mk0 (ne1_ BK136 hg); have n6_ := mk0 (ne2_ BK136 hg); replace BK136 := mk0 (u_ BK136 hb); replace HB := mk0 (bt_ (b_ HB) hb); have BK137 := mk0 (hbox); have GW137 := n3_; have GE137 := n4_; have NB136_137 := n5_; have NB137_136 := n6_; clear n3_ n4_ n5_ n6_ hb hbox hg; have hnb6 := NB136_137.out; have hnc6 := NB137_136.out; obtain ⟨hcz7_0, hcz7_1, hfz7_0, hfz7_1⟩ := c2_ BK136))
 go_loopg [8] k (fun kq v8 w' => ∃ (x8_1 : Int) (x138000_1 : Int) (x138001_1 : ByteArray) (x138002_1 : ByteArray) (x138003_1 : Bool), v8 = .int .i64 x8_1 ∧ Fc (quorumref8_Last.l0 kq a1 a2 x8_1 l0_0 l0_1 = some (r1, r2, r3, r4, r5)) ∧ Fc (kq ≤ k) ∧ Fc (w'.heap[gb136]? = some (.cells #[(.slice A0_0 l0_0.length c0_0), (.slice A0_1 l0_1.length c0_1)] 34 (0, 0))) ∧ Fc (w'.heap[gb137]? = some (.cells #[.int .i64 x138000_1, .string x138001_1, .string x138002_1, .bool x138003_1] 36 (0, 0))) ∧ Fc (Below w.heap.size w w'))
 case atStart => exact ⟨(wrap64 ((l0_0.length : Int) - 1)), (0), ((⟨#[]⟩ : ByteArray)), ((⟨#[]⟩ : ByteArray)), (false), (by first | rfl | (simp; done) | (simp [*]; done)), H', ⟨Nat.le_refl _⟩, ⟨h_ BK136⟩, ⟨h_ BK137⟩, ⟨b_ HB⟩⟩
 case round =>
  clear H'
  try clear hcz7_0
  try clear hcz7_1
  try clear hfz7_0
  try clear hfz7_1
  obtain ⟨x8_1, x138000_1, x138001_1, x138002_1, x138003_1, rfl, HA, HK1, BK136, BK137, HB⟩ := hrel
  cases gk with
  | zero => exact absurd HA.out (by simp [quorumref8_Last.l0])
  | succ k1 =>
   have H := HA.out
   clear HA
   simp only [quorumref8_Last.l0] at H
   as_aux_lemma =>
    by_cases c8 : x8_1 ≥ 0
    ·rw [if_pos c8] at H
     have c8b0 : decide (0 ≤ x8_1) = true := decide_eq_true c8
     clear c8
     have HC9 := mk0 H
     clear H
     go_upto_region 4 with (fail)
     go_cut [34] (fun v34 wc => ∃ (kq : Nat) (x34_8 : Bool), v34 = .bool x34_8 ∧ Fc (quorumref8_Last.j1 kq a1 a2 x8_1 x34_8 l0_0 l0_1 = some (r1, r2, r3, r4, r5)) ∧ Fc (kq ≤ k1) ∧ Fc (wc.heap[gb136]? = some (.cells #[(.slice A0_0 l0_0.length c0_0), (.slice A0_1 l0_1.length c0_1)] 34 (0, 0))) ∧ Fc (wc.heap[gb137]? = some (.cells #[.int .i64 x138000_1, .string x138001_1, .string x138002_1, .bool x138003_1] 36 (0, 0))) ∧ Fc (Below w.heap.size w wc))
     case first =>
      have H := HC9.out
      clear HC9
      by_cases c10 : 0 ≤ x8_1
      ·rw [if_pos c10] at H
       have c10b0 : decide (0 ≤ x8_1) = true := decide_eq_true c10
       clear c10
       (first | rw [c10b0] | (simp only [i64_w, i32_w]; rw [c10b0]) | skip)
       by_cases c11 : x8_1 < (l0_0.length : Int)
       ·rw [if_pos c11] at H
        have c11b0 : decide (x8_1 < (l0_0.length : Int)) = true := decide_eq_true c11
        clear c11
        by_cases c12 : ((rd_T36 l0_0 x8_1).f0) = a1
        ·rw [if_pos c12] at H
         have c12b0 : (((rd_T36 l0_0 x8_1).f0) == a1) = true := beq_iff_eq.mpr c12
         have c12b1 : (((rd_T36 l0_0 x8_1).f0) != a1) = false := bne_eq_false_iff_eq.mpr c12
         clear c12
         have H' := mk0 H
         clear H
         have hnb13 := NB136_137.out
         have hnc13 := NB137_136.out
         obtain ⟨hcz14_0, hcz14_1, hfz14_0, hfz14_1⟩ := c2_ BK136
         have p138 : 0 ≤ (x8_1 : Int) := of_decide_eq_true (by first | (with_reducible assumption) | assumption)
         have q138 : x8_1 < (l0_0.length : Int) := of_decide_eq_true (by first | (with_reducible assumption) | assumption)
         obtain ⟨ad138, e138, hx138_0, hx138_1, hx138_2, hx138_3⟩ := at_T36 HR0_0.out x8_1 p138 q138
         cases e138
         replace hx138_0 := (bc_ HB hx138_0 :)
         replace hx138_1 := (bc_ HB hx138_1 :)
         replace hx138_2 := (bc_ HB hx138_2 :)
         replace hx138_3 := (bc_ HB hx138_3 :)
         replace p138 := eq_true p138
         replace q138 := eq_true q138
         have p139 : 0 ≤ (x8_1 : Int) := of_decide_eq_true (by first | (with_reducible assumption) | assumption)
         have q139 : x8_1 < (l0_0.length : Int) := of_decide_eq_true (by first | (with_reducible assumption) | assumption)
         obtain ⟨ad139, e139, hx139_0, hx139_1, hx139_2, hx139_3⟩ := at_T36 HR0_0.out x8_1 p139 q139
         obtain rfl : ad138 = ad139 := (by injection e139)
         replace hx139_0 := (bc_ HB hx139_0 :)
         replace hx139_1 := (bc_ HB hx139_1 :)
         replace hx139_2 := (bc_ HB hx139_2 :)
         replace hx139_3 := (bc_ HB hx139_3 :)
         replace p139 := eq_true p139
         replace q139 := eq_true q139
         go_wp2
         go_meet
         case rel => exact ⟨_, ((((rd_T36 l0_0 x8_1).f1).toList == a2.toList)), (by first | rfl | (simp; done) | (simp [*]; done)), H', ⟨by have := HK1.out; first | omega | exact Nat.le_refl _⟩, ⟨h_ BK136⟩, ⟨h_ BK137⟩, ⟨b_ HB⟩⟩
        ·rw [if_neg c12] at H
         have c12b0 : (((rd_T36 l0_0 x8_1).f0) == a1) = false := beq_eq_false_iff_ne.mpr c12
         have c12b1 : (((rd_T36 l0_0 x8_1).f0) != a1) = true := bne_iff_ne.mpr c12
         have H' := mk0 H
         clear H
         have hnb15 := NB136_137.out
         have hnc15 := NB137_136.out
         obtain ⟨hcz16_0, hcz16_1, hfz16_0, hfz16_1⟩ := c2_ BK136
         have p138 : 0 ≤ (x8_1 : Int) := of_decide_eq_true (by first | (with_reducible assumption) | assumption)
         have q138 : x8_1 < (l0_0.length : Int) := of_decide_eq_true (by first | (with_reducible assumption) | assumption)
         obtain ⟨ad138, e138, hx138_0, hx138_1, hx138_2, hx138_3⟩ := at_T36 HR0_0.out x8_1 p138 q138
         cases e138
         replace hx138_0 := (bc_ HB hx138_0 :)
         replace hx138_1 := (bc_ HB hx138_1 :)
         replace hx138_2 := (bc_ HB hx138_2 :)
         replace hx138_3 := (bc_ HB hx138_3 :)
         replace p138 := eq_true p138
         replace q138 := eq_true q138
         go_wp2
         go_meet
         case rel => exact ⟨_, (false), (by first | rfl | (simp; done) | (simp [*]; done)), H', ⟨by have := HK1.out; first | omega | exact Nat.le_refl _⟩, ⟨h_ BK136⟩, ⟨h_ BK137⟩, ⟨b_ HB⟩⟩
       ·rw [if_neg c11] at H
        exact absurd H (by simp)
      ·rw [if_neg c10] at H
       exact absurd H (by simp)
     case rest =>
      clear HC9
      try clear c8
      try clear c8b0
      try clear c10
      try clear c10b0
      try clear c11
      try clear c11b0
      try clear c12
      try clear c12b0
      try clear c12b1
      try clear hcz14_0
      try clear hcz14_1
      try clear hcz16_0
      try clear hcz16_1
      try clear hcz7_0
      try clear hcz7_1
      try clear hfz14_0
      try clear hfz14_1
      try clear hfz16_0
      try clear hfz16_1
      try clear hfz7_0
      try clear hfz7_1
      try clear hx138_0
      try clear hx138_1
      try clear hx138_2
      try clear hx138_3
      try clear hx139_0
      try clear hx139_1
      try clear hx139_2
      try clear hx139_3
      try clear p138
      try clear p139
      try clear q138
      try clear q139
      obtain ⟨kq, x34_8, rfl, HA, HJ8, BK136, BK137, HB⟩ := hcut
      cases kq with
      | zero => exact absurd HA.out (by simp [quorumref8_Last.j1])
      | succ kj8 =>
       have H := HA.out
       clear HA
       simp only [quorumref8_Last.j1] at H
       as_aux_lemma =>
        by_cases c17 : x34_8 = true
        ·subst c17
         rw [if_pos rfl] at H
         by_cases c18 : 0 ≤ x8_1
         ·rw [if_pos c18] at H
          have c18b0 : decide (0 ≤ x8_1) = true := decide_eq_true c18
          clear c18
          by_cases c19 : x8_1 < (l0_0.length : Int)
          ·rw [if_pos c19] at H
           have c19b0 : decide (x8_1 < (l0_0.length : Int)) = true := decide_eq_true c19
           clear c19
           simp only [Option.some.injEq, Prod.mk.injEq] at H
           obtain ⟨rfl, rfl, rfl, rfl, rfl⟩ := H
           have hnb20 := NB136_137.out
           have hnc20 := NB137_136.out
           obtain ⟨hcz21_0, hcz21_1, hfz21_0, hfz21_1⟩ := c2_ BK136
           have p140 : 0 ≤ (x8_1 : Int) := of_decide_eq_true (by first | (with_reducible assumption) | assumption)
           have q140 : x8_1 < (l0_0.length : Int) := of_decide_eq_true (by first | (with_reducible assumption) | assumption)
           obtain ⟨ad140, e140, hx140_0, hx140_1, hx140_2, hx140_3⟩ := at_T36 HR0_0.out x8_1 p140 q140
           cases e140
           replace hx140_0 := (bc_ HB hx140_0 :)
           replace hx140_1 := (bc_ HB hx140_1 :)
           replace hx140_2 := (bc_ HB hx140_2 :)
           replace hx140_3 := (bc_ HB hx140_3 :)
           replace p140 := eq_true p140
           replace q140 := eq_true q140
           obtain ⟨hcz22_0, hcz22_1, hcz22_2, hcz22_3, hfz22_0, hfz22_1, hfz22_2, hfz22_3⟩ := c4_ BK137
           go_wp2
           refine bodyPost_ret (results_ct rfl _ _ gb137 36 #[.int .i64 ((rd_T36 l0_0 x8_1).f0), .string ((rd_T36 l0_0 x8_1).f1), .string ((rd_T36 l0_0 x8_1).f2), .bool ((rd_T36 l0_0 x8_1).f3)] (0, 0) _ rfl (pu_ (cs := #[.int .i64 ((rd_T36 l0_0 x8_1).f0), .string ((rd_T36 l0_0 x8_1).f1), .string ((rd_T36 l0_0 x8_1).f2), .bool x138003_1]) (pu_ (cs := #[.int .i64 ((rd_T36 l0_0 x8_1).f0), .string ((rd_T36 l0_0 x8_1).f1), .string x138002_1, .bool x138003_1]) (pu_ (cs := #[.int .i64 ((rd_T36 l0_0 x8_1).f0), .string x138001_1, .string x138002_1, .bool x138003_1]) (pu_ (cs := #[.int .i64 x138000_1, .string x138001_1, .string x138002_1, .bool x138003_1]) (h_ BK137))))) Try.underlying36 rfl (by kernel_rfl)) rfl ?_
           exact ⟨by first | rfl | (simp [errW_none, errW_some] <;> rfl) | (simp [*, errW_none, errW_some] <;> rfl), b_ HB⟩
          ·rw [if_neg c19] at H
           exact absurd H (by simp)
         ·rw [if_neg c18] at H
          exact absurd H (by simp)
        ·replace c17 := Bool.eq_false_iff.mpr c17
         subst c17
         rw [if_neg (show ¬ (false = true) by decide)] at H
         have H' := mk0 H
         clear H
         go_wp2
         go_roundg kj8
         case measure => have := HK1.out; have := HJ8.out; omega
         case rel => exact ⟨(wrap64 (x8_1 - 1)), (x138000_1), (x138001_1), (x138002_1), (x138003_1), (by first | rfl | (simp; done) | (simp [*]; done)), H', ⟨by have := HK1.out; have := HJ8.out; omega⟩, ⟨h_ BK136⟩, ⟨h_ BK137⟩, ⟨b_ HB⟩⟩
    ·rw [if_neg c8] at H
     have c8b0 : decide (0 ≤ x8_1) = false := decide_eq_false c8
     clear c8
     simp only [Option.some.injEq, Prod.mk.injEq] at H
     obtain ⟨rfl, rfl, rfl, rfl, rfl⟩ := H
     have hnb23 := NB137_136.out
     have hnc23 := NB136_137.out
     obtain ⟨hcz24_0, hcz24_1, hcz24_2, hcz24_3, hfz24_0, hfz24_1, hfz24_2, hfz24_3⟩ := c4_ BK137
     go_wp2
     refine bodyPost_ret (results_ct rfl _ _ gb137 36 #[.int .i64 0, .string (⟨#[]⟩ : ByteArray), .string (⟨#[]⟩ : ByteArray), .bool false] (0, 0) _ rfl (pu_ (cs := #[.int .i64 0, .string (⟨#[]⟩ : ByteArray), .string (⟨#[]⟩ : ByteArray), .bool x138003_1]) (pu_ (cs := #[.int .i64 0, .string (⟨#[]⟩ : ByteArray), .string x138002_1, .bool x138003_1]) (pu_ (cs := #[.int .i64 0, .string x138001_1, .string x138002_1, .bool x138003_1]) (pu_ (cs := #[.int .i64 x138000_1, .string x138001_1, .string x138002_1, .bool x138003_1]) (h_ BK137))))) Try.underlying36 rfl (by kernel_rfl)) rfl ?_
     exact ⟨by first | rfl | (simp [errW_none, errW_some] <;> rfl) | (simp [*, errW_none, errW_some] <;> rfl), b_ HB⟩

/-! ### quorumlaw0_Within: function 52 -/
def quorumlaw0_Within.f (a0 : Int) (a1 : Int) : Option (Int) := if (IntKind.u64.wrap (a1)) = 0 then (none) else (some (wrap64 (Int.tmod (IntKind.u64.wrap (a0)) (IntKind.u64.wrap (a1)))))
set_option maxHeartbeats 8000000 in
set_option maxRecDepth 100000 in
theorem quorumlaw0_Within.calls (a0 : Int) (a1 : Int) (r : Int) (w : World) (h : quorumlaw0_Within.f a0 a1 = some r) :
  Calls Try.prog 52 #[.int .i64 a0, .int .i64 a1] w fun e w' => e = .returned (.int .i64 r) ∧ Drawn0 w w' := by
 have H : (if (IntKind.u64.wrap (a1)) = 0 then (none) else (some (wrap64 (Int.tmod (IntKind.u64.wrap (a0)) (IntKind.u64.wrap (a1)))))) = some r := h
 clear h
 by_cases c3 : (IntKind.u64.wrap (a1)) = 0
 ·rw [if_pos c3] at H
  exact absurd H (by simp)
 ·rw [if_neg c3] at H
  have c3b0 : ((IntKind.u64.wrap (a1)) == 0) = false := beq_eq_false_iff_ne.mpr c3
  have c3b1 : ((IntKind.u64.wrap (a1)) != 0) = true := bne_iff_ne.mpr c3
  obtain rfl := Option.some.inj H
  go_enter Try.func52, Try.ntmps52
  go_wp2
  go_ret
  exact ⟨by first | rfl | (simp; done) | (simp [*]; done), by repeat (first | exact Drawn0.refl _ | apply Drawn0.step)⟩

/-! ### key_Is: function 42 -/
def key_Is.f (a0 : ByteArray) : Option (Bool) := if a0.toList = ([] : List UInt8) then (some false) else (some (decide ((a0.size : Int) ≤ 12)))
set_option maxHeartbeats 8000000 in
set_option maxRecDepth 100000 in
theorem key_Is.calls (a0 : ByteArray) (r : Bool) (w : World) (h : key_Is.f a0 = some r) :
  Calls Try.prog 42 #[.string a0] w fun e w' => e = .returned (.bool r) ∧ Drawn0 w w' := by
 have H : (if a0.toList = ([] : List UInt8) then (some false) else (some (decide ((a0.size : Int) ≤ 12)))) = some r := h
 clear h
 by_cases c2 : a0.toList = ([] : List UInt8)
 ·rw [if_pos c2] at H
  have c2b0 : (a0.toList == ([] : List UInt8)) = true := beq_iff_eq.mpr c2
  have c2b1 : (a0.toList != ([] : List UInt8)) = false := bne_eq_false_iff_eq.mpr c2
  clear c2
  obtain rfl := Option.some.inj H
  go_enter Try.func42, Try.ntmps42
  go_wp2
  go_ret
  exact ⟨by first | rfl | (simp; done) | (simp [*]; done), by repeat (first | exact Drawn0.refl _ | apply Drawn0.step)⟩
 ·rw [if_neg c2] at H
  have c2b0 : (a0.toList == ([] : List UInt8)) = false := beq_eq_false_iff_ne.mpr c2
  have c2b1 : (a0.toList != ([] : List UInt8)) = true := bne_iff_ne.mpr c2
  obtain rfl := Option.some.inj H
  go_enter Try.func42, Try.ntmps42
  go_wp2
  go_ret
  exact ⟨by first | rfl | (simp; done) | (simp [*]; done), by repeat (first | exact Drawn0.refl _ | apply Drawn0.step)⟩

/-! ### pend_Table: function 113 -/
def pend_Table.f (a0 : Int) : Option (Bool) := if a0 ≥ 0 then (some (decide (a0 < 3))) else (some false)
set_option maxHeartbeats 8000000 in
set_option maxRecDepth 100000 in
theorem pend_Table.calls (a0 : Int) (r : Bool) (w : World) (h : pend_Table.f a0 = some r) :
  Calls Try.prog 113 #[.int .i64 a0] w fun e w' => e = .returned (.bool r) ∧ Drawn0 w w' := by
 have H : (if a0 ≥ 0 then (some (decide (a0 < 3))) else (some false)) = some r := h
 clear h
 by_cases c2 : a0 ≥ 0
 ·rw [if_pos c2] at H
  have c2b0 : decide (0 ≤ a0) = true := decide_eq_true c2
  clear c2
  obtain rfl := Option.some.inj H
  go_enter Try.func113, Try.ntmps113
  go_wp2
  go_ret
  exact ⟨by first | rfl | (simp; done) | (simp [*]; done), by repeat (first | exact Drawn0.refl _ | apply Drawn0.step)⟩
 ·rw [if_neg c2] at H
  have c2b0 : decide (0 ≤ a0) = false := decide_eq_false c2
  clear c2
  obtain rfl := Option.some.inj H
  go_enter Try.func113, Try.ntmps113
  go_wp2
  go_ret
  exact ⟨by first | rfl | (simp; done) | (simp [*]; done), by repeat (first | exact Drawn0.refl _ | apply Drawn0.step)⟩

/-! ### key_Fits: function 163 -/
def key_Fits.f (a0 : ByteArray) : Option (Bool) := some (decide ((a0.size : Int) ≤ 20))
set_option maxHeartbeats 8000000 in
set_option maxRecDepth 100000 in
theorem key_Fits.calls (a0 : ByteArray) (r : Bool) (w : World) (h : key_Fits.f a0 = some r) :
  Calls Try.prog 163 #[.string a0] w fun e w' => e = .returned (.bool r) ∧ Drawn0 w w' := by
 have H : (some (decide ((a0.size : Int) ≤ 20))) = some r := h
 clear h
 obtain rfl := Option.some.inj H
 go_enter Try.func163, Try.ntmps163
 go_wp2
 go_ret
 exact ⟨by first | rfl | (simp; done) | (simp [*]; done), by repeat (first | exact Drawn0.refl _ | apply Drawn0.step)⟩

end Go.Proofs.Ytbaecdcfefmcgaa.PPnd
