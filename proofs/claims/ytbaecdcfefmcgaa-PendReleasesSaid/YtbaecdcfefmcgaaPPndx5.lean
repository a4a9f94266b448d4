-- PRINTED by print.py (a twelfth state) out of the translation. Not trusted: Lean checks it.
import Derived.Test.YtbaecdcfefmcgaaPPndx0
import Derived.Test.YtbaecdcfefmcgaaPPndx2
import Derived.Test.YtbaecdcfefmcgaaPPndx4
namespace Go.Proofs.Ytbaecdcfefmcgaa.PPnd
open Go.RowKit Go.Proofs.YtbaecdcfefmcgaaW.PrintWords Go.Proofs.YtbaecdcfefmcgaaW.PrintLast Go.Proofs.YtbaecdcfefmcgaaW.PrintMore
attribute [local go_sem] max2_int min2_int max_two min_two max_three min_three max_four min_four   -- for this text's walks alone
set_option linter.unusedVariables false
set_option linter.unusedSimpArgs false

/-! ### pend_Save: function 53 -/
def pend_Save.f (k : Nat) (l0_0 : List (S36)) (l0_1 : List Int) : Option ((List (S36)) × List Int × Int × Int) := (pend_May.f k l0_0 l0_1).bind fun t161 => (if t161 = true then (if (l0_1.length : Int) ≥ 6 then (some (([] : List (S36)), ([] : List Int), 0, 2)) else ((pend_Own.f l0_0 l0_1).bind fun bt162 => (if bt162.2.length < 17592186044416 then ((some (bt162.2 ++ [(bt162.1.length : Int)] : List Int)).bind fun y168 => (some (bt162.1, y168, wrap64 ((y168.length : Int) - 1), 0))) else (none)))) else (some (([] : List (S36)), ([] : List Int), 0, 1)))
theorem pend_Save.mono : ∀ a0 a1 k, LeO (pend_Save.f k a0 a1) (pend_Save.f (k + 1) a0 a1) := by
 intro a0 a1 k
 unfold pend_Save.f
 repeat' first
   | (with_reducible exact pend_May.mono _ _ _)
   | (with_reducible exact LeO.refl _)
   | (with_reducible exact LeO.none _)
   | (with_reducible refine LeO.ite ?_ ?_)
   | (with_reducible refine LeO.bind ?_ (fun _ => ?_))
   | exact pend_May.mono _ _ _
   | exact LeO.none _
   | refine LeO.ite ?_ ?_
   | refine LeO.bind ?_ (fun _ => ?_)
set_option maxHeartbeats 8000000 in
set_option maxRecDepth 100000 in
theorem pend_Save.calls (k : Nat) (A0_0 : Option Addr) (c0_0 : Nat) (l0_0 : List (S36)) (A0_1 : Option Addr) (c0_1 : Nat) (l0_1 : List Int) (r1 : List (S36)) (r2 : List Int) (r3 : Int) (r4 : Int) (w : World) (hr0_0 : Kd.C k36 w A0_0 l0_0.length l0_0) (hc0_0 : l0_0.length ≤ c0_0) (hr0_1 : Kd.C (Kd.int .i64) w A0_1 l0_1.length l0_1) (hc0_1 : l0_1.length ≤ c0_1) (h : pend_Save.f k l0_0 l0_1 = some (r1, r2, r3, r4)) :
  Calls Try.prog 53 #[.agg #[.slice A0_0 l0_0.length c0_0, .slice A0_1 l0_1.length c0_1]] w fun e w' => ∃ v0_ v1_ : Value, e = .returned (.tuple #[.agg #[v0_, v1_], .int .i64 r3, .int .i64 r4]) ∧ Kd.R k36 36 w' w.heap.size (fun _ => True) v0_ r1 ∧ Kd.R (Kd.int .i64) 3 w' w.heap.size (fun _ => True) v1_ r2 ∧ Below w.heap.size w w' := by
 have hu34 := Try.underlying34
 have HR0_0 := mk0 hr0_0
 have HC0_0 := mk0 hc0_0
 clear hr0_0 hc0_0
 have HR0_1 := mk0 hr0_1
 have HC0_1 := mk0 hc0_1
 clear hr0_1 hc0_1
 have HB := mk0 (Below.refl w.heap.size w)
 have H : ((pend_May.f k l0_0 l0_1).bind fun t161 => (if t161 = true then (if (l0_1.length : Int) ≥ 6 then (some (([] : List (S36)), ([] : List Int), 0, 2)) else ((pend_Own.f l0_0 l0_1).bind fun bt162 => (if bt162.2.length < 17592186044416 then ((some (bt162.2 ++ [(bt162.1.length : Int)] : List Int)).bind fun y168 => (some (bt162.1, y168, wrap64 ((y168.length : Int) - 1), 0))) else (none)))) else (some (([] : List (S36)), ([] : List Int), 0, 1)))) = some (r1, r2, r3, r4) := h
 clear h
 replace H := Option.bind_eq_some_iff.mp H
 obtain ⟨t161, A20, H⟩ := H
 try dsimp only at H
 have A2 := mk0 A20
 clear A20
 by_cases c3 : t161 = true
 focus
  subst c3
  rw [if_pos rfl] at H
  by_cases c4 : (l0_1.length : Int) ≥ 6
  focus
   rw [if_pos c4] at H
   have c4b0 : decide (6 ≤ (l0_1.length : Int)) = true := decide_eq_true c4
   have c4b1 : decide (6 ≤ l0_1.length) = true := decide_eq_true (by omega)
   clear c4
   simp only [Option.some.injEq, Prod.mk.injEq] at H
   obtain ⟨rfl, rfl, rfl, rfl⟩ := H
   go_enter Try.func53, Try.ntmps53
  rotate_left 1
  focus
   rw [if_neg c4] at H
   have c4b0 : decide (6 ≤ (l0_1.length : Int)) = false := decide_eq_false c4
   have c4b1 : decide (6 ≤ l0_1.length) = false := decide_eq_false (by omega)
   clear c4
   replace H := Option.bind_eq_some_iff.mp H
   obtain ⟨⟨t162, t165⟩, A120, H⟩ := H
   try dsimp only at H
   have A12 := mk0 A120
   clear A120
   by_cases c13 : t165.length < 17592186044416
   focus
    rw [if_pos c13] at H
    have LMc13 := mk0 c13
    clear c13
    obtain ⟨y168, hy168⟩ : ∃ y_ : List Int, y_ = (t165 ++ [(t162.length : Int)]) := ⟨_, rfl⟩
    replace H : (some (t162, y168, wrap64 ((y168.length : Int) - 1), 0)) = some (r1, r2, r3, r4) := by first | (rw [hy168]; with_reducible exact H) | (have H2_ := (Option.bind_some _ _).symm.trans H; rw [hy168]; with_reducible exact H2_) | (have H2_ := (Option.bind_some _ _).symm.trans H; with_reducible exact H2_) | with_reducible exact H | (rw [hy168]; exact H) | exact H
    have Ny168 := mk0 hy168
    clear hy168
    simp only [Option.some.injEq, Prod.mk.injEq] at H
    obtain ⟨rfl, rfl, rfl, rfl⟩ := H
    go_enter Try.func53, Try.ntmps53
   rotate_left 1
   ·rw [if_neg c13] at H
    exact absurd H (by simp)
  rotate_right 1
 rotate_left 2
 focus
  replace c3 := Bool.eq_false_iff.mpr c3
  subst c3
  rw [if_neg (show ¬ (false = true) by decide)] at H
  simp only [Option.some.injEq, Prod.mk.injEq] at H
  obtain ⟨rfl, rfl, rfl, rfl⟩ := H
  go_enter Try.func53, Try.ntmps53
 rotate_right 2
 all_goals go_wp2_with (first | ((with_reducible refine gate_dst (N := 1) rfl ?_); refine bx_ (N := 1) (cs := #[.slice A0_0 l0_0.length c0_0, .slice A0_1 l0_1.length c0_1]) (t := 34) (h := ?_); intro gb159 hg w14 hbox hb; have n2_ := mk0 (gz_ HB hg); have n3_ := mk0 (gz_ HB hg); replace HB := mk0 (bt_ (b_ HB) hb); have BK159 := mk0 (hbox); have GW159 := n2_; have GE159 := n3_; clear n2_ n3_; clear hb hbox hg) | ((with_reducible refine gate_dst (N := 2) rfl ?_); refine bx_ (N := 2) (cs := #[.slice none 0 0, .slice none 0 0]) (t := 34) (h := ?_); intro gb160 hg w15 hbox hb; have n3_ := mk0 (gz_ HB hg); have n4_ := mk0 (gz_ HB hg); have n5_ := mk0 (ne1_ BK159 hg); have n6_ := mk0 (ne2_ BK159 hg); replace BK159 := mk0 (u_ BK159 hb); replace HB := mk0 (bt_ (b_ HB) hb); have BK160 := mk0 (hbox); have GW160 := n3_; have GE160 := n4_; have NB159_160 := n5_; have NB160_159 := n6_; clear n3_ n4_ n5_ n6_ hb hbox hg; have hnb16 := NB159_160.out; have hnc16 := NB160_159.out; obtain ⟨hcz17_0, hcz17_1, hfz17_0, hfz17_1⟩ := c2_ BK159) | ((with_reducible refine gate_callee (f := 97) rfl ?_); refine gL_ (some 7) Try.func97 #[.agg #[.slice A0_0 l0_0.length c0_0, .slice A0_1 l0_1.length c0_1]] (h := ?_); (with_reducible refine (pend_May.calls k _ _ l0_0 _ _ l0_1 true _ ?side1 ?side2 ?side3 ?side4 A2.out).mono ?_); (case side1 => exact cb_ HR0_0 HB); (case side2 => exact HC0_0.out); (case side3 => exact cb_ HR0_1 HB); (case side4 => exact HC0_1.out); rintro e w18 ⟨rfl, hb⟩; refine ⟨_, rfl, ?_⟩; replace BK159 := mk0 (u_ BK159 hb); replace BK160 := mk0 (u_ BK160 hb); replace HB := mk0 (bt_ (b_ HB) hb); (try clear hb); obtain ⟨hcz19_0, hcz19_1, hfz19_0, hfz19_1⟩ := c2_ BK159; (try obtain ⟨hcz11_0, hcz11_1, hfz11_0, hfz11_1⟩ := c2_ BK160)) | ((with_reducible refine gate_callee (f := 111) rfl ?_); refine gL_ (some 17) Try.func111 #[.agg #[.slice A0_0 l0_0.length c0_0, .slice A0_1 l0_1.length c0_1]] (h := ?_); (with_reducible refine (pend_Own.calls _ _ l0_0 _ _ l0_1 t162 t165 _ ?side1 ?side2 ?side3 ?side4 A12.out).mono ?_); (case side1 => exact cb_ HR0_0 HB); (case side2 => exact HC0_0.out); (case side3 => exact cb_ HR0_1 HB); (case side4 => exact HC0_1.out); rintro e w20 ⟨v163, v166, rfl, ho0, ho1, hb⟩; refine ⟨_, rfl, ?_⟩; have n0_ := mk0 (Kd.R_lower ho0 (bz_ (b_ HB))); have n1_ := mk0 (Kd.R_lower ho1 (bz_ (b_ HB))); replace BK159 := mk0 (u_ BK159 hb); replace BK160 := mk0 (u_ BK160 hb); replace HB := mk0 (bt_ (b_ HB) hb); have HO164 := n0_; have HO167 := n1_; clear n0_ n1_; (try clear hb); (try clear ho0); (try clear ho1); obtain ⟨Ao21, co21, eo21⟩ := Kd.R_slice HO164.out; subst eo21; obtain ⟨hcz22_0, hcz22_1, hfz22_0, hfz22_1⟩ := c2_ BK160; obtain ⟨Ao23, co23, eo23⟩ := Kd.R_slice HO167.out; subst eo23) | ((with_reducible refine gate_builtin (b := .append) (xs := #[.tmp 19, .tmp 23]) rfl ?_); at_builtin; refine Kd.R_append (Kd.int .i64) (w0 := w) w.heap.size rfl (.tmp 19) (.tmp 23) 24 3 (.int .i64 0) 8 rfl Try.underlying24 info3 rfl (by decide) (by omega) (.slice Ao23 t165.length co23) t165 (t162.length : Int) [.int .i64 (t162.length : Int)] (fun _ => True) (fun _ => False) rfl (by first | (go_simp; done) | (go_simp; rfl)) ?aP (fun _ hk => hk.elim) ?aF ?aO ?aB ?aS ?aL ?_; (case aP => exact rfl); (case aB => exact (b_ HB)); (case aF => exact (fun _ _ => trivial)); (case aO => exact (r2_ (Kd.R_mono (Kd.R_far (p := ⟨gb160, 1, none⟩) (Kd.R_far (p := ⟨gb160, 0, none⟩) (Kd.R_types HO167.out BK160.out (by decide)) (fun _ hk => hk.2) (.slice Ao21 t162.length co21)) (fun _ hk => hk.2) (.slice Ao23 t165.length co23)) (fun _ hk => trivial)))); (case aS => exact (bz_ (b_ HB))); (case aL => have := LMc13.out; omega); intro v169 w24 ho hb hg hat; rw [← Ny168.out] at ho; have n2_ := mk0 (Kd.R_over' (r2_ (Kd.R_mono (Kd.R_far (p := ⟨gb160, 1, none⟩) (Kd.R_far (p := ⟨gb160, 0, none⟩) (Kd.R_types HO164.out BK160.out (by decide)) (fun _ hk => hk.2) (.slice Ao21 t162.length co21)) (fun _ hk => hk.2) (.slice Ao23 t165.length co23)) (fun _ h_ => h_.1))) (Kd.R_typed (r2_ (Kd.R_mono (Kd.R_far (p := ⟨gb160, 1, none⟩) (Kd.R_far (p := ⟨gb160, 0, none⟩) (Kd.R_types HO167.out BK160.out (by decide)) (fun _ hk => hk.2) (.slice Ao21 t162.length co21)) (fun _ hk => hk.2) (.slice Ao23 t165.length co23)) (fun _ h_ => h_.1)))) (by decide) hg); replace BK159 := mk0 (blk_grown (g := gb159) (o := .cells #[.slice A0_0 l0_0.length c0_0, .slice A0_1 l0_1.length c0_1] 34 (0, 0)) (fa_ (fa_ (h_ BK159) NB159_160.out) NB159_160.out) hg (Kd.R_ne HO167.out BK159.out (by decide))); replace BK160 := mk0 (blk_grown (g := gb160) (o := .cells #[.slice Ao21 t162.length co21, .slice Ao23 t165.length co23] 34 (0, 0)) (pu_ (cs := #[.slice Ao21 t162.length co21, .slice none 0 0]) (pu_ (cs := #[.slice none 0 0, .slice none 0 0]) (h_ BK160))) hg (Kd.R_ne HO167.out BK160.out (by decide))); replace HB := mk0 (hb); have HO170 := mk0 (ho); clear HO164 HO167; have HO164 := n2_; clear n2_ ho hb hg hat; obtain ⟨Ao25, co25, eo25⟩ := Kd.R_slice HO170.out; subst eo25; obtain ⟨hcz26_0, hcz26_1, hfz26_0, hfz26_1⟩ := c2_ BK160) | ((with_reducible refine gate_callee (f := 97) rfl ?_); refine gL_ (some 7) Try.func97 #[.agg #[.slice A0_0 l0_0.length c0_0, .slice A0_1 l0_1.length c0_1]] (h := ?_); (with_reducible refine (pend_May.calls k _ _ l0_0 _ _ l0_1 true _ ?side1 ?side2 ?side3 ?side4 A2.out).mono ?_); (case side1 => exact cb_ HR0_0 HB); (case side2 => exact HC0_0.out); (case side3 => exact cb_ HR0_1 HB); (case side4 => exact HC0_1.out); rintro e w9 ⟨rfl, hb⟩; refine ⟨_, rfl, ?_⟩; replace BK159 := mk0 (u_ BK159 hb); replace BK160 := mk0 (u_ BK160 hb); replace HB := mk0 (bt_ (b_ HB) hb); (try clear hb); obtain ⟨hcz10_0, hcz10_1, hfz10_0, hfz10_1⟩ := c2_ BK159; obtain ⟨hcz11_0, hcz11_1, hfz11_0, hfz11_1⟩ := c2_ BK160) | ((with_reducible refine gate_callee (f := 97) rfl ?_); refine gL_ (some 7) Try.func97 #[.agg #[.slice A0_0 l0_0.length c0_0, .slice A0_1 l0_1.length c0_1]] (h := ?_); (with_reducible refine (pend_May.calls k _ _ l0_0 _ _ l0_1 false _ ?side1 ?side2 ?side3 ?side4 A2.out).mono ?_); (case side1 => exact cb_ HR0_0 HB); (case side2 => exact HC0_0.out); (case side3 => exact cb_ HR0_1 HB); (case side4 => exact HC0_1.out); rintro e w31 ⟨rfl, hb⟩; refine ⟨_, rfl, ?_⟩; replace BK159 := mk0 (u_ BK159 hb); replace BK160 := mk0 (u_ BK160 hb); replace HB := mk0 (bt_ (b_ HB) hb); (try clear hb); obtain ⟨hcz32_0, hcz32_1, hfz32_0, hfz32_1⟩ := c2_ BK160; (try obtain ⟨hcz19_0, hcz19_1, hfz19_0, hfz19_1⟩ := c2_ BK159)))
 ·refine bodyPost_ret (results_ctt rfl _ _ gb160 34 #[.slice none 0 0, .slice none 0 0] (0, 0) _ rfl (pu_ (cs := #[.slice none 0 0, .slice none 0 0]) (pu_ (cs := #[.slice none 0 0, .slice none 0 0]) (h_ BK160))) Try.underlying34 rfl (by kernel_rfl)) rfl ?_
  exact ⟨_, _, by first | rfl | (simp [errW_none, errW_some] <;> rfl) | (simp [*, errW_none, errW_some] <;> rfl), by first | exact Kd.R_nil _ _ _ _ _ | exact Kd.N_nil _ _ _ _ _ | exact Kd.V_nil _ _ _ _ _ | exact Kd.Q_nil _ _ _ _ _ | exact Kd.S_nil _ _ _ _ _, by first | exact Kd.R_nil _ _ _ _ _ | exact Kd.N_nil _ _ _ _ _ | exact Kd.V_nil _ _ _ _ _ | exact Kd.Q_nil _ _ _ _ _ | exact Kd.S_nil _ _ _ _ _, b_ HB⟩
 ·refine bodyPost_ret (results_ctt rfl _ _ gb160 34 #[.slice Ao21 t162.length co21, .slice Ao25 y168.length co25] (0, 0) _ rfl (pu_ (cs := #[.slice Ao21 t162.length co21, .slice Ao25 y168.length co25]) (pu_ (cs := #[.slice Ao21 t162.length co21, .slice Ao25 y168.length co25]) (pu_ (cs := #[.slice Ao21 t162.length co21, .slice Ao23 t165.length co23]) (h_ BK160)))) Try.underlying34 rfl (by kernel_rfl)) rfl ?_
  exact ⟨_, _, by first | rfl | (simp [errW_none, errW_some] <;> rfl) | (simp [*, errW_none, errW_some] <;> rfl), by (with_reducible repeat (first | apply Ra_ | apply Rn_ | apply Rd_)); exact Kd.R_mono (Kd.R_far (p := ⟨gb160, 1, none⟩) (Kd.R_far (p := ⟨gb160, 0, none⟩) (Kd.R_far (p := ⟨gb160, 1, none⟩) (Kd.R_types HO164.out BK160.out (by decide)) (fun _ hk => hk.2) (.slice Ao25 y168.length co25)) (fun _ hk => hk.2) (.slice Ao21 t162.length co21)) (fun _ hk => hk.2) (.slice Ao25 y168.length co25)) (fun _ hk => trivial), by (with_reducible repeat (first | apply Ra_ | apply Rn_ | apply Rd_)); exact Kd.R_mono (Kd.R_far (p := ⟨gb160, 1, none⟩) (Kd.R_far (p := ⟨gb160, 0, none⟩) (Kd.R_far (p := ⟨gb160, 1, none⟩) (Kd.R_types HO170.out BK160.out (by decide)) (fun _ hk => hk.2) (.slice Ao25 y168.length co25)) (fun _ hk => hk.2) (.slice Ao21 t162.length co21)) (fun _ hk => hk.2) (.slice Ao25 y168.length co25)) (fun _ hk => trivial), b_ HB⟩
 ·refine bodyPost_ret (results_ctt rfl _ _ gb160 34 #[.slice none 0 0, .slice none 0 0] (0, 0) _ rfl (pu_ (cs := #[.slice none 0 0, .slice none 0 0]) (pu_ (cs := #[.slice none 0 0, .slice none 0 0]) (h_ BK160))) Try.underlying34 rfl (by kernel_rfl)) rfl ?_
  exact ⟨_, _, by first | rfl | (simp [errW_none, errW_some] <;> rfl) | (simp [*, errW_none, errW_some] <;> rfl), by first | exact Kd.R_nil _ _ _ _ _ | exact Kd.N_nil _ _ _ _ _ | exact Kd.V_nil _ _ _ _ _ | exact Kd.Q_nil _ _ _ _ _ | exact Kd.S_nil _ _ _ _ _, by first | exact Kd.R_nil _ _ _ _ _ | exact Kd.N_nil _ _ _ _ _ | exact Kd.V_nil _ _ _ _ _ | exact Kd.Q_nil _ _ _ _ _ | exact Kd.S_nil _ _ _ _ _, b_ HB⟩

/-! ### quorumref8_Save: function 54 -/
def quorumref8_Save.f (k : Nat) (l0_0 : List (S36)) (l0_1 : List Int) : Option ((List (S36)) × List Int × Int) := (quorumref0_CopyPend.f k l0_0 l0_1).bind fun bt173 => (if (bt173.2.length : Int) ≥ 6 then (some (([] : List (S36)), ([] : List Int), 2)) else (if bt173.2.length < 17592186044416 then (some (bt173.1, (bt173.2 ++ [(bt173.1.length : Int)]), 0)) else (none)))
theorem quorumref8_Save.mono : ∀ a0 a1 k, LeO (quorumref8_Save.f k a0 a1) (quorumref8_Save.f (k + 1) a0 a1) := by
 intro a0 a1 k
 unfold quorumref8_Save.f
 repeat' first
   | (with_reducible exact quorumref0_CopyPend.mono _ _ _)
   | (with_reducible exact LeO.refl _)
   | (with_reducible exact LeO.none _)
   | (with_reducible refine LeO.ite ?_ ?_)
   | (with_reducible refine LeO.bind ?_ (fun _ => ?_))
   | exact quorumref0_CopyPend.mono _ _ _
   | exact LeO.none _
   | refine LeO.ite ?_ ?_
   | refine LeO.bind ?_ (fun _ => ?_)
set_option maxHeartbeats 8000000 in
set_option maxRecDepth 100000 in
theorem quorumref8_Save.calls (k : Nat) (A0_0 : Option Addr) (c0_0 : Nat) (l0_0 : List (S36)) (A0_1 : Option Addr) (c0_1 : Nat) (l0_1 : List Int) (r1 : List (S36)) (r2 : List Int) (r3 : Int) (w : World) (hr0_0 : Kd.C k36 w A0_0 l0_0.length l0_0) (hc0_0 : l0_0.length ≤ c0_0) (hr0_1 : Kd.C (Kd.int .i64) w A0_1 l0_1.length l0_1) (hc0_1 : l0_1.length ≤ c0_1) (h : quorumref8_Save.f k l0_0 l0_1 = some (r1, r2, r3)) :
  Calls Try.prog 54 #[.agg #[.slice A0_0 l0_0.length c0_0, .slice A0_1 l0_1.length c0_1]] w fun e w' => ∃ v0_ v1_ : Value, e = .returned (.tuple #[.agg #[v0_, v1_], .int .i64 r3]) ∧ Kd.R k36 36 w' w.heap.size (fun _ => True) v0_ r1 ∧ Kd.R (Kd.int .i64) 3 w' w.heap.size (fun _ => True) v1_ r2 ∧ Below w.heap.size w w' := by
 have hu34 := Try.underlying34
 have HR0_0 := mk0 hr0_0
 have HC0_0 := mk0 hc0_0
 clear hr0_0 hc0_0
 have HR0_1 := mk0 hr0_1
 have HC0_1 := mk0 hc0_1
 clear hr0_1 hc0_1
 have HB := mk0 (Below.refl w.heap.size w)
 have H : ((quorumref0_CopyPend.f k l0_0 l0_1).bind fun bt173 => (if (bt173.2.length : Int) ≥ 6 then (some (([] : List (S36)), ([] : List Int), 2)) else (if bt173.2.length < 17592186044416 then (some (bt173.1, (bt173.2 ++ [(bt173.1.length : Int)]), 0)) else (none)))) = some (r1, r2, r3) := h
 clear h
 replace H := Option.bind_eq_some_iff.mp H
 obtain ⟨⟨t173, t176⟩, A20, H⟩ := H
 try dsimp only at H
 have A2 := mk0 A20
 clear A20
 by_cases c3 : (t176.length : Int) ≥ 6
 focus
  rw [if_pos c3] at H
  have c3b0 : decide (6 ≤ (t176.length : Int)) = true := decide_eq_true c3
  have c3b1 : decide (6 ≤ t176.length) = true := decide_eq_true (by omega)
  clear c3
  simp only [Option.some.injEq, Prod.mk.injEq] at H
  obtain ⟨rfl, rfl, rfl⟩ := H
  go_enter Try.func54, Try.ntmps54
 rotate_left 1
 focus
  rw [if_neg c3] at H
  have c3b0 : decide (6 ≤ (t176.length : Int)) = false := decide_eq_false c3
  have c3b1 : decide (6 ≤ t176.length) = false := decide_eq_false (by omega)
  clear c3
  by_cases c13 : t176.length < 17592186044416
  focus
   rw [if_pos c13] at H
   have LMc13 := mk0 c13
   clear c13
   obtain ⟨y179, hy179⟩ : ∃ y_ : List Int, y_ = (t176 ++ [(t173.length : Int)]) := ⟨_, rfl⟩
   replace H : (some (t173, y179, 0)) = some (r1, r2, r3) := by first | (rw [hy179]; with_reducible exact H) | (have H2_ := (Option.bind_some _ _).symm.trans H; rw [hy179]; with_reducible exact H2_) | (have H2_ := (Option.bind_some _ _).symm.trans H; with_reducible exact H2_) | with_reducible exact H | (rw [hy179]; exact H) | exact H
   have Ny179 := mk0 hy179
   clear hy179
   simp only [Option.some.injEq, Prod.mk.injEq] at H
   obtain ⟨rfl, rfl, rfl⟩ := H
   go_enter Try.func54, Try.ntmps54
  rotate_left 1
  ·rw [if_neg c13] at H
   exact absurd H (by simp)
 rotate_right 1
 all_goals go_wp2_with (first | ((with_reducible refine gate_dst (N := 1) rfl ?_); refine bx_ (N := 1) (cs := #[.slice A0_0 l0_0.length c0_0, .slice A0_1 l0_1.length c0_1]) (t := 34) (h := ?_); intro gb171 hg w14 hbox hb; have n2_ := mk0 (gz_ HB hg); have n3_ := mk0 (gz_ HB hg); replace HB := mk0 (bt_ (b_ HB) hb); have BK171 := mk0 (hbox); have GW171 := n2_; have GE171 := n3_; clear n2_ n3_; clear hb hbox hg) | ((with_reducible refine gate_dst (N := 2) rfl ?_); refine bx_ (N := 2) (cs := #[.slice none 0 0, .slice none 0 0]) (t := 34) (h := ?_); intro gb172 hg w15 hbox hb; have n3_ := mk0 (gz_ HB hg); have n4_ := mk0 (gz_ HB hg); have n5_ := mk0 (ne1_ BK171 hg); have n6_ := mk0 (ne2_ BK171 hg); replace BK171 := mk0 (u_ BK171 hb); replace HB := mk0 (bt_ (b_ HB) hb); have BK172 := mk0 (hbox); have GW172 := n3_; have GE172 := n4_; have NB171_172 := n5_; have NB172_171 := n6_; clear n3_ n4_ n5_ n6_ hb hbox hg; have hnb16 := NB171_172.out; have hnc16 := NB172_171.out; obtain ⟨hcz17_0, hcz17_1, hfz17_0, hfz17_1⟩ := c2_ BK171) | ((with_reducible refine gate_callee (f := 24) rfl ?_); refine gL_ (some 5) Try.func24 #[.agg #[.slice A0_0 l0_0.length c0_0, .slice A0_1 l0_1.length c0_1]] (h := ?_); (with_reducible refine (quorumref0_CopyPend.calls k _ _ l0_0 _ _ l0_1 t173 t176 _ ?side1 ?side2 ?side3 ?side4 A2.out).mono ?_); (case side1 => exact cb_ HR0_0 HB); (case side2 => exact HC0_0.out); (case side3 => exact cb_ HR0_1 HB); (case side4 => exact HC0_1.out); rintro e w18 ⟨v174, v177, rfl, ho0, ho1, hb⟩; refine ⟨_, rfl, ?_⟩; have n0_ := mk0 (Kd.R_lower ho0 (bz_ (b_ HB))); have n1_ := mk0 (Kd.R_lower ho1 (bz_ (b_ HB))); replace BK171 := mk0 (u_ BK171 hb); replace BK172 := mk0 (u_ BK172 hb); replace HB := mk0 (bt_ (b_ HB) hb); have HO175 := n0_; have HO178 := n1_; clear n0_ n1_; (try clear hb); (try clear ho0); (try clear ho1); obtain ⟨Ao19, co19, eo19⟩ := Kd.R_slice HO175.out; subst eo19; obtain ⟨hcz20_0, hcz20_1, hfz20_0, hfz20_1⟩ := c2_ BK171; obtain ⟨Ao21, co21, eo21⟩ := Kd.R_slice HO178.out; subst eo21; (try obtain ⟨hcz12_0, hcz12_1, hfz12_0, hfz12_1⟩ := c2_ BK172)) | ((with_reducible refine gate_builtin (b := .append) (xs := #[.tmp 12, .tmp 16]) rfl ?_); at_builtin; refine Kd.R_append (Kd.int .i64) (w0 := w) w.heap.size rfl (.tmp 12) (.tmp 16) 24 3 (.int .i64 0) 8 rfl Try.underlying24 info3 rfl (by decide) (by omega) (.slice Ao21 t176.length co21) t176 (t173.length : Int) [.int .i64 (t173.length : Int)] (fun _ => True) (fun _ => False) rfl (by first | (go_simp; done) | (go_simp; rfl)) ?aP (fun _ hk => hk.elim) ?aF ?aO ?aB ?aS ?aL ?_; (case aP => exact rfl); (case aB => exact (b_ HB)); (case aF => exact (fun _ _ => trivial)); (case aO => exact (r2_ (Kd.R_mono (Kd.R_far (p := ⟨gb171, 1, none⟩) (Kd.R_far (p := ⟨gb171, 0, none⟩) (Kd.R_types HO178.out BK171.out (by decide)) (fun _ hk => hk.2) (.slice Ao19 t173.length co19)) (fun _ hk => hk.2) (.slice Ao21 t176.length co21)) (fun _ hk => trivial)))); (case aS => exact (bz_ (b_ HB))); (case aL => have := LMc13.out; omega); intro v180 w22 ho hb hg hat; rw [← Ny179.out] at ho; have n2_ := mk0 (Kd.R_over' (r2_ (Kd.R_mono (Kd.R_far (p := ⟨gb171, 1, none⟩) (Kd.R_far (p := ⟨gb171, 0, none⟩) (Kd.R_types HO175.out BK171.out (by decide)) (fun _ hk => hk.2) (.slice Ao19 t173.length co19)) (fun _ hk => hk.2) (.slice Ao21 t176.length co21)) (fun _ h_ => h_.1))) (Kd.R_typed (r2_ (Kd.R_mono (Kd.R_far (p := ⟨gb171, 1, none⟩) (Kd.R_far (p := ⟨gb171, 0, none⟩) (Kd.R_types HO178.out BK171.out (by decide)) (fun _ hk => hk.2) (.slice Ao19 t173.length co19)) (fun _ hk => hk.2) (.slice Ao21 t176.length co21)) (fun _ h_ => h_.1)))) (by decide) hg); replace BK171 := mk0 (blk_grown (g := gb171) (o := .cells #[.slice Ao19 t173.length co19, .slice Ao21 t176.length co21] 34 (0, 0)) (pu_ (cs := #[.slice Ao19 t173.length co19, .slice A0_1 l0_1.length c0_1]) (pu_ (cs := #[.slice A0_0 l0_0.length c0_0, .slice A0_1 l0_1.length c0_1]) (h_ BK171))) hg (Kd.R_ne HO178.out BK171.out (by decide))); replace BK172 := mk0 (blk_grown (g := gb172) (o := .cells #[.slice none 0 0, .slice none 0 0] 34 (0, 0)) (fa_ (fa_ (h_ BK172) NB172_171.out) NB172_171.out) hg (Kd.R_ne HO178.out BK172.out (by decide))); replace HB := mk0 (hb); have HO181 := mk0 (ho); clear HO175 HO178; have HO175 := n2_; clear n2_ ho hb hg hat; obtain ⟨Ao23, co23, eo23⟩ := Kd.R_slice HO181.out; subst eo23; obtain ⟨hcz24_0, hcz24_1, hfz24_0, hfz24_1⟩ := c2_ BK171; obtain ⟨hcz25_0, hcz25_1, hfz25_0, hfz25_1⟩ := c2_ BK172) | ((with_reducible refine gate_callee (f := 24) rfl ?_); refine gL_ (some 5) Try.func24 #[.agg #[.slice A0_0 l0_0.length c0_0, .slice A0_1 l0_1.length c0_1]] (h := ?_); (with_reducible refine (quorumref0_CopyPend.calls k _ _ l0_0 _ _ l0_1 t173 t176 _ ?side1 ?side2 ?side3 ?side4 A2.out).mono ?_); (case side1 => exact cb_ HR0_0 HB); (case side2 => exact HC0_0.out); (case side3 => exact cb_ HR0_1 HB); (case side4 => exact HC0_1.out); rintro e w8 ⟨v174, v177, rfl, ho0, ho1, hb⟩; refine ⟨_, rfl, ?_⟩; have n0_ := mk0 (Kd.R_lower ho0 (bz_ (b_ HB))); have n1_ := mk0 (Kd.R_lower ho1 (bz_ (b_ HB))); replace BK171 := mk0 (u_ BK171 hb); replace BK172 := mk0 (u_ BK172 hb); replace HB := mk0 (bt_ (b_ HB) hb); have HO175 := n0_; have HO178 := n1_; clear n0_ n1_; (try clear hb); (try clear ho0); (try clear ho1); obtain ⟨Ao9, co9, eo9⟩ := Kd.R_slice HO175.out; subst eo9; obtain ⟨hcz10_0, hcz10_1, hfz10_0, hfz10_1⟩ := c2_ BK171; obtain ⟨Ao11, co11, eo11⟩ := Kd.R_slice HO178.out; subst eo11; obtain ⟨hcz12_0, hcz12_1, hfz12_0, hfz12_1⟩ := c2_ BK172))
 ·refine bodyPost_ret (results_ct rfl _ _ gb172 34 #[.slice none 0 0, .slice none 0 0] (0, 0) _ rfl (pu_ (cs := #[.slice none 0 0, .slice none 0 0]) (pu_ (cs := #[.slice none 0 0, .slice none 0 0]) (fa_ (fa_ (h_ BK172) NB172_171.out) NB172_171.out))) Try.underlying34 rfl (by kernel_rfl)) rfl ?_
  exact ⟨_, _, by first | rfl | (simp [errW_none, errW_some] <;> rfl) | (simp [*, errW_none, errW_some] <;> rfl), by first | exact Kd.R_nil _ _ _ _ _ | exact Kd.N_nil _ _ _ _ _ | exact Kd.V_nil _ _ _ _ _ | exact Kd.Q_nil _ _ _ _ _ | exact Kd.S_nil _ _ _ _ _, by first | exact Kd.R_nil _ _ _ _ _ | exact Kd.N_nil _ _ _ _ _ | exact Kd.V_nil _ _ _ _ _ | exact Kd.Q_nil _ _ _ _ _ | exact Kd.S_nil _ _ _ _ _, b_ HB⟩
 ·refine bodyPost_ret (results_ct rfl _ _ gb172 34 #[.slice Ao19 t173.length co19, .slice Ao23 y179.length co23] (0, 0) _ rfl (pu_ (cs := #[.slice Ao19 t173.length co19, .slice none 0 0]) (pu_ (cs := #[.slice none 0 0, .slice none 0 0]) (fa_ (h_ BK172) NB172_171.out))) Try.underlying34 rfl (by kernel_rfl)) rfl ?_
  exact ⟨_, _, by first | rfl | (simp [errW_none, errW_some] <;> rfl) | (simp [*, errW_none, errW_some] <;> rfl), by (with_reducible repeat (first | apply Ra_ | apply Rn_ | apply Rd_)); exact Kd.R_mono (Kd.R_far (p := ⟨gb172, 1, none⟩) (Kd.R_far (p := ⟨gb172, 0, none⟩) (Kd.R_far (p := ⟨gb171, 1, none⟩) (Kd.R_types (Kd.R_types HO175.out BK171.out (by decide)) BK172.out (by decide)) (fun _ hk => hk.1.2) (.slice Ao23 y179.length co23)) (fun _ hk => hk.2) (.slice Ao19 t173.length co19)) (fun _ hk => hk.2) (.slice Ao23 y179.length co23)) (fun _ hk => trivial), by (with_reducible repeat (first | apply Ra_ | apply Rn_ | apply Rd_)); exact Kd.R_mono (Kd.R_far (p := ⟨gb172, 1, none⟩) (Kd.R_far (p := ⟨gb172, 0, none⟩) (Kd.R_far (p := ⟨gb171, 1, none⟩) (Kd.R_types (Kd.R_types HO181.out BK171.out (by decide)) BK172.out (by decide)) (fun _ hk => hk.1.2) (.slice Ao23 y179.length co23)) (fun _ hk => hk.2) (.slice Ao19 t173.length co19)) (fun _ hk => hk.2) (.slice Ao23 y179.length co23)) (fun _ hk => trivial), b_ HB⟩

/-! ### pend_marked: function 112 -/
def pend_marked.j0 : Nat → Bool → List (S36) → List Int → Option ((List (S36)) × List Int × Int)
 | 0, _, _, _ => none
 | k + 1, x11, x183000, x183001 => if x11 = true then (some (([] : List (S36)), ([] : List Int), 7)) else ((pend_Own.f x183000 x183001).bind fun bt185 => (some (bt185.1, bt185.2, 0)))
def pend_marked.f (k : Nat) (l0_0 : List (S36)) (l0_1 : List Int) (a1 : Int) : Option ((List (S36)) × List Int × Int) := (pend_May.f k l0_0 l0_1).bind fun t184 => (if t184 = true then (if a1 < 0 then (pend_marked.j0 k true l0_0 l0_1) else (pend_marked.j0 k (decide (a1 ≥ (l0_1.length : Int))) l0_0 l0_1)) else (some (([] : List (S36)), ([] : List Int), 1)))
theorem pend_marked.mono_l : ∀ k, (∀ y0 y1 y2, LeO (pend_marked.j0 k y0 y1 y2) (pend_marked.j0 (k + 1) y0 y1 y2))
 | 0 => fun _ _ _ r h => by simp [pend_marked.j0] at h
 | k + 1 => by
  have ih0 := pend_marked.mono_l k
  ·intro y0 y1 y2
   unfold pend_marked.j0
   repeat' first
   | (with_reducible exact ih0 _ _ _)
   | (with_reducible exact pend_May.mono _ _ _)
   | (with_reducible exact LeO.refl _)
   | (with_reducible exact LeO.none _)
   | (with_reducible refine LeO.ite ?_ ?_)
   | (with_reducible refine LeO.bind ?_ (fun _ => ?_))
   | exact ih0 _ _ _
   | exact pend_May.mono _ _ _
   | exact LeO.none _
   | refine LeO.ite ?_ ?_
   | refine LeO.bind ?_ (fun _ => ?_)
theorem pend_marked.mono : ∀ a0 a1 a2 k, LeO (pend_marked.f k a0 a1 a2) (pend_marked.f (k + 1) a0 a1 a2) := by
 intro a0 a1 a2 k
 have ih0 := pend_marked.mono_l k
 unfold pend_marked.f
 repeat' first
   | (with_reducible exact ih0 _ _ _)
   | (with_reducible exact pend_May.mono _ _ _)
   | (with_reducible exact LeO.refl _)
   | (with_reducible exact LeO.none _)
   | (with_reducible refine LeO.ite ?_ ?_)
   | (with_reducible refine LeO.bind ?_ (fun _ => ?_))
   | exact ih0 _ _ _
   | exact pend_May.mono _ _ _
   | exact LeO.none _
   | refine LeO.ite ?_ ?_
   | refine LeO.bind ?_ (fun _ => ?_)
set_option maxHeartbeats 8000000 in
set_option maxRecDepth 100000 in
theorem pend_marked.calls (k : Nat) (A0_0 : Option Addr) (c0_0 : Nat) (l0_0 : List (S36)) (A0_1 : Option Addr) (c0_1 : Nat) (l0_1 : List Int) (a1 : Int) (r1 : List (S36)) (r2 : List Int) (r3 : Int) (w : World) (hr0_0 : Kd.C k36 w A0_0 l0_0.length l0_0) (hc0_0 : l0_0.length ≤ c0_0) (hr0_1 : Kd.C (Kd.int .i64) w A0_1 l0_1.length l0_1) (hc0_1 : l0_1.length ≤ c0_1) (h : pend_marked.f k l0_0 l0_1 a1 = some (r1, r2, r3)) :
  Calls Try.prog 112 #[.agg #[.slice A0_0 l0_0.length c0_0, .slice A0_1 l0_1.length c0_1], .int .i64 a1] w fun e w' => ∃ v0_ v1_ : Value, e = .returned (.tuple #[.agg #[v0_, v1_], .int .i64 r3]) ∧ Kd.R k36 36 w' w.heap.size (fun _ => True) v0_ r1 ∧ Kd.R (Kd.int .i64) 3 w' w.heap.size (fun _ => True) v1_ r2 ∧ Below w.heap.size w w' := by
 have hu34 := Try.underlying34
 have HR0_0 := mk0 hr0_0
 have HC0_0 := mk0 hc0_0
 clear hr0_0 hc0_0
 have HR0_1 := mk0 hr0_1
 have HC0_1 := mk0 hc0_1
 clear hr0_1 hc0_1
 have HB := mk0 (Below.refl w.heap.size w)
 have H : ((pend_May.f k l0_0 l0_1).bind fun t184 => (if t184 = true then (if a1 < 0 then (pend_marked.j0 k true l0_0 l0_1) else (pend_marked.j0 k (decide (a1 ≥ (l0_1.length : Int))) l0_0 l0_1)) else (some (([] : List (S36)), ([] : List Int), 1)))) = some (r1, r2, r3) := h
 clear h
 replace H := Option.bind_eq_some_iff.mp H
 obtain ⟨t184, A30, H⟩ := H
 try dsimp only at H
 have A3 := mk0 A30
 clear A30
 by_cases c4 : t184 = true
 ·subst c4
  rw [if_pos rfl] at H
  have HC5 := mk0 H
  clear H
  go_enter Try.func112, Try.ntmps112
  go_upto_region 3 with (first | ((with_reducible refine gate_dst (N := 2) rfl ?_); (try (refine gate_guard (by rfl) ?_; dsimp only)); refine bx_ (N := 2) (cs := #[.slice A0_0 l0_0.length c0_0, .slice A0_1 l0_1.length c0_1]) (t := 34) (h := ?_); intro gb182 hg w6 hbox hb; have n2_ := mk0 (gz_ HB hg); have n3_ := mk0 (gz_ HB hg); replace HB := mk0 (bt_ (b_ HB) hb); have BK182 := mk0 (hbox); have GW182 := n2_; have GE182 := n3_; clear n2_ n3_; clear hb hbox hg) | ((with_reducible refine gate_dst (N := 4) rfl ?_); (try (refine gate_guard (by rfl) ?_; dsimp only)); refine bx_ (N := 4) (cs := #[.slice none 0 0, .slice none 0 0]) (t := 34) (h := ?_); intro gb183 hg w7 hbox hb; have n3_ := mk0 (gz_ HB hg); have n4_ := mk0 (gz_ HB hg); have n5_ := mk0 (ne1_ BK182 hg); have n6_ := mk0 (ne2_ BK182 hg); replace BK182 := mk0 (u_ BK182 hb); replace HB := mk0 (bt_ (b_ HB) hb); have BK183 := mk0 (hbox); have GW183 := n3_; have GE183 := n4_; have NB182_183 := n5_; have NB183_182 := n6_; clear n3_ n4_ n5_ n6_ hb hbox hg; have hnb8 := NB182_183.out; have hnc8 := NB183_182.out; obtain ⟨hcz9_0, hcz9_1, hfz9_0, hfz9_1⟩ := c2_ BK182) | ((with_reducible refine gate_callee (f := 97) rfl ?_); refine gL_ (some 8) Try.func97 #[.agg #[.slice A0_0 l0_0.length c0_0, .slice A0_1 l0_1.length c0_1]] (h := ?_); (with_reducible refine (pend_May.calls k _ _ l0_0 _ _ l0_1 true _ ?side1 ?side2 ?side3 ?side4 A3.out).mono ?_); (case side1 => exact cb_ HR0_0 HB); (case side2 => exact HC0_0.out); (case side3 => exact cb_ HR0_1 HB); (case side4 => exact HC0_1.out); rintro e w10 ⟨rfl, hb⟩; refine ⟨_, rfl, ?_⟩; replace BK182 := mk0 (u_ BK182 hb); replace BK183 := mk0 (u_ BK183 hb); replace HB := mk0 (bt_ (b_ HB) hb); (try clear hb)))
  (try simp only [Act.put, List.setIfInBounds_toArray, List.set_cons_zero, List.set_cons_succ])
  go_cut [11] (fun v11 wc => ∃ (kq : Nat) (x11_4 : Bool), v11 = .bool x11_4 ∧ Fc (pend_marked.j0 kq x11_4 l0_0 l0_1 = some (r1, r2, r3)) ∧ Fc (kq ≤ k) ∧ Fc (wc.heap[gb182]? = some (.cells #[(.slice A0_0 l0_0.length c0_0), (.slice A0_1 l0_1.length c0_1)] 34 (0, 0))) ∧ Fc (wc.heap[gb183]? = some (.cells #[(.slice none 0 0), (.slice none 0 0)] 34 (0, 0))) ∧ Fc (Below w.heap.size w wc))
  case first =>
   have H := HC5.out
   clear HC5
   by_cases c11 : a1 < 0
   ·rw [if_pos c11] at H
    have c11b0 : decide (a1 < 0) = true := decide_eq_true c11
    clear c11
    (first | rw [c11b0] | (simp only [i64_w, i32_w]; rw [c11b0]) | skip)
    have H' := mk0 H
    clear H
    go_wp2
    go_meet
    case rel => exact ⟨_, (true), (by first | rfl | (simp; done) | (simp [*]; done)), H', ⟨by first | omega | exact Nat.le_refl _⟩, ⟨h_ BK182⟩, ⟨h_ BK183⟩, ⟨b_ HB⟩⟩
   ·rw [if_neg c11] at H
    have c11b0 : decide (a1 < 0) = false := decide_eq_false c11
    clear c11
    (first | rw [c11b0] | (simp only [i64_w, i32_w]; rw [c11b0]) | skip)
    have H' := mk0 H
    clear H
    have hnb12 := NB182_183.out
    have hnc12 := NB183_182.out
    obtain ⟨hcz13_0, hcz13_1, hfz13_0, hfz13_1⟩ := c2_ BK182
    go_wp2
    go_meet
    case rel => exact ⟨_, (decide (a1 ≥ (l0_1.length : Int))), (by first | rfl | (simp; done) | (simp [*]; done)), H', ⟨by first | omega | exact Nat.le_refl _⟩, ⟨h_ BK182⟩, ⟨h_ BK183⟩, ⟨b_ HB⟩⟩
  case rest =>
   clear HC5
   try clear c4
   try clear c11
   try clear c11b0
   try clear hcz13_0
   try clear hcz13_1
   try clear hcz9_0
   try clear hcz9_1
   try clear hfz13_0
   try clear hfz13_1
   try clear hfz9_0
   try clear hfz9_1
   obtain ⟨kq, x11_4, rfl, HA, HJ4, BK182, BK183, HB⟩ := hcut
   cases kq with
   | zero => exact absurd HA.out (by simp [pend_marked.j0])
   | succ kj4 =>
    have H := HA.out
    clear HA
    simp only [pend_marked.j0] at H
    as_aux_lemma =>
     by_cases c14 : x11_4 = true
     ·subst c14
      rw [if_pos rfl] at H
      simp only [Option.some.injEq, Prod.mk.injEq] at H
      obtain ⟨rfl, rfl, rfl⟩ := H
      have hnb15 := NB183_182.out
      have hnc15 := NB182_183.out
      obtain ⟨hcz16_0, hcz16_1, hfz16_0, hfz16_1⟩ := c2_ BK183
      go_wp2
      refine bodyPost_ret (results_ct rfl _ _ gb183 34 #[.slice none 0 0, .slice none 0 0] (0, 0) _ rfl (pu_ (cs := #[.slice none 0 0, .slice none 0 0]) (pu_ (cs := #[.slice none 0 0, .slice none 0 0]) (h_ BK183))) Try.underlying34 rfl (by kernel_rfl)) rfl ?_
      exact ⟨_, _, by first | rfl | (simp [errW_none, errW_some] <;> rfl) | (simp [*, errW_none, errW_some] <;> rfl), by first | exact Kd.R_nil _ _ _ _ _ | exact Kd.N_nil _ _ _ _ _ | exact Kd.V_nil _ _ _ _ _ | exact Kd.Q_nil _ _ _ _ _ | exact Kd.S_nil _ _ _ _ _, by first | exact Kd.R_nil _ _ _ _ _ | exact Kd.N_nil _ _ _ _ _ | exact Kd.V_nil _ _ _ _ _ | exact Kd.Q_nil _ _ _ _ _ | exact Kd.S_nil _ _ _ _ _, b_ HB⟩
     ·replace c14 := Bool.eq_false_iff.mpr c14
      subst c14
      rw [if_neg (show ¬ (false = true) by decide)] at H
      replace H := Option.bind_eq_some_iff.mp H
      obtain ⟨⟨t185, t188⟩, A170, H⟩ := H
      try dsimp only at H
      have A17 := mk0 A170
      clear A170
      simp only [Option.some.injEq, Prod.mk.injEq] at H
      obtain ⟨rfl, rfl, rfl⟩ := H
      have hnb18 := NB182_183.out
      have hnc18 := NB183_182.out
      obtain ⟨hcz19_0, hcz19_1, hfz19_0, hfz19_1⟩ := c2_ BK182
      go_wp2_with (first | ((with_reducible refine gate_callee (f := 111) rfl ?_); refine gL_ (some 23) Try.func111 #[.agg #[.slice A0_0 l0_0.length c0_0, .slice A0_1 l0_1.length c0_1]] (h := ?_); (with_reducible refine (pend_Own.calls _ _ l0_0 _ _ l0_1 t185 t188 _ ?side1 ?side2 ?side3 ?side4 A17.out).mono ?_); (case side1 => exact cb_ HR0_0 HB); (case side2 => exact HC0_0.out); (case side3 => exact cb_ HR0_1 HB); (case side4 => exact HC0_1.out); rintro e w20 ⟨v186, v189, rfl, ho0, ho1, hb⟩; refine ⟨_, rfl, ?_⟩; have n0_ := mk0 (Kd.R_lower ho0 (bz_ (b_ HB))); have n1_ := mk0 (Kd.R_lower ho1 (bz_ (b_ HB))); replace BK182 := mk0 (u_ BK182 hb); replace BK183 := mk0 (u_ BK183 hb); replace HB := mk0 (bt_ (b_ HB) hb); have HO187 := n0_; have HO190 := n1_; clear n0_ n1_; (try clear hb); (try clear ho0); (try clear ho1); obtain ⟨Ao21, co21, eo21⟩ := Kd.R_slice HO187.out; subst eo21; obtain ⟨hcz22_0, hcz22_1, hfz22_0, hfz22_1⟩ := c2_ BK183; obtain ⟨Ao23, co23, eo23⟩ := Kd.R_slice HO190.out; subst eo23))
      refine bodyPost_ret (results_ct rfl _ _ gb183 34 #[.slice Ao21 t185.length co21, .slice Ao23 t188.length co23] (0, 0) _ rfl (pu_ (cs := #[.slice Ao21 t185.length co21, .slice none 0 0]) (pu_ (cs := #[.slice none 0 0, .slice none 0 0]) (h_ BK183))) Try.underlying34 rfl (by kernel_rfl)) rfl ?_
      exact ⟨_, _, by first | rfl | (simp [errW_none, errW_some] <;> rfl) | (simp [*, errW_none, errW_some] <;> rfl), by (with_reducible repeat (first | apply Ra_ | apply Rn_ | apply Rd_)); exact Kd.R_mono (Kd.R_far (p := ⟨gb183, 1, none⟩) (Kd.R_far (p := ⟨gb183, 0, none⟩) (Kd.R_types HO187.out BK183.out (by decide)) (fun _ hk => hk.2) (.slice Ao21 t185.length co21)) (fun _ hk => hk.2) (.slice Ao23 t188.length co23)) (fun _ hk => trivial), by (with_reducible repeat (first | apply Ra_ | apply Rn_ | apply Rd_)); exact Kd.R_mono (Kd.R_far (p := ⟨gb183, 1, none⟩) (Kd.R_far (p := ⟨gb183, 0, none⟩) (Kd.R_types HO190.out BK183.out (by decide)) (fun _ hk => hk.2) (.slice Ao21 t185.length co21)) (fun _ hk => hk.2) (.slice Ao23 t188.length co23)) (fun _ hk => trivial), b_ HB⟩
 ·replace c4 := Bool.eq_false_iff.mpr c4
  subst c4
  rw [if_neg (show ¬ (false = true) by decide)] at H
  simp only [Option.some.injEq, Prod.mk.injEq] at H
  obtain ⟨rfl, rfl, rfl⟩ := H
  go_enter Try.func112, Try.ntmps112
  go_wp2_with (first | ((with_reducible refine gate_dst (N := 2) rfl ?_); (try (refine gate_guard (by rfl) ?_; dsimp only)); refine bx_ (N := 2) (cs := #[.slice A0_0 l0_0.length c0_0, .slice A0_1 l0_1.length c0_1]) (t := 34) (h := ?_); intro gb182 hg w24 hbox hb; have n2_ := mk0 (gz_ HB hg); have n3_ := mk0 (gz_ HB hg); replace HB := mk0 (bt_ (b_ HB) hb); have BK182 := mk0 (hbox); have GW182 := n2_; have GE182 := n3_; clear n2_ n3_; clear hb hbox hg) | ((with_reducible refine gate_dst (N := 4) rfl ?_); (try (refine gate_guard (by rfl) ?_; dsimp only)); refine bx_ (N := 4) (cs := #[.slice none 0 0, .slice none 0 0]) (t := 34) (h := ?_); intro gb183 hg w25 hbox hb; have n3_ := mk0 (gz_ HB hg); have n4_ := mk0 (gz_ HB hg); have n5_ := mk0 (ne1_ BK182 hg); have n6_ := mk0 (ne2_ BK182 hg); replace BK182 := mk0 (u_ BK182 hb); replace HB := mk0 (bt_ (b_ HB) hb); have BK183 := mk0 (hbox); have GW183 := n3_; have GE183 := n4_; have NB182_183 := n5_; have NB183_182 := n6_; clear n3_ n4_ n5_ n6_ hb hbox hg; have hnb26 := NB182_183.out; have hnc26 := NB183_182.out; obtain ⟨hcz27_0, hcz27_1, hfz27_0, hfz27_1⟩ := c2_ BK182) | ((with_reducible refine gate_callee (f := 97) rfl ?_); refine gL_ (some 8) Try.func97 #[.agg #[.slice A0_0 l0_0.length c0_0, .slice A0_1 l0_1.length c0_1]] (h := ?_); (with_reducible refine (pend_May.calls k _ _ l0_0 _ _ l0_1 false _ ?side1 ?side2 ?side3 ?side4 A3.out).mono ?_); (case side1 => exact cb_ HR0_0 HB); (case side2 => exact HC0_0.out); (case side3 => exact cb_ HR0_1 HB); (case side4 => exact HC0_1.out); rintro e w28 ⟨rfl, hb⟩; refine ⟨_, rfl, ?_⟩; replace BK182 := mk0 (u_ BK182 hb); replace BK183 := mk0 (u_ BK183 hb); replace HB := mk0 (bt_ (b_ HB) hb); (try clear hb); obtain ⟨hcz29_0, hcz29_1, hfz29_0, hfz29_1⟩ := c2_ BK183))
  refine bodyPost_ret (results_ct rfl _ _ gb183 34 #[.slice none 0 0, .slice none 0 0] (0, 0) _ rfl (pu_ (cs := #[.slice none 0 0, .slice none 0 0]) (pu_ (cs := #[.slice none 0 0, .slice none 0 0]) (h_ BK183))) Try.underlying34 rfl (by kernel_rfl)) rfl ?_
  exact ⟨_, _, by first | rfl | (simp [errW_none, errW_some] <;> rfl) | (simp [*, errW_none, errW_some] <;> rfl), by first | exact Kd.R_nil _ _ _ _ _ | exact Kd.N_nil _ _ _ _ _ | exact Kd.V_nil _ _ _ _ _ | exact Kd.Q_nil _ _ _ _ _ | exact Kd.S_nil _ _ _ _ _, by first | exact Kd.R_nil _ _ _ _ _ | exact Kd.N_nil _ _ _ _ _ | exact Kd.V_nil _ _ _ _ _ | exact Kd.Q_nil _ _ _ _ _ | exact Kd.S_nil _ _ _ _ _, b_ HB⟩

/-! ### pend_Return: function 55 -/
def pend_Return.f (k : Nat) (l0_0 : List (S36)) (l0_1 : List Int) (a1 : Int) : Option ((List (S36)) × List Int × Int) := (pend_marked.f k l0_0 l0_1 a1).bind fun bt193 => (if bt193.2.2 = 0 then (if 0 ≤ a1 then (if a1 < (bt193.2.1.length : Int) then (if 0 ≤ (rd bt193.2.1 a1) then (if (rd bt193.2.1 a1) ≤ (bt193.1.length : Int) then (if 0 ≤ (wrap64 (a1 + 1)) then (if (wrap64 (a1 + 1)) ≤ (bt193.2.1.length : Int) then (some ((bt193.1.take ((rd bt193.2.1 a1) : Int).toNat), (bt193.2.1.take ((wrap64 (a1 + 1)) : Int).toNat), 0)) else (none)) else (none)) else (none)) else (none)) else (none)) else (none)) else (some (bt193.1, bt193.2.1, bt193.2.2)))
theorem pend_Return.mono : ∀ a0 a1 a2 k, LeO (pend_Return.f k a0 a1 a2) (pend_Return.f (k + 1) a0 a1 a2) := by
 intro a0 a1 a2 k
 unfold pend_Return.f
 repeat' first
   | (with_reducible exact pend_marked.mono _ _ _ _)
   | (with_reducible exact LeO.refl _)
   | (with_reducible exact LeO.none _)
   | (with_reducible refine LeO.ite ?_ ?_)
   | (with_reducible refine LeO.bind ?_ (fun _ => ?_))
   | exact pend_marked.mono _ _ _ _
   | exact LeO.none _
   | refine LeO.ite ?_ ?_
   | refine LeO.bind ?_ (fun _ => ?_)
def pend_Return.T4 : Bool × List (List Nat × List Nat) := (true, [([], []), ([0], [0]), ([], []), ([2], [2]), ([], []), ([3, 4], [3, 4]), ([5], [5]), ([1, 6], [1, 6]), ([], []), ([8], [8]), ([], []), ([10], [10]), ([9, 11], [9, 11]), ([0, 1, 2, 3, 4, 5, 6, 7, 8, 9], []), ([13, 7, 0, 1, 2, 3, 4, 5, 6, 7, 8, 9], [7, 13]), ([0, 1, 2, 3, 4, 5, 6, 7, 8, 9, 10, 11, 12, 13, 14], []), ([15, 12, 14, 0, 1, 2, 3, 4, 5, 6, 7, 8, 9, 10, 11, 12, 13, 14], [12, 15])])
def pend_Return.B4 : List Nat := [0, 1, 0, 4, 0, 28, 60, 127, 0, 256, 0, 1024, 3840, 1023, 9215, 32767, 65535]
theorem pend_Return.tab4 : rtab .any (opsOf Try.f55 4) = pend_Return.T4 := by kernel_rfl
theorem pend_Return.bits4 : waitsOk pend_Return.T4.2 pend_Return.B4 = true := by kernel_rfl
set_option maxHeartbeats 8000000 in
set_option maxRecDepth 100000 in
theorem pend_Return.calls (k : Nat) (A0_0 : Option Addr) (c0_0 : Nat) (l0_0 : List (S36)) (A0_1 : Option Addr) (c0_1 : Nat) (l0_1 : List Int) (a1 : Int) (r1 : List (S36)) (r2 : List Int) (r3 : Int) (w : World) (hr0_0 : Kd.C k36 w A0_0 l0_0.length l0_0) (hc0_0 : l0_0.length ≤ c0_0) (hr0_1 : Kd.C (Kd.int .i64) w A0_1 l0_1.length l0_1) (hc0_1 : l0_1.length ≤ c0_1) (h : pend_Return.f k l0_0 l0_1 a1 = some (r1, r2, r3)) :
  Calls Try.prog 55 #[.agg #[.slice A0_0 l0_0.length c0_0, .slice A0_1 l0_1.length c0_1], .int .i64 a1] w fun e w' => ∃ v0_ v1_ : Value, e = .returned (.tuple #[.agg #[v0_, v1_], .int .i64 r3]) ∧ Kd.R k36 36 w' w.heap.size (fun _ => True) v0_ r1 ∧ Kd.R (Kd.int .i64) 3 w' w.heap.size (fun _ => True) v1_ r2 ∧ Below w.heap.size w w' := by
 have hu34 := Try.underlying34
 have HR0_0 := mk0 hr0_0
 have HC0_0 := mk0 hc0_0
 clear hr0_0 hc0_0
 have HR0_1 := mk0 hr0_1
 have HC0_1 := mk0 hc0_1
 clear hr0_1 hc0_1
 have HB := mk0 (Below.refl w.heap.size w)
 have H : ((pend_marked.f k l0_0 l0_1 a1).bind fun bt193 => (if bt193.2.2 = 0 then (if 0 ≤ a1 then (if a1 < (bt193.2.1.length : Int) then (if 0 ≤ (rd bt193.2.1 a1) then (if (rd bt193.2.1 a1) ≤ (bt193.1.length : Int) then (if 0 ≤ (wrap64 (a1 + 1)) then (if (wrap64 (a1 + 1)) ≤ (bt193.2.1.length : Int) then (some ((bt193.1.take ((rd bt193.2.1 a1) : Int).toNat), (bt193.2.1.take ((wrap64 (a1 + 1)) : Int).toNat), 0)) else (none)) else (none)) else (none)) else (none)) else (none)) else (none)) else (some (bt193.1, bt193.2.1, bt193.2.2)))) = some (r1, r2, r3) := h
 clear h
 replace H := Option.bind_eq_some_iff.mp H
 obtain ⟨⟨t193, t196, t199⟩, A30, H⟩ := H
 try dsimp only at H
 have A3 := mk0 A30
 clear A30
 by_cases c4 : t199 = 0
 ·rw [if_pos c4] at H
  have c4b0 : (t199 == 0) = true := beq_iff_eq.mpr c4
  have c4b1 : (t199 != 0) = false := bne_eq_false_iff_eq.mpr c4
  clear c4
  by_cases c5 : 0 ≤ a1
  ·rw [if_pos c5] at H
   have c5b0 : decide (0 ≤ a1) = true := decide_eq_true c5
   clear c5
   by_cases c6 : a1 < (t196.length : Int)
   ·rw [if_pos c6] at H
    have c6b0 : decide (a1 < (t196.length : Int)) = true := decide_eq_true c6
    clear c6
    by_cases c7 : 0 ≤ (rd t196 a1)
    ·rw [if_pos c7] at H
     have c7b0 := eq_true c7
     have c7b1 : decide (0 ≤ (rd t196 a1)) = true := decide_eq_true c7
     clear c7
     by_cases c8 : (rd t196 a1) ≤ (t193.length : Int)
     ·rw [if_pos c8] at H
      have c8b0 := eq_true c8
      have c8b1 : decide ((rd t196 a1) ≤ (t193.length : Int)) = true := decide_eq_true c8
      clear c8
      obtain ⟨y202, hy202⟩ : ∃ y_ : List (S36), y_ = (t193.take ((rd t196 a1) : Int).toNat) := ⟨_, rfl⟩
      replace H : (if 0 ≤ (wrap64 (a1 + 1)) then (if (wrap64 (a1 + 1)) ≤ (t196.length : Int) then (some (y202, (t196.take ((wrap64 (a1 + 1)) : Int).toNat), 0)) else (none)) else (none)) = some (r1, r2, r3) := by first | (rw [hy202]; with_reducible exact H) | (have H2_ := (Option.bind_some _ _).symm.trans H; rw [hy202]; with_reducible exact H2_) | (have H2_ := (Option.bind_some _ _).symm.trans H; with_reducible exact H2_) | with_reducible exact H | (rw [hy202]; exact H) | exact H
      have Ny202 := mk0 hy202
      clear hy202
      obtain ⟨ji9, hji9⟩ : ∃ j_ : Int, (wrap64 (a1 + 1)) = j_ := ⟨_, rfl⟩
      replace H : (if 0 ≤ (ji9) then (if (ji9) ≤ (t196.length : Int) then (some (y202, (t196.take ((ji9) : Int).toNat), 0)) else (none)) else (none)) = some (r1, r2, r3) := by first | (rw [hji9] at H; exact H) | (simp only [hji9] at H ⊢; exact H)
      (try rw [hji9] at A3)
      have hji9w : (IntKind.i64.wrap (a1 + 1)) = ji9 := (i64_w _).trans hji9
      by_cases c10 : 0 ≤ (ji9)
      ·rw [if_pos c10] at H
       have c10b0 := eq_true c10
       have c10b1 : decide (0 ≤ (ji9)) = true := decide_eq_true c10
       clear c10
       by_cases c11 : (ji9) ≤ (t196.length : Int)
       ·rw [if_pos c11] at H
        have c11b0 := eq_true c11
        have c11b1 : decide ((ji9) ≤ (t196.length : Int)) = true := decide_eq_true c11
        clear c11
        obtain ⟨y205, hy205⟩ : ∃ y_ : List Int, y_ = (t196.take ((ji9) : Int).toNat) := ⟨_, rfl⟩
        replace H : (some (y202, y205, 0)) = some (r1, r2, r3) := by first | (rw [hy205]; with_reducible exact H) | (have H2_ := (Option.bind_some _ _).symm.trans H; rw [hy205]; with_reducible exact H2_) | (have H2_ := (Option.bind_some _ _).symm.trans H; with_reducible exact H2_) | with_reducible exact H | (rw [hy205]; exact H) | exact H
        have Ny205 := mk0 hy205
        clear hy205
        simp only [Option.some.injEq, Prod.mk.injEq] at H
        obtain ⟨rfl, rfl, rfl⟩ := H
        go_enter Try.func55, Try.ntmps55
        try go_wp2_with (first | ((with_reducible refine gate_dst (N := 2) rfl ?_); refine bx_ (N := 2) (cs := #[.slice A0_0 l0_0.length c0_0, .slice A0_1 l0_1.length c0_1]) (t := 34) (h := ?_); intro gb191 hg w12 hbox hb; have n2_ := mk0 (gz_ HB hg); have n3_ := mk0 (gz_ HB hg); replace HB := mk0 (bt_ (b_ HB) hb); have BK191 := mk0 (hbox); have GW191 := n2_; have GE191 := n3_; clear n2_ n3_; clear hb hbox hg) | ((with_reducible refine gate_dst (N := 4) rfl ?_); refine bx_ (N := 4) (cs := #[.slice none 0 0, .slice none 0 0]) (t := 34) (h := ?_); intro gb192 hg w13 hbox hb; have n3_ := mk0 (gz_ HB hg); have n4_ := mk0 (gz_ HB hg); have n5_ := mk0 (ne1_ BK191 hg); have n6_ := mk0 (ne2_ BK191 hg); replace BK191 := mk0 (u_ BK191 hb); replace HB := mk0 (bt_ (b_ HB) hb); have BK192 := mk0 (hbox); have GW192 := n3_; have GE192 := n4_; have NB191_192 := n5_; have NB192_191 := n6_; clear n3_ n4_ n5_ n6_ hb hbox hg; have hnb14 := NB191_192.out; have hnc14 := NB192_191.out; obtain ⟨hcz15_0, hcz15_1, hfz15_0, hfz15_1⟩ := c2_ BK191) | ((with_reducible refine gate_callee (f := 112) rfl ?_); refine gL_ (some 11) Try.func112 #[.agg #[.slice A0_0 l0_0.length c0_0, .slice A0_1 l0_1.length c0_1], .int .i64 a1] (h := ?_); (with_reducible refine (pend_marked.calls k _ _ l0_0 _ _ l0_1 a1 t193 t196 t199 _ ?side1 ?side2 ?side3 ?side4 A3.out).mono ?_); (case side1 => exact cb_ HR0_0 HB); (case side2 => exact HC0_0.out); (case side3 => exact cb_ HR0_1 HB); (case side4 => exact HC0_1.out); rintro e w16 ⟨v194, v197, rfl, ho0, ho1, hb⟩; refine ⟨_, rfl, ?_⟩; have n0_ := mk0 (Kd.R_lower ho0 (bz_ (b_ HB))); have n1_ := mk0 (Kd.R_lower ho1 (bz_ (b_ HB))); replace BK191 := mk0 (u_ BK191 hb); replace BK192 := mk0 (u_ BK192 hb); replace HB := mk0 (bt_ (b_ HB) hb); have HO195 := n0_; have HO198 := n1_; clear n0_ n1_; (try clear hb); (try clear ho0); (try clear ho1)) | ((with_reducible refine gate_dst (N := 6) rfl ?_); refine bx_ (N := 6) (cs := #[.slice none 0 0, .slice none 0 0]) (t := 34) (h := ?_); intro gb200 hg w17 hbox hb; have n6_ := mk0 (gz_ HB hg); have n7_ := mk0 (gz_ HB hg); have n8_ := mk0 (ne1_ BK191 hg); have n9_ := mk0 (ne2_ BK191 hg); have n10_ := mk0 (ne1_ BK192 hg); have n11_ := mk0 (ne2_ BK192 hg); replace HO195 := mk0 (Kd.R_below (r_ HO195) hb); replace HO198 := mk0 (Kd.R_below (r_ HO198) hb); replace BK191 := mk0 (u_ BK191 hb); replace BK192 := mk0 (u_ BK192 hb); replace HB := mk0 (bt_ (b_ HB) hb); have BK200 := mk0 (hbox); have GW200 := n6_; have GE200 := n7_; have NB191_200 := n8_; have NB200_191 := n9_; have NB192_200 := n10_; have NB200_192 := n11_; clear n6_ n7_ n8_ n9_ n10_ n11_ hb hbox hg; obtain ⟨Ao18, co18, eo18⟩ := Kd.R_slice HO195.out; subst eo18; have hnb19 := NB200_191.out; have hnc19 := NB191_200.out; have hnb20 := NB200_192.out; have hnc20 := NB192_200.out; obtain ⟨hcz21_0, hcz21_1, hfz21_0, hfz21_1⟩ := c2_ BK200; obtain ⟨Ao22, co22, eo22⟩ := Kd.R_slice HO198.out; subst eo22))
        have n0_ : Fc (Kd.R k36 36 ((w17.setCell ⟨gb200, 0, none⟩ (.slice Ao18 t193.length co18)).setCell ⟨gb200, 1, none⟩ (.slice Ao22 t196.length co22)) w.heap.size (fun _ => True) (.slice Ao18 t193.length co18) t193) := ⟨by (with_reducible repeat (first | apply Ra_ | apply Rn_ | apply Rd_)); exact Kd.R_mono (Kd.R_far (p := ⟨gb200, 1, none⟩) (Kd.R_far (p := ⟨gb200, 0, none⟩) (Kd.R_types HO195.out BK200.out (by decide)) (fun _ hk => hk.2) (.slice Ao18 t193.length co18)) (fun _ hk => hk.2) (.slice Ao22 t196.length co22)) (fun _ hk => trivial)⟩
        have n1_ : Fc (Kd.R (Kd.int .i64) 3 ((w17.setCell ⟨gb200, 0, none⟩ (.slice Ao18 t193.length co18)).setCell ⟨gb200, 1, none⟩ (.slice Ao22 t196.length co22)) w.heap.size (fun _ => True) (.slice Ao22 t196.length co22) t196) := ⟨by (with_reducible repeat (first | apply Ra_ | apply Rn_ | apply Rd_)); exact Kd.R_mono (Kd.R_far (p := ⟨gb200, 1, none⟩) (Kd.R_far (p := ⟨gb200, 0, none⟩) (Kd.R_types HO198.out BK200.out (by decide)) (fun _ hk => hk.2) (.slice Ao18 t193.length co18)) (fun _ hk => hk.2) (.slice Ao22 t196.length co22)) (fun _ hk => trivial)⟩
        have n2_ : Fc (((w17.setCell ⟨gb200, 0, none⟩ (.slice Ao18 t193.length co18)).setCell ⟨gb200, 1, none⟩ (.slice Ao22 t196.length co22)).heap[gb191]? = some (.cells #[.slice A0_0 l0_0.length c0_0, .slice A0_1 l0_1.length c0_1] 34 (0, 0))) := ⟨(fa_ (fa_ (h_ BK191) NB191_200.out) NB191_200.out)⟩
        have n3_ : Fc (((w17.setCell ⟨gb200, 0, none⟩ (.slice Ao18 t193.length co18)).setCell ⟨gb200, 1, none⟩ (.slice Ao22 t196.length co22)).heap[gb192]? = some (.cells #[.slice none 0 0, .slice none 0 0] 34 (0, 0))) := ⟨(fa_ (fa_ (h_ BK192) NB192_200.out) NB192_200.out)⟩
        have n4_ : Fc (((w17.setCell ⟨gb200, 0, none⟩ (.slice Ao18 t193.length co18)).setCell ⟨gb200, 1, none⟩ (.slice Ao22 t196.length co22)).heap[gb200]? = some (.cells #[.slice Ao18 t193.length co18, .slice Ao22 t196.length co22] 34 (0, 0))) := ⟨(pu_ (cs := #[.slice Ao18 t193.length co18, .slice none 0 0]) (pu_ (cs := #[.slice none 0 0, .slice none 0 0]) (h_ BK200)))⟩
        have n5_ : Fc (Below w.heap.size w ((w17.setCell ⟨gb200, 0, none⟩ (.slice Ao18 t193.length co18)).setCell ⟨gb200, 1, none⟩ (.slice Ao22 t196.length co22))) := ⟨b_ HB⟩
        (try clear HO195)
        (try clear HO198)
        (try clear BK191)
        (try clear BK192)
        (try clear BK200)
        (try clear HB)
        generalize ((w17.setCell ⟨gb200, 0, none⟩ (.slice Ao18 t193.length co18)).setCell ⟨gb200, 1, none⟩ (.slice Ao22 t196.length co22)) = w23 at n0_ n1_ n2_ n3_ n4_ n5_ ⊢
        have HO195 := n0_
        have HO198 := n1_
        have BK191 := n2_
        have BK192 := n3_
        have BK200 := n4_
        have HB := n5_
        clear n0_ n1_ n2_ n3_ n4_ n5_
        replace HO195 := mk0 (Rd_ HO195.out)
        replace HO198 := mk0 (Rd_ HO198.out)
        replace BK191 := mk0 (bD_ BK191.out)
        replace BK192 := mk0 (bD_ BK192.out)
        replace BK200 := mk0 (bD_ BK200.out)
        replace HB := mk0 (b1_ HB.out)
        have p201 : 0 ≤ (a1 : Int) := of_decide_eq_true (by first | (with_reducible assumption) | assumption)
        have q201 : a1 < (t196.length : Int) := of_decide_eq_true (by first | (with_reducible assumption) | assumption)
        obtain ⟨ad201, e201, hx201_0⟩ := Kd.at_int (Kd.R_reads' HO198.out).2.2 a1 p201 q201
        cases e201
        replace p201 := eq_true p201
        replace q201 := eq_true q201
        have q25 : ((rd t196 a1) : Int) ≤ ((t193.length : Int) : Int) := of_decide_eq_true (by first | (with_reducible assumption) | assumption)
        obtain ⟨i025, hi025, _, hsz25, _⟩ := info_parts info36
        have hcut25 := cut_to (P := Try.prog) 32 36 .i64 Try.underlying32 hi025 Ao18 t193.length co18 (rd t196 a1) (of_decide_eq_true (by first | (with_reducible assumption) | assumption)) q25 (Kd.R_reads' HO195.out).2.1
        have hr25 := Kd.R_take (m := ((rd t196 a1) : Int).toNat) HO195.out (by omega)
        have hy25 : y202.length = ((rd t196 a1) : Int).toNat := (by rw [Ny202.out, List.length_take]; omega)
        rw [← Ny202.out] at hr25
        rw [← hy25] at hr25 hcut25
        clear hy25 hi025 hsz25 HO195
        have HO204 := mk0 hr25
        clear hr25
        replace q25 := eq_true q25
        have q26 : ((ji9) : Int) ≤ ((t196.length : Int) : Int) := of_decide_eq_true (by first | (with_reducible assumption) | assumption)
        obtain ⟨i026, hi026, _, hsz26, _⟩ := info_parts info3
        have hcut26 := cut_to (P := Try.prog) 24 3 .i64 Try.underlying24 hi026 (some ad201) t196.length co22 (ji9) (of_decide_eq_true (by first | (with_reducible assumption) | assumption)) q26 (Kd.R_reads' HO198.out).2.1
        have hr26 := Kd.R_take (m := ((ji9) : Int).toNat) HO198.out (by omega)
        have hy26 : y205.length = ((ji9) : Int).toNat := (by rw [Ny205.out, List.length_take]; omega)
        rw [← Ny205.out] at hr26
        rw [← hy26] at hr26 hcut26
        clear hy26 hi026 hsz26 HO198
        have HO207 := mk0 hr26
        clear hr26
        replace q26 := eq_true q26
        refine start_ (n := 17) (S := fun w' => w'.cell? ⟨gb200, 0, none⟩ = some (.slice Ao18 t193.length co18) ∧ w'.cell? ⟨gb200, 1, none⟩ = some (.slice (some ad201) t196.length co22) ∧ w'.cell? (ad201.add (a1).toNat) = some (.int .i64 (rd t196 a1))) (ds := [14, 16]) (bt 17 0) (by kernel_rfl) rfl rfl ⟨bk_ BK200 0, bk_ BK200 1, hx201_0⟩ (fun hHeld => ?_); refine with_tabW pend_Return.tab4 pend_Return.bits4 (fun HT_ HW_ => ?_)
        generalize w23.drew = w24 at BK191 BK192 BK200 HB HO204 HO207 hx201_0 hHeld ⊢
        refine pq_ HT_.out 0 18 (bt 17 1) (h := ?_)
        refine pq_ HT_.out 2 20 (bt 17 5) (h := ?_)
        refine pq_ HT_.out 4 22 (bt 17 21) (h := ?_)
        refine pq_ HT_.out 8 26 (bt 17 277) (h := ?_)
        refine pq_ HT_.out 10 28 (bt 17 1301) (h := ?_)
        refine pq_ HT_.out 11 29 (bt 17 3349) (h := ?_)
        refine tq3_ HT_.out HW_.out 1 19 (bt 17 3351) hHeld (h := ?_)
        refine tq3_ HT_.out HW_.out 3 21 (bt 17 3359) hHeld (h := ?_)
        refine pq_ HT_.out 5 23 (bt 17 3391) (h := ?_)
        refine tq3_ HT_.out HW_.out 6 24 (bt 17 3455) hHeld (h := ?_)
        refine pq_ HT_.out 7 25 (bt 17 3583) (h := ?_)
        refine tq3_ HT_.out HW_.out 9 27 (bt 17 4095) hHeld (h := ?_)
        refine pq_ HT_.out 12 30 (bt 17 8191) (h := ?_)
        refine pq_ HT_.out 13 31 (bt 17 16383) (h := ?_)
        refine last_ (i := 14) (N := none) (bt 17 32767) rfl rfl (one_of HT_.out (by kernel_rfl)) (by decide) (fun K hK => ?_)
        have hs27 : w24.cell? ⟨gb200, 0, none⟩ = some (.slice Ao18 t193.length co18) := bk_ BK200 0
        have hfs27 := blk_frozen BK200.out 0
        have hns27_0 := NB191_200.out
        have hns27_1 := NB192_200.out
        have hms27_0 := NB200_191.out
        have hms27_1 := NB200_192.out
        refine skip_ (w1 := ?_) (by rfl) rfl ?_ ?_
        rotate_left
        ·go_simp
         rfl
        refine hK.out _ _ ?_
        clear hK K
        refine pq_ HT_.out 15 32 (bt 17 65535) (h := ?_)
        refine last_ (i := 16) (N := none) (bt 17 131071) rfl rfl (one_of HT_.out (by kernel_rfl)) (by decide) (fun K hK => ?_)
        have hs28 : w24.cell? ⟨gb200, 1, none⟩ = some (.slice (some ad201) t196.length co22) := bk_ BK200 1
        have hfs28 := blk_frozen BK200.out 1
        have hns28_0 := NB191_200.out
        have hns28_1 := NB192_200.out
        have hms28_0 := NB200_191.out
        have hms28_1 := NB200_192.out
        refine skip_ (w1 := ?_) (by rfl) rfl ?_ ?_
        rotate_left
        ·go_simp
         rfl
        refine hK.out _ _ ?_
        clear hK K
        refine done_ (done_of HT_.out (by kernel_rfl)) ?_
        obtain ⟨hcz29_0, hcz29_1, hfz29_0, hfz29_1⟩ := c2_ BK200
        obtain ⟨hcz30_0, hcz30_1, hfz30_0, hfz30_1⟩ := c2_ BK192
        try go_wp2
        refine bodyPost_ret (results_ct rfl _ _ gb192 34 #[.slice Ao18 y202.length co18, .slice (some ad201) y205.length co22] (0, 0) _ rfl (pu_ (cs := #[.slice Ao18 y202.length co18, .slice none 0 0]) (pu_ (cs := #[.slice none 0 0, .slice none 0 0]) (fa_ (fa_ (h_ BK192) NB192_200.out) NB192_200.out))) Try.underlying34 rfl (by kernel_rfl)) rfl ?_
        exact ⟨_, _, by first | rfl | (simp [errW_none, errW_some] <;> rfl) | (simp only [← hji9]; first | rfl | (simp [errW_none, errW_some] <;> rfl)) | (simp [*, errW_none, errW_some] <;> rfl), by (with_reducible repeat (first | apply Ra_ | apply Rn_ | apply Rd_)); exact Kd.R_mono (Kd.R_far (p := ⟨gb192, 1, none⟩) (Kd.R_far (p := ⟨gb192, 0, none⟩) (Kd.R_far (p := ⟨gb200, 1, none⟩) (Kd.R_far (p := ⟨gb200, 0, none⟩) (Kd.R_types (Kd.R_types HO204.out BK200.out (by decide)) BK192.out (by decide)) (fun _ hk => hk.1.2) (.slice Ao18 y202.length co18)) (fun _ hk => hk.1.2) (.slice (some ad201) y205.length co22)) (fun _ hk => hk.2) (.slice Ao18 y202.length co18)) (fun _ hk => hk.2) (.slice (some ad201) y205.length co22)) (fun _ hk => trivial), by (with_reducible repeat (first | apply Ra_ | apply Rn_ | apply Rd_)); exact Kd.R_mono (Kd.R_far (p := ⟨gb192, 1, none⟩) (Kd.R_far (p := ⟨gb192, 0, none⟩) (Kd.R_far (p := ⟨gb200, 1, none⟩) (Kd.R_far (p := ⟨gb200, 0, none⟩) (Kd.R_types (Kd.R_types HO207.out BK200.out (by decide)) BK192.out (by decide)) (fun _ hk => hk.1.2) (.slice Ao18 y202.length co18)) (fun _ hk => hk.1.2) (.slice (some ad201) y205.length co22)) (fun _ hk => hk.2) (.slice Ao18 y202.length co18)) (fun _ hk => hk.2) (.slice (some ad201) y205.length co22)) (fun _ hk => trivial), b_ HB⟩
       ·rw [if_neg c11] at H
        exact absurd H (by simp)
      ·rw [if_neg c10] at H
       exact absurd H (by simp)
     ·rw [if_neg c8] at H
      exact absurd H (by simp)
    ·rw [if_neg c7] at H
     exact absurd H (by simp)
   ·rw [if_neg c6] at H
    exact absurd H (by simp)
  ·rw [if_neg c5] at H
   exact absurd H (by simp)
 ·rw [if_neg c4] at H
  have c4b0 : (t199 == 0) = false := beq_eq_false_iff_ne.mpr c4
  have c4b1 : (t199 != 0) = true := bne_iff_ne.mpr c4
  simp only [Option.some.injEq, Prod.mk.injEq] at H
  obtain ⟨rfl, rfl, rfl⟩ := H
  go_enter Try.func55, Try.ntmps55
  go_wp2_with (first | ((with_reducible refine gate_dst (N := 2) rfl ?_); refine bx_ (N := 2) (cs := #[.slice A0_0 l0_0.length c0_0, .slice A0_1 l0_1.length c0_1]) (t := 34) (h := ?_); intro gb191 hg w31 hbox hb; have n2_ := mk0 (gz_ HB hg); have n3_ := mk0 (gz_ HB hg); replace HB := mk0 (bt_ (b_ HB) hb); have BK191 := mk0 (hbox); have GW191 := n2_; have GE191 := n3_; clear n2_ n3_; clear hb hbox hg) | ((with_reducible refine gate_dst (N := 4) rfl ?_); refine bx_ (N := 4) (cs := #[.slice none 0 0, .slice none 0 0]) (t := 34) (h := ?_); intro gb192 hg w32 hbox hb; have n3_ := mk0 (gz_ HB hg); have n4_ := mk0 (gz_ HB hg); have n5_ := mk0 (ne1_ BK191 hg); have n6_ := mk0 (ne2_ BK191 hg); replace BK191 := mk0 (u_ BK191 hb); replace HB := mk0 (bt_ (b_ HB) hb); have BK192 := mk0 (hbox); have GW192 := n3_; have GE192 := n4_; have NB191_192 := n5_; have NB192_191 := n6_; clear n3_ n4_ n5_ n6_ hb hbox hg; have hnb33 := NB191_192.out; have hnc33 := NB192_191.out; obtain ⟨hcz34_0, hcz34_1, hfz34_0, hfz34_1⟩ := c2_ BK191) | ((with_reducible refine gate_callee (f := 112) rfl ?_); refine gL_ (some 11) Try.func112 #[.agg #[.slice A0_0 l0_0.length c0_0, .slice A0_1 l0_1.length c0_1], .int .i64 a1] (h := ?_); (with_reducible refine (pend_marked.calls k _ _ l0_0 _ _ l0_1 a1 t193 t196 t199 _ ?side1 ?side2 ?side3 ?side4 A3.out).mono ?_); (case side1 => exact cb_ HR0_0 HB); (case side2 => exact HC0_0.out); (case side3 => exact cb_ HR0_1 HB); (case side4 => exact HC0_1.out); rintro e w35 ⟨v194, v197, rfl, ho0, ho1, hb⟩; refine ⟨_, rfl, ?_⟩; have n0_ := mk0 (Kd.R_lower ho0 (bz_ (b_ HB))); have n1_ := mk0 (Kd.R_lower ho1 (bz_ (b_ HB))); replace BK191 := mk0 (u_ BK191 hb); replace BK192 := mk0 (u_ BK192 hb); replace HB := mk0 (bt_ (b_ HB) hb); have HO195 := n0_; have HO198 := n1_; clear n0_ n1_; (try clear hb); (try clear ho0); (try clear ho1)) | ((with_reducible refine gate_dst (N := 6) rfl ?_); refine bx_ (N := 6) (cs := #[.slice none 0 0, .slice none 0 0]) (t := 34) (h := ?_); intro gb200 hg w36 hbox hb; have n6_ := mk0 (gz_ HB hg); have n7_ := mk0 (gz_ HB hg); have n8_ := mk0 (ne1_ BK191 hg); have n9_ := mk0 (ne2_ BK191 hg); have n10_ := mk0 (ne1_ BK192 hg); have n11_ := mk0 (ne2_ BK192 hg); replace HO195 := mk0 (Kd.R_below (r_ HO195) hb); replace HO198 := mk0 (Kd.R_below (r_ HO198) hb); replace BK191 := mk0 (u_ BK191 hb); replace BK192 := mk0 (u_ BK192 hb); replace HB := mk0 (bt_ (b_ HB) hb); have BK200 := mk0 (hbox); have GW200 := n6_; have GE200 := n7_; have NB191_200 := n8_; have NB200_191 := n9_; have NB192_200 := n10_; have NB200_192 := n11_; clear n6_ n7_ n8_ n9_ n10_ n11_ hb hbox hg; obtain ⟨Ao37, co37, eo37⟩ := Kd.R_slice HO195.out; subst eo37; have hnb38 := NB200_191.out; have hnc38 := NB191_200.out; have hnb39 := NB200_192.out; have hnc39 := NB192_200.out; obtain ⟨hcz40_0, hcz40_1, hfz40_0, hfz40_1⟩ := c2_ BK200; obtain ⟨Ao41, co41, eo41⟩ := Kd.R_slice HO198.out; subst eo41; obtain ⟨hcz42_0, hcz42_1, hfz42_0, hfz42_1⟩ := c2_ BK192))
  refine bodyPost_ret (results_ct rfl _ _ gb192 34 #[.slice Ao37 t193.length co37, .slice Ao41 t196.length co41] (0, 0) _ rfl (pu_ (cs := #[.slice Ao37 t193.length co37, .slice none 0 0]) (pu_ (cs := #[.slice none 0 0, .slice none 0 0]) (fa_ (fa_ (h_ BK192) NB192_200.out) NB192_200.out))) Try.underlying34 rfl (by kernel_rfl)) rfl ?_
  exact ⟨_, _, by first | rfl | (simp [errW_none, errW_some] <;> rfl) | (simp [*, errW_none, errW_some] <;> rfl), by (with_reducible repeat (first | apply Ra_ | apply Rn_ | apply Rd_)); exact Kd.R_mono (Kd.R_far (p := ⟨gb192, 1, none⟩) (Kd.R_far (p := ⟨gb192, 0, none⟩) (Kd.R_far (p := ⟨gb200, 1, none⟩) (Kd.R_far (p := ⟨gb200, 0, none⟩) (Kd.R_types (Kd.R_types HO195.out BK200.out (by decide)) BK192.out (by decide)) (fun _ hk => hk.1.2) (.slice Ao37 t193.length co37)) (fun _ hk => hk.1.2) (.slice Ao41 t196.length co41)) (fun _ hk => hk.2) (.slice Ao37 t193.length co37)) (fun _ hk => hk.2) (.slice Ao41 t196.length co41)) (fun _ hk => trivial), by (with_reducible repeat (first | apply Ra_ | apply Rn_ | apply Rd_)); exact Kd.R_mono (Kd.R_far (p := ⟨gb192, 1, none⟩) (Kd.R_far (p := ⟨gb192, 0, none⟩) (Kd.R_far (p := ⟨gb200, 1, none⟩) (Kd.R_far (p := ⟨gb200, 0, none⟩) (Kd.R_types (Kd.R_types HO198.out BK200.out (by decide)) BK192.out (by decide)) (fun _ hk => hk.1.2) (.slice Ao37 t193.length co37)) (fun _ hk => hk.1.2) (.slice Ao41 t196.length co41)) (fun _ hk => hk.2) (.slice Ao37 t193.length co37)) (fun _ hk => hk.2) (.slice Ao41 t196.length co41)) (fun _ hk => trivial), b_ HB⟩

/-! ### quorumref8_Return: function 56 -/
def quorumref8_Return.f (k : Nat) (l0_0 : List (S36)) (l0_1 : List Int) (a1 : Int) : Option ((List (S36)) × List Int × Int) := (quorumref0_CopyPend.f k l0_0 l0_1).bind fun bt210 => ((quorumref0_Num.f a1 (wrap64 ((bt210.2.length : Int) - 1))).bind fun t216 => (if t216 = true then (if 0 ≤ a1 then (if a1 < (bt210.2.length : Int) then (if 0 ≤ (rd bt210.2 a1) then (if (rd bt210.2 a1) ≤ (bt210.1.length : Int) then (if 0 ≤ (wrap64 (a1 + 1)) then (if (wrap64 (a1 + 1)) ≤ (bt210.2.length : Int) then (some ((bt210.1.take ((rd bt210.2 a1) : Int).toNat), (bt210.2.take ((wrap64 (a1 + 1)) : Int).toNat), 0)) else (none)) else (none)) else (none)) else (none)) else (none)) else (none)) else (some (([] : List (S36)), ([] : List Int), 7))))
theorem quorumref8_Return.mono : ∀ a0 a1 a2 k, LeO (quorumref8_Return.f k a0 a1 a2) (quorumref8_Return.f (k + 1) a0 a1 a2) := by
 intro a0 a1 a2 k
 unfold quorumref8_Return.f
 repeat' first
   | (with_reducible exact quorumref0_CopyPend.mono _ _ _)
   | (with_reducible exact LeO.refl _)
   | (with_reducible exact LeO.none _)
   | (with_reducible refine LeO.ite ?_ ?_)
   | (with_reducible refine LeO.bind ?_ (fun _ => ?_))
   | exact quorumref0_CopyPend.mono _ _ _
   | exact LeO.none _
   | refine LeO.ite ?_ ?_
   | refine LeO.bind ?_ (fun _ => ?_)
def quorumref8_Return.T4 : Bool × List (List Nat × List Nat) := (true, [([], []), ([0], [0]), ([], []), ([2], [2]), ([], []), ([3, 4], [3, 4]), ([5], [5]), ([1, 6], [1, 6]), ([0, 1, 2, 3, 4, 5, 6, 7], []), ([8, 7, 0, 1, 2, 3, 4, 5, 6, 7], [7, 8])])
def quorumref8_Return.B4 : List Nat := [0, 1, 0, 4, 0, 28, 60, 127, 255, 511]
theorem quorumref8_Return.tab4 : rtab .any (opsOf Try.f56 4) = quorumref8_Return.T4 := by kernel_rfl
theorem quorumref8_Return.bits4 : waitsOk quorumref8_Return.T4.2 quorumref8_Return.B4 = true := by kernel_rfl
set_option maxHeartbeats 8000000 in
set_option maxRecDepth 100000 in
theorem quorumref8_Return.calls (k : Nat) (A0_0 : Option Addr) (c0_0 : Nat) (l0_0 : List (S36)) (A0_1 : Option Addr) (c0_1 : Nat) (l0_1 : List Int) (a1 : Int) (r1 : List (S36)) (r2 : List Int) (r3 : Int) (w : World) (hr0_0 : Kd.C k36 w A0_0 l0_0.length l0_0) (hc0_0 : l0_0.length ≤ c0_0) (hr0_1 : Kd.C (Kd.int .i64) w A0_1 l0_1.length l0_1) (hc0_1 : l0_1.length ≤ c0_1) (h : quorumref8_Return.f k l0_0 l0_1 a1 = some (r1, r2, r3)) :
  Calls Try.prog 56 #[.agg #[.slice A0_0 l0_0.length c0_0, .slice A0_1 l0_1.length c0_1], .int .i64 a1] w fun e w' => ∃ v0_ v1_ : Value, e = .returned (.tuple #[.agg #[v0_, v1_], .int .i64 r3]) ∧ Kd.R k36 36 w' w.heap.size (fun _ => True) v0_ r1 ∧ Kd.R (Kd.int .i64) 3 w' w.heap.size (fun _ => True) v1_ r2 ∧ Below w.heap.size w w' := by
 have hu34 := Try.underlying34
 have HR0_0 := mk0 hr0_0
 have HC0_0 := mk0 hc0_0
 clear hr0_0 hc0_0
 have HR0_1 := mk0 hr0_1
 have HC0_1 := mk0 hc0_1
 clear hr0_1 hc0_1
 have HB := mk0 (Below.refl w.heap.size w)
 have H : ((quorumref0_CopyPend.f k l0_0 l0_1).bind fun bt210 => ((quorumref0_Num.f a1 (wrap64 ((bt210.2.length : Int) - 1))).bind fun t216 => (if t216 = true then (if 0 ≤ a1 then (if a1 < (bt210.2.length : Int) then (if 0 ≤ (rd bt210.2 a1) then (if (rd bt210.2 a1) ≤ (bt210.1.length : Int) then (if 0 ≤ (wrap64 (a1 + 1)) then (if (wrap64 (a1 + 1)) ≤ (bt210.2.length : Int) then (some ((bt210.1.take ((rd bt210.2 a1) : Int).toNat), (bt210.2.take ((wrap64 (a1 + 1)) : Int).toNat), 0)) else (none)) else (none)) else (none)) else (none)) else (none)) else (none)) else (some (([] : List (S36)), ([] : List Int), 7))))) = some (r1, r2, r3) := h
 clear h
 replace H := Option.bind_eq_some_iff.mp H
 obtain ⟨⟨t210, t213⟩, A30, H⟩ := H
 try dsimp only at H
 have A3 := mk0 A30
 clear A30
 replace H := Option.bind_eq_some_iff.mp H
 obtain ⟨t216, A40, H⟩ := H
 try dsimp only at H
 have A4 := mk0 A40
 clear A40
 by_cases c5 : t216 = true
 ·subst c5
  rw [if_pos rfl] at H
  by_cases c6 : 0 ≤ a1
  ·rw [if_pos c6] at H
   have c6b0 : decide (0 ≤ a1) = true := decide_eq_true c6
   clear c6
   by_cases c7 : a1 < (t213.length : Int)
   ·rw [if_pos c7] at H
    have c7b0 : decide (a1 < (t213.length : Int)) = true := decide_eq_true c7
    clear c7
    by_cases c8 : 0 ≤ (rd t213 a1)
    ·rw [if_pos c8] at H
     have c8b0 := eq_true c8
     have c8b1 : decide (0 ≤ (rd t213 a1)) = true := decide_eq_true c8
     clear c8
     by_cases c9 : (rd t213 a1) ≤ (t210.length : Int)
     ·rw [if_pos c9] at H
      have c9b0 := eq_true c9
      have c9b1 : decide ((rd t213 a1) ≤ (t210.length : Int)) = true := decide_eq_true c9
      clear c9
      obtain ⟨y218, hy218⟩ : ∃ y_ : List (S36), y_ = (t210.take ((rd t213 a1) : Int).toNat) := ⟨_, rfl⟩
      replace H : (if 0 ≤ (wrap64 (a1 + 1)) then (if (wrap64 (a1 + 1)) ≤ (t213.length : Int) then (some (y218, (t213.take ((wrap64 (a1 + 1)) : Int).toNat), 0)) else (none)) else (none)) = some (r1, r2, r3) := by first | (rw [hy218]; with_reducible exact H) | (have H2_ := (Option.bind_some _ _).symm.trans H; rw [hy218]; with_reducible exact H2_) | (have H2_ := (Option.bind_some _ _).symm.trans H; with_reducible exact H2_) | with_reducible exact H | (rw [hy218]; exact H) | exact H
      have Ny218 := mk0 hy218
      clear hy218
      obtain ⟨ji10, hji10⟩ : ∃ j_ : Int, (wrap64 (a1 + 1)) = j_ := ⟨_, rfl⟩
      replace H : (if 0 ≤ (ji10) then (if (ji10) ≤ (t213.length : Int) then (some (y218, (t213.take ((ji10) : Int).toNat), 0)) else (none)) else (none)) = some (r1, r2, r3) := by first | (rw [hji10] at H; exact H) | (simp only [hji10] at H ⊢; exact H)
      (try rw [hji10] at A3)
      (try rw [hji10] at A4)
      have hji10w : (IntKind.i64.wrap (a1 + 1)) = ji10 := (i64_w _).trans hji10
      by_cases c11 : 0 ≤ (ji10)
      ·rw [if_pos c11] at H
       have c11b0 := eq_true c11
       have c11b1 : decide (0 ≤ (ji10)) = true := decide_eq_true c11
       clear c11
       by_cases c12 : (ji10) ≤ (t213.length : Int)
       ·rw [if_pos c12] at H
        have c12b0 := eq_true c12
        have c12b1 : decide ((ji10) ≤ (t213.length : Int)) = true := decide_eq_true c12
        clear c12
        obtain ⟨y221, hy221⟩ : ∃ y_ : List Int, y_ = (t213.take ((ji10) : Int).toNat) := ⟨_, rfl⟩
        replace H : (some (y218, y221, 0)) = some (r1, r2, r3) := by first | (rw [hy221]; with_reducible exact H) | (have H2_ := (Option.bind_some _ _).symm.trans H; rw [hy221]; with_reducible exact H2_) | (have H2_ := (Option.bind_some _ _).symm.trans H; with_reducible exact H2_) | with_reducible exact H | (rw [hy221]; exact H) | exact H
        have Ny221 := mk0 hy221
        clear hy221
        simp only [Option.some.injEq, Prod.mk.injEq] at H
        obtain ⟨rfl, rfl, rfl⟩ := H
        go_enter Try.func56, Try.ntmps56
        try go_wp2_with (first | ((with_reducible refine gate_dst (N := 2) rfl ?_); refine bx_ (N := 2) (cs := #[.slice A0_0 l0_0.length c0_0, .slice A0_1 l0_1.length c0_1]) (t := 34) (h := ?_); intro gb208 hg w13 hbox hb; have n2_ := mk0 (gz_ HB hg); have n3_ := mk0 (gz_ HB hg); replace HB := mk0 (bt_ (b_ HB) hb); have BK208 := mk0 (hbox); have GW208 := n2_; have GE208 := n3_; clear n2_ n3_; clear hb hbox hg) | ((with_reducible refine gate_dst (N := 4) rfl ?_); refine bx_ (N := 4) (cs := #[.slice none 0 0, .slice none 0 0]) (t := 34) (h := ?_); intro gb209 hg w14 hbox hb; have n3_ := mk0 (gz_ HB hg); have n4_ := mk0 (gz_ HB hg); have n5_ := mk0 (ne1_ BK208 hg); have n6_ := mk0 (ne2_ BK208 hg); replace BK208 := mk0 (u_ BK208 hb); replace HB := mk0 (bt_ (b_ HB) hb); have BK209 := mk0 (hbox); have GW209 := n3_; have GE209 := n4_; have NB208_209 := n5_; have NB209_208 := n6_; clear n3_ n4_ n5_ n6_ hb hbox hg; have hnb15 := NB208_209.out; have hnc15 := NB209_208.out; obtain ⟨hcz16_0, hcz16_1, hfz16_0, hfz16_1⟩ := c2_ BK208) | ((with_reducible refine gate_callee (f := 24) rfl ?_); refine gL_ (some 7) Try.func24 #[.agg #[.slice A0_0 l0_0.length c0_0, .slice A0_1 l0_1.length c0_1]] (h := ?_); (with_reducible refine (quorumref0_CopyPend.calls k _ _ l0_0 _ _ l0_1 t210 t213 _ ?side1 ?side2 ?side3 ?side4 A3.out).mono ?_); (case side1 => exact cb_ HR0_0 HB); (case side2 => exact HC0_0.out); (case side3 => exact cb_ HR0_1 HB); (case side4 => exact HC0_1.out); rintro e w17 ⟨v211, v214, rfl, ho0, ho1, hb⟩; refine ⟨_, rfl, ?_⟩; have n0_ := mk0 (Kd.R_lower ho0 (bz_ (b_ HB))); have n1_ := mk0 (Kd.R_lower ho1 (bz_ (b_ HB))); replace BK208 := mk0 (u_ BK208 hb); replace BK209 := mk0 (u_ BK209 hb); replace HB := mk0 (bt_ (b_ HB) hb); have HO212 := n0_; have HO215 := n1_; clear n0_ n1_; (try clear hb); (try clear ho0); (try clear ho1); obtain ⟨Ao18, co18, eo18⟩ := Kd.R_slice HO212.out; subst eo18; obtain ⟨hcz19_0, hcz19_1, hfz19_0, hfz19_1⟩ := c2_ BK208; obtain ⟨Ao20, co20, eo20⟩ := Kd.R_slice HO215.out; subst eo20) | ((with_reducible refine gate_callee (f := 39) rfl ?_); refine gL_ (some 13) Try.func39 #[.int .i64 a1, .int .i64 (wrap64 ((t213.length : Int) - 1))] (h := ?_); (with_reducible refine (quorumref0_Num.calls a1 (wrap64 ((t213.length : Int) - 1)) true _ A4.out).mono ?_); rintro e w' ⟨rfl, ⟨nd, rfl⟩⟩; refine ⟨_, rfl, ?_⟩))
        have n0_ : Fc (Kd.R k36 36 ((w17.setCell ⟨gb208, 0, none⟩ (.slice Ao18 t210.length co18)).setCell ⟨gb208, 1, none⟩ (.slice Ao20 t213.length co20)) w.heap.size (fun _ => True) (.slice Ao18 t210.length co18) t210) := ⟨by (with_reducible repeat (first | apply Ra_ | apply Rn_ | apply Rd_)); exact Kd.R_mono (Kd.R_far (p := ⟨gb208, 1, none⟩) (Kd.R_far (p := ⟨gb208, 0, none⟩) (Kd.R_types HO212.out BK208.out (by decide)) (fun _ hk => hk.2) (.slice Ao18 t210.length co18)) (fun _ hk => hk.2) (.slice Ao20 t213.length co20)) (fun _ hk => trivial)⟩
        have n1_ : Fc (Kd.R (Kd.int .i64) 3 ((w17.setCell ⟨gb208, 0, none⟩ (.slice Ao18 t210.length co18)).setCell ⟨gb208, 1, none⟩ (.slice Ao20 t213.length co20)) w.heap.size (fun _ => True) (.slice Ao20 t213.length co20) t213) := ⟨by (with_reducible repeat (first | apply Ra_ | apply Rn_ | apply Rd_)); exact Kd.R_mono (Kd.R_far (p := ⟨gb208, 1, none⟩) (Kd.R_far (p := ⟨gb208, 0, none⟩) (Kd.R_types HO215.out BK208.out (by decide)) (fun _ hk => hk.2) (.slice Ao18 t210.length co18)) (fun _ hk => hk.2) (.slice Ao20 t213.length co20)) (fun _ hk => trivial)⟩
        have n2_ : Fc (((w17.setCell ⟨gb208, 0, none⟩ (.slice Ao18 t210.length co18)).setCell ⟨gb208, 1, none⟩ (.slice Ao20 t213.length co20)).heap[gb208]? = some (.cells #[.slice Ao18 t210.length co18, .slice Ao20 t213.length co20] 34 (0, 0))) := ⟨(pu_ (cs := #[.slice Ao18 t210.length co18, .slice A0_1 l0_1.length c0_1]) (pu_ (cs := #[.slice A0_0 l0_0.length c0_0, .slice A0_1 l0_1.length c0_1]) (h_ BK208)))⟩
        have n3_ : Fc (((w17.setCell ⟨gb208, 0, none⟩ (.slice Ao18 t210.length co18)).setCell ⟨gb208, 1, none⟩ (.slice Ao20 t213.length co20)).heap[gb209]? = some (.cells #[.slice none 0 0, .slice none 0 0] 34 (0, 0))) := ⟨(fa_ (fa_ (h_ BK209) NB209_208.out) NB209_208.out)⟩
        have n4_ : Fc (Below w.heap.size w ((w17.setCell ⟨gb208, 0, none⟩ (.slice Ao18 t210.length co18)).setCell ⟨gb208, 1, none⟩ (.slice Ao20 t213.length co20))) := ⟨b_ HB⟩
        (try clear HO212)
        (try clear HO215)
        (try clear BK208)
        (try clear BK209)
        (try clear HB)
        generalize ((w17.setCell ⟨gb208, 0, none⟩ (.slice Ao18 t210.length co18)).setCell ⟨gb208, 1, none⟩ (.slice Ao20 t213.length co20)) = w21 at n0_ n1_ n2_ n3_ n4_ ⊢
        have HO212 := n0_
        have HO215 := n1_
        have BK208 := n2_
        have BK209 := n3_
        have HB := n4_
        clear n0_ n1_ n2_ n3_ n4_
        (try (rw [drewN_self w21]; generalize hq_ : World.drewN w21 _ = w21; have n0_ : Fc (Kd.R k36 36 w21 w.heap.size (fun _ => True) (.slice Ao18 t210.length co18) t210) := ⟨by rw [← hq_]; exact (r_ HO212)⟩; have n1_ : Fc (Kd.R (Kd.int .i64) 3 w21 w.heap.size (fun _ => True) (.slice Ao20 t213.length co20) t213) := ⟨by rw [← hq_]; exact (r_ HO215)⟩; have n2_ : Fc (w21.heap[gb208]? = some (.cells #[.slice Ao18 t210.length co18, .slice Ao20 t213.length co20] 34 (0, 0))) := ⟨by rw [← hq_]; exact (h_ BK208)⟩; have n3_ : Fc (w21.heap[gb209]? = some (.cells #[.slice none 0 0, .slice none 0 0] 34 (0, 0))) := ⟨by rw [← hq_]; exact (h_ BK209)⟩; have n4_ : Fc (Below w.heap.size w w21) := ⟨by rw [← hq_]; exact (b_ HB)⟩; clear HO212 HO215 BK208 BK209 HB hq_; have HO212 := n0_; have HO215 := n1_; have BK208 := n2_; have BK209 := n3_; have HB := n4_; clear n0_ n1_ n2_ n3_ n4_))
        replace HO212 := mk0 (Rd_ HO212.out)
        replace HO215 := mk0 (Rd_ HO215.out)
        replace BK208 := mk0 (bD_ BK208.out)
        replace BK209 := mk0 (bD_ BK209.out)
        replace HB := mk0 (b1_ HB.out)
        have p217 : 0 ≤ (a1 : Int) := of_decide_eq_true (by first | (with_reducible assumption) | assumption)
        have q217 : a1 < (t213.length : Int) := of_decide_eq_true (by first | (with_reducible assumption) | assumption)
        obtain ⟨ad217, e217, hx217_0⟩ := Kd.at_int (Kd.R_reads' HO215.out).2.2 a1 p217 q217
        cases e217
        replace p217 := eq_true p217
        replace q217 := eq_true q217
        have q23 : ((rd t213 a1) : Int) ≤ ((t210.length : Int) : Int) := of_decide_eq_true (by first | (with_reducible assumption) | assumption)
        obtain ⟨i023, hi023, _, hsz23, _⟩ := info_parts info36
        have hcut23 := cut_to (P := Try.prog) 32 36 .i64 Try.underlying32 hi023 Ao18 t210.length co18 (rd t213 a1) (of_decide_eq_true (by first | (with_reducible assumption) | assumption)) q23 (Kd.R_reads' HO212.out).2.1
        have hr23 := Kd.R_take (m := ((rd t213 a1) : Int).toNat) HO212.out (by omega)
        have hy23 : y218.length = ((rd t213 a1) : Int).toNat := (by rw [Ny218.out, List.length_take]; omega)
        rw [← Ny218.out] at hr23
        rw [← hy23] at hr23 hcut23
        clear hy23 hi023 hsz23 HO212
        have HO220 := mk0 hr23
        clear hr23
        replace q23 := eq_true q23
        refine start_ (n := 10) (S := fun w' => w'.cell? ⟨gb208, 0, none⟩ = some (.slice Ao18 t210.length co18) ∧ w'.cell? ⟨gb208, 1, none⟩ = some (.slice (some ad217) t213.length co20) ∧ w'.cell? (ad217.add (a1).toNat) = some (.int .i64 (rd t213 a1))) (ds := [9]) (bt 10 0) (by kernel_rfl) rfl rfl ⟨bk_ BK208 0, bk_ BK208 1, hx217_0⟩ (fun hHeld => ?_); refine with_tabW quorumref8_Return.tab4 quorumref8_Return.bits4 (fun HT_ HW_ => ?_)
        generalize w21.drew = w22 at HO215 BK208 BK209 HB HO220 hx217_0 hHeld ⊢
        refine pq_ HT_.out 0 16 (bt 10 1) (h := ?_)
        refine pq_ HT_.out 2 18 (bt 10 5) (h := ?_)
        refine pq_ HT_.out 4 20 (bt 10 21) (h := ?_)
        refine tq3_ HT_.out HW_.out 1 17 (bt 10 23) hHeld (h := ?_)
        refine tq3_ HT_.out HW_.out 3 19 (bt 10 31) hHeld (h := ?_)
        refine pq_ HT_.out 5 21 (bt 10 63) (h := ?_)
        refine tq3_ HT_.out HW_.out 6 22 (bt 10 127) hHeld (h := ?_)
        refine pq_ HT_.out 7 23 (bt 10 255) (h := ?_)
        refine pq_ HT_.out 8 24 (bt 10 511) (h := ?_)
        refine last_ (i := 9) (N := none) (bt 10 1023) rfl rfl (one_of HT_.out (by kernel_rfl)) (by decide) (fun K hK => ?_)
        have hs24 : w22.cell? ⟨gb208, 0, none⟩ = some (.slice Ao18 t210.length co18) := bk_ BK208 0
        have hfs24 := blk_frozen BK208.out 0
        have hns24_1 := NB209_208.out
        have hms24_1 := NB208_209.out
        refine skip_ (w1 := ?_) (by rfl) rfl ?_ ?_
        rotate_left
        ·go_simp
         rfl
        refine hK.out _ _ ?_
        clear hK K
        refine done_ (done_of HT_.out (by kernel_rfl)) ?_
        have n0_ : Fc (Kd.R k36 36 (w22.setCell ⟨gb208, 0, none⟩ (.slice Ao18 y218.length co18)) w.heap.size (fun _ => True) (.slice Ao18 y218.length co18) y218) := ⟨by (with_reducible repeat (first | apply Ra_ | apply Rn_ | apply Rd_)); exact Kd.R_mono (Kd.R_far (p := ⟨gb208, 0, none⟩) (Kd.R_types HO220.out BK208.out (by decide)) (fun _ hk => hk.2) (.slice Ao18 y218.length co18)) (fun _ hk => trivial)⟩
        have n1_ : Fc (Kd.R (Kd.int .i64) 3 (w22.setCell ⟨gb208, 0, none⟩ (.slice Ao18 y218.length co18)) w.heap.size (fun _ => True) (.slice (some ad217) t213.length co20) t213) := ⟨by (with_reducible repeat (first | apply Ra_ | apply Rn_ | apply Rd_)); exact Kd.R_mono (Kd.R_far (p := ⟨gb208, 0, none⟩) (Kd.R_types HO215.out BK208.out (by decide)) (fun _ hk => hk.2) (.slice Ao18 y218.length co18)) (fun _ hk => trivial)⟩
        have n2_ : Fc ((w22.setCell ⟨gb208, 0, none⟩ (.slice Ao18 y218.length co18)).heap[gb208]? = some (.cells #[.slice Ao18 y218.length co18, .slice (some ad217) t213.length co20] 34 (0, 0))) := ⟨(pu_ (cs := #[.slice Ao18 t210.length co18, .slice (some ad217) t213.length co20]) (h_ BK208))⟩
        have n3_ : Fc ((w22.setCell ⟨gb208, 0, none⟩ (.slice Ao18 y218.length co18)).heap[gb209]? = some (.cells #[.slice none 0 0, .slice none 0 0] 34 (0, 0))) := ⟨(fa_ (h_ BK209) NB209_208.out)⟩
        have n4_ : Fc (Below w.heap.size w (w22.setCell ⟨gb208, 0, none⟩ (.slice Ao18 y218.length co18))) := ⟨b_ HB⟩
        (try clear HO220)
        (try clear HO215)
        (try clear BK208)
        (try clear BK209)
        (try clear HB)
        generalize (w22.setCell ⟨gb208, 0, none⟩ (.slice Ao18 y218.length co18)) = w25 at n0_ n1_ n2_ n3_ n4_ ⊢
        have HO220 := n0_
        have HO215 := n1_
        have BK208 := n2_
        have BK209 := n3_
        have HB := n4_
        clear n0_ n1_ n2_ n3_ n4_
        obtain ⟨hcz26_0, hcz26_1, hfz26_0, hfz26_1⟩ := c2_ BK208
        have q27 : ((ji10) : Int) ≤ ((t213.length : Int) : Int) := of_decide_eq_true (by first | (with_reducible assumption) | assumption)
        obtain ⟨i027, hi027, _, hsz27, _⟩ := info_parts info3
        have hcut27 := cut_to (P := Try.prog) 24 3 .i64 Try.underlying24 hi027 (some ad217) t213.length co20 (ji10) (of_decide_eq_true (by first | (with_reducible assumption) | assumption)) q27 (Kd.R_reads' HO215.out).2.1
        have hr27 := Kd.R_take (m := ((ji10) : Int).toNat) HO215.out (by omega)
        have hy27 : y221.length = ((ji10) : Int).toNat := (by rw [Ny221.out, List.length_take]; omega)
        rw [← Ny221.out] at hr27
        rw [← hy27] at hr27 hcut27
        clear hy27 hi027 hsz27 HO215
        have HO223 := mk0 hr27
        clear hr27
        replace q27 := eq_true q27
        obtain ⟨hcz28_0, hcz28_1, hfz28_0, hfz28_1⟩ := c2_ BK209
        try go_wp2
        refine bodyPost_ret (results_ct rfl _ _ gb209 34 #[.slice Ao18 y218.length co18, .slice (some ad217) y221.length co20] (0, 0) _ rfl (pu_ (cs := #[.slice Ao18 y218.length co18, .slice none 0 0]) (pu_ (cs := #[.slice none 0 0, .slice none 0 0]) (fa_ (h_ BK209) NB209_208.out))) Try.underlying34 rfl (by kernel_rfl)) rfl ?_
        exact ⟨_, _, by first | rfl | (simp [errW_none, errW_some] <;> rfl) | (simp only [← hji10]; first | rfl | (simp [errW_none, errW_some] <;> rfl)) | (simp [*, errW_none, errW_some] <;> rfl), by (with_reducible repeat (first | apply Ra_ | apply Rn_ | apply Rd_)); exact Kd.R_mono (Kd.R_far (p := ⟨gb209, 1, none⟩) (Kd.R_far (p := ⟨gb209, 0, none⟩) (Kd.R_far (p := ⟨gb208, 1, none⟩) (Kd.R_types (Kd.R_types HO220.out BK208.out (by decide)) BK209.out (by decide)) (fun _ hk => hk.1.2) (.slice (some ad217) y221.length co20)) (fun _ hk => hk.2) (.slice Ao18 y218.length co18)) (fun _ hk => hk.2) (.slice (some ad217) y221.length co20)) (fun _ hk => trivial), by (with_reducible repeat (first | apply Ra_ | apply Rn_ | apply Rd_)); exact Kd.R_mono (Kd.R_far (p := ⟨gb209, 1, none⟩) (Kd.R_far (p := ⟨gb209, 0, none⟩) (Kd.R_far (p := ⟨gb208, 1, none⟩) (Kd.R_types (Kd.R_types HO223.out BK208.out (by decide)) BK209.out (by decide)) (fun _ hk => hk.1.2) (.slice (some ad217) y221.length co20)) (fun _ hk => hk.2) (.slice Ao18 y218.length co18)) (fun _ hk => hk.2) (.slice (some ad217) y221.length co20)) (fun _ hk => trivial), b_ HB⟩
       ·rw [if_neg c12] at H
        exact absurd H (by simp)
      ·rw [if_neg c11] at H
       exact absurd H (by simp)
     ·rw [if_neg c9] at H
      exact absurd H (by simp)
    ·rw [if_neg c8] at H
     exact absurd H (by simp)
   ·rw [if_neg c7] at H
    exact absurd H (by simp)
  ·rw [if_neg c6] at H
   exact absurd H (by simp)
 ·replace c5 := Bool.eq_false_iff.mpr c5
  subst c5
  rw [if_neg (show ¬ (false = true) by decide)] at H
  simp only [Option.some.injEq, Prod.mk.injEq] at H
  obtain ⟨rfl, rfl, rfl⟩ := H
  go_enter Try.func56, Try.ntmps56
  go_wp2_with (first | ((with_reducible refine gate_dst (N := 2) rfl ?_); refine bx_ (N := 2) (cs := #[.slice A0_0 l0_0.length c0_0, .slice A0_1 l0_1.length c0_1]) (t := 34) (h := ?_); intro gb208 hg w29 hbox hb; have n2_ := mk0 (gz_ HB hg); have n3_ := mk0 (gz_ HB hg); replace HB := mk0 (bt_ (b_ HB) hb); have BK208 := mk0 (hbox); have GW208 := n2_; have GE208 := n3_; clear n2_ n3_; clear hb hbox hg) | ((with_reducible refine gate_dst (N := 4) rfl ?_); refine bx_ (N := 4) (cs := #[.slice none 0 0, .slice none 0 0]) (t := 34) (h := ?_); intro gb209 hg w30 hbox hb; have n3_ := mk0 (gz_ HB hg); have n4_ := mk0 (gz_ HB hg); have n5_ := mk0 (ne1_ BK208 hg); have n6_ := mk0 (ne2_ BK208 hg); replace BK208 := mk0 (u_ BK208 hb); replace HB := mk0 (bt_ (b_ HB) hb); have BK209 := mk0 (hbox); have GW209 := n3_; have GE209 := n4_; have NB208_209 := n5_; have NB209_208 := n6_; clear n3_ n4_ n5_ n6_ hb hbox hg; have hnb31 := NB208_209.out; have hnc31 := NB209_208.out; obtain ⟨hcz32_0, hcz32_1, hfz32_0, hfz32_1⟩ := c2_ BK208) | ((with_reducible refine gate_callee (f := 24) rfl ?_); refine gL_ (some 7) Try.func24 #[.agg #[.slice A0_0 l0_0.length c0_0, .slice A0_1 l0_1.length c0_1]] (h := ?_); (with_reducible refine (quorumref0_CopyPend.calls k _ _ l0_0 _ _ l0_1 t210 t213 _ ?side1 ?side2 ?side3 ?side4 A3.out).mono ?_); (case side1 => exact cb_ HR0_0 HB); (case side2 => exact HC0_0.out); (case side3 => exact cb_ HR0_1 HB); (case side4 => exact HC0_1.out); rintro e w33 ⟨v211, v214, rfl, ho0, ho1, hb⟩; refine ⟨_, rfl, ?_⟩; have n0_ := mk0 (Kd.R_lower ho0 (bz_ (b_ HB))); have n1_ := mk0 (Kd.R_lower ho1 (bz_ (b_ HB))); replace BK208 := mk0 (u_ BK208 hb); replace BK209 := mk0 (u_ BK209 hb); replace HB := mk0 (bt_ (b_ HB) hb); have HO212 := n0_; have HO215 := n1_; clear n0_ n1_; (try clear hb); (try clear ho0); (try clear ho1); obtain ⟨Ao34, co34, eo34⟩ := Kd.R_slice HO212.out; subst eo34; obtain ⟨hcz35_0, hcz35_1, hfz35_0, hfz35_1⟩ := c2_ BK208; obtain ⟨Ao36, co36, eo36⟩ := Kd.R_slice HO215.out; subst eo36) | ((with_reducible refine gate_callee (f := 39) rfl ?_); refine gL_ (some 13) Try.func39 #[.int .i64 a1, .int .i64 (wrap64 ((t213.length : Int) - 1))] (h := ?_); (with_reducible refine (quorumref0_Num.calls a1 (wrap64 ((t213.length : Int) - 1)) false _ A4.out).mono ?_); rintro e w' ⟨rfl, ⟨nd, rfl⟩⟩; refine ⟨_, rfl, ?_⟩; obtain ⟨hcz37_0, hcz37_1, hfz37_0, hfz37_1⟩ := c2_ BK209))
  refine bodyPost_ret (results_ct rfl _ _ gb209 34 #[.slice none 0 0, .slice none 0 0] (0, 0) _ rfl (pu_ (cs := #[.slice none 0 0, .slice none 0 0]) (pu_ (cs := #[.slice none 0 0, .slice none 0 0]) (fa_ (fa_ (h_ BK209) NB209_208.out) NB209_208.out))) Try.underlying34 rfl (by kernel_rfl)) rfl ?_
  exact ⟨_, _, by first | rfl | (simp [errW_none, errW_some] <;> rfl) | (simp [*, errW_none, errW_some] <;> rfl), by first | exact Kd.R_nil _ _ _ _ _ | exact Kd.N_nil _ _ _ _ _ | exact Kd.V_nil _ _ _ _ _ | exact Kd.Q_nil _ _ _ _ _ | exact Kd.S_nil _ _ _ _ _, by first | exact Kd.R_nil _ _ _ _ _ | exact Kd.N_nil _ _ _ _ _ | exact Kd.V_nil _ _ _ _ _ | exact Kd.Q_nil _ _ _ _ _ | exact Kd.S_nil _ _ _ _ _, b_ HB⟩

/-! ### pend_Release: function 57 -/
def pend_Release.f (k : Nat) (l0_0 : List (S36)) (l0_1 : List Int) (a1 : Int) : Option ((List (S36)) × List Int × Int) := (pend_marked.f k l0_0 l0_1 a1).bind fun bt226 => (if bt226.2.2 = 0 then (if 0 ≤ a1 then (if a1 ≤ (bt226.2.1.length : Int) then (some (bt226.1, (bt226.2.1.take (a1 : Int).toNat), 0)) else (none)) else (none)) else (some (bt226.1, bt226.2.1, bt226.2.2)))
theorem pend_Release.mono : ∀ a0 a1 a2 k, LeO (pend_Release.f k a0 a1 a2) (pend_Release.f (k + 1) a0 a1 a2) := by
 intro a0 a1 a2 k
 unfold pend_Release.f
 repeat' first
   | (with_reducible exact pend_marked.mono _ _ _ _)
   | (with_reducible exact LeO.refl _)
   | (with_reducible exact LeO.none _)
   | (with_reducible refine LeO.ite ?_ ?_)
   | (with_reducible refine LeO.bind ?_ (fun _ => ?_))
   | exact pend_marked.mono _ _ _ _
   | exact LeO.none _
   | refine LeO.ite ?_ ?_
   | refine LeO.bind ?_ (fun _ => ?_)
set_option maxHeartbeats 8000000 in
set_option maxRecDepth 100000 in
theorem pend_Release.calls (k : Nat) (A0_0 : Option Addr) (c0_0 : Nat) (l0_0 : List (S36)) (A0_1 : Option Addr) (c0_1 : Nat) (l0_1 : List Int) (a1 : Int) (r1 : List (S36)) (r2 : List Int) (r3 : Int) (w : World) (hr0_0 : Kd.C k36 w A0_0 l0_0.length l0_0) (hc0_0 : l0_0.length ≤ c0_0) (hr0_1 : Kd.C (Kd.int .i64) w A0_1 l0_1.length l0_1) (hc0_1 : l0_1.length ≤ c0_1) (h : pend_Release.f k l0_0 l0_1 a1 = some (r1, r2, r3)) :
  Calls Try.prog 57 #[.agg #[.slice A0_0 l0_0.length c0_0, .slice A0_1 l0_1.length c0_1], .int .i64 a1] w fun e w' => ∃ v0_ v1_ : Value, e = .returned (.tuple #[.agg #[v0_, v1_], .int .i64 r3]) ∧ Kd.R k36 36 w' w.heap.size (fun _ => True) v0_ r1 ∧ Kd.R (Kd.int .i64) 3 w' w.heap.size (fun _ => True) v1_ r2 ∧ Below w.heap.size w w' := by
 have hu34 := Try.underlying34
 have HR0_0 := mk0 hr0_0
 have HC0_0 := mk0 hc0_0
 clear hr0_0 hc0_0
 have HR0_1 := mk0 hr0_1
 have HC0_1 := mk0 hc0_1
 clear hr0_1 hc0_1
 have HB := mk0 (Below.refl w.heap.size w)
 have H : ((pend_marked.f k l0_0 l0_1 a1).bind fun bt226 => (if bt226.2.2 = 0 then (if 0 ≤ a1 then (if a1 ≤ (bt226.2.1.length : Int) then (some (bt226.1, (bt226.2.1.take (a1 : Int).toNat), 0)) else (none)) else (none)) else (some (bt226.1, bt226.2.1, bt226.2.2)))) = some (r1, r2, r3) := h
 clear h
 replace H := Option.bind_eq_some_iff.mp H
 obtain ⟨⟨t226, t229, t232⟩, A30, H⟩ := H
 try dsimp only at H
 have A3 := mk0 A30
 clear A30
 by_cases c4 : t232 = 0
 ·rw [if_pos c4] at H
  have c4b0 : (t232 == 0) = true := beq_iff_eq.mpr c4
  have c4b1 : (t232 != 0) = false := bne_eq_false_iff_eq.mpr c4
  clear c4
  by_cases c5 : 0 ≤ a1
  ·rw [if_pos c5] at H
   have c5b0 := eq_true c5
   have c5b1 : decide (0 ≤ a1) = true := decide_eq_true c5
   clear c5
   by_cases c6 : a1 ≤ (t229.length : Int)
   ·rw [if_pos c6] at H
    have c6b0 := eq_true c6
    have c6b1 : decide (a1 ≤ (t229.length : Int)) = true := decide_eq_true c6
    clear c6
    obtain ⟨y234, hy234⟩ : ∃ y_ : List Int, y_ = (t229.take (a1 : Int).toNat) := ⟨_, rfl⟩
    replace H : (some (t226, y234, 0)) = some (r1, r2, r3) := by first | (rw [hy234]; with_reducible exact H) | (have H2_ := (Option.bind_some _ _).symm.trans H; rw [hy234]; with_reducible exact H2_) | (have H2_ := (Option.bind_some _ _).symm.trans H; with_reducible exact H2_) | with_reducible exact H | (rw [hy234]; exact H) | exact H
    have Ny234 := mk0 hy234
    clear hy234
    simp only [Option.some.injEq, Prod.mk.injEq] at H
    obtain ⟨rfl, rfl, rfl⟩ := H
    go_enter Try.func57, Try.ntmps57
    go_wp2_with (first | ((with_reducible refine gate_dst (N := 2) rfl ?_); refine bx_ (N := 2) (cs := #[.slice A0_0 l0_0.length c0_0, .slice A0_1 l0_1.length c0_1]) (t := 34) (h := ?_); intro gb224 hg w7 hbox hb; have n2_ := mk0 (gz_ HB hg); have n3_ := mk0 (gz_ HB hg); replace HB := mk0 (bt_ (b_ HB) hb); have BK224 := mk0 (hbox); have GW224 := n2_; have GE224 := n3_; clear n2_ n3_; clear hb hbox hg) | ((with_reducible refine gate_dst (N := 4) rfl ?_); refine bx_ (N := 4) (cs := #[.slice none 0 0, .slice none 0 0]) (t := 34) (h := ?_); intro gb225 hg w8 hbox hb; have n3_ := mk0 (gz_ HB hg); have n4_ := mk0 (gz_ HB hg); have n5_ := mk0 (ne1_ BK224 hg); have n6_ := mk0 (ne2_ BK224 hg); replace BK224 := mk0 (u_ BK224 hb); replace HB := mk0 (bt_ (b_ HB) hb); have BK225 := mk0 (hbox); have GW225 := n3_; have GE225 := n4_; have NB224_225 := n5_; have NB225_224 := n6_; clear n3_ n4_ n5_ n6_ hb hbox hg; have hnb9 := NB224_225.out; have hnc9 := NB225_224.out; obtain ⟨hcz10_0, hcz10_1, hfz10_0, hfz10_1⟩ := c2_ BK224) | ((with_reducible refine gate_callee (f := 112) rfl ?_); refine gL_ (some 11) Try.func112 #[.agg #[.slice A0_0 l0_0.length c0_0, .slice A0_1 l0_1.length c0_1], .int .i64 a1] (h := ?_); (with_reducible refine (pend_marked.calls k _ _ l0_0 _ _ l0_1 a1 t226 t229 t232 _ ?side1 ?side2 ?side3 ?side4 A3.out).mono ?_); (case side1 => exact cb_ HR0_0 HB); (case side2 => exact HC0_0.out); (case side3 => exact cb_ HR0_1 HB); (case side4 => exact HC0_1.out); rintro e w11 ⟨v227, v230, rfl, ho0, ho1, hb⟩; refine ⟨_, rfl, ?_⟩; have n0_ := mk0 (Kd.R_lower ho0 (bz_ (b_ HB))); have n1_ := mk0 (Kd.R_lower ho1 (bz_ (b_ HB))); replace BK224 := mk0 (u_ BK224 hb); replace BK225 := mk0 (u_ BK225 hb); replace HB := mk0 (bt_ (b_ HB) hb); have HO228 := n0_; have HO231 := n1_; clear n0_ n1_; (try clear hb); (try clear ho0); (try clear ho1)) | ((with_reducible refine gate_dst (N := 6) rfl ?_); refine bx_ (N := 6) (cs := #[.slice none 0 0, .slice none 0 0]) (t := 34) (h := ?_); intro gb233 hg w12 hbox hb; have n6_ := mk0 (gz_ HB hg); have n7_ := mk0 (gz_ HB hg); have n8_ := mk0 (ne1_ BK224 hg); have n9_ := mk0 (ne2_ BK224 hg); have n10_ := mk0 (ne1_ BK225 hg); have n11_ := mk0 (ne2_ BK225 hg); replace HO228 := mk0 (Kd.R_below (r_ HO228) hb); replace HO231 := mk0 (Kd.R_below (r_ HO231) hb); replace BK224 := mk0 (u_ BK224 hb); replace BK225 := mk0 (u_ BK225 hb); replace HB := mk0 (bt_ (b_ HB) hb); have BK233 := mk0 (hbox); have GW233 := n6_; have GE233 := n7_; have NB224_233 := n8_; have NB233_224 := n9_; have NB225_233 := n10_; have NB233_225 := n11_; clear n6_ n7_ n8_ n9_ n10_ n11_ hb hbox hg; obtain ⟨Ao13, co13, eo13⟩ := Kd.R_slice HO228.out; subst eo13; have hnb14 := NB233_224.out; have hnc14 := NB224_233.out; have hnb15 := NB233_225.out; have hnc15 := NB225_233.out; obtain ⟨hcz16_0, hcz16_1, hfz16_0, hfz16_1⟩ := c2_ BK233; obtain ⟨Ao17, co17, eo17⟩ := Kd.R_slice HO231.out; subst eo17) | ((with_reducible refine gate_store (t := 34) (p := 6) rfl ?_); refine sv_ (t := 34) (p := 6) (w1 := ((w12.setCell ⟨gb233, 0, none⟩ (.slice Ao13 t226.length co13)).setCell ⟨gb233, 1, none⟩ (.slice Ao17 t229.length co17))) (h := ?_); intro w18 hw; have n0_ : Fc (Kd.R k36 36 w18 w.heap.size (fun _ => True) (.slice Ao13 t226.length co13) t226) := ⟨(by rw [hw]; exact (r2_ (Kd.R_mono (Kd.R_far (p := ⟨gb233, 1, none⟩) (Kd.R_far (p := ⟨gb233, 0, none⟩) (Kd.R_types HO228.out BK233.out (by decide)) (fun _ hk => hk.2) (.slice Ao13 t226.length co13)) (fun _ hk => hk.2) (.slice Ao17 t229.length co17)) (fun _ hk => trivial))))⟩; have n1_ : Fc (Kd.R (Kd.int .i64) 3 w18 w.heap.size (fun _ => True) (.slice Ao17 t229.length co17) t229) := ⟨(by rw [hw]; exact (r2_ (Kd.R_mono (Kd.R_far (p := ⟨gb233, 1, none⟩) (Kd.R_far (p := ⟨gb233, 0, none⟩) (Kd.R_types HO231.out BK233.out (by decide)) (fun _ hk => hk.2) (.slice Ao13 t226.length co13)) (fun _ hk => hk.2) (.slice Ao17 t229.length co17)) (fun _ hk => trivial))))⟩; have n2_ : Fc (w18.heap[gb224]? = some (.cells #[.slice A0_0 l0_0.length c0_0, .slice A0_1 l0_1.length c0_1] 34 (0, 0))) := ⟨(by rw [hw]; exact (fa_ (fa_ (h_ BK224) NB224_233.out) NB224_233.out))⟩; have n3_ : Fc (w18.heap[gb225]? = some (.cells #[.slice none 0 0, .slice none 0 0] 34 (0, 0))) := ⟨(by rw [hw]; exact (fa_ (fa_ (h_ BK225) NB225_233.out) NB225_233.out))⟩; have n4_ : Fc (w18.heap[gb233]? = some (.cells #[.slice Ao13 t226.length co13, .slice Ao17 t229.length co17] 34 (0, 0))) := ⟨(by rw [hw]; exact (pu_ (cs := #[.slice Ao13 t226.length co13, .slice none 0 0]) (pu_ (cs := #[.slice none 0 0, .slice none 0 0]) (h_ BK233))))⟩; have n5_ : Fc (Below w.heap.size w w18) := ⟨(by rw [hw]; exact (b_ HB))⟩; clear hw HO228 HO231 BK224 BK225 BK233 HB; have HO228 := n0_; have HO231 := n1_; have BK224 := n2_; have BK225 := n3_; have BK233 := n4_; have HB := n5_; clear n0_ n1_ n2_ n3_ n4_ n5_; obtain ⟨hcz19_0, hcz19_1, hfz19_0, hfz19_1⟩ := c2_ BK233; have q20 : (a1 : Int) ≤ ((t229.length : Int) : Int) := of_decide_eq_true (by first | (with_reducible assumption) | assumption); obtain ⟨i020, hi020, _, hsz20, _⟩ := info_parts info3; have hcut20 := cut_to (P := Try.prog) 24 3 .i64 Try.underlying24 hi020 Ao17 t229.length co17 a1 (of_decide_eq_true (by first | (with_reducible assumption) | assumption)) q20 (Kd.R_reads' HO231.out).2.1; have hr20 := Kd.R_take (m := (a1 : Int).toNat) HO231.out (by omega); have hy20 : y234.length = (a1 : Int).toNat := (by rw [Ny234.out, List.length_take]; omega); rw [← Ny234.out] at hr20; rw [← hy20] at hr20 hcut20; clear hy20 hi020 hsz20 HO231; have HO236 := mk0 hr20; clear hr20; replace q20 := eq_true q20; obtain ⟨hcz21_0, hcz21_1, hfz21_0, hfz21_1⟩ := c2_ BK225))
    refine bodyPost_ret (results_ct rfl _ _ gb225 34 #[.slice Ao13 t226.length co13, .slice Ao17 y234.length co17] (0, 0) _ rfl (pu_ (cs := #[.slice Ao13 t226.length co13, .slice none 0 0]) (pu_ (cs := #[.slice none 0 0, .slice none 0 0]) (fa_ (h_ BK225) NB225_233.out))) Try.underlying34 rfl (by kernel_rfl)) rfl ?_
    exact ⟨_, _, by first | rfl | (simp [errW_none, errW_some] <;> rfl) | (simp [*, errW_none, errW_some] <;> rfl), by (with_reducible repeat (first | apply Ra_ | apply Rn_ | apply Rd_)); exact Kd.R_mono (Kd.R_far (p := ⟨gb225, 1, none⟩) (Kd.R_far (p := ⟨gb225, 0, none⟩) (Kd.R_far (p := ⟨gb233, 1, none⟩) (Kd.R_types (Kd.R_types HO228.out BK233.out (by decide)) BK225.out (by decide)) (fun _ hk => hk.1.2) (.slice Ao17 y234.length co17)) (fun _ hk => hk.2) (.slice Ao13 t226.length co13)) (fun _ hk => hk.2) (.slice Ao17 y234.length co17)) (fun _ hk => trivial), by (with_reducible repeat (first | apply Ra_ | apply Rn_ | apply Rd_)); exact Kd.R_mono (Kd.R_far (p := ⟨gb225, 1, none⟩) (Kd.R_far (p := ⟨gb225, 0, none⟩) (Kd.R_far (p := ⟨gb233, 1, none⟩) (Kd.R_types (Kd.R_types HO236.out BK233.out (by decide)) BK225.out (by decide)) (fun _ hk => hk.1.2) (.slice Ao17 y234.length co17)) (fun _ hk => hk.2) (.slice Ao13 t226.length co13)) (fun _ hk => hk.2) (.slice Ao17 y234.length co17)) (fun _ hk => trivial), b_ HB⟩
   ·rw [if_neg c6] at H
    exact absurd H (by simp)
  ·rw [if_neg c5] at H
   exact absurd H (by simp)
 ·rw [if_neg c4] at H
  have c4b0 : (t232 == 0) = false := beq_eq_false_iff_ne.mpr c4
  have c4b1 : (t232 != 0) = true := bne_iff_ne.mpr c4
  simp only [Option.some.injEq, Prod.mk.injEq] at H
  obtain ⟨rfl, rfl, rfl⟩ := H
  go_enter Try.func57, Try.ntmps57
  go_wp2_with (first | ((with_reducible refine gate_dst (N := 2) rfl ?_); refine bx_ (N := 2) (cs := #[.slice A0_0 l0_0.length c0_0, .slice A0_1 l0_1.length c0_1]) (t := 34) (h := ?_); intro gb224 hg w22 hbox hb; have n2_ := mk0 (gz_ HB hg); have n3_ := mk0 (gz_ HB hg); replace HB := mk0 (bt_ (b_ HB) hb); have BK224 := mk0 (hbox); have GW224 := n2_; have GE224 := n3_; clear n2_ n3_; clear hb hbox hg) | ((with_reducible refine gate_dst (N := 4) rfl ?_); refine bx_ (N := 4) (cs := #[.slice none 0 0, .slice none 0 0]) (t := 34) (h := ?_); intro gb225 hg w23 hbox hb; have n3_ := mk0 (gz_ HB hg); have n4_ := mk0 (gz_ HB hg); have n5_ := mk0 (ne1_ BK224 hg); have n6_ := mk0 (ne2_ BK224 hg); replace BK224 := mk0 (u_ BK224 hb); replace HB := mk0 (bt_ (b_ HB) hb); have BK225 := mk0 (hbox); have GW225 := n3_; have GE225 := n4_; have NB224_225 := n5_; have NB225_224 := n6_; clear n3_ n4_ n5_ n6_ hb hbox hg; have hnb24 := NB224_225.out; have hnc24 := NB225_224.out; obtain ⟨hcz25_0, hcz25_1, hfz25_0, hfz25_1⟩ := c2_ BK224) | ((with_reducible refine gate_callee (f := 112) rfl ?_); refine gL_ (some 11) Try.func112 #[.agg #[.slice A0_0 l0_0.length c0_0, .slice A0_1 l0_1.length c0_1], .int .i64 a1] (h := ?_); (with_reducible refine (pend_marked.calls k _ _ l0_0 _ _ l0_1 a1 t226 t229 t232 _ ?side1 ?side2 ?side3 ?side4 A3.out).mono ?_); (case side1 => exact cb_ HR0_0 HB); (case side2 => exact HC0_0.out); (case side3 => exact cb_ HR0_1 HB); (case side4 => exact HC0_1.out); rintro e w26 ⟨v227, v230, rfl, ho0, ho1, hb⟩; refine ⟨_, rfl, ?_⟩; have n0_ := mk0 (Kd.R_lower ho0 (bz_ (b_ HB))); have n1_ := mk0 (Kd.R_lower ho1 (bz_ (b_ HB))); replace BK224 := mk0 (u_ BK224 hb); replace BK225 := mk0 (u_ BK225 hb); replace HB := mk0 (bt_ (b_ HB) hb); have HO228 := n0_; have HO231 := n1_; clear n0_ n1_; (try clear hb); (try clear ho0); (try clear ho1)) | ((with_reducible refine gate_dst (N := 6) rfl ?_); refine bx_ (N := 6) (cs := #[.slice none 0 0, .slice none 0 0]) (t := 34) (h := ?_); intro gb233 hg w27 hbox hb; have n6_ := mk0 (gz_ HB hg); have n7_ := mk0 (gz_ HB hg); have n8_ := mk0 (ne1_ BK224 hg); have n9_ := mk0 (ne2_ BK224 hg); have n10_ := mk0 (ne1_ BK225 hg); have n11_ := mk0 (ne2_ BK225 hg); replace HO228 := mk0 (Kd.R_below (r_ HO228) hb); replace HO231 := mk0 (Kd.R_below (r_ HO231) hb); replace BK224 := mk0 (u_ BK224 hb); replace BK225 := mk0 (u_ BK225 hb); replace HB := mk0 (bt_ (b_ HB) hb); have BK233 := mk0 (hbox); have GW233 := n6_; have GE233 := n7_; have NB224_233 := n8_; have NB233_224 := n9_; have NB225_233 := n10_; have NB233_225 := n11_; clear n6_ n7_ n8_ n9_ n10_ n11_ hb hbox hg; obtain ⟨Ao28, co28, eo28⟩ := Kd.R_slice HO228.out; subst eo28; have hnb29 := NB233_224.out; have hnc29 := NB224_233.out; have hnb30 := NB233_225.out; have hnc30 := NB225_233.out; obtain ⟨hcz31_0, hcz31_1, hfz31_0, hfz31_1⟩ := c2_ BK233; obtain ⟨Ao32, co32, eo32⟩ := Kd.R_slice HO231.out; subst eo32; obtain ⟨hcz33_0, hcz33_1, hfz33_0, hfz33_1⟩ := c2_ BK225))
  refine bodyPost_ret (results_ct rfl _ _ gb225 34 #[.slice Ao28 t226.length co28, .slice Ao32 t229.length co32] (0, 0) _ rfl (pu_ (cs := #[.slice Ao28 t226.length co28, .slice none 0 0]) (pu_ (cs := #[.slice none 0 0, .slice none 0 0]) (fa_ (fa_ (h_ BK225) NB225_233.out) NB225_233.out))) Try.underlying34 rfl (by kernel_rfl)) rfl ?_
  exact ⟨_, _, by first | rfl | (simp [errW_none, errW_some] <;> rfl) | (simp [*, errW_none, errW_some] <;> rfl), by (with_reducible repeat (first | apply Ra_ | apply Rn_ | apply Rd_)); exact Kd.R_mono (Kd.R_far (p := ⟨gb225, 1, none⟩) (Kd.R_far (p := ⟨gb225, 0, none⟩) (Kd.R_far (p := ⟨gb233, 1, none⟩) (Kd.R_far (p := ⟨gb233, 0, none⟩) (Kd.R_types (Kd.R_types HO228.out BK233.out (by decide)) BK225.out (by decide)) (fun _ hk => hk.1.2) (.slice Ao28 t226.length co28)) (fun _ hk => hk.1.2) (.slice Ao32 t229.length co32)) (fun _ hk => hk.2) (.slice Ao28 t226.length co28)) (fun _ hk => hk.2) (.slice Ao32 t229.length co32)) (fun _ hk => trivial), by (with_reducible repeat (first | apply Ra_ | apply Rn_ | apply Rd_)); exact Kd.R_mono (Kd.R_far (p := ⟨gb225, 1, none⟩) (Kd.R_far (p := ⟨gb225, 0, none⟩) (Kd.R_far (p := ⟨gb233, 1, none⟩) (Kd.R_far (p := ⟨gb233, 0, none⟩) (Kd.R_types (Kd.R_types HO231.out BK233.out (by decide)) BK225.out (by decide)) (fun _ hk => hk.1.2) (.slice Ao28 t226.length co28)) (fun _ hk => hk.1.2) (.slice Ao32 t229.length co32)) (fun _ hk => hk.2) (.slice Ao28 t226.length co28)) (fun _ hk => hk.2) (.slice Ao32 t229.length co32)) (fun _ hk => trivial), b_ HB⟩

/-! ### quorumref8_Release: function 58 -/
def quorumref8_Release.f (k : Nat) (l0_0 : List (S36)) (l0_1 : List Int) (a1 : Int) : Option ((List (S36)) × List Int × Int) := (quorumref0_CopyPend.f k l0_0 l0_1).bind fun bt239 => ((quorumref0_Num.f a1 (wrap64 ((bt239.2.length : Int) - 1))).bind fun t245 => (if t245 = true then (if 0 ≤ a1 then (if a1 ≤ (bt239.2.length : Int) then (some (bt239.1, (bt239.2.take (a1 : Int).toNat), 0)) else (none)) else (none)) else (some (([] : List (S36)), ([] : List Int), 7))))
theorem quorumref8_Release.mono : ∀ a0 a1 a2 k, LeO (quorumref8_Release.f k a0 a1 a2) (quorumref8_Release.f (k + 1) a0 a1 a2) := by
 intro a0 a1 a2 k
 unfold quorumref8_Release.f
 repeat' first
   | (with_reducible exact quorumref0_CopyPend.mono _ _ _)
   | (with_reducible exact LeO.refl _)
   | (with_reducible exact LeO.none _)
   | (with_reducible refine LeO.ite ?_ ?_)
   | (with_reducible refine LeO.bind ?_ (fun _ => ?_))
   | exact quorumref0_CopyPend.mono _ _ _
   | exact LeO.none _
   | refine LeO.ite ?_ ?_
   | refine LeO.bind ?_ (fun _ => ?_)
set_option maxHeartbeats 8000000 in
set_option maxRecDepth 100000 in
theorem quorumref8_Release.calls (k : Nat) (A0_0 : Option Addr) (c0_0 : Nat) (l0_0 : List (S36)) (A0_1 : Option Addr) (c0_1 : Nat) (l0_1 : List Int) (a1 : Int) (r1 : List (S36)) (r2 : List Int) (r3 : Int) (w : World) (hr0_0 : Kd.C k36 w A0_0 l0_0.length l0_0) (hc0_0 : l0_0.length ≤ c0_0) (hr0_1 : Kd.C (Kd.int .i64) w A0_1 l0_1.length l0_1) (hc0_1 : l0_1.length ≤ c0_1) (h : quorumref8_Release.f k l0_0 l0_1 a1 = some (r1, r2, r3)) :
  Calls Try.prog 58 #[.agg #[.slice A0_0 l0_0.length c0_0, .slice A0_1 l0_1.length c0_1], .int .i64 a1] w fun e w' => ∃ v0_ v1_ : Value, e = .returned (.tuple #[.agg #[v0_, v1_], .int .i64 r3]) ∧ Kd.R k36 36 w' w.heap.size (fun _ => True) v0_ r1 ∧ Kd.R (Kd.int .i64) 3 w' w.heap.size (fun _ => True) v1_ r2 ∧ Below w.heap.size w w' := by
 have hu34 := Try.underlying34
 have HR0_0 := mk0 hr0_0
 have HC0_0 := mk0 hc0_0
 clear hr0_0 hc0_0
 have HR0_1 := mk0 hr0_1
 have HC0_1 := mk0 hc0_1
 clear hr0_1 hc0_1
 have HB := mk0 (Below.refl w.heap.size w)
 have H : ((quorumref0_CopyPend.f k l0_0 l0_1).bind fun bt239 => ((quorumref0_Num.f a1 (wrap64 ((bt239.2.length : Int) - 1))).bind fun t245 => (if t245 = true then (if 0 ≤ a1 then (if a1 ≤ (bt239.2.length : Int) then (some (bt239.1, (bt239.2.take (a1 : Int).toNat), 0)) else (none)) else (none)) else (some (([] : List (S36)), ([] : List Int), 7))))) = some (r1, r2, r3) := h
 clear h
 replace H := Option.bind_eq_some_iff.mp H
 obtain ⟨⟨t239, t242⟩, A30, H⟩ := H
 try dsimp only at H
 have A3 := mk0 A30
 clear A30
 replace H := Option.bind_eq_some_iff.mp H
 obtain ⟨t245, A40, H⟩ := H
 try dsimp only at H
 have A4 := mk0 A40
 clear A40
 by_cases c5 : t245 = true
 ·subst c5
  rw [if_pos rfl] at H
  by_cases c6 : 0 ≤ a1
  ·rw [if_pos c6] at H
   have c6b0 := eq_true c6
   have c6b1 : decide (0 ≤ a1) = true := decide_eq_true c6
   clear c6
   by_cases c7 : a1 ≤ (t242.length : Int)
   ·rw [if_pos c7] at H
    have c7b0 := eq_true c7
    have c7b1 : decide (a1 ≤ (t242.length : Int)) = true := decide_eq_true c7
    clear c7
    obtain ⟨y246, hy246⟩ : ∃ y_ : List Int, y_ = (t242.take (a1 : Int).toNat) := ⟨_, rfl⟩
    replace H : (some (t239, y246, 0)) = some (r1, r2, r3) := by first | (rw [hy246]; with_reducible exact H) | (have H2_ := (Option.bind_some _ _).symm.trans H; rw [hy246]; with_reducible exact H2_) | (have H2_ := (Option.bind_some _ _).symm.trans H; with_reducible exact H2_) | with_reducible exact H | (rw [hy246]; exact H) | exact H
    have Ny246 := mk0 hy246
    clear hy246
    simp only [Option.some.injEq, Prod.mk.injEq] at H
    obtain ⟨rfl, rfl, rfl⟩ := H
    go_enter Try.func58, Try.ntmps58
    go_wp2_with (first | ((with_reducible refine gate_dst (N := 2) rfl ?_); refine bx_ (N := 2) (cs := #[.slice A0_0 l0_0.length c0_0, .slice A0_1 l0_1.length c0_1]) (t := 34) (h := ?_); intro gb237 hg w8 hbox hb; have n2_ := mk0 (gz_ HB hg); have n3_ := mk0 (gz_ HB hg); replace HB := mk0 (bt_ (b_ HB) hb); have BK237 := mk0 (hbox); have GW237 := n2_; have GE237 := n3_; clear n2_ n3_; clear hb hbox hg) | ((with_reducible refine gate_dst (N := 4) rfl ?_); refine bx_ (N := 4) (cs := #[.slice none 0 0, .slice none 0 0]) (t := 34) (h := ?_); intro gb238 hg w9 hbox hb; have n3_ := mk0 (gz_ HB hg); have n4_ := mk0 (gz_ HB hg); have n5_ := mk0 (ne1_ BK237 hg); have n6_ := mk0 (ne2_ BK237 hg); replace BK237 := mk0 (u_ BK237 hb); replace HB := mk0 (bt_ (b_ HB) hb); have BK238 := mk0 (hbox); have GW238 := n3_; have GE238 := n4_; have NB237_238 := n5_; have NB238_237 := n6_; clear n3_ n4_ n5_ n6_ hb hbox hg; have hnb10 := NB237_238.out; have hnc10 := NB238_237.out; obtain ⟨hcz11_0, hcz11_1, hfz11_0, hfz11_1⟩ := c2_ BK237) | ((with_reducible refine gate_callee (f := 24) rfl ?_); refine gL_ (some 7) Try.func24 #[.agg #[.slice A0_0 l0_0.length c0_0, .slice A0_1 l0_1.length c0_1]] (h := ?_); (with_reducible refine (quorumref0_CopyPend.calls k _ _ l0_0 _ _ l0_1 t239 t242 _ ?side1 ?side2 ?side3 ?side4 A3.out).mono ?_); (case side1 => exact cb_ HR0_0 HB); (case side2 => exact HC0_0.out); (case side3 => exact cb_ HR0_1 HB); (case side4 => exact HC0_1.out); rintro e w12 ⟨v240, v243, rfl, ho0, ho1, hb⟩; refine ⟨_, rfl, ?_⟩; have n0_ := mk0 (Kd.R_lower ho0 (bz_ (b_ HB))); have n1_ := mk0 (Kd.R_lower ho1 (bz_ (b_ HB))); replace BK237 := mk0 (u_ BK237 hb); replace BK238 := mk0 (u_ BK238 hb); replace HB := mk0 (bt_ (b_ HB) hb); have HO241 := n0_; have HO244 := n1_; clear n0_ n1_; (try clear hb); (try clear ho0); (try clear ho1); obtain ⟨Ao13, co13, eo13⟩ := Kd.R_slice HO241.out; subst eo13; obtain ⟨hcz14_0, hcz14_1, hfz14_0, hfz14_1⟩ := c2_ BK237; obtain ⟨Ao15, co15, eo15⟩ := Kd.R_slice HO244.out; subst eo15) | ((with_reducible refine gate_store (t := 34) (p := 2) rfl ?_); refine sv_ (t := 34) (p := 2) (w1 := ((w12.setCell ⟨gb237, 0, none⟩ (.slice Ao13 t239.length co13)).setCell ⟨gb237, 1, none⟩ (.slice Ao15 t242.length co15))) (h := ?_); intro w16 hw; have n0_ : Fc (Kd.R k36 36 w16 w.heap.size (fun _ => True) (.slice Ao13 t239.length co13) t239) := ⟨(by rw [hw]; exact (r2_ (Kd.R_mono (Kd.R_far (p := ⟨gb237, 1, none⟩) (Kd.R_far (p := ⟨gb237, 0, none⟩) (Kd.R_types HO241.out BK237.out (by decide)) (fun _ hk => hk.2) (.slice Ao13 t239.length co13)) (fun _ hk => hk.2) (.slice Ao15 t242.length co15)) (fun _ hk => trivial))))⟩; have n1_ : Fc (Kd.R (Kd.int .i64) 3 w16 w.heap.size (fun _ => True) (.slice Ao15 t242.length co15) t242) := ⟨(by rw [hw]; exact (r2_ (Kd.R_mono (Kd.R_far (p := ⟨gb237, 1, none⟩) (Kd.R_far (p := ⟨gb237, 0, none⟩) (Kd.R_types HO244.out BK237.out (by decide)) (fun _ hk => hk.2) (.slice Ao13 t239.length co13)) (fun _ hk => hk.2) (.slice Ao15 t242.length co15)) (fun _ hk => trivial))))⟩; have n2_ : Fc (w16.heap[gb237]? = some (.cells #[.slice Ao13 t239.length co13, .slice Ao15 t242.length co15] 34 (0, 0))) := ⟨(by rw [hw]; exact (pu_ (cs := #[.slice Ao13 t239.length co13, .slice A0_1 l0_1.length c0_1]) (pu_ (cs := #[.slice A0_0 l0_0.length c0_0, .slice A0_1 l0_1.length c0_1]) (h_ BK237))))⟩; have n3_ : Fc (w16.heap[gb238]? = some (.cells #[.slice none 0 0, .slice none 0 0] 34 (0, 0))) := ⟨(by rw [hw]; exact (fa_ (fa_ (h_ BK238) NB238_237.out) NB238_237.out))⟩; have n4_ : Fc (Below w.heap.size w w16) := ⟨(by rw [hw]; exact (b_ HB))⟩; clear hw HO241 HO244 BK237 BK238 HB; have HO241 := n0_; have HO244 := n1_; have BK237 := n2_; have BK238 := n3_; have HB := n4_; clear n0_ n1_ n2_ n3_ n4_; obtain ⟨hcz17_0, hcz17_1, hfz17_0, hfz17_1⟩ := c2_ BK237) | ((with_reducible refine gate_callee (f := 39) rfl ?_); refine gL_ (some 13) Try.func39 #[.int .i64 a1, .int .i64 (wrap64 ((t242.length : Int) - 1))] (h := ?_); (with_reducible refine (quorumref0_Num.calls a1 (wrap64 ((t242.length : Int) - 1)) true _ A4.out).mono ?_); rintro e w' ⟨rfl, ⟨nd, rfl⟩⟩; refine ⟨_, rfl, ?_⟩; (try (rw [drewN_self w16]; generalize hq_ : World.drewN w16 _ = w16; have n0_ : Fc (Kd.R k36 36 w16 w.heap.size (fun _ => True) (.slice Ao13 t239.length co13) t239) := ⟨by rw [← hq_]; exact (r_ HO241)⟩; have n1_ : Fc (Kd.R (Kd.int .i64) 3 w16 w.heap.size (fun _ => True) (.slice Ao15 t242.length co15) t242) := ⟨by rw [← hq_]; exact (r_ HO244)⟩; have n2_ : Fc (w16.heap[gb237]? = some (.cells #[.slice Ao13 t239.length co13, .slice Ao15 t242.length co15] 34 (0, 0))) := ⟨by rw [← hq_]; exact (h_ BK237)⟩; have n3_ : Fc (w16.heap[gb238]? = some (.cells #[.slice none 0 0, .slice none 0 0] 34 (0, 0))) := ⟨by rw [← hq_]; exact (h_ BK238)⟩; have n4_ : Fc (Below w.heap.size w w16) := ⟨by rw [← hq_]; exact (b_ HB)⟩; clear HO241 HO244 BK237 BK238 HB hq_; have HO241 := n0_; have HO244 := n1_; have BK237 := n2_; have BK238 := n3_; have HB := n4_; clear n0_ n1_ n2_ n3_ n4_; (try obtain ⟨hcy237_0, hcy237_1, hfy237_0, hfy237_1⟩ := c2_ BK237); (try obtain ⟨hcy238_0, hcy238_1, hfy238_0, hfy238_1⟩ := c2_ BK238))); have q18 : (a1 : Int) ≤ ((t242.length : Int) : Int) := of_decide_eq_true (by first | (with_reducible assumption) | assumption); obtain ⟨i018, hi018, _, hsz18, _⟩ := info_parts info3; have hcut18 := cut_to (P := Try.prog) 24 3 .i64 Try.underlying24 hi018 Ao15 t242.length co15 a1 (of_decide_eq_true (by first | (with_reducible assumption) | assumption)) q18 (Kd.R_reads' HO244.out).2.1; have hr18 := Kd.R_take (m := (a1 : Int).toNat) HO244.out (by omega); have hy18 : y246.length = (a1 : Int).toNat := (by rw [Ny246.out, List.length_take]; omega); rw [← Ny246.out] at hr18; rw [← hy18] at hr18 hcut18; clear hy18 hi018 hsz18 HO244; have HO248 := mk0 hr18; clear hr18; replace q18 := eq_true q18; obtain ⟨hcz19_0, hcz19_1, hfz19_0, hfz19_1⟩ := c2_ BK238))
    refine bodyPost_ret (results_ct rfl _ _ gb238 34 #[.slice Ao13 t239.length co13, .slice Ao15 y246.length co15] (0, 0) _ rfl (pu_ (cs := #[.slice Ao13 t239.length co13, .slice none 0 0]) (pu_ (cs := #[.slice none 0 0, .slice none 0 0]) (fa_ (h_ BK238) NB238_237.out))) Try.underlying34 rfl (by kernel_rfl)) rfl ?_
    exact ⟨_, _, by first | rfl | (simp [errW_none, errW_some] <;> rfl) | (simp [*, errW_none, errW_some] <;> rfl), by (with_reducible repeat (first | apply Ra_ | apply Rn_ | apply Rd_)); exact Kd.R_mono (Kd.R_far (p := ⟨gb238, 1, none⟩) (Kd.R_far (p := ⟨gb238, 0, none⟩) (Kd.R_far (p := ⟨gb237, 1, none⟩) (Kd.R_types (Kd.R_types HO241.out BK237.out (by decide)) BK238.out (by decide)) (fun _ hk => hk.1.2) (.slice Ao15 y246.length co15)) (fun _ hk => hk.2) (.slice Ao13 t239.length co13)) (fun _ hk => hk.2) (.slice Ao15 y246.length co15)) (fun _ hk => trivial), by (with_reducible repeat (first | apply Ra_ | apply Rn_ | apply Rd_)); exact Kd.R_mono (Kd.R_far (p := ⟨gb238, 1, none⟩) (Kd.R_far (p := ⟨gb238, 0, none⟩) (Kd.R_far (p := ⟨gb237, 1, none⟩) (Kd.R_types (Kd.R_types HO248.out BK237.out (by decide)) BK238.out (by decide)) (fun _ hk => hk.1.2) (.slice Ao15 y246.length co15)) (fun _ hk => hk.2) (.slice Ao13 t239.length co13)) (fun _ hk => hk.2) (.slice Ao15 y246.length co15)) (fun _ hk => trivial), b_ HB⟩
   ·rw [if_neg c7] at H
    exact absurd H (by simp)
  ·rw [if_neg c6] at H
   exact absurd H (by simp)
 ·replace c5 := Bool.eq_false_iff.mpr c5
  subst c5
  rw [if_neg (show ¬ (false = true) by decide)] at H
  simp only [Option.some.injEq, Prod.mk.injEq] at H
  obtain ⟨rfl, rfl, rfl⟩ := H
  go_enter Try.func58, Try.ntmps58
  go_wp2_with (first | ((with_reducible refine gate_dst (N := 2) rfl ?_); refine bx_ (N := 2) (cs := #[.slice A0_0 l0_0.length c0_0, .slice A0_1 l0_1.length c0_1]) (t := 34) (h := ?_); intro gb237 hg w20 hbox hb; have n2_ := mk0 (gz_ HB hg); have n3_ := mk0 (gz_ HB hg); replace HB := mk0 (bt_ (b_ HB) hb); have BK237 := mk0 (hbox); have GW237 := n2_; have GE237 := n3_; clear n2_ n3_; clear hb hbox hg) | ((with_reducible refine gate_dst (N := 4) rfl ?_); refine bx_ (N := 4) (cs := #[.slice none 0 0, .slice none 0 0]) (t := 34) (h := ?_); intro gb238 hg w21 hbox hb; have n3_ := mk0 (gz_ HB hg); have n4_ := mk0 (gz_ HB hg); have n5_ := mk0 (ne1_ BK237 hg); have n6_ := mk0 (ne2_ BK237 hg); replace BK237 := mk0 (u_ BK237 hb); replace HB := mk0 (bt_ (b_ HB) hb); have BK238 := mk0 (hbox); have GW238 := n3_; have GE238 := n4_; have NB237_238 := n5_; have NB238_237 := n6_; clear n3_ n4_ n5_ n6_ hb hbox hg; have hnb22 := NB237_238.out; have hnc22 := NB238_237.out; obtain ⟨hcz23_0, hcz23_1, hfz23_0, hfz23_1⟩ := c2_ BK237) | ((with_reducible refine gate_callee (f := 24) rfl ?_); refine gL_ (some 7) Try.func24 #[.agg #[.slice A0_0 l0_0.length c0_0, .slice A0_1 l0_1.length c0_1]] (h := ?_); (with_reducible refine (quorumref0_CopyPend.calls k _ _ l0_0 _ _ l0_1 t239 t242 _ ?side1 ?side2 ?side3 ?side4 A3.out).mono ?_); (case side1 => exact cb_ HR0_0 HB); (case side2 => exact HC0_0.out); (case side3 => exact cb_ HR0_1 HB); (case side4 => exact HC0_1.out); rintro e w24 ⟨v240, v243, rfl, ho0, ho1, hb⟩; refine ⟨_, rfl, ?_⟩; have n0_ := mk0 (Kd.R_lower ho0 (bz_ (b_ HB))); have n1_ := mk0 (Kd.R_lower ho1 (bz_ (b_ HB))); replace BK237 := mk0 (u_ BK237 hb); replace BK238 := mk0 (u_ BK238 hb); replace HB := mk0 (bt_ (b_ HB) hb); have HO241 := n0_; have HO244 := n1_; clear n0_ n1_; (try clear hb); (try clear ho0); (try clear ho1); obtain ⟨Ao25, co25, eo25⟩ := Kd.R_slice HO241.out; subst eo25; obtain ⟨hcz26_0, hcz26_1, hfz26_0, hfz26_1⟩ := c2_ BK237; obtain ⟨Ao27, co27, eo27⟩ := Kd.R_slice HO244.out; subst eo27) | ((with_reducible refine gate_callee (f := 39) rfl ?_); refine gL_ (some 13) Try.func39 #[.int .i64 a1, .int .i64 (wrap64 ((t242.length : Int) - 1))] (h := ?_); (with_reducible refine (quorumref0_Num.calls a1 (wrap64 ((t242.length : Int) - 1)) false _ A4.out).mono ?_); rintro e w' ⟨rfl, ⟨nd, rfl⟩⟩; refine ⟨_, rfl, ?_⟩; obtain ⟨hcz28_0, hcz28_1, hfz28_0, hfz28_1⟩ := c2_ BK238))
  refine bodyPost_ret (results_ct rfl _ _ gb238 34 #[.slice none 0 0, .slice none 0 0] (0, 0) _ rfl (pu_ (cs := #[.slice none 0 0, .slice none 0 0]) (pu_ (cs := #[.slice none 0 0, .slice none 0 0]) (fa_ (fa_ (h_ BK238) NB238_237.out) NB238_237.out))) Try.underlying34 rfl (by kernel_rfl)) rfl ?_
  exact ⟨_, _, by first | rfl | (simp [errW_none, errW_some] <;> rfl) | (simp [*, errW_none, errW_some] <;> rfl), by first | exact Kd.R_nil _ _ _ _ _ | exact Kd.N_nil _ _ _ _ _ | exact Kd.V_nil _ _ _ _ _ | exact Kd.Q_nil _ _ _ _ _ | exact Kd.S_nil _ _ _ _ _, by first | exact Kd.R_nil _ _ _ _ _ | exact Kd.N_nil _ _ _ _ _ | exact Kd.V_nil _ _ _ _ _ | exact Kd.Q_nil _ _ _ _ _ | exact Kd.S_nil _ _ _ _ _, b_ HB⟩

end Go.Proofs.Ytbaecdcfefmcgaa.PPnd
