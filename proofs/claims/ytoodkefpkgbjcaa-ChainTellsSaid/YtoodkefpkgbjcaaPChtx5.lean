-- PRINTED by print.py (a twelfth state) out of the translation. Not trusted: Lean checks it.
import Derived.Test.YtoodkefpkgbjcaaPChtx0
import Derived.Test.YtoodkefpkgbjcaaPChtx1
import Derived.Test.YtoodkefpkgbjcaaPChtx2
import Derived.Test.YtoodkefpkgbjcaaPChtx4
namespace Go.Proofs.Ytoodkefpkgbjcaa.PCht
open Go.RowKit Go.Proofs.YtoodkefpkgbjcaaW.PrintWords Go.Proofs.YtoodkefpkgbjcaaW.PrintLast Go.Proofs.YtoodkefpkgbjcaaW.PrintMore
attribute [local go_sem] max2_int min2_int max_two min_two max_three min_three max_four min_four   -- for this text's walks alone
set_option linter.unusedVariables false
set_option linter.unusedSimpArgs false

attribute [local go_sem high] eqA39
/-! ### chain_Left: function 63 -/
def chain_Left.f (a0_0 : ByteArray) (l0_1 : List (S39)) (a1 : Int) : Option (ByteArray × (List (S39))) := (chain_Own.f a0_0 l0_1).bind fun bt160 => ((chain_place.f bt160.1 bt160.2 a1).bind fun t164 => (if t164 < (bt160.2.length : Int) then (if 0 ≤ t164 then (if ((rd_T39 bt160.2 t164).f2 = true) then (if t164 ≤ (bt160.2.length : Int) then ((some (bt160.2.take (t164 : Int).toNat : List (S39))).bind fun y166 => (if (y166.length : Int) = 0 then (some ((⟨#[]⟩ : ByteArray), ([] : List (S39)))) else (some (bt160.1, y166)))) else (none)) else (if 0 ≤ (wrap64 (t164 + 1)) then (if (wrap64 (t164 + 1)) ≤ (bt160.2.length : Int) then ((some (bt160.2.take ((wrap64 (t164 + 1)) : Int).toNat : List (S39))).bind fun y169 => (if (y169.length : Int) = 0 then (some ((⟨#[]⟩ : ByteArray), ([] : List (S39)))) else (some (bt160.1, y169)))) else (none)) else (none))) else (none)) else (if (bt160.2.length : Int) = 0 then (some ((⟨#[]⟩ : ByteArray), ([] : List (S39)))) else (some (bt160.1, bt160.2)))))
set_option maxHeartbeats 8000000 in
set_option maxRecDepth 100000 in
theorem chain_Left.calls (a0_0 : ByteArray) (A0_1 : Option Addr) (c0_1 : Nat) (l0_1 : List (S39)) (a1 : Int) (r1 : ByteArray) (r2 : List (S39)) (w : World) (hr0_1 : Kd.C k39 w A0_1 l0_1.length l0_1) (hc0_1 : l0_1.length ≤ c0_1) (h : chain_Left.f a0_0 l0_1 a1 = some (r1, r2)) :
  Calls Try.prog 63 #[.agg #[.string a0_0, .slice A0_1 l0_1.length c0_1], .int .i64 a1] w fun e w' => ∃ v1_ : Value, e = .returned (.agg #[.string r1, v1_]) ∧ Kd.R k39 39 w' w.heap.size (fun _ => True) v1_ r2 ∧ Below w.heap.size w w' := by
 have hu30 := Try.underlying30
 have HR0_1 := mk0 hr0_1
 have HC0_1 := mk0 hc0_1
 clear hr0_1 hc0_1
 have HB := mk0 (Below.refl w.heap.size w)
 have H : ((chain_Own.f a0_0 l0_1).bind fun bt160 => ((chain_place.f bt160.1 bt160.2 a1).bind fun t164 => (if t164 < (bt160.2.length : Int) then (if 0 ≤ t164 then (if ((rd_T39 bt160.2 t164).f2 = true) then (if t164 ≤ (bt160.2.length : Int) then ((some (bt160.2.take (t164 : Int).toNat : List (S39))).bind fun y166 => (if (y166.length : Int) = 0 then (some ((⟨#[]⟩ : ByteArray), ([] : List (S39)))) else (some (bt160.1, y166)))) else (none)) else (if 0 ≤ (wrap64 (t164 + 1)) then (if (wrap64 (t164 + 1)) ≤ (bt160.2.length : Int) then ((some (bt160.2.take ((wrap64 (t164 + 1)) : Int).toNat : List (S39))).bind fun y169 => (if (y169.length : Int) = 0 then (some ((⟨#[]⟩ : ByteArray), ([] : List (S39)))) else (some (bt160.1, y169)))) else (none)) else (none))) else (none)) else (if (bt160.2.length : Int) = 0 then (some ((⟨#[]⟩ : ByteArray), ([] : List (S39)))) else (some (bt160.1, bt160.2)))))) = some (r1, r2) := h
 clear h
 replace H := Option.bind_eq_some_iff.mp H
 obtain ⟨⟨t160, t161⟩, A30, H⟩ := H
 try dsimp only at H
 have A3 := mk0 A30
 clear A30
 replace H := Option.bind_eq_some_iff.mp H
 obtain ⟨t164, A40, H⟩ := H
 try dsimp only at H
 have A4 := mk0 A40
 clear A40
 by_cases c5 : t164 < (t161.length : Int)
 focus
  rw [if_pos c5] at H
  have c5b0 : decide (t164 < (t161.length : Int)) = true := decide_eq_true c5
  clear c5
  by_cases c6 : 0 ≤ t164
  focus
   rw [if_pos c6] at H
   have c6b0 : decide (0 ≤ t164) = true := decide_eq_true c6
   clear c6
   obtain ⟨bq7, hbq7⟩ : ∃ b_ : Bool, b_ = ((rd_T39 t161 t164).f2) := ⟨_, rfl⟩
   replace H : (if (bq7 = true) then (if t164 ≤ (t161.length : Int) then ((some (t161.take (t164 : Int).toNat : List (S39))).bind fun y166 => (if (y166.length : Int) = 0 then (some ((⟨#[]⟩ : ByteArray), ([] : List (S39)))) else (some (t160, y166)))) else (none)) else (if 0 ≤ (wrap64 (t164 + 1)) then (if (wrap64 (t164 + 1)) ≤ (t161.length : Int) then ((some (t161.take ((wrap64 (t164 + 1)) : Int).toNat : List (S39))).bind fun y169 => (if (y169.length : Int) = 0 then (some ((⟨#[]⟩ : ByteArray), ([] : List (S39)))) else (some (t160, y169)))) else (none)) else (none))) = some (r1, r2) := by rw [← hbq7] at H; exact H
   have Nbq7 := mk0 hbq7
   clear hbq7
   by_cases c8 : (bq7 = true)
   focus
    subst c8
    rw [if_pos rfl] at H
    by_cases c9 : t164 ≤ (t161.length : Int)
    focus
     rw [if_pos c9] at H
     have c9b0 := eq_true c9
     have c9b1 : decide (t164 ≤ (t161.length : Int)) = true := decide_eq_true c9
     clear c9
     obtain ⟨y166, hy166⟩ : ∃ y_ : List (S39), y_ = (t161.take (t164 : Int).toNat) := ⟨_, rfl⟩
     replace H : (if (y166.length : Int) = 0 then (some ((⟨#[]⟩ : ByteArray), ([] : List (S39)))) else (some (t160, y166))) = some (r1, r2) := by first | (rw [hy166]; with_reducible exact H) | (have H2_ := (Option.bind_some _ _).symm.trans H; rw [hy166]; with_reducible exact H2_) | (have H2_ := (Option.bind_some _ _).symm.trans H; with_reducible exact H2_) | with_reducible exact H | (rw [hy166]; exact H) | exact H
     have Ny166 := mk0 hy166
     clear hy166
     by_cases c10 : (y166.length : Int) = 0
     focus
      rw [if_pos c10] at H
      have c10b0 : ((y166.length : Int) == 0) = true := beq_iff_eq.mpr c10
      have c10b1 : ((y166.length : Int) != 0) = false := bne_eq_false_iff_eq.mpr c10
      clear c10
      simp only [Option.some.injEq, Prod.mk.injEq] at H
      obtain ⟨rfl, rfl⟩ := H
      go_enter Try.func63, Try.ntmps63
     rotate_left 1
     focus
      rw [if_neg c10] at H
      have c10b0 : ((y166.length : Int) == 0) = false := beq_eq_false_iff_ne.mpr c10
      have c10b1 : ((y166.length : Int) != 0) = true := bne_iff_ne.mpr c10
      have c10b2 : ¬ (y166 = []) := fun h_ => c10 (by rw [h_]; rfl)
      simp only [Option.some.injEq, Prod.mk.injEq] at H
      obtain ⟨rfl, rfl⟩ := H
      go_enter Try.func63, Try.ntmps63
     rotate_right 1
    rotate_left 2
    ·rw [if_neg c9] at H
     exact absurd H (by simp)
   rotate_left 2
   focus
    replace c8 := Bool.eq_false_iff.mpr c8
    subst c8
    rw [if_neg (show ¬ (false = true) by decide)] at H
    obtain ⟨ji33, hji33⟩ : ∃ j_ : Int, (wrap64 (t164 + 1)) = j_ := ⟨_, rfl⟩
    replace H : (if 0 ≤ (ji33) then (if (ji33) ≤ (t161.length : Int) then ((some (t161.take ((ji33) : Int).toNat : List (S39))).bind fun y169 => (if (y169.length : Int) = 0 then (some ((⟨#[]⟩ : ByteArray), ([] : List (S39)))) else (some (t160, y169)))) else (none)) else (none)) = some (r1, r2) := by first | (rw [hji33] at H; exact H) | (simp only [hji33] at H ⊢; exact H)
    (try rw [hji33] at A3)
    (try rw [hji33] at A4)
    have hji33w : (IntKind.i64.wrap (t164 + 1)) = ji33 := (i64_w _).trans hji33
    by_cases c34 : 0 ≤ (ji33)
    focus
     rw [if_pos c34] at H
     have c34b0 := eq_true c34
     have c34b1 : decide (0 ≤ (ji33)) = true := decide_eq_true c34
     clear c34
     by_cases c35 : (ji33) ≤ (t161.length : Int)
     focus
      rw [if_pos c35] at H
      have c35b0 := eq_true c35
      have c35b1 : decide ((ji33) ≤ (t161.length : Int)) = true := decide_eq_true c35
      clear c35
      obtain ⟨y169, hy169⟩ : ∃ y_ : List (S39), y_ = (t161.take ((ji33) : Int).toNat) := ⟨_, rfl⟩
      replace H : (if (y169.length : Int) = 0 then (some ((⟨#[]⟩ : ByteArray), ([] : List (S39)))) else (some (t160, y169))) = some (r1, r2) := by first | (rw [hy169]; with_reducible exact H) | (have H2_ := (Option.bind_some _ _).symm.trans H; rw [hy169]; with_reducible exact H2_) | (have H2_ := (Option.bind_some _ _).symm.trans H; with_reducible exact H2_) | with_reducible exact H | (rw [hy169]; exact H) | exact H
      have Ny169 := mk0 hy169
      clear hy169
      by_cases c36 : (y169.length : Int) = 0
      focus
       rw [if_pos c36] at H
       have c36b0 : ((y169.length : Int) == 0) = true := beq_iff_eq.mpr c36
       have c36b1 : ((y169.length : Int) != 0) = false := bne_eq_false_iff_eq.mpr c36
       clear c36
       simp only [Option.some.injEq, Prod.mk.injEq] at H
       obtain ⟨rfl, rfl⟩ := H
       go_enter Try.func63, Try.ntmps63
      rotate_left 1
      focus
       rw [if_neg c36] at H
       have c36b0 : ((y169.length : Int) == 0) = false := beq_eq_false_iff_ne.mpr c36
       have c36b1 : ((y169.length : Int) != 0) = true := bne_iff_ne.mpr c36
       have c36b2 : ¬ (y169 = []) := fun h_ => c36 (by rw [h_]; rfl)
       simp only [Option.some.injEq, Prod.mk.injEq] at H
       obtain ⟨rfl, rfl⟩ := H
       go_enter Try.func63, Try.ntmps63
      rotate_right 1
     rotate_left 2
     ·rw [if_neg c35] at H
      exact absurd H (by simp)
    rotate_left 2
    ·rw [if_neg c34] at H
     exact absurd H (by simp)
   rotate_right 2
  rotate_left 4
  ·rw [if_neg c6] at H
   exact absurd H (by simp)
 rotate_left 4
 focus
  rw [if_neg c5] at H
  have c5b0 : decide (t164 < (t161.length : Int)) = false := decide_eq_false c5
  clear c5
  by_cases c59 : (t161.length : Int) = 0
  focus
   rw [if_pos c59] at H
   have c59b0 : ((t161.length : Int) == 0) = true := beq_iff_eq.mpr c59
   have c59b1 : ((t161.length : Int) != 0) = false := bne_eq_false_iff_eq.mpr c59
   clear c59
   simp only [Option.some.injEq, Prod.mk.injEq] at H
   obtain ⟨rfl, rfl⟩ := H
   go_enter Try.func63, Try.ntmps63
  rotate_left 1
  focus
   rw [if_neg c59] at H
   have c59b0 : ((t161.length : Int) == 0) = false := beq_eq_false_iff_ne.mpr c59
   have c59b1 : ((t161.length : Int) != 0) = true := bne_iff_ne.mpr c59
   have c59b2 : ¬ (t161 = []) := fun h_ => c59 (by rw [h_]; rfl)
   simp only [Option.some.injEq, Prod.mk.injEq] at H
   obtain ⟨rfl, rfl⟩ := H
   go_enter Try.func63, Try.ntmps63
  rotate_right 1
 rotate_right 4
 all_goals go_wp2_with (first | ((with_reducible refine gate_dst (N := 2) rfl ?_); refine bx_ (N := 2) (cs := #[.string a0_0, .slice A0_1 l0_1.length c0_1]) (t := 30) (h := ?_); intro gb158 hg w37 hbox hb; have n2_ := mk0 (gz_ HB hg); have n3_ := mk0 (gz_ HB hg); replace HB := mk0 (bt_ (b_ HB) hb); have BK158 := mk0 (hbox); have GW158 := n2_; have GE158 := n3_; clear n2_ n3_; clear hb hbox hg) | ((with_reducible refine gate_dst (N := 4) rfl ?_); refine bx_ (N := 4) (cs := #[.string (⟨#[]⟩ : ByteArray), .slice none 0 0]) (t := 30) (h := ?_); intro gb159 hg w38 hbox hb; have n3_ := mk0 (gz_ HB hg); have n4_ := mk0 (gz_ HB hg); have n5_ := mk0 (ne1_ BK158 hg); have n6_ := mk0 (ne2_ BK158 hg); replace BK158 := mk0 (u_ BK158 hb); replace HB := mk0 (bt_ (b_ HB) hb); have BK159 := mk0 (hbox); have GW159 := n3_; have GE159 := n4_; have NB158_159 := n5_; have NB159_158 := n6_; clear n3_ n4_ n5_ n6_ hb hbox hg; have hnb39 := NB158_159.out; have hnc39 := NB159_158.out; obtain ⟨hcz40_0, hcz40_1, hfz40_0, hfz40_1⟩ := c2_ BK158) | ((with_reducible refine gate_callee (f := 121) rfl ?_); refine gL_ (some 7) Try.func121 #[.agg #[.string a0_0, .slice A0_1 l0_1.length c0_1]] (h := ?_); (with_reducible refine (chain_Own.calls a0_0 _ _ l0_1 t160 t161 _ ?side1 ?side2 A3.out).mono ?_); (case side1 => exact cb_ HR0_1 HB); (case side2 => exact HC0_1.out); rintro e w41 ⟨v162, rfl, ho0, hb⟩; refine ⟨_, rfl, ?_⟩; have n0_ := mk0 (Kd.R_lower ho0 (bz_ (b_ HB))); replace BK158 := mk0 (u_ BK158 hb); replace BK159 := mk0 (blk_below (g := gb159) (o := .cells #[.string (⟨#[]⟩ : ByteArray), .slice none 0 0] 30 (0, 0)) (h_ BK159) hb); replace HB := mk0 (bt_ (b_ HB) hb); have HO163 := n0_; clear n0_; (try clear hb); (try clear ho0); obtain ⟨hcz42_0, hcz42_1, hfz42_0, hfz42_1⟩ := c2_ BK158; obtain ⟨Ao43, co43, eo43⟩ := Kd.R_slice HO163.out; subst eo43) | ((with_reducible refine gate_callee (f := 120) rfl ?_); refine gL_ (some 10) Try.func120 #[.agg #[.string t160, .slice Ao43 t161.length co43], .int .i64 a1] (h := ?_); (with_reducible refine (chain_place.calls t160 _ _ t161 a1 t164 _ ?side1 ?side2 A4.out).mono ?_); (case side1 => refine (Kd.R_reads' (e := 39) (base := w.heap.size) (ok := fun k_ => True) (n := t161.length) (c := co43) ?_).2.2; exact (r2_ (Kd.R_mono (Kd.R_far (p := ⟨gb158, 1, none⟩) (Kd.R_far (p := ⟨gb158, 0, none⟩) (Kd.R_types HO163.out BK158.out (by decide)) (fun _ hk => hk.2) (.string t160)) (fun _ hk => hk.2) (.slice Ao43 t161.length co43)) (fun _ h_ => h_.1)))); (case side2 => exact (Kd.R_reads' HO163.out).2.1); rintro e w44 ⟨rfl, hb⟩; refine ⟨_, rfl, ?_⟩; have n0_ := mk0 (Kd.R_below (r2_ (Kd.R_mono (Kd.R_far (p := ⟨gb158, 1, none⟩) (Kd.R_far (p := ⟨gb158, 0, none⟩) (Kd.R_types HO163.out BK158.out (by decide)) (fun _ hk => hk.2) (.string t160)) (fun _ hk => hk.2) (.slice Ao43 t161.length co43)) (fun _ h_ => h_.1))) hb); replace BK158 := mk0 (blk_below (g := gb158) (o := .cells #[.string t160, .slice Ao43 t161.length co43] 30 (0, 0)) (pu_ (cs := #[.string t160, .slice A0_1 l0_1.length c0_1]) (pu_ (cs := #[.string a0_0, .slice A0_1 l0_1.length c0_1]) (h_ BK158))) hb); replace BK159 := mk0 (blk_below (g := gb159) (o := .cells #[.string (⟨#[]⟩ : ByteArray), .slice none 0 0] 30 (0, 0)) (fa_ (fa_ (h_ BK159) NB159_158.out) NB159_158.out) hb); replace HB := mk0 (bt_ (b_ HB) hb); clear HO163; have HO163 := n0_; clear n0_; (try clear hb); obtain ⟨hcz45_0, hcz45_1, hfz45_0, hfz45_1⟩ := c2_ BK158; have p165 : 0 ≤ (t164 : Int) := of_decide_eq_true (by first | (with_reducible assumption) | assumption); have q165 : t164 < (t161.length : Int) := of_decide_eq_true (by first | (with_reducible assumption) | assumption); obtain ⟨ad165, e165, hx165_0, hx165_1, hx165_2⟩ := at_T39 (Kd.R_reads' HO163.out).2.2 t164 p165 q165; (try rw [← Nbq7.out] at hx165_2); cases e165; replace p165 := eq_true p165; replace q165 := eq_true q165; have q46 : ((ji33) : Int) ≤ ((t161.length : Int) : Int) := of_decide_eq_true (by first | (with_reducible assumption) | assumption); obtain ⟨i046, hi046, _, hsz46, _⟩ := info_parts info39; have hcut46 := cut_to (P := Try.prog) 23 39 .i64 Try.underlying23 hi046 (some ad165) t161.length co43 (ji33) (of_decide_eq_true (by first | (with_reducible assumption) | assumption)) q46 (Kd.R_reads' HO163.out).2.1; have hr46 := Kd.R_take (m := ((ji33) : Int).toNat) HO163.out (by omega); have hy46 : y169.length = ((ji33) : Int).toNat := (by rw [Ny169.out, List.length_take]; omega); rw [← Ny169.out] at hr46; rw [← hy46] at hr46 hcut46; clear hy46 hi046 hsz46 HO163; have HO171 := mk0 hr46; clear hr46; replace q46 := eq_true q46; obtain ⟨hcz47_0, hcz47_1, hfz47_0, hfz47_1⟩ := c2_ BK159) | ((with_reducible refine gate_callee (f := 120) rfl ?_); refine gL_ (some 10) Try.func120 #[.agg #[.string t160, .slice Ao43 t161.length co43], .int .i64 a1] (h := ?_); (with_reducible refine (chain_place.calls t160 _ _ t161 a1 t164 _ ?side1 ?side2 A4.out).mono ?_); (case side1 => refine (Kd.R_reads' (e := 39) (base := w.heap.size) (ok := fun k_ => True) (n := t161.length) (c := co43) ?_).2.2; exact (r2_ (Kd.R_mono (Kd.R_far (p := ⟨gb158, 1, none⟩) (Kd.R_far (p := ⟨gb158, 0, none⟩) (Kd.R_types HO163.out BK158.out (by decide)) (fun _ hk => hk.2) (.string t160)) (fun _ hk => hk.2) (.slice Ao43 t161.length co43)) (fun _ h_ => h_.1)))); (case side2 => exact (Kd.R_reads' HO163.out).2.1); rintro e w18 ⟨rfl, hb⟩; refine ⟨_, rfl, ?_⟩; have n0_ := mk0 (Kd.R_below (r2_ (Kd.R_mono (Kd.R_far (p := ⟨gb158, 1, none⟩) (Kd.R_far (p := ⟨gb158, 0, none⟩) (Kd.R_types HO163.out BK158.out (by decide)) (fun _ hk => hk.2) (.string t160)) (fun _ hk => hk.2) (.slice Ao43 t161.length co43)) (fun _ h_ => h_.1))) hb); replace BK158 := mk0 (blk_below (g := gb158) (o := .cells #[.string t160, .slice Ao43 t161.length co43] 30 (0, 0)) (pu_ (cs := #[.string t160, .slice A0_1 l0_1.length c0_1]) (pu_ (cs := #[.string a0_0, .slice A0_1 l0_1.length c0_1]) (h_ BK158))) hb); replace BK159 := mk0 (blk_below (g := gb159) (o := .cells #[.string (⟨#[]⟩ : ByteArray), .slice none 0 0] 30 (0, 0)) (fa_ (fa_ (h_ BK159) NB159_158.out) NB159_158.out) hb); replace HB := mk0 (bt_ (b_ HB) hb); clear HO163; have HO163 := n0_; clear n0_; (try clear hb); obtain ⟨hcz19_0, hcz19_1, hfz19_0, hfz19_1⟩ := c2_ BK158; have p165 : 0 ≤ (t164 : Int) := of_decide_eq_true (by first | (with_reducible assumption) | assumption); have q165 : t164 < (t161.length : Int) := of_decide_eq_true (by first | (with_reducible assumption) | assumption); obtain ⟨ad165, e165, hx165_0, hx165_1, hx165_2⟩ := at_T39 (Kd.R_reads' HO163.out).2.2 t164 p165 q165; (try rw [← Nbq7.out] at hx165_2); cases e165; replace p165 := eq_true p165; replace q165 := eq_true q165; have q20 : (t164 : Int) ≤ ((t161.length : Int) : Int) := of_decide_eq_true (by first | (with_reducible assumption) | assumption); obtain ⟨i020, hi020, _, hsz20, _⟩ := info_parts info39; have hcut20 := cut_to (P := Try.prog) 23 39 .i64 Try.underlying23 hi020 (some ad165) t161.length co43 t164 (of_decide_eq_true (by first | (with_reducible assumption) | assumption)) q20 (Kd.R_reads' HO163.out).2.1; have hr20 := Kd.R_take (m := (t164 : Int).toNat) HO163.out (by omega); have hy20 : y166.length = (t164 : Int).toNat := (by rw [Ny166.out, List.length_take]; omega); rw [← Ny166.out] at hr20; rw [← hy20] at hr20 hcut20; clear hy20 hi020 hsz20 HO163; have HO168 := mk0 hr20; clear hr20; replace q20 := eq_true q20; obtain ⟨hcz21_0, hcz21_1, hfz21_0, hfz21_1⟩ := c2_ BK159) | ((with_reducible refine gate_callee (f := 120) rfl ?_); refine gL_ (some 10) Try.func120 #[.agg #[.string t160, .slice Ao43 t161.length co43], .int .i64 a1] (h := ?_); (with_reducible refine (chain_place.calls t160 _ _ t161 a1 t164 _ ?side1 ?side2 A4.out).mono ?_); (case side1 => refine (Kd.R_reads' (e := 39) (base := w.heap.size) (ok := fun k_ => True) (n := t161.length) (c := co43) ?_).2.2; exact (r2_ (Kd.R_mono (Kd.R_far (p := ⟨gb158, 1, none⟩) (Kd.R_far (p := ⟨gb158, 0, none⟩) (Kd.R_types HO163.out BK158.out (by decide)) (fun _ hk => hk.2) (.string t160)) (fun _ hk => hk.2) (.slice Ao43 t161.length co43)) (fun _ h_ => h_.1)))); (case side2 => exact (Kd.R_reads' HO163.out).2.1); rintro e w29 ⟨rfl, hb⟩; refine ⟨_, rfl, ?_⟩; have n0_ := mk0 (Kd.R_below (r2_ (Kd.R_mono (Kd.R_far (p := ⟨gb158, 1, none⟩) (Kd.R_far (p := ⟨gb158, 0, none⟩) (Kd.R_types HO163.out BK158.out (by decide)) (fun _ hk => hk.2) (.string t160)) (fun _ hk => hk.2) (.slice Ao43 t161.length co43)) (fun _ h_ => h_.1))) hb); replace BK158 := mk0 (blk_below (g := gb158) (o := .cells #[.string t160, .slice Ao43 t161.length co43] 30 (0, 0)) (pu_ (cs := #[.string t160, .slice A0_1 l0_1.length c0_1]) (pu_ (cs := #[.string a0_0, .slice A0_1 l0_1.length c0_1]) (h_ BK158))) hb); replace BK159 := mk0 (blk_below (g := gb159) (o := .cells #[.string (⟨#[]⟩ : ByteArray), .slice none 0 0] 30 (0, 0)) (fa_ (fa_ (h_ BK159) NB159_158.out) NB159_158.out) hb); replace HB := mk0 (bt_ (b_ HB) hb); clear HO163; have HO163 := n0_; clear n0_; (try clear hb); obtain ⟨hcz30_0, hcz30_1, hfz30_0, hfz30_1⟩ := c2_ BK158; have p165 : 0 ≤ (t164 : Int) := of_decide_eq_true (by first | (with_reducible assumption) | assumption); have q165 : t164 < (t161.length : Int) := of_decide_eq_true (by first | (with_reducible assumption) | assumption); obtain ⟨ad165, e165, hx165_0, hx165_1, hx165_2⟩ := at_T39 (Kd.R_reads' HO163.out).2.2 t164 p165 q165; (try rw [← Nbq7.out] at hx165_2); cases e165; replace p165 := eq_true p165; replace q165 := eq_true q165; have q31 : (t164 : Int) ≤ ((t161.length : Int) : Int) := of_decide_eq_true (by first | (with_reducible assumption) | assumption); obtain ⟨i031, hi031, _, hsz31, _⟩ := info_parts info39; have hcut31 := cut_to (P := Try.prog) 23 39 .i64 Try.underlying23 hi031 (some ad165) t161.length co43 t164 (of_decide_eq_true (by first | (with_reducible assumption) | assumption)) q31 (Kd.R_reads' HO163.out).2.1; have hr31 := Kd.R_take (m := (t164 : Int).toNat) HO163.out (by omega); have hy31 : y166.length = (t164 : Int).toNat := (by rw [Ny166.out, List.length_take]; omega); rw [← Ny166.out] at hr31; rw [← hy31] at hr31 hcut31; clear hy31 hi031 hsz31 HO163; have HO168 := mk0 hr31; clear hr31; replace q31 := eq_true q31; obtain ⟨hcz32_0, hcz32_1, hfz32_0, hfz32_1⟩ := c2_ BK159) | ((with_reducible refine gate_callee (f := 120) rfl ?_); refine gL_ (some 10) Try.func120 #[.agg #[.string t160, .slice Ao43 t161.length co43], .int .i64 a1] (h := ?_); (with_reducible refine (chain_place.calls t160 _ _ t161 a1 t164 _ ?side1 ?side2 A4.out).mono ?_); (case side1 => refine (Kd.R_reads' (e := 39) (base := w.heap.size) (ok := fun k_ => True) (n := t161.length) (c := co43) ?_).2.2; exact (r2_ (Kd.R_mono (Kd.R_far (p := ⟨gb158, 1, none⟩) (Kd.R_far (p := ⟨gb158, 0, none⟩) (Kd.R_types HO163.out BK158.out (by decide)) (fun _ hk => hk.2) (.string t160)) (fun _ hk => hk.2) (.slice Ao43 t161.length co43)) (fun _ h_ => h_.1)))); (case side2 => exact (Kd.R_reads' HO163.out).2.1); rintro e w67 ⟨rfl, hb⟩; refine ⟨_, rfl, ?_⟩; have n0_ := mk0 (Kd.R_below (r2_ (Kd.R_mono (Kd.R_far (p := ⟨gb158, 1, none⟩) (Kd.R_far (p := ⟨gb158, 0, none⟩) (Kd.R_types HO163.out BK158.out (by decide)) (fun _ hk => hk.2) (.string t160)) (fun _ hk => hk.2) (.slice Ao43 t161.length co43)) (fun _ h_ => h_.1))) hb); replace BK158 := mk0 (blk_below (g := gb158) (o := .cells #[.string t160, .slice Ao43 t161.length co43] 30 (0, 0)) (pu_ (cs := #[.string t160, .slice A0_1 l0_1.length c0_1]) (pu_ (cs := #[.string a0_0, .slice A0_1 l0_1.length c0_1]) (h_ BK158))) hb); replace BK159 := mk0 (blk_below (g := gb159) (o := .cells #[.string (⟨#[]⟩ : ByteArray), .slice none 0 0] 30 (0, 0)) (fa_ (fa_ (h_ BK159) NB159_158.out) NB159_158.out) hb); replace HB := mk0 (bt_ (b_ HB) hb); clear HO163; have HO163 := n0_; clear n0_; (try clear hb); obtain ⟨hcz68_0, hcz68_1, hfz68_0, hfz68_1⟩ := c2_ BK158; obtain ⟨hcz69_0, hcz69_1, hfz69_0, hfz69_1⟩ := c2_ BK159) | ((with_reducible refine gate_callee (f := 120) rfl ?_); refine gL_ (some 10) Try.func120 #[.agg #[.string t160, .slice Ao43 t161.length co43], .int .i64 a1] (h := ?_); (with_reducible refine (chain_place.calls t160 _ _ t161 a1 t164 _ ?side1 ?side2 A4.out).mono ?_); (case side1 => refine (Kd.R_reads' (e := 39) (base := w.heap.size) (ok := fun k_ => True) (n := t161.length) (c := co43) ?_).2.2; exact (r2_ (Kd.R_mono (Kd.R_far (p := ⟨gb158, 1, none⟩) (Kd.R_far (p := ⟨gb158, 0, none⟩) (Kd.R_types HO163.out BK158.out (by decide)) (fun _ hk => hk.2) (.string t160)) (fun _ hk => hk.2) (.slice Ao43 t161.length co43)) (fun _ h_ => h_.1)))); (case side2 => exact (Kd.R_reads' HO163.out).2.1); rintro e w77 ⟨rfl, hb⟩; refine ⟨_, rfl, ?_⟩; have n0_ := mk0 (Kd.R_below (r2_ (Kd.R_mono (Kd.R_far (p := ⟨gb158, 1, none⟩) (Kd.R_far (p := ⟨gb158, 0, none⟩) (Kd.R_types HO163.out BK158.out (by decide)) (fun _ hk => hk.2) (.string t160)) (fun _ hk => hk.2) (.slice Ao43 t161.length co43)) (fun _ h_ => h_.1))) hb); replace BK158 := mk0 (blk_below (g := gb158) (o := .cells #[.string t160, .slice Ao43 t161.length co43] 30 (0, 0)) (pu_ (cs := #[.string t160, .slice A0_1 l0_1.length c0_1]) (pu_ (cs := #[.string a0_0, .slice A0_1 l0_1.length c0_1]) (h_ BK158))) hb); replace BK159 := mk0 (blk_below (g := gb159) (o := .cells #[.string (⟨#[]⟩ : ByteArray), .slice none 0 0] 30 (0, 0)) (fa_ (fa_ (h_ BK159) NB159_158.out) NB159_158.out) hb); replace HB := mk0 (bt_ (b_ HB) hb); clear HO163; have HO163 := n0_; clear n0_; (try clear hb); obtain ⟨hcz78_0, hcz78_1, hfz78_0, hfz78_1⟩ := c2_ BK158; obtain ⟨hcz79_0, hcz79_1, hfz79_0, hfz79_1⟩ := c2_ BK159))
 ·refine bodyPost_ret (results_cell_row rfl _ _ gb159 30 #[.string (⟨#[]⟩ : ByteArray), .slice none 0 0] (0, 0) _ rfl (pu_ (cs := #[.string (⟨#[]⟩ : ByteArray), .slice none 0 0]) (pu_ (cs := #[.string (⟨#[]⟩ : ByteArray), .slice none 0 0]) (fa_ (h_ BK159) NB159_158.out))) Try.underlying30 rfl (by kernel_rfl)) rfl ?_
  exact ⟨_, by first | rfl | (simp [errW_none, errW_some] <;> rfl) | (simp [*, errW_none, errW_some] <;> rfl), by first | exact Kd.R_nil _ _ _ _ _ | exact Kd.N_nil _ _ _ _ _ | exact Kd.V_nil _ _ _ _ _ | exact Kd.Q_nil _ _ _ _ _ | exact Kd.S_nil _ _ _ _ _, b_ HB⟩
 ·refine bodyPost_ret (results_cell_row rfl _ _ gb159 30 #[.string t160, .slice (some ad165) y166.length co43] (0, 0) _ rfl (pu_ (cs := #[.string t160, .slice none 0 0]) (pu_ (cs := #[.string (⟨#[]⟩ : ByteArray), .slice none 0 0]) (fa_ (h_ BK159) NB159_158.out))) Try.underlying30 rfl (by kernel_rfl)) rfl ?_
  exact ⟨_, by first | rfl | (simp [errW_none, errW_some] <;> rfl) | (simp [*, errW_none, errW_some] <;> rfl), by (with_reducible repeat (first | apply Ra_ | apply Rn_ | apply Rd_)); exact Kd.R_mono (Kd.R_far (p := ⟨gb159, 1, none⟩) (Kd.R_far (p := ⟨gb159, 0, none⟩) (Kd.R_far (p := ⟨gb158, 1, none⟩) (Kd.R_types (Kd.R_types HO168.out BK158.out (by decide)) BK159.out (by decide)) (fun _ hk => hk.1.2) (.slice (some ad165) y166.length co43)) (fun _ hk => hk.2) (.string t160)) (fun _ hk => hk.2) (.slice (some ad165) y166.length co43)) (fun _ hk => trivial), b_ HB⟩
 ·refine bodyPost_ret (results_cell_row rfl _ _ gb159 30 #[.string (⟨#[]⟩ : ByteArray), .slice none 0 0] (0, 0) _ rfl (pu_ (cs := #[.string (⟨#[]⟩ : ByteArray), .slice none 0 0]) (pu_ (cs := #[.string (⟨#[]⟩ : ByteArray), .slice none 0 0]) (fa_ (h_ BK159) NB159_158.out))) Try.underlying30 rfl (by kernel_rfl)) rfl ?_
  exact ⟨_, by first | rfl | (simp [errW_none, errW_some] <;> rfl) | (simp only [← hji33]; first | rfl | (simp [errW_none, errW_some] <;> rfl)) | (simp [*, errW_none, errW_some] <;> rfl), by first | exact Kd.R_nil _ _ _ _ _ | exact Kd.N_nil _ _ _ _ _ | exact Kd.V_nil _ _ _ _ _ | exact Kd.Q_nil _ _ _ _ _ | exact Kd.S_nil _ _ _ _ _, b_ HB⟩
 ·refine bodyPost_ret (results_cell_row rfl _ _ gb159 30 #[.string t160, .slice (some ad165) y169.length co43] (0, 0) _ rfl (pu_ (cs := #[.string t160, .slice none 0 0]) (pu_ (cs := #[.string (⟨#[]⟩ : ByteArray), .slice none 0 0]) (fa_ (h_ BK159) NB159_158.out))) Try.underlying30 rfl (by kernel_rfl)) rfl ?_
  exact ⟨_, by first | rfl | (simp [errW_none, errW_some] <;> rfl) | (simp only [← hji33]; first | rfl | (simp [errW_none, errW_some] <;> rfl)) | (simp [*, errW_none, errW_some] <;> rfl), by (with_reducible repeat (first | apply Ra_ | apply Rn_ | apply Rd_)); exact Kd.R_mono (Kd.R_far (p := ⟨gb159, 1, none⟩) (Kd.R_far (p := ⟨gb159, 0, none⟩) (Kd.R_far (p := ⟨gb158, 1, none⟩) (Kd.R_types (Kd.R_types HO171.out BK158.out (by decide)) BK159.out (by decide)) (fun _ hk => hk.1.2) (.slice (some ad165) y169.length co43)) (fun _ hk => hk.2) (.string t160)) (fun _ hk => hk.2) (.slice (some ad165) y169.length co43)) (fun _ hk => trivial), b_ HB⟩
 ·refine bodyPost_ret (results_cell_row rfl _ _ gb159 30 #[.string (⟨#[]⟩ : ByteArray), .slice none 0 0] (0, 0) _ rfl (pu_ (cs := #[.string (⟨#[]⟩ : ByteArray), .slice none 0 0]) (pu_ (cs := #[.string (⟨#[]⟩ : ByteArray), .slice none 0 0]) (h_ BK159))) Try.underlying30 rfl (by kernel_rfl)) rfl ?_
  exact ⟨_, by first | rfl | (simp [errW_none, errW_some] <;> rfl) | (simp [*, errW_none, errW_some] <;> rfl), by first | exact Kd.R_nil _ _ _ _ _ | exact Kd.N_nil _ _ _ _ _ | exact Kd.V_nil _ _ _ _ _ | exact Kd.Q_nil _ _ _ _ _ | exact Kd.S_nil _ _ _ _ _, b_ HB⟩
 ·refine bodyPost_ret (results_cell_row rfl _ _ gb159 30 #[.string t160, .slice Ao43 t161.length co43] (0, 0) _ rfl (pu_ (cs := #[.string t160, .slice none 0 0]) (pu_ (cs := #[.string (⟨#[]⟩ : ByteArray), .slice none 0 0]) (h_ BK159))) Try.underlying30 rfl (by kernel_rfl)) rfl ?_
  exact ⟨_, by first | rfl | (simp [errW_none, errW_some] <;> rfl) | (simp [*, errW_none, errW_some] <;> rfl), by (with_reducible repeat (first | apply Ra_ | apply Rn_ | apply Rd_)); exact Kd.R_mono (Kd.R_far (p := ⟨gb159, 1, none⟩) (Kd.R_far (p := ⟨gb159, 0, none⟩) (Kd.R_types HO163.out BK159.out (by decide)) (fun _ hk => hk.2) (.string t160)) (fun _ hk => hk.2) (.slice Ao43 t161.length co43)) (fun _ hk => trivial), b_ HB⟩

/-! ### chain_Purge: function 22 -/
def chain_Purge.f (k : Nat) (a0_0 : ByteArray) (l0_1 : List (S39)) (a1 : Int) : Option (ByteArray × (List (S39)) × Int) := (chain_May.f k a0_0 l0_1).bind fun t174 => (if t174 = true then ((chain_Left.f a0_0 l0_1 a1).bind fun bt175 => (some (bt175.1, bt175.2, 0))) else (some ((⟨#[]⟩ : ByteArray), ([] : List (S39)), 1)))
theorem chain_Purge.mono : ∀ a0 a1 a2 k, LeO (chain_Purge.f k a0 a1 a2) (chain_Purge.f (k + 1) a0 a1 a2) := by
 intro a0 a1 a2 k
 unfold chain_Purge.f
 repeat' first
   | (with_reducible exact chain_May.mono _ _ _)
   | (with_reducible exact LeO.refl _)
   | (with_reducible exact LeO.none _)
   | (with_reducible refine LeO.ite ?_ ?_)
   | (with_reducible refine LeO.bind ?_ (fun _ => ?_))
   | exact chain_May.mono _ _ _
   | exact LeO.none _
   | refine LeO.ite ?_ ?_
   | refine LeO.bind ?_ (fun _ => ?_)
set_option maxHeartbeats 8000000 in
set_option maxRecDepth 100000 in
theorem chain_Purge.calls (k : Nat) (a0_0 : ByteArray) (A0_1 : Option Addr) (c0_1 : Nat) (l0_1 : List (S39)) (a1 : Int) (r1 : ByteArray) (r2 : List (S39)) (r3 : Int) (w : World) (hr0_1 : Kd.C k39 w A0_1 l0_1.length l0_1) (hc0_1 : l0_1.length ≤ c0_1) (h : chain_Purge.f k a0_0 l0_1 a1 = some (r1, r2, r3)) :
  Calls Try.prog 22 #[.agg #[.string a0_0, .slice A0_1 l0_1.length c0_1], .int .i64 a1] w fun e w' => ∃ v1_ : Value, e = .returned (.tuple #[.agg #[.string r1, v1_], .int .i64 r3]) ∧ Kd.R k39 39 w' w.heap.size (fun _ => True) v1_ r2 ∧ Below w.heap.size w w' := by
 have hu30 := Try.underlying30
 have HR0_1 := mk0 hr0_1
 have HC0_1 := mk0 hc0_1
 clear hr0_1 hc0_1
 have HB := mk0 (Below.refl w.heap.size w)
 have H : ((chain_May.f k a0_0 l0_1).bind fun t174 => (if t174 = true then ((chain_Left.f a0_0 l0_1 a1).bind fun bt175 => (some (bt175.1, bt175.2, 0))) else (some ((⟨#[]⟩ : ByteArray), ([] : List (S39)), 1)))) = some (r1, r2, r3) := h
 clear h
 replace H := Option.bind_eq_some_iff.mp H
 obtain ⟨t174, A30, H⟩ := H
 try dsimp only at H
 have A3 := mk0 A30
 clear A30
 by_cases c4 : t174 = true
 focus
  subst c4
  rw [if_pos rfl] at H
  replace H := Option.bind_eq_some_iff.mp H
  obtain ⟨⟨t175, t176⟩, A50, H⟩ := H
  try dsimp only at H
  have A5 := mk0 A50
  clear A50
  simp only [Option.some.injEq, Prod.mk.injEq] at H
  obtain ⟨rfl, rfl, rfl⟩ := H
  go_enter Try.func22, Try.ntmps22
 rotate_left 1
 focus
  replace c4 := Bool.eq_false_iff.mpr c4
  subst c4
  rw [if_neg (show ¬ (false = true) by decide)] at H
  simp only [Option.some.injEq, Prod.mk.injEq] at H
  obtain ⟨rfl, rfl, rfl⟩ := H
  go_enter Try.func22, Try.ntmps22
 rotate_right 1
 all_goals go_wp2_with (first | ((with_reducible refine gate_dst (N := 2) rfl ?_); refine bx_ (N := 2) (cs := #[.string a0_0, .slice A0_1 l0_1.length c0_1]) (t := 30) (h := ?_); intro gb172 hg w6 hbox hb; have n2_ := mk0 (gz_ HB hg); have n3_ := mk0 (gz_ HB hg); replace HB := mk0 (bt_ (b_ HB) hb); have BK172 := mk0 (hbox); have GW172 := n2_; have GE172 := n3_; clear n2_ n3_; clear hb hbox hg) | ((with_reducible refine gate_dst (N := 4) rfl ?_); refine bx_ (N := 4) (cs := #[.string (⟨#[]⟩ : ByteArray), .slice none 0 0]) (t := 30) (h := ?_); intro gb173 hg w7 hbox hb; have n3_ := mk0 (gz_ HB hg); have n4_ := mk0 (gz_ HB hg); have n5_ := mk0 (ne1_ BK172 hg); have n6_ := mk0 (ne2_ BK172 hg); replace BK172 := mk0 (u_ BK172 hb); replace HB := mk0 (bt_ (b_ HB) hb); have BK173 := mk0 (hbox); have GW173 := n3_; have GE173 := n4_; have NB172_173 := n5_; have NB173_172 := n6_; clear n3_ n4_ n5_ n6_ hb hbox hg; have hnb8 := NB172_173.out; have hnc8 := NB173_172.out; obtain ⟨hcz9_0, hcz9_1, hfz9_0, hfz9_1⟩ := c2_ BK172) | ((with_reducible refine gate_callee (f := 61) rfl ?_); refine gL_ (some 7) Try.func61 #[.agg #[.string a0_0, .slice A0_1 l0_1.length c0_1]] (h := ?_); (with_reducible refine (chain_May.calls k a0_0 _ _ l0_1 true _ ?side1 ?side2 A3.out).mono ?_); (case side1 => exact cb_ HR0_1 HB); (case side2 => exact HC0_1.out); rintro e w10 ⟨rfl, hb⟩; refine ⟨_, rfl, ?_⟩; replace BK172 := mk0 (u_ BK172 hb); replace BK173 := mk0 (blk_below (g := gb173) (o := .cells #[.string (⟨#[]⟩ : ByteArray), .slice none 0 0] 30 (0, 0)) (h_ BK173) hb); replace HB := mk0 (bt_ (b_ HB) hb); (try clear hb); obtain ⟨hcz11_0, hcz11_1, hfz11_0, hfz11_1⟩ := c2_ BK172; (try obtain ⟨hcz20_0, hcz20_1, hfz20_0, hfz20_1⟩ := c2_ BK173)) | ((with_reducible refine gate_callee (f := 63) rfl ?_); refine gL_ (some 12) Try.func63 #[.agg #[.string a0_0, .slice A0_1 l0_1.length c0_1], .int .i64 a1] (h := ?_); (with_reducible refine (chain_Left.calls a0_0 _ _ l0_1 a1 t175 t176 _ ?side1 ?side2 A5.out).mono ?_); (case side1 => exact cb_ HR0_1 HB); (case side2 => exact HC0_1.out); rintro e w12 ⟨v177, rfl, ho0, hb⟩; refine ⟨_, rfl, ?_⟩; have n0_ := mk0 (Kd.R_lower ho0 (bz_ (b_ HB))); replace BK172 := mk0 (u_ BK172 hb); replace BK173 := mk0 (blk_below (g := gb173) (o := .cells #[.string (⟨#[]⟩ : ByteArray), .slice none 0 0] 30 (0, 0)) (h_ BK173) hb); replace HB := mk0 (bt_ (b_ HB) hb); have HO178 := n0_; clear n0_; (try clear hb); (try clear ho0); obtain ⟨hcz13_0, hcz13_1, hfz13_0, hfz13_1⟩ := c2_ BK173; obtain ⟨Ao14, co14, eo14⟩ := Kd.R_slice HO178.out; subst eo14) | ((with_reducible refine gate_callee (f := 61) rfl ?_); refine gL_ (some 7) Try.func61 #[.agg #[.string a0_0, .slice A0_1 l0_1.length c0_1]] (h := ?_); (with_reducible refine (chain_May.calls k a0_0 _ _ l0_1 false _ ?side1 ?side2 A3.out).mono ?_); (case side1 => exact cb_ HR0_1 HB); (case side2 => exact HC0_1.out); rintro e w19 ⟨rfl, hb⟩; refine ⟨_, rfl, ?_⟩; replace BK172 := mk0 (u_ BK172 hb); replace BK173 := mk0 (blk_below (g := gb173) (o := .cells #[.string (⟨#[]⟩ : ByteArray), .slice none 0 0] 30 (0, 0)) (h_ BK173) hb); replace HB := mk0 (bt_ (b_ HB) hb); (try clear hb); obtain ⟨hcz20_0, hcz20_1, hfz20_0, hfz20_1⟩ := c2_ BK173; (try obtain ⟨hcz11_0, hcz11_1, hfz11_0, hfz11_1⟩ := c2_ BK172)))
 ·refine bodyPost_ret (results_ct rfl _ _ gb173 30 #[.string t175, .slice Ao14 t176.length co14] (0, 0) _ rfl (pu_ (cs := #[.string t175, .slice none 0 0]) (pu_ (cs := #[.string (⟨#[]⟩ : ByteArray), .slice none 0 0]) (h_ BK173))) Try.underlying30 rfl (by kernel_rfl)) rfl ?_
  exact ⟨_, by first | rfl | (simp [errW_none, errW_some] <;> rfl) | (simp [*, errW_none, errW_some] <;> rfl), by (with_reducible repeat (first | apply Ra_ | apply Rn_ | apply Rd_)); exact Kd.R_mono (Kd.R_far (p := ⟨gb173, 1, none⟩) (Kd.R_far (p := ⟨gb173, 0, none⟩) (Kd.R_types HO178.out BK173.out (by decide)) (fun _ hk => hk.2) (.string t175)) (fun _ hk => hk.2) (.slice Ao14 t176.length co14)) (fun _ hk => trivial), b_ HB⟩
 ·refine bodyPost_ret (results_ct rfl _ _ gb173 30 #[.string (⟨#[]⟩ : ByteArray), .slice none 0 0] (0, 0) _ rfl (pu_ (cs := #[.string (⟨#[]⟩ : ByteArray), .slice none 0 0]) (pu_ (cs := #[.string (⟨#[]⟩ : ByteArray), .slice none 0 0]) (h_ BK173))) Try.underlying30 rfl (by kernel_rfl)) rfl ?_
  exact ⟨_, by first | rfl | (simp [errW_none, errW_some] <;> rfl) | (simp [*, errW_none, errW_some] <;> rfl), by first | exact Kd.R_nil _ _ _ _ _ | exact Kd.N_nil _ _ _ _ _ | exact Kd.V_nil _ _ _ _ _ | exact Kd.Q_nil _ _ _ _ _ | exact Kd.S_nil _ _ _ _ _, b_ HB⟩

/-! ### quorumref8_newest: function 64 -/
def quorumref8_newest.l0 : Nat → Int → Int → ByteArray → List (S39) → Option (Int)
 | 0, _, _, _, _ => none
 | k + 1, x1, x5, x180000, x180001 => if x5 < (x180001.length : Int) then (if 0 ≤ x5 then (if ((rd_T39 x180001 x5).f0) ≤ x1 then (some x5) else (quorumref8_newest.l0 k x1 (wrap64 (x5 + 1)) x180000 x180001)) else (none)) else (some (-1))
def quorumref8_newest.f (k : Nat) (a0_0 : ByteArray) (l0_1 : List (S39)) (a1 : Int) : Option (Int) := quorumref8_newest.l0 k a1 0 a0_0 l0_1
theorem quorumref8_newest.mono_l : ∀ k, (∀ y0 y1 y2 y3, LeO (quorumref8_newest.l0 k y0 y1 y2 y3) (quorumref8_newest.l0 (k + 1) y0 y1 y2 y3))
 | 0 => fun _ _ _ _ r h => by simp [quorumref8_newest.l0] at h
 | k + 1 => by
  have ih0 := quorumref8_newest.mono_l k
  ·intro y0 y1 y2 y3
   unfold quorumref8_newest.l0
   repeat' first
   | (with_reducible exact ih0 _ _ _ _)
   | (with_reducible exact LeO.refl _)
   | (with_reducible exact LeO.none _)
   | (with_reducible refine LeO.ite ?_ ?_)
   | (with_reducible refine LeO.bind ?_ (fun _ => ?_))
   | exact ih0 _ _ _ _
   | exact LeO.none _
   | refine LeO.ite ?_ ?_
   | refine LeO.bind ?_ (fun _ => ?_)
theorem quorumref8_newest.mono : ∀ a0 a1 a2 k, LeO (quorumref8_newest.f k a0 a1 a2) (quorumref8_newest.f (k + 1) a0 a1 a2) := by
 intro a0 a1 a2 k
 have ih0 := quorumref8_newest.mono_l k
 unfold quorumref8_newest.f
 repeat' first
   | (with_reducible exact ih0 _ _ _ _)
   | (with_reducible exact LeO.refl _)
   | (with_reducible exact LeO.none _)
   | (with_reducible refine LeO.ite ?_ ?_)
   | (with_reducible refine LeO.bind ?_ (fun _ => ?_))
   | exact ih0 _ _ _ _
   | exact LeO.none _
   | refine LeO.ite ?_ ?_
   | refine LeO.bind ?_ (fun _ => ?_)
set_option maxHeartbeats 8000000 in
set_option maxRecDepth 100000 in
theorem quorumref8_newest.calls (k : Nat) (a0_0 : ByteArray) (A0_1 : Option Addr) (c0_1 : Nat) (l0_1 : List (S39)) (a1 : Int) (r : Int) (w : World) (hr0_1 : Kd.C k39 w A0_1 l0_1.length l0_1) (hc0_1 : l0_1.length ≤ c0_1) (h : quorumref8_newest.f k a0_0 l0_1 a1 = some r) :
  Calls Try.prog 64 #[.agg #[.string a0_0, .slice A0_1 l0_1.length c0_1], .int .i64 a1] w fun e w' => e = .returned (.int .i64 r) ∧ Below w.heap.size w w' := by
 have hu30 := Try.underlying30
 have HR0_1 := mk0 hr0_1
 have HC0_1 := mk0 hc0_1
 clear hr0_1 hc0_1
 have HB := mk0 (Below.refl w.heap.size w)
 have H : (quorumref8_newest.l0 k a1 0 a0_0 l0_1) = some r := h
 clear h
 have H' := mk0 H
 clear H
 go_enter Try.func64, Try.ntmps64
 go_wp2_with (first | ((with_reducible refine gate_dst (N := 2) rfl ?_); refine bx_ (N := 2) (cs := #[.string a0_0, .slice A0_1 l0_1.length c0_1]) (t := 30) (h := ?_); intro gb179 hg w3 hbox hb; have n2_ := mk0 (gz_ HB hg); have n3_ := mk0 (gz_ HB hg); replace HB := mk0 (bt_ (b_ HB) hb); have BK179 := mk0 (hbox); have GW179 := n2_; have GE179 := n3_; clear n2_ n3_; clear hb hbox hg))
 go_loopg [5] k (fun kq v5 w' => ∃ (x5_1 : Int), v5 = .int .i64 x5_1 ∧ Fc (quorumref8_newest.l0 kq a1 x5_1 a0_0 l0_1 = some r) ∧ Fc (kq ≤ k) ∧ Fc (w'.heap[gb179]? = some (.cells #[.string a0_0, (.slice A0_1 l0_1.length c0_1)] 30 (0, 0))) ∧ Fc (Below w.heap.size w w'))
 case atStart => exact ⟨(0), (by first | rfl | (simp; done) | (simp [*]; done)), H', ⟨Nat.le_refl _⟩, ⟨h_ BK179⟩, ⟨b_ HB⟩⟩
 case round =>
  clear H'
  obtain ⟨x5_1, rfl, HA, HK1, BK179, HB⟩ := hrel
  cases gk with
  | zero => exact absurd HA.out (by simp [quorumref8_newest.l0])
  | succ k1 =>
   have H := HA.out
   clear HA
   simp only [quorumref8_newest.l0] at H
   as_aux_lemma =>
    by_cases c4 : x5_1 < (l0_1.length : Int)
    ·rw [if_pos c4] at H
     have c4b0 : decide (x5_1 < (l0_1.length : Int)) = true := decide_eq_true c4
     clear c4
     by_cases c5 : 0 ≤ x5_1
     ·rw [if_pos c5] at H
      have c5b0 : decide (0 ≤ x5_1) = true := decide_eq_true c5
      clear c5
      by_cases c6 : ((rd_T39 l0_1 x5_1).f0) ≤ a1
      ·rw [if_pos c6] at H
       have c6b0 : decide (((rd_T39 l0_1 x5_1).f0) ≤ a1) = true := decide_eq_true c6
       clear c6
       obtain rfl := Option.some.inj H
       obtain ⟨hcz7_0, hcz7_1, hfz7_0, hfz7_1⟩ := c2_ BK179
       have p180 : 0 ≤ (x5_1 : Int) := of_decide_eq_true (by first | (with_reducible assumption) | assumption)
       have q180 : x5_1 < (l0_1.length : Int) := of_decide_eq_true (by first | (with_reducible assumption) | assumption)
       obtain ⟨ad180, e180, hx180_0, hx180_1, hx180_2⟩ := at_T39 HR0_1.out x5_1 p180 q180
       cases e180
       replace hx180_0 := bc_ HB hx180_0
       replace hx180_1 := bc_ HB hx180_1
       replace hx180_2 := bc_ HB hx180_2
       replace p180 := eq_true p180
       replace q180 := eq_true q180
       go_wp2
       go_ret
       exact ⟨by first | rfl | (simp [errW_none, errW_some] <;> rfl) | (simp [*, errW_none, errW_some] <;> rfl), b_ HB⟩
      ·rw [if_neg c6] at H
       have c6b0 : decide (((rd_T39 l0_1 x5_1).f0) ≤ a1) = false := decide_eq_false c6
       clear c6
       have H' := mk0 H
       clear H
       obtain ⟨hcz8_0, hcz8_1, hfz8_0, hfz8_1⟩ := c2_ BK179
       have p180 : 0 ≤ (x5_1 : Int) := of_decide_eq_true (by first | (with_reducible assumption) | assumption)
       have q180 : x5_1 < (l0_1.length : Int) := of_decide_eq_true (by first | (with_reducible assumption) | assumption)
       obtain ⟨ad180, e180, hx180_0, hx180_1, hx180_2⟩ := at_T39 HR0_1.out x5_1 p180 q180
       cases e180
       replace hx180_0 := bc_ HB hx180_0
       replace hx180_1 := bc_ HB hx180_1
       replace hx180_2 := bc_ HB hx180_2
       replace p180 := eq_true p180
       replace q180 := eq_true q180
       go_wp2
       go_roundg k1
       case measure => have := HK1.out; omega
       case rel => exact ⟨(wrap64 (x5_1 + 1)), (by first | rfl | (simp; done) | (simp [*]; done)), H', ⟨by have := HK1.out; omega⟩, ⟨h_ BK179⟩, ⟨b_ HB⟩⟩
     ·rw [if_neg c5] at H
      exact absurd H (by simp)
    ·rw [if_neg c4] at H
     have c4b0 : decide (x5_1 < (l0_1.length : Int)) = false := decide_eq_false c4
     clear c4
     obtain rfl := Option.some.inj H
     obtain ⟨hcz9_0, hcz9_1, hfz9_0, hfz9_1⟩ := c2_ BK179
     go_wp2
     go_ret
     exact ⟨by first | rfl | (simp [errW_none, errW_some] <;> rfl) | (simp [*, errW_none, errW_some] <;> rfl), b_ HB⟩

/-! ### quorumref8_At: function 23 -/
def quorumref8_At.f (k : Nat) (a0_0 : ByteArray) (l0_1 : List (S39)) (a1 : Int) : Option (Int × ByteArray × Bool × Bool) := (quorumref8_newest.f k a0_0 l0_1 a1).bind fun t183 => (if t183 < 0 then (some (0, (⟨#[]⟩ : ByteArray), false, false)) else (if 0 ≤ t183 then (if t183 < (l0_1.length : Int) then (if (rd_T39 l0_1 t183).f2 = true then (some (0, (⟨#[]⟩ : ByteArray), false, false)) else (some ((rd_T39 l0_1 t183).f0, (rd_T39 l0_1 t183).f1, (rd_T39 l0_1 t183).f2, true))) else (none)) else (none)))
theorem quorumref8_At.mono : ∀ a0 a1 a2 k, LeO (quorumref8_At.f k a0 a1 a2) (quorumref8_At.f (k + 1) a0 a1 a2) := by
 intro a0 a1 a2 k
 unfold quorumref8_At.f
 repeat' first
   | (with_reducible exact quorumref8_newest.mono _ _ _ _)
   | (with_reducible exact LeO.refl _)
   | (with_reducible exact LeO.none _)
   | (with_reducible refine LeO.ite ?_ ?_)
   | (with_reducible refine LeO.bind ?_ (fun _ => ?_))
   | exact quorumref8_newest.mono _ _ _ _
   | exact LeO.none _
   | refine LeO.ite ?_ ?_
   | refine LeO.bind ?_ (fun _ => ?_)
set_option maxHeartbeats 8000000 in
set_option maxRecDepth 100000 in
theorem quorumref8_At.calls (k : Nat) (a0_0 : ByteArray) (A0_1 : Option Addr) (c0_1 : Nat) (l0_1 : List (S39)) (a1 : Int) (r1 : Int) (r2 : ByteArray) (r3 : Bool) (r4 : Bool) (w : World) (hr0_1 : Kd.C k39 w A0_1 l0_1.length l0_1) (hc0_1 : l0_1.length ≤ c0_1) (h : quorumref8_At.f k a0_0 l0_1 a1 = some (r1, r2, r3, r4)) :
  Calls Try.prog 23 #[.agg #[.string a0_0, .slice A0_1 l0_1.length c0_1], .int .i64 a1] w fun e w' => e = .returned (.tuple #[.agg #[.int .i64 r1, .string r2, .bool r3], .bool r4]) ∧ Below w.heap.size w w' := by
 have hu30 := Try.underlying30
 have hu39 := Try.underlying39
 have HR0_1 := mk0 hr0_1
 have HC0_1 := mk0 hc0_1
 clear hr0_1 hc0_1
 have HB := mk0 (Below.refl w.heap.size w)
 have H : ((quorumref8_newest.f k a0_0 l0_1 a1).bind fun t183 => (if t183 < 0 then (some (0, (⟨#[]⟩ : ByteArray), false, false)) else (if 0 ≤ t183 then (if t183 < (l0_1.length : Int) then (if (rd_T39 l0_1 t183).f2 = true then (some (0, (⟨#[]⟩ : ByteArray), false, false)) else (some ((rd_T39 l0_1 t183).f0, (rd_T39 l0_1 t183).f1, (rd_T39 l0_1 t183).f2, true))) else (none)) else (none)))) = some (r1, r2, r3, r4) := h
 clear h
 replace H := Option.bind_eq_some_iff.mp H
 obtain ⟨t183, A30, H⟩ := H
 try dsimp only at H
 have A3 := mk0 A30
 clear A30
 by_cases c4 : t183 < 0
 focus
  rw [if_pos c4] at H
  have c4b0 : decide (t183 < 0) = true := decide_eq_true c4
  clear c4
  simp only [Option.some.injEq, Prod.mk.injEq] at H
  obtain ⟨rfl, rfl, rfl, rfl⟩ := H
  go_enter Try.func23, Try.ntmps23
 rotate_left 1
 focus
  rw [if_neg c4] at H
  have c4b0 : decide (t183 < 0) = false := decide_eq_false c4
  clear c4
  by_cases c11 : 0 ≤ t183
  focus
   rw [if_pos c11] at H
   have c11b0 : decide (0 ≤ t183) = true := decide_eq_true c11
   clear c11
   by_cases c12 : t183 < (l0_1.length : Int)
   focus
    rw [if_pos c12] at H
    have c12b0 : decide (t183 < (l0_1.length : Int)) = true := decide_eq_true c12
    clear c12
    obtain ⟨bq13, hbq13⟩ : ∃ b_ : Bool, b_ = ((rd_T39 l0_1 t183).f2) := ⟨_, rfl⟩
    replace H : (if bq13 = true then (some (0, (⟨#[]⟩ : ByteArray), false, false)) else (some ((rd_T39 l0_1 t183).f0, (rd_T39 l0_1 t183).f1, bq13, true))) = some (r1, r2, r3, r4) := by rw [← hbq13] at H; exact H
    have Nbq13 := mk0 hbq13
    clear hbq13
    by_cases c14 : bq13 = true
    focus
     subst c14
     rw [if_pos rfl] at H
     simp only [Option.some.injEq, Prod.mk.injEq] at H
     obtain ⟨rfl, rfl, rfl, rfl⟩ := H
     go_enter Try.func23, Try.ntmps23
    rotate_left 1
    focus
     replace c14 := Bool.eq_false_iff.mpr c14
     subst c14
     rw [if_neg (show ¬ (false = true) by decide)] at H
     simp only [Option.some.injEq, Prod.mk.injEq] at H
     obtain ⟨rfl, rfl, rfl, rfl⟩ := H
     go_enter Try.func23, Try.ntmps23
    rotate_right 1
   rotate_left 2
   ·rw [if_neg c12] at H
    exact absurd H (by simp)
  rotate_left 2
  ·rw [if_neg c11] at H
   exact absurd H (by simp)
 rotate_right 1
 all_goals go_wp2_with (first | ((with_reducible refine gate_dst (N := 2) rfl ?_); refine bx_ (N := 2) (cs := #[.string a0_0, .slice A0_1 l0_1.length c0_1]) (t := 30) (h := ?_); intro gb181 hg w22 hbox hb; have n2_ := mk0 (gz_ HB hg); have n3_ := mk0 (gz_ HB hg); replace HB := mk0 (bt_ (b_ HB) hb); have BK181 := mk0 (hbox); have GW181 := n2_; have GE181 := n3_; clear n2_ n3_; clear hb hbox hg) | ((with_reducible refine gate_dst (N := 4) rfl ?_); refine bx_ (N := 4) (cs := #[.int .i64 0, .string (⟨#[]⟩ : ByteArray), .bool false]) (t := 39) (h := ?_); intro gb182 hg w23 hbox hb; have n3_ := mk0 (gz_ HB hg); have n4_ := mk0 (gz_ HB hg); have n5_ := mk0 (ne1_ BK181 hg); have n6_ := mk0 (ne2_ BK181 hg); replace BK181 := mk0 (u_ BK181 hb); replace HB := mk0 (bt_ (b_ HB) hb); have BK182 := mk0 (hbox); have GW182 := n3_; have GE182 := n4_; have NB181_182 := n5_; have NB182_181 := n6_; clear n3_ n4_ n5_ n6_ hb hbox hg; have hnb24 := NB181_182.out; have hnc24 := NB182_181.out; obtain ⟨hcz25_0, hcz25_1, hfz25_0, hfz25_1⟩ := c2_ BK181) | ((with_reducible refine gate_callee (f := 64) rfl ?_); refine gL_ (some 9) Try.func64 #[.agg #[.string a0_0, .slice A0_1 l0_1.length c0_1], .int .i64 a1] (h := ?_); (with_reducible refine (quorumref8_newest.calls k a0_0 _ _ l0_1 a1 t183 _ ?side1 ?side2 A3.out).mono ?_); (case side1 => exact cb_ HR0_1 HB); (case side2 => exact HC0_1.out); rintro e w26 ⟨rfl, hb⟩; refine ⟨_, rfl, ?_⟩; replace BK181 := mk0 (u_ BK181 hb); replace BK182 := mk0 (blk_below (g := gb182) (o := .cells #[.int .i64 0, .string (⟨#[]⟩ : ByteArray), .bool false] 39 (0, 0)) (h_ BK182) hb); replace HB := mk0 (bt_ (b_ HB) hb); (try clear hb); obtain ⟨hcz27_0, hcz27_1, hfz27_0, hfz27_1⟩ := c2_ BK181; have p184 : 0 ≤ (t183 : Int) := of_decide_eq_true (by first | (with_reducible assumption) | assumption); have q184 : t183 < (l0_1.length : Int) := of_decide_eq_true (by first | (with_reducible assumption) | assumption); obtain ⟨ad184, e184, hx184_0, hx184_1, hx184_2⟩ := at_T39 HR0_1.out t183 p184 q184; (try rw [← Nbq13.out] at hx184_2); cases e184; replace hx184_0 := bc_ HB hx184_0; replace hx184_1 := bc_ HB hx184_1; replace hx184_2 := bc_ HB hx184_2; replace p184 := eq_true p184; replace q184 := eq_true q184; have p185 : 0 ≤ (t183 : Int) := of_decide_eq_true (by first | (with_reducible assumption) | assumption); have q185 : t183 < (l0_1.length : Int) := of_decide_eq_true (by first | (with_reducible assumption) | assumption); obtain ⟨ad185, e185, hx185_0, hx185_1, hx185_2⟩ := at_T39 HR0_1.out t183 p185 q185; (try rw [← Nbq13.out] at hx185_2); obtain rfl : ad184 = ad185 := (by injection e185); replace hx185_0 := bc_ HB hx185_0; replace hx185_1 := bc_ HB hx185_1; replace hx185_2 := bc_ HB hx185_2; replace p185 := eq_true p185; replace q185 := eq_true q185; obtain ⟨hcz28_0, hcz28_1, hcz28_2, hfz28_0, hfz28_1, hfz28_2⟩ := c3_ BK182) | ((with_reducible refine gate_callee (f := 64) rfl ?_); refine gL_ (some 9) Try.func64 #[.agg #[.string a0_0, .slice A0_1 l0_1.length c0_1], .int .i64 a1] (h := ?_); (with_reducible refine (quorumref8_newest.calls k a0_0 _ _ l0_1 a1 t183 _ ?side1 ?side2 A3.out).mono ?_); (case side1 => exact cb_ HR0_1 HB); (case side2 => exact HC0_1.out); rintro e w9 ⟨rfl, hb⟩; refine ⟨_, rfl, ?_⟩; replace BK181 := mk0 (u_ BK181 hb); replace BK182 := mk0 (blk_below (g := gb182) (o := .cells #[.int .i64 0, .string (⟨#[]⟩ : ByteArray), .bool false] 39 (0, 0)) (h_ BK182) hb); replace HB := mk0 (bt_ (b_ HB) hb); (try clear hb); obtain ⟨hcz10_0, hcz10_1, hcz10_2, hfz10_0, hfz10_1, hfz10_2⟩ := c3_ BK182; (try obtain ⟨hcz27_0, hcz27_1, hfz27_0, hfz27_1⟩ := c2_ BK181)) | ((with_reducible refine gate_callee (f := 64) rfl ?_); refine gL_ (some 9) Try.func64 #[.agg #[.string a0_0, .slice A0_1 l0_1.length c0_1], .int .i64 a1] (h := ?_); (with_reducible refine (quorumref8_newest.calls k a0_0 _ _ l0_1 a1 t183 _ ?side1 ?side2 A3.out).mono ?_); (case side1 => exact cb_ HR0_1 HB); (case side2 => exact HC0_1.out); rintro e w19 ⟨rfl, hb⟩; refine ⟨_, rfl, ?_⟩; replace BK181 := mk0 (u_ BK181 hb); replace BK182 := mk0 (blk_below (g := gb182) (o := .cells #[.int .i64 0, .string (⟨#[]⟩ : ByteArray), .bool false] 39 (0, 0)) (h_ BK182) hb); replace HB := mk0 (bt_ (b_ HB) hb); (try clear hb); obtain ⟨hcz20_0, hcz20_1, hfz20_0, hfz20_1⟩ := c2_ BK181; have p184 : 0 ≤ (t183 : Int) := of_decide_eq_true (by first | (with_reducible assumption) | assumption); have q184 : t183 < (l0_1.length : Int) := of_decide_eq_true (by first | (with_reducible assumption) | assumption); obtain ⟨ad184, e184, hx184_0, hx184_1, hx184_2⟩ := at_T39 HR0_1.out t183 p184 q184; (try rw [← Nbq13.out] at hx184_2); cases e184; replace hx184_0 := bc_ HB hx184_0; replace hx184_1 := bc_ HB hx184_1; replace hx184_2 := bc_ HB hx184_2; replace p184 := eq_true p184; replace q184 := eq_true q184; obtain ⟨hcz21_0, hcz21_1, hcz21_2, hfz21_0, hfz21_1, hfz21_2⟩ := c3_ BK182))
 ·refine bodyPost_ret (results_ct rfl _ _ gb182 39 #[.int .i64 0, .string (⟨#[]⟩ : ByteArray), .bool false] (0, 0) _ rfl (pu_ (cs := #[.int .i64 0, .string (⟨#[]⟩ : ByteArray), .bool false]) (pu_ (cs := #[.int .i64 0, .string (⟨#[]⟩ : ByteArray), .bool false]) (pu_ (cs := #[.int .i64 0, .string (⟨#[]⟩ : ByteArray), .bool false]) (h_ BK182)))) Try.underlying39 rfl (by kernel_rfl)) rfl ?_
  exact ⟨by first | rfl | (simp [errW_none, errW_some] <;> rfl) | (simp [*, errW_none, errW_some] <;> rfl), b_ HB⟩
 ·refine bodyPost_ret (results_ct rfl _ _ gb182 39 #[.int .i64 0, .string (⟨#[]⟩ : ByteArray), .bool false] (0, 0) _ rfl (pu_ (cs := #[.int .i64 0, .string (⟨#[]⟩ : ByteArray), .bool false]) (pu_ (cs := #[.int .i64 0, .string (⟨#[]⟩ : ByteArray), .bool false]) (pu_ (cs := #[.int .i64 0, .string (⟨#[]⟩ : ByteArray), .bool false]) (h_ BK182)))) Try.underlying39 rfl (by kernel_rfl)) rfl ?_
  exact ⟨by first | rfl | (simp [errW_none, errW_some] <;> rfl) | (simp [*, errW_none, errW_some] <;> rfl), b_ HB⟩
 ·refine bodyPost_ret (results_ct rfl _ _ gb182 39 #[.int .i64 ((rd_T39 l0_1 t183).f0), .string ((rd_T39 l0_1 t183).f1), .bool false] (0, 0) _ rfl (pu_ (cs := #[.int .i64 ((rd_T39 l0_1 t183).f0), .string ((rd_T39 l0_1 t183).f1), .bool false]) (pu_ (cs := #[.int .i64 ((rd_T39 l0_1 t183).f0), .string (⟨#[]⟩ : ByteArray), .bool false]) (pu_ (cs := #[.int .i64 0, .string (⟨#[]⟩ : ByteArray), .bool false]) (h_ BK182)))) Try.underlying39 rfl (by kernel_rfl)) rfl ?_
  exact ⟨by first | rfl | (simp [errW_none, errW_some] <;> rfl) | (simp [*, errW_none, errW_some] <;> rfl), b_ HB⟩

/-! ### quorumref8_Purge: function 24 -/
def quorumref8_Purge.f (k : Nat) (a0_0 : ByteArray) (l0_1 : List (S39)) (a1 : Int) : Option (ByteArray × (List (S39)) × Bool) := (quorumref0_CopyChain.f k a0_0 l0_1).bind fun bt188 => ((quorumref8_newest.f k bt188.1 bt188.2 a1).bind fun t192 => (if t192 ≥ 0 then (if 0 ≤ t192 then (if t192 < (bt188.2.length : Int) then (if ((rd_T39 bt188.2 t192).f2 = true) then (if t192 ≤ (bt188.2.length : Int) then ((some (bt188.2.take (t192 : Int).toNat : List (S39))).bind fun y194 => (if (y194.length : Int) = 0 then (some ((⟨#[]⟩ : ByteArray), ([] : List (S39)), false)) else (some (bt188.1, y194, true)))) else (none)) else (if 0 ≤ (wrap64 (t192 + 1)) then (if (wrap64 (t192 + 1)) ≤ (bt188.2.length : Int) then ((some (bt188.2.take ((wrap64 (t192 + 1)) : Int).toNat : List (S39))).bind fun y197 => (if (y197.length : Int) = 0 then (some ((⟨#[]⟩ : ByteArray), ([] : List (S39)), false)) else (some (bt188.1, y197, true)))) else (none)) else (none))) else (none)) else (none)) else (if (bt188.2.length : Int) = 0 then (some ((⟨#[]⟩ : ByteArray), ([] : List (S39)), false)) else (some (bt188.1, bt188.2, true)))))
theorem quorumref8_Purge.mono : ∀ a0 a1 a2 k, LeO (quorumref8_Purge.f k a0 a1 a2) (quorumref8_Purge.f (k + 1) a0 a1 a2) := by
 intro a0 a1 a2 k
 unfold quorumref8_Purge.f
 repeat' first
   | (with_reducible exact quorumref0_CopyChain.mono _ _ _)
   | (with_reducible exact quorumref8_newest.mono _ _ _ _)
   | (with_reducible exact LeO.refl _)
   | (with_reducible exact LeO.none _)
   | (with_reducible refine LeO.ite ?_ ?_)
   | (with_reducible refine LeO.bind ?_ (fun _ => ?_))
   | exact quorumref0_CopyChain.mono _ _ _
   | exact quorumref8_newest.mono _ _ _ _
   | exact LeO.none _
   | refine LeO.ite ?_ ?_
   | refine LeO.bind ?_ (fun _ => ?_)
set_option maxHeartbeats 8000000 in
set_option maxRecDepth 100000 in
theorem quorumref8_Purge.calls (k : Nat) (a0_0 : ByteArray) (A0_1 : Option Addr) (c0_1 : Nat) (l0_1 : List (S39)) (a1 : Int) (r1 : ByteArray) (r2 : List (S39)) (r3 : Bool) (w : World) (hr0_1 : Kd.C k39 w A0_1 l0_1.length l0_1) (hc0_1 : l0_1.length ≤ c0_1) (h : quorumref8_Purge.f k a0_0 l0_1 a1 = some (r1, r2, r3)) :
  Calls Try.prog 24 #[.agg #[.string a0_0, .slice A0_1 l0_1.length c0_1], .int .i64 a1] w fun e w' => ∃ v1_ : Value, e = .returned (.tuple #[.agg #[.string r1, v1_], .bool r3]) ∧ Kd.R k39 39 w' w.heap.size (fun _ => True) v1_ r2 ∧ Below w.heap.size w w' := by
 have hu30 := Try.underlying30
 have HR0_1 := mk0 hr0_1
 have HC0_1 := mk0 hc0_1
 clear hr0_1 hc0_1
 have HB := mk0 (Below.refl w.heap.size w)
 have H : ((quorumref0_CopyChain.f k a0_0 l0_1).bind fun bt188 => ((quorumref8_newest.f k bt188.1 bt188.2 a1).bind fun t192 => (if t192 ≥ 0 then (if 0 ≤ t192 then (if t192 < (bt188.2.length : Int) then (if ((rd_T39 bt188.2 t192).f2 = true) then (if t192 ≤ (bt188.2.length : Int) then ((some (bt188.2.take (t192 : Int).toNat : List (S39))).bind fun y194 => (if (y194.length : Int) = 0 then (some ((⟨#[]⟩ : ByteArray), ([] : List (S39)), false)) else (some (bt188.1, y194, true)))) else (none)) else (if 0 ≤ (wrap64 (t192 + 1)) then (if (wrap64 (t192 + 1)) ≤ (bt188.2.length : Int) then ((some (bt188.2.take ((wrap64 (t192 + 1)) : Int).toNat : List (S39))).bind fun y197 => (if (y197.length : Int) = 0 then (some ((⟨#[]⟩ : ByteArray), ([] : List (S39)), false)) else (some (bt188.1, y197, true)))) else (none)) else (none))) else (none)) else (none)) else (if (bt188.2.length : Int) = 0 then (some ((⟨#[]⟩ : ByteArray), ([] : List (S39)), false)) else (some (bt188.1, bt188.2, true)))))) = some (r1, r2, r3) := h
 clear h
 replace H := Option.bind_eq_some_iff.mp H
 obtain ⟨⟨t188, t189⟩, A30, H⟩ := H
 try dsimp only at H
 have A3 := mk0 A30
 clear A30
 replace H := Option.bind_eq_some_iff.mp H
 obtain ⟨t192, A40, H⟩ := H
 try dsimp only at H
 have A4 := mk0 A40
 clear A40
 by_cases c5 : t192 ≥ 0
 focus
  rw [if_pos c5] at H
  have c5b0 : decide (0 ≤ t192) = true := decide_eq_true c5
  clear c5
  by_cases c6 : 0 ≤ t192
  focus
   rw [if_pos c6] at H
   have c6b0 : decide (0 ≤ t192) = true := decide_eq_true c6
   clear c6
   by_cases c7 : t192 < (t189.length : Int)
   focus
    rw [if_pos c7] at H
    have c7b0 : decide (t192 < (t189.length : Int)) = true := decide_eq_true c7
    clear c7
    obtain ⟨bq8, hbq8⟩ : ∃ b_ : Bool, b_ = ((rd_T39 t189 t192).f2) := ⟨_, rfl⟩
    replace H : (if (bq8 = true) then (if t192 ≤ (t189.length : Int) then ((some (t189.take (t192 : Int).toNat : List (S39))).bind fun y194 => (if (y194.length : Int) = 0 then (some ((⟨#[]⟩ : ByteArray), ([] : List (S39)), false)) else (some (t188, y194, true)))) else (none)) else (if 0 ≤ (wrap64 (t192 + 1)) then (if (wrap64 (t192 + 1)) ≤ (t189.length : Int) then ((some (t189.take ((wrap64 (t192 + 1)) : Int).toNat : List (S39))).bind fun y197 => (if (y197.length : Int) = 0 then (some ((⟨#[]⟩ : ByteArray), ([] : List (S39)), false)) else (some (t188, y197, true)))) else (none)) else (none))) = some (r1, r2, r3) := by rw [← hbq8] at H; exact H
    have Nbq8 := mk0 hbq8
    clear hbq8
    by_cases c9 : (bq8 = true)
    focus
     subst c9
     rw [if_pos rfl] at H
     by_cases c10 : t192 ≤ (t189.length : Int)
     focus
      rw [if_pos c10] at H
      have c10b0 := eq_true c10
      have c10b1 : decide (t192 ≤ (t189.length : Int)) = true := decide_eq_true c10
      clear c10
      obtain ⟨y194, hy194⟩ : ∃ y_ : List (S39), y_ = (t189.take (t192 : Int).toNat) := ⟨_, rfl⟩
      replace H : (if (y194.length : Int) = 0 then (some ((⟨#[]⟩ : ByteArray), ([] : List (S39)), false)) else (some (t188, y194, true))) = some (r1, r2, r3) := by first | (rw [hy194]; with_reducible exact H) | (have H2_ := (Option.bind_some _ _).symm.trans H; rw [hy194]; with_reducible exact H2_) | (have H2_ := (Option.bind_some _ _).symm.trans H; with_reducible exact H2_) | with_reducible exact H | (rw [hy194]; exact H) | exact H
      have Ny194 := mk0 hy194
      clear hy194
      by_cases c11 : (y194.length : Int) = 0
      focus
       rw [if_pos c11] at H
       have c11b0 : ((y194.length : Int) == 0) = true := beq_iff_eq.mpr c11
       have c11b1 : ((y194.length : Int) != 0) = false := bne_eq_false_iff_eq.mpr c11
       clear c11
       simp only [Option.some.injEq, Prod.mk.injEq] at H
       obtain ⟨rfl, rfl, rfl⟩ := H
       go_enter Try.func24, Try.ntmps24
      rotate_left 1
      focus
       rw [if_neg c11] at H
       have c11b0 : ((y194.length : Int) == 0) = false := beq_eq_false_iff_ne.mpr c11
       have c11b1 : ((y194.length : Int) != 0) = true := bne_iff_ne.mpr c11
       have c11b2 : ¬ (y194 = []) := fun h_ => c11 (by rw [h_]; rfl)
       simp only [Option.some.injEq, Prod.mk.injEq] at H
       obtain ⟨rfl, rfl, rfl⟩ := H
       go_enter Try.func24, Try.ntmps24
      rotate_right 1
     rotate_left 2
     ·rw [if_neg c10] at H
      exact absurd H (by simp)
    rotate_left 2
    focus
     replace c9 := Bool.eq_false_iff.mpr c9
     subst c9
     rw [if_neg (show ¬ (false = true) by decide)] at H
     obtain ⟨ji34, hji34⟩ : ∃ j_ : Int, (wrap64 (t192 + 1)) = j_ := ⟨_, rfl⟩
     replace H : (if 0 ≤ (ji34) then (if (ji34) ≤ (t189.length : Int) then ((some (t189.take ((ji34) : Int).toNat : List (S39))).bind fun y197 => (if (y197.length : Int) = 0 then (some ((⟨#[]⟩ : ByteArray), ([] : List (S39)), false)) else (some (t188, y197, true)))) else (none)) else (none)) = some (r1, r2, r3) := by first | (rw [hji34] at H; exact H) | (simp only [hji34] at H ⊢; exact H)
     (try rw [hji34] at A3)
     (try rw [hji34] at A4)
     have hji34w : (IntKind.i64.wrap (t192 + 1)) = ji34 := (i64_w _).trans hji34
     by_cases c35 : 0 ≤ (ji34)
     focus
      rw [if_pos c35] at H
      have c35b0 := eq_true c35
      have c35b1 : decide (0 ≤ (ji34)) = true := decide_eq_true c35
      clear c35
      by_cases c36 : (ji34) ≤ (t189.length : Int)
      focus
       rw [if_pos c36] at H
       have c36b0 := eq_true c36
       have c36b1 : decide ((ji34) ≤ (t189.length : Int)) = true := decide_eq_true c36
       clear c36
       obtain ⟨y197, hy197⟩ : ∃ y_ : List (S39), y_ = (t189.take ((ji34) : Int).toNat) := ⟨_, rfl⟩
       replace H : (if (y197.length : Int) = 0 then (some ((⟨#[]⟩ : ByteArray), ([] : List (S39)), false)) else (some (t188, y197, true))) = some (r1, r2, r3) := by first | (rw [hy197]; with_reducible exact H) | (have H2_ := (Option.bind_some _ _).symm.trans H; rw [hy197]; with_reducible exact H2_) | (have H2_ := (Option.bind_some _ _).symm.trans H; with_reducible exact H2_) | with_reducible exact H | (rw [hy197]; exact H) | exact H
       have Ny197 := mk0 hy197
       clear hy197
       by_cases c37 : (y197.length : Int) = 0
       focus
        rw [if_pos c37] at H
        have c37b0 : ((y197.length : Int) == 0) = true := beq_iff_eq.mpr c37
        have c37b1 : ((y197.length : Int) != 0) = false := bne_eq_false_iff_eq.mpr c37
        clear c37
        simp only [Option.some.injEq, Prod.mk.injEq] at H
        obtain ⟨rfl, rfl, rfl⟩ := H
        go_enter Try.func24, Try.ntmps24
       rotate_left 1
       focus
        rw [if_neg c37] at H
        have c37b0 : ((y197.length : Int) == 0) = false := beq_eq_false_iff_ne.mpr c37
        have c37b1 : ((y197.length : Int) != 0) = true := bne_iff_ne.mpr c37
        have c37b2 : ¬ (y197 = []) := fun h_ => c37 (by rw [h_]; rfl)
        simp only [Option.some.injEq, Prod.mk.injEq] at H
        obtain ⟨rfl, rfl, rfl⟩ := H
        go_enter Try.func24, Try.ntmps24
       rotate_right 1
      rotate_left 2
      ·rw [if_neg c36] at H
       exact absurd H (by simp)
     rotate_left 2
     ·rw [if_neg c35] at H
      exact absurd H (by simp)
    rotate_right 2
   rotate_left 4
   ·rw [if_neg c7] at H
    exact absurd H (by simp)
  rotate_left 4
  ·rw [if_neg c6] at H
   exact absurd H (by simp)
 rotate_left 4
 focus
  rw [if_neg c5] at H
  have c5b0 : decide (0 ≤ t192) = false := decide_eq_false c5
  clear c5
  by_cases c60 : (t189.length : Int) = 0
  focus
   rw [if_pos c60] at H
   have c60b0 : ((t189.length : Int) == 0) = true := beq_iff_eq.mpr c60
   have c60b1 : ((t189.length : Int) != 0) = false := bne_eq_false_iff_eq.mpr c60
   clear c60
   simp only [Option.some.injEq, Prod.mk.injEq] at H
   obtain ⟨rfl, rfl, rfl⟩ := H
   go_enter Try.func24, Try.ntmps24
  rotate_left 1
  focus
   rw [if_neg c60] at H
   have c60b0 : ((t189.length : Int) == 0) = false := beq_eq_false_iff_ne.mpr c60
   have c60b1 : ((t189.length : Int) != 0) = true := bne_iff_ne.mpr c60
   have c60b2 : ¬ (t189 = []) := fun h_ => c60 (by rw [h_]; rfl)
   simp only [Option.some.injEq, Prod.mk.injEq] at H
   obtain ⟨rfl, rfl, rfl⟩ := H
   go_enter Try.func24, Try.ntmps24
  rotate_right 1
 rotate_right 4
 all_goals go_wp2_with (first | ((with_reducible refine gate_dst (N := 2) rfl ?_); refine bx_ (N := 2) (cs := #[.string a0_0, .slice A0_1 l0_1.length c0_1]) (t := 30) (h := ?_); intro gb186 hg w38 hbox hb; have n2_ := mk0 (gz_ HB hg); have n3_ := mk0 (gz_ HB hg); replace HB := mk0 (bt_ (b_ HB) hb); have BK186 := mk0 (hbox); have GW186 := n2_; have GE186 := n3_; clear n2_ n3_; clear hb hbox hg) | ((with_reducible refine gate_dst (N := 4) rfl ?_); refine bx_ (N := 4) (cs := #[.string (⟨#[]⟩ : ByteArray), .slice none 0 0]) (t := 30) (h := ?_); intro gb187 hg w39 hbox hb; have n3_ := mk0 (gz_ HB hg); have n4_ := mk0 (gz_ HB hg); have n5_ := mk0 (ne1_ BK186 hg); have n6_ := mk0 (ne2_ BK186 hg); replace BK186 := mk0 (u_ BK186 hb); replace HB := mk0 (bt_ (b_ HB) hb); have BK187 := mk0 (hbox); have GW187 := n3_; have GE187 := n4_; have NB186_187 := n5_; have NB187_186 := n6_; clear n3_ n4_ n5_ n6_ hb hbox hg; have hnb40 := NB186_187.out; have hnc40 := NB187_186.out; obtain ⟨hcz41_0, hcz41_1, hfz41_0, hfz41_1⟩ := c2_ BK186) | ((with_reducible refine gate_callee (f := 16) rfl ?_); refine gL_ (some 8) Try.func16 #[.agg #[.string a0_0, .slice A0_1 l0_1.length c0_1]] (h := ?_); (with_reducible refine (quorumref0_CopyChain.calls k a0_0 _ _ l0_1 t188 t189 _ ?side1 ?side2 A3.out).mono ?_); (case side1 => exact cb_ HR0_1 HB); (case side2 => exact HC0_1.out); rintro e w42 ⟨v190, rfl, ho0, hb⟩; refine ⟨_, rfl, ?_⟩; have n0_ := mk0 (Kd.R_lower ho0 (bz_ (b_ HB))); replace BK186 := mk0 (u_ BK186 hb); replace BK187 := mk0 (blk_below (g := gb187) (o := .cells #[.string (⟨#[]⟩ : ByteArray), .slice none 0 0] 30 (0, 0)) (h_ BK187) hb); replace HB := mk0 (bt_ (b_ HB) hb); have HO191 := n0_; clear n0_; (try clear hb); (try clear ho0); obtain ⟨hcz43_0, hcz43_1, hfz43_0, hfz43_1⟩ := c2_ BK186; obtain ⟨Ao44, co44, eo44⟩ := Kd.R_slice HO191.out; subst eo44) | ((with_reducible refine gate_callee (f := 64) rfl ?_); refine gL_ (some 11) Try.func64 #[.agg #[.string t188, .slice Ao44 t189.length co44], .int .i64 a1] (h := ?_); (with_reducible refine (quorumref8_newest.calls k t188 _ _ t189 a1 t192 _ ?side1 ?side2 A4.out).mono ?_); (case side1 => refine (Kd.R_reads' (e := 39) (base := w.heap.size) (ok := fun k_ => True) (n := t189.length) (c := co44) ?_).2.2; exact (r2_ (Kd.R_mono (Kd.R_far (p := ⟨gb186, 1, none⟩) (Kd.R_far (p := ⟨gb186, 0, none⟩) (Kd.R_types HO191.out BK186.out (by decide)) (fun _ hk => hk.2) (.string t188)) (fun _ hk => hk.2) (.slice Ao44 t189.length co44)) (fun _ h_ => h_.1)))); (case side2 => exact (Kd.R_reads' HO191.out).2.1); rintro e w45 ⟨rfl, hb⟩; refine ⟨_, rfl, ?_⟩; have n0_ := mk0 (Kd.R_below (r2_ (Kd.R_mono (Kd.R_far (p := ⟨gb186, 1, none⟩) (Kd.R_far (p := ⟨gb186, 0, none⟩) (Kd.R_types HO191.out BK186.out (by decide)) (fun _ hk => hk.2) (.string t188)) (fun _ hk => hk.2) (.slice Ao44 t189.length co44)) (fun _ h_ => h_.1))) hb); replace BK186 := mk0 (blk_below (g := gb186) (o := .cells #[.string t188, .slice Ao44 t189.length co44] 30 (0, 0)) (pu_ (cs := #[.string t188, .slice A0_1 l0_1.length c0_1]) (pu_ (cs := #[.string a0_0, .slice A0_1 l0_1.length c0_1]) (h_ BK186))) hb); replace BK187 := mk0 (blk_below (g := gb187) (o := .cells #[.string (⟨#[]⟩ : ByteArray), .slice none 0 0] 30 (0, 0)) (fa_ (fa_ (h_ BK187) NB187_186.out) NB187_186.out) hb); replace HB := mk0 (bt_ (b_ HB) hb); clear HO191; have HO191 := n0_; clear n0_; (try clear hb); obtain ⟨hcz46_0, hcz46_1, hfz46_0, hfz46_1⟩ := c2_ BK186; have p193 : 0 ≤ (t192 : Int) := of_decide_eq_true (by first | (with_reducible assumption) | assumption); have q193 : t192 < (t189.length : Int) := of_decide_eq_true (by first | (with_reducible assumption) | assumption); obtain ⟨ad193, e193, hx193_0, hx193_1, hx193_2⟩ := at_T39 (Kd.R_reads' HO191.out).2.2 t192 p193 q193; (try rw [← Nbq8.out] at hx193_2); cases e193; replace p193 := eq_true p193; replace q193 := eq_true q193; have q47 : ((ji34) : Int) ≤ ((t189.length : Int) : Int) := of_decide_eq_true (by first | (with_reducible assumption) | assumption); obtain ⟨i047, hi047, _, hsz47, _⟩ := info_parts info39; have hcut47 := cut_to (P := Try.prog) 23 39 .i64 Try.underlying23 hi047 (some ad193) t189.length co44 (ji34) (of_decide_eq_true (by first | (with_reducible assumption) | assumption)) q47 (Kd.R_reads' HO191.out).2.1; have hr47 := Kd.R_take (m := ((ji34) : Int).toNat) HO191.out (by omega); have hy47 : y197.length = ((ji34) : Int).toNat := (by rw [Ny197.out, List.length_take]; omega); rw [← Ny197.out] at hr47; rw [← hy47] at hr47 hcut47; clear hy47 hi047 hsz47 HO191; have HO199 := mk0 hr47; clear hr47; replace q47 := eq_true q47; obtain ⟨hcz48_0, hcz48_1, hfz48_0, hfz48_1⟩ := c2_ BK187) | ((with_reducible refine gate_callee (f := 64) rfl ?_); refine gL_ (some 11) Try.func64 #[.agg #[.string t188, .slice Ao44 t189.length co44], .int .i64 a1] (h := ?_); (with_reducible refine (quorumref8_newest.calls k t188 _ _ t189 a1 t192 _ ?side1 ?side2 A4.out).mono ?_); (case side1 => refine (Kd.R_reads' (e := 39) (base := w.heap.size) (ok := fun k_ => True) (n := t189.length) (c := co44) ?_).2.2; exact (r2_ (Kd.R_mono (Kd.R_far (p := ⟨gb186, 1, none⟩) (Kd.R_far (p := ⟨gb186, 0, none⟩) (Kd.R_types HO191.out BK186.out (by decide)) (fun _ hk => hk.2) (.string t188)) (fun _ hk => hk.2) (.slice Ao44 t189.length co44)) (fun _ h_ => h_.1)))); (case side2 => exact (Kd.R_reads' HO191.out).2.1); rintro e w19 ⟨rfl, hb⟩; refine ⟨_, rfl, ?_⟩; have n0_ := mk0 (Kd.R_below (r2_ (Kd.R_mono (Kd.R_far (p := ⟨gb186, 1, none⟩) (Kd.R_far (p := ⟨gb186, 0, none⟩) (Kd.R_types HO191.out BK186.out (by decide)) (fun _ hk => hk.2) (.string t188)) (fun _ hk => hk.2) (.slice Ao44 t189.length co44)) (fun _ h_ => h_.1))) hb); replace BK186 := mk0 (blk_below (g := gb186) (o := .cells #[.string t188, .slice Ao44 t189.length co44] 30 (0, 0)) (pu_ (cs := #[.string t188, .slice A0_1 l0_1.length c0_1]) (pu_ (cs := #[.string a0_0, .slice A0_1 l0_1.length c0_1]) (h_ BK186))) hb); replace BK187 := mk0 (blk_below (g := gb187) (o := .cells #[.string (⟨#[]⟩ : ByteArray), .slice none 0 0] 30 (0, 0)) (fa_ (fa_ (h_ BK187) NB187_186.out) NB187_186.out) hb); replace HB := mk0 (bt_ (b_ HB) hb); clear HO191; have HO191 := n0_; clear n0_; (try clear hb); obtain ⟨hcz20_0, hcz20_1, hfz20_0, hfz20_1⟩ := c2_ BK186; have p193 : 0 ≤ (t192 : Int) := of_decide_eq_true (by first | (with_reducible assumption) | assumption); have q193 : t192 < (t189.length : Int) := of_decide_eq_true (by first | (with_reducible assumption) | assumption); obtain ⟨ad193, e193, hx193_0, hx193_1, hx193_2⟩ := at_T39 (Kd.R_reads' HO191.out).2.2 t192 p193 q193; (try rw [← Nbq8.out] at hx193_2); cases e193; replace p193 := eq_true p193; replace q193 := eq_true q193; have q21 : (t192 : Int) ≤ ((t189.length : Int) : Int) := of_decide_eq_true (by first | (with_reducible assumption) | assumption); obtain ⟨i021, hi021, _, hsz21, _⟩ := info_parts info39; have hcut21 := cut_to (P := Try.prog) 23 39 .i64 Try.underlying23 hi021 (some ad193) t189.length co44 t192 (of_decide_eq_true (by first | (with_reducible assumption) | assumption)) q21 (Kd.R_reads' HO191.out).2.1; have hr21 := Kd.R_take (m := (t192 : Int).toNat) HO191.out (by omega); have hy21 : y194.length = (t192 : Int).toNat := (by rw [Ny194.out, List.length_take]; omega); rw [← Ny194.out] at hr21; rw [← hy21] at hr21 hcut21; clear hy21 hi021 hsz21 HO191; have HO196 := mk0 hr21; clear hr21; replace q21 := eq_true q21; obtain ⟨hcz22_0, hcz22_1, hfz22_0, hfz22_1⟩ := c2_ BK187) | ((with_reducible refine gate_callee (f := 64) rfl ?_); refine gL_ (some 11) Try.func64 #[.agg #[.string t188, .slice Ao44 t189.length co44], .int .i64 a1] (h := ?_); (with_reducible refine (quorumref8_newest.calls k t188 _ _ t189 a1 t192 _ ?side1 ?side2 A4.out).mono ?_); (case side1 => refine (Kd.R_reads' (e := 39) (base := w.heap.size) (ok := fun k_ => True) (n := t189.length) (c := co44) ?_).2.2; exact (r2_ (Kd.R_mono (Kd.R_far (p := ⟨gb186, 1, none⟩) (Kd.R_far (p := ⟨gb186, 0, none⟩) (Kd.R_types HO191.out BK186.out (by decide)) (fun _ hk => hk.2) (.string t188)) (fun _ hk => hk.2) (.slice Ao44 t189.length co44)) (fun _ h_ => h_.1)))); (case side2 => exact (Kd.R_reads' HO191.out).2.1); rintro e w30 ⟨rfl, hb⟩; refine ⟨_, rfl, ?_⟩; have n0_ := mk0 (Kd.R_below (r2_ (Kd.R_mono (Kd.R_far (p := ⟨gb186, 1, none⟩) (Kd.R_far (p := ⟨gb186, 0, none⟩) (Kd.R_types HO191.out BK186.out (by decide)) (fun _ hk => hk.2) (.string t188)) (fun _ hk => hk.2) (.slice Ao44 t189.length co44)) (fun _ h_ => h_.1))) hb); replace BK186 := mk0 (blk_below (g := gb186) (o := .cells #[.string t188, .slice Ao44 t189.length co44] 30 (0, 0)) (pu_ (cs := #[.string t188, .slice A0_1 l0_1.length c0_1]) (pu_ (cs := #[.string a0_0, .slice A0_1 l0_1.length c0_1]) (h_ BK186))) hb); replace BK187 := mk0 (blk_below (g := gb187) (o := .cells #[.string (⟨#[]⟩ : ByteArray), .slice none 0 0] 30 (0, 0)) (fa_ (fa_ (h_ BK187) NB187_186.out) NB187_186.out) hb); replace HB := mk0 (bt_ (b_ HB) hb); clear HO191; have HO191 := n0_; clear n0_; (try clear hb); obtain ⟨hcz31_0, hcz31_1, hfz31_0, hfz31_1⟩ := c2_ BK186; have p193 : 0 ≤ (t192 : Int) := of_decide_eq_true (by first | (with_reducible assumption) | assumption); have q193 : t192 < (t189.length : Int) := of_decide_eq_true (by first | (with_reducible assumption) | assumption); obtain ⟨ad193, e193, hx193_0, hx193_1, hx193_2⟩ := at_T39 (Kd.R_reads' HO191.out).2.2 t192 p193 q193; (try rw [← Nbq8.out] at hx193_2); cases e193; replace p193 := eq_true p193; replace q193 := eq_true q193; have q32 : (t192 : Int) ≤ ((t189.length : Int) : Int) := of_decide_eq_true (by first | (with_reducible assumption) | assumption); obtain ⟨i032, hi032, _, hsz32, _⟩ := info_parts info39; have hcut32 := cut_to (P := Try.prog) 23 39 .i64 Try.underlying23 hi032 (some ad193) t189.length co44 t192 (of_decide_eq_true (by first | (with_reducible assumption) | assumption)) q32 (Kd.R_reads' HO191.out).2.1; have hr32 := Kd.R_take (m := (t192 : Int).toNat) HO191.out (by omega); have hy32 : y194.length = (t192 : Int).toNat := (by rw [Ny194.out, List.length_take]; omega); rw [← Ny194.out] at hr32; rw [← hy32] at hr32 hcut32; clear hy32 hi032 hsz32 HO191; have HO196 := mk0 hr32; clear hr32; replace q32 := eq_true q32; obtain ⟨hcz33_0, hcz33_1, hfz33_0, hfz33_1⟩ := c2_ BK187) | ((with_reducible refine gate_callee (f := 64) rfl ?_); refine gL_ (some 11) Try.func64 #[.agg #[.string t188, .slice Ao44 t189.length co44], .int .i64 a1] (h := ?_); (with_reducible refine (quorumref8_newest.calls k t188 _ _ t189 a1 t192 _ ?side1 ?side2 A4.out).mono ?_); (case side1 => refine (Kd.R_reads' (e := 39) (base := w.heap.size) (ok := fun k_ => True) (n := t189.length) (c := co44) ?_).2.2; exact (r2_ (Kd.R_mono (Kd.R_far (p := ⟨gb186, 1, none⟩) (Kd.R_far (p := ⟨gb186, 0, none⟩) (Kd.R_types HO191.out BK186.out (by decide)) (fun _ hk => hk.2) (.string t188)) (fun _ hk => hk.2) (.slice Ao44 t189.length co44)) (fun _ h_ => h_.1)))); (case side2 => exact (Kd.R_reads' HO191.out).2.1); rintro e w68 ⟨rfl, hb⟩; refine ⟨_, rfl, ?_⟩; have n0_ := mk0 (Kd.R_below (r2_ (Kd.R_mono (Kd.R_far (p := ⟨gb186, 1, none⟩) (Kd.R_far (p := ⟨gb186, 0, none⟩) (Kd.R_types HO191.out BK186.out (by decide)) (fun _ hk => hk.2) (.string t188)) (fun _ hk => hk.2) (.slice Ao44 t189.length co44)) (fun _ h_ => h_.1))) hb); replace BK186 := mk0 (blk_below (g := gb186) (o := .cells #[.string t188, .slice Ao44 t189.length co44] 30 (0, 0)) (pu_ (cs := #[.string t188, .slice A0_1 l0_1.length c0_1]) (pu_ (cs := #[.string a0_0, .slice A0_1 l0_1.length c0_1]) (h_ BK186))) hb); replace BK187 := mk0 (blk_below (g := gb187) (o := .cells #[.string (⟨#[]⟩ : ByteArray), .slice none 0 0] 30 (0, 0)) (fa_ (fa_ (h_ BK187) NB187_186.out) NB187_186.out) hb); replace HB := mk0 (bt_ (b_ HB) hb); clear HO191; have HO191 := n0_; clear n0_; (try clear hb); obtain ⟨hcz69_0, hcz69_1, hfz69_0, hfz69_1⟩ := c2_ BK186; obtain ⟨hcz70_0, hcz70_1, hfz70_0, hfz70_1⟩ := c2_ BK187) | ((with_reducible refine gate_callee (f := 64) rfl ?_); refine gL_ (some 11) Try.func64 #[.agg #[.string t188, .slice Ao44 t189.length co44], .int .i64 a1] (h := ?_); (with_reducible refine (quorumref8_newest.calls k t188 _ _ t189 a1 t192 _ ?side1 ?side2 A4.out).mono ?_); (case side1 => refine (Kd.R_reads' (e := 39) (base := w.heap.size) (ok := fun k_ => True) (n := t189.length) (c := co44) ?_).2.2; exact (r2_ (Kd.R_mono (Kd.R_far (p := ⟨gb186, 1, none⟩) (Kd.R_far (p := ⟨gb186, 0, none⟩) (Kd.R_types HO191.out BK186.out (by decide)) (fun _ hk => hk.2) (.string t188)) (fun _ hk => hk.2) (.slice Ao44 t189.length co44)) (fun _ h_ => h_.1)))); (case side2 => exact (Kd.R_reads' HO191.out).2.1); rintro e w78 ⟨rfl, hb⟩; refine ⟨_, rfl, ?_⟩; have n0_ := mk0 (Kd.R_below (r2_ (Kd.R_mono (Kd.R_far (p := ⟨gb186, 1, none⟩) (Kd.R_far (p := ⟨gb186, 0, none⟩) (Kd.R_types HO191.out BK186.out (by decide)) (fun _ hk => hk.2) (.string t188)) (fun _ hk => hk.2) (.slice Ao44 t189.length co44)) (fun _ h_ => h_.1))) hb); replace BK186 := mk0 (blk_below (g := gb186) (o := .cells #[.string t188, .slice Ao44 t189.length co44] 30 (0, 0)) (pu_ (cs := #[.string t188, .slice A0_1 l0_1.length c0_1]) (pu_ (cs := #[.string a0_0, .slice A0_1 l0_1.length c0_1]) (h_ BK186))) hb); replace BK187 := mk0 (blk_below (g := gb187) (o := .cells #[.string (⟨#[]⟩ : ByteArray), .slice none 0 0] 30 (0, 0)) (fa_ (fa_ (h_ BK187) NB187_186.out) NB187_186.out) hb); replace HB := mk0 (bt_ (b_ HB) hb); clear HO191; have HO191 := n0_; clear n0_; (try clear hb); obtain ⟨hcz79_0, hcz79_1, hfz79_0, hfz79_1⟩ := c2_ BK186; obtain ⟨hcz80_0, hcz80_1, hfz80_0, hfz80_1⟩ := c2_ BK187))
 ·refine bodyPost_ret (results_ct rfl _ _ gb187 30 #[.string (⟨#[]⟩ : ByteArray), .slice none 0 0] (0, 0) _ rfl (pu_ (cs := #[.string (⟨#[]⟩ : ByteArray), .slice none 0 0]) (pu_ (cs := #[.string (⟨#[]⟩ : ByteArray), .slice none 0 0]) (fa_ (h_ BK187) NB187_186.out))) Try.underlying30 rfl (by kernel_rfl)) rfl ?_
  exact ⟨_, by first | rfl | (simp [errW_none, errW_some] <;> rfl) | (simp [*, errW_none, errW_some] <;> rfl), by first | exact Kd.R_nil _ _ _ _ _ | exact Kd.N_nil _ _ _ _ _ | exact Kd.V_nil _ _ _ _ _ | exact Kd.Q_nil _ _ _ _ _ | exact Kd.S_nil _ _ _ _ _, b_ HB⟩
 ·refine bodyPost_ret (results_ct rfl _ _ gb187 30 #[.string t188, .slice (some ad193) y194.length co44] (0, 0) _ rfl (pu_ (cs := #[.string t188, .slice none 0 0]) (pu_ (cs := #[.string (⟨#[]⟩ : ByteArray), .slice none 0 0]) (fa_ (h_ BK187) NB187_186.out))) Try.underlying30 rfl (by kernel_rfl)) rfl ?_
  exact ⟨_, by first | rfl | (simp [errW_none, errW_some] <;> rfl) | (simp [*, errW_none, errW_some] <;> rfl), by (with_reducible repeat (first | apply Ra_ | apply Rn_ | apply Rd_)); exact Kd.R_mono (Kd.R_far (p := ⟨gb187, 1, none⟩) (Kd.R_far (p := ⟨gb187, 0, none⟩) (Kd.R_far (p := ⟨gb186, 1, none⟩) (Kd.R_types (Kd.R_types HO196.out BK186.out (by decide)) BK187.out (by decide)) (fun _ hk => hk.1.2) (.slice (some ad193) y194.length co44)) (fun _ hk => hk.2) (.string t188)) (fun _ hk => hk.2) (.slice (some ad193) y194.length co44)) (fun _ hk => trivial), b_ HB⟩
 ·refine bodyPost_ret (results_ct rfl _ _ gb187 30 #[.string (⟨#[]⟩ : ByteArray), .slice none 0 0] (0, 0) _ rfl (pu_ (cs := #[.string (⟨#[]⟩ : ByteArray), .slice none 0 0]) (pu_ (cs := #[.string (⟨#[]⟩ : ByteArray), .slice none 0 0]) (fa_ (h_ BK187) NB187_186.out))) Try.underlying30 rfl (by kernel_rfl)) rfl ?_
  exact ⟨_, by first | rfl | (simp [errW_none, errW_some] <;> rfl) | (simp only [← hji34]; first | rfl | (simp [errW_none, errW_some] <;> rfl)) | (simp [*, errW_none, errW_some] <;> rfl), by first | exact Kd.R_nil _ _ _ _ _ | exact Kd.N_nil _ _ _ _ _ | exact Kd.V_nil _ _ _ _ _ | exact Kd.Q_nil _ _ _ _ _ | exact Kd.S_nil _ _ _ _ _, b_ HB⟩
 ·refine bodyPost_ret (results_ct rfl _ _ gb187 30 #[.string t188, .slice (some ad193) y197.length co44] (0, 0) _ rfl (pu_ (cs := #[.string t188, .slice none 0 0]) (pu_ (cs := #[.string (⟨#[]⟩ : ByteArray), .slice none 0 0]) (fa_ (h_ BK187) NB187_186.out))) Try.underlying30 rfl (by kernel_rfl)) rfl ?_
  exact ⟨_, by first | rfl | (simp [errW_none, errW_some] <;> rfl) | (simp only [← hji34]; first | rfl | (simp [errW_none, errW_some] <;> rfl)) | (simp [*, errW_none, errW_some] <;> rfl), by (with_reducible repeat (first | apply Ra_ | apply Rn_ | apply Rd_)); exact Kd.R_mono (Kd.R_far (p := ⟨gb187, 1, none⟩) (Kd.R_far (p := ⟨gb187, 0, none⟩) (Kd.R_far (p := ⟨gb186, 1, none⟩) (Kd.R_types (Kd.R_types HO199.out BK186.out (by decide)) BK187.out (by decide)) (fun _ hk => hk.1.2) (.slice (some ad193) y197.length co44)) (fun _ hk => hk.2) (.string t188)) (fun _ hk => hk.2) (.slice (some ad193) y197.length co44)) (fun _ hk => trivial), b_ HB⟩
 ·refine bodyPost_ret (results_ct rfl _ _ gb187 30 #[.string (⟨#[]⟩ : ByteArray), .slice none 0 0] (0, 0) _ rfl (pu_ (cs := #[.string (⟨#[]⟩ : ByteArray), .slice none 0 0]) (pu_ (cs := #[.string (⟨#[]⟩ : ByteArray), .slice none 0 0]) (h_ BK187))) Try.underlying30 rfl (by kernel_rfl)) rfl ?_
  exact ⟨_, by first | rfl | (simp [errW_none, errW_some] <;> rfl) | (simp [*, errW_none, errW_some] <;> rfl), by first | exact Kd.R_nil _ _ _ _ _ | exact Kd.N_nil _ _ _ _ _ | exact Kd.V_nil _ _ _ _ _ | exact Kd.Q_nil _ _ _ _ _ | exact Kd.S_nil _ _ _ _ _, b_ HB⟩
 ·refine bodyPost_ret (results_ct rfl _ _ gb187 30 #[.string t188, .slice Ao44 t189.length co44] (0, 0) _ rfl (pu_ (cs := #[.string t188, .slice none 0 0]) (pu_ (cs := #[.string (⟨#[]⟩ : ByteArray), .slice none 0 0]) (h_ BK187))) Try.underlying30 rfl (by kernel_rfl)) rfl ?_
  exact ⟨_, by first | rfl | (simp [errW_none, errW_some] <;> rfl) | (simp [*, errW_none, errW_some] <;> rfl), by (with_reducible repeat (first | apply Ra_ | apply Rn_ | apply Rd_)); exact Kd.R_mono (Kd.R_far (p := ⟨gb187, 1, none⟩) (Kd.R_far (p := ⟨gb187, 0, none⟩) (Kd.R_types HO191.out BK187.out (by decide)) (fun _ hk => hk.2) (.string t188)) (fun _ hk => hk.2) (.slice Ao44 t189.length co44)) (fun _ hk => trivial), b_ HB⟩

/-! ### quorumref0_EqVersions: function 65 -/
def quorumref0_EqVersions.l0 : Nat → List (S39) → List (S39) → Int → Option (Bool)
 | 0, _, _, _ => none
 | k + 1, x0, x1, x5 => if x5 < (x0.length : Int) then (if 0 ≤ x5 then (if x5 < (x1.length : Int) then (if (!(((rd_T39 x0 x5).f0) == ((rd_T39 x1 x5).f0)) || (!((((rd_T39 x0 x5).f1).toList) == (((rd_T39 x1 x5).f1).toList)) || (!(((rd_T39 x0 x5).f2) == ((rd_T39 x1 x5).f2))))) = true then (some false) else (quorumref0_EqVersions.l0 k x0 x1 (wrap64 (x5 + 1)))) else (none)) else (none)) else (some true)
def quorumref0_EqVersions.f (k : Nat) (l0 : List (S39)) (l1 : List (S39)) : Option (Bool) := if (l0.length : Int) = (l1.length : Int) then (quorumref0_EqVersions.l0 k l0 l1 0) else (some false)
theorem quorumref0_EqVersions.mono_l : ∀ k, (∀ y0 y1 y2, LeO (quorumref0_EqVersions.l0 k y0 y1 y2) (quorumref0_EqVersions.l0 (k + 1) y0 y1 y2))
 | 0 => fun _ _ _ r h => by simp [quorumref0_EqVersions.l0] at h
 | k + 1 => by
  have ih0 := quorumref0_EqVersions.mono_l k
  ·intro y0 y1 y2
   unfold quorumref0_EqVersions.l0
   repeat' first
   | (with_reducible exact ih0 _ _ _)
   | (with_reducible exact LeO.refl _)
   | (with_reducible exact LeO.none _)
   | (with_reducible refine LeO.ite ?_ ?_)
   | (with_reducible refine LeO.bind ?_ (fun _ => ?_))
   | exact ih0 _ _ _
   | exact LeO.none _
   | refine LeO.ite ?_ ?_
   | refine LeO.bind ?_ (fun _ => ?_)
theorem quorumref0_EqVersions.mono : ∀ a0 a1 k, LeO (quorumref0_EqVersions.f k a0 a1) (quorumref0_EqVersions.f (k + 1) a0 a1) := by
 intro a0 a1 k
 have ih0 := quorumref0_EqVersions.mono_l k
 unfold quorumref0_EqVersions.f
 repeat' first
   | (with_reducible exact ih0 _ _ _)
   | (with_reducible exact LeO.refl _)
   | (with_reducible exact LeO.none _)
   | (with_reducible refine LeO.ite ?_ ?_)
   | (with_reducible refine LeO.bind ?_ (fun _ => ?_))
   | exact ih0 _ _ _
   | exact LeO.none _
   | refine LeO.ite ?_ ?_
   | refine LeO.bind ?_ (fun _ => ?_)
set_option maxHeartbeats 8000000 in
set_option maxRecDepth 100000 in
theorem quorumref0_EqVersions.calls (k : Nat) (A0 : Option Addr) (c0 : Nat) (l0 : List (S39)) (A1 : Option Addr) (c1 : Nat) (l1 : List (S39)) (r : Bool) (w : World) (hr0 : Kd.C k39 w A0 l0.length l0) (hc0 : l0.length ≤ c0) (hr1 : Kd.C k39 w A1 l1.length l1) (hc1 : l1.length ≤ c1) (h : quorumref0_EqVersions.f k l0 l1 = some r) :
  Calls Try.prog 65 #[.slice A0 l0.length c0, .slice A1 l1.length c1] w fun e w' => e = .returned (.bool r) ∧ Drawn0 w w' := by
 have hu39 := Try.underlying39
 have HR0 := mk0 hr0
 have HC0 := mk0 hc0
 clear hr0 hc0
 have HR1 := mk0 hr1
 have HC1 := mk0 hc1
 clear hr1 hc1
 have H : (if (l0.length : Int) = (l1.length : Int) then (quorumref0_EqVersions.l0 k l0 l1 0) else (some false)) = some r := h
 clear h
 by_cases c3 : (l0.length : Int) = (l1.length : Int)
 ·rw [if_pos c3] at H
  have c3b0 : ((l0.length : Int) == (l1.length : Int)) = true := beq_iff_eq.mpr c3
  have c3b1 : ((l0.length : Int) != (l1.length : Int)) = false := bne_eq_false_iff_eq.mpr c3
  have c3b2 : (l0.length == l1.length) = true := by first | simpa using c3 | (simp at c3 ⊢; omega)
  clear c3
  have H' := mk0 H
  clear H
  go_enter Try.func65, Try.ntmps65
  go_wp2
  repeat (go_quiet (fail); try go_wp2)
  go_loopg [5] k (fun kq v5 w' => ∃ (x5_1 : Int), v5 = .int .i64 x5_1 ∧ Fc (quorumref0_EqVersions.l0 kq l0 l1 x5_1 = some r) ∧ Fc (kq ≤ k) ∧ Drawn0 w w')
  case atStart => exact ⟨(0), (by first | rfl | (simp; done) | (simp [*]; done)), H', ⟨Nat.le_refl _⟩, by repeat (first | exact Drawn0.refl _ | apply Drawn0.step)⟩
  case round =>
   clear H'
   try clear c1
   try clear c3
   try clear c3b0
   try clear c3b1
   try clear c3b2
   obtain ⟨x5_1, rfl, HA, HK1, ⟨m1, rfl⟩⟩ := hrel
   cases gk with
   | zero => exact absurd HA.out (by simp [quorumref0_EqVersions.l0])
   | succ k1 =>
    have H := HA.out
    clear HA
    simp only [quorumref0_EqVersions.l0] at H
    as_aux_lemma =>
     by_cases c4 : x5_1 < (l0.length : Int)
     ·rw [if_pos c4] at H
      have c4b0 : decide (x5_1 < (l0.length : Int)) = true := decide_eq_true c4
      clear c4
      by_cases c5 : 0 ≤ x5_1
      ·rw [if_pos c5] at H
       have c5b0 : decide (0 ≤ x5_1) = true := decide_eq_true c5
       clear c5
       by_cases c6 : x5_1 < (l1.length : Int)
       ·rw [if_pos c6] at H
        have c6b0 : decide (x5_1 < (l1.length : Int)) = true := decide_eq_true c6
        clear c6
        by_cases c7 : (!(((rd_T39 l0 x5_1).f0) == ((rd_T39 l1 x5_1).f0)) || (!((((rd_T39 l0 x5_1).f1).toList) == (((rd_T39 l1 x5_1).f1).toList)) || (!(((rd_T39 l0 x5_1).f2) == ((rd_T39 l1 x5_1).f2))))) = true
        ·rw [if_pos c7] at H
         have c7b0 : (!(((rd_T39 l0 x5_1).f0) == ((rd_T39 l1 x5_1).f0)) || (!((((rd_T39 l0 x5_1).f1).toList) == (((rd_T39 l1 x5_1).f1).toList)) || (!(((rd_T39 l0 x5_1).f2) == ((rd_T39 l1 x5_1).f2))))) = true := c7
         clear c7
         obtain rfl := Option.some.inj H
         have p200 : 0 ≤ (x5_1 : Int) := of_decide_eq_true (by first | (with_reducible assumption) | assumption)
         have q200 : x5_1 < (l0.length : Int) := of_decide_eq_true (by first | (with_reducible assumption) | assumption)
         obtain ⟨ad200, e200, hx200_0, hx200_1, hx200_2⟩ := at_T39 HR0.out x5_1 p200 q200
         cases e200
         replace p200 := eq_true p200
         replace q200 := eq_true q200
         have p201 : 0 ≤ (x5_1 : Int) := of_decide_eq_true (by first | (with_reducible assumption) | assumption)
         have q201 : x5_1 < (l1.length : Int) := of_decide_eq_true (by first | (with_reducible assumption) | assumption)
         obtain ⟨ad201, e201, hx201_0, hx201_1, hx201_2⟩ := at_T39 HR1.out x5_1 p201 q201
         cases e201
         replace p201 := eq_true p201
         replace q201 := eq_true q201
         go_wp2
         repeat (go_quiet (fail); try go_wp2)
         go_ret
         exact ⟨by first | rfl | (simp; done) | (simp [*]; done), by repeat (first | exact Drawn0.refl _ | apply Drawn0.step)⟩
        ·rw [if_neg c7] at H
         have c7b0 : (!(((rd_T39 l0 x5_1).f0) == ((rd_T39 l1 x5_1).f0)) || (!((((rd_T39 l0 x5_1).f1).toList) == (((rd_T39 l1 x5_1).f1).toList)) || (!(((rd_T39 l0 x5_1).f2) == ((rd_T39 l1 x5_1).f2))))) = false := by simpa using c7
         clear c7
         have H' := mk0 H
         clear H
         have p200 : 0 ≤ (x5_1 : Int) := of_decide_eq_true (by first | (with_reducible assumption) | assumption)
         have q200 : x5_1 < (l0.length : Int) := of_decide_eq_true (by first | (with_reducible assumption) | assumption)
         obtain ⟨ad200, e200, hx200_0, hx200_1, hx200_2⟩ := at_T39 HR0.out x5_1 p200 q200
         cases e200
         replace p200 := eq_true p200
         replace q200 := eq_true q200
         have p201 : 0 ≤ (x5_1 : Int) := of_decide_eq_true (by first | (with_reducible assumption) | assumption)
         have q201 : x5_1 < (l1.length : Int) := of_decide_eq_true (by first | (with_reducible assumption) | assumption)
         obtain ⟨ad201, e201, hx201_0, hx201_1, hx201_2⟩ := at_T39 HR1.out x5_1 p201 q201
         cases e201
         replace p201 := eq_true p201
         replace q201 := eq_true q201
         go_wp2
         repeat (go_quiet (fail); try go_wp2)
         go_roundg k1
         case measure => have := HK1.out; omega
         case rel => exact ⟨(wrap64 (x5_1 + 1)), (by first | rfl | (simp; done) | (simp [*]; done)), H', ⟨by have := HK1.out; omega⟩, by repeat (first | exact Drawn0.refl _ | apply Drawn0.step)⟩
       ·rw [if_neg c6] at H
        exact absurd H (by simp)
      ·rw [if_neg c5] at H
       exact absurd H (by simp)
     ·rw [if_neg c4] at H
      have c4b0 : decide (x5_1 < (l0.length : Int)) = false := decide_eq_false c4
      clear c4
      obtain rfl := Option.some.inj H
      go_wp2
      repeat (go_quiet (fail); try go_wp2)
      go_ret
      exact ⟨by first | rfl | (simp; done) | (simp [*]; done), by repeat (first | exact Drawn0.refl _ | apply Drawn0.step)⟩
 ·rw [if_neg c3] at H
  have c3b0 : ((l0.length : Int) == (l1.length : Int)) = false := beq_eq_false_iff_ne.mpr c3
  have c3b1 : ((l0.length : Int) != (l1.length : Int)) = true := bne_iff_ne.mpr c3
  have c3b2 : (l0.length == l1.length) = false := by first | simpa using c3 | (simp at c3 ⊢; omega)
  obtain rfl := Option.some.inj H
  go_enter Try.func65, Try.ntmps65
  go_wp2
  repeat (go_quiet (fail); try go_wp2)
  go_ret
  exact ⟨by first | rfl | (simp; done) | (simp [*]; done), by repeat (first | exact Drawn0.refl _ | apply Drawn0.step)⟩

/-! ### quorumref0_EqChain: function 25 -/
def quorumref0_EqChain.f (k : Nat) (a0_0 : ByteArray) (l0_1 : List (S39)) (a1_0 : ByteArray) (l1_1 : List (S39)) : Option (Bool) := if a0_0.toList = a1_0.toList then ((quorumref0_EqVersions.f k l0_1 l1_1).bind fun t204 => (some t204)) else (some false)
theorem quorumref0_EqChain.mono : ∀ a0 a1 a2 a3 k, LeO (quorumref0_EqChain.f k a0 a1 a2 a3) (quorumref0_EqChain.f (k + 1) a0 a1 a2 a3) := by
 intro a0 a1 a2 a3 k
 unfold quorumref0_EqChain.f
 repeat' first
   | (with_reducible exact quorumref0_EqVersions.mono _ _ _)
   | (with_reducible exact LeO.refl _)
   | (with_reducible exact LeO.none _)
   | (with_reducible refine LeO.ite ?_ ?_)
   | (with_reducible refine LeO.bind ?_ (fun _ => ?_))
   | exact quorumref0_EqVersions.mono _ _ _
   | exact LeO.none _
   | refine LeO.ite ?_ ?_
   | refine LeO.bind ?_ (fun _ => ?_)
set_option maxHeartbeats 8000000 in
set_option maxRecDepth 100000 in
theorem quorumref0_EqChain.calls (k : Nat) (a0_0 : ByteArray) (A0_1 : Option Addr) (c0_1 : Nat) (l0_1 : List (S39)) (a1_0 : ByteArray) (A1_1 : Option Addr) (c1_1 : Nat) (l1_1 : List (S39)) (r : Bool) (w : World) (hr0_1 : Kd.C k39 w A0_1 l0_1.length l0_1) (hc0_1 : l0_1.length ≤ c0_1) (hr1_1 : Kd.C k39 w A1_1 l1_1.length l1_1) (hc1_1 : l1_1.length ≤ c1_1) (h : quorumref0_EqChain.f k a0_0 l0_1 a1_0 l1_1 = some r) :
  Calls Try.prog 25 #[.agg #[.string a0_0, .slice A0_1 l0_1.length c0_1], .agg #[.string a1_0, .slice A1_1 l1_1.length c1_1]] w fun e w' => e = .returned (.bool r) ∧ Below w.heap.size w w' := by
 have hu30 := Try.underlying30
 have HR0_1 := mk0 hr0_1
 have HC0_1 := mk0 hc0_1
 clear hr0_1 hc0_1
 have HR1_1 := mk0 hr1_1
 have HC1_1 := mk0 hc1_1
 clear hr1_1 hc1_1
 have HB := mk0 (Below.refl w.heap.size w)
 have H : (if a0_0.toList = a1_0.toList then ((quorumref0_EqVersions.f k l0_1 l1_1).bind fun t204 => (some t204)) else (some false)) = some r := h
 clear h
 by_cases c3 : a0_0.toList = a1_0.toList
 ·rw [if_pos c3] at H
  have c3b0 : (a0_0.toList == a1_0.toList) = true := beq_iff_eq.mpr c3
  have c3b1 : (a0_0.toList != a1_0.toList) = false := bne_eq_false_iff_eq.mpr c3
  clear c3
  replace H := Option.bind_eq_some_iff.mp H
  obtain ⟨t204, A40, H⟩ := H
  try dsimp only at H
  have A4 := mk0 A40
  clear A40
  obtain rfl := Option.some.inj H
  go_enter Try.func25, Try.ntmps25
  go_wp2_with (first | ((with_reducible refine gate_dst (N := 2) rfl ?_); refine bx_ (N := 2) (cs := #[.string a0_0, .slice A0_1 l0_1.length c0_1]) (t := 30) (h := ?_); intro gb202 hg w5 hbox hb; have n2_ := mk0 (gz_ HB hg); have n3_ := mk0 (gz_ HB hg); replace HB := mk0 (bt_ (b_ HB) hb); have BK202 := mk0 (hbox); have GW202 := n2_; have GE202 := n3_; clear n2_ n3_; clear hb hbox hg) | ((with_reducible refine gate_dst (N := 3) rfl ?_); refine bx_ (N := 3) (cs := #[.string a1_0, .slice A1_1 l1_1.length c1_1]) (t := 30) (h := ?_); intro gb203 hg w6 hbox hb; have n3_ := mk0 (gz_ HB hg); have n4_ := mk0 (gz_ HB hg); have n5_ := mk0 (ne1_ BK202 hg); have n6_ := mk0 (ne2_ BK202 hg); replace BK202 := mk0 (u_ BK202 hb); replace HB := mk0 (bt_ (b_ HB) hb); have BK203 := mk0 (hbox); have GW203 := n3_; have GE203 := n4_; have NB202_203 := n5_; have NB203_202 := n6_; clear n3_ n4_ n5_ n6_ hb hbox hg; have hnb7 := NB202_203.out; have hnc7 := NB203_202.out; obtain ⟨hcz8_0, hcz8_1, hfz8_0, hfz8_1⟩ := c2_ BK202; obtain ⟨hcz9_0, hcz9_1, hfz9_0, hfz9_1⟩ := c2_ BK203) | (go_at_call 65; (with_reducible refine (quorumref0_EqVersions.calls k _ _ l0_1 _ _ l1_1 t204 _ ?side1 ?side2 ?side3 ?side4 A4.out).mono ?_); (case side1 => exact cb_ HR0_1 HB); (case side2 => exact HC0_1.out); (case side3 => exact cb_ HR1_1 HB); (case side4 => exact HC1_1.out); rintro e w' ⟨rfl, ⟨nd, rfl⟩⟩))
  go_ret
  exact ⟨by first | rfl | (simp [errW_none, errW_some] <;> rfl) | (simp [*, errW_none, errW_some] <;> rfl), b_ HB⟩
 ·rw [if_neg c3] at H
  have c3b0 : (a0_0.toList == a1_0.toList) = false := beq_eq_false_iff_ne.mpr c3
  have c3b1 : (a0_0.toList != a1_0.toList) = true := bne_iff_ne.mpr c3
  obtain rfl := Option.some.inj H
  go_enter Try.func25, Try.ntmps25
  go_wp2_with (first | ((with_reducible refine gate_dst (N := 2) rfl ?_); refine bx_ (N := 2) (cs := #[.string a0_0, .slice A0_1 l0_1.length c0_1]) (t := 30) (h := ?_); intro gb202 hg w10 hbox hb; have n2_ := mk0 (gz_ HB hg); have n3_ := mk0 (gz_ HB hg); replace HB := mk0 (bt_ (b_ HB) hb); have BK202 := mk0 (hbox); have GW202 := n2_; have GE202 := n3_; clear n2_ n3_; clear hb hbox hg) | ((with_reducible refine gate_dst (N := 3) rfl ?_); refine bx_ (N := 3) (cs := #[.string a1_0, .slice A1_1 l1_1.length c1_1]) (t := 30) (h := ?_); intro gb203 hg w11 hbox hb; have n3_ := mk0 (gz_ HB hg); have n4_ := mk0 (gz_ HB hg); have n5_ := mk0 (ne1_ BK202 hg); have n6_ := mk0 (ne2_ BK202 hg); replace BK202 := mk0 (u_ BK202 hb); replace HB := mk0 (bt_ (b_ HB) hb); have BK203 := mk0 (hbox); have GW203 := n3_; have GE203 := n4_; have NB202_203 := n5_; have NB203_202 := n6_; clear n3_ n4_ n5_ n6_ hb hbox hg; have hnb12 := NB202_203.out; have hnc12 := NB203_202.out; obtain ⟨hcz13_0, hcz13_1, hfz13_0, hfz13_1⟩ := c2_ BK202; obtain ⟨hcz14_0, hcz14_1, hfz14_0, hfz14_1⟩ := c2_ BK203))
  go_ret
  exact ⟨by first | rfl | (simp [errW_none, errW_some] <;> rfl) | (simp [*, errW_none, errW_some] <;> rfl), b_ HB⟩

-- NOT PRINTED: function 159 (api_Version_159)

-- NOT PRINTED: function 186 (api_Version_186)

-- NOT PRINTED: function 160 (api_Version_160)

end Go.Proofs.Ytoodkefpkgbjcaa.PCht
