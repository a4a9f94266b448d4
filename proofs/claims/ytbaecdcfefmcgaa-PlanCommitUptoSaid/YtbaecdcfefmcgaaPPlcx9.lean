-- PRINTED by print.py (a twelfth state) out of the translation. Not trusted: Lean checks it.
import Derived.Test.YtbaecdcfefmcgaaPPlcx0
import Derived.Test.YtbaecdcfefmcgaaPPlcx6
import Derived.Test.YtbaecdcfefmcgaaPPlcx7
import Derived.Test.YtbaecdcfefmcgaaPPlcx8
namespace Go.Proofs.Ytbaecdcfefmcgaa.PPlc
open Go.RowKit Go.Proofs.YtbaecdcfefmcgaaW.PrintWords Go.Proofs.YtbaecdcfefmcgaaW.PrintLast Go.Proofs.YtbaecdcfefmcgaaW.PrintMore
attribute [local go_sem] max2_int min2_int max_two min_two max_three min_three max_four min_four   -- for this text's walks alone
set_option linter.unusedVariables false
set_option linter.unusedSimpArgs false

/-! ### plan_Needs: function 152 -/
def plan_Needs.j0 : Nat → Int → Int → ByteArray → ByteArray → Bool → Int → Option ((List (S191)))
 | 0, _, _, _, _, _, _ => none
 | k + 1, x192000, x192001, x192002, x192003, x192004, x192005 => none
def plan_Needs.f (k : Nat) (a0_0 : Int) (a0_1 : Int) (a0_2 : ByteArray) (a0_3 : ByteArray) (a0_4 : ByteArray) (a0_5 : ByteArray) (a0_6 : Bool) (a0_7 : Int) (a0_8 : Bool) (l1_0 : List (S36)) (l1_1 : List Int) (a2 : Int) : Option ((List (S191))) := if a0_0 = 11 then (if a0_0 = 1 then ((key_Alone.f a0_2).bind fun bt192 => (plan_Needs.j0 k a2 a0_1 bt192.1 bt192.2.1 bt192.2.2 1)) else ((plan_keyed.f a0_0 a0_1 a0_2 a0_3 a0_4 a0_5 a0_6 a0_7 a0_8).bind fun t195 => (if t195 = true then ((key_Alone.f a0_2).bind fun bt196 => (plan_Needs.j0 k a2 a0_1 bt196.1 bt196.2.1 bt196.2.2 2)) else (if a0_0 = 6 then (plan_Needs.j0 k a2 a0_1 a0_4 a0_5 a0_6 1) else (if a0_0 = 7 then ((key_All.f).bind fun bt199 => (plan_Needs.j0 k a2 a0_1 bt199.1 bt199.2.1 bt199.2.2 a0_7)) else (if a0_0 = 11 then ((plan_certify.f k l1_0 l1_1 a2).bind fun t202 => (some t202)) else (plan_Needs.j0 k a2 a0_1 (⟨#[]⟩ : ByteArray) (⟨#[]⟩ : ByteArray) false 2))))))) else (none)
theorem plan_Needs.mono_l : ∀ k, (∀ y0 y1 y2 y3 y4 y5, LeO (plan_Needs.j0 k y0 y1 y2 y3 y4 y5) (plan_Needs.j0 (k + 1) y0 y1 y2 y3 y4 y5))
 | 0 => fun _ _ _ _ _ _ r h => by simp [plan_Needs.j0] at h
 | k + 1 => by
  have ih0 := plan_Needs.mono_l k
  ·intro y0 y1 y2 y3 y4 y5
   unfold plan_Needs.j0
   repeat' first
   | (with_reducible exact ih0 _ _ _ _ _ _)
   | (with_reducible exact plan_certify.mono _ _ _ _)
   | (with_reducible exact LeO.refl _)
   | (with_reducible exact LeO.none _)
   | (with_reducible refine LeO.ite ?_ ?_)
   | (with_reducible refine LeO.bind ?_ (fun _ => ?_))
   | exact ih0 _ _ _ _ _ _
   | exact plan_certify.mono _ _ _ _
   | exact LeO.none _
   | refine LeO.ite ?_ ?_
   | refine LeO.bind ?_ (fun _ => ?_)
theorem plan_Needs.mono : ∀ a0 a1 a2 a3 a4 a5 a6 a7 a8 a9 a10 a11 k, LeO (plan_Needs.f k a0 a1 a2 a3 a4 a5 a6 a7 a8 a9 a10 a11) (plan_Needs.f (k + 1) a0 a1 a2 a3 a4 a5 a6 a7 a8 a9 a10 a11) := by
 intro a0 a1 a2 a3 a4 a5 a6 a7 a8 a9 a10 a11 k
 have ih0 := plan_Needs.mono_l k
 unfold plan_Needs.f
 repeat' first
   | (with_reducible exact ih0 _ _ _ _ _ _)
   | (with_reducible exact plan_certify.mono _ _ _ _)
   | (with_reducible exact LeO.refl _)
   | (with_reducible exact LeO.none _)
   | (with_reducible refine LeO.ite ?_ ?_)
   | (with_reducible refine LeO.bind ?_ (fun _ => ?_))
   | exact ih0 _ _ _ _ _ _
   | exact plan_certify.mono _ _ _ _
   | exact LeO.none _
   | refine LeO.ite ?_ ?_
   | refine LeO.bind ?_ (fun _ => ?_)
set_option maxHeartbeats 8000000 in
set_option maxRecDepth 100000 in
theorem plan_Needs.calls (k : Nat) (a0_0 : Int) (a0_1 : Int) (a0_2 : ByteArray) (a0_3 : ByteArray) (a0_4 : ByteArray) (a0_5 : ByteArray) (a0_6 : Bool) (a0_7 : Int) (a0_8 : Bool) (A1_0 : Option Addr) (c1_0 : Nat) (l1_0 : List (S36)) (A1_1 : Option Addr) (c1_1 : Nat) (l1_1 : List Int) (a2 : Int) (r : List (S191)) (w : World) (hr1_0 : Kd.C k36 w A1_0 l1_0.length l1_0) (hc1_0 : l1_0.length ≤ c1_0) (hr1_1 : Kd.C (Kd.int .i64) w A1_1 l1_1.length l1_1) (hc1_1 : l1_1.length ≤ c1_1) (h : plan_Needs.f k a0_0 a0_1 a0_2 a0_3 a0_4 a0_5 a0_6 a0_7 a0_8 l1_0 l1_1 a2 = some r) :
  Calls Try.prog 152 #[.agg #[.int .i64 a0_0, .int .i64 a0_1, .string a0_2, .string a0_3, .string a0_4, .string a0_5, .bool a0_6, .int .i64 a0_7, .bool a0_8], .agg #[.slice A1_0 l1_0.length c1_0, .slice A1_1 l1_1.length c1_1], .int .i64 a2] w fun e w' => ∃ v0_ : Value, e = .returned (v0_) ∧ Kd.R k191 191 w' w.heap.size (fun _ => True) v0_ r ∧ Below w.heap.size w w' := by
 have hu101 := Try.underlying101
 have hu34 := Try.underlying34
 have hu191 := Try.underlying191
 have hu74 := Try.underlying74
 have HR1_0 := mk0 hr1_0
 have HC1_0 := mk0 hc1_0
 clear hr1_0 hc1_0
 have HR1_1 := mk0 hr1_1
 have HC1_1 := mk0 hc1_1
 clear hr1_1 hc1_1
 have HB := mk0 (Below.refl w.heap.size w)
 by_cases h11 : a0_0 = 11
 rotate_left
 ·unfold plan_Needs.f at h; rw [if_neg h11] at h; exact absurd h (by simp)
 have K11 := mk0 h11
 have H : (if a0_0 = 1 then ((key_Alone.f a0_2).bind fun bt192 => (plan_Needs.j0 k a2 a0_1 bt192.1 bt192.2.1 bt192.2.2 1)) else ((plan_keyed.f a0_0 a0_1 a0_2 a0_3 a0_4 a0_5 a0_6 a0_7 a0_8).bind fun t195 => (if t195 = true then ((key_Alone.f a0_2).bind fun bt196 => (plan_Needs.j0 k a2 a0_1 bt196.1 bt196.2.1 bt196.2.2 2)) else (if a0_0 = 6 then (plan_Needs.j0 k a2 a0_1 a0_4 a0_5 a0_6 1) else (if a0_0 = 7 then ((key_All.f).bind fun bt199 => (plan_Needs.j0 k a2 a0_1 bt199.1 bt199.2.1 bt199.2.2 a0_7)) else (if a0_0 = 11 then ((plan_certify.f k l1_0 l1_1 a2).bind fun t202 => (some t202)) else (plan_Needs.j0 k a2 a0_1 (⟨#[]⟩ : ByteArray) (⟨#[]⟩ : ByteArray) false 2))))))) = some r := by unfold plan_Needs.f at h; rw [if_pos h11] at h; exact h
 clear h11
 clear h
 have HC4 := mk0 H
 clear H
 go_enter Try.func152, Try.ntmps152
 go_upto_block 0 with (first | ((with_reducible refine gate_dst (N := 3) rfl ?_); refine bx_ (N := 3) (cs := #[.int .i64 a0_0, .int .i64 a0_1, .string a0_2, .string a0_3, .string a0_4, .string a0_5, .bool a0_6, .int .i64 a0_7, .bool a0_8]) (t := 101) (h := ?_); intro gb189 hg w5 hbox hb; have n2_ := mk0 (gz_ HB hg); have n3_ := mk0 (gz_ HB hg); replace HB := mk0 (bt_ (b_ HB) hb); have BK189 := mk0 (hbox); have GW189 := n2_; have GE189 := n3_; clear n2_ n3_; clear hb hbox hg) | ((with_reducible refine gate_dst (N := 4) rfl ?_); refine bx_ (N := 4) (cs := #[.slice A1_0 l1_0.length c1_0, .slice A1_1 l1_1.length c1_1]) (t := 34) (h := ?_); intro gb190 hg w6 hbox hb; have n3_ := mk0 (gz_ HB hg); have n4_ := mk0 (gz_ HB hg); have n5_ := mk0 (ne1_ BK189 hg); have n6_ := mk0 (ne2_ BK189 hg); replace BK189 := mk0 (u_ BK189 hb); replace HB := mk0 (bt_ (b_ HB) hb); have BK190 := mk0 (hbox); have GW190 := n3_; have GE190 := n4_; have NB189_190 := n5_; have NB190_189 := n6_; clear n3_ n4_ n5_ n6_ hb hbox hg; have hnb7 := NB189_190.out; have hnc7 := NB190_189.out; obtain ⟨hcz8_0, hcz8_1, hcz8_2, hcz8_3, hcz8_4, hcz8_5, hcz8_6, hcz8_7, hcz8_8, hfz8_0, hfz8_1, hfz8_2, hfz8_3, hfz8_4, hfz8_5, hfz8_6, hfz8_7, hfz8_8⟩ := c9_ BK189) | ((with_reducible refine gate_dst (N := 7) rfl ?_); refine bx_ (N := 7) (cs := #[.int .i64 0, .int .i64 0, .string (⟨#[]⟩ : ByteArray), .string (⟨#[]⟩ : ByteArray), .bool false, .int .i64 0]) (t := 191) (h := ?_); intro gb191 hg w9 hbox hb; have n4_ := mk0 (gz_ HB hg); have n5_ := mk0 (gz_ HB hg); have n6_ := mk0 (ne1_ BK189 hg); have n7_ := mk0 (ne2_ BK189 hg); have n8_ := mk0 (ne1_ BK190 hg); have n9_ := mk0 (ne2_ BK190 hg); replace BK189 := mk0 (u_ BK189 hb); replace BK190 := mk0 (u_ BK190 hb); replace HB := mk0 (bt_ (b_ HB) hb); have BK191 := mk0 (hbox); have GW191 := n4_; have GE191 := n5_; have NB189_191 := n6_; have NB191_189 := n7_; have NB190_191 := n8_; have NB191_190 := n9_; clear n4_ n5_ n6_ n7_ n8_ n9_ hb hbox hg; have hnb10 := NB191_189.out; have hnc10 := NB189_191.out; have hnb11 := NB191_190.out; have hnc11 := NB190_191.out; obtain ⟨hcz12_0, hcz12_1, hcz12_2, hcz12_3, hcz12_4, hcz12_5, hfz12_0, hfz12_1, hfz12_2, hfz12_3, hfz12_4, hfz12_5⟩ := c6_ BK191))
 (try simp only [Act.put, List.setIfInBounds_toArray, List.set_cons_zero, List.set_cons_succ])
 go_cut [] (fun wc => ∃ (kq : Nat) (x192002_3 : ByteArray) (x192003_3 : ByteArray) (x192004_3 : Bool) (x192005_3 : Int), Fc (plan_Needs.j0 kq a2 a0_1 x192002_3 x192003_3 x192004_3 x192005_3 = some r) ∧ Fc (kq ≤ k) ∧ Fc (wc.heap[gb189]? = some (.cells #[.int .i64 a0_0, .int .i64 a0_1, .string a0_2, .string a0_3, .string a0_4, .string a0_5, .bool a0_6, .int .i64 a0_7, .bool a0_8] 101 (0, 0))) ∧ Fc (wc.heap[gb190]? = some (.cells #[(.slice A1_0 l1_0.length c1_0), (.slice A1_1 l1_1.length c1_1)] 34 (0, 0))) ∧ Fc (wc.heap[gb191]? = some (.cells #[.int .i64 a2, .int .i64 a0_1, .string x192002_3, .string x192003_3, .bool x192004_3, .int .i64 x192005_3] 191 (0, 0))) ∧ Fc (Below w.heap.size w wc))
 case first =>
  have H := HC4.out
  clear HC4
  by_cases c13 : a0_0 = 1
  ·exact absurd c13 (by have := K11.out; omega)
  ·rw [if_neg c13] at H
   have c13b0 : (a0_0 == 1) = false := beq_eq_false_iff_ne.mpr c13
   have c13b1 : (a0_0 != 1) = true := bne_iff_ne.mpr c13
   (first | rw [c13b0] | (simp only [i64_w, i32_w]; rw [c13b0]) | skip)
   replace H := Option.bind_eq_some_iff.mp H
   obtain ⟨t195, A210, H⟩ := H
   try dsimp only at H
   have A21 := mk0 A210
   clear A210
   by_cases c22 : t195 = true
   ·subst c22
    exact absurd A21.out (by rw [K11.out]; unfold plan_keyed.f; simp)
   ·replace c22 := Bool.eq_false_iff.mpr c22
    subst c22
    rw [if_neg (show ¬ (false = true) by decide)] at H
    by_cases c32 : a0_0 = 6
    ·exact absurd c32 (by have := K11.out; omega)
    ·rw [if_neg c32] at H
     have c32b0 : (a0_0 == 6) = false := beq_eq_false_iff_ne.mpr c32
     have c32b1 : (a0_0 != 6) = true := bne_iff_ne.mpr c32
     by_cases c43 : a0_0 = 7
     ·exact absurd c43 (by have := K11.out; omega)
     ·rw [if_neg c43] at H
      have c43b0 : (a0_0 == 7) = false := beq_eq_false_iff_ne.mpr c43
      have c43b1 : (a0_0 != 7) = true := bne_iff_ne.mpr c43
      by_cases c56 : a0_0 = 11
      ·rw [if_pos c56] at H
       have c56b0 : (a0_0 == 11) = true := beq_iff_eq.mpr c56
       have c56b1 : (a0_0 != 11) = false := bne_eq_false_iff_eq.mpr c56
       clear c56
       replace H := Option.bind_eq_some_iff.mp H
       obtain ⟨t202, A570, H⟩ := H
       try dsimp only at H
       have A57 := mk0 A570
       clear A570
       obtain rfl := Option.some.inj H
       have hnb58 := NB189_190.out
       have hnc58 := NB190_189.out
       have hnb59 := NB189_191.out
       have hnc59 := NB191_189.out
       obtain ⟨hcz60_0, hcz60_1, hcz60_2, hcz60_3, hcz60_4, hcz60_5, hcz60_6, hcz60_7, hcz60_8, hfz60_0, hfz60_1, hfz60_2, hfz60_3, hfz60_4, hfz60_5, hfz60_6, hfz60_7, hfz60_8⟩ := c9_ BK189
       go_wp2_with (first | ((with_reducible refine gate_callee (f := 184) rfl ?_); refine gL_ (some 23) Try.func184 #[.agg #[.int .i64 a0_0, .int .i64 a0_1, .string a0_2, .string a0_3, .string a0_4, .string a0_5, .bool a0_6, .int .i64 a0_7, .bool a0_8]] (h := ?_); (with_reducible refine (plan_keyed.calls a0_0 a0_1 a0_2 a0_3 a0_4 a0_5 a0_6 a0_7 a0_8 false _ A21.out).mono ?_); rintro e w61 ⟨rfl, hb⟩; refine ⟨_, rfl, ?_⟩; replace BK189 := mk0 (blk_below (g := gb189) (o := .cells #[.int .i64 a0_0, .int .i64 a0_1, .string a0_2, .string a0_3, .string a0_4, .string a0_5, .bool a0_6, .int .i64 a0_7, .bool a0_8] 101 (0, 0)) (fa_ (fa_ (fa_ (fa_ (fa_ (fa_ (h_ BK189) NB189_191.out) NB189_191.out) NB189_191.out) NB189_191.out) NB189_191.out) NB189_191.out) hb); replace BK190 := mk0 (blk_below (g := gb190) (o := .cells #[.slice A1_0 l1_0.length c1_0, .slice A1_1 l1_1.length c1_1] 34 (0, 0)) (fa_ (fa_ (fa_ (fa_ (fa_ (fa_ (h_ BK190) NB190_191.out) NB190_191.out) NB190_191.out) NB190_191.out) NB190_191.out) NB190_191.out) hb); replace BK191 := mk0 (blk_below (g := gb191) (o := .cells #[.int .i64 a2, .int .i64 a0_1, .string (⟨#[]⟩ : ByteArray), .string (⟨#[]⟩ : ByteArray), .bool false, .int .i64 2] 191 (0, 0)) (pu_ (cs := #[.int .i64 a2, .int .i64 a0_1, .string (⟨#[]⟩ : ByteArray), .string (⟨#[]⟩ : ByteArray), .bool false, .int .i64 0]) (pu_ (cs := #[.int .i64 a2, .int .i64 a0_1, .string (⟨#[]⟩ : ByteArray), .string (⟨#[]⟩ : ByteArray), .bool false, .int .i64 0]) (pu_ (cs := #[.int .i64 a2, .int .i64 a0_1, .string (⟨#[]⟩ : ByteArray), .string (⟨#[]⟩ : ByteArray), .bool false, .int .i64 0]) (pu_ (cs := #[.int .i64 a2, .int .i64 a0_1, .string (⟨#[]⟩ : ByteArray), .string (⟨#[]⟩ : ByteArray), .bool false, .int .i64 0]) (pu_ (cs := #[.int .i64 a2, .int .i64 0, .string (⟨#[]⟩ : ByteArray), .string (⟨#[]⟩ : ByteArray), .bool false, .int .i64 0]) (pu_ (cs := #[.int .i64 0, .int .i64 0, .string (⟨#[]⟩ : ByteArray), .string (⟨#[]⟩ : ByteArray), .bool false, .int .i64 0]) (h_ BK191))))))) hb); replace HB := mk0 (bt_ (b_ HB) hb); (try clear hb); obtain ⟨hcz62_0, hcz62_1, hcz62_2, hcz62_3, hcz62_4, hcz62_5, hcz62_6, hcz62_7, hcz62_8, hfz62_0, hfz62_1, hfz62_2, hfz62_3, hfz62_4, hfz62_5, hfz62_6, hfz62_7, hfz62_8⟩ := c9_ BK189; have hnb63 := NB190_191.out; have hnc63 := NB191_190.out; obtain ⟨hcz64_0, hcz64_1, hfz64_0, hfz64_1⟩ := c2_ BK190) | ((with_reducible refine gate_callee (f := 189) rfl ?_); refine gL_ (some 51) Try.func189 #[.agg #[.slice A1_0 l1_0.length c1_0, .slice A1_1 l1_1.length c1_1], .int .i64 a2] (h := ?_); (with_reducible refine (plan_certify.calls k _ _ l1_0 _ _ l1_1 a2 t202 _ ?side1 ?side2 ?side3 ?side4 A57.out).mono ?_); (case side1 => exact cb_ HR1_0 HB); (case side2 => exact HC1_0.out); (case side3 => exact cb_ HR1_1 HB); (case side4 => exact HC1_1.out); rintro e w65 ⟨v203, rfl, ho0, hb⟩; refine ⟨_, rfl, ?_⟩; have n0_ := mk0 (Kd.R_lower (Kd.R_newB ho0 (g := gb191) (o := .cells #[.int .i64 a2, .int .i64 a0_1, .string (⟨#[]⟩ : ByteArray), .string (⟨#[]⟩ : ByteArray), .bool false, .int .i64 2] 191 (0, 0)) (h_ BK191)) (bz_ (b_ HB))); replace BK189 := mk0 (u_ BK189 hb); replace BK190 := mk0 (u_ BK190 hb); replace BK191 := mk0 (blk_below (g := gb191) (o := .cells #[.int .i64 a2, .int .i64 a0_1, .string (⟨#[]⟩ : ByteArray), .string (⟨#[]⟩ : ByteArray), .bool false, .int .i64 2] 191 (0, 0)) (h_ BK191) hb); replace HB := mk0 (bt_ (b_ HB) hb); have HO204 := n0_; clear n0_; (try clear hb); (try clear ho0)))
       go_ret
       exact ⟨_, by first | rfl | (simp [errW_none, errW_some] <;> rfl) | (simp [*, errW_none, errW_some] <;> rfl), by (with_reducible repeat (first | apply Ra_ | apply Rn_ | apply Rd_)); exact Kd.R_mono HO204.out (fun _ hk => trivial), b_ HB⟩
      ·exact absurd K11.out c56
 case rest =>
  clear HC4
  try clear c13
  try clear c13b0
  try clear c13b1
  try clear c22
  try clear c32
  try clear c32b0
  try clear c32b1
  try clear c43
  try clear c43b0
  try clear c43b1
  try clear c56
  try clear c56b0
  try clear c56b1
  try clear hcz12_0
  try clear hcz12_1
  try clear hcz12_2
  try clear hcz12_3
  try clear hcz12_4
  try clear hcz12_5
  try clear hcz17_0
  try clear hcz17_1
  try clear hcz17_2
  try clear hcz17_3
  try clear hcz17_4
  try clear hcz17_5
  try clear hcz17_6
  try clear hcz17_7
  try clear hcz17_8
  try clear hcz20_0
  try clear hcz20_1
  try clear hcz20_2
  try clear hcz20_3
  try clear hcz20_4
  try clear hcz20_5
  try clear hcz26_0
  try clear hcz26_1
  try clear hcz26_2
  try clear hcz26_3
  try clear hcz26_4
  try clear hcz26_5
  try clear hcz26_6
  try clear hcz26_7
  try clear hcz26_8
  try clear hcz28_0
  try clear hcz28_1
  try clear hcz28_2
  try clear hcz28_3
  try clear hcz28_4
  try clear hcz28_5
  try clear hcz28_6
  try clear hcz28_7
  try clear hcz28_8
  try clear hcz31_0
  try clear hcz31_1
  try clear hcz31_2
  try clear hcz31_3
  try clear hcz31_4
  try clear hcz31_5
  try clear hcz35_0
  try clear hcz35_1
  try clear hcz35_2
  try clear hcz35_3
  try clear hcz35_4
  try clear hcz35_5
  try clear hcz35_6
  try clear hcz35_7
  try clear hcz35_8
  try clear hcz37_0
  try clear hcz37_1
  try clear hcz37_2
  try clear hcz37_3
  try clear hcz37_4
  try clear hcz37_5
  try clear hcz37_6
  try clear hcz37_7
  try clear hcz37_8
  try clear hcz47_0
  try clear hcz47_1
  try clear hcz47_2
  try clear hcz47_3
  try clear hcz47_4
  try clear hcz47_5
  try clear hcz47_6
  try clear hcz47_7
  try clear hcz47_8
  try clear hcz49_0
  try clear hcz49_1
  try clear hcz49_2
  try clear hcz49_3
  try clear hcz49_4
  try clear hcz49_5
  try clear hcz49_6
  try clear hcz49_7
  try clear hcz49_8
  try clear hcz60_0
  try clear hcz60_1
  try clear hcz60_2
  try clear hcz60_3
  try clear hcz60_4
  try clear hcz60_5
  try clear hcz60_6
  try clear hcz60_7
  try clear hcz60_8
  try clear hcz62_0
  try clear hcz62_1
  try clear hcz62_2
  try clear hcz62_3
  try clear hcz62_4
  try clear hcz62_5
  try clear hcz62_6
  try clear hcz62_7
  try clear hcz62_8
  try clear hcz64_0
  try clear hcz64_1
  try clear hcz68_0
  try clear hcz68_1
  try clear hcz68_2
  try clear hcz68_3
  try clear hcz68_4
  try clear hcz68_5
  try clear hcz68_6
  try clear hcz68_7
  try clear hcz68_8
  try clear hcz70_0
  try clear hcz70_1
  try clear hcz70_2
  try clear hcz70_3
  try clear hcz70_4
  try clear hcz70_5
  try clear hcz70_6
  try clear hcz70_7
  try clear hcz70_8
  try clear hcz8_0
  try clear hcz8_1
  try clear hcz8_2
  try clear hcz8_3
  try clear hcz8_4
  try clear hcz8_5
  try clear hcz8_6
  try clear hcz8_7
  try clear hcz8_8
  try clear hfz12_0
  try clear hfz12_1
  try clear hfz12_2
  try clear hfz12_3
  try clear hfz12_4
  try clear hfz12_5
  try clear hfz17_0
  try clear hfz17_1
  try clear hfz17_2
  try clear hfz17_3
  try clear hfz17_4
  try clear hfz17_5
  try clear hfz17_6
  try clear hfz17_7
  try clear hfz17_8
  try clear hfz20_0
  try clear hfz20_1
  try clear hfz20_2
  try clear hfz20_3
  try clear hfz20_4
  try clear hfz20_5
  try clear hfz26_0
  try clear hfz26_1
  try clear hfz26_2
  try clear hfz26_3
  try clear hfz26_4
  try clear hfz26_5
  try clear hfz26_6
  try clear hfz26_7
  try clear hfz26_8
  try clear hfz28_0
  try clear hfz28_1
  try clear hfz28_2
  try clear hfz28_3
  try clear hfz28_4
  try clear hfz28_5
  try clear hfz28_6
  try clear hfz28_7
  try clear hfz28_8
  try clear hfz31_0
  try clear hfz31_1
  try clear hfz31_2
  try clear hfz31_3
  try clear hfz31_4
  try clear hfz31_5
  try clear hfz35_0
  try clear hfz35_1
  try clear hfz35_2
  try clear hfz35_3
  try clear hfz35_4
  try clear hfz35_5
  try clear hfz35_6
  try clear hfz35_7
  try clear hfz35_8
  try clear hfz37_0
  try clear hfz37_1
  try clear hfz37_2
  try clear hfz37_3
  try clear hfz37_4
  try clear hfz37_5
  try clear hfz37_6
  try clear hfz37_7
  try clear hfz37_8
  try clear hfz47_0
  try clear hfz47_1
  try clear hfz47_2
  try clear hfz47_3
  try clear hfz47_4
  try clear hfz47_5
  try clear hfz47_6
  try clear hfz47_7
  try clear hfz47_8
  try clear hfz49_0
  try clear hfz49_1
  try clear hfz49_2
  try clear hfz49_3
  try clear hfz49_4
  try clear hfz49_5
  try clear hfz49_6
  try clear hfz49_7
  try clear hfz49_8
  try clear hfz60_0
  try clear hfz60_1
  try clear hfz60_2
  try clear hfz60_3
  try clear hfz60_4
  try clear hfz60_5
  try clear hfz60_6
  try clear hfz60_7
  try clear hfz60_8
  try clear hfz62_0
  try clear hfz62_1
  try clear hfz62_2
  try clear hfz62_3
  try clear hfz62_4
  try clear hfz62_5
  try clear hfz62_6
  try clear hfz62_7
  try clear hfz62_8
  try clear hfz64_0
  try clear hfz64_1
  try clear hfz68_0
  try clear hfz68_1
  try clear hfz68_2
  try clear hfz68_3
  try clear hfz68_4
  try clear hfz68_5
  try clear hfz68_6
  try clear hfz68_7
  try clear hfz68_8
  try clear hfz70_0
  try clear hfz70_1
  try clear hfz70_2
  try clear hfz70_3
  try clear hfz70_4
  try clear hfz70_5
  try clear hfz70_6
  try clear hfz70_7
  try clear hfz70_8
  try clear hfz8_0
  try clear hfz8_1
  try clear hfz8_2
  try clear hfz8_3
  try clear hfz8_4
  try clear hfz8_5
  try clear hfz8_6
  try clear hfz8_7
  try clear hfz8_8
  obtain ⟨kq, x192002_3, x192003_3, x192004_3, x192005_3, HA, HJ3, BK189, BK190, BK191, HB⟩ := hcut
  cases kq with
  | zero => exact absurd HA.out (by simp [plan_Needs.j0])
  | succ kj3 =>
   exact absurd HA.out (by simp [plan_Needs.j0])/-! ### plan_Locks: function 106 -/
def plan_Locks.j0 : Nat → Int → Bool → Int → Int → ByteArray → ByteArray → ByteArray → ByteArray → Bool → Int → Bool → List (S36) → List Int → Option ((List (S191)) × Int)
 | 0, _, _, _, _, _, _, _, _, _, _, _, _, _ => none
 | k + 1, x2, x21, x210000, x210001, x210002, x210003, x210004, x210005, x210006, x210007, x210008, x211000, x211001 => if x21 = true then (some (([] : List (S191)), 1)) else ((plan_Needs.f k x210000 x210001 x210002 x210003 x210004 x210005 x210006 x210007 x210008 x211000 x211001 x2).bind fun t214 => (some (t214, 0)))
def plan_Locks.f (k : Nat) (a0_0 : Int) (a0_1 : Int) (a0_2 : ByteArray) (a0_3 : ByteArray) (a0_4 : ByteArray) (a0_5 : ByteArray) (a0_6 : Bool) (a0_7 : Int) (a0_8 : Bool) (l1_0 : List (S36)) (l1_1 : List Int) (a2 : Int) : Option ((List (S191)) × Int) := (plan_Is.f a0_0 a0_1 a0_2 a0_3 a0_4 a0_5 a0_6 a0_7 a0_8 3).bind fun t211 => (if t211 = true then ((pend_May.f k l1_0 l1_1).bind fun t212 => (if t212 = true then ((lock_Is.f k a2 0 (⟨#[]⟩ : ByteArray) (⟨#[]⟩ : ByteArray) false 1).bind fun t213 => (plan_Locks.j0 k a2 (!t213) a0_0 a0_1 a0_2 a0_3 a0_4 a0_5 a0_6 a0_7 a0_8 l1_0 l1_1)) else (plan_Locks.j0 k a2 true a0_0 a0_1 a0_2 a0_3 a0_4 a0_5 a0_6 a0_7 a0_8 l1_0 l1_1))) else (plan_Locks.j0 k a2 true a0_0 a0_1 a0_2 a0_3 a0_4 a0_5 a0_6 a0_7 a0_8 l1_0 l1_1))
theorem plan_Locks.mono_l : ∀ k, (∀ y0 y1 y2 y3 y4 y5 y6 y7 y8 y9 y10 y11 y12, LeO (plan_Locks.j0 k y0 y1 y2 y3 y4 y5 y6 y7 y8 y9 y10 y11 y12) (plan_Locks.j0 (k + 1) y0 y1 y2 y3 y4 y5 y6 y7 y8 y9 y10 y11 y12))
 | 0 => fun _ _ _ _ _ _ _ _ _ _ _ _ _ r h => by simp [plan_Locks.j0] at h
 | k + 1 => by
  have ih0 := plan_Locks.mono_l k
  ·intro y0 y1 y2 y3 y4 y5 y6 y7 y8 y9 y10 y11 y12
   unfold plan_Locks.j0
   repeat' first
   | (with_reducible exact ih0 _ _ _ _ _ _ _ _ _ _ _ _ _)
   | (with_reducible exact lock_Is.mono _ _ _ _ _ _ _)
   | (with_reducible exact pend_May.mono _ _ _)
   | (with_reducible exact plan_Needs.mono _ _ _ _ _ _ _ _ _ _ _ _ _)
   | (with_reducible exact LeO.refl _)
   | (with_reducible exact LeO.none _)
   | (with_reducible refine LeO.ite ?_ ?_)
   | (with_reducible refine LeO.bind ?_ (fun _ => ?_))
   | exact ih0 _ _ _ _ _ _ _ _ _ _ _ _ _
   | exact lock_Is.mono _ _ _ _ _ _ _
   | exact pend_May.mono _ _ _
   | exact plan_Needs.mono _ _ _ _ _ _ _ _ _ _ _ _ _
   | exact LeO.none _
   | refine LeO.ite ?_ ?_
   | refine LeO.bind ?_ (fun _ => ?_)
theorem plan_Locks.mono : ∀ a0 a1 a2 a3 a4 a5 a6 a7 a8 a9 a10 a11 k, LeO (plan_Locks.f k a0 a1 a2 a3 a4 a5 a6 a7 a8 a9 a10 a11) (plan_Locks.f (k + 1) a0 a1 a2 a3 a4 a5 a6 a7 a8 a9 a10 a11) := by
 intro a0 a1 a2 a3 a4 a5 a6 a7 a8 a9 a10 a11 k
 have ih0 := plan_Locks.mono_l k
 unfold plan_Locks.f
 repeat' first
   | (with_reducible exact ih0 _ _ _ _ _ _ _ _ _ _ _ _ _)
   | (with_reducible exact lock_Is.mono _ _ _ _ _ _ _)
   | (with_reducible exact pend_May.mono _ _ _)
   | (with_reducible exact plan_Needs.mono _ _ _ _ _ _ _ _ _ _ _ _ _)
   | (with_reducible exact LeO.refl _)
   | (with_reducible exact LeO.none _)
   | (with_reducible refine LeO.ite ?_ ?_)
   | (with_reducible refine LeO.bind ?_ (fun _ => ?_))
   | exact ih0 _ _ _ _ _ _ _ _ _ _ _ _ _
   | exact lock_Is.mono _ _ _ _ _ _ _
   | exact pend_May.mono _ _ _
   | exact plan_Needs.mono _ _ _ _ _ _ _ _ _ _ _ _ _
   | exact LeO.none _
   | refine LeO.ite ?_ ?_
   | refine LeO.bind ?_ (fun _ => ?_)
set_option maxHeartbeats 8000000 in
set_option maxRecDepth 100000 in
theorem plan_Locks.calls (k : Nat) (a0_0 : Int) (a0_1 : Int) (a0_2 : ByteArray) (a0_3 : ByteArray) (a0_4 : ByteArray) (a0_5 : ByteArray) (a0_6 : Bool) (a0_7 : Int) (a0_8 : Bool) (A1_0 : Option Addr) (c1_0 : Nat) (l1_0 : List (S36)) (A1_1 : Option Addr) (c1_1 : Nat) (l1_1 : List Int) (a2 : Int) (r1 : List (S191)) (r2 : Int) (w : World) (hr1_0 : Kd.C k36 w A1_0 l1_0.length l1_0) (hc1_0 : l1_0.length ≤ c1_0) (hr1_1 : Kd.C (Kd.int .i64) w A1_1 l1_1.length l1_1) (hc1_1 : l1_1.length ≤ c1_1) (h : plan_Locks.f k a0_0 a0_1 a0_2 a0_3 a0_4 a0_5 a0_6 a0_7 a0_8 l1_0 l1_1 a2 = some (r1, r2)) :
  Calls Try.prog 106 #[.agg #[.int .i64 a0_0, .int .i64 a0_1, .string a0_2, .string a0_3, .string a0_4, .string a0_5, .bool a0_6, .int .i64 a0_7, .bool a0_8], .agg #[.slice A1_0 l1_0.length c1_0, .slice A1_1 l1_1.length c1_1], .int .i64 a2] w fun e w' => ∃ v0_ : Value, e = .returned (.tuple #[v0_, .int .i64 r2]) ∧ Kd.R k191 191 w' w.heap.size (fun _ => True) v0_ r1 ∧ Below w.heap.size w w' := by
 have hu101 := Try.underlying101
 have hu34 := Try.underlying34
 have hu191 := Try.underlying191
 have HR1_0 := mk0 hr1_0
 have HC1_0 := mk0 hc1_0
 clear hr1_0 hc1_0
 have HR1_1 := mk0 hr1_1
 have HC1_1 := mk0 hc1_1
 clear hr1_1 hc1_1
 have HB := mk0 (Below.refl w.heap.size w)
 have H : ((plan_Is.f a0_0 a0_1 a0_2 a0_3 a0_4 a0_5 a0_6 a0_7 a0_8 3).bind fun t211 => (if t211 = true then ((pend_May.f k l1_0 l1_1).bind fun t212 => (if t212 = true then ((lock_Is.f k a2 0 (⟨#[]⟩ : ByteArray) (⟨#[]⟩ : ByteArray) false 1).bind fun t213 => (plan_Locks.j0 k a2 (!t213) a0_0 a0_1 a0_2 a0_3 a0_4 a0_5 a0_6 a0_7 a0_8 l1_0 l1_1)) else (plan_Locks.j0 k a2 true a0_0 a0_1 a0_2 a0_3 a0_4 a0_5 a0_6 a0_7 a0_8 l1_0 l1_1))) else (plan_Locks.j0 k a2 true a0_0 a0_1 a0_2 a0_3 a0_4 a0_5 a0_6 a0_7 a0_8 l1_0 l1_1))) = some (r1, r2) := h
 clear h
 have HC4 := mk0 H
 clear H
 go_enter Try.func106, Try.ntmps106
 go_upto_region 1 with (first | ((with_reducible refine gate_dst (N := 3) rfl ?_); refine bx_ (N := 3) (cs := #[.int .i64 a0_0, .int .i64 a0_1, .string a0_2, .string a0_3, .string a0_4, .string a0_5, .bool a0_6, .int .i64 a0_7, .bool a0_8]) (t := 101) (h := ?_); intro gb209 hg w5 hbox hb; have n2_ := mk0 (gz_ HB hg); have n3_ := mk0 (gz_ HB hg); replace HB := mk0 (bt_ (b_ HB) hb); have BK209 := mk0 (hbox); have GW209 := n2_; have GE209 := n3_; clear n2_ n3_; clear hb hbox hg) | ((with_reducible refine gate_dst (N := 4) rfl ?_); refine bx_ (N := 4) (cs := #[.slice A1_0 l1_0.length c1_0, .slice A1_1 l1_1.length c1_1]) (t := 34) (h := ?_); intro gb210 hg w6 hbox hb; have n3_ := mk0 (gz_ HB hg); have n4_ := mk0 (gz_ HB hg); have n5_ := mk0 (ne1_ BK209 hg); have n6_ := mk0 (ne2_ BK209 hg); replace BK209 := mk0 (u_ BK209 hb); replace HB := mk0 (bt_ (b_ HB) hb); have BK210 := mk0 (hbox); have GW210 := n3_; have GE210 := n4_; have NB209_210 := n5_; have NB210_209 := n6_; clear n3_ n4_ n5_ n6_; clear hb hbox hg))
 (try simp only [Act.put, List.setIfInBounds_toArray, List.set_cons_zero, List.set_cons_succ])
 go_cut [21] (fun v21 wc => ∃ (kq : Nat) (x21_3 : Bool), v21 = .bool x21_3 ∧ Fc (plan_Locks.j0 kq a2 x21_3 a0_0 a0_1 a0_2 a0_3 a0_4 a0_5 a0_6 a0_7 a0_8 l1_0 l1_1 = some (r1, r2)) ∧ Fc (kq ≤ k) ∧ Fc (wc.heap[gb209]? = some (.cells #[.int .i64 a0_0, .int .i64 a0_1, .string a0_2, .string a0_3, .string a0_4, .string a0_5, .bool a0_6, .int .i64 a0_7, .bool a0_8] 101 (0, 0))) ∧ Fc (wc.heap[gb210]? = some (.cells #[(.slice A1_0 l1_0.length c1_0), (.slice A1_1 l1_1.length c1_1)] 34 (0, 0))) ∧ Fc (Below w.heap.size w wc))
 case first =>
  have H := HC4.out
  clear HC4
  replace H := Option.bind_eq_some_iff.mp H
  obtain ⟨t211, A70, H⟩ := H
  try dsimp only at H
  have A7 := mk0 A70
  clear A70
  by_cases c8 : t211 = true
  ·subst c8
   rw [if_pos rfl] at H
   replace H := Option.bind_eq_some_iff.mp H
   obtain ⟨t212, A90, H⟩ := H
   try dsimp only at H
   have A9 := mk0 A90
   clear A90
   by_cases c10 : t212 = true
   ·subst c10
    rw [if_pos rfl] at H
    replace H := Option.bind_eq_some_iff.mp H
    obtain ⟨t213, A110, H⟩ := H
    try dsimp only at H
    have A11 := mk0 A110
    clear A110
    have H' := mk0 H
    clear H
    have hnb12 := NB209_210.out
    have hnc12 := NB210_209.out
    obtain ⟨hcz13_0, hcz13_1, hcz13_2, hcz13_3, hcz13_4, hcz13_5, hcz13_6, hcz13_7, hcz13_8, hfz13_0, hfz13_1, hfz13_2, hfz13_3, hfz13_4, hfz13_5, hfz13_6, hfz13_7, hfz13_8⟩ := c9_ BK209
    go_wp2_with (first | ((with_reducible refine gate_callee (f := 150) rfl ?_); refine gL_ (some 9) Try.func150 #[.agg #[.int .i64 a0_0, .int .i64 a0_1, .string a0_2, .string a0_3, .string a0_4, .string a0_5, .bool a0_6, .int .i64 a0_7, .bool a0_8], .int .i64 3] (h := ?_); (with_reducible refine (plan_Is.calls a0_0 a0_1 a0_2 a0_3 a0_4 a0_5 a0_6 a0_7 a0_8 3 true _ A7.out).mono ?_); rintro e w14 ⟨rfl, hb⟩; refine ⟨_, rfl, ?_⟩; replace BK209 := mk0 (u_ BK209 hb); replace BK210 := mk0 (u_ BK210 hb); replace HB := mk0 (bt_ (b_ HB) hb); (try clear hb); obtain ⟨hcz15_0, hcz15_1, hfz15_0, hfz15_1⟩ := c2_ BK210) | (go_at_call 97; (with_reducible refine (pend_May.calls k _ _ l1_0 _ _ l1_1 true _ ?side1 ?side2 ?side3 ?side4 A9.out).mono ?_); (case side1 => exact cb_ HR1_0 HB); (case side2 => exact HC1_0.out); (case side3 => exact cb_ HR1_1 HB); (case side4 => exact HC1_1.out); rintro e w16 ⟨rfl, hb⟩; replace BK209 := mk0 (u_ BK209 hb); replace BK210 := mk0 (u_ BK210 hb); replace HB := mk0 (bt_ (b_ HB) hb); (try clear hb)) | (go_at_call 151; (with_reducible refine (lock_Is.calls k a2 0 (⟨#[]⟩ : ByteArray) (⟨#[]⟩ : ByteArray) false 1 t213 _ A11.out).mono ?_); rintro e w17 ⟨rfl, hb⟩; replace BK209 := mk0 (u_ BK209 hb); replace BK210 := mk0 (u_ BK210 hb); replace HB := mk0 (bt_ (b_ HB) hb); (try clear hb)))
    go_meet
    case rel => exact ⟨_, (!t213), (by first | rfl | (simp; done) | (simp [*]; done)), H', ⟨by first | omega | exact Nat.le_refl _⟩, ⟨h_ BK209⟩, ⟨h_ BK210⟩, ⟨b_ HB⟩⟩
   ·replace c10 := Bool.eq_false_iff.mpr c10
    subst c10
    rw [if_neg (show ¬ (false = true) by decide)] at H
    have H' := mk0 H
    clear H
    have hnb18 := NB209_210.out
    have hnc18 := NB210_209.out
    obtain ⟨hcz19_0, hcz19_1, hcz19_2, hcz19_3, hcz19_4, hcz19_5, hcz19_6, hcz19_7, hcz19_8, hfz19_0, hfz19_1, hfz19_2, hfz19_3, hfz19_4, hfz19_5, hfz19_6, hfz19_7, hfz19_8⟩ := c9_ BK209
    go_wp2_with (first | ((with_reducible refine gate_callee (f := 150) rfl ?_); refine gL_ (some 9) Try.func150 #[.agg #[.int .i64 a0_0, .int .i64 a0_1, .string a0_2, .string a0_3, .string a0_4, .string a0_5, .bool a0_6, .int .i64 a0_7, .bool a0_8], .int .i64 3] (h := ?_); (with_reducible refine (plan_Is.calls a0_0 a0_1 a0_2 a0_3 a0_4 a0_5 a0_6 a0_7 a0_8 3 true _ A7.out).mono ?_); rintro e w20 ⟨rfl, hb⟩; refine ⟨_, rfl, ?_⟩; replace BK209 := mk0 (u_ BK209 hb); replace BK210 := mk0 (u_ BK210 hb); replace HB := mk0 (bt_ (b_ HB) hb); (try clear hb); obtain ⟨hcz21_0, hcz21_1, hfz21_0, hfz21_1⟩ := c2_ BK210) | (go_at_call 97; (with_reducible refine (pend_May.calls k _ _ l1_0 _ _ l1_1 false _ ?side1 ?side2 ?side3 ?side4 A9.out).mono ?_); (case side1 => exact cb_ HR1_0 HB); (case side2 => exact HC1_0.out); (case side3 => exact cb_ HR1_1 HB); (case side4 => exact HC1_1.out); rintro e w22 ⟨rfl, hb⟩; replace BK209 := mk0 (u_ BK209 hb); replace BK210 := mk0 (u_ BK210 hb); replace HB := mk0 (bt_ (b_ HB) hb); (try clear hb)))
    go_meet
    case rel => exact ⟨_, (true), (by first | rfl | (simp; done) | (simp [*]; done)), H', ⟨by first | omega | exact Nat.le_refl _⟩, ⟨h_ BK209⟩, ⟨h_ BK210⟩, ⟨b_ HB⟩⟩
  ·replace c8 := Bool.eq_false_iff.mpr c8
   subst c8
   rw [if_neg (show ¬ (false = true) by decide)] at H
   have H' := mk0 H
   clear H
   have hnb23 := NB209_210.out
   have hnc23 := NB210_209.out
   obtain ⟨hcz24_0, hcz24_1, hcz24_2, hcz24_3, hcz24_4, hcz24_5, hcz24_6, hcz24_7, hcz24_8, hfz24_0, hfz24_1, hfz24_2, hfz24_3, hfz24_4, hfz24_5, hfz24_6, hfz24_7, hfz24_8⟩ := c9_ BK209
   go_wp2_with (first | ((with_reducible refine gate_callee (f := 150) rfl ?_); refine gL_ (some 9) Try.func150 #[.agg #[.int .i64 a0_0, .int .i64 a0_1, .string a0_2, .string a0_3, .string a0_4, .string a0_5, .bool a0_6, .int .i64 a0_7, .bool a0_8], .int .i64 3] (h := ?_); (with_reducible refine (plan_Is.calls a0_0 a0_1 a0_2 a0_3 a0_4 a0_5 a0_6 a0_7 a0_8 3 false _ A7.out).mono ?_); rintro e w25 ⟨rfl, hb⟩; refine ⟨_, rfl, ?_⟩; replace BK209 := mk0 (u_ BK209 hb); replace BK210 := mk0 (u_ BK210 hb); replace HB := mk0 (bt_ (b_ HB) hb); (try clear hb)))
   go_meet
   case rel => exact ⟨_, (true), (by first | rfl | (simp; done) | (simp [*]; done)), H', ⟨by first | omega | exact Nat.le_refl _⟩, ⟨h_ BK209⟩, ⟨h_ BK210⟩, ⟨b_ HB⟩⟩
 case rest =>
  clear HC4
  try clear c8
  try clear c10
  try clear hcz13_0
  try clear hcz13_1
  try clear hcz13_2
  try clear hcz13_3
  try clear hcz13_4
  try clear hcz13_5
  try clear hcz13_6
  try clear hcz13_7
  try clear hcz13_8
  try clear hcz15_0
  try clear hcz15_1
  try clear hcz19_0
  try clear hcz19_1
  try clear hcz19_2
  try clear hcz19_3
  try clear hcz19_4
  try clear hcz19_5
  try clear hcz19_6
  try clear hcz19_7
  try clear hcz19_8
  try clear hcz21_0
  try clear hcz21_1
  try clear hcz24_0
  try clear hcz24_1
  try clear hcz24_2
  try clear hcz24_3
  try clear hcz24_4
  try clear hcz24_5
  try clear hcz24_6
  try clear hcz24_7
  try clear hcz24_8
  try clear hfz13_0
  try clear hfz13_1
  try clear hfz13_2
  try clear hfz13_3
  try clear hfz13_4
  try clear hfz13_5
  try clear hfz13_6
  try clear hfz13_7
  try clear hfz13_8
  try clear hfz15_0
  try clear hfz15_1
  try clear hfz19_0
  try clear hfz19_1
  try clear hfz19_2
  try clear hfz19_3
  try clear hfz19_4
  try clear hfz19_5
  try clear hfz19_6
  try clear hfz19_7
  try clear hfz19_8
  try clear hfz21_0
  try clear hfz21_1
  try clear hfz24_0
  try clear hfz24_1
  try clear hfz24_2
  try clear hfz24_3
  try clear hfz24_4
  try clear hfz24_5
  try clear hfz24_6
  try clear hfz24_7
  try clear hfz24_8
  obtain ⟨kq, x21_3, rfl, HA, HJ3, BK209, BK210, HB⟩ := hcut
  cases kq with
  | zero => exact absurd HA.out (by simp [plan_Locks.j0])
  | succ kj3 =>
   have H := HA.out
   clear HA
   simp only [plan_Locks.j0] at H
   as_aux_lemma =>
    by_cases c26 : x21_3 = true
    ·subst c26
     rw [if_pos rfl] at H
     simp only [Option.some.injEq, Prod.mk.injEq] at H
     obtain ⟨rfl, rfl⟩ := H
     go_wp2
     go_ret2
     exact ⟨_, by first | rfl | (simp [errW_none, errW_some] <;> rfl) | (simp [*, errW_none, errW_some] <;> rfl), by first | exact Kd.R_nil _ _ _ _ _ | exact Kd.N_nil _ _ _ _ _ | exact Kd.V_nil _ _ _ _ _ | exact Kd.Q_nil _ _ _ _ _ | exact Kd.S_nil _ _ _ _ _, b_ HB⟩
    ·replace c26 := Bool.eq_false_iff.mpr c26
     subst c26
     rw [if_neg (show ¬ (false = true) by decide)] at H
     replace H := Option.bind_eq_some_iff.mp H
     obtain ⟨t214, A270, H⟩ := H
     try dsimp only at H
     have A27 := mk0 A270
     clear A270
     simp only [Option.some.injEq, Prod.mk.injEq] at H
     obtain ⟨rfl, rfl⟩ := H
     have hnb28 := NB209_210.out
     have hnc28 := NB210_209.out
     obtain ⟨hcz29_0, hcz29_1, hcz29_2, hcz29_3, hcz29_4, hcz29_5, hcz29_6, hcz29_7, hcz29_8, hfz29_0, hfz29_1, hfz29_2, hfz29_3, hfz29_4, hfz29_5, hfz29_6, hfz29_7, hfz29_8⟩ := c9_ BK209
     obtain ⟨hcz30_0, hcz30_1, hfz30_0, hfz30_1⟩ := c2_ BK210
     go_wp2_with (first | ((with_reducible refine gate_callee (f := 152) rfl ?_); refine gL_ (some 25) Try.func152 #[.agg #[.int .i64 a0_0, .int .i64 a0_1, .string a0_2, .string a0_3, .string a0_4, .string a0_5, .bool a0_6, .int .i64 a0_7, .bool a0_8], .agg #[.slice A1_0 l1_0.length c1_0, .slice A1_1 l1_1.length c1_1], .int .i64 a2] (h := ?_); (with_reducible refine (plan_Needs.calls kj3 a0_0 a0_1 a0_2 a0_3 a0_4 a0_5 a0_6 a0_7 a0_8 _ _ l1_0 _ _ l1_1 a2 t214 _ ?side1 ?side2 ?side3 ?side4 A27.out).mono ?_); (case side1 => exact cb_ HR1_0 HB); (case side2 => exact HC1_0.out); (case side3 => exact cb_ HR1_1 HB); (case side4 => exact HC1_1.out); rintro e w31 ⟨v215, rfl, ho0, hb⟩; refine ⟨_, rfl, ?_⟩; have n0_ := mk0 (Kd.R_lower ho0 (bz_ (b_ HB))); replace BK209 := mk0 (u_ BK209 hb); replace BK210 := mk0 (u_ BK210 hb); replace HB := mk0 (bt_ (b_ HB) hb); have HO216 := n0_; clear n0_; (try clear hb); (try clear ho0)))
     go_ret2
     exact ⟨_, by first | rfl | (simp [errW_none, errW_some] <;> rfl) | (simp [*, errW_none, errW_some] <;> rfl), by (with_reducible repeat (first | apply Ra_ | apply Rn_ | apply Rd_)); exact HO216.out, b_ HB⟩

end Go.Proofs.Ytbaecdcfefmcgaa.PPlc
