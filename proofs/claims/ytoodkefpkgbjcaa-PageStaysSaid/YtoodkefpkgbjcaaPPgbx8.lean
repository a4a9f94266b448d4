-- PRINTED by print.py (a twelfth state) out of the translation. Not trusted: Lean checks it.
import Derived.Test.YtoodkefpkgbjcaaPPgbx0
import Derived.Test.YtoodkefpkgbjcaaPPgbx2
import Derived.Test.YtoodkefpkgbjcaaPPgbx4
import Derived.Test.YtoodkefpkgbjcaaPPgbx7
namespace Go.Proofs.Ytoodkefpkgbjcaa.PPgb
open Go.RowKit Go.Proofs.YtoodkefpkgbjcaaW.PrintWords Go.Proofs.YtoodkefpkgbjcaaW.PrintLast Go.Proofs.YtoodkefpkgbjcaaW.PrintMore
attribute [local go_sem] max2_int min2_int max_two min_two max_three min_three max_four min_four   -- for this text's walks alone
set_option linter.unusedVariables false
set_option linter.unusedSimpArgs false

/-! ### page_Set: function 80 -/
def page_Set.f (k : Nat) (l0_0 : List ByteArray) (l0_1 : List Int) (a1 : Int) (a2 : ByteArray) : Option (List ByteArray × List Int × Int) := (page_asked.f k l0_0 l0_1 a1).bind fun bt244 => (if bt244.2.2 = 0 then (if 0 ≤ a1 then (if a1 < (bt244.1.length : Int) then ((some (bt244.1.set (a1 : Int).toNat a2 : List ByteArray)).bind fun y252 => ((page_may.f k y252 bt244.2.1).bind fun t253 => (if t253 = true then (some (y252, bt244.2.1, 0)) else (some (([] : List ByteArray), ([] : List Int), 5))))) else (none)) else (none)) else (some (bt244.1, bt244.2.1, bt244.2.2)))
theorem page_Set.mono : ∀ a0 a1 a2 a3 k, LeO (page_Set.f k a0 a1 a2 a3) (page_Set.f (k + 1) a0 a1 a2 a3) := by
 intro a0 a1 a2 a3 k
 unfold page_Set.f
 repeat' first
   | (with_reducible exact page_asked.mono _ _ _ _)
   | (with_reducible exact page_may.mono _ _ _)
   | (with_reducible exact LeO.refl _)
   | (with_reducible exact LeO.none _)
   | (with_reducible refine LeO.ite ?_ ?_)
   | (with_reducible refine LeO.bind ?_ (fun _ => ?_))
   | exact page_asked.mono _ _ _ _
   | exact page_may.mono _ _ _
   | exact LeO.none _
   | refine LeO.ite ?_ ?_
   | refine LeO.bind ?_ (fun _ => ?_)
set_option maxHeartbeats 8000000 in
set_option maxRecDepth 100000 in
theorem page_Set.calls (k : Nat) (A0_0 : Option Addr) (c0_0 : Nat) (l0_0 : List ByteArray) (A0_1 : Option Addr) (c0_1 : Nat) (l0_1 : List Int) (a1 : Int) (a2 : ByteArray) (r1 : List ByteArray) (r2 : List Int) (r3 : Int) (w : World) (hr0_0 : Kd.C Kd.string w A0_0 l0_0.length l0_0) (hc0_0 : l0_0.length ≤ c0_0) (hr0_1 : Kd.C (Kd.int .i64) w A0_1 l0_1.length l0_1) (hc0_1 : l0_1.length ≤ c0_1) (h : page_Set.f k l0_0 l0_1 a1 a2 = some (r1, r2, r3)) :
  Calls Try.prog 80 #[.agg #[.slice A0_0 l0_0.length c0_0, .slice A0_1 l0_1.length c0_1], .int .i64 a1, .string a2] w fun e w' => ∃ v0_ v1_ : Value, e = .returned (.tuple #[.agg #[v0_, v1_], .int .i64 r3]) ∧ Kd.R Kd.string 9 w' w.heap.size (fun _ => True) v0_ r1 ∧ Kd.R (Kd.int .i64) 3 w' w.heap.size (fun _ => True) v1_ r2 ∧ Below w.heap.size w w' := by
 have hu56 := Try.underlying56
 have HR0_0 := mk0 hr0_0
 have HC0_0 := mk0 hc0_0
 clear hr0_0 hc0_0
 have HR0_1 := mk0 hr0_1
 have HC0_1 := mk0 hc0_1
 clear hr0_1 hc0_1
 have HB := mk0 (Below.refl w.heap.size w)
 have H : ((page_asked.f k l0_0 l0_1 a1).bind fun bt244 => (if bt244.2.2 = 0 then (if 0 ≤ a1 then (if a1 < (bt244.1.length : Int) then ((some (bt244.1.set (a1 : Int).toNat a2 : List ByteArray)).bind fun y252 => ((page_may.f k y252 bt244.2.1).bind fun t253 => (if t253 = true then (some (y252, bt244.2.1, 0)) else (some (([] : List ByteArray), ([] : List Int), 5))))) else (none)) else (none)) else (some (bt244.1, bt244.2.1, bt244.2.2)))) = some (r1, r2, r3) := h
 clear h
 replace H := Option.bind_eq_some_iff.mp H
 obtain ⟨⟨t244, t247, t250⟩, A40, H⟩ := H
 try dsimp only at H
 have A4 := mk0 A40
 clear A40
 by_cases c5 : t250 = 0
 ·rw [if_pos c5] at H
  have c5b0 : (t250 == 0) = true := beq_iff_eq.mpr c5
  have c5b1 : (t250 != 0) = false := bne_eq_false_iff_eq.mpr c5
  clear c5
  by_cases c6 : 0 ≤ a1
  ·rw [if_pos c6] at H
   have c6b0 : decide (0 ≤ a1) = true := decide_eq_true c6
   clear c6
   by_cases c7 : a1 < (t244.length : Int)
   ·rw [if_pos c7] at H
    have c7b0 : decide (a1 < (t244.length : Int)) = true := decide_eq_true c7
    clear c7
    obtain ⟨y252, hy252⟩ : ∃ y_ : List ByteArray, y_ = (t244.set (a1 : Int).toNat a2) := ⟨_, rfl⟩
    replace H : ((page_may.f k y252 t247).bind fun t253 => (if t253 = true then (some (y252, t247, 0)) else (some (([] : List ByteArray), ([] : List Int), 5)))) = some (r1, r2, r3) := by first | (rw [hy252]; with_reducible exact H) | (have H2_ := (Option.bind_some _ _).symm.trans H; rw [hy252]; with_reducible exact H2_) | (have H2_ := (Option.bind_some _ _).symm.trans H; with_reducible exact H2_) | with_reducible exact H | (rw [hy252]; exact H) | exact H
    have Ny252 := mk0 hy252
    clear hy252
    replace H := Option.bind_eq_some_iff.mp H
    obtain ⟨t253, A90, H⟩ := H
    try dsimp only at H
    have A9 := mk0 A90
    clear A90
    by_cases c10 : t253 = true
    ·subst c10
     rw [if_pos rfl] at H
     simp only [Option.some.injEq, Prod.mk.injEq] at H
     obtain ⟨rfl, rfl, rfl⟩ := H
     go_enter Try.func80, Try.ntmps80
     go_wp2_with (first | ((with_reducible refine gate_dst (N := 3) rfl ?_); refine bx_ (N := 3) (cs := #[.slice A0_0 l0_0.length c0_0, .slice A0_1 l0_1.length c0_1]) (t := 56) (h := ?_); intro gb242 hg w11 hbox hb; have n2_ := mk0 (gz_ HB hg); have n3_ := mk0 (gz_ HB hg); replace HB := mk0 (bt_ (b_ HB) hb); have BK242 := mk0 (hbox); have GW242 := n2_; have GE242 := n3_; clear n2_ n3_; clear hb hbox hg) | ((with_reducible refine gate_dst (N := 6) rfl ?_); refine bx_ (N := 6) (cs := #[.slice none 0 0, .slice none 0 0]) (t := 56) (h := ?_); intro gb243 hg w12 hbox hb; have n3_ := mk0 (gz_ HB hg); have n4_ := mk0 (gz_ HB hg); have n5_ := mk0 (ne1_ BK242 hg); have n6_ := mk0 (ne2_ BK242 hg); replace BK242 := mk0 (u_ BK242 hb); replace HB := mk0 (bt_ (b_ HB) hb); have BK243 := mk0 (hbox); have GW243 := n3_; have GE243 := n4_; have NB242_243 := n5_; have NB243_242 := n6_; clear n3_ n4_ n5_ n6_ hb hbox hg; have hnb13 := NB242_243.out; have hnc13 := NB243_242.out; obtain ⟨hcz14_0, hcz14_1, hfz14_0, hfz14_1⟩ := c2_ BK242) | ((with_reducible refine gate_callee (f := 69) rfl ?_); refine gL_ (some 13) Try.func69 #[.agg #[.slice A0_0 l0_0.length c0_0, .slice A0_1 l0_1.length c0_1], .int .i64 a1] (h := ?_); (with_reducible refine (page_asked.calls k _ _ l0_0 _ _ l0_1 a1 t244 t247 t250 _ ?side1 ?side2 ?side3 ?side4 A4.out).mono ?_); (case side1 => exact cb_ HR0_0 HB); (case side2 => exact HC0_0.out); (case side3 => exact cb_ HR0_1 HB); (case side4 => exact HC0_1.out); rintro e w15 ⟨v245, v248, rfl, ho0, ho1, hb⟩; refine ⟨_, rfl, ?_⟩; have n0_ := mk0 (Kd.R_lower ho0 (bz_ (b_ HB))); have n1_ := mk0 (Kd.R_lower ho1 (bz_ (b_ HB))); replace BK242 := mk0 (u_ BK242 hb); replace BK243 := mk0 (u_ BK243 hb); replace HB := mk0 (bt_ (b_ HB) hb); have HO246 := n0_; have HO249 := n1_; clear n0_ n1_; (try clear hb); (try clear ho0); (try clear ho1)) | ((with_reducible refine gate_dst (N := 8) rfl ?_); refine bx_ (N := 8) (cs := #[.slice none 0 0, .slice none 0 0]) (t := 56) (h := ?_); intro gb251 hg w16 hbox hb; have n6_ := mk0 (gz_ HB hg); have n7_ := mk0 (gz_ HB hg); have n8_ := mk0 (ne1_ BK242 hg); have n9_ := mk0 (ne2_ BK242 hg); have n10_ := mk0 (ne1_ BK243 hg); have n11_ := mk0 (ne2_ BK243 hg); replace HO246 := mk0 (Kd.R_below (r_ HO246) hb); replace HO249 := mk0 (Kd.R_below (r_ HO249) hb); replace BK242 := mk0 (u_ BK242 hb); replace BK243 := mk0 (u_ BK243 hb); replace HB := mk0 (bt_ (b_ HB) hb); have BK251 := mk0 (hbox); have GW251 := n6_; have GE251 := n7_; have NB242_251 := n8_; have NB251_242 := n9_; have NB243_251 := n10_; have NB251_243 := n11_; clear n6_ n7_ n8_ n9_ n10_ n11_ hb hbox hg; obtain ⟨Ao17, co17, eo17⟩ := Kd.R_slice HO246.out; subst eo17; have hnb18 := NB251_242.out; have hnc18 := NB242_251.out; have hnb19 := NB251_243.out; have hnc19 := NB243_251.out; obtain ⟨hcz20_0, hcz20_1, hfz20_0, hfz20_1⟩ := c2_ BK251; obtain ⟨Ao21, co21, eo21⟩ := Kd.R_slice HO249.out; subst eo21) | ((with_reducible refine gate_store (t := 56) (p := 8) rfl ?_); refine sv_ (t := 56) (p := 8) (w1 := ((w16.setCell ⟨gb251, 0, none⟩ (.slice Ao17 t244.length co17)).setCell ⟨gb251, 1, none⟩ (.slice Ao21 t247.length co21))) (h := ?_); intro w22 hw; have n0_ : Fc (Kd.R Kd.string 9 w22 w.heap.size (fun _ => True) (.slice Ao17 t244.length co17) t244) := ⟨(by rw [hw]; exact (r2_ (Kd.R_mono (Kd.R_far (p := ⟨gb251, 1, none⟩) (Kd.R_far (p := ⟨gb251, 0, none⟩) (Kd.R_types HO246.out BK251.out (by decide)) (fun _ hk => hk.2) (.slice Ao17 t244.length co17)) (fun _ hk => hk.2) (.slice Ao21 t247.length co21)) (fun _ hk => trivial))))⟩; have n1_ : Fc (Kd.R (Kd.int .i64) 3 w22 w.heap.size (fun _ => True) (.slice Ao21 t247.length co21) t247) := ⟨(by rw [hw]; exact (r2_ (Kd.R_mono (Kd.R_far (p := ⟨gb251, 1, none⟩) (Kd.R_far (p := ⟨gb251, 0, none⟩) (Kd.R_types HO249.out BK251.out (by decide)) (fun _ hk => hk.2) (.slice Ao17 t244.length co17)) (fun _ hk => hk.2) (.slice Ao21 t247.length co21)) (fun _ hk => trivial))))⟩; have n2_ : Fc (w22.heap[gb242]? = some (.cells #[.slice A0_0 l0_0.length c0_0, .slice A0_1 l0_1.length c0_1] 56 (0, 0))) := ⟨(by rw [hw]; exact (fa_ (fa_ (h_ BK242) NB242_251.out) NB242_251.out))⟩; have n3_ : Fc (w22.heap[gb243]? = some (.cells #[.slice none 0 0, .slice none 0 0] 56 (0, 0))) := ⟨(by rw [hw]; exact (fa_ (fa_ (h_ BK243) NB243_251.out) NB243_251.out))⟩; have n4_ : Fc (w22.heap[gb251]? = some (.cells #[.slice Ao17 t244.length co17, .slice Ao21 t247.length co21] 56 (0, 0))) := ⟨(by rw [hw]; exact (pu_ (cs := #[.slice Ao17 t244.length co17, .slice none 0 0]) (pu_ (cs := #[.slice none 0 0, .slice none 0 0]) (h_ BK251))))⟩; have n5_ : Fc (Below w.heap.size w w22) := ⟨(by rw [hw]; exact (b_ HB))⟩; clear hw HO246 HO249 BK242 BK243 BK251 HB; have HO246 := n0_; have HO249 := n1_; have BK242 := n2_; have BK243 := n3_; have BK251 := n4_; have HB := n5_; clear n0_ n1_ n2_ n3_ n4_ n5_; obtain ⟨hcz23_0, hcz23_1, hfz23_0, hfz23_1⟩ := c2_ BK251; have p8 : 0 ≤ (a1 : Int) := of_decide_eq_true (by first | (with_reducible assumption) | assumption); have q8 : (a1 : Int) < ((t244.length : Int) : Int) := of_decide_eq_true (by first | (with_reducible assumption) | assumption); obtain ⟨go8, co8, eo8, gb8, gl8, cl8, HG8⟩ := Kd.R_form HO246.out (by omega); (first | cases eo8 | (injection eo8 with ea_ en_ ec_; (first | subst ea_ | (injection ea_ with ea_; subst ea_)); subst ec_; clear en_)); have GB8 := mk0 gb8; have GG8 := mk0 HG8; clear gb8 gl8 HG8; obtain ⟨hx8_0, hf8_0⟩ := Kd.R_celln (⟨#[]⟩ : ByteArray) HO246.out (a1 : Int) p8 q8; replace p8 := eq_true p8; replace q8 := eq_true q8; obtain ⟨hy24_, hz24_⟩ := Kd.R_celln (⟨#[]⟩ : ByteArray) HO246.out (a1 : Int) (of_decide_eq_true (by first | (with_reducible assumption) | assumption)) (of_decide_eq_true (by first | (with_reducible assumption) | assumption)); have HP24 := Kd.R_putg HO246.out (a1 : Int) a2) | ((with_reducible refine gate_store (t := 9) (p := 24) rfl ?_); refine sv_ (t := 9) (p := 24) (w1 := (w22.setCell ⟨go8, (a1 : Int).toNat, none⟩ (.string a2))) (h := ?_); intro w25 hw; have hg : w22.grownBy w25 (some go8) := (by rw [hw]; exact HP24.2); have hp_ : Kd.R Kd.string 9 w25 w.heap.size (fun _ => True) (.slice (some ⟨go8, 0, none⟩) t244.length co17) y252 := (by rw [hw, Ny252.out]; exact HP24.1); clear HP24; have n0_ := mk0 (blk_grown (g := gb242) (o := .cells #[.slice A0_0 l0_0.length c0_0, .slice A0_1 l0_1.length c0_1] 56 (0, 0)) (h_ BK242) hg (Kd.R_ne HO246.out BK242.out (by decide))); have n1_ := mk0 (blk_grown (g := gb243) (o := .cells #[.slice none 0 0, .slice none 0 0] 56 (0, 0)) (h_ BK243) hg (Kd.R_ne HO246.out BK243.out (by decide))); have n3_ := mk0 (Kd.R_over' (v := (.slice (some ⟨go8, 0, none⟩) t244.length co17)) (r_ HO249) (Kd.R_typed HO246.out) (by decide) hg); have n4_ := mk0 (blk_grown (g := gb251) (o := .cells #[.slice (some ⟨go8, 0, none⟩) t244.length co17, .slice Ao21 t247.length co21] 56 (0, 0)) (h_ BK251) hg (Kd.R_ne HO246.out BK251.out (by decide))); replace HO246 := mk0 (hp_); replace HB := mk0 ((by rw [hw]; exact bs_ (HB.out) GB8.out : Below w.heap.size w w25)); clear BK242 BK243 HO249 BK251; have BK242 := n0_; have BK243 := n1_; have HO249 := n3_; have BK251 := n4_; clear n0_ n1_ n3_ n4_ hg hw hp_; obtain ⟨hcz26_0, hcz26_1, hfz26_0, hfz26_1⟩ := c2_ BK251) | ((with_reducible refine gate_callee (f := 72) rfl ?_); refine goesL_ (some 26) rfl rfl Try.func72 (by kernel_rfl) rfl #[.agg #[.slice (some ⟨go8, 0, none⟩) y252.length co17, .slice Ao21 t247.length co21]] rfl (by (try simp only [List.map_toArray, List.map_cons, List.map_nil]); first | done | (rw [show y252.length = t244.length from (Kd.R_reads' HO246.out).1.symm] <;> rfl) | rfl | (simp only [List.length_drop, List.length_take]; rfl)) ?_; (with_reducible refine (page_may.calls k _ _ y252 _ _ t247 true _ ?side1 ?side2 ?side3 ?side4 A9.out).mono ?_); (case side1 => exact cr_ HO246); (case side2 => rw [show y252.length = t244.length from (Kd.R_reads' HO246.out).1.symm]; exact (Kd.R_reads' HO246.out).2.1); (case side3 => exact cr_ HO249); (case side4 => exact (Kd.R_reads' HO249.out).2.1); rintro e w27 ⟨rfl, hb⟩; refine ⟨_, rfl, ?_⟩; replace HO246 := mk0 (Kd.R_below (r_ HO246) hb); replace HO249 := mk0 (Kd.R_below (r_ HO249) hb); replace BK242 := mk0 (u_ BK242 hb); replace BK243 := mk0 (u_ BK243 hb); replace BK251 := mk0 (u_ BK251 hb); replace HB := mk0 (bt_ (b_ HB) hb); (try clear hb); obtain ⟨hcz28_0, hcz28_1, hfz28_0, hfz28_1⟩ := c2_ BK251; obtain ⟨hcz29_0, hcz29_1, hfz29_0, hfz29_1⟩ := c2_ BK243))
     refine bodyPost_ret (results_ct rfl _ _ gb243 56 #[.slice (some ⟨go8, 0, none⟩) t244.length co17, .slice Ao21 t247.length co21] (0, 0) _ rfl (pu_ (cs := #[.slice (some ⟨go8, 0, none⟩) t244.length co17, .slice none 0 0]) (pu_ (cs := #[.slice none 0 0, .slice none 0 0]) (h_ BK243))) Try.underlying56 rfl (by kernel_rfl)) rfl ?_
     exact ⟨_, _, by first | rfl | (simp [errW_none, errW_some] <;> rfl) | (simp [*, errW_none, errW_some] <;> rfl), by (with_reducible repeat (first | apply Ra_ | apply Rn_ | apply Rd_)); exact Kd.R_mono (Kd.R_far (p := ⟨gb243, 1, none⟩) (Kd.R_far (p := ⟨gb243, 0, none⟩) (Kd.R_types HO246.out BK243.out (by decide)) (fun _ hk => hk.2) (.slice (some ⟨go8, 0, none⟩) t244.length co17)) (fun _ hk => hk.2) (.slice Ao21 t247.length co21)) (fun _ hk => trivial), by (with_reducible repeat (first | apply Ra_ | apply Rn_ | apply Rd_)); exact Kd.R_mono (Kd.R_far (p := ⟨gb243, 1, none⟩) (Kd.R_far (p := ⟨gb243, 0, none⟩) (Kd.R_types HO249.out BK243.out (by decide)) (fun _ hk => hk.2) (.slice (some ⟨go8, 0, none⟩) t244.length co17)) (fun _ hk => hk.2) (.slice Ao21 t247.length co21)) (fun _ hk => trivial), b_ HB⟩
    ·replace c10 := Bool.eq_false_iff.mpr c10
     subst c10
     rw [if_neg (show ¬ (false = true) by decide)] at H
     simp only [Option.some.injEq, Prod.mk.injEq] at H
     obtain ⟨rfl, rfl, rfl⟩ := H
     go_enter Try.func80, Try.ntmps80
     go_wp2_with (first | ((with_reducible refine gate_dst (N := 3) rfl ?_); refine bx_ (N := 3) (cs := #[.slice A0_0 l0_0.length c0_0, .slice A0_1 l0_1.length c0_1]) (t := 56) (h := ?_); intro gb242 hg w30 hbox hb; have n2_ := mk0 (gz_ HB hg); have n3_ := mk0 (gz_ HB hg); replace HB := mk0 (bt_ (b_ HB) hb); have BK242 := mk0 (hbox); have GW242 := n2_; have GE242 := n3_; clear n2_ n3_; clear hb hbox hg) | ((with_reducible refine gate_dst (N := 6) rfl ?_); refine bx_ (N := 6) (cs := #[.slice none 0 0, .slice none 0 0]) (t := 56) (h := ?_); intro gb243 hg w31 hbox hb; have n3_ := mk0 (gz_ HB hg); have n4_ := mk0 (gz_ HB hg); have n5_ := mk0 (ne1_ BK242 hg); have n6_ := mk0 (ne2_ BK242 hg); replace BK242 := mk0 (u_ BK242 hb); replace HB := mk0 (bt_ (b_ HB) hb); have BK243 := mk0 (hbox); have GW243 := n3_; have GE243 := n4_; have NB242_243 := n5_; have NB243_242 := n6_; clear n3_ n4_ n5_ n6_ hb hbox hg; have hnb32 := NB242_243.out; have hnc32 := NB243_242.out; obtain ⟨hcz33_0, hcz33_1, hfz33_0, hfz33_1⟩ := c2_ BK242) | ((with_reducible refine gate_callee (f := 69) rfl ?_); refine gL_ (some 13) Try.func69 #[.agg #[.slice A0_0 l0_0.length c0_0, .slice A0_1 l0_1.length c0_1], .int .i64 a1] (h := ?_); (with_reducible refine (page_asked.calls k _ _ l0_0 _ _ l0_1 a1 t244 t247 t250 _ ?side1 ?side2 ?side3 ?side4 A4.out).mono ?_); (case side1 => exact cb_ HR0_0 HB); (case side2 => exact HC0_0.out); (case side3 => exact cb_ HR0_1 HB); (case side4 => exact HC0_1.out); rintro e w34 ⟨v245, v248, rfl, ho0, ho1, hb⟩; refine ⟨_, rfl, ?_⟩; have n0_ := mk0 (Kd.R_lower ho0 (bz_ (b_ HB))); have n1_ := mk0 (Kd.R_lower ho1 (bz_ (b_ HB))); replace BK242 := mk0 (u_ BK242 hb); replace BK243 := mk0 (u_ BK243 hb); replace HB := mk0 (bt_ (b_ HB) hb); have HO246 := n0_; have HO249 := n1_; clear n0_ n1_; (try clear hb); (try clear ho0); (try clear ho1)) | ((with_reducible refine gate_dst (N := 8) rfl ?_); refine bx_ (N := 8) (cs := #[.slice none 0 0, .slice none 0 0]) (t := 56) (h := ?_); intro gb251 hg w35 hbox hb; have n6_ := mk0 (gz_ HB hg); have n7_ := mk0 (gz_ HB hg); have n8_ := mk0 (ne1_ BK242 hg); have n9_ := mk0 (ne2_ BK242 hg); have n10_ := mk0 (ne1_ BK243 hg); have n11_ := mk0 (ne2_ BK243 hg); replace HO246 := mk0 (Kd.R_below (r_ HO246) hb); replace HO249 := mk0 (Kd.R_below (r_ HO249) hb); replace BK242 := mk0 (u_ BK242 hb); replace BK243 := mk0 (u_ BK243 hb); replace HB := mk0 (bt_ (b_ HB) hb); have BK251 := mk0 (hbox); have GW251 := n6_; have GE251 := n7_; have NB242_251 := n8_; have NB251_242 := n9_; have NB243_251 := n10_; have NB251_243 := n11_; clear n6_ n7_ n8_ n9_ n10_ n11_ hb hbox hg; obtain ⟨Ao36, co36, eo36⟩ := Kd.R_slice HO246.out; subst eo36; have hnb37 := NB251_242.out; have hnc37 := NB242_251.out; have hnb38 := NB251_243.out; have hnc38 := NB243_251.out; obtain ⟨hcz39_0, hcz39_1, hfz39_0, hfz39_1⟩ := c2_ BK251; obtain ⟨Ao40, co40, eo40⟩ := Kd.R_slice HO249.out; subst eo40) | ((with_reducible refine gate_store (t := 56) (p := 8) rfl ?_); refine sv_ (t := 56) (p := 8) (w1 := ((w35.setCell ⟨gb251, 0, none⟩ (.slice Ao36 t244.length co36)).setCell ⟨gb251, 1, none⟩ (.slice Ao40 t247.length co40))) (h := ?_); intro w41 hw; have n0_ : Fc (Kd.R Kd.string 9 w41 w.heap.size (fun _ => True) (.slice Ao36 t244.length co36) t244) := ⟨(by rw [hw]; exact (r2_ (Kd.R_mono (Kd.R_far (p := ⟨gb251, 1, none⟩) (Kd.R_far (p := ⟨gb251, 0, none⟩) (Kd.R_types HO246.out BK251.out (by decide)) (fun _ hk => hk.2) (.slice Ao36 t244.length co36)) (fun _ hk => hk.2) (.slice Ao40 t247.length co40)) (fun _ hk => trivial))))⟩; have n1_ : Fc (Kd.R (Kd.int .i64) 3 w41 w.heap.size (fun _ => True) (.slice Ao40 t247.length co40) t247) := ⟨(by rw [hw]; exact (r2_ (Kd.R_mono (Kd.R_far (p := ⟨gb251, 1, none⟩) (Kd.R_far (p := ⟨gb251, 0, none⟩) (Kd.R_types HO249.out BK251.out (by decide)) (fun _ hk => hk.2) (.slice Ao36 t244.length co36)) (fun _ hk => hk.2) (.slice Ao40 t247.length co40)) (fun _ hk => trivial))))⟩; have n2_ : Fc (w41.heap[gb242]? = some (.cells #[.slice A0_0 l0_0.length c0_0, .slice A0_1 l0_1.length c0_1] 56 (0, 0))) := ⟨(by rw [hw]; exact (fa_ (fa_ (h_ BK242) NB242_251.out) NB242_251.out))⟩; have n3_ : Fc (w41.heap[gb243]? = some (.cells #[.slice none 0 0, .slice none 0 0] 56 (0, 0))) := ⟨(by rw [hw]; exact (fa_ (fa_ (h_ BK243) NB243_251.out) NB243_251.out))⟩; have n4_ : Fc (w41.heap[gb251]? = some (.cells #[.slice Ao36 t244.length co36, .slice Ao40 t247.length co40] 56 (0, 0))) := ⟨(by rw [hw]; exact (pu_ (cs := #[.slice Ao36 t244.length co36, .slice none 0 0]) (pu_ (cs := #[.slice none 0 0, .slice none 0 0]) (h_ BK251))))⟩; have n5_ : Fc (Below w.heap.size w w41) := ⟨(by rw [hw]; exact (b_ HB))⟩; clear hw HO246 HO249 BK242 BK243 BK251 HB; have HO246 := n0_; have HO249 := n1_; have BK242 := n2_; have BK243 := n3_; have BK251 := n4_; have HB := n5_; clear n0_ n1_ n2_ n3_ n4_ n5_; obtain ⟨hcz42_0, hcz42_1, hfz42_0, hfz42_1⟩ := c2_ BK251; have p8 : 0 ≤ (a1 : Int) := of_decide_eq_true (by first | (with_reducible assumption) | assumption); have q8 : (a1 : Int) < ((t244.length : Int) : Int) := of_decide_eq_true (by first | (with_reducible assumption) | assumption); obtain ⟨go8, co8, eo8, gb8, gl8, cl8, HG8⟩ := Kd.R_form HO246.out (by omega); (first | cases eo8 | (injection eo8 with ea_ en_ ec_; (first | subst ea_ | (injection ea_ with ea_; subst ea_)); subst ec_; clear en_)); have GB8 := mk0 gb8; have GG8 := mk0 HG8; clear gb8 gl8 HG8; obtain ⟨hx8_0, hf8_0⟩ := Kd.R_celln (⟨#[]⟩ : ByteArray) HO246.out (a1 : Int) p8 q8; replace p8 := eq_true p8; replace q8 := eq_true q8; obtain ⟨hy43_, hz43_⟩ := Kd.R_celln (⟨#[]⟩ : ByteArray) HO246.out (a1 : Int) (of_decide_eq_true (by first | (with_reducible assumption) | assumption)) (of_decide_eq_true (by first | (with_reducible assumption) | assumption)); have HP43 := Kd.R_putg HO246.out (a1 : Int) a2) | ((with_reducible refine gate_store (t := 9) (p := 24) rfl ?_); refine sv_ (t := 9) (p := 24) (w1 := (w41.setCell ⟨go8, (a1 : Int).toNat, none⟩ (.string a2))) (h := ?_); intro w44 hw; have hg : w41.grownBy w44 (some go8) := (by rw [hw]; exact HP43.2); have hp_ : Kd.R Kd.string 9 w44 w.heap.size (fun _ => True) (.slice (some ⟨go8, 0, none⟩) t244.length co36) y252 := (by rw [hw, Ny252.out]; exact HP43.1); clear HP43; have n0_ := mk0 (blk_grown (g := gb242) (o := .cells #[.slice A0_0 l0_0.length c0_0, .slice A0_1 l0_1.length c0_1] 56 (0, 0)) (h_ BK242) hg (Kd.R_ne HO246.out BK242.out (by decide))); have n1_ := mk0 (blk_grown (g := gb243) (o := .cells #[.slice none 0 0, .slice none 0 0] 56 (0, 0)) (h_ BK243) hg (Kd.R_ne HO246.out BK243.out (by decide))); have n3_ := mk0 (Kd.R_over' (v := (.slice (some ⟨go8, 0, none⟩) t244.length co36)) (r_ HO249) (Kd.R_typed HO246.out) (by decide) hg); have n4_ := mk0 (blk_grown (g := gb251) (o := .cells #[.slice (some ⟨go8, 0, none⟩) t244.length co36, .slice Ao40 t247.length co40] 56 (0, 0)) (h_ BK251) hg (Kd.R_ne HO246.out BK251.out (by decide))); replace HO246 := mk0 (hp_); replace HB := mk0 ((by rw [hw]; exact bs_ (HB.out) GB8.out : Below w.heap.size w w44)); clear BK242 BK243 HO249 BK251; have BK242 := n0_; have BK243 := n1_; have HO249 := n3_; have BK251 := n4_; clear n0_ n1_ n3_ n4_ hg hw hp_; obtain ⟨hcz45_0, hcz45_1, hfz45_0, hfz45_1⟩ := c2_ BK251) | ((with_reducible refine gate_callee (f := 72) rfl ?_); refine goesL_ (some 26) rfl rfl Try.func72 (by kernel_rfl) rfl #[.agg #[.slice (some ⟨go8, 0, none⟩) y252.length co36, .slice Ao40 t247.length co40]] rfl (by (try simp only [List.map_toArray, List.map_cons, List.map_nil]); first | done | (rw [show y252.length = t244.length from (Kd.R_reads' HO246.out).1.symm] <;> rfl) | rfl | (simp only [List.length_drop, List.length_take]; rfl)) ?_; (with_reducible refine (page_may.calls k _ _ y252 _ _ t247 false _ ?side1 ?side2 ?side3 ?side4 A9.out).mono ?_); (case side1 => exact cr_ HO246); (case side2 => rw [show y252.length = t244.length from (Kd.R_reads' HO246.out).1.symm]; exact (Kd.R_reads' HO246.out).2.1); (case side3 => exact cr_ HO249); (case side4 => exact (Kd.R_reads' HO249.out).2.1); rintro e w46 ⟨rfl, hb⟩; refine ⟨_, rfl, ?_⟩; replace HO246 := mk0 (Kd.R_below (r_ HO246) hb); replace HO249 := mk0 (Kd.R_below (r_ HO249) hb); replace BK242 := mk0 (u_ BK242 hb); replace BK243 := mk0 (u_ BK243 hb); replace BK251 := mk0 (u_ BK251 hb); replace HB := mk0 (bt_ (b_ HB) hb); (try clear hb); obtain ⟨hcz47_0, hcz47_1, hfz47_0, hfz47_1⟩ := c2_ BK243))
     refine bodyPost_ret (results_ct rfl _ _ gb243 56 #[.slice none 0 0, .slice none 0 0] (0, 0) _ rfl (pu_ (cs := #[.slice none 0 0, .slice none 0 0]) (pu_ (cs := #[.slice none 0 0, .slice none 0 0]) (h_ BK243))) Try.underlying56 rfl (by kernel_rfl)) rfl ?_
     exact ⟨_, _, by first | rfl | (simp [errW_none, errW_some] <;> rfl) | (simp [*, errW_none, errW_some] <;> rfl), by first | exact Kd.R_nil _ _ _ _ _ | exact Kd.N_nil _ _ _ _ _ | exact Kd.V_nil _ _ _ _ _ | exact Kd.Q_nil _ _ _ _ _ | exact Kd.S_nil _ _ _ _ _, by first | exact Kd.R_nil _ _ _ _ _ | exact Kd.N_nil _ _ _ _ _ | exact Kd.V_nil _ _ _ _ _ | exact Kd.Q_nil _ _ _ _ _ | exact Kd.S_nil _ _ _ _ _, b_ HB⟩
   ·rw [if_neg c7] at H
    exact absurd H (by simp)
  ·rw [if_neg c6] at H
   exact absurd H (by simp)
 ·rw [if_neg c5] at H
  have c5b0 : (t250 == 0) = false := beq_eq_false_iff_ne.mpr c5
  have c5b1 : (t250 != 0) = true := bne_iff_ne.mpr c5
  simp only [Option.some.injEq, Prod.mk.injEq] at H
  obtain ⟨rfl, rfl, rfl⟩ := H
  go_enter Try.func80, Try.ntmps80
  go_wp2_with (first | ((with_reducible refine gate_dst (N := 3) rfl ?_); refine bx_ (N := 3) (cs := #[.slice A0_0 l0_0.length c0_0, .slice A0_1 l0_1.length c0_1]) (t := 56) (h := ?_); intro gb242 hg w48 hbox hb; have n2_ := mk0 (gz_ HB hg); have n3_ := mk0 (gz_ HB hg); replace HB := mk0 (bt_ (b_ HB) hb); have BK242 := mk0 (hbox); have GW242 := n2_; have GE242 := n3_; clear n2_ n3_; clear hb hbox hg) | ((with_reducible refine gate_dst (N := 6) rfl ?_); refine bx_ (N := 6) (cs := #[.slice none 0 0, .slice none 0 0]) (t := 56) (h := ?_); intro gb243 hg w49 hbox hb; have n3_ := mk0 (gz_ HB hg); have n4_ := mk0 (gz_ HB hg); have n5_ := mk0 (ne1_ BK242 hg); have n6_ := mk0 (ne2_ BK242 hg); replace BK242 := mk0 (u_ BK242 hb); replace HB := mk0 (bt_ (b_ HB) hb); have BK243 := mk0 (hbox); have GW243 := n3_; have GE243 := n4_; have NB242_243 := n5_; have NB243_242 := n6_; clear n3_ n4_ n5_ n6_ hb hbox hg; have hnb50 := NB242_243.out; have hnc50 := NB243_242.out; obtain ⟨hcz51_0, hcz51_1, hfz51_0, hfz51_1⟩ := c2_ BK242) | ((with_reducible refine gate_callee (f := 69) rfl ?_); refine gL_ (some 13) Try.func69 #[.agg #[.slice A0_0 l0_0.length c0_0, .slice A0_1 l0_1.length c0_1], .int .i64 a1] (h := ?_); (with_reducible refine (page_asked.calls k _ _ l0_0 _ _ l0_1 a1 t244 t247 t250 _ ?side1 ?side2 ?side3 ?side4 A4.out).mono ?_); (case side1 => exact cb_ HR0_0 HB); (case side2 => exact HC0_0.out); (case side3 => exact cb_ HR0_1 HB); (case side4 => exact HC0_1.out); rintro e w52 ⟨v245, v248, rfl, ho0, ho1, hb⟩; refine ⟨_, rfl, ?_⟩; have n0_ := mk0 (Kd.R_lower ho0 (bz_ (b_ HB))); have n1_ := mk0 (Kd.R_lower ho1 (bz_ (b_ HB))); replace BK242 := mk0 (u_ BK242 hb); replace BK243 := mk0 (u_ BK243 hb); replace HB := mk0 (bt_ (b_ HB) hb); have HO246 := n0_; have HO249 := n1_; clear n0_ n1_; (try clear hb); (try clear ho0); (try clear ho1)) | ((with_reducible refine gate_dst (N := 8) rfl ?_); refine bx_ (N := 8) (cs := #[.slice none 0 0, .slice none 0 0]) (t := 56) (h := ?_); intro gb251 hg w53 hbox hb; have n6_ := mk0 (gz_ HB hg); have n7_ := mk0 (gz_ HB hg); have n8_ := mk0 (ne1_ BK242 hg); have n9_ := mk0 (ne2_ BK242 hg); have n10_ := mk0 (ne1_ BK243 hg); have n11_ := mk0 (ne2_ BK243 hg); replace HO246 := mk0 (Kd.R_below (r_ HO246) hb); replace HO249 := mk0 (Kd.R_below (r_ HO249) hb); replace BK242 := mk0 (u_ BK242 hb); replace BK243 := mk0 (u_ BK243 hb); replace HB := mk0 (bt_ (b_ HB) hb); have BK251 := mk0 (hbox); have GW251 := n6_; have GE251 := n7_; have NB242_251 := n8_; have NB251_242 := n9_; have NB243_251 := n10_; have NB251_243 := n11_; clear n6_ n7_ n8_ n9_ n10_ n11_ hb hbox hg; obtain ⟨Ao54, co54, eo54⟩ := Kd.R_slice HO246.out; subst eo54; have hnb55 := NB251_242.out; have hnc55 := NB242_251.out; have hnb56 := NB251_243.out; have hnc56 := NB243_251.out; obtain ⟨hcz57_0, hcz57_1, hfz57_0, hfz57_1⟩ := c2_ BK251; obtain ⟨Ao58, co58, eo58⟩ := Kd.R_slice HO249.out; subst eo58; obtain ⟨hcz59_0, hcz59_1, hfz59_0, hfz59_1⟩ := c2_ BK243))
  refine bodyPost_ret (results_ct rfl _ _ gb243 56 #[.slice Ao54 t244.length co54, .slice Ao58 t247.length co58] (0, 0) _ rfl (pu_ (cs := #[.slice Ao54 t244.length co54, .slice none 0 0]) (pu_ (cs := #[.slice none 0 0, .slice none 0 0]) (fa_ (fa_ (h_ BK243) NB243_251.out) NB243_251.out))) Try.underlying56 rfl (by kernel_rfl)) rfl ?_
  exact ⟨_, _, by first | rfl | (simp [errW_none, errW_some] <;> rfl) | (simp [*, errW_none, errW_some] <;> rfl), by (with_reducible repeat (first | apply Ra_ | apply Rn_ | apply Rd_)); exact Kd.R_mono (Kd.R_far (p := ⟨gb243, 1, none⟩) (Kd.R_far (p := ⟨gb243, 0, none⟩) (Kd.R_far (p := ⟨gb251, 1, none⟩) (Kd.R_far (p := ⟨gb251, 0, none⟩) (Kd.R_types (Kd.R_types HO246.out BK251.out (by decide)) BK243.out (by decide)) (fun _ hk => hk.1.2) (.slice Ao54 t244.length co54)) (fun _ hk => hk.1.2) (.slice Ao58 t247.length co58)) (fun _ hk => hk.2) (.slice Ao54 t244.length co54)) (fun _ hk => hk.2) (.slice Ao58 t247.length co58)) (fun _ hk => trivial), by (with_reducible repeat (first | apply Ra_ | apply Rn_ | apply Rd_)); exact Kd.R_mono (Kd.R_far (p := ⟨gb243, 1, none⟩) (Kd.R_far (p := ⟨gb243, 0, none⟩) (Kd.R_far (p := ⟨gb251, 1, none⟩) (Kd.R_far (p := ⟨gb251, 0, none⟩) (Kd.R_types (Kd.R_types HO249.out BK251.out (by decide)) BK243.out (by decide)) (fun _ hk => hk.1.2) (.slice Ao54 t244.length co54)) (fun _ hk => hk.1.2) (.slice Ao58 t247.length co58)) (fun _ hk => hk.2) (.slice Ao54 t244.length co54)) (fun _ hk => hk.2) (.slice Ao58 t247.length co58)) (fun _ hk => trivial), b_ HB⟩

/-! ### quorumref0_In: function 132 -/
def quorumref0_In.l0 : Nat → List Int → Int → Int → Option (Int)
 | 0, _, _, _ => none
 | k + 1, x0, x1, x5 => if x5 < (x0.length : Int) then (if 0 ≤ x5 then (if (rd x0 x5) = x1 then (some x5) else (quorumref0_In.l0 k x0 x1 (wrap64 (x5 + 1)))) else (none)) else (some (-1))
def quorumref0_In.f (k : Nat) (l0 : List Int) (a1 : Int) : Option (Int) := quorumref0_In.l0 k l0 a1 0
theorem quorumref0_In.mono_l : ∀ k, (∀ y0 y1 y2, LeO (quorumref0_In.l0 k y0 y1 y2) (quorumref0_In.l0 (k + 1) y0 y1 y2))
 | 0 => fun _ _ _ r h => by simp [quorumref0_In.l0] at h
 | k + 1 => by
  have ih0 := quorumref0_In.mono_l k
  ·intro y0 y1 y2
   unfold quorumref0_In.l0
   repeat' first
   | (with_reducible exact ih0 _ _ _)
   | (with_reducible exact LeO.refl _)
   | (with_reducible exact LeO.none _)
   | (with_reducible refine LeO.ite ?_ ?_)
   | (with_reducible refine LeO.bind ?_ (fun _ => ?_))
   | exact ih0 _ _ _
   | exact LeO.none _
   | refine LeO.ite ?_ ?_
   | refine LeO.bind ?_ (fun _ => ?_)
theorem quorumref0_In.mono : ∀ a0 a1 k, LeO (quorumref0_In.f k a0 a1) (quorumref0_In.f (k + 1) a0 a1) := by
 intro a0 a1 k
 have ih0 := quorumref0_In.mono_l k
 unfold quorumref0_In.f
 repeat' first
   | (with_reducible exact ih0 _ _ _)
   | (with_reducible exact LeO.refl _)
   | (with_reducible exact LeO.none _)
   | (with_reducible refine LeO.ite ?_ ?_)
   | (with_reducible refine LeO.bind ?_ (fun _ => ?_))
   | exact ih0 _ _ _
   | exact LeO.none _
   | refine LeO.ite ?_ ?_
   | refine LeO.bind ?_ (fun _ => ?_)
set_option maxHeartbeats 8000000 in
set_option maxRecDepth 100000 in
theorem quorumref0_In.calls (k : Nat) (A0 : Option Addr) (c0 : Nat) (l0 : List Int) (a1 : Int) (r : Int) (w : World) (hr0 : Kd.C (Kd.int .i64) w A0 l0.length l0) (hc0 : l0.length ≤ c0) (h : quorumref0_In.f k l0 a1 = some r) :
  Calls Try.prog 132 #[.slice A0 l0.length c0, .int .i64 a1] w fun e w' => e = .returned (.int .i64 r) ∧ Drawn0 w w' := by
 have HR0 := mk0 hr0
 have HC0 := mk0 hc0
 clear hr0 hc0
 have H : (quorumref0_In.l0 k l0 a1 0) = some r := h
 clear h
 have H' := mk0 H
 clear H
 go_enter Try.func132, Try.ntmps132
 go_wp2
 go_loopg [5] k (fun kq v5 w' => ∃ (x5_1 : Int), v5 = .int .i64 x5_1 ∧ Fc (quorumref0_In.l0 kq l0 a1 x5_1 = some r) ∧ Fc (kq ≤ k) ∧ Drawn0 w w')
 case atStart => exact ⟨(0), (by first | rfl | (simp; done) | (simp [*]; done)), H', ⟨Nat.le_refl _⟩, by repeat (first | exact Drawn0.refl _ | apply Drawn0.step)⟩
 case round =>
  clear H'
  obtain ⟨x5_1, rfl, HA, HK1, ⟨m1, rfl⟩⟩ := hrel
  cases gk with
  | zero => exact absurd HA.out (by simp [quorumref0_In.l0])
  | succ k1 =>
   have H := HA.out
   clear HA
   simp only [quorumref0_In.l0] at H
   as_aux_lemma =>
    by_cases c3 : x5_1 < (l0.length : Int)
    ·rw [if_pos c3] at H
     have c3b0 : decide (x5_1 < (l0.length : Int)) = true := decide_eq_true c3
     clear c3
     by_cases c4 : 0 ≤ x5_1
     ·rw [if_pos c4] at H
      have c4b0 : decide (0 ≤ x5_1) = true := decide_eq_true c4
      clear c4
      by_cases c5 : (rd l0 x5_1) = a1
      ·rw [if_pos c5] at H
       have c5b0 : ((rd l0 x5_1) == a1) = true := beq_iff_eq.mpr c5
       have c5b1 : ((rd l0 x5_1) != a1) = false := bne_eq_false_iff_eq.mpr c5
       clear c5
       obtain rfl := Option.some.inj H
       have p254 : 0 ≤ (x5_1 : Int) := of_decide_eq_true (by first | (with_reducible assumption) | assumption)
       have q254 : x5_1 < (l0.length : Int) := of_decide_eq_true (by first | (with_reducible assumption) | assumption)
       obtain ⟨ad254, e254, hx254_0⟩ := Kd.at_int HR0.out x5_1 p254 q254
       cases e254
       replace p254 := eq_true p254
       replace q254 := eq_true q254
       go_wp2
       go_ret
       exact ⟨by first | rfl | (simp; done) | (simp [*]; done), by repeat (first | exact Drawn0.refl _ | apply Drawn0.step)⟩
      ·rw [if_neg c5] at H
       have c5b0 : ((rd l0 x5_1) == a1) = false := beq_eq_false_iff_ne.mpr c5
       have c5b1 : ((rd l0 x5_1) != a1) = true := bne_iff_ne.mpr c5
       have H' := mk0 H
       clear H
       have p254 : 0 ≤ (x5_1 : Int) := of_decide_eq_true (by first | (with_reducible assumption) | assumption)
       have q254 : x5_1 < (l0.length : Int) := of_decide_eq_true (by first | (with_reducible assumption) | assumption)
       obtain ⟨ad254, e254, hx254_0⟩ := Kd.at_int HR0.out x5_1 p254 q254
       cases e254
       replace p254 := eq_true p254
       replace q254 := eq_true q254
       go_wp2
       go_roundg k1
       case measure => have := HK1.out; omega
       case rel => exact ⟨(wrap64 (x5_1 + 1)), (by first | rfl | (simp; done) | (simp [*]; done)), H', ⟨by have := HK1.out; omega⟩, by repeat (first | exact Drawn0.refl _ | apply Drawn0.step)⟩
     ·rw [if_neg c4] at H
      exact absurd H (by simp)
    ·rw [if_neg c3] at H
     have c3b0 : decide (x5_1 < (l0.length : Int)) = false := decide_eq_false c3
     clear c3
     obtain rfl := Option.some.inj H
     go_wp2
     go_ret
     exact ⟨by first | rfl | (simp; done) | (simp [*]; done), by repeat (first | exact Drawn0.refl _ | apply Drawn0.step)⟩

/-! ### quorumref4_There: function 84 -/
def quorumref4_There.f (k : Nat) (l0_0 : List ByteArray) (l0_1 : List Int) (a1 : Int) : Option (Bool) := (quorumref0_Num.f a1 (wrap64 ((l0_0.length : Int) - 1))).bind fun t256 => (if t256 = true then ((quorumref0_In.f k l0_1 a1).bind fun t257 => (some (decide (t257 < 0)))) else (some false))
theorem quorumref4_There.mono : ∀ a0 a1 a2 k, LeO (quorumref4_There.f k a0 a1 a2) (quorumref4_There.f (k + 1) a0 a1 a2) := by
 intro a0 a1 a2 k
 unfold quorumref4_There.f
 repeat' first
   | (with_reducible exact quorumref0_In.mono _ _ _)
   | (with_reducible exact LeO.refl _)
   | (with_reducible exact LeO.none _)
   | (with_reducible refine LeO.ite ?_ ?_)
   | (with_reducible refine LeO.bind ?_ (fun _ => ?_))
   | exact quorumref0_In.mono _ _ _
   | exact LeO.none _
   | refine LeO.ite ?_ ?_
   | refine LeO.bind ?_ (fun _ => ?_)
set_option maxHeartbeats 8000000 in
set_option maxRecDepth 100000 in
theorem quorumref4_There.calls (k : Nat) (A0_0 : Option Addr) (c0_0 : Nat) (l0_0 : List ByteArray) (A0_1 : Option Addr) (c0_1 : Nat) (l0_1 : List Int) (a1 : Int) (r : Bool) (w : World) (hr0_0 : Kd.C Kd.string w A0_0 l0_0.length l0_0) (hc0_0 : l0_0.length ≤ c0_0) (hr0_1 : Kd.C (Kd.int .i64) w A0_1 l0_1.length l0_1) (hc0_1 : l0_1.length ≤ c0_1) (h : quorumref4_There.f k l0_0 l0_1 a1 = some r) :
  Calls Try.prog 84 #[.agg #[.slice A0_0 l0_0.length c0_0, .slice A0_1 l0_1.length c0_1], .int .i64 a1] w fun e w' => e = .returned (.bool r) ∧ Below w.heap.size w w' := by
 have hu56 := Try.underlying56
 have HR0_0 := mk0 hr0_0
 have HC0_0 := mk0 hc0_0
 clear hr0_0 hc0_0
 have HR0_1 := mk0 hr0_1
 have HC0_1 := mk0 hc0_1
 clear hr0_1 hc0_1
 have HB := mk0 (Below.refl w.heap.size w)
 have H : ((quorumref0_Num.f a1 (wrap64 ((l0_0.length : Int) - 1))).bind fun t256 => (if t256 = true then ((quorumref0_In.f k l0_1 a1).bind fun t257 => (some (decide (t257 < 0)))) else (some false))) = some r := h
 clear h
 replace H := Option.bind_eq_some_iff.mp H
 obtain ⟨t256, A30, H⟩ := H
 try dsimp only at H
 have A3 := mk0 A30
 clear A30
 by_cases c4 : t256 = true
 ·subst c4
  rw [if_pos rfl] at H
  replace H := Option.bind_eq_some_iff.mp H
  obtain ⟨t257, A50, H⟩ := H
  try dsimp only at H
  have A5 := mk0 A50
  clear A50
  obtain rfl := Option.some.inj H
  go_enter Try.func84, Try.ntmps84
  go_wp2_with (first | ((with_reducible refine gate_dst (N := 2) rfl ?_); refine bx_ (N := 2) (cs := #[.slice A0_0 l0_0.length c0_0, .slice A0_1 l0_1.length c0_1]) (t := 56) (h := ?_); intro gb255 hg w6 hbox hb; have n2_ := mk0 (gz_ HB hg); have n3_ := mk0 (gz_ HB hg); replace HB := mk0 (bt_ (b_ HB) hb); have BK255 := mk0 (hbox); have GW255 := n2_; have GE255 := n3_; clear n2_ n3_ hb hbox hg; obtain ⟨hcz7_0, hcz7_1, hfz7_0, hfz7_1⟩ := c2_ BK255) | ((with_reducible refine gate_callee (f := 37) rfl ?_); refine gL_ (some 10) Try.func37 #[.int .i64 a1, .int .i64 (wrap64 ((l0_0.length : Int) - 1))] (h := ?_); (with_reducible refine (quorumref0_Num.calls a1 (wrap64 ((l0_0.length : Int) - 1)) true _ A3.out).mono ?_); rintro e w' ⟨rfl, ⟨nd, rfl⟩⟩; refine ⟨_, rfl, ?_⟩) | (go_at_call 132; (with_reducible refine (quorumref0_In.calls k _ _ l0_1 a1 t257 _ ?side1 ?side2 A5.out).mono ?_); (case side1 => repeat (first | exact (Kd.C_below HR0_1.out (b_ HB)) | (with_reducible refine Kd.C_alloc ?_ _) | (with_reducible refine Kd.C_drewN ?_ _) | (with_reducible refine Kd.C_drew ?_))); (case side2 => exact HC0_1.out); rintro e w' ⟨rfl, ⟨nd, rfl⟩⟩))
  go_ret
  exact ⟨by first | rfl | (simp [errW_none, errW_some] <;> rfl) | (simp [*, errW_none, errW_some] <;> rfl), b_ HB⟩
 ·replace c4 := Bool.eq_false_iff.mpr c4
  subst c4
  rw [if_neg (show ¬ (false = true) by decide)] at H
  obtain rfl := Option.some.inj H
  go_enter Try.func84, Try.ntmps84
  go_wp2_with (first | ((with_reducible refine gate_dst (N := 2) rfl ?_); refine bx_ (N := 2) (cs := #[.slice A0_0 l0_0.length c0_0, .slice A0_1 l0_1.length c0_1]) (t := 56) (h := ?_); intro gb255 hg w8 hbox hb; have n2_ := mk0 (gz_ HB hg); have n3_ := mk0 (gz_ HB hg); replace HB := mk0 (bt_ (b_ HB) hb); have BK255 := mk0 (hbox); have GW255 := n2_; have GE255 := n3_; clear n2_ n3_ hb hbox hg; obtain ⟨hcz9_0, hcz9_1, hfz9_0, hfz9_1⟩ := c2_ BK255) | ((with_reducible refine gate_callee (f := 37) rfl ?_); refine gL_ (some 10) Try.func37 #[.int .i64 a1, .int .i64 (wrap64 ((l0_0.length : Int) - 1))] (h := ?_); (with_reducible refine (quorumref0_Num.calls a1 (wrap64 ((l0_0.length : Int) - 1)) false _ A3.out).mono ?_); rintro e w' ⟨rfl, ⟨nd, rfl⟩⟩; refine ⟨_, rfl, ?_⟩))
  go_ret
  exact ⟨by first | rfl | (simp [errW_none, errW_some] <;> rfl) | (simp [*, errW_none, errW_some] <;> rfl), b_ HB⟩

/-! ### quorumref4_Set: function 81 -/
def quorumref4_Set.f (k : Nat) (l0_0 : List ByteArray) (l0_1 : List Int) (a1 : Int) (a2 : ByteArray) : Option (List ByteArray × List Int × Int) := (quorumref4_There.f k l0_0 l0_1 a1).bind fun t260 => (if t260 = true then ((quorumref0_CopyPage.f k l0_0 l0_1).bind fun bt261 => (if 0 ≤ a1 then (if a1 < (bt261.1.length : Int) then ((some (bt261.1.set (a1 : Int).toNat a2 : List ByteArray)).bind fun y267 => ((quorumref4_Bytes.f k y267 bt261.2).bind fun t268 => (if t268 > 200 then (some (([] : List ByteArray), ([] : List Int), 5)) else (some (y267, bt261.2, 0))))) else (none)) else (none))) else (some (([] : List ByteArray), ([] : List Int), 3)))
theorem quorumref4_Set.mono : ∀ a0 a1 a2 a3 k, LeO (quorumref4_Set.f k a0 a1 a2 a3) (quorumref4_Set.f (k + 1) a0 a1 a2 a3) := by
 intro a0 a1 a2 a3 k
 unfold quorumref4_Set.f
 repeat' first
   | (with_reducible exact quorumref0_CopyPage.mono _ _ _)
   | (with_reducible exact quorumref4_Bytes.mono _ _ _)
   | (with_reducible exact quorumref4_There.mono _ _ _ _)
   | (with_reducible exact LeO.refl _)
   | (with_reducible exact LeO.none _)
   | (with_reducible refine LeO.ite ?_ ?_)
   | (with_reducible refine LeO.bind ?_ (fun _ => ?_))
   | exact quorumref0_CopyPage.mono _ _ _
   | exact quorumref4_Bytes.mono _ _ _
   | exact quorumref4_There.mono _ _ _ _
   | exact LeO.none _
   | refine LeO.ite ?_ ?_
   | refine LeO.bind ?_ (fun _ => ?_)
set_option maxHeartbeats 8000000 in
set_option maxRecDepth 100000 in
theorem quorumref4_Set.calls (k : Nat) (A0_0 : Option Addr) (c0_0 : Nat) (l0_0 : List ByteArray) (A0_1 : Option Addr) (c0_1 : Nat) (l0_1 : List Int) (a1 : Int) (a2 : ByteArray) (r1 : List ByteArray) (r2 : List Int) (r3 : Int) (w : World) (hr0_0 : Kd.C Kd.string w A0_0 l0_0.length l0_0) (hc0_0 : l0_0.length ≤ c0_0) (hr0_1 : Kd.C (Kd.int .i64) w A0_1 l0_1.length l0_1) (hc0_1 : l0_1.length ≤ c0_1) (h : quorumref4_Set.f k l0_0 l0_1 a1 a2 = some (r1, r2, r3)) :
  Calls Try.prog 81 #[.agg #[.slice A0_0 l0_0.length c0_0, .slice A0_1 l0_1.length c0_1], .int .i64 a1, .string a2] w fun e w' => ∃ v0_ v1_ : Value, e = .returned (.tuple #[.agg #[v0_, v1_], .int .i64 r3]) ∧ Kd.R Kd.string 9 w' w.heap.size (fun _ => True) v0_ r1 ∧ Kd.R (Kd.int .i64) 3 w' w.heap.size (fun _ => True) v1_ r2 ∧ Below w.heap.size w w' := by
 have hu56 := Try.underlying56
 have HR0_0 := mk0 hr0_0
 have HC0_0 := mk0 hc0_0
 clear hr0_0 hc0_0
 have HR0_1 := mk0 hr0_1
 have HC0_1 := mk0 hc0_1
 clear hr0_1 hc0_1
 have HB := mk0 (Below.refl w.heap.size w)
 have H : ((quorumref4_There.f k l0_0 l0_1 a1).bind fun t260 => (if t260 = true then ((quorumref0_CopyPage.f k l0_0 l0_1).bind fun bt261 => (if 0 ≤ a1 then (if a1 < (bt261.1.length : Int) then ((some (bt261.1.set (a1 : Int).toNat a2 : List ByteArray)).bind fun y267 => ((quorumref4_Bytes.f k y267 bt261.2).bind fun t268 => (if t268 > 200 then (some (([] : List ByteArray), ([] : List Int), 5)) else (some (y267, bt261.2, 0))))) else (none)) else (none))) else (some (([] : List ByteArray), ([] : List Int), 3)))) = some (r1, r2, r3) := h
 clear h
 replace H := Option.bind_eq_some_iff.mp H
 obtain ⟨t260, A40, H⟩ := H
 try dsimp only at H
 have A4 := mk0 A40
 clear A40
 by_cases c5 : t260 = true
 focus
  subst c5
  rw [if_pos rfl] at H
  replace H := Option.bind_eq_some_iff.mp H
  obtain ⟨⟨t261, t264⟩, A60, H⟩ := H
  try dsimp only at H
  have A6 := mk0 A60
  clear A60
  by_cases c7 : 0 ≤ a1
  focus
   rw [if_pos c7] at H
   have c7b0 : decide (0 ≤ a1) = true := decide_eq_true c7
   clear c7
   by_cases c8 : a1 < (t261.length : Int)
   focus
    rw [if_pos c8] at H
    have c8b0 : decide (a1 < (t261.length : Int)) = true := decide_eq_true c8
    clear c8
    obtain ⟨y267, hy267⟩ : ∃ y_ : List ByteArray, y_ = (t261.set (a1 : Int).toNat a2) := ⟨_, rfl⟩
    replace H : ((quorumref4_Bytes.f k y267 t264).bind fun t268 => (if t268 > 200 then (some (([] : List ByteArray), ([] : List Int), 5)) else (some (y267, t264, 0)))) = some (r1, r2, r3) := by first | (rw [hy267]; with_reducible exact H) | (have H2_ := (Option.bind_some _ _).symm.trans H; rw [hy267]; with_reducible exact H2_) | (have H2_ := (Option.bind_some _ _).symm.trans H; with_reducible exact H2_) | with_reducible exact H | (rw [hy267]; exact H) | exact H
    have Ny267 := mk0 hy267
    clear hy267
    replace H := Option.bind_eq_some_iff.mp H
    obtain ⟨t268, A100, H⟩ := H
    try dsimp only at H
    have A10 := mk0 A100
    clear A100
    by_cases c11 : t268 > 200
    focus
     rw [if_pos c11] at H
     have c11b0 : decide (200 < t268) = true := decide_eq_true c11
     clear c11
     simp only [Option.some.injEq, Prod.mk.injEq] at H
     obtain ⟨rfl, rfl, rfl⟩ := H
     go_enter Try.func81, Try.ntmps81
    rotate_left 1
    focus
     rw [if_neg c11] at H
     have c11b0 : decide (200 < t268) = false := decide_eq_false c11
     clear c11
     simp only [Option.some.injEq, Prod.mk.injEq] at H
     obtain ⟨rfl, rfl, rfl⟩ := H
     go_enter Try.func81, Try.ntmps81
    rotate_right 1
   rotate_left 2
   ·rw [if_neg c8] at H
    exact absurd H (by simp)
  rotate_left 2
  ·rw [if_neg c7] at H
   exact absurd H (by simp)
 rotate_left 2
 focus
  replace c5 := Bool.eq_false_iff.mpr c5
  subst c5
  rw [if_neg (show ¬ (false = true) by decide)] at H
  simp only [Option.some.injEq, Prod.mk.injEq] at H
  obtain ⟨rfl, rfl, rfl⟩ := H
  go_enter Try.func81, Try.ntmps81
 rotate_right 2
 all_goals go_wp2_with (first | ((with_reducible refine gate_dst (N := 3) rfl ?_); refine bx_ (N := 3) (cs := #[.slice A0_0 l0_0.length c0_0, .slice A0_1 l0_1.length c0_1]) (t := 56) (h := ?_); intro gb258 hg w29 hbox hb; have n2_ := mk0 (gz_ HB hg); have n3_ := mk0 (gz_ HB hg); replace HB := mk0 (bt_ (b_ HB) hb); have BK258 := mk0 (hbox); have GW258 := n2_; have GE258 := n3_; clear n2_ n3_; clear hb hbox hg) | ((with_reducible refine gate_dst (N := 6) rfl ?_); refine bx_ (N := 6) (cs := #[.slice none 0 0, .slice none 0 0]) (t := 56) (h := ?_); intro gb259 hg w30 hbox hb; have n3_ := mk0 (gz_ HB hg); have n4_ := mk0 (gz_ HB hg); have n5_ := mk0 (ne1_ BK258 hg); have n6_ := mk0 (ne2_ BK258 hg); replace BK258 := mk0 (u_ BK258 hb); replace HB := mk0 (bt_ (b_ HB) hb); have BK259 := mk0 (hbox); have GW259 := n3_; have GE259 := n4_; have NB258_259 := n5_; have NB259_258 := n6_; clear n3_ n4_ n5_ n6_ hb hbox hg; have hnb31 := NB258_259.out; have hnc31 := NB259_258.out; obtain ⟨hcz32_0, hcz32_1, hfz32_0, hfz32_1⟩ := c2_ BK258) | ((with_reducible refine gate_callee (f := 84) rfl ?_); refine gL_ (some 10) Try.func84 #[.agg #[.slice A0_0 l0_0.length c0_0, .slice A0_1 l0_1.length c0_1], .int .i64 a1] (h := ?_); (with_reducible refine (quorumref4_There.calls k _ _ l0_0 _ _ l0_1 a1 true _ ?side1 ?side2 ?side3 ?side4 A4.out).mono ?_); (case side1 => exact cb_ HR0_0 HB); (case side2 => exact HC0_0.out); (case side3 => exact cb_ HR0_1 HB); (case side4 => exact HC0_1.out); rintro e w33 ⟨rfl, hb⟩; refine ⟨_, rfl, ?_⟩; replace BK258 := mk0 (u_ BK258 hb); replace BK259 := mk0 (u_ BK259 hb); replace HB := mk0 (bt_ (b_ HB) hb); (try clear hb); obtain ⟨hcz34_0, hcz34_1, hfz34_0, hfz34_1⟩ := c2_ BK258; (try obtain ⟨hcz52_0, hcz52_1, hfz52_0, hfz52_1⟩ := c2_ BK259)) | ((with_reducible refine gate_callee (f := 42) rfl ?_); refine gL_ (some 14) Try.func42 #[.agg #[.slice A0_0 l0_0.length c0_0, .slice A0_1 l0_1.length c0_1]] (h := ?_); (with_reducible refine (quorumref0_CopyPage.calls k _ _ l0_0 _ _ l0_1 t261 t264 _ ?side1 ?side2 ?side3 ?side4 A6.out).mono ?_); (case side1 => exact cb_ HR0_0 HB); (case side2 => exact HC0_0.out); (case side3 => exact cb_ HR0_1 HB); (case side4 => exact HC0_1.out); rintro e w35 ⟨v262, v265, rfl, ho0, ho1, hb⟩; refine ⟨_, rfl, ?_⟩; have n0_ := mk0 (Kd.R_lower ho0 (bz_ (b_ HB))); have n1_ := mk0 (Kd.R_lower ho1 (bz_ (b_ HB))); replace BK258 := mk0 (u_ BK258 hb); replace BK259 := mk0 (u_ BK259 hb); replace HB := mk0 (bt_ (b_ HB) hb); have HO263 := n0_; have HO266 := n1_; clear n0_ n1_; (try clear hb); (try clear ho0); (try clear ho1); obtain ⟨Ao36, co36, eo36⟩ := Kd.R_slice HO263.out; subst eo36; obtain ⟨hcz37_0, hcz37_1, hfz37_0, hfz37_1⟩ := c2_ BK258; obtain ⟨Ao38, co38, eo38⟩ := Kd.R_slice HO266.out; subst eo38) | ((with_reducible refine gate_store (t := 56) (p := 3) rfl ?_); refine sv_ (t := 56) (p := 3) (w1 := ((w35.setCell ⟨gb258, 0, none⟩ (.slice Ao36 t261.length co36)).setCell ⟨gb258, 1, none⟩ (.slice Ao38 t264.length co38))) (h := ?_); intro w39 hw; have n0_ : Fc (Kd.R Kd.string 9 w39 w.heap.size (fun _ => True) (.slice Ao36 t261.length co36) t261) := ⟨(by rw [hw]; exact (r2_ (Kd.R_mono (Kd.R_far (p := ⟨gb258, 1, none⟩) (Kd.R_far (p := ⟨gb258, 0, none⟩) (Kd.R_types HO263.out BK258.out (by decide)) (fun _ hk => hk.2) (.slice Ao36 t261.length co36)) (fun _ hk => hk.2) (.slice Ao38 t264.length co38)) (fun _ hk => trivial))))⟩; have n1_ : Fc (Kd.R (Kd.int .i64) 3 w39 w.heap.size (fun _ => True) (.slice Ao38 t264.length co38) t264) := ⟨(by rw [hw]; exact (r2_ (Kd.R_mono (Kd.R_far (p := ⟨gb258, 1, none⟩) (Kd.R_far (p := ⟨gb258, 0, none⟩) (Kd.R_types HO266.out BK258.out (by decide)) (fun _ hk => hk.2) (.slice Ao36 t261.length co36)) (fun _ hk => hk.2) (.slice Ao38 t264.length co38)) (fun _ hk => trivial))))⟩; have n2_ : Fc (w39.heap[gb258]? = some (.cells #[.slice Ao36 t261.length co36, .slice Ao38 t264.length co38] 56 (0, 0))) := ⟨(by rw [hw]; exact (pu_ (cs := #[.slice Ao36 t261.length co36, .slice A0_1 l0_1.length c0_1]) (pu_ (cs := #[.slice A0_0 l0_0.length c0_0, .slice A0_1 l0_1.length c0_1]) (h_ BK258))))⟩; have n3_ : Fc (w39.heap[gb259]? = some (.cells #[.slice none 0 0, .slice none 0 0] 56 (0, 0))) := ⟨(by rw [hw]; exact (fa_ (fa_ (h_ BK259) NB259_258.out) NB259_258.out))⟩; have n4_ : Fc (Below w.heap.size w w39) := ⟨(by rw [hw]; exact (b_ HB))⟩; clear hw HO263 HO266 BK258 BK259 HB; have HO263 := n0_; have HO266 := n1_; have BK258 := n2_; have BK259 := n3_; have HB := n4_; clear n0_ n1_ n2_ n3_ n4_; obtain ⟨hcz40_0, hcz40_1, hfz40_0, hfz40_1⟩ := c2_ BK258; have p9 : 0 ≤ (a1 : Int) := of_decide_eq_true (by first | (with_reducible assumption) | assumption); have q9 : (a1 : Int) < ((t261.length : Int) : Int) := of_decide_eq_true (by first | (with_reducible assumption) | assumption); obtain ⟨go9, co9, eo9, gb9, gl9, cl9, HG9⟩ := Kd.R_form HO263.out (by omega); (first | cases eo9 | (injection eo9 with ea_ en_ ec_; (first | subst ea_ | (injection ea_ with ea_; subst ea_)); subst ec_; clear en_)); have GB9 := mk0 gb9; have GG9 := mk0 HG9; clear gb9 gl9 HG9; obtain ⟨hx9_0, hf9_0⟩ := Kd.R_celln (⟨#[]⟩ : ByteArray) HO263.out (a1 : Int) p9 q9; replace p9 := eq_true p9; replace q9 := eq_true q9; obtain ⟨hy41_, hz41_⟩ := Kd.R_celln (⟨#[]⟩ : ByteArray) HO263.out (a1 : Int) (of_decide_eq_true (by first | (with_reducible assumption) | assumption)) (of_decide_eq_true (by first | (with_reducible assumption) | assumption)); have HP41 := Kd.R_putg HO263.out (a1 : Int) a2) | ((with_reducible refine gate_store (t := 9) (p := 19) rfl ?_); refine sv_ (t := 9) (p := 19) (w1 := (w39.setCell ⟨go9, (a1 : Int).toNat, none⟩ (.string a2))) (h := ?_); intro w42 hw; have hg : w39.grownBy w42 (some go9) := (by rw [hw]; exact HP41.2); have hp_ : Kd.R Kd.string 9 w42 w.heap.size (fun _ => True) (.slice (some ⟨go9, 0, none⟩) t261.length co36) y267 := (by rw [hw, Ny267.out]; exact HP41.1); clear HP41; have n0_ := mk0 (blk_grown (g := gb258) (o := .cells #[.slice (some ⟨go9, 0, none⟩) t261.length co36, .slice Ao38 t264.length co38] 56 (0, 0)) (h_ BK258) hg (Kd.R_ne HO263.out BK258.out (by decide))); have n1_ := mk0 (blk_grown (g := gb259) (o := .cells #[.slice none 0 0, .slice none 0 0] 56 (0, 0)) (h_ BK259) hg (Kd.R_ne HO263.out BK259.out (by decide))); have n3_ := mk0 (Kd.R_over' (v := (.slice (some ⟨go9, 0, none⟩) t261.length co36)) (r_ HO266) (Kd.R_typed HO263.out) (by decide) hg); replace HO263 := mk0 (hp_); replace HB := mk0 ((by rw [hw]; exact bs_ (HB.out) GB9.out : Below w.heap.size w w42)); clear BK258 BK259 HO266; have BK258 := n0_; have BK259 := n1_; have HO266 := n3_; clear n0_ n1_ n3_ hg hw hp_; obtain ⟨hcz43_0, hcz43_1, hfz43_0, hfz43_1⟩ := c2_ BK258) | ((with_reducible refine gate_callee (f := 77) rfl ?_); refine goesL_ (some 21) rfl rfl Try.func77 (by kernel_rfl) rfl #[.agg #[.slice (some ⟨go9, 0, none⟩) y267.length co36, .slice Ao38 t264.length co38]] rfl (by (try simp only [List.map_toArray, List.map_cons, List.map_nil]); first | done | (rw [show y267.length = t261.length from (Kd.R_reads' HO263.out).1.symm] <;> rfl) | rfl | (simp only [List.length_drop, List.length_take]; rfl)) ?_; (with_reducible refine (quorumref4_Bytes.calls k _ _ y267 _ _ t264 t268 _ ?side1 ?side2 ?side3 ?side4 A10.out).mono ?_); (case side1 => exact cr_ HO263); (case side2 => rw [show y267.length = t261.length from (Kd.R_reads' HO263.out).1.symm]; exact (Kd.R_reads' HO263.out).2.1); (case side3 => exact cr_ HO266); (case side4 => exact (Kd.R_reads' HO266.out).2.1); rintro e w44 ⟨rfl, hb⟩; refine ⟨_, rfl, ?_⟩; replace HO263 := mk0 (Kd.R_below (r_ HO263) hb); replace HO266 := mk0 (Kd.R_below (r_ HO266) hb); replace BK258 := mk0 (u_ BK258 hb); replace BK259 := mk0 (u_ BK259 hb); replace HB := mk0 (bt_ (b_ HB) hb); (try clear hb); obtain ⟨hcz45_0, hcz45_1, hfz45_0, hfz45_1⟩ := c2_ BK258; obtain ⟨hcz46_0, hcz46_1, hfz46_0, hfz46_1⟩ := c2_ BK259) | ((with_reducible refine gate_callee (f := 77) rfl ?_); refine goesL_ (some 21) rfl rfl Try.func77 (by kernel_rfl) rfl #[.agg #[.slice (some ⟨go9, 0, none⟩) y267.length co36, .slice Ao38 t264.length co38]] rfl (by (try simp only [List.map_toArray, List.map_cons, List.map_nil]); first | done | (rw [show y267.length = t261.length from (Kd.R_reads' HO263.out).1.symm] <;> rfl) | rfl | (simp only [List.length_drop, List.length_take]; rfl)) ?_; (with_reducible refine (quorumref4_Bytes.calls k _ _ y267 _ _ t264 t268 _ ?side1 ?side2 ?side3 ?side4 A10.out).mono ?_); (case side1 => exact cr_ HO263); (case side2 => rw [show y267.length = t261.length from (Kd.R_reads' HO263.out).1.symm]; exact (Kd.R_reads' HO263.out).2.1); (case side3 => exact cr_ HO266); (case side4 => exact (Kd.R_reads' HO266.out).2.1); rintro e w27 ⟨rfl, hb⟩; refine ⟨_, rfl, ?_⟩; replace HO263 := mk0 (Kd.R_below (r_ HO263) hb); replace HO266 := mk0 (Kd.R_below (r_ HO266) hb); replace BK258 := mk0 (u_ BK258 hb); replace BK259 := mk0 (u_ BK259 hb); replace HB := mk0 (bt_ (b_ HB) hb); (try clear hb); obtain ⟨hcz28_0, hcz28_1, hfz28_0, hfz28_1⟩ := c2_ BK259; (try obtain ⟨hcz45_0, hcz45_1, hfz45_0, hfz45_1⟩ := c2_ BK258)) | ((with_reducible refine gate_callee (f := 84) rfl ?_); refine gL_ (some 10) Try.func84 #[.agg #[.slice A0_0 l0_0.length c0_0, .slice A0_1 l0_1.length c0_1], .int .i64 a1] (h := ?_); (with_reducible refine (quorumref4_There.calls k _ _ l0_0 _ _ l0_1 a1 false _ ?side1 ?side2 ?side3 ?side4 A4.out).mono ?_); (case side1 => exact cb_ HR0_0 HB); (case side2 => exact HC0_0.out); (case side3 => exact cb_ HR0_1 HB); (case side4 => exact HC0_1.out); rintro e w51 ⟨rfl, hb⟩; refine ⟨_, rfl, ?_⟩; replace BK258 := mk0 (u_ BK258 hb); replace BK259 := mk0 (u_ BK259 hb); replace HB := mk0 (bt_ (b_ HB) hb); (try clear hb); obtain ⟨hcz52_0, hcz52_1, hfz52_0, hfz52_1⟩ := c2_ BK259; (try obtain ⟨hcz34_0, hcz34_1, hfz34_0, hfz34_1⟩ := c2_ BK258)))
 ·refine bodyPost_ret (results_ct rfl _ _ gb259 56 #[.slice none 0 0, .slice none 0 0] (0, 0) _ rfl (pu_ (cs := #[.slice none 0 0, .slice none 0 0]) (pu_ (cs := #[.slice none 0 0, .slice none 0 0]) (h_ BK259))) Try.underlying56 rfl (by kernel_rfl)) rfl ?_
  exact ⟨_, _, by first | rfl | (simp [errW_none, errW_some] <;> rfl) | (simp [*, errW_none, errW_some] <;> rfl), by first | exact Kd.R_nil _ _ _ _ _ | exact Kd.N_nil _ _ _ _ _ | exact Kd.V_nil _ _ _ _ _ | exact Kd.Q_nil _ _ _ _ _ | exact Kd.S_nil _ _ _ _ _, by first | exact Kd.R_nil _ _ _ _ _ | exact Kd.N_nil _ _ _ _ _ | exact Kd.V_nil _ _ _ _ _ | exact Kd.Q_nil _ _ _ _ _ | exact Kd.S_nil _ _ _ _ _, b_ HB⟩
 ·refine bodyPost_ret (results_ct rfl _ _ gb259 56 #[.slice (some ⟨go9, 0, none⟩) t261.length co36, .slice Ao38 t264.length co38] (0, 0) _ rfl (pu_ (cs := #[.slice (some ⟨go9, 0, none⟩) t261.length co36, .slice none 0 0]) (pu_ (cs := #[.slice none 0 0, .slice none 0 0]) (h_ BK259))) Try.underlying56 rfl (by kernel_rfl)) rfl ?_
  exact ⟨_, _, by first | rfl | (simp [errW_none, errW_some] <;> rfl) | (simp [*, errW_none, errW_some] <;> rfl), by (with_reducible repeat (first | apply Ra_ | apply Rn_ | apply Rd_)); exact Kd.R_mono (Kd.R_far (p := ⟨gb259, 1, none⟩) (Kd.R_far (p := ⟨gb259, 0, none⟩) (Kd.R_types HO263.out BK259.out (by decide)) (fun _ hk => hk.2) (.slice (some ⟨go9, 0, none⟩) t261.length co36)) (fun _ hk => hk.2) (.slice Ao38 t264.length co38)) (fun _ hk => trivial), by (with_reducible repeat (first | apply Ra_ | apply Rn_ | apply Rd_)); exact Kd.R_mono (Kd.R_far (p := ⟨gb259, 1, none⟩) (Kd.R_far (p := ⟨gb259, 0, none⟩) (Kd.R_types HO266.out BK259.out (by decide)) (fun _ hk => hk.2) (.slice (some ⟨go9, 0, none⟩) t261.length co36)) (fun _ hk => hk.2) (.slice Ao38 t264.length co38)) (fun _ hk => trivial), b_ HB⟩
 ·refine bodyPost_ret (results_ct rfl _ _ gb259 56 #[.slice none 0 0, .slice none 0 0] (0, 0) _ rfl (pu_ (cs := #[.slice none 0 0, .slice none 0 0]) (pu_ (cs := #[.slice none 0 0, .slice none 0 0]) (h_ BK259))) Try.underlying56 rfl (by kernel_rfl)) rfl ?_
  exact ⟨_, _, by first | rfl | (simp [errW_none, errW_some] <;> rfl) | (simp [*, errW_none, errW_some] <;> rfl), by first | exact Kd.R_nil _ _ _ _ _ | exact Kd.N_nil _ _ _ _ _ | exact Kd.V_nil _ _ _ _ _ | exact Kd.Q_nil _ _ _ _ _ | exact Kd.S_nil _ _ _ _ _, by first | exact Kd.R_nil _ _ _ _ _ | exact Kd.N_nil _ _ _ _ _ | exact Kd.V_nil _ _ _ _ _ | exact Kd.Q_nil _ _ _ _ _ | exact Kd.S_nil _ _ _ _ _, b_ HB⟩

end Go.Proofs.Ytoodkefpkgbjcaa.PPgb
