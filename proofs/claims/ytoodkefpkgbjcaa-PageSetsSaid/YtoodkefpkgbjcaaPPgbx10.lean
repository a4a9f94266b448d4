-- PRINTED by print.py (a twelfth state) out of the translation. Not trusted: Lean checks it.
import Derived.Test.YtoodkefpkgbjcaaPPgbx0
import Derived.Test.YtoodkefpkgbjcaaPPgbx1
import Derived.Test.YtoodkefpkgbjcaaPPgbx2
import Derived.Test.YtoodkefpkgbjcaaPPgbx4
import Derived.Test.YtoodkefpkgbjcaaPPgbx7
import Derived.Test.YtoodkefpkgbjcaaPPgbx8
import Derived.Test.YtoodkefpkgbjcaaPPgbx9
namespace Go.Proofs.Ytoodkefpkgbjcaa.PPgb
open Go.RowKit Go.Proofs.YtoodkefpkgbjcaaW.PrintWords Go.Proofs.YtoodkefpkgbjcaaW.PrintLast Go.Proofs.YtoodkefpkgbjcaaW.PrintMore
attribute [local go_sem] max2_int min2_int max_two min_two max_three min_three max_four min_four   -- for this text's walks alone
set_option linter.unusedVariables false
set_option linter.unusedSimpArgs false

/-! ### quorumref4_Cut: function 82 -/
mutual
def quorumref4_Cut.l0 : Nat → List ByteArray → List Int → Option (List ByteArray × List Int × Int)
 | 0, _, _ => none
 | k + 1, x281000, x281001 => if (x281000.length : Int) > 0 then ((quorumref0_In.f k x281001 (wrap64 ((x281000.length : Int) - 1))).bind fun t296 => (quorumref4_Cut.j1 k (decide (t296 ≥ 0)) x281000 x281001)) else (quorumref4_Cut.j1 k false x281000 x281001)
def quorumref4_Cut.j1 : Nat → Bool → List ByteArray → List Int → Option (List ByteArray × List Int × Int)
 | 0, _, _, _ => none
 | k + 1, x37, x281000, x281001 => if x37 = true then (if 0 ≤ (wrap64 ((x281001.length : Int) - 1)) then (if (wrap64 ((x281001.length : Int) - 1)) ≤ (x281001.length : Int) then (if 0 ≤ (wrap64 ((x281000.length : Int) - 1)) then (if (wrap64 ((x281000.length : Int) - 1)) ≤ (x281000.length : Int) then (quorumref4_Cut.l0 k (x281000.take ((wrap64 ((x281000.length : Int) - 1)) : Int).toNat) (x281001.take ((wrap64 ((x281001.length : Int) - 1)) : Int).toNat)) else (none)) else (none)) else (none)) else (none)) else (some (x281000, x281001, 0))
end
def quorumref4_Cut.f (k : Nat) (l0_0 : List ByteArray) (l0_1 : List Int) (a1 : Int) : Option (List ByteArray × List Int × Int) := (quorumref4_There.f k l0_0 l0_1 a1).bind fun t282 => (if t282 = true then ((quorumref0_CopyPage.f k l0_0 l0_1).bind fun bt283 => (if 0 ≤ a1 then (if a1 < (bt283.1.length : Int) then (if bt283.2.length < 17592186044416 then ((quorumref0_Rising.f k (bt283.2 ++ [a1])).bind fun t293 => (quorumref4_Cut.l0 k (bt283.1.set (a1 : Int).toNat (⟨#[]⟩ : ByteArray)) t293)) else (none)) else (none)) else (none))) else (some (([] : List ByteArray), ([] : List Int), 3)))
theorem quorumref4_Cut.mono_l : ∀ k, (∀ y0 y1, LeO (quorumref4_Cut.l0 k y0 y1) (quorumref4_Cut.l0 (k + 1) y0 y1)) ∧ (∀ y0 y1 y2, LeO (quorumref4_Cut.j1 k y0 y1 y2) (quorumref4_Cut.j1 (k + 1) y0 y1 y2))
 | 0 => ⟨fun _ _ r h => by simp [quorumref4_Cut.l0] at h, fun _ _ _ r h => by simp [quorumref4_Cut.j1] at h⟩
 | k + 1 => by
  obtain ⟨ih0, ih1⟩ := quorumref4_Cut.mono_l k
  refine ⟨?_, ?_⟩
  ·intro y0 y1
   unfold quorumref4_Cut.l0
   repeat' first
   | (with_reducible exact ih0 _ _)
   | (with_reducible exact ih1 _ _ _)
   | (with_reducible exact quorumref0_CopyPage.mono _ _ _)
   | (with_reducible exact quorumref0_In.mono _ _ _)
   | (with_reducible exact quorumref0_Rising.mono _ _)
   | (with_reducible exact quorumref4_There.mono _ _ _ _)
   | (with_reducible exact LeO.refl _)
   | (with_reducible exact LeO.none _)
   | (with_reducible refine LeO.ite ?_ ?_)
   | (with_reducible refine LeO.bind ?_ (fun _ => ?_))
   | exact ih0 _ _
   | exact ih1 _ _ _
   | exact quorumref0_CopyPage.mono _ _ _
   | exact quorumref0_In.mono _ _ _
   | exact quorumref0_Rising.mono _ _
   | exact quorumref4_There.mono _ _ _ _
   | exact LeO.none _
   | refine LeO.ite ?_ ?_
   | refine LeO.bind ?_ (fun _ => ?_)
  ·intro y0 y1 y2
   unfold quorumref4_Cut.j1
   repeat' first
   | (with_reducible exact ih0 _ _)
   | (with_reducible exact ih1 _ _ _)
   | (with_reducible exact quorumref0_CopyPage.mono _ _ _)
   | (with_reducible exact quorumref0_In.mono _ _ _)
   | (with_reducible exact quorumref0_Rising.mono _ _)
   | (with_reducible exact quorumref4_There.mono _ _ _ _)
   | (with_reducible exact LeO.refl _)
   | (with_reducible exact LeO.none _)
   | (with_reducible refine LeO.ite ?_ ?_)
   | (with_reducible refine LeO.bind ?_ (fun _ => ?_))
   | exact ih0 _ _
   | exact ih1 _ _ _
   | exact quorumref0_CopyPage.mono _ _ _
   | exact quorumref0_In.mono _ _ _
   | exact quorumref0_Rising.mono _ _
   | exact quorumref4_There.mono _ _ _ _
   | exact LeO.none _
   | refine LeO.ite ?_ ?_
   | refine LeO.bind ?_ (fun _ => ?_)
theorem quorumref4_Cut.mono : ∀ a0 a1 a2 k, LeO (quorumref4_Cut.f k a0 a1 a2) (quorumref4_Cut.f (k + 1) a0 a1 a2) := by
 intro a0 a1 a2 k
 obtain ⟨ih0, ih1⟩ := quorumref4_Cut.mono_l k
 unfold quorumref4_Cut.f
 repeat' first
   | (with_reducible exact ih0 _ _)
   | (with_reducible exact ih1 _ _ _)
   | (with_reducible exact quorumref0_CopyPage.mono _ _ _)
   | (with_reducible exact quorumref0_In.mono _ _ _)
   | (with_reducible exact quorumref0_Rising.mono _ _)
   | (with_reducible exact quorumref4_There.mono _ _ _ _)
   | (with_reducible exact LeO.refl _)
   | (with_reducible exact LeO.none _)
   | (with_reducible refine LeO.ite ?_ ?_)
   | (with_reducible refine LeO.bind ?_ (fun _ => ?_))
   | exact ih0 _ _
   | exact ih1 _ _ _
   | exact quorumref0_CopyPage.mono _ _ _
   | exact quorumref0_In.mono _ _ _
   | exact quorumref0_Rising.mono _ _
   | exact quorumref4_There.mono _ _ _ _
   | exact LeO.none _
   | refine LeO.ite ?_ ?_
   | refine LeO.bind ?_ (fun _ => ?_)
set_option maxHeartbeats 8000000 in
set_option maxRecDepth 100000 in
theorem quorumref4_Cut.calls (k : Nat) (A0_0 : Option Addr) (c0_0 : Nat) (l0_0 : List ByteArray) (A0_1 : Option Addr) (c0_1 : Nat) (l0_1 : List Int) (a1 : Int) (r1 : List ByteArray) (r2 : List Int) (r3 : Int) (w : World) (hr0_0 : Kd.C Kd.string w A0_0 l0_0.length l0_0) (hc0_0 : l0_0.length ≤ c0_0) (hr0_1 : Kd.C (Kd.int .i64) w A0_1 l0_1.length l0_1) (hc0_1 : l0_1.length ≤ c0_1) (h : quorumref4_Cut.f k l0_0 l0_1 a1 = some (r1, r2, r3)) :
  Calls Try.prog 82 #[.agg #[.slice A0_0 l0_0.length c0_0, .slice A0_1 l0_1.length c0_1], .int .i64 a1] w fun e w' => ∃ v0_ v1_ : Value, e = .returned (.tuple #[.agg #[v0_, v1_], .int .i64 r3]) ∧ Kd.R Kd.string 9 w' w.heap.size (fun _ => True) v0_ r1 ∧ Kd.R (Kd.int .i64) 3 w' w.heap.size (fun _ => True) v1_ r2 ∧ Below w.heap.size w w' := by
 have hu56 := Try.underlying56
 have HR0_0 := mk0 hr0_0
 have HC0_0 := mk0 hc0_0
 clear hr0_0 hc0_0
 have HR0_1 := mk0 hr0_1
 have HC0_1 := mk0 hc0_1
 clear hr0_1 hc0_1
 have HB := mk0 (Below.refl w.heap.size w)
 have H : ((quorumref4_There.f k l0_0 l0_1 a1).bind fun t282 => (if t282 = true then ((quorumref0_CopyPage.f k l0_0 l0_1).bind fun bt283 => (if 0 ≤ a1 then (if a1 < (bt283.1.length : Int) then (if bt283.2.length < 17592186044416 then ((quorumref0_Rising.f k (bt283.2 ++ [a1])).bind fun t293 => (quorumref4_Cut.l0 k (bt283.1.set (a1 : Int).toNat (⟨#[]⟩ : ByteArray)) t293)) else (none)) else (none)) else (none))) else (some (([] : List ByteArray), ([] : List Int), 3)))) = some (r1, r2, r3) := h
 clear h
 replace H := Option.bind_eq_some_iff.mp H
 obtain ⟨t282, A30, H⟩ := H
 try dsimp only at H
 have A3 := mk0 A30
 clear A30
 by_cases c4 : t282 = true
 ·subst c4
  rw [if_pos rfl] at H
  replace H := Option.bind_eq_some_iff.mp H
  obtain ⟨⟨t283, t286⟩, A50, H⟩ := H
  try dsimp only at H
  have A5 := mk0 A50
  clear A50
  by_cases c6 : 0 ≤ a1
  ·rw [if_pos c6] at H
   have c6b0 : decide (0 ≤ a1) = true := decide_eq_true c6
   clear c6
   by_cases c7 : a1 < (t283.length : Int)
   ·rw [if_pos c7] at H
    have c7b0 : decide (a1 < (t283.length : Int)) = true := decide_eq_true c7
    clear c7
    obtain ⟨y289, hy289⟩ : ∃ y_ : List ByteArray, y_ = (t283.set (a1 : Int).toNat (⟨#[]⟩ : ByteArray)) := ⟨_, rfl⟩
    replace H : (if t286.length < 17592186044416 then ((quorumref0_Rising.f k (t286 ++ [a1])).bind fun t293 => (quorumref4_Cut.l0 k y289 t293)) else (none)) = some (r1, r2, r3) := by first | (rw [hy289]; with_reducible exact H) | (have H2_ := (Option.bind_some _ _).symm.trans H; rw [hy289]; with_reducible exact H2_) | (have H2_ := (Option.bind_some _ _).symm.trans H; with_reducible exact H2_) | with_reducible exact H | (rw [hy289]; exact H) | exact H
    have Ny289 := mk0 hy289
    clear hy289
    by_cases c9 : t286.length < 17592186044416
    ·rw [if_pos c9] at H
     have LMc9 := mk0 c9
     clear c9
     obtain ⟨y290, hy290⟩ : ∃ y_ : List Int, y_ = (t286 ++ [a1]) := ⟨_, rfl⟩
     replace H : ((quorumref0_Rising.f k y290).bind fun t293 => (quorumref4_Cut.l0 k y289 t293)) = some (r1, r2, r3) := by first | (rw [hy290]; with_reducible exact H) | (have H2_ := (Option.bind_some _ _).symm.trans H; rw [hy290]; with_reducible exact H2_) | (have H2_ := (Option.bind_some _ _).symm.trans H; with_reducible exact H2_) | with_reducible exact H | (rw [hy290]; exact H) | exact H
     have Ny290 := mk0 hy290
     clear hy290
     replace H := Option.bind_eq_some_iff.mp H
     obtain ⟨t293, A100, H⟩ := H
     try dsimp only at H
     have A10 := mk0 A100
     clear A100
     have H' := mk0 H
     clear H
     go_enter Try.func82, Try.ntmps82
     go_wp2_with (first | ((with_reducible refine gate_dst (N := 2) rfl ?_); (try (refine gate_guard (by rfl) ?_; dsimp only)); refine bx_ (N := 2) (cs := #[.slice A0_0 l0_0.length c0_0, .slice A0_1 l0_1.length c0_1]) (t := 56) (h := ?_); intro gb280 hg w11 hbox hb; have n2_ := mk0 (gz_ HB hg); have n3_ := mk0 (gz_ HB hg); replace HB := mk0 (bt_ (b_ HB) hb); have BK280 := mk0 (hbox); have GW280 := n2_; have GE280 := n3_; clear n2_ n3_; clear hb hbox hg) | ((with_reducible refine gate_dst (N := 4) rfl ?_); (try (refine gate_guard (by rfl) ?_; dsimp only)); refine bx_ (N := 4) (cs := #[.slice none 0 0, .slice none 0 0]) (t := 56) (h := ?_); intro gb281 hg w12 hbox hb; have n3_ := mk0 (gz_ HB hg); have n4_ := mk0 (gz_ HB hg); have n5_ := mk0 (ne1_ BK280 hg); have n6_ := mk0 (ne2_ BK280 hg); replace BK280 := mk0 (u_ BK280 hb); replace HB := mk0 (bt_ (b_ HB) hb); have BK281 := mk0 (hbox); have GW281 := n3_; have GE281 := n4_; have NB280_281 := n5_; have NB281_280 := n6_; clear n3_ n4_ n5_ n6_ hb hbox hg; have hnb13 := NB280_281.out; have hnc13 := NB281_280.out; obtain ⟨hcz14_0, hcz14_1, hfz14_0, hfz14_1⟩ := c2_ BK280) | ((with_reducible refine gate_callee (f := 84) rfl ?_); refine gL_ (some 8) Try.func84 #[.agg #[.slice A0_0 l0_0.length c0_0, .slice A0_1 l0_1.length c0_1], .int .i64 a1] (h := ?_); (with_reducible refine (quorumref4_There.calls k _ _ l0_0 _ _ l0_1 a1 true _ ?side1 ?side2 ?side3 ?side4 A3.out).mono ?_); (case side1 => exact cb_ HR0_0 HB); (case side2 => exact HC0_0.out); (case side3 => exact cb_ HR0_1 HB); (case side4 => exact HC0_1.out); rintro e w15 ⟨rfl, hb⟩; refine ⟨_, rfl, ?_⟩; replace BK280 := mk0 (u_ BK280 hb); replace BK281 := mk0 (u_ BK281 hb); replace HB := mk0 (bt_ (b_ HB) hb); (try clear hb); obtain ⟨hcz16_0, hcz16_1, hfz16_0, hfz16_1⟩ := c2_ BK280) | ((with_reducible refine gate_callee (f := 42) rfl ?_); refine gL_ (some 12) Try.func42 #[.agg #[.slice A0_0 l0_0.length c0_0, .slice A0_1 l0_1.length c0_1]] (h := ?_); (with_reducible refine (quorumref0_CopyPage.calls k _ _ l0_0 _ _ l0_1 t283 t286 _ ?side1 ?side2 ?side3 ?side4 A5.out).mono ?_); (case side1 => exact cb_ HR0_0 HB); (case side2 => exact HC0_0.out); (case side3 => exact cb_ HR0_1 HB); (case side4 => exact HC0_1.out); rintro e w17 ⟨v284, v287, rfl, ho0, ho1, hb⟩; refine ⟨_, rfl, ?_⟩; have n0_ := mk0 (Kd.R_lower ho0 (bz_ (b_ HB))); have n1_ := mk0 (Kd.R_lower ho1 (bz_ (b_ HB))); replace BK280 := mk0 (u_ BK280 hb); replace BK281 := mk0 (u_ BK281 hb); replace HB := mk0 (bt_ (b_ HB) hb); have HO285 := n0_; have HO288 := n1_; clear n0_ n1_; (try clear hb); (try clear ho0); (try clear ho1); obtain ⟨Ao18, co18, eo18⟩ := Kd.R_slice HO285.out; subst eo18; obtain ⟨hcz19_0, hcz19_1, hfz19_0, hfz19_1⟩ := c2_ BK280; obtain ⟨Ao20, co20, eo20⟩ := Kd.R_slice HO288.out; subst eo20) | ((with_reducible refine gate_store (t := 56) (p := 2) rfl ?_); refine sv_ (t := 56) (p := 2) (w1 := ((w17.setCell ⟨gb280, 0, none⟩ (.slice Ao18 t283.length co18)).setCell ⟨gb280, 1, none⟩ (.slice Ao20 t286.length co20))) (h := ?_); intro w21 hw; have n0_ : Fc (Kd.R Kd.string 9 w21 w.heap.size (fun _ => True) (.slice Ao18 t283.length co18) t283) := ⟨(by rw [hw]; exact (r2_ (Kd.R_mono (Kd.R_far (p := ⟨gb280, 1, none⟩) (Kd.R_far (p := ⟨gb280, 0, none⟩) (Kd.R_types HO285.out BK280.out (by decide)) (fun _ hk => hk.2) (.slice Ao18 t283.length co18)) (fun _ hk => hk.2) (.slice Ao20 t286.length co20)) (fun _ hk => trivial))))⟩; have n1_ : Fc (Kd.R (Kd.int .i64) 3 w21 w.heap.size (fun _ => True) (.slice Ao20 t286.length co20) t286) := ⟨(by rw [hw]; exact (r2_ (Kd.R_mono (Kd.R_far (p := ⟨gb280, 1, none⟩) (Kd.R_far (p := ⟨gb280, 0, none⟩) (Kd.R_types HO288.out BK280.out (by decide)) (fun _ hk => hk.2) (.slice Ao18 t283.length co18)) (fun _ hk => hk.2) (.slice Ao20 t286.length co20)) (fun _ hk => trivial))))⟩; have n2_ : Fc (w21.heap[gb280]? = some (.cells #[.slice Ao18 t283.length co18, .slice Ao20 t286.length co20] 56 (0, 0))) := ⟨(by rw [hw]; exact (pu_ (cs := #[.slice Ao18 t283.length co18, .slice A0_1 l0_1.length c0_1]) (pu_ (cs := #[.slice A0_0 l0_0.length c0_0, .slice A0_1 l0_1.length c0_1]) (h_ BK280))))⟩; have n3_ : Fc (w21.heap[gb281]? = some (.cells #[.slice none 0 0, .slice none 0 0] 56 (0, 0))) := ⟨(by rw [hw]; exact (fa_ (fa_ (h_ BK281) NB281_280.out) NB281_280.out))⟩; have n4_ : Fc (Below w.heap.size w w21) := ⟨(by rw [hw]; exact (b_ HB))⟩; clear hw HO285 HO288 BK280 BK281 HB; have HO285 := n0_; have HO288 := n1_; have BK280 := n2_; have BK281 := n3_; have HB := n4_; clear n0_ n1_ n2_ n3_ n4_; obtain ⟨hcz22_0, hcz22_1, hfz22_0, hfz22_1⟩ := c2_ BK280; have p8 : 0 ≤ (a1 : Int) := of_decide_eq_true (by first | (with_reducible assumption) | assumption); have q8 : (a1 : Int) < ((t283.length : Int) : Int) := of_decide_eq_true (by first | (with_reducible assumption) | assumption); obtain ⟨go8, co8, eo8, gb8, gl8, cl8, HG8⟩ := Kd.R_form HO285.out (by omega); (first | cases eo8 | (injection eo8 with ea_ en_ ec_; (first | subst ea_ | (injection ea_ with ea_; subst ea_)); subst ec_; clear en_)); have GB8 := mk0 gb8; have GG8 := mk0 HG8; clear gb8 gl8 HG8; obtain ⟨hx8_0, hf8_0⟩ := Kd.R_celln (⟨#[]⟩ : ByteArray) HO285.out (a1 : Int) p8 q8; replace p8 := eq_true p8; replace q8 := eq_true q8; obtain ⟨hy23_, hz23_⟩ := Kd.R_celln (⟨#[]⟩ : ByteArray) HO285.out (a1 : Int) (of_decide_eq_true (by first | (with_reducible assumption) | assumption)) (of_decide_eq_true (by first | (with_reducible assumption) | assumption)); have HP23 := Kd.R_putg HO285.out (a1 : Int) (⟨#[]⟩ : ByteArray)) | ((with_reducible refine gate_store (t := 9) (p := 16) rfl ?_); refine sv_ (t := 9) (p := 16) (w1 := (w21.setCell ⟨go8, (a1 : Int).toNat, none⟩ (.string (⟨#[]⟩ : ByteArray)))) (h := ?_); intro w24 hw; have hg : w21.grownBy w24 (some go8) := (by rw [hw]; exact HP23.2); have hp_ : Kd.R Kd.string 9 w24 w.heap.size (fun _ => True) (.slice (some ⟨go8, 0, none⟩) t283.length co18) y289 := (by rw [hw, Ny289.out]; exact HP23.1); clear HP23; have n0_ := mk0 (blk_grown (g := gb280) (o := .cells #[.slice (some ⟨go8, 0, none⟩) t283.length co18, .slice Ao20 t286.length co20] 56 (0, 0)) (h_ BK280) hg (Kd.R_ne HO285.out BK280.out (by decide))); have n1_ := mk0 (blk_grown (g := gb281) (o := .cells #[.slice none 0 0, .slice none 0 0] 56 (0, 0)) (h_ BK281) hg (Kd.R_ne HO285.out BK281.out (by decide))); have n3_ := mk0 (Kd.R_over' (v := (.slice (some ⟨go8, 0, none⟩) t283.length co18)) (r_ HO288) (Kd.R_typed HO285.out) (by decide) hg); replace HO285 := mk0 (hp_); replace HB := mk0 ((by rw [hw]; exact bs_ (HB.out) GB8.out : Below w.heap.size w w24)); clear BK280 BK281 HO288; have BK280 := n0_; have BK281 := n1_; have HO288 := n3_; clear n0_ n1_ n3_ hg hw hp_; obtain ⟨hcz25_0, hcz25_1, hfz25_0, hfz25_1⟩ := c2_ BK280) | ((with_reducible refine gate_builtin (b := .append) (xs := #[.tmp 18, .tmp 20]) rfl ?_); (try (refine gate_guard (by rfl) ?_; dsimp only)); at_builtin; refine Kd.R_append (Kd.int .i64) (w0 := w) w.heap.size rfl (.tmp 18) (.tmp 20) 24 3 (.int .i64 0) 8 rfl Try.underlying24 info3 rfl (by decide) (by omega) (.slice Ao20 t286.length co20) t286 a1 [.int .i64 a1] (fun _ => True) (fun _ => False) rfl rfl ?aP (fun _ hk => hk.elim) ?aF ?aO ?aB ?aS ?aL ?_; (case aP => exact rfl); (case aB => exact (b_ HB)); (case aF => exact (fun _ _ => trivial)); (case aO => exact (r_ HO288)); (case aS => exact (bz_ (b_ HB))); (case aL => have := LMc9.out; omega); intro v291 w26 ho hb hg hat; rw [← Ny290.out] at ho; replace BK280 := mk0 (blk_grown (g := gb280) (o := .cells #[.slice (some ⟨go8, 0, none⟩) t283.length co18, .slice Ao20 t286.length co20] 56 (0, 0)) (h_ BK280) hg (Kd.R_ne HO288.out BK280.out (by decide))); replace BK281 := mk0 (blk_grown (g := gb281) (o := .cells #[.slice none 0 0, .slice none 0 0] 56 (0, 0)) (h_ BK281) hg (Kd.R_ne HO288.out BK281.out (by decide))); replace HO285 := mk0 (Kd.R_over' (r_ HO285) (Kd.R_typed (r_ HO288)) (by decide) hg); replace HB := mk0 (hb); have HO292 := mk0 (ho); clear HO288; clear ho hb hg hat; obtain ⟨Ao27, co27, eo27⟩ := Kd.R_slice HO292.out; subst eo27) | ((with_reducible refine gate_callee (f := 131) rfl ?_); refine gL_ (some 22) Try.func131 #[.slice Ao27 y290.length co27] (h := ?_); (with_reducible refine (quorumref0_Rising.calls k _ _ y290 t293 _ ?side1 ?side2 A10.out).mono ?_); (case side1 => exact cr_ HO292); (case side2 => exact (Kd.R_reads' HO292.out).2.1); rintro e w28 ⟨v294, rfl, ho0, hb⟩; refine ⟨_, rfl, ?_⟩; have n2_ := mk0 (Kd.R_lower (Kd.R_new' ho0 (Kd.R_lt (r_ HO292))) (bz_ (b_ HB))); replace HO285 := mk0 (Kd.R_below (r_ HO285) hb); replace HO292 := mk0 (Kd.R_elder' (r_ HO292) (Kd.R_base ho0) hb); replace BK280 := mk0 (u_ BK280 hb); replace BK281 := mk0 (u_ BK281 hb); replace HB := mk0 (bt_ (b_ HB) hb); have HO295 := n2_; clear n2_; (try clear hb); (try clear ho0); obtain ⟨Ao29, co29, eo29⟩ := Kd.R_slice HO295.out; subst eo29; obtain ⟨hcz30_0, hcz30_1, hfz30_0, hfz30_1⟩ := c2_ BK280))
     go_loopg [] k (fun kq w' => ∃ (x281000_1 : List ByteArray) (x281001_1 : List Int) (u281000 : Value) (u281001 : Value), Fc (quorumref4_Cut.l0 kq x281000_1 x281001_1 = some (r1, r2, r3)) ∧ Fc (kq ≤ k) ∧ Fc (Kd.R Kd.string 9 w' w.heap.size (fun _ => True) u281000 x281000_1) ∧ Fc (Kd.R (Kd.int .i64) 3 w' w.heap.size (fun _ => True) u281001 x281001_1) ∧ Fc (w'.heap[gb280]? = some (.cells #[u281000, u281001] 56 (0, 0))) ∧ Fc (w'.heap[gb281]? = some (.cells #[(.slice none 0 0), (.slice none 0 0)] 56 (0, 0))) ∧ Fc (Below w.heap.size w w'))
     case atStart => exact ⟨(y289), (t293), (.slice (some ⟨go8, 0, none⟩) t283.length co18), (.slice Ao29 t293.length co29), H', ⟨Nat.le_refl _⟩, ⟨by (with_reducible repeat (first | apply Ra_ | apply Rn_ | apply Rd_)); exact Kd.R_mono (Kd.R_far (p := ⟨gb280, 1, none⟩) (Kd.R_types HO285.out BK280.out (by decide)) (fun _ hk => hk.2) (.slice Ao29 t293.length co29)) (fun _ hk => trivial)⟩, ⟨by (with_reducible repeat (first | apply Ra_ | apply Rn_ | apply Rd_)); exact Kd.R_mono (Kd.R_far (p := ⟨gb280, 1, none⟩) (Kd.R_types HO295.out BK280.out (by decide)) (fun _ hk => hk.2) (.slice Ao29 t293.length co29)) (fun _ hk => trivial)⟩, ⟨(pu_ (cs := #[.slice (some ⟨go8, 0, none⟩) t283.length co18, .slice Ao20 t286.length co20]) (h_ BK280))⟩, ⟨(fa_ (h_ BK281) NB281_280.out)⟩, ⟨b_ HB⟩⟩
     case round =>
      clear H'
      try clear c4
      try clear c6
      try clear c6b0
      try clear c7
      try clear c7b0
      try clear p8
      try clear q8
      try clear c9
      try clear hcz14_0
      try clear hcz14_1
      try clear hcz16_0
      try clear hcz16_1
      try clear hcz19_0
      try clear hcz19_1
      try clear hcz22_0
      try clear hcz22_1
      try clear hcz25_0
      try clear hcz25_1
      try clear hcz30_0
      try clear hcz30_1
      try clear hfz14_0
      try clear hfz14_1
      try clear hfz16_0
      try clear hfz16_1
      try clear hfz19_0
      try clear hfz19_1
      try clear hfz22_0
      try clear hfz22_1
      try clear hfz25_0
      try clear hfz25_1
      try clear hfz30_0
      try clear hfz30_1
      try clear hx8_0
      try clear p8
      try clear q8
      obtain ⟨x281000_1, x281001_1, u281000, u281001, HA, HK1, HO_281000, HO_281001, BK280, BK281, HB⟩ := hrel
      cases gk with
      | zero => exact absurd HA.out (by simp [quorumref4_Cut.l0])
      | succ k1 =>
       have H := HA.out
       clear HA
       simp only [quorumref4_Cut.l0] at H
       as_aux_lemma =>
        have HC31 := mk0 H
        clear H
        go_upto_region 6 with (fail)
        go_cut [37] (fun v37 wc => ∃ (kq : Nat) (x37_30 : Bool), v37 = .bool x37_30 ∧ Fc (quorumref4_Cut.j1 kq x37_30 x281000_1 x281001_1 = some (r1, r2, r3)) ∧ Fc (kq ≤ k1) ∧ Fc (Kd.R Kd.string 9 wc w.heap.size (fun _ => True) u281000 x281000_1) ∧ Fc (Kd.R (Kd.int .i64) 3 wc w.heap.size (fun _ => True) u281001 x281001_1) ∧ Fc (wc.heap[gb280]? = some (.cells #[u281000, u281001] 56 (0, 0))) ∧ Fc (wc.heap[gb281]? = some (.cells #[(.slice none 0 0), (.slice none 0 0)] 56 (0, 0))) ∧ Fc (Below w.heap.size w wc))
        case first =>
         have H := HC31.out
         clear HC31
         by_cases c32 : (x281000_1.length : Int) > 0
         ·rw [if_pos c32] at H
          have c32b0 : decide (0 < (x281000_1.length : Int)) = true := decide_eq_true c32
          have c32b1 : decide (0 < x281000_1.length) = true := decide_eq_true (by omega)
          clear c32
          (first | rw [c32b0] | (simp only [i64_w, i32_w]; rw [c32b0]) | skip)
          replace H := Option.bind_eq_some_iff.mp H
          obtain ⟨t296, A330, H⟩ := H
          try dsimp only at H
          have A33 := mk0 A330
          clear A330
          have H' := mk0 H
          clear H
          have hnb34 := NB280_281.out
          have hnc34 := NB281_280.out
          obtain ⟨hcz35_0, hcz35_1, hfz35_0, hfz35_1⟩ := c2_ BK280
          obtain ⟨Ao36, co36, eo36⟩ := Kd.R_slice HO_281000.out
          subst eo36
          obtain ⟨Ao37, co37, eo37⟩ := Kd.R_slice HO_281001.out
          subst eo37
          go_wp2_with (first | (go_at_call 132; (with_reducible refine (quorumref0_In.calls k1 _ _ x281001_1 (wrap64 ((x281000_1.length : Int) - 1)) t296 _ ?side1 ?side2 A33.out).mono ?_); (case side1 => exact cr_ HO_281001); (case side2 => exact (Kd.R_reads' HO_281001.out).2.1); rintro e w' ⟨rfl, ⟨nd, rfl⟩⟩))
          go_meet
          case rel => exact ⟨_, (decide (t296 ≥ 0)), (by first | rfl | (simp; done) | (simp [*]; done)), H', ⟨by have := HK1.out; first | omega | exact Nat.le_refl _⟩, ⟨by (with_reducible repeat (first | apply Ra_ | apply Rn_ | apply Rd_)); exact HO_281000.out⟩, ⟨by (with_reducible repeat (first | apply Ra_ | apply Rn_ | apply Rd_)); exact HO_281001.out⟩, ⟨h_ BK280⟩, ⟨h_ BK281⟩, ⟨b_ HB⟩⟩
         ·rw [if_neg c32] at H
          have c32b0 : decide (0 < (x281000_1.length : Int)) = false := decide_eq_false c32
          have c32b1 : decide (0 < x281000_1.length) = false := decide_eq_false (by omega)
          clear c32
          (first | rw [c32b0] | (simp only [i64_w, i32_w]; rw [c32b0]) | skip)
          have H' := mk0 H
          clear H
          have hnb38 := NB280_281.out
          have hnc38 := NB281_280.out
          obtain ⟨hcz39_0, hcz39_1, hfz39_0, hfz39_1⟩ := c2_ BK280
          obtain ⟨Ao40, co40, eo40⟩ := Kd.R_slice HO_281000.out
          subst eo40
          go_wp2
          go_meet
          case rel => exact ⟨_, (false), (by first | rfl | (simp; done) | (simp [*]; done)), H', ⟨by have := HK1.out; first | omega | exact Nat.le_refl _⟩, ⟨by (with_reducible repeat (first | apply Ra_ | apply Rn_ | apply Rd_)); exact HO_281000.out⟩, ⟨by (with_reducible repeat (first | apply Ra_ | apply Rn_ | apply Rd_)); exact HO_281001.out⟩, ⟨h_ BK280⟩, ⟨h_ BK281⟩, ⟨b_ HB⟩⟩
        case rest =>
         clear HC31
         try clear c4
         try clear c6
         try clear c6b0
         try clear c7
         try clear c7b0
         try clear p8
         try clear q8
         try clear c9
         try clear c32
         try clear c32b0
         try clear c32b1
         try clear hcz14_0
         try clear hcz14_1
         try clear hcz16_0
         try clear hcz16_1
         try clear hcz19_0
         try clear hcz19_1
         try clear hcz22_0
         try clear hcz22_1
         try clear hcz25_0
         try clear hcz25_1
         try clear hcz30_0
         try clear hcz30_1
         try clear hcz35_0
         try clear hcz35_1
         try clear hcz39_0
         try clear hcz39_1
         try clear hfz14_0
         try clear hfz14_1
         try clear hfz16_0
         try clear hfz16_1
         try clear hfz19_0
         try clear hfz19_1
         try clear hfz22_0
         try clear hfz22_1
         try clear hfz25_0
         try clear hfz25_1
         try clear hfz30_0
         try clear hfz30_1
         try clear hfz35_0
         try clear hfz35_1
         try clear hfz39_0
         try clear hfz39_1
         try clear hx8_0
         try clear p8
         try clear q8
         obtain ⟨kq, x37_30, rfl, HA, HJ30, HO_281000, HO_281001, BK280, BK281, HB⟩ := hcut
         cases kq with
         | zero => exact absurd HA.out (by simp [quorumref4_Cut.j1])
         | succ kj30 =>
          have H := HA.out
          clear HA
          simp only [quorumref4_Cut.j1] at H
          as_aux_lemma =>
           by_cases c41 : x37_30 = true
           ·subst c41
            rw [if_pos rfl] at H
            obtain ⟨ji42, hji42⟩ : ∃ j_ : Int, (wrap64 ((x281001_1.length : Int) - 1)) = j_ := ⟨_, rfl⟩
            replace H : (if 0 ≤ (ji42) then (if (ji42) ≤ (x281001_1.length : Int) then (if 0 ≤ (wrap64 ((x281000_1.length : Int) - 1)) then (if (wrap64 ((x281000_1.length : Int) - 1)) ≤ (x281000_1.length : Int) then (quorumref4_Cut.l0 kj30 (x281000_1.take ((wrap64 ((x281000_1.length : Int) - 1)) : Int).toNat) (x281001_1.take ((ji42) : Int).toNat)) else (none)) else (none)) else (none)) else (none)) = some (r1, r2, r3) := by first | (rw [hji42] at H; exact H) | (simp only [hji42] at H ⊢; exact H)
            have hji42w : (IntKind.i64.wrap ((x281001_1.length : Int) - 1)) = ji42 := (i64_w _).trans hji42
            by_cases c43 : 0 ≤ (ji42)
            ·rw [if_pos c43] at H
             have c43b0 := eq_true c43
             have c43b1 : decide (0 ≤ (ji42)) = true := decide_eq_true c43
             clear c43
             by_cases c44 : (ji42) ≤ (x281001_1.length : Int)
             ·rw [if_pos c44] at H
              have c44b0 := eq_true c44
              have c44b1 : decide ((ji42) ≤ (x281001_1.length : Int)) = true := decide_eq_true c44
              clear c44
              obtain ⟨y297, hy297⟩ : ∃ y_ : List Int, y_ = (x281001_1.take ((ji42) : Int).toNat) := ⟨_, rfl⟩
              replace H : (if 0 ≤ (wrap64 ((x281000_1.length : Int) - 1)) then (if (wrap64 ((x281000_1.length : Int) - 1)) ≤ (x281000_1.length : Int) then (quorumref4_Cut.l0 kj30 (x281000_1.take ((wrap64 ((x281000_1.length : Int) - 1)) : Int).toNat) y297) else (none)) else (none)) = some (r1, r2, r3) := by first | (rw [hy297]; with_reducible exact H) | (have H2_ := (Option.bind_some _ _).symm.trans H; rw [hy297]; with_reducible exact H2_) | (have H2_ := (Option.bind_some _ _).symm.trans H; with_reducible exact H2_) | with_reducible exact H | (rw [hy297]; exact H) | exact H
              have Ny297 := mk0 hy297
              clear hy297
              obtain ⟨ji45, hji45⟩ : ∃ j_ : Int, (wrap64 ((x281000_1.length : Int) - 1)) = j_ := ⟨_, rfl⟩
              replace H : (if 0 ≤ (ji45) then (if (ji45) ≤ (x281000_1.length : Int) then (quorumref4_Cut.l0 kj30 (x281000_1.take ((ji45) : Int).toNat) y297) else (none)) else (none)) = some (r1, r2, r3) := by first | (rw [hji45] at H; exact H) | (simp only [hji45] at H ⊢; exact H)
              have hji45w : (IntKind.i64.wrap ((x281000_1.length : Int) - 1)) = ji45 := (i64_w _).trans hji45
              by_cases c46 : 0 ≤ (ji45)
              ·rw [if_pos c46] at H
               have c46b0 := eq_true c46
               have c46b1 : decide (0 ≤ (ji45)) = true := decide_eq_true c46
               clear c46
               by_cases c47 : (ji45) ≤ (x281000_1.length : Int)
               ·rw [if_pos c47] at H
                have c47b0 := eq_true c47
                have c47b1 : decide ((ji45) ≤ (x281000_1.length : Int)) = true := decide_eq_true c47
                clear c47
                obtain ⟨y300, hy300⟩ : ∃ y_ : List ByteArray, y_ = (x281000_1.take ((ji45) : Int).toNat) := ⟨_, rfl⟩
                replace H : (quorumref4_Cut.l0 kj30 y300 y297) = some (r1, r2, r3) := by first | (rw [hy300]; with_reducible exact H) | (have H2_ := (Option.bind_some _ _).symm.trans H; rw [hy300]; with_reducible exact H2_) | (have H2_ := (Option.bind_some _ _).symm.trans H; with_reducible exact H2_) | with_reducible exact H | (rw [hy300]; exact H) | exact H
                have Ny300 := mk0 hy300
                clear hy300
                have H' := mk0 H
                clear H
                have hnb48 := NB280_281.out
                have hnc48 := NB281_280.out
                obtain ⟨hcz49_0, hcz49_1, hfz49_0, hfz49_1⟩ := c2_ BK280
                obtain ⟨Ao50, co50, eo50⟩ := Kd.R_slice HO_281001.out
                subst eo50
                have q51 : ((ji42) : Int) ≤ ((x281001_1.length : Int) : Int) := of_decide_eq_true (by first | (with_reducible assumption) | assumption)
                obtain ⟨i051, hi051, _, hsz51, _⟩ := info_parts info3
                have hcut51 := cut_to (P := Try.prog) 24 3 .i64 Try.underlying24 hi051 Ao50 x281001_1.length co50 (ji42) (of_decide_eq_true (by first | (with_reducible assumption) | assumption)) q51 (Kd.R_reads' HO_281001.out).2.1
                have hr51 := Kd.R_take (m := ((ji42) : Int).toNat) HO_281001.out (by omega)
                have hy51 : y297.length = ((ji42) : Int).toNat := (by rw [Ny297.out, List.length_take]; omega)
                rw [← Ny297.out] at hr51
                rw [← hy51] at hr51 hcut51
                clear hy51 hi051 hsz51 HO_281001
                have HO299 := mk0 hr51
                clear hr51
                replace q51 := eq_true q51
                go_wp2_with (first | ((with_reducible refine gate_store (t := 24) (p := 45) rfl ?_); refine sv_ (t := 24) (p := 45) (w1 := (wc.setCell ⟨gb280, 1, none⟩ (.slice Ao50 y297.length co50))) (h := ?_); intro w52 hw; have n0_ : Fc (Kd.R Kd.string 9 w52 w.heap.size (fun _ => True) u281000 x281000_1) := ⟨(by rw [hw]; exact (r2_ (Kd.R_mono (Kd.R_far (p := ⟨gb280, 1, none⟩) (Kd.R_types HO_281000.out BK280.out (by decide)) (fun _ hk => hk.2) (.slice Ao50 y297.length co50)) (fun _ hk => trivial))))⟩; have n1_ : Fc (Kd.R (Kd.int .i64) 3 w52 w.heap.size (fun _ => True) (.slice Ao50 y297.length co50) y297) := ⟨(by rw [hw]; exact (r2_ (Kd.R_mono (Kd.R_far (p := ⟨gb280, 1, none⟩) (Kd.R_types HO299.out BK280.out (by decide)) (fun _ hk => hk.2) (.slice Ao50 y297.length co50)) (fun _ hk => trivial))))⟩; have n2_ : Fc (w52.heap[gb280]? = some (.cells #[u281000, .slice Ao50 y297.length co50] 56 (0, 0))) := ⟨(by rw [hw]; exact (pu_ (cs := #[u281000, .slice Ao50 x281001_1.length co50]) (h_ BK280)))⟩; have n3_ : Fc (w52.heap[gb281]? = some (.cells #[.slice none 0 0, .slice none 0 0] 56 (0, 0))) := ⟨(by rw [hw]; exact (fa_ (h_ BK281) NB281_280.out))⟩; have n4_ : Fc (Below w.heap.size w w52) := ⟨(by rw [hw]; exact (b_ HB))⟩; clear hw HO_281000 HO299 BK280 BK281 HB; have HO_281000 := n0_; have HO299 := n1_; have BK280 := n2_; have BK281 := n3_; have HB := n4_; clear n0_ n1_ n2_ n3_ n4_; obtain ⟨hcz53_0, hcz53_1, hfz53_0, hfz53_1⟩ := c2_ BK280; obtain ⟨Ao54, co54, eo54⟩ := Kd.R_slice HO_281000.out; subst eo54; have q55 : ((ji45) : Int) ≤ ((x281000_1.length : Int) : Int) := of_decide_eq_true (by first | (with_reducible assumption) | assumption); obtain ⟨i055, hi055, _, hsz55, _⟩ := info_parts info9; have hcut55 := cut_to (P := Try.prog) 25 9 .i64 Try.underlying25 hi055 Ao54 x281000_1.length co54 (ji45) (of_decide_eq_true (by first | (with_reducible assumption) | assumption)) q55 (Kd.R_reads' HO_281000.out).2.1; have hr55 := Kd.R_take (m := ((ji45) : Int).toNat) HO_281000.out (by omega); have hy55 : y300.length = ((ji45) : Int).toNat := (by rw [Ny300.out, List.length_take]; omega); rw [← Ny300.out] at hr55; rw [← hy55] at hr55 hcut55; clear hy55 hi055 hsz55 HO_281000; have HO302 := mk0 hr55; clear hr55; replace q55 := eq_true q55))
                go_roundg kj30
                case measure => have := HK1.out; have := HJ30.out; omega
                case rel => exact ⟨(y300), (y297), (.slice Ao54 y300.length co54), (.slice Ao50 y297.length co50), H', ⟨by have := HK1.out; have := HJ30.out; omega⟩, ⟨by (with_reducible repeat (first | apply Ra_ | apply Rn_ | apply Rd_)); exact Kd.R_mono (Kd.R_far (p := ⟨gb280, 0, none⟩) (Kd.R_types HO302.out BK280.out (by decide)) (fun _ hk => hk.2) (.slice Ao54 y300.length co54)) (fun _ hk => trivial)⟩, ⟨by (with_reducible repeat (first | apply Ra_ | apply Rn_ | apply Rd_)); exact Kd.R_mono (Kd.R_far (p := ⟨gb280, 0, none⟩) (Kd.R_types HO299.out BK280.out (by decide)) (fun _ hk => hk.2) (.slice Ao54 y300.length co54)) (fun _ hk => trivial)⟩, ⟨(pu_ (cs := #[.slice Ao54 x281000_1.length co54, .slice Ao50 y297.length co50]) (h_ BK280))⟩, ⟨(fa_ (h_ BK281) NB281_280.out)⟩, ⟨b_ HB⟩⟩
               ·rw [if_neg c47] at H
                exact absurd H (by simp)
              ·rw [if_neg c46] at H
               exact absurd H (by simp)
             ·rw [if_neg c44] at H
              exact absurd H (by simp)
            ·rw [if_neg c43] at H
             exact absurd H (by simp)
           ·replace c41 := Bool.eq_false_iff.mpr c41
            subst c41
            rw [if_neg (show ¬ (false = true) by decide)] at H
            simp only [Option.some.injEq, Prod.mk.injEq] at H
            obtain ⟨rfl, rfl, rfl⟩ := H
            have hnb56 := NB280_281.out
            have hnc56 := NB281_280.out
            obtain ⟨hcz57_0, hcz57_1, hfz57_0, hfz57_1⟩ := c2_ BK280
            obtain ⟨Ao58, co58, eo58⟩ := Kd.R_slice HO_281000.out
            subst eo58
            obtain ⟨hcz59_0, hcz59_1, hfz59_0, hfz59_1⟩ := c2_ BK281
            obtain ⟨Ao60, co60, eo60⟩ := Kd.R_slice HO_281001.out
            subst eo60
            go_wp2
            refine bodyPost_ret (results_ct rfl _ _ gb281 56 #[.slice Ao58 x281000_1.length co58, .slice Ao60 x281001_1.length co60] (0, 0) _ rfl (pu_ (cs := #[.slice Ao58 x281000_1.length co58, .slice none 0 0]) (pu_ (cs := #[.slice none 0 0, .slice none 0 0]) (h_ BK281))) Try.underlying56 rfl (by kernel_rfl)) rfl ?_
            exact ⟨_, _, by first | rfl | (simp [errW_none, errW_some] <;> rfl) | (simp [*, errW_none, errW_some] <;> rfl), by (with_reducible repeat (first | apply Ra_ | apply Rn_ | apply Rd_)); exact Kd.R_mono (Kd.R_far (p := ⟨gb281, 1, none⟩) (Kd.R_far (p := ⟨gb281, 0, none⟩) (Kd.R_types HO_281000.out BK281.out (by decide)) (fun _ hk => hk.2) (.slice Ao58 x281000_1.length co58)) (fun _ hk => hk.2) (.slice Ao60 x281001_1.length co60)) (fun _ hk => trivial), by (with_reducible repeat (first | apply Ra_ | apply Rn_ | apply Rd_)); exact Kd.R_mono (Kd.R_far (p := ⟨gb281, 1, none⟩) (Kd.R_far (p := ⟨gb281, 0, none⟩) (Kd.R_types HO_281001.out BK281.out (by decide)) (fun _ hk => hk.2) (.slice Ao58 x281000_1.length co58)) (fun _ hk => hk.2) (.slice Ao60 x281001_1.length co60)) (fun _ hk => trivial), b_ HB⟩
    ·rw [if_neg c9] at H
     exact absurd H (by simp)
   ·rw [if_neg c7] at H
    exact absurd H (by simp)
  ·rw [if_neg c6] at H
   exact absurd H (by simp)
 ·replace c4 := Bool.eq_false_iff.mpr c4
  subst c4
  rw [if_neg (show ¬ (false = true) by decide)] at H
  simp only [Option.some.injEq, Prod.mk.injEq] at H
  obtain ⟨rfl, rfl, rfl⟩ := H
  go_enter Try.func82, Try.ntmps82
  go_wp2_with (first | ((with_reducible refine gate_dst (N := 2) rfl ?_); (try (refine gate_guard (by rfl) ?_; dsimp only)); refine bx_ (N := 2) (cs := #[.slice A0_0 l0_0.length c0_0, .slice A0_1 l0_1.length c0_1]) (t := 56) (h := ?_); intro gb280 hg w61 hbox hb; have n2_ := mk0 (gz_ HB hg); have n3_ := mk0 (gz_ HB hg); replace HB := mk0 (bt_ (b_ HB) hb); have BK280 := mk0 (hbox); have GW280 := n2_; have GE280 := n3_; clear n2_ n3_; clear hb hbox hg) | ((with_reducible refine gate_dst (N := 4) rfl ?_); (try (refine gate_guard (by rfl) ?_; dsimp only)); refine bx_ (N := 4) (cs := #[.slice none 0 0, .slice none 0 0]) (t := 56) (h := ?_); intro gb281 hg w62 hbox hb; have n3_ := mk0 (gz_ HB hg); have n4_ := mk0 (gz_ HB hg); have n5_ := mk0 (ne1_ BK280 hg); have n6_ := mk0 (ne2_ BK280 hg); replace BK280 := mk0 (u_ BK280 hb); replace HB := mk0 (bt_ (b_ HB) hb); have BK281 := mk0 (hbox); have GW281 := n3_; have GE281 := n4_; have NB280_281 := n5_; have NB281_280 := n6_; clear n3_ n4_ n5_ n6_ hb hbox hg; have hnb63 := NB280_281.out; have hnc63 := NB281_280.out; obtain ⟨hcz64_0, hcz64_1, hfz64_0, hfz64_1⟩ := c2_ BK280) | ((with_reducible refine gate_callee (f := 84) rfl ?_); refine gL_ (some 8) Try.func84 #[.agg #[.slice A0_0 l0_0.length c0_0, .slice A0_1 l0_1.length c0_1], .int .i64 a1] (h := ?_); (with_reducible refine (quorumref4_There.calls k _ _ l0_0 _ _ l0_1 a1 false _ ?side1 ?side2 ?side3 ?side4 A3.out).mono ?_); (case side1 => exact cb_ HR0_0 HB); (case side2 => exact HC0_0.out); (case side3 => exact cb_ HR0_1 HB); (case side4 => exact HC0_1.out); rintro e w65 ⟨rfl, hb⟩; refine ⟨_, rfl, ?_⟩; replace BK280 := mk0 (u_ BK280 hb); replace BK281 := mk0 (u_ BK281 hb); replace HB := mk0 (bt_ (b_ HB) hb); (try clear hb); obtain ⟨hcz66_0, hcz66_1, hfz66_0, hfz66_1⟩ := c2_ BK281))
  refine bodyPost_ret (results_ct rfl _ _ gb281 56 #[.slice none 0 0, .slice none 0 0] (0, 0) _ rfl (pu_ (cs := #[.slice none 0 0, .slice none 0 0]) (pu_ (cs := #[.slice none 0 0, .slice none 0 0]) (h_ BK281))) Try.underlying56 rfl (by kernel_rfl)) rfl ?_
  exact ⟨_, _, by first | rfl | (simp [errW_none, errW_some] <;> rfl) | (simp [*, errW_none, errW_some] <;> rfl), by first | exact Kd.R_nil _ _ _ _ _ | exact Kd.N_nil _ _ _ _ _ | exact Kd.V_nil _ _ _ _ _ | exact Kd.Q_nil _ _ _ _ _ | exact Kd.S_nil _ _ _ _ _, by first | exact Kd.R_nil _ _ _ _ _ | exact Kd.N_nil _ _ _ _ _ | exact Kd.V_nil _ _ _ _ _ | exact Kd.Q_nil _ _ _ _ _ | exact Kd.S_nil _ _ _ _ _, b_ HB⟩

/-! ### page_Bytes: function 83 -/
def page_Bytes.f (k : Nat) (l0_0 : List ByteArray) (l0_1 : List Int) : Option (Int × Int) := (page_may.f k l0_0 l0_1).bind fun t304 => (if t304 = true then ((page_size.f k l0_0).bind fun t305 => (some (t305, 0))) else (some (0, 1)))
theorem page_Bytes.mono : ∀ a0 a1 k, LeO (page_Bytes.f k a0 a1) (page_Bytes.f (k + 1) a0 a1) := by
 intro a0 a1 k
 unfold page_Bytes.f
 repeat' first
   | (with_reducible exact page_may.mono _ _ _)
   | (with_reducible exact page_size.mono _ _)
   | (with_reducible exact LeO.refl _)
   | (with_reducible exact LeO.none _)
   | (with_reducible refine LeO.ite ?_ ?_)
   | (with_reducible refine LeO.bind ?_ (fun _ => ?_))
   | exact page_may.mono _ _ _
   | exact page_size.mono _ _
   | exact LeO.none _
   | refine LeO.ite ?_ ?_
   | refine LeO.bind ?_ (fun _ => ?_)
set_option maxHeartbeats 8000000 in
set_option maxRecDepth 100000 in
theorem page_Bytes.calls (k : Nat) (A0_0 : Option Addr) (c0_0 : Nat) (l0_0 : List ByteArray) (A0_1 : Option Addr) (c0_1 : Nat) (l0_1 : List Int) (r1 : Int) (r2 : Int) (w : World) (hr0_0 : Kd.C Kd.string w A0_0 l0_0.length l0_0) (hc0_0 : l0_0.length ≤ c0_0) (hr0_1 : Kd.C (Kd.int .i64) w A0_1 l0_1.length l0_1) (hc0_1 : l0_1.length ≤ c0_1) (h : page_Bytes.f k l0_0 l0_1 = some (r1, r2)) :
  Calls Try.prog 83 #[.agg #[.slice A0_0 l0_0.length c0_0, .slice A0_1 l0_1.length c0_1]] w fun e w' => e = .returned (.tuple #[.int .i64 r1, .int .i64 r2]) ∧ Below w.heap.size w w' := by
 have hu56 := Try.underlying56
 have HR0_0 := mk0 hr0_0
 have HC0_0 := mk0 hc0_0
 clear hr0_0 hc0_0
 have HR0_1 := mk0 hr0_1
 have HC0_1 := mk0 hc0_1
 clear hr0_1 hc0_1
 have HB := mk0 (Below.refl w.heap.size w)
 have H : ((page_may.f k l0_0 l0_1).bind fun t304 => (if t304 = true then ((page_size.f k l0_0).bind fun t305 => (some (t305, 0))) else (some (0, 1)))) = some (r1, r2) := h
 clear h
 replace H := Option.bind_eq_some_iff.mp H
 obtain ⟨t304, A20, H⟩ := H
 try dsimp only at H
 have A2 := mk0 A20
 clear A20
 by_cases c3 : t304 = true
 ·subst c3
  rw [if_pos rfl] at H
  replace H := Option.bind_eq_some_iff.mp H
  obtain ⟨t305, A40, H⟩ := H
  try dsimp only at H
  have A4 := mk0 A40
  clear A40
  simp only [Option.some.injEq, Prod.mk.injEq] at H
  obtain ⟨rfl, rfl⟩ := H
  go_enter Try.func83, Try.ntmps83
  go_wp2_with (first | ((with_reducible refine gate_dst (N := 1) rfl ?_); refine bx_ (N := 1) (cs := #[.slice A0_0 l0_0.length c0_0, .slice A0_1 l0_1.length c0_1]) (t := 56) (h := ?_); intro gb303 hg w5 hbox hb; have n2_ := mk0 (gz_ HB hg); have n3_ := mk0 (gz_ HB hg); replace HB := mk0 (bt_ (b_ HB) hb); have BK303 := mk0 (hbox); have GW303 := n2_; have GE303 := n3_; clear n2_ n3_ hb hbox hg; obtain ⟨hcz6_0, hcz6_1, hfz6_0, hfz6_1⟩ := c2_ BK303) | ((with_reducible refine gate_callee (f := 72) rfl ?_); refine gL_ (some 5) Try.func72 #[.agg #[.slice A0_0 l0_0.length c0_0, .slice A0_1 l0_1.length c0_1]] (h := ?_); (with_reducible refine (page_may.calls k _ _ l0_0 _ _ l0_1 true _ ?side1 ?side2 ?side3 ?side4 A2.out).mono ?_); (case side1 => exact cb_ HR0_0 HB); (case side2 => exact HC0_0.out); (case side3 => exact cb_ HR0_1 HB); (case side4 => exact HC0_1.out); rintro e w7 ⟨rfl, hb⟩; refine ⟨_, rfl, ?_⟩; replace BK303 := mk0 (u_ BK303 hb); replace HB := mk0 (bt_ (b_ HB) hb); (try clear hb); obtain ⟨hcz8_0, hcz8_1, hfz8_0, hfz8_1⟩ := c2_ BK303) | ((with_reducible refine gate_callee (f := 129) rfl ?_); refine gL_ (some 9) Try.func129 #[.slice A0_0 l0_0.length c0_0] (h := ?_); (with_reducible refine (page_size.calls k _ _ l0_0 t305 _ ?side1 ?side2 A4.out).mono ?_); (case side1 => exact cb_ HR0_0 HB); (case side2 => exact HC0_0.out); rintro e w' ⟨rfl, ⟨nd, rfl⟩⟩; refine ⟨_, rfl, ?_⟩))
  go_ret2
  exact ⟨by first | rfl | (simp [errW_none, errW_some] <;> rfl) | (simp [*, errW_none, errW_some] <;> rfl), b_ HB⟩
 ·replace c3 := Bool.eq_false_iff.mpr c3
  subst c3
  rw [if_neg (show ¬ (false = true) by decide)] at H
  simp only [Option.some.injEq, Prod.mk.injEq] at H
  obtain ⟨rfl, rfl⟩ := H
  go_enter Try.func83, Try.ntmps83
  go_wp2_with (first | ((with_reducible refine gate_dst (N := 1) rfl ?_); refine bx_ (N := 1) (cs := #[.slice A0_0 l0_0.length c0_0, .slice A0_1 l0_1.length c0_1]) (t := 56) (h := ?_); intro gb303 hg w9 hbox hb; have n2_ := mk0 (gz_ HB hg); have n3_ := mk0 (gz_ HB hg); replace HB := mk0 (bt_ (b_ HB) hb); have BK303 := mk0 (hbox); have GW303 := n2_; have GE303 := n3_; clear n2_ n3_ hb hbox hg; obtain ⟨hcz10_0, hcz10_1, hfz10_0, hfz10_1⟩ := c2_ BK303) | ((with_reducible refine gate_callee (f := 72) rfl ?_); refine gL_ (some 5) Try.func72 #[.agg #[.slice A0_0 l0_0.length c0_0, .slice A0_1 l0_1.length c0_1]] (h := ?_); (with_reducible refine (page_may.calls k _ _ l0_0 _ _ l0_1 false _ ?side1 ?side2 ?side3 ?side4 A2.out).mono ?_); (case side1 => exact cb_ HR0_0 HB); (case side2 => exact HC0_0.out); (case side3 => exact cb_ HR0_1 HB); (case side4 => exact HC0_1.out); rintro e w11 ⟨rfl, hb⟩; refine ⟨_, rfl, ?_⟩; replace BK303 := mk0 (u_ BK303 hb); replace HB := mk0 (bt_ (b_ HB) hb); (try clear hb)))
  go_ret2
  exact ⟨by first | rfl | (simp [errW_none, errW_some] <;> rfl) | (simp [*, errW_none, errW_some] <;> rfl), b_ HB⟩

/-! ### quorumref4_Add: function 85 -/
def quorumref4_Add.f (k : Nat) (l0_0 : List ByteArray) (l0_1 : List Int) (a1 : ByteArray) : Option (List ByteArray × List Int × Int × Int) := (quorumref0_CopyPage.f k l0_0 l0_1).bind fun bt308 => (if (bt308.2.length : Int) > 0 then (if 0 < (bt308.2.length : Int) then (if 1 ≤ (bt308.2.length : Int) then ((quorumref0_CopyNumbers.f k (bt308.2.drop 1)).bind fun t319 => (if 0 ≤ (rd bt308.2 0) then (if (rd bt308.2 0) < (bt308.1.length : Int) then ((some (bt308.1.set ((rd bt308.2 0) : Int).toNat a1 : List ByteArray)).bind fun y322 => ((quorumref4_Bytes.f k y322 t319).bind fun t323 => (if t323 > 200 then (some (([] : List ByteArray), ([] : List Int), 0, 5)) else (if (bt308.1.length : Int) > 16 then (some (([] : List ByteArray), ([] : List Int), 0, 5)) else (some (y322, t319, rd bt308.2 0, 0)))))) else (none)) else (none))) else (none)) else (none)) else (if bt308.1.length < 8796093022208 then ((some (bt308.1 ++ [a1] : List ByteArray)).bind fun y324 => ((quorumref4_Bytes.f k y324 bt308.2).bind fun t327 => (if t327 > 200 then (some (([] : List ByteArray), ([] : List Int), 0, 5)) else (if (y324.length : Int) > 16 then (some (([] : List ByteArray), ([] : List Int), 0, 5)) else (some (y324, bt308.2, (bt308.1.length : Int), 0)))))) else (none)))
theorem quorumref4_Add.mono : ∀ a0 a1 a2 k, LeO (quorumref4_Add.f k a0 a1 a2) (quorumref4_Add.f (k + 1) a0 a1 a2) := by
 intro a0 a1 a2 k
 unfold quorumref4_Add.f
 repeat' first
   | (with_reducible exact quorumref0_CopyNumbers.mono _ _)
   | (with_reducible exact quorumref0_CopyPage.mono _ _ _)
   | (with_reducible exact quorumref4_Bytes.mono _ _ _)
   | (with_reducible exact LeO.refl _)
   | (with_reducible exact LeO.none _)
   | (with_reducible refine LeO.ite ?_ ?_)
   | (with_reducible refine LeO.bind ?_ (fun _ => ?_))
   | exact quorumref0_CopyNumbers.mono _ _
   | exact quorumref0_CopyPage.mono _ _ _
   | exact quorumref4_Bytes.mono _ _ _
   | exact LeO.none _
   | refine LeO.ite ?_ ?_
   | refine LeO.bind ?_ (fun _ => ?_)
set_option maxHeartbeats 8000000 in
set_option maxRecDepth 100000 in
theorem quorumref4_Add.calls (k : Nat) (A0_0 : Option Addr) (c0_0 : Nat) (l0_0 : List ByteArray) (A0_1 : Option Addr) (c0_1 : Nat) (l0_1 : List Int) (a1 : ByteArray) (r1 : List ByteArray) (r2 : List Int) (r3 : Int) (r4 : Int) (w : World) (hr0_0 : Kd.C Kd.string w A0_0 l0_0.length l0_0) (hc0_0 : l0_0.length ≤ c0_0) (hr0_1 : Kd.C (Kd.int .i64) w A0_1 l0_1.length l0_1) (hc0_1 : l0_1.length ≤ c0_1) (h : quorumref4_Add.f k l0_0 l0_1 a1 = some (r1, r2, r3, r4)) :
  Calls Try.prog 85 #[.agg #[.slice A0_0 l0_0.length c0_0, .slice A0_1 l0_1.length c0_1], .string a1] w fun e w' => ∃ v0_ v1_ : Value, e = .returned (.tuple #[.agg #[v0_, v1_], .int .i64 r3, .int .i64 r4]) ∧ Kd.R Kd.string 9 w' w.heap.size (fun _ => True) v0_ r1 ∧ Kd.R (Kd.int .i64) 3 w' w.heap.size (fun _ => True) v1_ r2 ∧ Below w.heap.size w w' := by
 have hu56 := Try.underlying56
 have HR0_0 := mk0 hr0_0
 have HC0_0 := mk0 hc0_0
 clear hr0_0 hc0_0
 have HR0_1 := mk0 hr0_1
 have HC0_1 := mk0 hc0_1
 clear hr0_1 hc0_1
 have HB := mk0 (Below.refl w.heap.size w)
 have H : ((quorumref0_CopyPage.f k l0_0 l0_1).bind fun bt308 => (if (bt308.2.length : Int) > 0 then (if 0 < (bt308.2.length : Int) then (if 1 ≤ (bt308.2.length : Int) then ((quorumref0_CopyNumbers.f k (bt308.2.drop 1)).bind fun t319 => (if 0 ≤ (rd bt308.2 0) then (if (rd bt308.2 0) < (bt308.1.length : Int) then ((some (bt308.1.set ((rd bt308.2 0) : Int).toNat a1 : List ByteArray)).bind fun y322 => ((quorumref4_Bytes.f k y322 t319).bind fun t323 => (if t323 > 200 then (some (([] : List ByteArray), ([] : List Int), 0, 5)) else (if (bt308.1.length : Int) > 16 then (some (([] : List ByteArray), ([] : List Int), 0, 5)) else (some (y322, t319, rd bt308.2 0, 0)))))) else (none)) else (none))) else (none)) else (none)) else (if bt308.1.length < 8796093022208 then ((some (bt308.1 ++ [a1] : List ByteArray)).bind fun y324 => ((quorumref4_Bytes.f k y324 bt308.2).bind fun t327 => (if t327 > 200 then (some (([] : List ByteArray), ([] : List Int), 0, 5)) else (if (y324.length : Int) > 16 then (some (([] : List ByteArray), ([] : List Int), 0, 5)) else (some (y324, bt308.2, (bt308.1.length : Int), 0)))))) else (none)))) = some (r1, r2, r3, r4) := h
 clear h
 replace H := Option.bind_eq_some_iff.mp H
 obtain ⟨⟨t308, t311⟩, A30, H⟩ := H
 try dsimp only at H
 have A3 := mk0 A30
 clear A30
 by_cases c4 : (t311.length : Int) > 0
 ·rw [if_pos c4] at H
  have c4b0 : decide (0 < (t311.length : Int)) = true := decide_eq_true c4
  have c4b1 : decide (0 < t311.length) = true := decide_eq_true (by omega)
  clear c4
  by_cases c5 : 0 < (t311.length : Int)
  ·rw [if_pos c5] at H
   have c5b0 : decide (0 < (t311.length : Int)) = true := decide_eq_true c5
   have c5b1 : decide (0 < t311.length) = true := decide_eq_true (by omega)
   clear c5
   by_cases c6 : 1 ≤ (t311.length : Int)
   ·rw [if_pos c6] at H
    have c6b0 := eq_true c6
    have c6b1 : decide (1 ≤ (t311.length : Int)) = true := decide_eq_true c6
    clear c6
    obtain ⟨y315, hy315⟩ : ∃ y_ : List Int, y_ = (t311.drop 1) := ⟨_, rfl⟩
    replace H : ((quorumref0_CopyNumbers.f k y315).bind fun t319 => (if 0 ≤ (rd t311 0) then (if (rd t311 0) < (t308.length : Int) then ((some (t308.set ((rd t311 0) : Int).toNat a1 : List ByteArray)).bind fun y322 => ((quorumref4_Bytes.f k y322 t319).bind fun t323 => (if t323 > 200 then (some (([] : List ByteArray), ([] : List Int), 0, 5)) else (if (t308.length : Int) > 16 then (some (([] : List ByteArray), ([] : List Int), 0, 5)) else (some (y322, t319, rd t311 0, 0)))))) else (none)) else (none))) = some (r1, r2, r3, r4) := by first | (rw [hy315]; with_reducible exact H) | (have H2_ := (Option.bind_some _ _).symm.trans H; rw [hy315]; with_reducible exact H2_) | (have H2_ := (Option.bind_some _ _).symm.trans H; with_reducible exact H2_) | with_reducible exact H | (rw [hy315]; exact H) | exact H
    have Ny315 := mk0 hy315
    clear hy315
    replace H := Option.bind_eq_some_iff.mp H
    obtain ⟨t319, A70, H⟩ := H
    try dsimp only at H
    have A7 := mk0 A70
    clear A70
    by_cases c8 : 0 ≤ (rd t311 0)
    ·rw [if_pos c8] at H
     have c8b0 : decide (0 ≤ (rd t311 0)) = true := decide_eq_true c8
     clear c8
     by_cases c9 : (rd t311 0) < (t308.length : Int)
     ·rw [if_pos c9] at H
      have c9b0 : decide ((rd t311 0) < (t308.length : Int)) = true := decide_eq_true c9
      clear c9
      obtain ⟨y322, hy322⟩ : ∃ y_ : List ByteArray, y_ = (t308.set ((rd t311 0) : Int).toNat a1) := ⟨_, rfl⟩
      replace H : ((quorumref4_Bytes.f k y322 t319).bind fun t323 => (if t323 > 200 then (some (([] : List ByteArray), ([] : List Int), 0, 5)) else (if (t308.length : Int) > 16 then (some (([] : List ByteArray), ([] : List Int), 0, 5)) else (some (y322, t319, rd t311 0, 0))))) = some (r1, r2, r3, r4) := by first | (rw [hy322]; with_reducible exact H) | (have H2_ := (Option.bind_some _ _).symm.trans H; rw [hy322]; with_reducible exact H2_) | (have H2_ := (Option.bind_some _ _).symm.trans H; with_reducible exact H2_) | with_reducible exact H | (rw [hy322]; exact H) | exact H
      have Ny322 := mk0 hy322
      clear hy322
      replace H := Option.bind_eq_some_iff.mp H
      obtain ⟨t323, A110, H⟩ := H
      try dsimp only at H
      have A11 := mk0 A110
      clear A110
      by_cases c12 : t323 > 200
      ·rw [if_pos c12] at H
       have c12b0 : decide (200 < t323) = true := decide_eq_true c12
       clear c12
       simp only [Option.some.injEq, Prod.mk.injEq] at H
       obtain ⟨rfl, rfl, rfl, rfl⟩ := H
       go_enter Try.func85, Try.ntmps85
       go_wp2_with (first | ((with_reducible refine gate_dst (N := 2) rfl ?_); (try (refine gate_guard (by rfl) ?_; dsimp only)); refine bx_ (N := 2) (cs := #[.slice A0_0 l0_0.length c0_0, .slice A0_1 l0_1.length c0_1]) (t := 56) (h := ?_); intro gb306 hg w13 hbox hb; have n2_ := mk0 (gz_ HB hg); have n3_ := mk0 (gz_ HB hg); replace HB := mk0 (bt_ (b_ HB) hb); have BK306 := mk0 (hbox); have GW306 := n2_; have GE306 := n3_; clear n2_ n3_; clear hb hbox hg) | ((with_reducible refine gate_dst (N := 4) rfl ?_); (try (refine gate_guard (by rfl) ?_; dsimp only)); refine bx_ (N := 4) (cs := #[.slice none 0 0, .slice none 0 0]) (t := 56) (h := ?_); intro gb307 hg w14 hbox hb; have n3_ := mk0 (gz_ HB hg); have n4_ := mk0 (gz_ HB hg); have n5_ := mk0 (ne1_ BK306 hg); have n6_ := mk0 (ne2_ BK306 hg); replace BK306 := mk0 (u_ BK306 hb); replace HB := mk0 (bt_ (b_ HB) hb); have BK307 := mk0 (hbox); have GW307 := n3_; have GE307 := n4_; have NB306_307 := n5_; have NB307_306 := n6_; clear n3_ n4_ n5_ n6_ hb hbox hg; have hnb15 := NB306_307.out; have hnc15 := NB307_306.out; obtain ⟨hcz16_0, hcz16_1, hfz16_0, hfz16_1⟩ := c2_ BK306) | ((with_reducible refine gate_callee (f := 42) rfl ?_); refine gL_ (some 9) Try.func42 #[.agg #[.slice A0_0 l0_0.length c0_0, .slice A0_1 l0_1.length c0_1]] (h := ?_); (with_reducible refine (quorumref0_CopyPage.calls k _ _ l0_0 _ _ l0_1 t308 t311 _ ?side1 ?side2 ?side3 ?side4 A3.out).mono ?_); (case side1 => exact cb_ HR0_0 HB); (case side2 => exact HC0_0.out); (case side3 => exact cb_ HR0_1 HB); (case side4 => exact HC0_1.out); rintro e w17 ⟨v309, v312, rfl, ho0, ho1, hb⟩; refine ⟨_, rfl, ?_⟩; have n0_ := mk0 (Kd.R_lower ho0 (bz_ (b_ HB))); have n1_ := mk0 (Kd.R_lower ho1 (bz_ (b_ HB))); replace BK306 := mk0 (u_ BK306 hb); replace BK307 := mk0 (u_ BK307 hb); replace HB := mk0 (bt_ (b_ HB) hb); have HO310 := n0_; have HO313 := n1_; clear n0_ n1_; (try clear hb); (try clear ho0); (try clear ho1); obtain ⟨Ao18, co18, eo18⟩ := Kd.R_slice HO310.out; subst eo18; obtain ⟨hcz19_0, hcz19_1, hfz19_0, hfz19_1⟩ := c2_ BK306; obtain ⟨Ao20, co20, eo20⟩ := Kd.R_slice HO313.out; subst eo20) | ((with_reducible refine gate_store (t := 56) (p := 2) rfl ?_); refine sv_ (t := 56) (p := 2) (w1 := ((w17.setCell ⟨gb306, 0, none⟩ (.slice Ao18 t308.length co18)).setCell ⟨gb306, 1, none⟩ (.slice Ao20 t311.length co20))) (h := ?_); intro w21 hw; have n0_ : Fc (Kd.R Kd.string 9 w21 w.heap.size (fun _ => True) (.slice Ao18 t308.length co18) t308) := ⟨(by rw [hw]; exact (r2_ (Kd.R_mono (Kd.R_far (p := ⟨gb306, 1, none⟩) (Kd.R_far (p := ⟨gb306, 0, none⟩) (Kd.R_types HO310.out BK306.out (by decide)) (fun _ hk => hk.2) (.slice Ao18 t308.length co18)) (fun _ hk => hk.2) (.slice Ao20 t311.length co20)) (fun _ hk => trivial))))⟩; have n1_ : Fc (Kd.R (Kd.int .i64) 3 w21 w.heap.size (fun _ => True) (.slice Ao20 t311.length co20) t311) := ⟨(by rw [hw]; exact (r2_ (Kd.R_mono (Kd.R_far (p := ⟨gb306, 1, none⟩) (Kd.R_far (p := ⟨gb306, 0, none⟩) (Kd.R_types HO313.out BK306.out (by decide)) (fun _ hk => hk.2) (.slice Ao18 t308.length co18)) (fun _ hk => hk.2) (.slice Ao20 t311.length co20)) (fun _ hk => trivial))))⟩; have n2_ : Fc (w21.heap[gb306]? = some (.cells #[.slice Ao18 t308.length co18, .slice Ao20 t311.length co20] 56 (0, 0))) := ⟨(by rw [hw]; exact (pu_ (cs := #[.slice Ao18 t308.length co18, .slice A0_1 l0_1.length c0_1]) (pu_ (cs := #[.slice A0_0 l0_0.length c0_0, .slice A0_1 l0_1.length c0_1]) (h_ BK306))))⟩; have n3_ : Fc (w21.heap[gb307]? = some (.cells #[.slice none 0 0, .slice none 0 0] 56 (0, 0))) := ⟨(by rw [hw]; exact (fa_ (fa_ (h_ BK307) NB307_306.out) NB307_306.out))⟩; have n4_ : Fc (Below w.heap.size w w21) := ⟨(by rw [hw]; exact (b_ HB))⟩; clear hw HO310 HO313 BK306 BK307 HB; have HO310 := n0_; have HO313 := n1_; have BK306 := n2_; have BK307 := n3_; have HB := n4_; clear n0_ n1_ n2_ n3_ n4_; obtain ⟨hcz22_0, hcz22_1, hfz22_0, hfz22_1⟩ := c2_ BK306; have p314 : 0 ≤ (0 : Int) := (by omega); have q314 : 0 < (t311.length : Int) := of_decide_eq_true (by first | (with_reducible assumption) | assumption); obtain ⟨ad314, e314, hx314_0⟩ := Kd.at_int (Kd.R_reads' HO313.out).2.2 0 p314 q314; cases e314; have qi314 : (0 < t311.length) = True := eq_true (by omega); (try rw [show ((0 : Int)).toNat = 0 from rfl] at hx314_0); (try rw [Addr.add_zero'] at hx314_0); replace p314 := eq_true p314; replace q314 := eq_true q314; have q23 : (1 : Int) ≤ ((t311.length : Int) : Int) := of_decide_eq_true (by first | (with_reducible assumption) | assumption); obtain ⟨i023, hi023, _, hsz23, _⟩ := info_parts info3; have hroom23 : t311.length ≤ co20 := (Kd.R_reads' HO313.out).2.1; have hC23 : Kd.C (Kd.int .i64) _ (some ad314) t311.length t311 := (Kd.R_reads' HO313.out).2.2; have hcut23 := cut_from (P := Try.prog) 24 3 .i64 Try.underlying24 hi023 1 hsz23 (some ad314) t311.length co20 1 (by omega) q23; have hr23 := Kd.C_drop (m := (1 : Int).toNat) (c := co20) hC23 (by omega) hroom23; obtain ⟨A23, hA23⟩ : ∃ A1, A1 = (if co20 = (1 : Int).toNat then (some ad314) else ((some ad314) : Option Addr).map (·.add ((1 : Int).toNat * 1))) := ⟨_, rfl⟩; obtain ⟨c23, hc23⟩ : ∃ c1, c1 = co20 - (1 : Int).toNat := ⟨_, rfl⟩; have hy23 : y315.length = t311.length - (1 : Int).toNat := (by rw [Ny315.out, List.length_drop] <;> omega); rw [show (t311).drop (1 : Int).toNat = y315 from Ny315.out.symm] at hr23; replace hr23 : Kd.C (Kd.int .i64) _ A23 y315.length y315 := (by rw [hA23]; exact hr23); rw [← hy23, ← hA23, ← hc23] at hcut23; have HR318 := mk0 hr23; have HC318 := mk0 (show y315.length ≤ c23 from by rw [hy23, hc23]; exact Nat.sub_le_sub_right hroom23 _); clear hr23 hC23 hroom23 hi023 hsz23 hc23; have KY23 := mk0 hy23; have KA23 := mk0 hA23; clear hy23 hA23; have KL23 := mk0 (show 1 ≤ t311.length from by omega); replace q23 := eq_true q23) | ((with_reducible refine gate_callee (f := 79) rfl ?_); refine gL_ (some 24) Try.func79 #[.slice A23 y315.length c23] (h := ?_); (with_reducible refine (quorumref0_CopyNumbers.calls k _ _ y315 t319 _ ?side1 ?side2 A7.out).mono ?_); (case side1 => repeat (first | exact (by repeat (first | (with_reducible exact HR318.out) | (with_reducible refine Kd.C_alloc ?_ _) | (with_reducible refine Kd.C_drewN ?_ _) | (with_reducible refine Kd.C_drew ?_) | exact HR318.out)) | (with_reducible refine Kd.C_alloc ?_ _) | (with_reducible refine Kd.C_drewN ?_ _) | (with_reducible refine Kd.C_drew ?_))); (case side2 => exact HC318.out); rintro e w24 ⟨v320, rfl, ho0, hb⟩; refine ⟨_, rfl, ?_⟩; have n2_ := mk0 (Kd.R_lower (Kd.R_new' ho0 (Kd.R_lt (r_ HO313))) (bz_ (b_ HB))); replace HO310 := mk0 (Kd.R_below (r_ HO310) hb); replace HO313 := mk0 (Kd.R_elder' (r_ HO313) (Kd.R_base ho0) hb); replace BK306 := mk0 (u_ BK306 hb); replace BK307 := mk0 (u_ BK307 hb); replace HR318 := mk0 (Kd.C_below (by (with_reducible repeat (first | refine Kd.C_drewN ?_ _ | refine Kd.C_drew ?_ | refine Kd.C_alloc ?_ _)); exact HR318.out) hb); replace HB := mk0 (bt_ (b_ HB) hb); have HO321 := n2_; clear n2_; (try clear hb); (try clear ho0); obtain ⟨Ao25, co25, eo25⟩ := Kd.R_slice HO321.out; subst eo25; obtain ⟨hcz26_0, hcz26_1, hfz26_0, hfz26_1⟩ := c2_ BK306) | ((with_reducible refine gate_store (t := 24) (p := 25) rfl ?_); refine sv_ (t := 24) (p := 25) (w1 := (w24.setCell ⟨gb306, 1, none⟩ (.slice Ao25 t319.length co25))) (h := ?_); intro w27 hw; have n0_ : Fc (Kd.R Kd.string 9 w27 w.heap.size (fun _ => True) (.slice Ao18 t308.length co18) t308) := ⟨(by rw [hw]; exact (r2_ (Kd.R_mono (Kd.R_far (p := ⟨gb306, 1, none⟩) (Kd.R_types HO310.out BK306.out (by decide)) (fun _ hk => hk.2) (.slice Ao25 t319.length co25)) (fun _ hk => trivial))))⟩; have n1_ : Fc (Kd.R (Kd.int .i64) 3 w27 w.heap.size (fun k_ => some k_ ≠ (.slice Ao25 t319.length co25 : Value).ownBlock) (.slice (some ad314) t311.length co20) t311) := ⟨(by rw [hw]; exact (r2_ (Kd.R_mono (Kd.R_far (p := ⟨gb306, 1, none⟩) (Kd.R_types HO313.out BK306.out (by decide)) (fun _ hk => hk.2) (.slice Ao25 t319.length co25)) (fun _ hk => hk.1.2))))⟩; have n2_ : Fc (Kd.R (Kd.int .i64) 3 w27 w.heap.size (fun k_ => some k_ ≠ (.slice (some ad314) t311.length co20 : Value).ownBlock) (.slice Ao25 t319.length co25) t319) := ⟨(by rw [hw]; exact (r2_ (Kd.R_mono (Kd.R_far (p := ⟨gb306, 1, none⟩) (Kd.R_types HO321.out BK306.out (by decide)) (fun _ hk => hk.2) (.slice Ao25 t319.length co25)) (fun _ hk => hk.1.2))))⟩; have n3_ : Fc (w27.heap[gb306]? = some (.cells #[.slice Ao18 t308.length co18, .slice Ao25 t319.length co25] 56 (0, 0))) := ⟨(by rw [hw]; exact (pu_ (cs := #[.slice Ao18 t308.length co18, .slice (some ad314) t311.length co20]) (h_ BK306)))⟩; have n4_ : Fc (w27.heap[gb307]? = some (.cells #[.slice none 0 0, .slice none 0 0] 56 (0, 0))) := ⟨(by rw [hw]; exact (fa_ (h_ BK307) NB307_306.out))⟩; have n5_ : Fc (Below w.heap.size w w27) := ⟨(by rw [hw]; exact (b_ HB))⟩; clear hw HO310 HO313 HO321 BK306 BK307 HB; have HO310 := n0_; have HO313 := n1_; have HO321 := n2_; have BK306 := n3_; have BK307 := n4_; have HB := n5_; clear n0_ n1_ n2_ n3_ n4_ n5_; obtain ⟨hcz28_0, hcz28_1, hfz28_0, hfz28_1⟩ := c2_ BK306; have p10 : 0 ≤ ((rd t311 0) : Int) := of_decide_eq_true (by first | (with_reducible assumption) | assumption); have q10 : ((rd t311 0) : Int) < ((t308.length : Int) : Int) := of_decide_eq_true (by first | (with_reducible assumption) | assumption); obtain ⟨go10, co10, eo10, gb10, gl10, cl10, HG10⟩ := Kd.R_form HO310.out (by omega); (first | cases eo10 | (injection eo10 with ea_ en_ ec_; (first | subst ea_ | (injection ea_ with ea_; subst ea_)); subst ec_; clear en_)); have GB10 := mk0 gb10; have GG10 := mk0 HG10; clear gb10 gl10 HG10; obtain ⟨hx10_0, hf10_0⟩ := Kd.R_celln (⟨#[]⟩ : ByteArray) HO310.out ((rd t311 0) : Int) p10 q10; replace p10 := eq_true p10; replace q10 := eq_true q10; obtain ⟨hy29_, hz29_⟩ := Kd.R_celln (⟨#[]⟩ : ByteArray) HO310.out ((rd t311 0) : Int) (of_decide_eq_true (by first | (with_reducible assumption) | assumption)) (of_decide_eq_true (by first | (with_reducible assumption) | assumption)); have HP29 := Kd.R_putg HO310.out ((rd t311 0) : Int) a1) | ((with_reducible refine gate_store (t := 9) (p := 30) rfl ?_); refine sv_ (t := 9) (p := 30) (w1 := (w27.setCell ⟨go10, ((rd t311 0) : Int).toNat, none⟩ (.string a1))) (h := ?_); intro w30 hw; have hg : w27.grownBy w30 (some go10) := (by rw [hw]; exact HP29.2); have hp_ : Kd.R Kd.string 9 w30 w.heap.size (fun _ => True) (.slice (some ⟨go10, 0, none⟩) t308.length co18) y322 := (by rw [hw, Ny322.out]; exact HP29.1); clear HP29; have n0_ := mk0 (blk_grown (g := gb306) (o := .cells #[.slice (some ⟨go10, 0, none⟩) t308.length co18, .slice Ao25 t319.length co25] 56 (0, 0)) (h_ BK306) hg (Kd.R_ne HO310.out BK306.out (by decide))); have n1_ := mk0 (blk_grown (g := gb307) (o := .cells #[.slice none 0 0, .slice none 0 0] 56 (0, 0)) (h_ BK307) hg (Kd.R_ne HO310.out BK307.out (by decide))); have n3_ := mk0 (Kd.R_over' (v := (.slice (some ⟨go10, 0, none⟩) t308.length co18)) (r_ HO313) (Kd.R_typed HO310.out) (by decide) hg); have n4_ := mk0 (Kd.R_over' (v := (.slice (some ⟨go10, 0, none⟩) t308.length co18)) (r_ HO321) (Kd.R_typed HO310.out) (by decide) hg); replace HO310 := mk0 (hp_); replace HB := mk0 ((by rw [hw]; exact bs_ (HB.out) GB10.out : Below w.heap.size w w30)); clear BK306 BK307 HO313 HO321; have BK306 := n0_; have BK307 := n1_; have HO313 := n3_; have HO321 := n4_; clear n0_ n1_ n3_ n4_ hg hw hp_; obtain ⟨hcz31_0, hcz31_1, hfz31_0, hfz31_1⟩ := c2_ BK306) | ((with_reducible refine gate_callee (f := 77) rfl ?_); refine goesL_ (some 38) rfl rfl Try.func77 (by kernel_rfl) rfl #[.agg #[.slice (some ⟨go10, 0, none⟩) y322.length co18, .slice Ao25 t319.length co25]] rfl (by (try simp only [List.map_toArray, List.map_cons, List.map_nil]); first | done | (rw [show y322.length = t308.length from (Kd.R_reads' HO310.out).1.symm] <;> rfl) | rfl | (simp only [List.length_drop, List.length_take]; rfl)) ?_; (with_reducible refine (quorumref4_Bytes.calls k _ _ y322 _ _ t319 t323 _ ?side1 ?side2 ?side3 ?side4 A11.out).mono ?_); (case side1 => exact cr_ HO310); (case side2 => rw [show y322.length = t308.length from (Kd.R_reads' HO310.out).1.symm]; exact (Kd.R_reads' HO310.out).2.1); (case side3 => exact cr_ HO321); (case side4 => exact (Kd.R_reads' HO321.out).2.1); rintro e w32 ⟨rfl, hb⟩; refine ⟨_, rfl, ?_⟩; replace HO310 := mk0 (Kd.R_below (r_ HO310) hb); replace HO313 := mk0 (Kd.R_below (r_ HO313) hb); replace HO321 := mk0 (Kd.R_below (r_ HO321) hb); replace BK306 := mk0 (u_ BK306 hb); replace BK307 := mk0 (u_ BK307 hb); replace HB := mk0 (bt_ (b_ HB) hb); (try clear hb); obtain ⟨hcz33_0, hcz33_1, hfz33_0, hfz33_1⟩ := c2_ BK307))
       refine bodyPost_ret (results_ctt rfl _ _ gb307 56 #[.slice none 0 0, .slice none 0 0] (0, 0) _ rfl (pu_ (cs := #[.slice none 0 0, .slice none 0 0]) (pu_ (cs := #[.slice none 0 0, .slice none 0 0]) (h_ BK307))) Try.underlying56 rfl (by kernel_rfl)) rfl ?_
       exact ⟨_, _, by first | rfl | (simp [errW_none, errW_some] <;> rfl) | (simp [*, errW_none, errW_some] <;> rfl), by first | exact Kd.R_nil _ _ _ _ _ | exact Kd.N_nil _ _ _ _ _ | exact Kd.V_nil _ _ _ _ _ | exact Kd.Q_nil _ _ _ _ _ | exact Kd.S_nil _ _ _ _ _, by first | exact Kd.R_nil _ _ _ _ _ | exact Kd.N_nil _ _ _ _ _ | exact Kd.V_nil _ _ _ _ _ | exact Kd.Q_nil _ _ _ _ _ | exact Kd.S_nil _ _ _ _ _, b_ HB⟩
      ·rw [if_neg c12] at H
       have c12b0 : decide (200 < t323) = false := decide_eq_false c12
       clear c12
       by_cases c34 : (t308.length : Int) > 16
       ·rw [if_pos c34] at H
        have c34b0 : decide (16 < (t308.length : Int)) = true := decide_eq_true c34
        have c34b1 : decide (16 < t308.length) = true := decide_eq_true (by omega)
        clear c34
        simp only [Option.some.injEq, Prod.mk.injEq] at H
        obtain ⟨rfl, rfl, rfl, rfl⟩ := H
        go_enter Try.func85, Try.ntmps85
        go_wp2_with (first | ((with_reducible refine gate_dst (N := 2) rfl ?_); (try (refine gate_guard (by rfl) ?_; dsimp only)); refine bx_ (N := 2) (cs := #[.slice A0_0 l0_0.length c0_0, .slice A0_1 l0_1.length c0_1]) (t := 56) (h := ?_); intro gb306 hg w35 hbox hb; have n2_ := mk0 (gz_ HB hg); have n3_ := mk0 (gz_ HB hg); replace HB := mk0 (bt_ (b_ HB) hb); have BK306 := mk0 (hbox); have GW306 := n2_; have GE306 := n3_; clear n2_ n3_; clear hb hbox hg) | ((with_reducible refine gate_dst (N := 4) rfl ?_); (try (refine gate_guard (by rfl) ?_; dsimp only)); refine bx_ (N := 4) (cs := #[.slice none 0 0, .slice none 0 0]) (t := 56) (h := ?_); intro gb307 hg w36 hbox hb; have n3_ := mk0 (gz_ HB hg); have n4_ := mk0 (gz_ HB hg); have n5_ := mk0 (ne1_ BK306 hg); have n6_ := mk0 (ne2_ BK306 hg); replace BK306 := mk0 (u_ BK306 hb); replace HB := mk0 (bt_ (b_ HB) hb); have BK307 := mk0 (hbox); have GW307 := n3_; have GE307 := n4_; have NB306_307 := n5_; have NB307_306 := n6_; clear n3_ n4_ n5_ n6_ hb hbox hg; have hnb37 := NB306_307.out; have hnc37 := NB307_306.out; obtain ⟨hcz38_0, hcz38_1, hfz38_0, hfz38_1⟩ := c2_ BK306) | ((with_reducible refine gate_callee (f := 42) rfl ?_); refine gL_ (some 9) Try.func42 #[.agg #[.slice A0_0 l0_0.length c0_0, .slice A0_1 l0_1.length c0_1]] (h := ?_); (with_reducible refine (quorumref0_CopyPage.calls k _ _ l0_0 _ _ l0_1 t308 t311 _ ?side1 ?side2 ?side3 ?side4 A3.out).mono ?_); (case side1 => exact cb_ HR0_0 HB); (case side2 => exact HC0_0.out); (case side3 => exact cb_ HR0_1 HB); (case side4 => exact HC0_1.out); rintro e w39 ⟨v309, v312, rfl, ho0, ho1, hb⟩; refine ⟨_, rfl, ?_⟩; have n0_ := mk0 (Kd.R_lower ho0 (bz_ (b_ HB))); have n1_ := mk0 (Kd.R_lower ho1 (bz_ (b_ HB))); replace BK306 := mk0 (u_ BK306 hb); replace BK307 := mk0 (u_ BK307 hb); replace HB := mk0 (bt_ (b_ HB) hb); have HO310 := n0_; have HO313 := n1_; clear n0_ n1_; (try clear hb); (try clear ho0); (try clear ho1); obtain ⟨Ao40, co40, eo40⟩ := Kd.R_slice HO310.out; subst eo40; obtain ⟨hcz41_0, hcz41_1, hfz41_0, hfz41_1⟩ := c2_ BK306; obtain ⟨Ao42, co42, eo42⟩ := Kd.R_slice HO313.out; subst eo42) | ((with_reducible refine gate_store (t := 56) (p := 2) rfl ?_); refine sv_ (t := 56) (p := 2) (w1 := ((w39.setCell ⟨gb306, 0, none⟩ (.slice Ao40 t308.length co40)).setCell ⟨gb306, 1, none⟩ (.slice Ao42 t311.length co42))) (h := ?_); intro w43 hw; have n0_ : Fc (Kd.R Kd.string 9 w43 w.heap.size (fun _ => True) (.slice Ao40 t308.length co40) t308) := ⟨(by rw [hw]; exact (r2_ (Kd.R_mono (Kd.R_far (p := ⟨gb306, 1, none⟩) (Kd.R_far (p := ⟨gb306, 0, none⟩) (Kd.R_types HO310.out BK306.out (by decide)) (fun _ hk => hk.2) (.slice Ao40 t308.length co40)) (fun _ hk => hk.2) (.slice Ao42 t311.length co42)) (fun _ hk => trivial))))⟩; have n1_ : Fc (Kd.R (Kd.int .i64) 3 w43 w.heap.size (fun _ => True) (.slice Ao42 t311.length co42) t311) := ⟨(by rw [hw]; exact (r2_ (Kd.R_mono (Kd.R_far (p := ⟨gb306, 1, none⟩) (Kd.R_far (p := ⟨gb306, 0, none⟩) (Kd.R_types HO313.out BK306.out (by decide)) (fun _ hk => hk.2) (.slice Ao40 t308.length co40)) (fun _ hk => hk.2) (.slice Ao42 t311.length co42)) (fun _ hk => trivial))))⟩; have n2_ : Fc (w43.heap[gb306]? = some (.cells #[.slice Ao40 t308.length co40, .slice Ao42 t311.length co42] 56 (0, 0))) := ⟨(by rw [hw]; exact (pu_ (cs := #[.slice Ao40 t308.length co40, .slice A0_1 l0_1.length c0_1]) (pu_ (cs := #[.slice A0_0 l0_0.length c0_0, .slice A0_1 l0_1.length c0_1]) (h_ BK306))))⟩; have n3_ : Fc (w43.heap[gb307]? = some (.cells #[.slice none 0 0, .slice none 0 0] 56 (0, 0))) := ⟨(by rw [hw]; exact (fa_ (fa_ (h_ BK307) NB307_306.out) NB307_306.out))⟩; have n4_ : Fc (Below w.heap.size w w43) := ⟨(by rw [hw]; exact (b_ HB))⟩; clear hw HO310 HO313 BK306 BK307 HB; have HO310 := n0_; have HO313 := n1_; have BK306 := n2_; have BK307 := n3_; have HB := n4_; clear n0_ n1_ n2_ n3_ n4_; obtain ⟨hcz44_0, hcz44_1, hfz44_0, hfz44_1⟩ := c2_ BK306; have p314 : 0 ≤ (0 : Int) := (by omega); have q314 : 0 < (t311.length : Int) := of_decide_eq_true (by first | (with_reducible assumption) | assumption); obtain ⟨ad314, e314, hx314_0⟩ := Kd.at_int (Kd.R_reads' HO313.out).2.2 0 p314 q314; cases e314; have qi314 : (0 < t311.length) = True := eq_true (by omega); (try rw [show ((0 : Int)).toNat = 0 from rfl] at hx314_0); (try rw [Addr.add_zero'] at hx314_0); replace p314 := eq_true p314; replace q314 := eq_true q314; have q45 : (1 : Int) ≤ ((t311.length : Int) : Int) := of_decide_eq_true (by first | (with_reducible assumption) | assumption); obtain ⟨i045, hi045, _, hsz45, _⟩ := info_parts info3; have hroom45 : t311.length ≤ co42 := (Kd.R_reads' HO313.out).2.1; have hC45 : Kd.C (Kd.int .i64) _ (some ad314) t311.length t311 := (Kd.R_reads' HO313.out).2.2; have hcut45 := cut_from (P := Try.prog) 24 3 .i64 Try.underlying24 hi045 1 hsz45 (some ad314) t311.length co42 1 (by omega) q45; have hr45 := Kd.C_drop (m := (1 : Int).toNat) (c := co42) hC45 (by omega) hroom45; obtain ⟨A45, hA45⟩ : ∃ A1, A1 = (if co42 = (1 : Int).toNat then (some ad314) else ((some ad314) : Option Addr).map (·.add ((1 : Int).toNat * 1))) := ⟨_, rfl⟩; obtain ⟨c45, hc45⟩ : ∃ c1, c1 = co42 - (1 : Int).toNat := ⟨_, rfl⟩; have hy45 : y315.length = t311.length - (1 : Int).toNat := (by rw [Ny315.out, List.length_drop] <;> omega); rw [show (t311).drop (1 : Int).toNat = y315 from Ny315.out.symm] at hr45; replace hr45 : Kd.C (Kd.int .i64) _ A45 y315.length y315 := (by rw [hA45]; exact hr45); rw [← hy45, ← hA45, ← hc45] at hcut45; have HR318 := mk0 hr45; have HC318 := mk0 (show y315.length ≤ c45 from by rw [hy45, hc45]; exact Nat.sub_le_sub_right hroom45 _); clear hr45 hC45 hroom45 hi045 hsz45 hc45; have KY45 := mk0 hy45; have KA45 := mk0 hA45; clear hy45 hA45; have KL45 := mk0 (show 1 ≤ t311.length from by omega); replace q45 := eq_true q45) | ((with_reducible refine gate_callee (f := 79) rfl ?_); refine gL_ (some 24) Try.func79 #[.slice A45 y315.length c45] (h := ?_); (with_reducible refine (quorumref0_CopyNumbers.calls k _ _ y315 t319 _ ?side1 ?side2 A7.out).mono ?_); (case side1 => repeat (first | exact (by repeat (first | (with_reducible exact HR318.out) | (with_reducible refine Kd.C_alloc ?_ _) | (with_reducible refine Kd.C_drewN ?_ _) | (with_reducible refine Kd.C_drew ?_) | exact HR318.out)) | (with_reducible refine Kd.C_alloc ?_ _) | (with_reducible refine Kd.C_drewN ?_ _) | (with_reducible refine Kd.C_drew ?_))); (case side2 => exact HC318.out); rintro e w46 ⟨v320, rfl, ho0, hb⟩; refine ⟨_, rfl, ?_⟩; have n2_ := mk0 (Kd.R_lower (Kd.R_new' ho0 (Kd.R_lt (r_ HO313))) (bz_ (b_ HB))); replace HO310 := mk0 (Kd.R_below (r_ HO310) hb); replace HO313 := mk0 (Kd.R_elder' (r_ HO313) (Kd.R_base ho0) hb); replace BK306 := mk0 (u_ BK306 hb); replace BK307 := mk0 (u_ BK307 hb); replace HR318 := mk0 (Kd.C_below (by (with_reducible repeat (first | refine Kd.C_drewN ?_ _ | refine Kd.C_drew ?_ | refine Kd.C_alloc ?_ _)); exact HR318.out) hb); replace HB := mk0 (bt_ (b_ HB) hb); have HO321 := n2_; clear n2_; (try clear hb); (try clear ho0); obtain ⟨Ao47, co47, eo47⟩ := Kd.R_slice HO321.out; subst eo47; obtain ⟨hcz48_0, hcz48_1, hfz48_0, hfz48_1⟩ := c2_ BK306) | ((with_reducible refine gate_store (t := 24) (p := 25) rfl ?_); refine sv_ (t := 24) (p := 25) (w1 := (w46.setCell ⟨gb306, 1, none⟩ (.slice Ao47 t319.length co47))) (h := ?_); intro w49 hw; have n0_ : Fc (Kd.R Kd.string 9 w49 w.heap.size (fun _ => True) (.slice Ao40 t308.length co40) t308) := ⟨(by rw [hw]; exact (r2_ (Kd.R_mono (Kd.R_far (p := ⟨gb306, 1, none⟩) (Kd.R_types HO310.out BK306.out (by decide)) (fun _ hk => hk.2) (.slice Ao47 t319.length co47)) (fun _ hk => trivial))))⟩; have n1_ : Fc (Kd.R (Kd.int .i64) 3 w49 w.heap.size (fun k_ => some k_ ≠ (.slice Ao47 t319.length co47 : Value).ownBlock) (.slice (some ad314) t311.length co42) t311) := ⟨(by rw [hw]; exact (r2_ (Kd.R_mono (Kd.R_far (p := ⟨gb306, 1, none⟩) (Kd.R_types HO313.out BK306.out (by decide)) (fun _ hk => hk.2) (.slice Ao47 t319.length co47)) (fun _ hk => hk.1.2))))⟩; have n2_ : Fc (Kd.R (Kd.int .i64) 3 w49 w.heap.size (fun k_ => some k_ ≠ (.slice (some ad314) t311.length co42 : Value).ownBlock) (.slice Ao47 t319.length co47) t319) := ⟨(by rw [hw]; exact (r2_ (Kd.R_mono (Kd.R_far (p := ⟨gb306, 1, none⟩) (Kd.R_types HO321.out BK306.out (by decide)) (fun _ hk => hk.2) (.slice Ao47 t319.length co47)) (fun _ hk => hk.1.2))))⟩; have n3_ : Fc (w49.heap[gb306]? = some (.cells #[.slice Ao40 t308.length co40, .slice Ao47 t319.length co47] 56 (0, 0))) := ⟨(by rw [hw]; exact (pu_ (cs := #[.slice Ao40 t308.length co40, .slice (some ad314) t311.length co42]) (h_ BK306)))⟩; have n4_ : Fc (w49.heap[gb307]? = some (.cells #[.slice none 0 0, .slice none 0 0] 56 (0, 0))) := ⟨(by rw [hw]; exact (fa_ (h_ BK307) NB307_306.out))⟩; have n5_ : Fc (Below w.heap.size w w49) := ⟨(by rw [hw]; exact (b_ HB))⟩; clear hw HO310 HO313 HO321 BK306 BK307 HB; have HO310 := n0_; have HO313 := n1_; have HO321 := n2_; have BK306 := n3_; have BK307 := n4_; have HB := n5_; clear n0_ n1_ n2_ n3_ n4_ n5_; obtain ⟨hcz50_0, hcz50_1, hfz50_0, hfz50_1⟩ := c2_ BK306; have p10 : 0 ≤ ((rd t311 0) : Int) := of_decide_eq_true (by first | (with_reducible assumption) | assumption); have q10 : ((rd t311 0) : Int) < ((t308.length : Int) : Int) := of_decide_eq_true (by first | (with_reducible assumption) | assumption); obtain ⟨go10, co10, eo10, gb10, gl10, cl10, HG10⟩ := Kd.R_form HO310.out (by omega); (first | cases eo10 | (injection eo10 with ea_ en_ ec_; (first | subst ea_ | (injection ea_ with ea_; subst ea_)); subst ec_; clear en_)); have GB10 := mk0 gb10; have GG10 := mk0 HG10; clear gb10 gl10 HG10; obtain ⟨hx10_0, hf10_0⟩ := Kd.R_celln (⟨#[]⟩ : ByteArray) HO310.out ((rd t311 0) : Int) p10 q10; replace p10 := eq_true p10; replace q10 := eq_true q10; obtain ⟨hy51_, hz51_⟩ := Kd.R_celln (⟨#[]⟩ : ByteArray) HO310.out ((rd t311 0) : Int) (of_decide_eq_true (by first | (with_reducible assumption) | assumption)) (of_decide_eq_true (by first | (with_reducible assumption) | assumption)); have HP51 := Kd.R_putg HO310.out ((rd t311 0) : Int) a1) | ((with_reducible refine gate_store (t := 9) (p := 30) rfl ?_); refine sv_ (t := 9) (p := 30) (w1 := (w49.setCell ⟨go10, ((rd t311 0) : Int).toNat, none⟩ (.string a1))) (h := ?_); intro w52 hw; have hg : w49.grownBy w52 (some go10) := (by rw [hw]; exact HP51.2); have hp_ : Kd.R Kd.string 9 w52 w.heap.size (fun _ => True) (.slice (some ⟨go10, 0, none⟩) t308.length co40) y322 := (by rw [hw, Ny322.out]; exact HP51.1); clear HP51; have n0_ := mk0 (blk_grown (g := gb306) (o := .cells #[.slice (some ⟨go10, 0, none⟩) t308.length co40, .slice Ao47 t319.length co47] 56 (0, 0)) (h_ BK306) hg (Kd.R_ne HO310.out BK306.out (by decide))); have n1_ := mk0 (blk_grown (g := gb307) (o := .cells #[.slice none 0 0, .slice none 0 0] 56 (0, 0)) (h_ BK307) hg (Kd.R_ne HO310.out BK307.out (by decide))); have n3_ := mk0 (Kd.R_over' (v := (.slice (some ⟨go10, 0, none⟩) t308.length co40)) (r_ HO313) (Kd.R_typed HO310.out) (by decide) hg); have n4_ := mk0 (Kd.R_over' (v := (.slice (some ⟨go10, 0, none⟩) t308.length co40)) (r_ HO321) (Kd.R_typed HO310.out) (by decide) hg); replace HO310 := mk0 (hp_); replace HB := mk0 ((by rw [hw]; exact bs_ (HB.out) GB10.out : Below w.heap.size w w52)); clear BK306 BK307 HO313 HO321; have BK306 := n0_; have BK307 := n1_; have HO313 := n3_; have HO321 := n4_; clear n0_ n1_ n3_ n4_ hg hw hp_; obtain ⟨hcz53_0, hcz53_1, hfz53_0, hfz53_1⟩ := c2_ BK306) | ((with_reducible refine gate_callee (f := 77) rfl ?_); refine goesL_ (some 38) rfl rfl Try.func77 (by kernel_rfl) rfl #[.agg #[.slice (some ⟨go10, 0, none⟩) y322.length co40, .slice Ao47 t319.length co47]] rfl (by (try simp only [List.map_toArray, List.map_cons, List.map_nil]); first | done | (rw [show y322.length = t308.length from (Kd.R_reads' HO310.out).1.symm] <;> rfl) | rfl | (simp only [List.length_drop, List.length_take]; rfl)) ?_; (with_reducible refine (quorumref4_Bytes.calls k _ _ y322 _ _ t319 t323 _ ?side1 ?side2 ?side3 ?side4 A11.out).mono ?_); (case side1 => exact cr_ HO310); (case side2 => rw [show y322.length = t308.length from (Kd.R_reads' HO310.out).1.symm]; exact (Kd.R_reads' HO310.out).2.1); (case side3 => exact cr_ HO321); (case side4 => exact (Kd.R_reads' HO321.out).2.1); rintro e w54 ⟨rfl, hb⟩; refine ⟨_, rfl, ?_⟩; replace HO310 := mk0 (Kd.R_below (r_ HO310) hb); replace HO313 := mk0 (Kd.R_below (r_ HO313) hb); replace HO321 := mk0 (Kd.R_below (r_ HO321) hb); replace BK306 := mk0 (u_ BK306 hb); replace BK307 := mk0 (u_ BK307 hb); replace HB := mk0 (bt_ (b_ HB) hb); (try clear hb); obtain ⟨hcz55_0, hcz55_1, hfz55_0, hfz55_1⟩ := c2_ BK306; obtain ⟨hcz56_0, hcz56_1, hfz56_0, hfz56_1⟩ := c2_ BK307))
        refine bodyPost_ret (results_ctt rfl _ _ gb307 56 #[.slice none 0 0, .slice none 0 0] (0, 0) _ rfl (pu_ (cs := #[.slice none 0 0, .slice none 0 0]) (pu_ (cs := #[.slice none 0 0, .slice none 0 0]) (h_ BK307))) Try.underlying56 rfl (by kernel_rfl)) rfl ?_
        exact ⟨_, _, by first | rfl | (simp [errW_none, errW_some] <;> rfl) | (simp [*, errW_none, errW_some] <;> rfl), by first | exact Kd.R_nil _ _ _ _ _ | exact Kd.N_nil _ _ _ _ _ | exact Kd.V_nil _ _ _ _ _ | exact Kd.Q_nil _ _ _ _ _ | exact Kd.S_nil _ _ _ _ _, by first | exact Kd.R_nil _ _ _ _ _ | exact Kd.N_nil _ _ _ _ _ | exact Kd.V_nil _ _ _ _ _ | exact Kd.Q_nil _ _ _ _ _ | exact Kd.S_nil _ _ _ _ _, b_ HB⟩
       ·rw [if_neg c34] at H
        have c34b0 : decide (16 < (t308.length : Int)) = false := decide_eq_false c34
        have c34b1 : decide (16 < t308.length) = false := decide_eq_false (by omega)
        clear c34
        simp only [Option.some.injEq, Prod.mk.injEq] at H
        obtain ⟨rfl, rfl, rfl, rfl⟩ := H
        go_enter Try.func85, Try.ntmps85
        go_wp2_with (first | ((with_reducible refine gate_dst (N := 2) rfl ?_); (try (refine gate_guard (by rfl) ?_; dsimp only)); refine bx_ (N := 2) (cs := #[.slice A0_0 l0_0.length c0_0, .slice A0_1 l0_1.length c0_1]) (t := 56) (h := ?_); intro gb306 hg w57 hbox hb; have n2_ := mk0 (gz_ HB hg); have n3_ := mk0 (gz_ HB hg); replace HB := mk0 (bt_ (b_ HB) hb); have BK306 := mk0 (hbox); have GW306 := n2_; have GE306 := n3_; clear n2_ n3_; clear hb hbox hg) | ((with_reducible refine gate_dst (N := 4) rfl ?_); (try (refine gate_guard (by rfl) ?_; dsimp only)); refine bx_ (N := 4) (cs := #[.slice none 0 0, .slice none 0 0]) (t := 56) (h := ?_); intro gb307 hg w58 hbox hb; have n3_ := mk0 (gz_ HB hg); have n4_ := mk0 (gz_ HB hg); have n5_ := mk0 (ne1_ BK306 hg); have n6_ := mk0 (ne2_ BK306 hg); replace BK306 := mk0 (u_ BK306 hb); replace HB := mk0 (bt_ (b_ HB) hb); have BK307 := mk0 (hbox); have GW307 := n3_; have GE307 := n4_; have NB306_307 := n5_; have NB307_306 := n6_; clear n3_ n4_ n5_ n6_ hb hbox hg; have hnb59 := NB306_307.out; have hnc59 := NB307_306.out; obtain ⟨hcz60_0, hcz60_1, hfz60_0, hfz60_1⟩ := c2_ BK306) | ((with_reducible refine gate_callee (f := 42) rfl ?_); refine gL_ (some 9) Try.func42 #[.agg #[.slice A0_0 l0_0.length c0_0, .slice A0_1 l0_1.length c0_1]] (h := ?_); (with_reducible refine (quorumref0_CopyPage.calls k _ _ l0_0 _ _ l0_1 t308 t311 _ ?side1 ?side2 ?side3 ?side4 A3.out).mono ?_); (case side1 => exact cb_ HR0_0 HB); (case side2 => exact HC0_0.out); (case side3 => exact cb_ HR0_1 HB); (case side4 => exact HC0_1.out); rintro e w61 ⟨v309, v312, rfl, ho0, ho1, hb⟩; refine ⟨_, rfl, ?_⟩; have n0_ := mk0 (Kd.R_lower ho0 (bz_ (b_ HB))); have n1_ := mk0 (Kd.R_lower ho1 (bz_ (b_ HB))); replace BK306 := mk0 (u_ BK306 hb); replace BK307 := mk0 (u_ BK307 hb); replace HB := mk0 (bt_ (b_ HB) hb); have HO310 := n0_; have HO313 := n1_; clear n0_ n1_; (try clear hb); (try clear ho0); (try clear ho1); obtain ⟨Ao62, co62, eo62⟩ := Kd.R_slice HO310.out; subst eo62; obtain ⟨hcz63_0, hcz63_1, hfz63_0, hfz63_1⟩ := c2_ BK306; obtain ⟨Ao64, co64, eo64⟩ := Kd.R_slice HO313.out; subst eo64) | ((with_reducible refine gate_store (t := 56) (p := 2) rfl ?_); refine sv_ (t := 56) (p := 2) (w1 := ((w61.setCell ⟨gb306, 0, none⟩ (.slice Ao62 t308.length co62)).setCell ⟨gb306, 1, none⟩ (.slice Ao64 t311.length co64))) (h := ?_); intro w65 hw; have n0_ : Fc (Kd.R Kd.string 9 w65 w.heap.size (fun _ => True) (.slice Ao62 t308.length co62) t308) := ⟨(by rw [hw]; exact (r2_ (Kd.R_mono (Kd.R_far (p := ⟨gb306, 1, none⟩) (Kd.R_far (p := ⟨gb306, 0, none⟩) (Kd.R_types HO310.out BK306.out (by decide)) (fun _ hk => hk.2) (.slice Ao62 t308.length co62)) (fun _ hk => hk.2) (.slice Ao64 t311.length co64)) (fun _ hk => trivial))))⟩; have n1_ : Fc (Kd.R (Kd.int .i64) 3 w65 w.heap.size (fun _ => True) (.slice Ao64 t311.length co64) t311) := ⟨(by rw [hw]; exact (r2_ (Kd.R_mono (Kd.R_far (p := ⟨gb306, 1, none⟩) (Kd.R_far (p := ⟨gb306, 0, none⟩) (Kd.R_types HO313.out BK306.out (by decide)) (fun _ hk => hk.2) (.slice Ao62 t308.length co62)) (fun _ hk => hk.2) (.slice Ao64 t311.length co64)) (fun _ hk => trivial))))⟩; have n2_ : Fc (w65.heap[gb306]? = some (.cells #[.slice Ao62 t308.length co62, .slice Ao64 t311.length co64] 56 (0, 0))) := ⟨(by rw [hw]; exact (pu_ (cs := #[.slice Ao62 t308.length co62, .slice A0_1 l0_1.length c0_1]) (pu_ (cs := #[.slice A0_0 l0_0.length c0_0, .slice A0_1 l0_1.length c0_1]) (h_ BK306))))⟩; have n3_ : Fc (w65.heap[gb307]? = some (.cells #[.slice none 0 0, .slice none 0 0] 56 (0, 0))) := ⟨(by rw [hw]; exact (fa_ (fa_ (h_ BK307) NB307_306.out) NB307_306.out))⟩; have n4_ : Fc (Below w.heap.size w w65) := ⟨(by rw [hw]; exact (b_ HB))⟩; clear hw HO310 HO313 BK306 BK307 HB; have HO310 := n0_; have HO313 := n1_; have BK306 := n2_; have BK307 := n3_; have HB := n4_; clear n0_ n1_ n2_ n3_ n4_; obtain ⟨hcz66_0, hcz66_1, hfz66_0, hfz66_1⟩ := c2_ BK306; have p314 : 0 ≤ (0 : Int) := (by omega); have q314 : 0 < (t311.length : Int) := of_decide_eq_true (by first | (with_reducible assumption) | assumption); obtain ⟨ad314, e314, hx314_0⟩ := Kd.at_int (Kd.R_reads' HO313.out).2.2 0 p314 q314; cases e314; have qi314 : (0 < t311.length) = True := eq_true (by omega); (try rw [show ((0 : Int)).toNat = 0 from rfl] at hx314_0); (try rw [Addr.add_zero'] at hx314_0); replace p314 := eq_true p314; replace q314 := eq_true q314; have q67 : (1 : Int) ≤ ((t311.length : Int) : Int) := of_decide_eq_true (by first | (with_reducible assumption) | assumption); obtain ⟨i067, hi067, _, hsz67, _⟩ := info_parts info3; have hroom67 : t311.length ≤ co64 := (Kd.R_reads' HO313.out).2.1; have hC67 : Kd.C (Kd.int .i64) _ (some ad314) t311.length t311 := (Kd.R_reads' HO313.out).2.2; have hcut67 := cut_from (P := Try.prog) 24 3 .i64 Try.underlying24 hi067 1 hsz67 (some ad314) t311.length co64 1 (by omega) q67; have hr67 := Kd.C_drop (m := (1 : Int).toNat) (c := co64) hC67 (by omega) hroom67; obtain ⟨A67, hA67⟩ : ∃ A1, A1 = (if co64 = (1 : Int).toNat then (some ad314) else ((some ad314) : Option Addr).map (·.add ((1 : Int).toNat * 1))) := ⟨_, rfl⟩; obtain ⟨c67, hc67⟩ : ∃ c1, c1 = co64 - (1 : Int).toNat := ⟨_, rfl⟩; have hy67 : y315.length = t311.length - (1 : Int).toNat := (by rw [Ny315.out, List.length_drop] <;> omega); rw [show (t311).drop (1 : Int).toNat = y315 from Ny315.out.symm] at hr67; replace hr67 : Kd.C (Kd.int .i64) _ A67 y315.length y315 := (by rw [hA67]; exact hr67); rw [← hy67, ← hA67, ← hc67] at hcut67; have HR318 := mk0 hr67; have HC318 := mk0 (show y315.length ≤ c67 from by rw [hy67, hc67]; exact Nat.sub_le_sub_right hroom67 _); clear hr67 hC67 hroom67 hi067 hsz67 hc67; have KY67 := mk0 hy67; have KA67 := mk0 hA67; clear hy67 hA67; have KL67 := mk0 (show 1 ≤ t311.length from by omega); replace q67 := eq_true q67) | ((with_reducible refine gate_callee (f := 79) rfl ?_); refine gL_ (some 24) Try.func79 #[.slice A67 y315.length c67] (h := ?_); (with_reducible refine (quorumref0_CopyNumbers.calls k _ _ y315 t319 _ ?side1 ?side2 A7.out).mono ?_); (case side1 => repeat (first | exact (by repeat (first | (with_reducible exact HR318.out) | (with_reducible refine Kd.C_alloc ?_ _) | (with_reducible refine Kd.C_drewN ?_ _) | (with_reducible refine Kd.C_drew ?_) | exact HR318.out)) | (with_reducible refine Kd.C_alloc ?_ _) | (with_reducible refine Kd.C_drewN ?_ _) | (with_reducible refine Kd.C_drew ?_))); (case side2 => exact HC318.out); rintro e w68 ⟨v320, rfl, ho0, hb⟩; refine ⟨_, rfl, ?_⟩; have n2_ := mk0 (Kd.R_lower (Kd.R_new' ho0 (Kd.R_lt (r_ HO313))) (bz_ (b_ HB))); replace HO310 := mk0 (Kd.R_below (r_ HO310) hb); replace HO313 := mk0 (Kd.R_elder' (r_ HO313) (Kd.R_base ho0) hb); replace BK306 := mk0 (u_ BK306 hb); replace BK307 := mk0 (u_ BK307 hb); replace HR318 := mk0 (Kd.C_below (by (with_reducible repeat (first | refine Kd.C_drewN ?_ _ | refine Kd.C_drew ?_ | refine Kd.C_alloc ?_ _)); exact HR318.out) hb); replace HB := mk0 (bt_ (b_ HB) hb); have HO321 := n2_; clear n2_; (try clear hb); (try clear ho0); obtain ⟨Ao69, co69, eo69⟩ := Kd.R_slice HO321.out; subst eo69; obtain ⟨hcz70_0, hcz70_1, hfz70_0, hfz70_1⟩ := c2_ BK306) | ((with_reducible refine gate_store (t := 24) (p := 25) rfl ?_); refine sv_ (t := 24) (p := 25) (w1 := (w68.setCell ⟨gb306, 1, none⟩ (.slice Ao69 t319.length co69))) (h := ?_); intro w71 hw; have n0_ : Fc (Kd.R Kd.string 9 w71 w.heap.size (fun _ => True) (.slice Ao62 t308.length co62) t308) := ⟨(by rw [hw]; exact (r2_ (Kd.R_mono (Kd.R_far (p := ⟨gb306, 1, none⟩) (Kd.R_types HO310.out BK306.out (by decide)) (fun _ hk => hk.2) (.slice Ao69 t319.length co69)) (fun _ hk => trivial))))⟩; have n1_ : Fc (Kd.R (Kd.int .i64) 3 w71 w.heap.size (fun k_ => some k_ ≠ (.slice Ao69 t319.length co69 : Value).ownBlock) (.slice (some ad314) t311.length co64) t311) := ⟨(by rw [hw]; exact (r2_ (Kd.R_mono (Kd.R_far (p := ⟨gb306, 1, none⟩) (Kd.R_types HO313.out BK306.out (by decide)) (fun _ hk => hk.2) (.slice Ao69 t319.length co69)) (fun _ hk => hk.1.2))))⟩; have n2_ : Fc (Kd.R (Kd.int .i64) 3 w71 w.heap.size (fun k_ => some k_ ≠ (.slice (some ad314) t311.length co64 : Value).ownBlock) (.slice Ao69 t319.length co69) t319) := ⟨(by rw [hw]; exact (r2_ (Kd.R_mono (Kd.R_far (p := ⟨gb306, 1, none⟩) (Kd.R_types HO321.out BK306.out (by decide)) (fun _ hk => hk.2) (.slice Ao69 t319.length co69)) (fun _ hk => hk.1.2))))⟩; have n3_ : Fc (w71.heap[gb306]? = some (.cells #[.slice Ao62 t308.length co62, .slice Ao69 t319.length co69] 56 (0, 0))) := ⟨(by rw [hw]; exact (pu_ (cs := #[.slice Ao62 t308.length co62, .slice (some ad314) t311.length co64]) (h_ BK306)))⟩; have n4_ : Fc (w71.heap[gb307]? = some (.cells #[.slice none 0 0, .slice none 0 0] 56 (0, 0))) := ⟨(by rw [hw]; exact (fa_ (h_ BK307) NB307_306.out))⟩; have n5_ : Fc (Below w.heap.size w w71) := ⟨(by rw [hw]; exact (b_ HB))⟩; clear hw HO310 HO313 HO321 BK306 BK307 HB; have HO310 := n0_; have HO313 := n1_; have HO321 := n2_; have BK306 := n3_; have BK307 := n4_; have HB := n5_; clear n0_ n1_ n2_ n3_ n4_ n5_; obtain ⟨hcz72_0, hcz72_1, hfz72_0, hfz72_1⟩ := c2_ BK306; have p10 : 0 ≤ ((rd t311 0) : Int) := of_decide_eq_true (by first | (with_reducible assumption) | assumption); have q10 : ((rd t311 0) : Int) < ((t308.length : Int) : Int) := of_decide_eq_true (by first | (with_reducible assumption) | assumption); obtain ⟨go10, co10, eo10, gb10, gl10, cl10, HG10⟩ := Kd.R_form HO310.out (by omega); (first | cases eo10 | (injection eo10 with ea_ en_ ec_; (first | subst ea_ | (injection ea_ with ea_; subst ea_)); subst ec_; clear en_)); have GB10 := mk0 gb10; have GG10 := mk0 HG10; clear gb10 gl10 HG10; obtain ⟨hx10_0, hf10_0⟩ := Kd.R_celln (⟨#[]⟩ : ByteArray) HO310.out ((rd t311 0) : Int) p10 q10; replace p10 := eq_true p10; replace q10 := eq_true q10; obtain ⟨hy73_, hz73_⟩ := Kd.R_celln (⟨#[]⟩ : ByteArray) HO310.out ((rd t311 0) : Int) (of_decide_eq_true (by first | (with_reducible assumption) | assumption)) (of_decide_eq_true (by first | (with_reducible assumption) | assumption)); have HP73 := Kd.R_putg HO310.out ((rd t311 0) : Int) a1) | ((with_reducible refine gate_store (t := 9) (p := 30) rfl ?_); refine sv_ (t := 9) (p := 30) (w1 := (w71.setCell ⟨go10, ((rd t311 0) : Int).toNat, none⟩ (.string a1))) (h := ?_); intro w74 hw; have hg : w71.grownBy w74 (some go10) := (by rw [hw]; exact HP73.2); have hp_ : Kd.R Kd.string 9 w74 w.heap.size (fun _ => True) (.slice (some ⟨go10, 0, none⟩) t308.length co62) y322 := (by rw [hw, Ny322.out]; exact HP73.1); clear HP73; have n0_ := mk0 (blk_grown (g := gb306) (o := .cells #[.slice (some ⟨go10, 0, none⟩) t308.length co62, .slice Ao69 t319.length co69] 56 (0, 0)) (h_ BK306) hg (Kd.R_ne HO310.out BK306.out (by decide))); have n1_ := mk0 (blk_grown (g := gb307) (o := .cells #[.slice none 0 0, .slice none 0 0] 56 (0, 0)) (h_ BK307) hg (Kd.R_ne HO310.out BK307.out (by decide))); have n3_ := mk0 (Kd.R_over' (v := (.slice (some ⟨go10, 0, none⟩) t308.length co62)) (r_ HO313) (Kd.R_typed HO310.out) (by decide) hg); have n4_ := mk0 (Kd.R_over' (v := (.slice (some ⟨go10, 0, none⟩) t308.length co62)) (r_ HO321) (Kd.R_typed HO310.out) (by decide) hg); replace HO310 := mk0 (hp_); replace HB := mk0 ((by rw [hw]; exact bs_ (HB.out) GB10.out : Below w.heap.size w w74)); clear BK306 BK307 HO313 HO321; have BK306 := n0_; have BK307 := n1_; have HO313 := n3_; have HO321 := n4_; clear n0_ n1_ n3_ n4_ hg hw hp_; obtain ⟨hcz75_0, hcz75_1, hfz75_0, hfz75_1⟩ := c2_ BK306) | ((with_reducible refine gate_callee (f := 77) rfl ?_); refine goesL_ (some 38) rfl rfl Try.func77 (by kernel_rfl) rfl #[.agg #[.slice (some ⟨go10, 0, none⟩) y322.length co62, .slice Ao69 t319.length co69]] rfl (by (try simp only [List.map_toArray, List.map_cons, List.map_nil]); first | done | (rw [show y322.length = t308.length from (Kd.R_reads' HO310.out).1.symm] <;> rfl) | rfl | (simp only [List.length_drop, List.length_take]; rfl)) ?_; (with_reducible refine (quorumref4_Bytes.calls k _ _ y322 _ _ t319 t323 _ ?side1 ?side2 ?side3 ?side4 A11.out).mono ?_); (case side1 => exact cr_ HO310); (case side2 => rw [show y322.length = t308.length from (Kd.R_reads' HO310.out).1.symm]; exact (Kd.R_reads' HO310.out).2.1); (case side3 => exact cr_ HO321); (case side4 => exact (Kd.R_reads' HO321.out).2.1); rintro e w76 ⟨rfl, hb⟩; refine ⟨_, rfl, ?_⟩; replace HO310 := mk0 (Kd.R_below (r_ HO310) hb); replace HO313 := mk0 (Kd.R_below (r_ HO313) hb); replace HO321 := mk0 (Kd.R_below (r_ HO321) hb); replace BK306 := mk0 (u_ BK306 hb); replace BK307 := mk0 (u_ BK307 hb); replace HB := mk0 (bt_ (b_ HB) hb); (try clear hb); obtain ⟨hcz77_0, hcz77_1, hfz77_0, hfz77_1⟩ := c2_ BK306; obtain ⟨hcz78_0, hcz78_1, hfz78_0, hfz78_1⟩ := c2_ BK307))
        refine bodyPost_ret (results_ctt rfl _ _ gb307 56 #[.slice (some ⟨go10, 0, none⟩) t308.length co62, .slice Ao69 t319.length co69] (0, 0) _ rfl (pu_ (cs := #[.slice (some ⟨go10, 0, none⟩) t308.length co62, .slice none 0 0]) (pu_ (cs := #[.slice none 0 0, .slice none 0 0]) (h_ BK307))) Try.underlying56 rfl (by kernel_rfl)) rfl ?_
        exact ⟨_, _, by first | rfl | (simp [errW_none, errW_some] <;> rfl) | (simp [*, errW_none, errW_some] <;> rfl), by (with_reducible repeat (first | apply Ra_ | apply Rn_ | apply Rd_)); exact Kd.R_mono (Kd.R_far (p := ⟨gb307, 1, none⟩) (Kd.R_far (p := ⟨gb307, 0, none⟩) (Kd.R_types HO310.out BK307.out (by decide)) (fun _ hk => hk.2) (.slice (some ⟨go10, 0, none⟩) t308.length co62)) (fun _ hk => hk.2) (.slice Ao69 t319.length co69)) (fun _ hk => trivial), by (with_reducible repeat (first | apply Ra_ | apply Rn_ | apply Rd_)); exact Kd.R_mono (Kd.R_far (p := ⟨gb307, 1, none⟩) (Kd.R_far (p := ⟨gb307, 0, none⟩) (Kd.R_types HO321.out BK307.out (by decide)) (fun _ hk => hk.2) (.slice (some ⟨go10, 0, none⟩) t308.length co62)) (fun _ hk => hk.2) (.slice Ao69 t319.length co69)) (fun _ hk => trivial), b_ HB⟩
     ·rw [if_neg c9] at H
      exact absurd H (by simp)
    ·rw [if_neg c8] at H
     exact absurd H (by simp)
   ·rw [if_neg c6] at H
    exact absurd H (by simp)
  ·rw [if_neg c5] at H
   exact absurd H (by simp)
 ·rw [if_neg c4] at H
  have c4b0 : decide (0 < (t311.length : Int)) = false := decide_eq_false c4
  have c4b1 : decide (0 < t311.length) = false := decide_eq_false (by omega)
  clear c4
  by_cases c79 : t308.length < 8796093022208
  ·rw [if_pos c79] at H
   have LMc79 := mk0 c79
   clear c79
   obtain ⟨y324, hy324⟩ : ∃ y_ : List ByteArray, y_ = (t308 ++ [a1]) := ⟨_, rfl⟩
   replace H : ((quorumref4_Bytes.f k y324 t311).bind fun t327 => (if t327 > 200 then (some (([] : List ByteArray), ([] : List Int), 0, 5)) else (if (y324.length : Int) > 16 then (some (([] : List ByteArray), ([] : List Int), 0, 5)) else (some (y324, t311, (t308.length : Int), 0))))) = some (r1, r2, r3, r4) := by first | (rw [hy324]; with_reducible exact H) | (have H2_ := (Option.bind_some _ _).symm.trans H; rw [hy324]; with_reducible exact H2_) | (have H2_ := (Option.bind_some _ _).symm.trans H; with_reducible exact H2_) | with_reducible exact H | (rw [hy324]; exact H) | exact H
   have Ny324 := mk0 hy324
   clear hy324
   replace H := Option.bind_eq_some_iff.mp H
   obtain ⟨t327, A800, H⟩ := H
   try dsimp only at H
   have A80 := mk0 A800
   clear A800
   by_cases c81 : t327 > 200
   ·rw [if_pos c81] at H
    have c81b0 : decide (200 < t327) = true := decide_eq_true c81
    clear c81
    simp only [Option.some.injEq, Prod.mk.injEq] at H
    obtain ⟨rfl, rfl, rfl, rfl⟩ := H
    go_enter Try.func85, Try.ntmps85
    go_wp2_with (first | ((with_reducible refine gate_dst (N := 2) rfl ?_); (try (refine gate_guard (by rfl) ?_; dsimp only)); refine bx_ (N := 2) (cs := #[.slice A0_0 l0_0.length c0_0, .slice A0_1 l0_1.length c0_1]) (t := 56) (h := ?_); intro gb306 hg w82 hbox hb; have n2_ := mk0 (gz_ HB hg); have n3_ := mk0 (gz_ HB hg); replace HB := mk0 (bt_ (b_ HB) hb); have BK306 := mk0 (hbox); have GW306 := n2_; have GE306 := n3_; clear n2_ n3_; clear hb hbox hg) | ((with_reducible refine gate_dst (N := 4) rfl ?_); (try (refine gate_guard (by rfl) ?_; dsimp only)); refine bx_ (N := 4) (cs := #[.slice none 0 0, .slice none 0 0]) (t := 56) (h := ?_); intro gb307 hg w83 hbox hb; have n3_ := mk0 (gz_ HB hg); have n4_ := mk0 (gz_ HB hg); have n5_ := mk0 (ne1_ BK306 hg); have n6_ := mk0 (ne2_ BK306 hg); replace BK306 := mk0 (u_ BK306 hb); replace HB := mk0 (bt_ (b_ HB) hb); have BK307 := mk0 (hbox); have GW307 := n3_; have GE307 := n4_; have NB306_307 := n5_; have NB307_306 := n6_; clear n3_ n4_ n5_ n6_ hb hbox hg; have hnb84 := NB306_307.out; have hnc84 := NB307_306.out; obtain ⟨hcz85_0, hcz85_1, hfz85_0, hfz85_1⟩ := c2_ BK306) | ((with_reducible refine gate_callee (f := 42) rfl ?_); refine gL_ (some 9) Try.func42 #[.agg #[.slice A0_0 l0_0.length c0_0, .slice A0_1 l0_1.length c0_1]] (h := ?_); (with_reducible refine (quorumref0_CopyPage.calls k _ _ l0_0 _ _ l0_1 t308 t311 _ ?side1 ?side2 ?side3 ?side4 A3.out).mono ?_); (case side1 => exact cb_ HR0_0 HB); (case side2 => exact HC0_0.out); (case side3 => exact cb_ HR0_1 HB); (case side4 => exact HC0_1.out); rintro e w86 ⟨v309, v312, rfl, ho0, ho1, hb⟩; refine ⟨_, rfl, ?_⟩; have n0_ := mk0 (Kd.R_lower ho0 (bz_ (b_ HB))); have n1_ := mk0 (Kd.R_lower ho1 (bz_ (b_ HB))); replace BK306 := mk0 (u_ BK306 hb); replace BK307 := mk0 (u_ BK307 hb); replace HB := mk0 (bt_ (b_ HB) hb); have HO310 := n0_; have HO313 := n1_; clear n0_ n1_; (try clear hb); (try clear ho0); (try clear ho1); obtain ⟨Ao87, co87, eo87⟩ := Kd.R_slice HO310.out; subst eo87; obtain ⟨hcz88_0, hcz88_1, hfz88_0, hfz88_1⟩ := c2_ BK306; obtain ⟨Ao89, co89, eo89⟩ := Kd.R_slice HO313.out; subst eo89) | ((with_reducible refine gate_builtin (b := .append) (xs := #[.tmp 32, .tmp 34]) rfl ?_); (try (refine gate_guard (by rfl) ?_; dsimp only)); at_builtin; refine Kd.R_append Kd.string (w0 := w) w.heap.size rfl (.tmp 32) (.tmp 34) 25 9 (.string ⟨#[]⟩) 16 rfl Try.underlying25 info9 rfl (by decide) (by omega) (.slice Ao87 t308.length co87) t308 a1 [.string a1] (fun _ => True) (fun _ => False) rfl (by first | (go_simp; done) | (go_simp; rfl)) ?aP (fun _ hk => hk.elim) ?aF ?aO ?aB ?aS ?aL ?_; (case aP => exact rfl); (case aB => exact (b_ HB)); (case aF => exact (fun _ _ => trivial)); (case aO => exact (r2_ (Kd.R_mono (Kd.R_far (p := ⟨gb306, 1, none⟩) (Kd.R_far (p := ⟨gb306, 0, none⟩) (Kd.R_types HO310.out BK306.out (by decide)) (fun _ hk => hk.2) (.slice Ao87 t308.length co87)) (fun _ hk => hk.2) (.slice Ao89 t311.length co89)) (fun _ hk => trivial)))); (case aS => exact (bz_ (b_ HB))); (case aL => have := LMc79.out; omega); intro v325 w90 ho hb hg hat; rw [← Ny324.out] at ho; have n2_ := mk0 (Kd.R_over' (r2_ (Kd.R_mono (Kd.R_far (p := ⟨gb306, 1, none⟩) (Kd.R_far (p := ⟨gb306, 0, none⟩) (Kd.R_types HO313.out BK306.out (by decide)) (fun _ hk => hk.2) (.slice Ao87 t308.length co87)) (fun _ hk => hk.2) (.slice Ao89 t311.length co89)) (fun _ h_ => h_.1))) (Kd.R_typed (r2_ (Kd.R_mono (Kd.R_far (p := ⟨gb306, 1, none⟩) (Kd.R_far (p := ⟨gb306, 0, none⟩) (Kd.R_types HO310.out BK306.out (by decide)) (fun _ hk => hk.2) (.slice Ao87 t308.length co87)) (fun _ hk => hk.2) (.slice Ao89 t311.length co89)) (fun _ h_ => h_.1)))) (by decide) hg); replace BK306 := mk0 (blk_grown (g := gb306) (o := .cells #[.slice Ao87 t308.length co87, .slice Ao89 t311.length co89] 56 (0, 0)) (pu_ (cs := #[.slice Ao87 t308.length co87, .slice A0_1 l0_1.length c0_1]) (pu_ (cs := #[.slice A0_0 l0_0.length c0_0, .slice A0_1 l0_1.length c0_1]) (h_ BK306))) hg (Kd.R_ne HO310.out BK306.out (by decide))); replace BK307 := mk0 (blk_grown (g := gb307) (o := .cells #[.slice none 0 0, .slice none 0 0] 56 (0, 0)) (fa_ (fa_ (h_ BK307) NB307_306.out) NB307_306.out) hg (Kd.R_ne HO310.out BK307.out (by decide))); replace HB := mk0 (hb); have HO326 := mk0 (ho); clear HO313 HO310; have HO313 := n2_; clear n2_ ho hb hg hat; obtain ⟨Ao91, co91, eo91⟩ := Kd.R_slice HO326.out; subst eo91; obtain ⟨hcz92_0, hcz92_1, hfz92_0, hfz92_1⟩ := c2_ BK306) | ((with_reducible refine gate_callee (f := 77) rfl ?_); refine gL_ (some 38) Try.func77 #[.agg #[.slice Ao91 y324.length co91, .slice Ao89 t311.length co89]] (h := ?_); (with_reducible refine (quorumref4_Bytes.calls k _ _ y324 _ _ t311 t327 _ ?side1 ?side2 ?side3 ?side4 A80.out).mono ?_); (case side1 => refine (Kd.R_reads' (e := 9) (base := w.heap.size) (ok := fun k_ => True) (n := y324.length) (c := co91) ?_).2.2; exact (r2_ (Kd.R_mono (Kd.R_far (p := ⟨gb306, 0, none⟩) (Kd.R_types HO326.out BK306.out (by decide)) (fun _ hk => hk.2) (.slice Ao91 y324.length co91)) (fun _ h_ => h_.1)))); (case side2 => exact (Kd.R_reads' HO326.out).2.1); (case side3 => refine (Kd.R_reads' (e := 3) (base := w.heap.size) (ok := fun k_ => True) (n := t311.length) (c := co89) ?_).2.2; exact (r2_ (Kd.R_mono (Kd.R_far (p := ⟨gb306, 0, none⟩) (Kd.R_types HO313.out BK306.out (by decide)) (fun _ hk => hk.2) (.slice Ao91 y324.length co91)) (fun _ h_ => h_.1)))); (case side4 => exact (Kd.R_reads' HO313.out).2.1); rintro e w93 ⟨rfl, hb⟩; refine ⟨_, rfl, ?_⟩; have n0_ := mk0 (Kd.R_below (r2_ (Kd.R_mono (Kd.R_far (p := ⟨gb306, 0, none⟩) (Kd.R_types HO313.out BK306.out (by decide)) (fun _ hk => hk.2) (.slice Ao91 y324.length co91)) (fun _ h_ => h_.1))) hb); have n1_ := mk0 (Kd.R_below (r2_ (Kd.R_mono (Kd.R_far (p := ⟨gb306, 0, none⟩) (Kd.R_types HO326.out BK306.out (by decide)) (fun _ hk => hk.2) (.slice Ao91 y324.length co91)) (fun _ h_ => h_.1))) hb); replace BK306 := mk0 (blk_below (g := gb306) (o := .cells #[.slice Ao91 y324.length co91, .slice Ao89 t311.length co89] 56 (0, 0)) (pu_ (cs := #[.slice Ao87 t308.length co87, .slice Ao89 t311.length co89]) (h_ BK306)) hb); replace BK307 := mk0 (blk_below (g := gb307) (o := .cells #[.slice none 0 0, .slice none 0 0] 56 (0, 0)) (fa_ (h_ BK307) NB307_306.out) hb); replace HB := mk0 (bt_ (b_ HB) hb); clear HO313 HO326; have HO313 := n0_; have HO326 := n1_; clear n0_ n1_; (try clear hb); obtain ⟨hcz94_0, hcz94_1, hfz94_0, hfz94_1⟩ := c2_ BK307))
    refine bodyPost_ret (results_ctt rfl _ _ gb307 56 #[.slice none 0 0, .slice none 0 0] (0, 0) _ rfl (pu_ (cs := #[.slice none 0 0, .slice none 0 0]) (pu_ (cs := #[.slice none 0 0, .slice none 0 0]) (h_ BK307))) Try.underlying56 rfl (by kernel_rfl)) rfl ?_
    exact ⟨_, _, by first | rfl | (simp [errW_none, errW_some] <;> rfl) | (simp [*, errW_none, errW_some] <;> rfl), by first | exact Kd.R_nil _ _ _ _ _ | exact Kd.N_nil _ _ _ _ _ | exact Kd.V_nil _ _ _ _ _ | exact Kd.Q_nil _ _ _ _ _ | exact Kd.S_nil _ _ _ _ _, by first | exact Kd.R_nil _ _ _ _ _ | exact Kd.N_nil _ _ _ _ _ | exact Kd.V_nil _ _ _ _ _ | exact Kd.Q_nil _ _ _ _ _ | exact Kd.S_nil _ _ _ _ _, b_ HB⟩
   ·rw [if_neg c81] at H
    have c81b0 : decide (200 < t327) = false := decide_eq_false c81
    clear c81
    by_cases c95 : (y324.length : Int) > 16
    ·rw [if_pos c95] at H
     have c95b0 : decide (16 < (y324.length : Int)) = true := decide_eq_true c95
     have c95b1 : decide (16 < y324.length) = true := decide_eq_true (by omega)
     clear c95
     simp only [Option.some.injEq, Prod.mk.injEq] at H
     obtain ⟨rfl, rfl, rfl, rfl⟩ := H
     go_enter Try.func85, Try.ntmps85
     go_wp2_with (first | ((with_reducible refine gate_dst (N := 2) rfl ?_); (try (refine gate_guard (by rfl) ?_; dsimp only)); refine bx_ (N := 2) (cs := #[.slice A0_0 l0_0.length c0_0, .slice A0_1 l0_1.length c0_1]) (t := 56) (h := ?_); intro gb306 hg w96 hbox hb; have n2_ := mk0 (gz_ HB hg); have n3_ := mk0 (gz_ HB hg); replace HB := mk0 (bt_ (b_ HB) hb); have BK306 := mk0 (hbox); have GW306 := n2_; have GE306 := n3_; clear n2_ n3_; clear hb hbox hg) | ((with_reducible refine gate_dst (N := 4) rfl ?_); (try (refine gate_guard (by rfl) ?_; dsimp only)); refine bx_ (N := 4) (cs := #[.slice none 0 0, .slice none 0 0]) (t := 56) (h := ?_); intro gb307 hg w97 hbox hb; have n3_ := mk0 (gz_ HB hg); have n4_ := mk0 (gz_ HB hg); have n5_ := mk0 (ne1_ BK306 hg); have n6_ := mk0 (ne2_ BK306 hg); replace BK306 := mk0 (u_ BK306 hb); replace HB := mk0 (bt_ (b_ HB) hb); have BK307 := mk0 (hbox); have GW307 := n3_; have GE307 := n4_; have NB306_307 := n5_; have NB307_306 := n6_; clear n3_ n4_ n5_ n6_ hb hbox hg; have hnb98 := NB306_307.out; have hnc98 := NB307_306.out; obtain ⟨hcz99_0, hcz99_1, hfz99_0, hfz99_1⟩ := c2_ BK306) | ((with_reducible refine gate_callee (f := 42) rfl ?_); refine gL_ (some 9) Try.func42 #[.agg #[.slice A0_0 l0_0.length c0_0, .slice A0_1 l0_1.length c0_1]] (h := ?_); (with_reducible refine (quorumref0_CopyPage.calls k _ _ l0_0 _ _ l0_1 t308 t311 _ ?side1 ?side2 ?side3 ?side4 A3.out).mono ?_); (case side1 => exact cb_ HR0_0 HB); (case side2 => exact HC0_0.out); (case side3 => exact cb_ HR0_1 HB); (case side4 => exact HC0_1.out); rintro e w100 ⟨v309, v312, rfl, ho0, ho1, hb⟩; refine ⟨_, rfl, ?_⟩; have n0_ := mk0 (Kd.R_lower ho0 (bz_ (b_ HB))); have n1_ := mk0 (Kd.R_lower ho1 (bz_ (b_ HB))); replace BK306 := mk0 (u_ BK306 hb); replace BK307 := mk0 (u_ BK307 hb); replace HB := mk0 (bt_ (b_ HB) hb); have HO310 := n0_; have HO313 := n1_; clear n0_ n1_; (try clear hb); (try clear ho0); (try clear ho1); obtain ⟨Ao101, co101, eo101⟩ := Kd.R_slice HO310.out; subst eo101; obtain ⟨hcz102_0, hcz102_1, hfz102_0, hfz102_1⟩ := c2_ BK306; obtain ⟨Ao103, co103, eo103⟩ := Kd.R_slice HO313.out; subst eo103) | ((with_reducible refine gate_builtin (b := .append) (xs := #[.tmp 32, .tmp 34]) rfl ?_); (try (refine gate_guard (by rfl) ?_; dsimp only)); at_builtin; refine Kd.R_append Kd.string (w0 := w) w.heap.size rfl (.tmp 32) (.tmp 34) 25 9 (.string ⟨#[]⟩) 16 rfl Try.underlying25 info9 rfl (by decide) (by omega) (.slice Ao101 t308.length co101) t308 a1 [.string a1] (fun _ => True) (fun _ => False) rfl (by first | (go_simp; done) | (go_simp; rfl)) ?aP (fun _ hk => hk.elim) ?aF ?aO ?aB ?aS ?aL ?_; (case aP => exact rfl); (case aB => exact (b_ HB)); (case aF => exact (fun _ _ => trivial)); (case aO => exact (r2_ (Kd.R_mono (Kd.R_far (p := ⟨gb306, 1, none⟩) (Kd.R_far (p := ⟨gb306, 0, none⟩) (Kd.R_types HO310.out BK306.out (by decide)) (fun _ hk => hk.2) (.slice Ao101 t308.length co101)) (fun _ hk => hk.2) (.slice Ao103 t311.length co103)) (fun _ hk => trivial)))); (case aS => exact (bz_ (b_ HB))); (case aL => have := LMc79.out; omega); intro v325 w104 ho hb hg hat; rw [← Ny324.out] at ho; have n2_ := mk0 (Kd.R_over' (r2_ (Kd.R_mono (Kd.R_far (p := ⟨gb306, 1, none⟩) (Kd.R_far (p := ⟨gb306, 0, none⟩) (Kd.R_types HO313.out BK306.out (by decide)) (fun _ hk => hk.2) (.slice Ao101 t308.length co101)) (fun _ hk => hk.2) (.slice Ao103 t311.length co103)) (fun _ h_ => h_.1))) (Kd.R_typed (r2_ (Kd.R_mono (Kd.R_far (p := ⟨gb306, 1, none⟩) (Kd.R_far (p := ⟨gb306, 0, none⟩) (Kd.R_types HO310.out BK306.out (by decide)) (fun _ hk => hk.2) (.slice Ao101 t308.length co101)) (fun _ hk => hk.2) (.slice Ao103 t311.length co103)) (fun _ h_ => h_.1)))) (by decide) hg); replace BK306 := mk0 (blk_grown (g := gb306) (o := .cells #[.slice Ao101 t308.length co101, .slice Ao103 t311.length co103] 56 (0, 0)) (pu_ (cs := #[.slice Ao101 t308.length co101, .slice A0_1 l0_1.length c0_1]) (pu_ (cs := #[.slice A0_0 l0_0.length c0_0, .slice A0_1 l0_1.length c0_1]) (h_ BK306))) hg (Kd.R_ne HO310.out BK306.out (by decide))); replace BK307 := mk0 (blk_grown (g := gb307) (o := .cells #[.slice none 0 0, .slice none 0 0] 56 (0, 0)) (fa_ (fa_ (h_ BK307) NB307_306.out) NB307_306.out) hg (Kd.R_ne HO310.out BK307.out (by decide))); replace HB := mk0 (hb); have HO326 := mk0 (ho); clear HO313 HO310; have HO313 := n2_; clear n2_ ho hb hg hat; obtain ⟨Ao105, co105, eo105⟩ := Kd.R_slice HO326.out; subst eo105; obtain ⟨hcz106_0, hcz106_1, hfz106_0, hfz106_1⟩ := c2_ BK306) | ((with_reducible refine gate_callee (f := 77) rfl ?_); refine gL_ (some 38) Try.func77 #[.agg #[.slice Ao105 y324.length co105, .slice Ao103 t311.length co103]] (h := ?_); (with_reducible refine (quorumref4_Bytes.calls k _ _ y324 _ _ t311 t327 _ ?side1 ?side2 ?side3 ?side4 A80.out).mono ?_); (case side1 => refine (Kd.R_reads' (e := 9) (base := w.heap.size) (ok := fun k_ => True) (n := y324.length) (c := co105) ?_).2.2; exact (r2_ (Kd.R_mono (Kd.R_far (p := ⟨gb306, 0, none⟩) (Kd.R_types HO326.out BK306.out (by decide)) (fun _ hk => hk.2) (.slice Ao105 y324.length co105)) (fun _ h_ => h_.1)))); (case side2 => exact (Kd.R_reads' HO326.out).2.1); (case side3 => refine (Kd.R_reads' (e := 3) (base := w.heap.size) (ok := fun k_ => True) (n := t311.length) (c := co103) ?_).2.2; exact (r2_ (Kd.R_mono (Kd.R_far (p := ⟨gb306, 0, none⟩) (Kd.R_types HO313.out BK306.out (by decide)) (fun _ hk => hk.2) (.slice Ao105 y324.length co105)) (fun _ h_ => h_.1)))); (case side4 => exact (Kd.R_reads' HO313.out).2.1); rintro e w107 ⟨rfl, hb⟩; refine ⟨_, rfl, ?_⟩; have n0_ := mk0 (Kd.R_below (r2_ (Kd.R_mono (Kd.R_far (p := ⟨gb306, 0, none⟩) (Kd.R_types HO313.out BK306.out (by decide)) (fun _ hk => hk.2) (.slice Ao105 y324.length co105)) (fun _ h_ => h_.1))) hb); have n1_ := mk0 (Kd.R_below (r2_ (Kd.R_mono (Kd.R_far (p := ⟨gb306, 0, none⟩) (Kd.R_types HO326.out BK306.out (by decide)) (fun _ hk => hk.2) (.slice Ao105 y324.length co105)) (fun _ h_ => h_.1))) hb); replace BK306 := mk0 (blk_below (g := gb306) (o := .cells #[.slice Ao105 y324.length co105, .slice Ao103 t311.length co103] 56 (0, 0)) (pu_ (cs := #[.slice Ao101 t308.length co101, .slice Ao103 t311.length co103]) (h_ BK306)) hb); replace BK307 := mk0 (blk_below (g := gb307) (o := .cells #[.slice none 0 0, .slice none 0 0] 56 (0, 0)) (fa_ (h_ BK307) NB307_306.out) hb); replace HB := mk0 (bt_ (b_ HB) hb); clear HO313 HO326; have HO313 := n0_; have HO326 := n1_; clear n0_ n1_; (try clear hb); obtain ⟨hcz108_0, hcz108_1, hfz108_0, hfz108_1⟩ := c2_ BK306; obtain ⟨hcz109_0, hcz109_1, hfz109_0, hfz109_1⟩ := c2_ BK307))
     refine bodyPost_ret (results_ctt rfl _ _ gb307 56 #[.slice none 0 0, .slice none 0 0] (0, 0) _ rfl (pu_ (cs := #[.slice none 0 0, .slice none 0 0]) (pu_ (cs := #[.slice none 0 0, .slice none 0 0]) (h_ BK307))) Try.underlying56 rfl (by kernel_rfl)) rfl ?_
     exact ⟨_, _, by first | rfl | (simp [errW_none, errW_some] <;> rfl) | (simp [*, errW_none, errW_some] <;> rfl), by first | exact Kd.R_nil _ _ _ _ _ | exact Kd.N_nil _ _ _ _ _ | exact Kd.V_nil _ _ _ _ _ | exact Kd.Q_nil _ _ _ _ _ | exact Kd.S_nil _ _ _ _ _, by first | exact Kd.R_nil _ _ _ _ _ | exact Kd.N_nil _ _ _ _ _ | exact Kd.V_nil _ _ _ _ _ | exact Kd.Q_nil _ _ _ _ _ | exact Kd.S_nil _ _ _ _ _, b_ HB⟩
    ·rw [if_neg c95] at H
     have c95b0 : decide (16 < (y324.length : Int)) = false := decide_eq_false c95
     have c95b1 : decide (16 < y324.length) = false := decide_eq_false (by omega)
     clear c95
     simp only [Option.some.injEq, Prod.mk.injEq] at H
     obtain ⟨rfl, rfl, rfl, rfl⟩ := H
     go_enter Try.func85, Try.ntmps85
     go_wp2_with (first | ((with_reducible refine gate_dst (N := 2) rfl ?_); (try (refine gate_guard (by rfl) ?_; dsimp only)); refine bx_ (N := 2) (cs := #[.slice A0_0 l0_0.length c0_0, .slice A0_1 l0_1.length c0_1]) (t := 56) (h := ?_); intro gb306 hg w110 hbox hb; have n2_ := mk0 (gz_ HB hg); have n3_ := mk0 (gz_ HB hg); replace HB := mk0 (bt_ (b_ HB) hb); have BK306 := mk0 (hbox); have GW306 := n2_; have GE306 := n3_; clear n2_ n3_; clear hb hbox hg) | ((with_reducible refine gate_dst (N := 4) rfl ?_); (try (refine gate_guard (by rfl) ?_; dsimp only)); refine bx_ (N := 4) (cs := #[.slice none 0 0, .slice none 0 0]) (t := 56) (h := ?_); intro gb307 hg w111 hbox hb; have n3_ := mk0 (gz_ HB hg); have n4_ := mk0 (gz_ HB hg); have n5_ := mk0 (ne1_ BK306 hg); have n6_ := mk0 (ne2_ BK306 hg); replace BK306 := mk0 (u_ BK306 hb); replace HB := mk0 (bt_ (b_ HB) hb); have BK307 := mk0 (hbox); have GW307 := n3_; have GE307 := n4_; have NB306_307 := n5_; have NB307_306 := n6_; clear n3_ n4_ n5_ n6_ hb hbox hg; have hnb112 := NB306_307.out; have hnc112 := NB307_306.out; obtain ⟨hcz113_0, hcz113_1, hfz113_0, hfz113_1⟩ := c2_ BK306) | ((with_reducible refine gate_callee (f := 42) rfl ?_); refine gL_ (some 9) Try.func42 #[.agg #[.slice A0_0 l0_0.length c0_0, .slice A0_1 l0_1.length c0_1]] (h := ?_); (with_reducible refine (quorumref0_CopyPage.calls k _ _ l0_0 _ _ l0_1 t308 t311 _ ?side1 ?side2 ?side3 ?side4 A3.out).mono ?_); (case side1 => exact cb_ HR0_0 HB); (case side2 => exact HC0_0.out); (case side3 => exact cb_ HR0_1 HB); (case side4 => exact HC0_1.out); rintro e w114 ⟨v309, v312, rfl, ho0, ho1, hb⟩; refine ⟨_, rfl, ?_⟩; have n0_ := mk0 (Kd.R_lower ho0 (bz_ (b_ HB))); have n1_ := mk0 (Kd.R_lower ho1 (bz_ (b_ HB))); replace BK306 := mk0 (u_ BK306 hb); replace BK307 := mk0 (u_ BK307 hb); replace HB := mk0 (bt_ (b_ HB) hb); have HO310 := n0_; have HO313 := n1_; clear n0_ n1_; (try clear hb); (try clear ho0); (try clear ho1); obtain ⟨Ao115, co115, eo115⟩ := Kd.R_slice HO310.out; subst eo115; obtain ⟨hcz116_0, hcz116_1, hfz116_0, hfz116_1⟩ := c2_ BK306; obtain ⟨Ao117, co117, eo117⟩ := Kd.R_slice HO313.out; subst eo117) | ((with_reducible refine gate_builtin (b := .append) (xs := #[.tmp 32, .tmp 34]) rfl ?_); (try (refine gate_guard (by rfl) ?_; dsimp only)); at_builtin; refine Kd.R_append Kd.string (w0 := w) w.heap.size rfl (.tmp 32) (.tmp 34) 25 9 (.string ⟨#[]⟩) 16 rfl Try.underlying25 info9 rfl (by decide) (by omega) (.slice Ao115 t308.length co115) t308 a1 [.string a1] (fun _ => True) (fun _ => False) rfl (by first | (go_simp; done) | (go_simp; rfl)) ?aP (fun _ hk => hk.elim) ?aF ?aO ?aB ?aS ?aL ?_; (case aP => exact rfl); (case aB => exact (b_ HB)); (case aF => exact (fun _ _ => trivial)); (case aO => exact (r2_ (Kd.R_mono (Kd.R_far (p := ⟨gb306, 1, none⟩) (Kd.R_far (p := ⟨gb306, 0, none⟩) (Kd.R_types HO310.out BK306.out (by decide)) (fun _ hk => hk.2) (.slice Ao115 t308.length co115)) (fun _ hk => hk.2) (.slice Ao117 t311.length co117)) (fun _ hk => trivial)))); (case aS => exact (bz_ (b_ HB))); (case aL => have := LMc79.out; omega); intro v325 w118 ho hb hg hat; rw [← Ny324.out] at ho; have n2_ := mk0 (Kd.R_over' (r2_ (Kd.R_mono (Kd.R_far (p := ⟨gb306, 1, none⟩) (Kd.R_far (p := ⟨gb306, 0, none⟩) (Kd.R_types HO313.out BK306.out (by decide)) (fun _ hk => hk.2) (.slice Ao115 t308.length co115)) (fun _ hk => hk.2) (.slice Ao117 t311.length co117)) (fun _ h_ => h_.1))) (Kd.R_typed (r2_ (Kd.R_mono (Kd.R_far (p := ⟨gb306, 1, none⟩) (Kd.R_far (p := ⟨gb306, 0, none⟩) (Kd.R_types HO310.out BK306.out (by decide)) (fun _ hk => hk.2) (.slice Ao115 t308.length co115)) (fun _ hk => hk.2) (.slice Ao117 t311.length co117)) (fun _ h_ => h_.1)))) (by decide) hg); replace BK306 := mk0 (blk_grown (g := gb306) (o := .cells #[.slice Ao115 t308.length co115, .slice Ao117 t311.length co117] 56 (0, 0)) (pu_ (cs := #[.slice Ao115 t308.length co115, .slice A0_1 l0_1.length c0_1]) (pu_ (cs := #[.slice A0_0 l0_0.length c0_0, .slice A0_1 l0_1.length c0_1]) (h_ BK306))) hg (Kd.R_ne HO310.out BK306.out (by decide))); replace BK307 := mk0 (blk_grown (g := gb307) (o := .cells #[.slice none 0 0, .slice none 0 0] 56 (0, 0)) (fa_ (fa_ (h_ BK307) NB307_306.out) NB307_306.out) hg (Kd.R_ne HO310.out BK307.out (by decide))); replace HB := mk0 (hb); have HO326 := mk0 (ho); clear HO313 HO310; have HO313 := n2_; clear n2_ ho hb hg hat; obtain ⟨Ao119, co119, eo119⟩ := Kd.R_slice HO326.out; subst eo119; obtain ⟨hcz120_0, hcz120_1, hfz120_0, hfz120_1⟩ := c2_ BK306) | ((with_reducible refine gate_callee (f := 77) rfl ?_); refine gL_ (some 38) Try.func77 #[.agg #[.slice Ao119 y324.length co119, .slice Ao117 t311.length co117]] (h := ?_); (with_reducible refine (quorumref4_Bytes.calls k _ _ y324 _ _ t311 t327 _ ?side1 ?side2 ?side3 ?side4 A80.out).mono ?_); (case side1 => refine (Kd.R_reads' (e := 9) (base := w.heap.size) (ok := fun k_ => True) (n := y324.length) (c := co119) ?_).2.2; exact (r2_ (Kd.R_mono (Kd.R_far (p := ⟨gb306, 0, none⟩) (Kd.R_types HO326.out BK306.out (by decide)) (fun _ hk => hk.2) (.slice Ao119 y324.length co119)) (fun _ h_ => h_.1)))); (case side2 => exact (Kd.R_reads' HO326.out).2.1); (case side3 => refine (Kd.R_reads' (e := 3) (base := w.heap.size) (ok := fun k_ => True) (n := t311.length) (c := co117) ?_).2.2; exact (r2_ (Kd.R_mono (Kd.R_far (p := ⟨gb306, 0, none⟩) (Kd.R_types HO313.out BK306.out (by decide)) (fun _ hk => hk.2) (.slice Ao119 y324.length co119)) (fun _ h_ => h_.1)))); (case side4 => exact (Kd.R_reads' HO313.out).2.1); rintro e w121 ⟨rfl, hb⟩; refine ⟨_, rfl, ?_⟩; have n0_ := mk0 (Kd.R_below (r2_ (Kd.R_mono (Kd.R_far (p := ⟨gb306, 0, none⟩) (Kd.R_types HO313.out BK306.out (by decide)) (fun _ hk => hk.2) (.slice Ao119 y324.length co119)) (fun _ h_ => h_.1))) hb); have n1_ := mk0 (Kd.R_below (r2_ (Kd.R_mono (Kd.R_far (p := ⟨gb306, 0, none⟩) (Kd.R_types HO326.out BK306.out (by decide)) (fun _ hk => hk.2) (.slice Ao119 y324.length co119)) (fun _ h_ => h_.1))) hb); replace BK306 := mk0 (blk_below (g := gb306) (o := .cells #[.slice Ao119 y324.length co119, .slice Ao117 t311.length co117] 56 (0, 0)) (pu_ (cs := #[.slice Ao115 t308.length co115, .slice Ao117 t311.length co117]) (h_ BK306)) hb); replace BK307 := mk0 (blk_below (g := gb307) (o := .cells #[.slice none 0 0, .slice none 0 0] 56 (0, 0)) (fa_ (h_ BK307) NB307_306.out) hb); replace HB := mk0 (bt_ (b_ HB) hb); clear HO313 HO326; have HO313 := n0_; have HO326 := n1_; clear n0_ n1_; (try clear hb); obtain ⟨hcz122_0, hcz122_1, hfz122_0, hfz122_1⟩ := c2_ BK306; obtain ⟨hcz123_0, hcz123_1, hfz123_0, hfz123_1⟩ := c2_ BK307))
     refine bodyPost_ret (results_ctt rfl _ _ gb307 56 #[.slice Ao119 y324.length co119, .slice Ao117 t311.length co117] (0, 0) _ rfl (pu_ (cs := #[.slice Ao119 y324.length co119, .slice none 0 0]) (pu_ (cs := #[.slice none 0 0, .slice none 0 0]) (h_ BK307))) Try.underlying56 rfl (by kernel_rfl)) rfl ?_
     exact ⟨_, _, by first | rfl | (simp [errW_none, errW_some] <;> rfl) | (simp [*, errW_none, errW_some] <;> rfl), by (with_reducible repeat (first | apply Ra_ | apply Rn_ | apply Rd_)); exact Kd.R_mono (Kd.R_far (p := ⟨gb307, 1, none⟩) (Kd.R_far (p := ⟨gb307, 0, none⟩) (Kd.R_types HO326.out BK307.out (by decide)) (fun _ hk => hk.2) (.slice Ao119 y324.length co119)) (fun _ hk => hk.2) (.slice Ao117 t311.length co117)) (fun _ hk => trivial), by (with_reducible repeat (first | apply Ra_ | apply Rn_ | apply Rd_)); exact Kd.R_mono (Kd.R_far (p := ⟨gb307, 1, none⟩) (Kd.R_far (p := ⟨gb307, 0, none⟩) (Kd.R_types HO313.out BK307.out (by decide)) (fun _ hk => hk.2) (.slice Ao119 y324.length co119)) (fun _ hk => hk.2) (.slice Ao117 t311.length co117)) (fun _ hk => trivial), b_ HB⟩
  ·rw [if_neg c79] at H
   exact absurd H (by simp)

/-! ### page_Check: function 86 -/
def page_Check.f (k : Nat) (l0_0 : List ByteArray) (l0_1 : List Int) : Option (Int) := (page_may.f k l0_0 l0_1).bind fun t329 => (if t329 = true then (some 0) else (some 1))
theorem page_Check.mono : ∀ a0 a1 k, LeO (page_Check.f k a0 a1) (page_Check.f (k + 1) a0 a1) := by
 intro a0 a1 k
 unfold page_Check.f
 repeat' first
   | (with_reducible exact page_may.mono _ _ _)
   | (with_reducible exact LeO.refl _)
   | (with_reducible exact LeO.none _)
   | (with_reducible refine LeO.ite ?_ ?_)
   | (with_reducible refine LeO.bind ?_ (fun _ => ?_))
   | exact page_may.mono _ _ _
   | exact LeO.none _
   | refine LeO.ite ?_ ?_
   | refine LeO.bind ?_ (fun _ => ?_)
set_option maxHeartbeats 8000000 in
set_option maxRecDepth 100000 in
theorem page_Check.calls (k : Nat) (A0_0 : Option Addr) (c0_0 : Nat) (l0_0 : List ByteArray) (A0_1 : Option Addr) (c0_1 : Nat) (l0_1 : List Int) (r : Int) (w : World) (hr0_0 : Kd.C Kd.string w A0_0 l0_0.length l0_0) (hc0_0 : l0_0.length ≤ c0_0) (hr0_1 : Kd.C (Kd.int .i64) w A0_1 l0_1.length l0_1) (hc0_1 : l0_1.length ≤ c0_1) (h : page_Check.f k l0_0 l0_1 = some r) :
  Calls Try.prog 86 #[.agg #[.slice A0_0 l0_0.length c0_0, .slice A0_1 l0_1.length c0_1]] w fun e w' => e = .returned (.int .i64 r) ∧ Below w.heap.size w w' := by
 have hu56 := Try.underlying56
 have HR0_0 := mk0 hr0_0
 have HC0_0 := mk0 hc0_0
 clear hr0_0 hc0_0
 have HR0_1 := mk0 hr0_1
 have HC0_1 := mk0 hc0_1
 clear hr0_1 hc0_1
 have HB := mk0 (Below.refl w.heap.size w)
 have H : ((page_may.f k l0_0 l0_1).bind fun t329 => (if t329 = true then (some 0) else (some 1))) = some r := h
 clear h
 replace H := Option.bind_eq_some_iff.mp H
 obtain ⟨t329, A20, H⟩ := H
 try dsimp only at H
 have A2 := mk0 A20
 clear A20
 by_cases c3 : t329 = true
 ·subst c3
  rw [if_pos rfl] at H
  obtain rfl := Option.some.inj H
  go_enter Try.func86, Try.ntmps86
  go_wp2_with (first | ((with_reducible refine gate_dst (N := 1) rfl ?_); refine bx_ (N := 1) (cs := #[.slice A0_0 l0_0.length c0_0, .slice A0_1 l0_1.length c0_1]) (t := 56) (h := ?_); intro gb328 hg w4 hbox hb; have n2_ := mk0 (gz_ HB hg); have n3_ := mk0 (gz_ HB hg); replace HB := mk0 (bt_ (b_ HB) hb); have BK328 := mk0 (hbox); have GW328 := n2_; have GE328 := n3_; clear n2_ n3_ hb hbox hg; obtain ⟨hcz5_0, hcz5_1, hfz5_0, hfz5_1⟩ := c2_ BK328) | ((with_reducible refine gate_callee (f := 72) rfl ?_); refine gL_ (some 4) Try.func72 #[.agg #[.slice A0_0 l0_0.length c0_0, .slice A0_1 l0_1.length c0_1]] (h := ?_); (with_reducible refine (page_may.calls k _ _ l0_0 _ _ l0_1 true _ ?side1 ?side2 ?side3 ?side4 A2.out).mono ?_); (case side1 => exact cb_ HR0_0 HB); (case side2 => exact HC0_0.out); (case side3 => exact cb_ HR0_1 HB); (case side4 => exact HC0_1.out); rintro e w6 ⟨rfl, hb⟩; refine ⟨_, rfl, ?_⟩; replace BK328 := mk0 (u_ BK328 hb); replace HB := mk0 (bt_ (b_ HB) hb); (try clear hb)))
  go_ret
  exact ⟨by first | rfl | (simp [errW_none, errW_some] <;> rfl) | (simp [*, errW_none, errW_some] <;> rfl), b_ HB⟩
 ·replace c3 := Bool.eq_false_iff.mpr c3
  subst c3
  rw [if_neg (show ¬ (false = true) by decide)] at H
  obtain rfl := Option.some.inj H
  go_enter Try.func86, Try.ntmps86
  go_wp2_with (first | ((with_reducible refine gate_dst (N := 1) rfl ?_); refine bx_ (N := 1) (cs := #[.slice A0_0 l0_0.length c0_0, .slice A0_1 l0_1.length c0_1]) (t := 56) (h := ?_); intro gb328 hg w7 hbox hb; have n2_ := mk0 (gz_ HB hg); have n3_ := mk0 (gz_ HB hg); replace HB := mk0 (bt_ (b_ HB) hb); have BK328 := mk0 (hbox); have GW328 := n2_; have GE328 := n3_; clear n2_ n3_ hb hbox hg; obtain ⟨hcz8_0, hcz8_1, hfz8_0, hfz8_1⟩ := c2_ BK328) | ((with_reducible refine gate_callee (f := 72) rfl ?_); refine gL_ (some 4) Try.func72 #[.agg #[.slice A0_0 l0_0.length c0_0, .slice A0_1 l0_1.length c0_1]] (h := ?_); (with_reducible refine (page_may.calls k _ _ l0_0 _ _ l0_1 false _ ?side1 ?side2 ?side3 ?side4 A2.out).mono ?_); (case side1 => exact cb_ HR0_0 HB); (case side2 => exact HC0_0.out); (case side3 => exact cb_ HR0_1 HB); (case side4 => exact HC0_1.out); rintro e w9 ⟨rfl, hb⟩; refine ⟨_, rfl, ?_⟩; replace BK328 := mk0 (u_ BK328 hb); replace HB := mk0 (bt_ (b_ HB) hb); (try clear hb)))
  go_ret
  exact ⟨by first | rfl | (simp [errW_none, errW_some] <;> rfl) | (simp [*, errW_none, errW_some] <;> rfl), b_ HB⟩

end Go.Proofs.Ytoodkefpkgbjcaa.PPgb
