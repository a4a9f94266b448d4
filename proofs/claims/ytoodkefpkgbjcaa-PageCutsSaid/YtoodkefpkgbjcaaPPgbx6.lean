-- PRINTED by print.py (a twelfth state) out of the translation. Not trusted: Lean checks it.
import Derived.Test.YtoodkefpkgbjcaaPPgbx0
import Derived.Test.YtoodkefpkgbjcaaPPgbx4
import Derived.Test.YtoodkefpkgbjcaaPPgbx5
namespace Go.Proofs.Ytoodkefpkgbjcaa.PPgb
open Go.RowKit Go.Proofs.YtoodkefpkgbjcaaW.PrintWords Go.Proofs.YtoodkefpkgbjcaaW.PrintLast Go.Proofs.YtoodkefpkgbjcaaW.PrintMore
attribute [local go_sem] max2_int min2_int max_two min_two max_three min_three max_four min_four   -- for this text's walks alone
set_option linter.unusedVariables false
set_option linter.unusedSimpArgs false

/-! ### page_Cut: function 34 -/
mutual
def page_Cut.l0 : Nat → Int → List ByteArray → List Int → Option (List ByteArray × List Int × Int)
 | 0, _, _, _ => none
 | k + 1, x10, x205000, x205001 => if x10 ≥ 0 then (if 0 ≤ x10 then (if x10 < (x205001.length : Int) then (page_Cut.j1 k x10 ((rd x205001 x10) == (wrap64 ((x205000.length : Int) - 1))) x205000 x205001) else (none)) else (none)) else (page_Cut.j1 k x10 false x205000 x205001)
def page_Cut.j1 : Nat → Int → Bool → List ByteArray → List Int → Option (List ByteArray × List Int × Int)
 | 0, _, _, _, _ => none
 | k + 1, x10, x56, x205000, x205001 => if x56 = true then (if 0 ≤ x10 then (if x10 < (x205001.length : Int) then (if 0 ≤ (rd x205001 x10) then (if (rd x205001 x10) ≤ (x205000.length : Int) then (if x10 ≤ (x205001.length : Int) then (page_Cut.l0 k (wrap64 (x10 - 1)) (x205000.take ((rd x205001 x10) : Int).toNat) (x205001.take (x10 : Int).toNat)) else (none)) else (none)) else (none)) else (none)) else (none)) else (some (x205000, x205001, 0))
end
def page_Cut.f (k : Nat) (l0_0 : List ByteArray) (l0_1 : List Int) (a1 : Int) : Option (List ByteArray × List Int × Int) := (page_asked.f k l0_0 l0_1 a1).bind fun bt197 => (if bt197.2.2 = 0 then ((slices_BinarySearch_int_int.f k bt197.2.1 a1).bind fun bt205 => ((slices_Insert_int_int.f bt197.2.1 bt205.1 (([a1] : List Int))).bind fun t210 => (if 0 ≤ a1 then (if a1 < (bt197.1.length : Int) then (page_Cut.l0 k (wrap64 ((t210.length : Int) - 1)) (bt197.1.set (a1 : Int).toNat (⟨#[]⟩ : ByteArray)) t210) else (none)) else (none)))) else (some (bt197.1, bt197.2.1, bt197.2.2)))
theorem page_Cut.mono_l : ∀ k, (∀ y0 y1 y2, LeO (page_Cut.l0 k y0 y1 y2) (page_Cut.l0 (k + 1) y0 y1 y2)) ∧ (∀ y0 y1 y2 y3, LeO (page_Cut.j1 k y0 y1 y2 y3) (page_Cut.j1 (k + 1) y0 y1 y2 y3))
 | 0 => ⟨fun _ _ _ r h => by simp [page_Cut.l0] at h, fun _ _ _ _ r h => by simp [page_Cut.j1] at h⟩
 | k + 1 => by
  obtain ⟨ih0, ih1⟩ := page_Cut.mono_l k
  refine ⟨?_, ?_⟩
  ·intro y0 y1 y2
   unfold page_Cut.l0
   repeat' first
   | (with_reducible exact ih0 _ _ _)
   | (with_reducible exact ih1 _ _ _ _)
   | (with_reducible exact page_asked.mono _ _ _ _)
   | (with_reducible exact slices_BinarySearch_int_int.mono _ _ _)
   | (with_reducible exact LeO.refl _)
   | (with_reducible exact LeO.none _)
   | (with_reducible refine LeO.ite ?_ ?_)
   | (with_reducible refine LeO.bind ?_ (fun _ => ?_))
   | exact ih0 _ _ _
   | exact ih1 _ _ _ _
   | exact page_asked.mono _ _ _ _
   | exact slices_BinarySearch_int_int.mono _ _ _
   | exact LeO.none _
   | refine LeO.ite ?_ ?_
   | refine LeO.bind ?_ (fun _ => ?_)
  ·intro y0 y1 y2 y3
   unfold page_Cut.j1
   repeat' first
   | (with_reducible exact ih0 _ _ _)
   | (with_reducible exact ih1 _ _ _ _)
   | (with_reducible exact page_asked.mono _ _ _ _)
   | (with_reducible exact slices_BinarySearch_int_int.mono _ _ _)
   | (with_reducible exact LeO.refl _)
   | (with_reducible exact LeO.none _)
   | (with_reducible refine LeO.ite ?_ ?_)
   | (with_reducible refine LeO.bind ?_ (fun _ => ?_))
   | exact ih0 _ _ _
   | exact ih1 _ _ _ _
   | exact page_asked.mono _ _ _ _
   | exact slices_BinarySearch_int_int.mono _ _ _
   | exact LeO.none _
   | refine LeO.ite ?_ ?_
   | refine LeO.bind ?_ (fun _ => ?_)
theorem page_Cut.mono : ∀ a0 a1 a2 k, LeO (page_Cut.f k a0 a1 a2) (page_Cut.f (k + 1) a0 a1 a2) := by
 intro a0 a1 a2 k
 obtain ⟨ih0, ih1⟩ := page_Cut.mono_l k
 unfold page_Cut.f
 repeat' first
   | (with_reducible exact ih0 _ _ _)
   | (with_reducible exact ih1 _ _ _ _)
   | (with_reducible exact page_asked.mono _ _ _ _)
   | (with_reducible exact slices_BinarySearch_int_int.mono _ _ _)
   | (with_reducible exact LeO.refl _)
   | (with_reducible exact LeO.none _)
   | (with_reducible refine LeO.ite ?_ ?_)
   | (with_reducible refine LeO.bind ?_ (fun _ => ?_))
   | exact ih0 _ _ _
   | exact ih1 _ _ _ _
   | exact page_asked.mono _ _ _ _
   | exact slices_BinarySearch_int_int.mono _ _ _
   | exact LeO.none _
   | refine LeO.ite ?_ ?_
   | refine LeO.bind ?_ (fun _ => ?_)
def page_Cut.T5 : Bool × List (List Nat × List Nat) := (true, [([], []), ([0], [0]), ([], []), ([], []), ([3], [3]), ([], []), ([], []), ([6], [6]), ([4, 5, 7], [4, 5, 7]), ([1, 2, 0, 1, 2, 8], [1, 2]), ([9, 8, 0, 1, 2, 8], [9]), ([0, 1, 2, 3, 4, 5, 6, 7, 8, 9, 10], []), ([11, 8, 10, 0, 1, 2, 3, 4, 5, 6, 7, 8, 9, 10], [8, 11])])
def page_Cut.B5 : List Nat := [0, 1, 0, 0, 8, 0, 0, 64, 248, 511, 1023, 2047, 4095]
theorem page_Cut.tab5 : rtab .any (opsOf Try.f34 5) = page_Cut.T5 := by kernel_rfl
theorem page_Cut.bits5 : waitsOk page_Cut.T5.2 page_Cut.B5 = true := by kernel_rfl
def page_Cut.T7 : Bool × List (List Nat × List Nat) := (true, [([], []), ([0], [0]), ([1], [1]), ([2], [2]), ([3, 2], [2, 3]), ([2], [2]), ([4, 5, 2], [2, 4, 5]), ([6, 2], [2, 6]), ([2], [2]), ([8, 2], [2, 8]), ([9, 2], [2, 9]), ([10, 2], [2, 10]), ([7, 11, 2], [2, 7, 11]), ([2, 12], [2, 12])])
def page_Cut.B7 : List Nat := [0, 1, 3, 7, 15, 7, 63, 127, 7, 263, 775, 1799, 4095, 8191]
theorem page_Cut.tab7 : rtab .any (opsOf Try.f34 7) = page_Cut.T7 := by kernel_rfl
theorem page_Cut.bits7 : waitsOk page_Cut.T7.2 page_Cut.B7 = true := by kernel_rfl
def page_Cut.T9 : Bool × List (List Nat × List Nat) := (true, [([], []), ([0], [0]), ([], []), ([2], [2]), ([], []), ([3, 4], [3, 4]), ([5], [5]), ([1, 6], [1, 6]), ([], []), ([8], [8]), ([], []), ([9, 10], [9, 10]), ([0, 1, 2, 3, 4, 5, 6, 7, 8, 9], []), ([12, 7, 0, 1, 2, 3, 4, 5, 6, 7, 8, 9], [7, 12]), ([0, 1, 2, 3, 4, 5, 6, 7, 8, 9, 10, 11, 12, 13], []), ([14, 11, 13, 0, 1, 2, 3, 4, 5, 6, 7, 8, 9, 10, 11, 12, 13], [11, 14])])
def page_Cut.B9 : List Nat := [0, 1, 0, 4, 0, 28, 60, 127, 0, 256, 0, 1792, 1023, 5119, 16383, 32767]
theorem page_Cut.tab9 : rtab .any (opsOf Try.f34 9) = page_Cut.T9 := by kernel_rfl
theorem page_Cut.bits9 : waitsOk page_Cut.T9.2 page_Cut.B9 = true := by kernel_rfl
set_option maxHeartbeats 8000000 in
set_option maxRecDepth 100000 in
theorem page_Cut.calls (k : Nat) (A0_0 : Option Addr) (c0_0 : Nat) (l0_0 : List ByteArray) (A0_1 : Option Addr) (c0_1 : Nat) (l0_1 : List Int) (a1 : Int) (r1 : List ByteArray) (r2 : List Int) (r3 : Int) (w : World) (hr0_0 : Kd.C Kd.string w A0_0 l0_0.length l0_0) (hc0_0 : l0_0.length ≤ c0_0) (hr0_1 : Kd.C (Kd.int .i64) w A0_1 l0_1.length l0_1) (hc0_1 : l0_1.length ≤ c0_1) (h : page_Cut.f k l0_0 l0_1 a1 = some (r1, r2, r3)) :
  Calls Try.prog 34 #[.agg #[.slice A0_0 l0_0.length c0_0, .slice A0_1 l0_1.length c0_1], .int .i64 a1] w fun e w' => ∃ v0_ v1_ : Value, e = .returned (.tuple #[.agg #[v0_, v1_], .int .i64 r3]) ∧ Kd.R Kd.string 9 w' w.heap.size (fun _ => True) v0_ r1 ∧ Kd.R (Kd.int .i64) 3 w' w.heap.size (fun _ => True) v1_ r2 ∧ Below w.heap.size w w' := by
 have hu56 := Try.underlying56
 have HR0_0 := mk0 hr0_0
 have HC0_0 := mk0 hc0_0
 clear hr0_0 hc0_0
 have HR0_1 := mk0 hr0_1
 have HC0_1 := mk0 hc0_1
 clear hr0_1 hc0_1
 have HB := mk0 (Below.refl w.heap.size w)
 have H : ((page_asked.f k l0_0 l0_1 a1).bind fun bt197 => (if bt197.2.2 = 0 then ((slices_BinarySearch_int_int.f k bt197.2.1 a1).bind fun bt205 => ((slices_Insert_int_int.f bt197.2.1 bt205.1 (([a1] : List Int))).bind fun t210 => (if 0 ≤ a1 then (if a1 < (bt197.1.length : Int) then (page_Cut.l0 k (wrap64 ((t210.length : Int) - 1)) (bt197.1.set (a1 : Int).toNat (⟨#[]⟩ : ByteArray)) t210) else (none)) else (none)))) else (some (bt197.1, bt197.2.1, bt197.2.2)))) = some (r1, r2, r3) := h
 clear h
 replace H := Option.bind_eq_some_iff.mp H
 obtain ⟨⟨t197, t200, t203⟩, A30, H⟩ := H
 try dsimp only at H
 have A3 := mk0 A30
 clear A30
 by_cases c4 : t203 = 0
 ·rw [if_pos c4] at H
  have c4b0 : (t203 == 0) = true := beq_iff_eq.mpr c4
  have c4b1 : (t203 != 0) = false := bne_eq_false_iff_eq.mpr c4
  clear c4
  replace H := Option.bind_eq_some_iff.mp H
  obtain ⟨⟨t205, t206⟩, A50, H⟩ := H
  try dsimp only at H
  have A5 := mk0 A50
  clear A50
  obtain ⟨y207, hy207⟩ : ∃ y_ : List Int, y_ = (([a1] : List Int)) := ⟨_, rfl⟩
  replace H : ((slices_Insert_int_int.f t200 t205 y207).bind fun t210 => (if 0 ≤ a1 then (if a1 < (t197.length : Int) then (page_Cut.l0 k (wrap64 ((t210.length : Int) - 1)) (t197.set (a1 : Int).toNat (⟨#[]⟩ : ByteArray)) t210) else (none)) else (none))) = some (r1, r2, r3) := by first | (rw [hy207]; with_reducible exact H) | (have H2_ := (Option.bind_some _ _).symm.trans H; rw [hy207]; with_reducible exact H2_) | (have H2_ := (Option.bind_some _ _).symm.trans H; with_reducible exact H2_) | with_reducible exact H | (rw [hy207]; exact H) | exact H
  have Ny207 := mk0 hy207
  clear hy207
  replace H := Option.bind_eq_some_iff.mp H
  obtain ⟨t210, A60, H⟩ := H
  try dsimp only at H
  have A6 := mk0 A60
  clear A60
  by_cases c7 : 0 ≤ a1
  ·rw [if_pos c7] at H
   have c7b0 : decide (0 ≤ a1) = true := decide_eq_true c7
   clear c7
   by_cases c8 : a1 < (t197.length : Int)
   ·rw [if_pos c8] at H
    have c8b0 : decide (a1 < (t197.length : Int)) = true := decide_eq_true c8
    clear c8
    obtain ⟨y213, hy213⟩ : ∃ y_ : List ByteArray, y_ = (t197.set (a1 : Int).toNat (⟨#[]⟩ : ByteArray)) := ⟨_, rfl⟩
    replace H : (page_Cut.l0 k (wrap64 ((t210.length : Int) - 1)) y213 t210) = some (r1, r2, r3) := by first | (rw [hy213]; with_reducible exact H) | (have H2_ := (Option.bind_some _ _).symm.trans H; rw [hy213]; with_reducible exact H2_) | (have H2_ := (Option.bind_some _ _).symm.trans H; with_reducible exact H2_) | with_reducible exact H | (rw [hy213]; exact H) | exact H
    have Ny213 := mk0 hy213
    clear hy213
    have H' := mk0 H
    clear H
    go_enter Try.func34, Try.ntmps34
    try go_wp2_with (first | ((with_reducible refine gate_dst (N := 2) rfl ?_); (try (refine gate_guard (by rfl) ?_; dsimp only)); refine bx_ (N := 2) (cs := #[.slice A0_0 l0_0.length c0_0, .slice A0_1 l0_1.length c0_1]) (t := 56) (h := ?_); intro gb195 hg w10 hbox hb; have n2_ := mk0 (gz_ HB hg); have n3_ := mk0 (gz_ HB hg); replace HB := mk0 (bt_ (b_ HB) hb); have BK195 := mk0 (hbox); have GW195 := n2_; have GE195 := n3_; clear n2_ n3_; clear hb hbox hg) | ((with_reducible refine gate_dst (N := 4) rfl ?_); (try (refine gate_guard (by rfl) ?_; dsimp only)); refine bx_ (N := 4) (cs := #[.slice none 0 0, .slice none 0 0]) (t := 56) (h := ?_); intro gb196 hg w11 hbox hb; have n3_ := mk0 (gz_ HB hg); have n4_ := mk0 (gz_ HB hg); have n5_ := mk0 (ne1_ BK195 hg); have n6_ := mk0 (ne2_ BK195 hg); replace BK195 := mk0 (u_ BK195 hb); replace HB := mk0 (bt_ (b_ HB) hb); have BK196 := mk0 (hbox); have GW196 := n3_; have GE196 := n4_; have NB195_196 := n5_; have NB196_195 := n6_; clear n3_ n4_ n5_ n6_ hb hbox hg; have hnb12 := NB195_196.out; have hnc12 := NB196_195.out; obtain ⟨hcz13_0, hcz13_1, hfz13_0, hfz13_1⟩ := c2_ BK195) | ((with_reducible refine gate_callee (f := 69) rfl ?_); refine gL_ (some 14) Try.func69 #[.agg #[.slice A0_0 l0_0.length c0_0, .slice A0_1 l0_1.length c0_1], .int .i64 a1] (h := ?_); (with_reducible refine (page_asked.calls k _ _ l0_0 _ _ l0_1 a1 t197 t200 t203 _ ?side1 ?side2 ?side3 ?side4 A3.out).mono ?_); (case side1 => exact cb_ HR0_0 HB); (case side2 => exact HC0_0.out); (case side3 => exact cb_ HR0_1 HB); (case side4 => exact HC0_1.out); rintro e w14 ⟨v198, v201, rfl, ho0, ho1, hb⟩; refine ⟨_, rfl, ?_⟩; have n0_ := mk0 (Kd.R_lower ho0 (bz_ (b_ HB))); have n1_ := mk0 (Kd.R_lower ho1 (bz_ (b_ HB))); replace BK195 := mk0 (u_ BK195 hb); replace BK196 := mk0 (u_ BK196 hb); replace HB := mk0 (bt_ (b_ HB) hb); have HO199 := n0_; have HO202 := n1_; clear n0_ n1_; (try clear hb); (try clear ho0); (try clear ho1)) | ((with_reducible refine gate_dst (N := 6) rfl ?_); (try (refine gate_guard (by rfl) ?_; dsimp only)); refine bx_ (N := 6) (cs := #[.slice none 0 0, .slice none 0 0]) (t := 56) (h := ?_); intro gb204 hg w15 hbox hb; have n6_ := mk0 (gz_ HB hg); have n7_ := mk0 (gz_ HB hg); have n8_ := mk0 (ne1_ BK195 hg); have n9_ := mk0 (ne2_ BK195 hg); have n10_ := mk0 (ne1_ BK196 hg); have n11_ := mk0 (ne2_ BK196 hg); replace HO199 := mk0 (Kd.R_below (r_ HO199) hb); replace HO202 := mk0 (Kd.R_below (r_ HO202) hb); replace BK195 := mk0 (u_ BK195 hb); replace BK196 := mk0 (u_ BK196 hb); replace HB := mk0 (bt_ (b_ HB) hb); have BK204 := mk0 (hbox); have GW204 := n6_; have GE204 := n7_; have NB195_204 := n8_; have NB204_195 := n9_; have NB196_204 := n10_; have NB204_196 := n11_; clear n6_ n7_ n8_ n9_ n10_ n11_ hb hbox hg; obtain ⟨Ao16, co16, eo16⟩ := Kd.R_slice HO199.out; subst eo16; have hnb17 := NB204_195.out; have hnc17 := NB195_204.out; have hnb18 := NB204_196.out; have hnc18 := NB196_204.out; obtain ⟨hcz19_0, hcz19_1, hfz19_0, hfz19_1⟩ := c2_ BK204; obtain ⟨Ao20, co20, eo20⟩ := Kd.R_slice HO202.out; subst eo20) | ((with_reducible refine gate_callee (f := 70) rfl ?_); refine gL_ (some 25) Try.func70 #[.slice Ao20 t200.length co20, .int .i64 a1] (h := ?_); (with_reducible refine (slices_BinarySearch_int_int.calls k _ _ t200 a1 t205 t206 _ ?side1 ?side2 A5.out).mono ?_); (case side1 => refine (Kd.R_reads' (e := 3) (base := w.heap.size) (ok := fun k_ => True) (n := t200.length) (c := co20) ?_).2.2; exact (r2_ (Kd.R_mono (Kd.R_far (p := ⟨gb204, 1, none⟩) (Kd.R_far (p := ⟨gb204, 0, none⟩) (Kd.R_types HO202.out BK204.out (by decide)) (fun _ hk => hk.2) (.slice Ao16 t197.length co16)) (fun _ hk => hk.2) (.slice Ao20 t200.length co20)) (fun _ h_ => h_.1)))); (case side2 => exact (Kd.R_reads' HO202.out).2.1); rintro e w' ⟨rfl, ⟨nd, rfl⟩⟩; refine ⟨_, rfl, ?_⟩))
    have n0_ : Fc (Kd.R Kd.string 9 ((w15.setCell ⟨gb204, 0, none⟩ (.slice Ao16 t197.length co16)).setCell ⟨gb204, 1, none⟩ (.slice Ao20 t200.length co20)) w.heap.size (fun _ => True) (.slice Ao16 t197.length co16) t197) := ⟨by (with_reducible repeat (first | apply Ra_ | apply Rn_ | apply Rd_)); exact Kd.R_mono (Kd.R_far (p := ⟨gb204, 1, none⟩) (Kd.R_far (p := ⟨gb204, 0, none⟩) (Kd.R_types HO199.out BK204.out (by decide)) (fun _ hk => hk.2) (.slice Ao16 t197.length co16)) (fun _ hk => hk.2) (.slice Ao20 t200.length co20)) (fun _ hk => trivial)⟩
    have n1_ : Fc (Kd.R (Kd.int .i64) 3 ((w15.setCell ⟨gb204, 0, none⟩ (.slice Ao16 t197.length co16)).setCell ⟨gb204, 1, none⟩ (.slice Ao20 t200.length co20)) w.heap.size (fun _ => True) (.slice Ao20 t200.length co20) t200) := ⟨by (with_reducible repeat (first | apply Ra_ | apply Rn_ | apply Rd_)); exact Kd.R_mono (Kd.R_far (p := ⟨gb204, 1, none⟩) (Kd.R_far (p := ⟨gb204, 0, none⟩) (Kd.R_types HO202.out BK204.out (by decide)) (fun _ hk => hk.2) (.slice Ao16 t197.length co16)) (fun _ hk => hk.2) (.slice Ao20 t200.length co20)) (fun _ hk => trivial)⟩
    have n2_ : Fc (((w15.setCell ⟨gb204, 0, none⟩ (.slice Ao16 t197.length co16)).setCell ⟨gb204, 1, none⟩ (.slice Ao20 t200.length co20)).heap[gb195]? = some (.cells #[.slice A0_0 l0_0.length c0_0, .slice A0_1 l0_1.length c0_1] 56 (0, 0))) := ⟨(fa_ (fa_ (h_ BK195) NB195_204.out) NB195_204.out)⟩
    have n3_ : Fc (((w15.setCell ⟨gb204, 0, none⟩ (.slice Ao16 t197.length co16)).setCell ⟨gb204, 1, none⟩ (.slice Ao20 t200.length co20)).heap[gb196]? = some (.cells #[.slice none 0 0, .slice none 0 0] 56 (0, 0))) := ⟨(fa_ (fa_ (h_ BK196) NB196_204.out) NB196_204.out)⟩
    have n4_ : Fc (((w15.setCell ⟨gb204, 0, none⟩ (.slice Ao16 t197.length co16)).setCell ⟨gb204, 1, none⟩ (.slice Ao20 t200.length co20)).heap[gb204]? = some (.cells #[.slice Ao16 t197.length co16, .slice Ao20 t200.length co20] 56 (0, 0))) := ⟨(pu_ (cs := #[.slice Ao16 t197.length co16, .slice none 0 0]) (pu_ (cs := #[.slice none 0 0, .slice none 0 0]) (h_ BK204)))⟩
    have n5_ : Fc (Below w.heap.size w ((w15.setCell ⟨gb204, 0, none⟩ (.slice Ao16 t197.length co16)).setCell ⟨gb204, 1, none⟩ (.slice Ao20 t200.length co20))) := ⟨b_ HB⟩
    (try clear HO199)
    (try clear HO202)
    (try clear BK195)
    (try clear BK196)
    (try clear BK204)
    (try clear HB)
    generalize ((w15.setCell ⟨gb204, 0, none⟩ (.slice Ao16 t197.length co16)).setCell ⟨gb204, 1, none⟩ (.slice Ao20 t200.length co20)) = w21 at n0_ n1_ n2_ n3_ n4_ n5_ ⊢
    have HO199 := n0_
    have HO202 := n1_
    have BK195 := n2_
    have BK196 := n3_
    have BK204 := n4_
    have HB := n5_
    clear n0_ n1_ n2_ n3_ n4_ n5_
    (try (rw [drewN_self w21]; generalize hq_ : World.drewN w21 _ = w21; have n0_ : Fc (Kd.R Kd.string 9 w21 w.heap.size (fun _ => True) (.slice Ao16 t197.length co16) t197) := ⟨by rw [← hq_]; exact (r_ HO199)⟩; have n1_ : Fc (Kd.R (Kd.int .i64) 3 w21 w.heap.size (fun _ => True) (.slice Ao20 t200.length co20) t200) := ⟨by rw [← hq_]; exact (r_ HO202)⟩; have n2_ : Fc (w21.heap[gb195]? = some (.cells #[.slice A0_0 l0_0.length c0_0, .slice A0_1 l0_1.length c0_1] 56 (0, 0))) := ⟨by rw [← hq_]; exact (h_ BK195)⟩; have n3_ : Fc (w21.heap[gb196]? = some (.cells #[.slice none 0 0, .slice none 0 0] 56 (0, 0))) := ⟨by rw [← hq_]; exact (h_ BK196)⟩; have n4_ : Fc (w21.heap[gb204]? = some (.cells #[.slice Ao16 t197.length co16, .slice Ao20 t200.length co20] 56 (0, 0))) := ⟨by rw [← hq_]; exact (h_ BK204)⟩; have n5_ : Fc (Below w.heap.size w w21) := ⟨by rw [← hq_]; exact (b_ HB)⟩; clear HO199 HO202 BK195 BK196 BK204 HB hq_; have HO199 := n0_; have HO202 := n1_; have BK195 := n2_; have BK196 := n3_; have BK204 := n4_; have HB := n5_; clear n0_ n1_ n2_ n3_ n4_ n5_))
    replace HO199 := mk0 (Rd_ HO199.out)
    replace HO202 := mk0 (Rd_ HO202.out)
    replace BK195 := mk0 (bD_ BK195.out)
    replace BK196 := mk0 (bD_ BK196.out)
    replace BK204 := mk0 (bD_ BK204.out)
    replace HB := mk0 (b1_ HB.out)
    refine start_ (n := 13) (S := fun w' => w'.cell? ⟨gb204, 0, none⟩ = some (.slice Ao16 t197.length co16) ∧ w'.cell? ⟨gb204, 1, none⟩ = some (.slice Ao20 t200.length co20)) (ds := [10, 12]) (bt 13 0) (by kernel_rfl) rfl rfl ⟨(blk_cell BK204.out 0).trans rfl, (blk_cell BK204.out 1).trans rfl⟩ (fun hHeld => ?_); refine with_tabW page_Cut.tab5 page_Cut.bits5 (fun HT_ HW_ => ?_)
    generalize w21.drew = w22 at HO199 HO202 BK195 BK196 BK204 HB hHeld ⊢
    refine pq_ HT_.out 0 28 (bt 13 1) (h := ?_)
    refine pq_ HT_.out 2 30 (bt 13 5) (h := ?_)
    refine pq_ HT_.out 3 31 (bt 13 13) (h := ?_)
    refine pq_ HT_.out 5 33 (bt 13 45) (h := ?_)
    refine pq_ HT_.out 6 34 (bt 13 109) (h := ?_)
    refine tq2_ HT_.out HW_.out 1 29 (bt 13 111) hHeld (h := ?_)
    refine tq2_ HT_.out HW_.out 4 32 (bt 13 127) hHeld (h := ?_)
    refine one_ (i := 7) (N := some 35) (bt 13 255) rfl rfl (one_of HT_.out (by kernel_rfl)) (by decide) (fun K hK => ?_)
    refine Kd.R_lit_step (Kd.int .i64) _ 3 ?hg (N := 35) ?hd (xs := ([a1] : List Int)) (inner := [.int .i64 a1]) (ok := fun _ => True) (okp := fun _ => True) ?hr ?hp (fun _ hk => hk) trivial (Below.refl _ _) (Nat.le_refl _) (by simp) ?_; (case hd => rfl); (case hg => rfl); (case hr => first | (go_simp; done) | (go_simp; rfl)); (case hp => exact (Reps.one (show Kd.M (Kd.int .i64) _ _ _ a1 [.int .i64 a1] from rfl) (Reps.none _ _)))
    intro v208 w23 ho24 hb hg_ hnew_
    clear hg_ hnew_
    (first | rw [← Ny207.out] at ho24 | (simp only [Int.reduceToNat] at ho24; rw [← Ny207.out] at ho24))
    have n2_ := mk0 (Kd.R_lower (Kd.R_new' ho24 (Kd.R_lt (r_ HO202))) (bz_ (b_ HB)))
    replace HO199 := mk0 (Kd.R_below (r_ HO199) hb)
    replace HO202 := mk0 (Kd.R_elder' (r_ HO202) (Kd.R_base ho24) hb)
    replace BK195 := mk0 (u_ BK195 hb)
    replace BK196 := mk0 (u_ BK196 hb)
    replace BK204 := mk0 (u_ BK204 hb)
    replace HB := mk0 (bt_ (b_ HB) hb)
    have HO209 := n2_
    clear n2_ hb ho24
    obtain ⟨Ao25, co25, eo25⟩ := Kd.R_slice HO209.out
    (first | subst eo25 | (injection eo25 with f1_ f2_ f3_; have f4_ := f1_.symm; have f5_ := f3_.symm; clear f1_ f2_ f3_; subst f4_; subst f5_))
    refine hK.out _ _ ⟨(blk_cell BK204.out 0).trans rfl, (blk_cell BK204.out 1).trans rfl⟩ (fun hHeld => ?_)
    clear hK K
    refine norm_ (a' := ?_) ?_ ?_
    rotate_left
    ·show Act.put _ (some 35) _ = _
     simp only [z_]
     rfl
    refine one_ (i := 8) (N := some 36) (bt 13 511) rfl rfl (one_of HT_.out (by kernel_rfl)) (by decide) (fun K hK => ?_)
    refine goes_ Try.func71 (by kernel_rfl) rfl #[.slice Ao20 t200.length co20, .int .i64 t205, .slice Ao25 y207.length co25] (by rfl) rfl rfl (by (try simp only [List.map_toArray, List.map_cons, List.map_nil]); first | done | rfl | (simp only [List.length_drop, List.length_take]; rfl)) ?_
    with_reducible refine (slices_Insert_int_int.calls (fun k_ => some k_ = (.slice Ao20 t200.length co20 : Value).ownBlock) (.slice Ao20 t200.length co20) t200 t205 (fun k_ => some k_ = (.slice Ao25 y207.length co25 : Value).ownBlock) (.slice Ao25 y207.length co25) y207 t210 w _ ?side1 ?side2 ?side3 ?side4 ?side5 A6.out).mono ?_
    (case side1 => repeat (first | (with_reducible first | exact HB.out | apply bL_ | apply pN_ | apply b1_ | refine bs_ ?_ GE195.out | refine bs_ ?_ GE196.out | refine bs_ ?_ GE204.out) | exact HB.out))
    (case side2 => exact Kd.R_tight rfl HO202.out)
    (case side3 => exact fun k_ e_ => (HO202.out.1 k_ e_.symm).2)
    (case side4 => exact Kd.R_tight rfl HO209.out)
    (case side5 => exact fun k_ e_ => (HO209.out.1 k_ e_.symm).2)
    rintro e w26 ⟨v211, rfl, ho0, hb, hkp⟩
    refine ⟨_, rfl, ?_⟩
    replace BK195 := mk0 (blk_kept (h_ BK195) hkp (fun hs_ => Or.elim hs_ (fun e_ => (fun e_ => (Kd.R_ne HO202.out BK195.out (by decide)) e_) e_) (fun e_ => (fun e_ => (Kd.R_ne HO209.out BK195.out (by decide)) e_) e_)))
    replace BK196 := mk0 (blk_kept (h_ BK196) hkp (fun hs_ => Or.elim hs_ (fun e_ => (fun e_ => (Kd.R_ne HO202.out BK196.out (by decide)) e_) e_) (fun e_ => (fun e_ => (Kd.R_ne HO209.out BK196.out (by decide)) e_) e_)))
    replace HO199 := mk0 (Kd.R_mono (ok' := fun k_ => True) (Kd.R_keptB ((Kd.R_apart' (Kd.R_apart' HO199.out (Kd.R_typed HO202.out) (by decide)) (Kd.R_typed HO209.out) (by decide))) hkp (fun k_ hk_ hs_ => Or.elim hs_ (fun e_ => (hk_.1.2) e_) (fun e_ => (hk_.2) e_))) (fun k_ hk_ => trivial))
    replace BK204 := mk0 (blk_kept (h_ BK204) hkp (fun hs_ => Or.elim hs_ (fun e_ => (fun e_ => (Kd.R_ne HO202.out BK204.out (by decide)) e_) e_) (fun e_ => (fun e_ => (Kd.R_ne HO209.out BK204.out (by decide)) e_) e_)))
    have HO212 := mk0 (Kd.R_mono (ok' := fun k_ => True) ho0 (fun k_ hk_ => trivial))
    replace HB := mk0 (hb)
    clear HO202 HO209
    (try clear hb)
    (try clear hkp)
    (try clear ho0)
    have p9 : 0 ≤ (a1 : Int) := of_decide_eq_true (by first | (with_reducible assumption) | assumption)
    have q9 : (a1 : Int) < ((t197.length : Int) : Int) := of_decide_eq_true (by first | (with_reducible assumption) | assumption)
    obtain ⟨go9, co9, eo9, gb9, gl9, cl9, HG9⟩ := Kd.R_form HO199.out (by omega)
    (first | cases eo9 | (injection eo9 with ea_ en_ ec_; (first | subst ea_ | (injection ea_ with ea_; subst ea_)); subst ec_; clear en_))
    have GB9 := mk0 gb9
    have GG9 := mk0 HG9
    clear gb9 gl9 HG9
    obtain ⟨hx9_0, hf9_0⟩ := Kd.R_celln (⟨#[]⟩ : ByteArray) HO199.out (a1 : Int) p9 q9
    replace p9 := eq_true p9
    replace q9 := eq_true q9
    have HP27 := Kd.R_putn HO199.out (a1 : Int) (⟨#[]⟩ : ByteArray)
    rw [← Ny213.out] at HP27
    have HQ27 := mk0 HP27
    clear HP27
    obtain ⟨Ao28, co28, eo28⟩ := Kd.R_slice HO212.out
    (first | subst eo28 | (injection eo28 with f1_ f2_ f3_; have f4_ := f1_.symm; have f5_ := f3_.symm; clear f1_ f2_ f3_; subst f4_; subst f5_))
    refine hK.out _ _ ⟨(blk_cell BK204.out 0).trans rfl, (blk_cell BK204.out 1).trans rfl⟩ (fun hHeld => ?_)
    clear hK K
    refine norm_ (a' := ?_) ?_ ?_
    rotate_left
    ·show Act.put _ (some 36) _ = _
     simp only [z_]
     rfl
    refine pq_ HT_.out 9 37 (bt 13 1023) (h := ?_)
    refine last_ (i := 10) (N := none) (bt 13 2047) rfl rfl (one_of HT_.out (by kernel_rfl)) (by decide) (fun K hK => ?_)
    refine skip_ (w1 := ?_) (by rfl) rfl ?_ ?_
    rotate_left
    ·go_simp
     rfl
    refine hK.out _ _ ?_
    clear hK K
    refine pq_ HT_.out 11 38 (bt 13 4095) (h := ?_)
    refine last_ (i := 12) (N := none) (bt 13 8191) rfl rfl (one_of HT_.out (by kernel_rfl)) (by decide) (fun K hK => ?_)
    have hs29 : w26.cell? ⟨gb204, 1, none⟩ = some (.slice Ao20 t200.length co20) := (blk_cell BK204.out 1).trans rfl
    have hfs29 := blk_frozen BK204.out 1
    have hns29_0 := NB195_204.out
    have hns29_1 := NB196_204.out
    have hms29_0 := NB204_195.out
    have hms29_1 := NB204_196.out
    have hrs29_0 : go9 ≠ gb204 := (by have h_ := Kd.R_ne HO199.out BK204.out (by decide); intro e_; exact h_ (by rw [e_]; rfl))
    have hts29_0 : gb204 ≠ go9 := (by have h_ := Kd.R_ne HO199.out BK204.out (by decide); intro e_; exact h_ (by rw [e_]; rfl))
    refine skip_ (w1 := ?_) (by rfl) rfl ?_ ?_
    rotate_left
    ·go_simp
     rfl
    refine hK.out _ _ ?_
    clear hK K
    refine done_ (done_of HT_.out (by kernel_rfl)) ?_
    obtain ⟨hcz30_0, hcz30_1, hfz30_0, hfz30_1⟩ := c2_ BK204
    try go_wp2
    go_loopg [10] k (fun kq v10 w' => ∃ (x10_1 : Int) (x205000_1 : List ByteArray) (x205001_1 : List Int) (u205000 : Value) (u205001 : Value), v10 = .int .i64 x10_1 ∧ Fc (page_Cut.l0 kq x10_1 x205000_1 x205001_1 = some (r1, r2, r3)) ∧ Fc (kq ≤ k) ∧ Fc (Kd.R Kd.string 9 w' w.heap.size (fun _ => True) u205000 x205000_1) ∧ Fc (Kd.R (Kd.int .i64) 3 w' w.heap.size (fun _ => True) u205001 x205001_1) ∧ Fc (w'.heap[gb195]? = some (.cells #[(.slice A0_0 l0_0.length c0_0), (.slice A0_1 l0_1.length c0_1)] 56 (0, 0))) ∧ Fc (w'.heap[gb196]? = some (.cells #[(.slice none 0 0), (.slice none 0 0)] 56 (0, 0))) ∧ Fc (w'.heap[gb204]? = some (.cells #[u205000, u205001] 56 (0, 0))) ∧ Fc (Below w.heap.size w w'))
    case atStart => exact ⟨(wrap64 ((t210.length : Int) - 1)), (y213), (t210), (.slice (some ⟨go9, 0, none⟩) t197.length co16), (.slice Ao28 t210.length co28), (by first | rfl | (simp; done) | (simp [*]; done)), H', ⟨Nat.le_refl _⟩, ⟨by (with_reducible repeat (first | apply Ra_ | apply Rn_ | apply Rd_)); exact Kd.R_mono (Kd.R_far (p := ⟨gb204, 1, none⟩) (Kd.R_types (g := gb204) HQ27.out (blk_far (h_ BK204) (by have h_ := Kd.R_ne HO199.out BK204.out (by decide); intro e_; exact h_ (by rw [e_]; rfl)) _) (by decide)) (fun _ hk => hk.2) (.slice Ao28 t210.length co28)) (fun _ hk => trivial)⟩, ⟨by (with_reducible repeat (first | apply Ra_ | apply Rn_ | apply Rd_)); exact Kd.R_mono (Kd.R_far (p := ⟨gb204, 1, none⟩) (Kd.R_far (p := ⟨go9, (a1 : Int).toNat, none⟩) (Kd.R_types (Kd.R_types HO212.out GG9.out (by decide)) BK204.out (by decide)) (fun _ hk => hk.1.2) (.string (⟨#[]⟩ : ByteArray))) (fun _ hk => hk.2) (.slice Ao28 t210.length co28)) (fun _ hk => trivial)⟩, ⟨(fa_ (fa_ (h_ BK195) (by have h_ := Kd.R_ne HO199.out BK195.out (by decide); intro e_; exact h_ (by rw [e_]; rfl))) NB195_204.out)⟩, ⟨(fa_ (fa_ (h_ BK196) (by have h_ := Kd.R_ne HO199.out BK196.out (by decide); intro e_; exact h_ (by rw [e_]; rfl))) NB196_204.out)⟩, ⟨(pu_ (cs := #[.slice (some ⟨go9, 0, none⟩) t197.length co16, .slice Ao20 t200.length co20]) (fa_ (h_ BK204) (by have h_ := Kd.R_ne HO199.out BK204.out (by decide); intro e_; exact h_ (by rw [e_]; rfl))))⟩, ⟨by repeat (first | (with_reducible first | exact HB.out | apply bL_ | apply pN_ | apply b1_ | refine bs_ ?_ GB9.out | refine bs_ ?_ GE195.out | refine bs_ ?_ GE196.out | refine bs_ ?_ GE204.out) | exact HB.out)⟩⟩
    case round =>
     clear H'
     try clear c4
     try clear c4b0
     try clear c4b1
     try clear c7
     try clear c7b0
     try clear c8
     try clear c8b0
     try clear p9
     try clear q9
     try clear hcz13_0
     try clear hcz13_1
     try clear hcz19_0
     try clear hcz19_1
     try clear hcz30_0
     try clear hcz30_1
     try clear hfz13_0
     try clear hfz13_1
     try clear hfz19_0
     try clear hfz19_1
     try clear hfz30_0
     try clear hfz30_1
     try clear hx9_0
     try clear p9
     try clear q9
     obtain ⟨x10_1, x205000_1, x205001_1, u205000, u205001, rfl, HA, HK1, HO_205000, HO_205001, BK195, BK196, BK204, HB⟩ := hrel
     cases gk with
     | zero => exact absurd HA.out (by simp [page_Cut.l0])
     | succ k1 =>
      have H := HA.out
      clear HA
      simp only [page_Cut.l0] at H
      as_aux_lemma =>
       have HC31 := mk0 H
       clear H
       go_upto_region 7 with (fail)
       go_cut [56] (fun v56 wc => ∃ (kq : Nat) (x56_30 : Bool), v56 = .bool x56_30 ∧ Fc (page_Cut.j1 kq x10_1 x56_30 x205000_1 x205001_1 = some (r1, r2, r3)) ∧ Fc (kq ≤ k1) ∧ Fc (Kd.R Kd.string 9 wc w.heap.size (fun _ => True) u205000 x205000_1) ∧ Fc (Kd.R (Kd.int .i64) 3 wc w.heap.size (fun _ => True) u205001 x205001_1) ∧ Fc (wc.heap[gb195]? = some (.cells #[(.slice A0_0 l0_0.length c0_0), (.slice A0_1 l0_1.length c0_1)] 56 (0, 0))) ∧ Fc (wc.heap[gb196]? = some (.cells #[(.slice none 0 0), (.slice none 0 0)] 56 (0, 0))) ∧ Fc (wc.heap[gb204]? = some (.cells #[u205000, u205001] 56 (0, 0))) ∧ Fc (Below w.heap.size w wc))
       case first =>
        have H := HC31.out
        clear HC31
        by_cases c32 : x10_1 ≥ 0
        ·rw [if_pos c32] at H
         have c32b0 : decide (0 ≤ x10_1) = true := decide_eq_true c32
         clear c32
         (first | rw [c32b0] | (simp only [i64_w, i32_w]; rw [c32b0]) | skip)
         by_cases c33 : 0 ≤ x10_1
         ·rw [if_pos c33] at H
          have c33b0 : decide (0 ≤ x10_1) = true := decide_eq_true c33
          clear c33
          by_cases c34 : x10_1 < (x205001_1.length : Int)
          ·rw [if_pos c34] at H
           have c34b0 : decide (x10_1 < (x205001_1.length : Int)) = true := decide_eq_true c34
           clear c34
           have H' := mk0 H
           clear H
           try go_wp2
           obtain ⟨Ao36, co36, eo36⟩ := Kd.R_slice HO_205001.out
           (first | subst eo36 | (injection eo36 with f1_ f2_ f3_; have f4_ := f1_.symm; have f5_ := f3_.symm; clear f1_ f2_ f3_; subst f4_; subst f5_))
           have p214 : 0 ≤ (x10_1 : Int) := of_decide_eq_true (by first | (with_reducible assumption) | assumption)
           have q214 : x10_1 < (x205001_1.length : Int) := of_decide_eq_true (by first | (with_reducible assumption) | assumption)
           obtain ⟨ad214, e214, hx214_0⟩ := Kd.at_int (Kd.R_reads' HO_205001.out).2.2 x10_1 p214 q214
           cases e214
           replace p214 := eq_true p214
           replace q214 := eq_true q214
           obtain ⟨Ao37, co37, eo37⟩ := Kd.R_slice HO_205000.out
           (first | subst eo37 | (injection eo37 with f1_ f2_ f3_; have f4_ := f1_.symm; have f5_ := f3_.symm; clear f1_ f2_ f3_; subst f4_; subst f5_))
           have hs1_0 : wr.cell? ⟨gb204, 0, none⟩ = some (.slice Ao37 x205000_1.length co37) := (blk_cell BK204.out 0).trans rfl
           have hs1_1 : wr.cell? ⟨gb204, 1, none⟩ = some (.slice (some ad214) x205001_1.length co36) := (blk_cell BK204.out 1).trans rfl
           have hs1_2 : wr.cell? (ad214.add (x10_1).toNat) = some (.int .i64 (rd x205001_1 x10_1)) := hx214_0
           go_quiet (fail)
           clear hs1_0 hs1_1 hs1_2
           generalize hq_ : World.drewN wr _ = w35
           replace HO_205000 := mk0 (Kd.R_at hq_ HO_205000.out)
           replace HO_205001 := mk0 (Kd.R_at hq_ HO_205001.out)
           replace BK195 := mk0 (blk_at hq_ BK195.out)
           replace BK196 := mk0 (blk_at hq_ BK196.out)
           replace BK204 := mk0 (blk_at hq_ BK204.out)
           replace HB := mk0 (below_at hq_ HB.out)
           try replace hx214_0 := cell_at hq_ hx214_0
           clear hq_
           try go_wp2
           go_meet
           case rel => exact ⟨_, (((rd x205001_1 x10_1) == (wrap64 ((x205000_1.length : Int) - 1)))), (by first | rfl | (simp; done) | (simp [*]; done)), H', ⟨by have := HK1.out; first | omega | exact Nat.le_refl _⟩, ⟨by (with_reducible repeat (first | apply Ra_ | apply Rn_ | apply Rd_)); exact HO_205000.out⟩, ⟨by (with_reducible repeat (first | apply Ra_ | apply Rn_ | apply Rd_)); exact HO_205001.out⟩, ⟨h_ BK195⟩, ⟨h_ BK196⟩, ⟨h_ BK204⟩, ⟨b_ HB⟩⟩
          ·rw [if_neg c34] at H
           exact absurd H (by simp)
         ·rw [if_neg c33] at H
          exact absurd H (by simp)
        ·rw [if_neg c32] at H
         have c32b0 : decide (0 ≤ x10_1) = false := decide_eq_false c32
         clear c32
         (first | rw [c32b0] | (simp only [i64_w, i32_w]; rw [c32b0]) | skip)
         have H' := mk0 H
         clear H
         try go_wp2
         go_quiet (fail)
         generalize hq_ : World.drewN wr _ = w38
         replace HO_205000 := mk0 (Kd.R_at hq_ HO_205000.out)
         replace HO_205001 := mk0 (Kd.R_at hq_ HO_205001.out)
         replace BK195 := mk0 (blk_at hq_ BK195.out)
         replace BK196 := mk0 (blk_at hq_ BK196.out)
         replace BK204 := mk0 (blk_at hq_ BK204.out)
         replace HB := mk0 (below_at hq_ HB.out)
         clear hq_
         try go_wp2
         go_meet
         case rel => exact ⟨_, (false), (by first | rfl | (simp; done) | (simp [*]; done)), H', ⟨by have := HK1.out; first | omega | exact Nat.le_refl _⟩, ⟨by (with_reducible repeat (first | apply Ra_ | apply Rn_ | apply Rd_)); exact HO_205000.out⟩, ⟨by (with_reducible repeat (first | apply Ra_ | apply Rn_ | apply Rd_)); exact HO_205001.out⟩, ⟨h_ BK195⟩, ⟨h_ BK196⟩, ⟨h_ BK204⟩, ⟨b_ HB⟩⟩
       case rest =>
        clear HC31
        try clear c4
        try clear c4b0
        try clear c4b1
        try clear c7
        try clear c7b0
        try clear c8
        try clear c8b0
        try clear p9
        try clear q9
        try clear c32
        try clear c32b0
        try clear c33
        try clear c33b0
        try clear c34
        try clear c34b0
        try clear hcz13_0
        try clear hcz13_1
        try clear hcz19_0
        try clear hcz19_1
        try clear hcz30_0
        try clear hcz30_1
        try clear hfz13_0
        try clear hfz13_1
        try clear hfz19_0
        try clear hfz19_1
        try clear hfz30_0
        try clear hfz30_1
        try clear hx214_0
        try clear hx9_0
        try clear p214
        try clear p9
        try clear q214
        try clear q9
        obtain ⟨kq, x56_30, rfl, HA, HJ30, HO_205000, HO_205001, BK195, BK196, BK204, HB⟩ := hcut
        cases kq with
        | zero => exact absurd HA.out (by simp [page_Cut.j1])
        | succ kj30 =>
         have H := HA.out
         clear HA
         simp only [page_Cut.j1] at H
         as_aux_lemma =>
          by_cases c39 : x56_30 = true
          ·subst c39
           rw [if_pos rfl] at H
           by_cases c40 : 0 ≤ x10_1
           ·rw [if_pos c40] at H
            have c40b0 : decide (0 ≤ x10_1) = true := decide_eq_true c40
            clear c40
            by_cases c41 : x10_1 < (x205001_1.length : Int)
            ·rw [if_pos c41] at H
             have c41b0 : decide (x10_1 < (x205001_1.length : Int)) = true := decide_eq_true c41
             clear c41
             by_cases c42 : 0 ≤ (rd x205001_1 x10_1)
             ·rw [if_pos c42] at H
              have c42b0 := eq_true c42
              have c42b1 : decide (0 ≤ (rd x205001_1 x10_1)) = true := decide_eq_true c42
              clear c42
              by_cases c43 : (rd x205001_1 x10_1) ≤ (x205000_1.length : Int)
              ·rw [if_pos c43] at H
               have c43b0 := eq_true c43
               have c43b1 : decide ((rd x205001_1 x10_1) ≤ (x205000_1.length : Int)) = true := decide_eq_true c43
               clear c43
               obtain ⟨y216, hy216⟩ : ∃ y_ : List ByteArray, y_ = (x205000_1.take ((rd x205001_1 x10_1) : Int).toNat) := ⟨_, rfl⟩
               replace H : (if x10_1 ≤ (x205001_1.length : Int) then (page_Cut.l0 kj30 (wrap64 (x10_1 - 1)) y216 (x205001_1.take (x10_1 : Int).toNat)) else (none)) = some (r1, r2, r3) := by first | (rw [hy216]; with_reducible exact H) | (have H2_ := (Option.bind_some _ _).symm.trans H; rw [hy216]; with_reducible exact H2_) | (have H2_ := (Option.bind_some _ _).symm.trans H; with_reducible exact H2_) | with_reducible exact H | (rw [hy216]; exact H) | exact H
               have Ny216 := mk0 hy216
               clear hy216
               by_cases c44 : x10_1 ≤ (x205001_1.length : Int)
               ·rw [if_pos c44] at H
                have c44b0 := eq_true c44
                have c44b1 : decide (x10_1 ≤ (x205001_1.length : Int)) = true := decide_eq_true c44
                clear c44
                obtain ⟨y219, hy219⟩ : ∃ y_ : List Int, y_ = (x205001_1.take (x10_1 : Int).toNat) := ⟨_, rfl⟩
                replace H : (page_Cut.l0 kj30 (wrap64 (x10_1 - 1)) y216 y219) = some (r1, r2, r3) := by first | (rw [hy219]; with_reducible exact H) | (have H2_ := (Option.bind_some _ _).symm.trans H; rw [hy219]; with_reducible exact H2_) | (have H2_ := (Option.bind_some _ _).symm.trans H; with_reducible exact H2_) | with_reducible exact H | (rw [hy219]; exact H) | exact H
                have Ny219 := mk0 hy219
                clear hy219
                have H' := mk0 H
                clear H
                try go_wp2
                replace HO_205000 := mk0 (Rd_ HO_205000.out)
                replace HO_205001 := mk0 (Rd_ HO_205001.out)
                replace BK195 := mk0 (bD_ BK195.out)
                replace BK196 := mk0 (bD_ BK196.out)
                replace BK204 := mk0 (bD_ BK204.out)
                replace HB := mk0 (b1_ HB.out)
                obtain ⟨Ao46, co46, eo46⟩ := Kd.R_slice HO_205001.out
                (first | subst eo46 | (injection eo46 with f1_ f2_ f3_; have f4_ := f1_.symm; have f5_ := f3_.symm; clear f1_ f2_ f3_; subst f4_; subst f5_))
                have p215 : 0 ≤ (x10_1 : Int) := of_decide_eq_true (by first | (with_reducible assumption) | assumption)
                have q215 : x10_1 < (x205001_1.length : Int) := of_decide_eq_true (by first | (with_reducible assumption) | assumption)
                obtain ⟨ad215, e215, hx215_0⟩ := Kd.at_int (Kd.R_reads' HO_205001.out).2.2 x10_1 p215 q215
                cases e215
                replace p215 := eq_true p215
                replace q215 := eq_true q215
                obtain ⟨Ao47, co47, eo47⟩ := Kd.R_slice HO_205000.out
                (first | subst eo47 | (injection eo47 with f1_ f2_ f3_; have f4_ := f1_.symm; have f5_ := f3_.symm; clear f1_ f2_ f3_; subst f4_; subst f5_))
                have q48 : ((rd x205001_1 x10_1) : Int) ≤ ((x205000_1.length : Int) : Int) := of_decide_eq_true (by first | (with_reducible assumption) | assumption)
                obtain ⟨i048, hi048, _, hsz48, _⟩ := info_parts info9
                have hcut48 := cut_to (P := Try.prog) 25 9 .i64 Try.underlying25 hi048 Ao47 x205000_1.length co47 (rd x205001_1 x10_1) (of_decide_eq_true (by first | (with_reducible assumption) | assumption)) q48 (Kd.R_reads' HO_205000.out).2.1
                have hr48 := Kd.R_take (m := ((rd x205001_1 x10_1) : Int).toNat) HO_205000.out (by omega)
                have hy48 : y216.length = ((rd x205001_1 x10_1) : Int).toNat := (by rw [Ny216.out, List.length_take]; omega)
                rw [← Ny216.out] at hr48
                rw [← hy48] at hr48 hcut48
                clear hy48 hi048 hsz48 HO_205000
                have HO218 := mk0 hr48
                clear hr48
                replace q48 := eq_true q48
                have q49 : (x10_1 : Int) ≤ ((x205001_1.length : Int) : Int) := of_decide_eq_true (by first | (with_reducible assumption) | assumption)
                obtain ⟨i049, hi049, _, hsz49, _⟩ := info_parts info3
                have hcut49 := cut_to (P := Try.prog) 24 3 .i64 Try.underlying24 hi049 (some ad215) x205001_1.length co46 x10_1 (of_decide_eq_true (by first | (with_reducible assumption) | assumption)) q49 (Kd.R_reads' HO_205001.out).2.1
                have hr49 := Kd.R_take (m := (x10_1 : Int).toNat) HO_205001.out (by omega)
                have hy49 : y219.length = (x10_1 : Int).toNat := (by rw [Ny219.out, List.length_take]; omega)
                rw [← Ny219.out] at hr49
                rw [← hy49] at hr49 hcut49
                clear hy49 hi049 hsz49 HO_205001
                have HO221 := mk0 hr49
                clear hr49
                replace q49 := eq_true q49
                refine start_ (n := 16) (S := fun w' => w'.cell? ⟨gb204, 0, none⟩ = some (.slice Ao47 x205000_1.length co47) ∧ w'.cell? ⟨gb204, 1, none⟩ = some (.slice (some ad215) x205001_1.length co46) ∧ w'.cell? (ad215.add (x10_1).toNat) = some (.int .i64 (rd x205001_1 x10_1))) (ds := [13, 15]) (bt 16 0) (by kernel_rfl) rfl rfl ⟨(blk_cell BK204.out 0).trans rfl, (blk_cell BK204.out 1).trans rfl, hx215_0⟩ (fun hHeld => ?_); refine with_tabW page_Cut.tab9 page_Cut.bits9 (fun HT_ HW_ => ?_)
                generalize wc.drew = w45 at BK195 BK196 BK204 HB HO218 HO221 hx215_0 hHeld ⊢
                refine pq_ HT_.out 0 59 (bt 16 1) (h := ?_)
                refine pq_ HT_.out 2 61 (bt 16 5) (h := ?_)
                refine pq_ HT_.out 4 63 (bt 16 21) (h := ?_)
                refine pq_ HT_.out 8 67 (bt 16 277) (h := ?_)
                refine pq_ HT_.out 10 69 (bt 16 1301) (h := ?_)
                refine tq3_ HT_.out HW_.out 1 60 (bt 16 1303) hHeld (h := ?_)
                refine tq3_ HT_.out HW_.out 3 62 (bt 16 1311) hHeld (h := ?_)
                refine pq_ HT_.out 5 64 (bt 16 1343) (h := ?_)
                refine tq3_ HT_.out HW_.out 6 65 (bt 16 1407) hHeld (h := ?_)
                refine pq_ HT_.out 7 66 (bt 16 1535) (h := ?_)
                refine tq3_ HT_.out HW_.out 9 68 (bt 16 2047) hHeld (h := ?_)
                refine pq_ HT_.out 11 70 (bt 16 4095) (h := ?_)
                refine pq_ HT_.out 12 71 (bt 16 8191) (h := ?_)
                refine last_ (i := 13) (N := none) (bt 16 16383) rfl rfl (one_of HT_.out (by kernel_rfl)) (by decide) (fun K hK => ?_)
                have hs50 : w45.cell? ⟨gb204, 0, none⟩ = some (.slice Ao47 x205000_1.length co47) := (blk_cell BK204.out 0).trans rfl
                have hfs50 := blk_frozen BK204.out 0
                have hns50_0 := NB195_204.out
                have hns50_1 := NB196_204.out
                have hms50_0 := NB204_195.out
                have hms50_1 := NB204_196.out
                refine skip_ (w1 := ?_) (by rfl) rfl ?_ ?_
                rotate_left
                ·go_simp
                 rfl
                refine hK.out _ _ ?_
                clear hK K
                refine pq_ HT_.out 14 72 (bt 16 32767) (h := ?_)
                refine last_ (i := 15) (N := none) (bt 16 65535) rfl rfl (one_of HT_.out (by kernel_rfl)) (by decide) (fun K hK => ?_)
                have hs51 : w45.cell? ⟨gb204, 1, none⟩ = some (.slice (some ad215) x205001_1.length co46) := (blk_cell BK204.out 1).trans rfl
                have hfs51 := blk_frozen BK204.out 1
                have hns51_0 := NB195_204.out
                have hns51_1 := NB196_204.out
                have hms51_0 := NB204_195.out
                have hms51_1 := NB204_196.out
                refine skip_ (w1 := ?_) (by rfl) rfl ?_ ?_
                rotate_left
                ·go_simp
                 rfl
                refine hK.out _ _ ?_
                clear hK K
                refine done_ (done_of HT_.out (by kernel_rfl)) ?_
                try go_wp2
                go_roundg kj30
                case measure => have := HK1.out; have := HJ30.out; omega
                case rel => exact ⟨(wrap64 (x10_1 - 1)), (y216), (y219), (.slice Ao47 y216.length co47), (.slice (some ad215) y219.length co46), (by first | rfl | (simp; done) | (simp [*]; done)), H', ⟨by have := HK1.out; have := HJ30.out; omega⟩, ⟨by (with_reducible repeat (first | apply Ra_ | apply Rn_ | apply Rd_)); exact Kd.R_mono (Kd.R_far (p := ⟨gb204, 1, none⟩) (Kd.R_far (p := ⟨gb204, 0, none⟩) (Kd.R_types HO218.out BK204.out (by decide)) (fun _ hk => hk.2) (.slice Ao47 y216.length co47)) (fun _ hk => hk.2) (.slice (some ad215) y219.length co46)) (fun _ hk => trivial)⟩, ⟨by (with_reducible repeat (first | apply Ra_ | apply Rn_ | apply Rd_)); exact Kd.R_mono (Kd.R_far (p := ⟨gb204, 1, none⟩) (Kd.R_far (p := ⟨gb204, 0, none⟩) (Kd.R_types HO221.out BK204.out (by decide)) (fun _ hk => hk.2) (.slice Ao47 y216.length co47)) (fun _ hk => hk.2) (.slice (some ad215) y219.length co46)) (fun _ hk => trivial)⟩, ⟨(fa_ (fa_ (h_ BK195) NB195_204.out) NB195_204.out)⟩, ⟨(fa_ (fa_ (h_ BK196) NB196_204.out) NB196_204.out)⟩, ⟨(pu_ (cs := #[.slice Ao47 y216.length co47, .slice (some ad215) x205001_1.length co46]) (pu_ (cs := #[.slice Ao47 x205000_1.length co47, .slice (some ad215) x205001_1.length co46]) (h_ BK204)))⟩, ⟨b_ HB⟩⟩
               ·rw [if_neg c44] at H
                exact absurd H (by simp)
              ·rw [if_neg c43] at H
               exact absurd H (by simp)
             ·rw [if_neg c42] at H
              exact absurd H (by simp)
            ·rw [if_neg c41] at H
             exact absurd H (by simp)
           ·rw [if_neg c40] at H
            exact absurd H (by simp)
          ·replace c39 := Bool.eq_false_iff.mpr c39
           subst c39
           rw [if_neg (show ¬ (false = true) by decide)] at H
           simp only [Option.some.injEq, Prod.mk.injEq] at H
           obtain ⟨rfl, rfl, rfl⟩ := H
           have hnb52 := NB204_195.out
           have hnc52 := NB195_204.out
           have hnb53 := NB204_196.out
           have hnc53 := NB196_204.out
           obtain ⟨hcz54_0, hcz54_1, hfz54_0, hfz54_1⟩ := c2_ BK204
           obtain ⟨Ao55, co55, eo55⟩ := Kd.R_slice HO_205000.out
           subst eo55
           have hnb56 := NB196_195.out
           have hnc56 := NB195_196.out
           obtain ⟨hcz57_0, hcz57_1, hfz57_0, hfz57_1⟩ := c2_ BK196
           obtain ⟨Ao58, co58, eo58⟩ := Kd.R_slice HO_205001.out
           subst eo58
           go_wp2
           refine bodyPost_ret (results_ct rfl _ _ gb196 56 #[.slice Ao55 x205000_1.length co55, .slice Ao58 x205001_1.length co58] (0, 0) _ rfl (pu_ (cs := #[.slice Ao55 x205000_1.length co55, .slice none 0 0]) (pu_ (cs := #[.slice none 0 0, .slice none 0 0]) (h_ BK196))) Try.underlying56 rfl (by kernel_rfl)) rfl ?_
           exact ⟨_, _, by first | rfl | (simp [errW_none, errW_some] <;> rfl) | (simp [*, errW_none, errW_some] <;> rfl), by (with_reducible repeat (first | apply Ra_ | apply Rn_ | apply Rd_)); exact Kd.R_mono (Kd.R_far (p := ⟨gb196, 1, none⟩) (Kd.R_far (p := ⟨gb196, 0, none⟩) (Kd.R_types HO_205000.out BK196.out (by decide)) (fun _ hk => hk.2) (.slice Ao55 x205000_1.length co55)) (fun _ hk => hk.2) (.slice Ao58 x205001_1.length co58)) (fun _ hk => trivial), by (with_reducible repeat (first | apply Ra_ | apply Rn_ | apply Rd_)); exact Kd.R_mono (Kd.R_far (p := ⟨gb196, 1, none⟩) (Kd.R_far (p := ⟨gb196, 0, none⟩) (Kd.R_types HO_205001.out BK196.out (by decide)) (fun _ hk => hk.2) (.slice Ao55 x205000_1.length co55)) (fun _ hk => hk.2) (.slice Ao58 x205001_1.length co58)) (fun _ hk => trivial), b_ HB⟩
   ·rw [if_neg c8] at H
    exact absurd H (by simp)
  ·rw [if_neg c7] at H
   exact absurd H (by simp)
 ·rw [if_neg c4] at H
  have c4b0 : (t203 == 0) = false := beq_eq_false_iff_ne.mpr c4
  have c4b1 : (t203 != 0) = true := bne_iff_ne.mpr c4
  simp only [Option.some.injEq, Prod.mk.injEq] at H
  obtain ⟨rfl, rfl, rfl⟩ := H
  go_enter Try.func34, Try.ntmps34
  go_wp2_with (first | ((with_reducible refine gate_dst (N := 2) rfl ?_); (try (refine gate_guard (by rfl) ?_; dsimp only)); refine bx_ (N := 2) (cs := #[.slice A0_0 l0_0.length c0_0, .slice A0_1 l0_1.length c0_1]) (t := 56) (h := ?_); intro gb195 hg w59 hbox hb; have n2_ := mk0 (gz_ HB hg); have n3_ := mk0 (gz_ HB hg); replace HB := mk0 (bt_ (b_ HB) hb); have BK195 := mk0 (hbox); have GW195 := n2_; have GE195 := n3_; clear n2_ n3_; clear hb hbox hg) | ((with_reducible refine gate_dst (N := 4) rfl ?_); (try (refine gate_guard (by rfl) ?_; dsimp only)); refine bx_ (N := 4) (cs := #[.slice none 0 0, .slice none 0 0]) (t := 56) (h := ?_); intro gb196 hg w60 hbox hb; have n3_ := mk0 (gz_ HB hg); have n4_ := mk0 (gz_ HB hg); have n5_ := mk0 (ne1_ BK195 hg); have n6_ := mk0 (ne2_ BK195 hg); replace BK195 := mk0 (u_ BK195 hb); replace HB := mk0 (bt_ (b_ HB) hb); have BK196 := mk0 (hbox); have GW196 := n3_; have GE196 := n4_; have NB195_196 := n5_; have NB196_195 := n6_; clear n3_ n4_ n5_ n6_ hb hbox hg; have hnb61 := NB195_196.out; have hnc61 := NB196_195.out; obtain ⟨hcz62_0, hcz62_1, hfz62_0, hfz62_1⟩ := c2_ BK195) | ((with_reducible refine gate_callee (f := 69) rfl ?_); refine gL_ (some 14) Try.func69 #[.agg #[.slice A0_0 l0_0.length c0_0, .slice A0_1 l0_1.length c0_1], .int .i64 a1] (h := ?_); (with_reducible refine (page_asked.calls k _ _ l0_0 _ _ l0_1 a1 t197 t200 t203 _ ?side1 ?side2 ?side3 ?side4 A3.out).mono ?_); (case side1 => exact cb_ HR0_0 HB); (case side2 => exact HC0_0.out); (case side3 => exact cb_ HR0_1 HB); (case side4 => exact HC0_1.out); rintro e w63 ⟨v198, v201, rfl, ho0, ho1, hb⟩; refine ⟨_, rfl, ?_⟩; have n0_ := mk0 (Kd.R_lower ho0 (bz_ (b_ HB))); have n1_ := mk0 (Kd.R_lower ho1 (bz_ (b_ HB))); replace BK195 := mk0 (u_ BK195 hb); replace BK196 := mk0 (u_ BK196 hb); replace HB := mk0 (bt_ (b_ HB) hb); have HO199 := n0_; have HO202 := n1_; clear n0_ n1_; (try clear hb); (try clear ho0); (try clear ho1)) | ((with_reducible refine gate_dst (N := 6) rfl ?_); (try (refine gate_guard (by rfl) ?_; dsimp only)); refine bx_ (N := 6) (cs := #[.slice none 0 0, .slice none 0 0]) (t := 56) (h := ?_); intro gb204 hg w64 hbox hb; have n6_ := mk0 (gz_ HB hg); have n7_ := mk0 (gz_ HB hg); have n8_ := mk0 (ne1_ BK195 hg); have n9_ := mk0 (ne2_ BK195 hg); have n10_ := mk0 (ne1_ BK196 hg); have n11_ := mk0 (ne2_ BK196 hg); replace HO199 := mk0 (Kd.R_below (r_ HO199) hb); replace HO202 := mk0 (Kd.R_below (r_ HO202) hb); replace BK195 := mk0 (u_ BK195 hb); replace BK196 := mk0 (u_ BK196 hb); replace HB := mk0 (bt_ (b_ HB) hb); have BK204 := mk0 (hbox); have GW204 := n6_; have GE204 := n7_; have NB195_204 := n8_; have NB204_195 := n9_; have NB196_204 := n10_; have NB204_196 := n11_; clear n6_ n7_ n8_ n9_ n10_ n11_ hb hbox hg; obtain ⟨Ao65, co65, eo65⟩ := Kd.R_slice HO199.out; subst eo65; have hnb66 := NB204_195.out; have hnc66 := NB195_204.out; have hnb67 := NB204_196.out; have hnc67 := NB196_204.out; obtain ⟨hcz68_0, hcz68_1, hfz68_0, hfz68_1⟩ := c2_ BK204; obtain ⟨Ao69, co69, eo69⟩ := Kd.R_slice HO202.out; subst eo69; obtain ⟨hcz70_0, hcz70_1, hfz70_0, hfz70_1⟩ := c2_ BK196))
  refine bodyPost_ret (results_ct rfl _ _ gb196 56 #[.slice Ao65 t197.length co65, .slice Ao69 t200.length co69] (0, 0) _ rfl (pu_ (cs := #[.slice Ao65 t197.length co65, .slice none 0 0]) (pu_ (cs := #[.slice none 0 0, .slice none 0 0]) (fa_ (fa_ (h_ BK196) NB196_204.out) NB196_204.out))) Try.underlying56 rfl (by kernel_rfl)) rfl ?_
  exact ⟨_, _, by first | rfl | (simp [errW_none, errW_some] <;> rfl) | (simp [*, errW_none, errW_some] <;> rfl), by (with_reducible repeat (first | apply Ra_ | apply Rn_ | apply Rd_)); exact Kd.R_mono (Kd.R_far (p := ⟨gb196, 1, none⟩) (Kd.R_far (p := ⟨gb196, 0, none⟩) (Kd.R_far (p := ⟨gb204, 1, none⟩) (Kd.R_far (p := ⟨gb204, 0, none⟩) (Kd.R_types (Kd.R_types HO199.out BK204.out (by decide)) BK196.out (by decide)) (fun _ hk => hk.1.2) (.slice Ao65 t197.length co65)) (fun _ hk => hk.1.2) (.slice Ao69 t200.length co69)) (fun _ hk => hk.2) (.slice Ao65 t197.length co65)) (fun _ hk => hk.2) (.slice Ao69 t200.length co69)) (fun _ hk => trivial), by (with_reducible repeat (first | apply Ra_ | apply Rn_ | apply Rd_)); exact Kd.R_mono (Kd.R_far (p := ⟨gb196, 1, none⟩) (Kd.R_far (p := ⟨gb196, 0, none⟩) (Kd.R_far (p := ⟨gb204, 1, none⟩) (Kd.R_far (p := ⟨gb204, 0, none⟩) (Kd.R_types (Kd.R_types HO202.out BK204.out (by decide)) BK196.out (by decide)) (fun _ hk => hk.1.2) (.slice Ao65 t197.length co65)) (fun _ hk => hk.1.2) (.slice Ao69 t200.length co69)) (fun _ hk => hk.2) (.slice Ao65 t197.length co65)) (fun _ hk => hk.2) (.slice Ao69 t200.length co69)) (fun _ hk => trivial), b_ HB⟩

/-! ### quorumref0_EqStrings: function 75 -/
def quorumref0_EqStrings.l0 : Nat → List ByteArray → List ByteArray → Int → Option (Bool)
 | 0, _, _, _ => none
 | k + 1, x0, x1, x5 => if x5 < (x0.length : Int) then (if 0 ≤ x5 then (if x5 < (x1.length : Int) then (if (rdOf ByteArray.empty x0 x5).toList = (rdOf ByteArray.empty x1 x5).toList then (quorumref0_EqStrings.l0 k x0 x1 (wrap64 (x5 + 1))) else (some false)) else (none)) else (none)) else (some true)
def quorumref0_EqStrings.f (k : Nat) (l0 : List ByteArray) (l1 : List ByteArray) : Option (Bool) := if (l0.length : Int) = (l1.length : Int) then (quorumref0_EqStrings.l0 k l0 l1 0) else (some false)
theorem quorumref0_EqStrings.mono_l : ∀ k, (∀ y0 y1 y2, LeO (quorumref0_EqStrings.l0 k y0 y1 y2) (quorumref0_EqStrings.l0 (k + 1) y0 y1 y2))
 | 0 => fun _ _ _ r h => by simp [quorumref0_EqStrings.l0] at h
 | k + 1 => by
  have ih0 := quorumref0_EqStrings.mono_l k
  ·intro y0 y1 y2
   unfold quorumref0_EqStrings.l0
   repeat' first
   | (with_reducible exact ih0 _ _ _)
   | (with_reducible exact LeO.refl _)
   | (with_reducible exact LeO.none _)
   | (with_reducible refine LeO.ite ?_ ?_)
   | (with_reducible refine LeO.bind ?_ (fun _ => ?_))
   | exact ih0 _ _ _
   | exact LeO.none _
   | refine LeO.ite ?_ ?_
   | refine LeO.bind ?_ (fun _ => ?_)
theorem quorumref0_EqStrings.mono : ∀ a0 a1 k, LeO (quorumref0_EqStrings.f k a0 a1) (quorumref0_EqStrings.f (k + 1) a0 a1) := by
 intro a0 a1 k
 have ih0 := quorumref0_EqStrings.mono_l k
 unfold quorumref0_EqStrings.f
 repeat' first
   | (with_reducible exact ih0 _ _ _)
   | (with_reducible exact LeO.refl _)
   | (with_reducible exact LeO.none _)
   | (with_reducible refine LeO.ite ?_ ?_)
   | (with_reducible refine LeO.bind ?_ (fun _ => ?_))
   | exact ih0 _ _ _
   | exact LeO.none _
   | refine LeO.ite ?_ ?_
   | refine LeO.bind ?_ (fun _ => ?_)
set_option maxHeartbeats 8000000 in
set_option maxRecDepth 100000 in
theorem quorumref0_EqStrings.calls (k : Nat) (A0 : Option Addr) (c0 : Nat) (l0 : List ByteArray) (A1 : Option Addr) (c1 : Nat) (l1 : List ByteArray) (r : Bool) (w : World) (hr0 : Kd.C Kd.string w A0 l0.length l0) (hc0 : l0.length ≤ c0) (hr1 : Kd.C Kd.string w A1 l1.length l1) (hc1 : l1.length ≤ c1) (h : quorumref0_EqStrings.f k l0 l1 = some r) :
  Calls Try.prog 75 #[.slice A0 l0.length c0, .slice A1 l1.length c1] w fun e w' => e = .returned (.bool r) ∧ Drawn0 w w' := by
 have HR0 := mk0 hr0
 have HC0 := mk0 hc0
 clear hr0 hc0
 have HR1 := mk0 hr1
 have HC1 := mk0 hc1
 clear hr1 hc1
 have H : (if (l0.length : Int) = (l1.length : Int) then (quorumref0_EqStrings.l0 k l0 l1 0) else (some false)) = some r := h
 clear h
 by_cases c3 : (l0.length : Int) = (l1.length : Int)
 ·rw [if_pos c3] at H
  have c3b0 : ((l0.length : Int) == (l1.length : Int)) = true := beq_iff_eq.mpr c3
  have c3b1 : ((l0.length : Int) != (l1.length : Int)) = false := bne_eq_false_iff_eq.mpr c3
  have c3b2 : (l0.length == l1.length) = true := by first | simpa using c3 | (simp at c3 ⊢; omega)
  clear c3
  have H' := mk0 H
  clear H
  go_enter Try.func75, Try.ntmps75
  go_wp2
  repeat (go_quiet (fail); try go_wp2)
  go_loopg [5] k (fun kq v5 w' => ∃ (x5_1 : Int), v5 = .int .i64 x5_1 ∧ Fc (quorumref0_EqStrings.l0 kq l0 l1 x5_1 = some r) ∧ Fc (kq ≤ k) ∧ Drawn0 w w')
  case atStart => exact ⟨(0), (by first | rfl | (simp; done) | (simp [*]; done)), H', ⟨Nat.le_refl _⟩, by repeat (first | exact Drawn0.refl _ | apply Drawn0.step)⟩
  case round =>
   clear H'
   try clear c1
   try clear c3
   try clear c3b0
   try clear c3b1
   try clear c3b2
   obtain ⟨x5_1, rfl, HA, HK1, ⟨m1, rfl⟩⟩ := hrel
   cases gk with
   | zero => exact absurd HA.out (by simp [quorumref0_EqStrings.l0])
   | succ k1 =>
    have H := HA.out
    clear HA
    simp only [quorumref0_EqStrings.l0] at H
    as_aux_lemma =>
     by_cases c4 : x5_1 < (l0.length : Int)
     ·rw [if_pos c4] at H
      have c4b0 : decide (x5_1 < (l0.length : Int)) = true := decide_eq_true c4
      clear c4
      by_cases c5 : 0 ≤ x5_1
      ·rw [if_pos c5] at H
       have c5b0 : decide (0 ≤ x5_1) = true := decide_eq_true c5
       clear c5
       by_cases c6 : x5_1 < (l1.length : Int)
       ·rw [if_pos c6] at H
        have c6b0 : decide (x5_1 < (l1.length : Int)) = true := decide_eq_true c6
        clear c6
        by_cases c7 : (rdOf ByteArray.empty l0 x5_1).toList = (rdOf ByteArray.empty l1 x5_1).toList
        ·rw [if_pos c7] at H
         have c7b0 : ((rdOf ByteArray.empty l0 x5_1).toList == (rdOf ByteArray.empty l1 x5_1).toList) = true := beq_iff_eq.mpr c7
         have c7b1 : ((rdOf ByteArray.empty l0 x5_1).toList != (rdOf ByteArray.empty l1 x5_1).toList) = false := bne_eq_false_iff_eq.mpr c7
         clear c7
         have H' := mk0 H
         clear H
         have p222 : 0 ≤ (x5_1 : Int) := of_decide_eq_true (by first | (with_reducible assumption) | assumption)
         have q222 : x5_1 < (l0.length : Int) := of_decide_eq_true (by first | (with_reducible assumption) | assumption)
         obtain ⟨ad222, e222, hx222_0⟩ := Kd.at_string HR0.out x5_1 p222 q222
         cases e222
         replace p222 := eq_true p222
         replace q222 := eq_true q222
         have p223 : 0 ≤ (x5_1 : Int) := of_decide_eq_true (by first | (with_reducible assumption) | assumption)
         have q223 : x5_1 < (l1.length : Int) := of_decide_eq_true (by first | (with_reducible assumption) | assumption)
         obtain ⟨ad223, e223, hx223_0⟩ := Kd.at_string HR1.out x5_1 p223 q223
         cases e223
         replace p223 := eq_true p223
         replace q223 := eq_true q223
         go_wp2
         repeat (go_quiet (fail); try go_wp2)
         go_roundg k1
         case measure => have := HK1.out; omega
         case rel => exact ⟨(wrap64 (x5_1 + 1)), (by first | rfl | (simp; done) | (simp [*]; done)), H', ⟨by have := HK1.out; omega⟩, by repeat (first | exact Drawn0.refl _ | apply Drawn0.step)⟩
        ·rw [if_neg c7] at H
         have c7b0 : ((rdOf ByteArray.empty l0 x5_1).toList == (rdOf ByteArray.empty l1 x5_1).toList) = false := beq_eq_false_iff_ne.mpr c7
         have c7b1 : ((rdOf ByteArray.empty l0 x5_1).toList != (rdOf ByteArray.empty l1 x5_1).toList) = true := bne_iff_ne.mpr c7
         obtain rfl := Option.some.inj H
         have p222 : 0 ≤ (x5_1 : Int) := of_decide_eq_true (by first | (with_reducible assumption) | assumption)
         have q222 : x5_1 < (l0.length : Int) := of_decide_eq_true (by first | (with_reducible assumption) | assumption)
         obtain ⟨ad222, e222, hx222_0⟩ := Kd.at_string HR0.out x5_1 p222 q222
         cases e222
         replace p222 := eq_true p222
         replace q222 := eq_true q222
         have p223 : 0 ≤ (x5_1 : Int) := of_decide_eq_true (by first | (with_reducible assumption) | assumption)
         have q223 : x5_1 < (l1.length : Int) := of_decide_eq_true (by first | (with_reducible assumption) | assumption)
         obtain ⟨ad223, e223, hx223_0⟩ := Kd.at_string HR1.out x5_1 p223 q223
         cases e223
         replace p223 := eq_true p223
         replace q223 := eq_true q223
         go_wp2
         repeat (go_quiet (fail); try go_wp2)
         go_ret
         exact ⟨by first | rfl | (simp; done) | (simp [*]; done), by repeat (first | exact Drawn0.refl _ | apply Drawn0.step)⟩
       ·rw [if_neg c6] at H
        exact absurd H (by simp)
      ·rw [if_neg c5] at H
       exact absurd H (by simp)
     ·rw [if_neg c4] at H
      have c4b0 : decide (x5_1 < (l0.length : Int)) = false := decide_eq_false c4
      clear c4
      obtain rfl := Option.some.inj H
      go_wp2
      repeat (go_quiet (fail); try go_wp2)
      go_ret
      exact ⟨by first | rfl | (simp; done) | (simp [*]; done), by repeat (first | exact Drawn0.refl _ | apply Drawn0.step)⟩
 ·rw [if_neg c3] at H
  have c3b0 : ((l0.length : Int) == (l1.length : Int)) = false := beq_eq_false_iff_ne.mpr c3
  have c3b1 : ((l0.length : Int) != (l1.length : Int)) = true := bne_iff_ne.mpr c3
  have c3b2 : (l0.length == l1.length) = false := by first | simpa using c3 | (simp at c3 ⊢; omega)
  obtain rfl := Option.some.inj H
  go_enter Try.func75, Try.ntmps75
  go_wp2
  repeat (go_quiet (fail); try go_wp2)
  go_ret
  exact ⟨by first | rfl | (simp; done) | (simp [*]; done), by repeat (first | exact Drawn0.refl _ | apply Drawn0.step)⟩

/-! ### quorumref0_EqNumbers: function 76 -/
def quorumref0_EqNumbers.l0 : Nat → List Int → List Int → Int → Option (Bool)
 | 0, _, _, _ => none
 | k + 1, x0, x1, x5 => if x5 < (x0.length : Int) then (if 0 ≤ x5 then (if x5 < (x1.length : Int) then (if (rd x0 x5) = (rd x1 x5) then (quorumref0_EqNumbers.l0 k x0 x1 (wrap64 (x5 + 1))) else (some false)) else (none)) else (none)) else (some true)
def quorumref0_EqNumbers.f (k : Nat) (l0 : List Int) (l1 : List Int) : Option (Bool) := if (l0.length : Int) = (l1.length : Int) then (quorumref0_EqNumbers.l0 k l0 l1 0) else (some false)
theorem quorumref0_EqNumbers.mono_l : ∀ k, (∀ y0 y1 y2, LeO (quorumref0_EqNumbers.l0 k y0 y1 y2) (quorumref0_EqNumbers.l0 (k + 1) y0 y1 y2))
 | 0 => fun _ _ _ r h => by simp [quorumref0_EqNumbers.l0] at h
 | k + 1 => by
  have ih0 := quorumref0_EqNumbers.mono_l k
  ·intro y0 y1 y2
   unfold quorumref0_EqNumbers.l0
   repeat' first
   | (with_reducible exact ih0 _ _ _)
   | (with_reducible exact LeO.refl _)
   | (with_reducible exact LeO.none _)
   | (with_reducible refine LeO.ite ?_ ?_)
   | (with_reducible refine LeO.bind ?_ (fun _ => ?_))
   | exact ih0 _ _ _
   | exact LeO.none _
   | refine LeO.ite ?_ ?_
   | refine LeO.bind ?_ (fun _ => ?_)
theorem quorumref0_EqNumbers.mono : ∀ a0 a1 k, LeO (quorumref0_EqNumbers.f k a0 a1) (quorumref0_EqNumbers.f (k + 1) a0 a1) := by
 intro a0 a1 k
 have ih0 := quorumref0_EqNumbers.mono_l k
 unfold quorumref0_EqNumbers.f
 repeat' first
   | (with_reducible exact ih0 _ _ _)
   | (with_reducible exact LeO.refl _)
   | (with_reducible exact LeO.none _)
   | (with_reducible refine LeO.ite ?_ ?_)
   | (with_reducible refine LeO.bind ?_ (fun _ => ?_))
   | exact ih0 _ _ _
   | exact LeO.none _
   | refine LeO.ite ?_ ?_
   | refine LeO.bind ?_ (fun _ => ?_)
set_option maxHeartbeats 8000000 in
set_option maxRecDepth 100000 in
theorem quorumref0_EqNumbers.calls (k : Nat) (A0 : Option Addr) (c0 : Nat) (l0 : List Int) (A1 : Option Addr) (c1 : Nat) (l1 : List Int) (r : Bool) (w : World) (hr0 : Kd.C (Kd.int .i64) w A0 l0.length l0) (hc0 : l0.length ≤ c0) (hr1 : Kd.C (Kd.int .i64) w A1 l1.length l1) (hc1 : l1.length ≤ c1) (h : quorumref0_EqNumbers.f k l0 l1 = some r) :
  Calls Try.prog 76 #[.slice A0 l0.length c0, .slice A1 l1.length c1] w fun e w' => e = .returned (.bool r) ∧ Drawn0 w w' := by
 have HR0 := mk0 hr0
 have HC0 := mk0 hc0
 clear hr0 hc0
 have HR1 := mk0 hr1
 have HC1 := mk0 hc1
 clear hr1 hc1
 have H : (if (l0.length : Int) = (l1.length : Int) then (quorumref0_EqNumbers.l0 k l0 l1 0) else (some false)) = some r := h
 clear h
 by_cases c3 : (l0.length : Int) = (l1.length : Int)
 ·rw [if_pos c3] at H
  have c3b0 : ((l0.length : Int) == (l1.length : Int)) = true := beq_iff_eq.mpr c3
  have c3b1 : ((l0.length : Int) != (l1.length : Int)) = false := bne_eq_false_iff_eq.mpr c3
  have c3b2 : (l0.length == l1.length) = true := by first | simpa using c3 | (simp at c3 ⊢; omega)
  clear c3
  have H' := mk0 H
  clear H
  go_enter Try.func76, Try.ntmps76
  go_wp2
  repeat (go_quiet (fail); try go_wp2)
  go_loopg [5] k (fun kq v5 w' => ∃ (x5_1 : Int), v5 = .int .i64 x5_1 ∧ Fc (quorumref0_EqNumbers.l0 kq l0 l1 x5_1 = some r) ∧ Fc (kq ≤ k) ∧ Drawn0 w w')
  case atStart => exact ⟨(0), (by first | rfl | (simp; done) | (simp [*]; done)), H', ⟨Nat.le_refl _⟩, by repeat (first | exact Drawn0.refl _ | apply Drawn0.step)⟩
  case round =>
   clear H'
   try clear c1
   try clear c3
   try clear c3b0
   try clear c3b1
   try clear c3b2
   obtain ⟨x5_1, rfl, HA, HK1, ⟨m1, rfl⟩⟩ := hrel
   cases gk with
   | zero => exact absurd HA.out (by simp [quorumref0_EqNumbers.l0])
   | succ k1 =>
    have H := HA.out
    clear HA
    simp only [quorumref0_EqNumbers.l0] at H
    as_aux_lemma =>
     by_cases c4 : x5_1 < (l0.length : Int)
     ·rw [if_pos c4] at H
      have c4b0 : decide (x5_1 < (l0.length : Int)) = true := decide_eq_true c4
      clear c4
      by_cases c5 : 0 ≤ x5_1
      ·rw [if_pos c5] at H
       have c5b0 : decide (0 ≤ x5_1) = true := decide_eq_true c5
       clear c5
       by_cases c6 : x5_1 < (l1.length : Int)
       ·rw [if_pos c6] at H
        have c6b0 : decide (x5_1 < (l1.length : Int)) = true := decide_eq_true c6
        clear c6
        by_cases c7 : (rd l0 x5_1) = (rd l1 x5_1)
        ·rw [if_pos c7] at H
         have c7b0 : ((rd l0 x5_1) == (rd l1 x5_1)) = true := beq_iff_eq.mpr c7
         have c7b1 : ((rd l0 x5_1) != (rd l1 x5_1)) = false := bne_eq_false_iff_eq.mpr c7
         clear c7
         have H' := mk0 H
         clear H
         have p224 : 0 ≤ (x5_1 : Int) := of_decide_eq_true (by first | (with_reducible assumption) | assumption)
         have q224 : x5_1 < (l0.length : Int) := of_decide_eq_true (by first | (with_reducible assumption) | assumption)
         obtain ⟨ad224, e224, hx224_0⟩ := Kd.at_int HR0.out x5_1 p224 q224
         cases e224
         replace p224 := eq_true p224
         replace q224 := eq_true q224
         have p225 : 0 ≤ (x5_1 : Int) := of_decide_eq_true (by first | (with_reducible assumption) | assumption)
         have q225 : x5_1 < (l1.length : Int) := of_decide_eq_true (by first | (with_reducible assumption) | assumption)
         obtain ⟨ad225, e225, hx225_0⟩ := Kd.at_int HR1.out x5_1 p225 q225
         cases e225
         replace p225 := eq_true p225
         replace q225 := eq_true q225
         go_wp2
         repeat (go_quiet (fail); try go_wp2)
         go_roundg k1
         case measure => have := HK1.out; omega
         case rel => exact ⟨(wrap64 (x5_1 + 1)), (by first | rfl | (simp; done) | (simp [*]; done)), H', ⟨by have := HK1.out; omega⟩, by repeat (first | exact Drawn0.refl _ | apply Drawn0.step)⟩
        ·rw [if_neg c7] at H
         have c7b0 : ((rd l0 x5_1) == (rd l1 x5_1)) = false := beq_eq_false_iff_ne.mpr c7
         have c7b1 : ((rd l0 x5_1) != (rd l1 x5_1)) = true := bne_iff_ne.mpr c7
         obtain rfl := Option.some.inj H
         have p224 : 0 ≤ (x5_1 : Int) := of_decide_eq_true (by first | (with_reducible assumption) | assumption)
         have q224 : x5_1 < (l0.length : Int) := of_decide_eq_true (by first | (with_reducible assumption) | assumption)
         obtain ⟨ad224, e224, hx224_0⟩ := Kd.at_int HR0.out x5_1 p224 q224
         cases e224
         replace p224 := eq_true p224
         replace q224 := eq_true q224
         have p225 : 0 ≤ (x5_1 : Int) := of_decide_eq_true (by first | (with_reducible assumption) | assumption)
         have q225 : x5_1 < (l1.length : Int) := of_decide_eq_true (by first | (with_reducible assumption) | assumption)
         obtain ⟨ad225, e225, hx225_0⟩ := Kd.at_int HR1.out x5_1 p225 q225
         cases e225
         replace p225 := eq_true p225
         replace q225 := eq_true q225
         go_wp2
         repeat (go_quiet (fail); try go_wp2)
         go_ret
         exact ⟨by first | rfl | (simp; done) | (simp [*]; done), by repeat (first | exact Drawn0.refl _ | apply Drawn0.step)⟩
       ·rw [if_neg c6] at H
        exact absurd H (by simp)
      ·rw [if_neg c5] at H
       exact absurd H (by simp)
     ·rw [if_neg c4] at H
      have c4b0 : decide (x5_1 < (l0.length : Int)) = false := decide_eq_false c4
      clear c4
      obtain rfl := Option.some.inj H
      go_wp2
      repeat (go_quiet (fail); try go_wp2)
      go_ret
      exact ⟨by first | rfl | (simp; done) | (simp [*]; done), by repeat (first | exact Drawn0.refl _ | apply Drawn0.step)⟩
 ·rw [if_neg c3] at H
  have c3b0 : ((l0.length : Int) == (l1.length : Int)) = false := beq_eq_false_iff_ne.mpr c3
  have c3b1 : ((l0.length : Int) != (l1.length : Int)) = true := bne_iff_ne.mpr c3
  have c3b2 : (l0.length == l1.length) = false := by first | simpa using c3 | (simp at c3 ⊢; omega)
  obtain rfl := Option.some.inj H
  go_enter Try.func76, Try.ntmps76
  go_wp2
  repeat (go_quiet (fail); try go_wp2)
  go_ret
  exact ⟨by first | rfl | (simp; done) | (simp [*]; done), by repeat (first | exact Drawn0.refl _ | apply Drawn0.step)⟩

end Go.Proofs.Ytoodkefpkgbjcaa.PPgb
