-- PRINTED by print.py (a twelfth state) out of the translation. Not trusted: Lean checks it.
import Derived.Test.YtoodkefpkgbjcaaPPgbx0
import Derived.Test.YtoodkefpkgbjcaaPPgbx1
import Derived.Test.YtoodkefpkgbjcaaPPgbx4
import Derived.Test.YtoodkefpkgbjcaaPPgbx12
namespace Go.Proofs.Ytoodkefpkgbjcaa.PPgb
open Go.RowKit Go.Proofs.YtoodkefpkgbjcaaW.PrintWords Go.Proofs.YtoodkefpkgbjcaaW.PrintLast Go.Proofs.YtoodkefpkgbjcaaW.PrintMore
attribute [local go_sem] max2_int min2_int max_two min_two max_three min_three max_four min_four   -- for this text's walks alone
set_option linter.unusedVariables false
set_option linter.unusedSimpArgs false

/-! ### quorumlaw5_PageExact: function 5 -/
mutual
def quorumlaw5_PageExact.l0 : Nat → Int → List ByteArray → List Int → List (S64) → List ByteArray → List Int → Option (Bool)
 | 0, _, _, _, _, _, _ => none
 | k + 1, x4, x413000, x413001, x413002, x421000, x421001 => if x4 < (x413002.length : Int) then (quorumlaw5_PageExact.j1 k x4 (decide (x4 < 16)) x413000 x413001 x413002 x421000 x421001) else (quorumlaw5_PageExact.j1 k x4 false x413000 x413001 x413002 x421000 x421001)
def quorumlaw5_PageExact.j1 : Nat → Int → Bool → List ByteArray → List Int → List (S64) → List ByteArray → List Int → Option (Bool)
 | 0, _, _, _, _, _, _, _ => none
 | k + 1, x4, x20, x413000, x413001, x413002, x421000, x421001 => if x20 = true then (if 0 ≤ x4 then (if x4 < (x413002.length : Int) then ((quorumlaw5_step.f k x421000 x421001 ((rd_T64 x413002 x4).f0) ((rd_T64 x413002 x4).f1) ((rd_T64 x413002 x4).f2)).bind fun bt422 => (if bt422.2.2 = true then (quorumlaw5_PageExact.l0 k (wrap64 (x4 + 1)) x413000 x413001 x413002 bt422.1 bt422.2.1) else (some false))) else (none)) else (none)) else ((quorumlaw5_wakes.f k).bind fun t430 => (some t430))
end
def quorumlaw5_PageExact.f (k : Nat) (l0_0 : List ByteArray) (l0_1 : List Int) (l0_2 : List (S64)) : Option (Bool) := (quorumlaw5_Heavy.f k l0_0 l0_1 l0_2).bind fun t413 => (if t413 = true then (some true) else ((quorumref0_CopyPage.f k l0_0 l0_1).bind fun bt414 => (quorumlaw5_PageExact.l0 k 0 l0_0 l0_1 l0_2 bt414.1 bt414.2)))
theorem quorumlaw5_PageExact.mono_l : ∀ k, (∀ y0 y1 y2 y3 y4 y5, LeO (quorumlaw5_PageExact.l0 k y0 y1 y2 y3 y4 y5) (quorumlaw5_PageExact.l0 (k + 1) y0 y1 y2 y3 y4 y5)) ∧ (∀ y0 y1 y2 y3 y4 y5 y6, LeO (quorumlaw5_PageExact.j1 k y0 y1 y2 y3 y4 y5 y6) (quorumlaw5_PageExact.j1 (k + 1) y0 y1 y2 y3 y4 y5 y6))
 | 0 => ⟨fun _ _ _ _ _ _ r h => by simp [quorumlaw5_PageExact.l0] at h, fun _ _ _ _ _ _ _ r h => by simp [quorumlaw5_PageExact.j1] at h⟩
 | k + 1 => by
  obtain ⟨ih0, ih1⟩ := quorumlaw5_PageExact.mono_l k
  refine ⟨?_, ?_⟩
  ·intro y0 y1 y2 y3 y4 y5
   unfold quorumlaw5_PageExact.l0
   repeat' first
   | (with_reducible exact ih0 _ _ _ _ _ _)
   | (with_reducible exact ih1 _ _ _ _ _ _ _)
   | (with_reducible exact quorumlaw5_Heavy.mono _ _ _ _)
   | (with_reducible exact quorumlaw5_step.mono _ _ _ _ _ _)
   | (with_reducible exact quorumlaw5_wakes.mono _)
   | (with_reducible exact quorumref0_CopyPage.mono _ _ _)
   | (with_reducible exact LeO.refl _)
   | (with_reducible exact LeO.none _)
   | (with_reducible refine LeO.ite ?_ ?_)
   | (with_reducible refine LeO.bind ?_ (fun _ => ?_))
   | exact ih0 _ _ _ _ _ _
   | exact ih1 _ _ _ _ _ _ _
   | exact quorumlaw5_Heavy.mono _ _ _ _
   | exact quorumlaw5_step.mono _ _ _ _ _ _
   | exact quorumlaw5_wakes.mono _
   | exact quorumref0_CopyPage.mono _ _ _
   | exact LeO.none _
   | refine LeO.ite ?_ ?_
   | refine LeO.bind ?_ (fun _ => ?_)
  ·intro y0 y1 y2 y3 y4 y5 y6
   unfold quorumlaw5_PageExact.j1
   repeat' first
   | (with_reducible exact ih0 _ _ _ _ _ _)
   | (with_reducible exact ih1 _ _ _ _ _ _ _)
   | (with_reducible exact quorumlaw5_Heavy.mono _ _ _ _)
   | (with_reducible exact quorumlaw5_step.mono _ _ _ _ _ _)
   | (with_reducible exact quorumlaw5_wakes.mono _)
   | (with_reducible exact quorumref0_CopyPage.mono _ _ _)
   | (with_reducible exact LeO.refl _)
   | (with_reducible exact LeO.none _)
   | (with_reducible refine LeO.ite ?_ ?_)
   | (with_reducible refine LeO.bind ?_ (fun _ => ?_))
   | exact ih0 _ _ _ _ _ _
   | exact ih1 _ _ _ _ _ _ _
   | exact quorumlaw5_Heavy.mono _ _ _ _
   | exact quorumlaw5_step.mono _ _ _ _ _ _
   | exact quorumlaw5_wakes.mono _
   | exact quorumref0_CopyPage.mono _ _ _
   | exact LeO.none _
   | refine LeO.ite ?_ ?_
   | refine LeO.bind ?_ (fun _ => ?_)
theorem quorumlaw5_PageExact.mono : ∀ a0 a1 a2 k, LeO (quorumlaw5_PageExact.f k a0 a1 a2) (quorumlaw5_PageExact.f (k + 1) a0 a1 a2) := by
 intro a0 a1 a2 k
 obtain ⟨ih0, ih1⟩ := quorumlaw5_PageExact.mono_l k
 unfold quorumlaw5_PageExact.f
 repeat' first
   | (with_reducible exact ih0 _ _ _ _ _ _)
   | (with_reducible exact ih1 _ _ _ _ _ _ _)
   | (with_reducible exact quorumlaw5_Heavy.mono _ _ _ _)
   | (with_reducible exact quorumlaw5_step.mono _ _ _ _ _ _)
   | (with_reducible exact quorumlaw5_wakes.mono _)
   | (with_reducible exact quorumref0_CopyPage.mono _ _ _)
   | (with_reducible exact LeO.refl _)
   | (with_reducible exact LeO.none _)
   | (with_reducible refine LeO.ite ?_ ?_)
   | (with_reducible refine LeO.bind ?_ (fun _ => ?_))
   | exact ih0 _ _ _ _ _ _
   | exact ih1 _ _ _ _ _ _ _
   | exact quorumlaw5_Heavy.mono _ _ _ _
   | exact quorumlaw5_step.mono _ _ _ _ _ _
   | exact quorumlaw5_wakes.mono _
   | exact quorumref0_CopyPage.mono _ _ _
   | exact LeO.none _
   | refine LeO.ite ?_ ?_
   | refine LeO.bind ?_ (fun _ => ?_)
def quorumlaw5_PageExact.T7 : Bool × List (List Nat × List Nat) := (true, [([], []), ([], []), ([1], [1]), ([], []), ([2, 3], [2, 3]), ([4], [4]), ([0, 5], [0, 5]), ([6], [6]), ([7], [7]), ([7], [7]), ([], []), ([10, 8, 6, 0, 1, 2, 3, 4, 5, 6, 7, 8, 10], [8, 10]), ([9, 11, 0, 1, 2, 3, 4, 5, 6, 7, 8, 9, 10, 11], [9])])
def quorumlaw5_PageExact.B7 : List Nat := [0, 0, 2, 0, 14, 30, 63, 127, 255, 255, 0, 1535, 4095]
theorem quorumlaw5_PageExact.tab7 : rtab .any (opsOf Try.f5 7) = quorumlaw5_PageExact.T7 := by kernel_rfl
theorem quorumlaw5_PageExact.bits7 : waitsOk quorumlaw5_PageExact.T7.2 quorumlaw5_PageExact.B7 = true := by kernel_rfl
set_option maxHeartbeats 8000000 in
set_option maxRecDepth 100000 in
theorem quorumlaw5_PageExact.calls (k : Nat) (A0_0 : Option Addr) (c0_0 : Nat) (l0_0 : List ByteArray) (A0_1 : Option Addr) (c0_1 : Nat) (l0_1 : List Int) (A0_2 : Option Addr) (c0_2 : Nat) (l0_2 : List (S64)) (r : Bool) (w : World) (hr0_0 : Kd.C Kd.string w A0_0 l0_0.length l0_0) (hc0_0 : l0_0.length ≤ c0_0) (hr0_1 : Kd.C (Kd.int .i64) w A0_1 l0_1.length l0_1) (hc0_1 : l0_1.length ≤ c0_1) (hr0_2 : Kd.C k64 w A0_2 l0_2.length l0_2) (hc0_2 : l0_2.length ≤ c0_2) (h : quorumlaw5_PageExact.f k l0_0 l0_1 l0_2 = some r) :
  Calls Try.prog 5 #[.agg #[.slice A0_0 l0_0.length c0_0, .slice A0_1 l0_1.length c0_1, .slice A0_2 l0_2.length c0_2]] w fun e w' => e = .returned (.bool r) ∧ Below w.heap.size w w' := by
 have hu59 := Try.underlying59
 have hu56 := Try.underlying56
 have hu64 := Try.underlying64
 have HR0_0 := mk0 hr0_0
 have HC0_0 := mk0 hc0_0
 clear hr0_0 hc0_0
 have HR0_1 := mk0 hr0_1
 have HC0_1 := mk0 hc0_1
 clear hr0_1 hc0_1
 have HR0_2 := mk0 hr0_2
 have HC0_2 := mk0 hc0_2
 clear hr0_2 hc0_2
 have HB := mk0 (Below.refl w.heap.size w)
 have H : ((quorumlaw5_Heavy.f k l0_0 l0_1 l0_2).bind fun t413 => (if t413 = true then (some true) else ((quorumref0_CopyPage.f k l0_0 l0_1).bind fun bt414 => (quorumlaw5_PageExact.l0 k 0 l0_0 l0_1 l0_2 bt414.1 bt414.2)))) = some r := h
 clear h
 replace H := Option.bind_eq_some_iff.mp H
 obtain ⟨t413, A20, H⟩ := H
 try dsimp only at H
 have A2 := mk0 A20
 clear A20
 by_cases c3 : t413 = true
 ·subst c3
  rw [if_pos rfl] at H
  obtain rfl := Option.some.inj H
  go_enter Try.func5, Try.ntmps5
  go_wp2_with (first | ((with_reducible refine gate_dst (N := 1) rfl ?_); refine bx_ (N := 1) (cs := #[.slice A0_0 l0_0.length c0_0, .slice A0_1 l0_1.length c0_1, .slice A0_2 l0_2.length c0_2]) (t := 59) (h := ?_); intro gb412 hg w4 hbox hb; have n2_ := mk0 (gz_ HB hg); have n3_ := mk0 (gz_ HB hg); replace HB := mk0 (bt_ (b_ HB) hb); have BK412 := mk0 (hbox); have GW412 := n2_; have GE412 := n3_; clear n2_ n3_ hb hbox hg; obtain ⟨hcz5_0, hcz5_1, hcz5_2, hfz5_0, hfz5_1, hfz5_2⟩ := c3_ BK412) | ((with_reducible refine gate_callee (f := 32) rfl ?_); refine gL_ (some 8) Try.func32 #[.agg #[.slice A0_0 l0_0.length c0_0, .slice A0_1 l0_1.length c0_1, .slice A0_2 l0_2.length c0_2]] (h := ?_); (with_reducible refine (quorumlaw5_Heavy.calls k _ _ l0_0 _ _ l0_1 _ _ l0_2 true _ ?side1 ?side2 ?side3 ?side4 ?side5 ?side6 A2.out).mono ?_); (case side1 => exact cb_ HR0_0 HB); (case side2 => exact HC0_0.out); (case side3 => exact cb_ HR0_1 HB); (case side4 => exact HC0_1.out); (case side5 => exact cb_ HR0_2 HB); (case side6 => exact HC0_2.out); rintro e w6 ⟨rfl, hb⟩; refine ⟨_, rfl, ?_⟩; replace BK412 := mk0 (u_ BK412 hb); replace HB := mk0 (bt_ (b_ HB) hb); (try clear hb)))
  go_ret
  exact ⟨by first | rfl | (simp [errW_none, errW_some] <;> rfl) | (simp [*, errW_none, errW_some] <;> rfl), b_ HB⟩
 ·replace c3 := Bool.eq_false_iff.mpr c3
  subst c3
  rw [if_neg (show ¬ (false = true) by decide)] at H
  replace H := Option.bind_eq_some_iff.mp H
  obtain ⟨⟨t414, t417⟩, A70, H⟩ := H
  try dsimp only at H
  have A7 := mk0 A70
  clear A70
  have H' := mk0 H
  clear H
  go_enter Try.func5, Try.ntmps5
  go_wp2_with (first | ((with_reducible refine gate_dst (N := 1) rfl ?_); refine bx_ (N := 1) (cs := #[.slice A0_0 l0_0.length c0_0, .slice A0_1 l0_1.length c0_1, .slice A0_2 l0_2.length c0_2]) (t := 59) (h := ?_); intro gb412 hg w8 hbox hb; have n2_ := mk0 (gz_ HB hg); have n3_ := mk0 (gz_ HB hg); replace HB := mk0 (bt_ (b_ HB) hb); have BK412 := mk0 (hbox); have GW412 := n2_; have GE412 := n3_; clear n2_ n3_ hb hbox hg; obtain ⟨hcz9_0, hcz9_1, hcz9_2, hfz9_0, hfz9_1, hfz9_2⟩ := c3_ BK412) | ((with_reducible refine gate_callee (f := 32) rfl ?_); refine gL_ (some 8) Try.func32 #[.agg #[.slice A0_0 l0_0.length c0_0, .slice A0_1 l0_1.length c0_1, .slice A0_2 l0_2.length c0_2]] (h := ?_); (with_reducible refine (quorumlaw5_Heavy.calls k _ _ l0_0 _ _ l0_1 _ _ l0_2 false _ ?side1 ?side2 ?side3 ?side4 ?side5 ?side6 A2.out).mono ?_); (case side1 => exact cb_ HR0_0 HB); (case side2 => exact HC0_0.out); (case side3 => exact cb_ HR0_1 HB); (case side4 => exact HC0_1.out); (case side5 => exact cb_ HR0_2 HB); (case side6 => exact HC0_2.out); rintro e w10 ⟨rfl, hb⟩; refine ⟨_, rfl, ?_⟩; replace BK412 := mk0 (u_ BK412 hb); replace HB := mk0 (bt_ (b_ HB) hb); (try clear hb); obtain ⟨hcz11_0, hcz11_1, hcz11_2, hfz11_0, hfz11_1, hfz11_2⟩ := c3_ BK412) | ((with_reducible refine gate_callee (f := 42) rfl ?_); refine gL_ (some 11) Try.func42 #[.agg #[.slice A0_0 l0_0.length c0_0, .slice A0_1 l0_1.length c0_1]] (h := ?_); (with_reducible refine (quorumref0_CopyPage.calls k _ _ l0_0 _ _ l0_1 t414 t417 _ ?side1 ?side2 ?side3 ?side4 A7.out).mono ?_); (case side1 => exact cb_ HR0_0 HB); (case side2 => exact HC0_0.out); (case side3 => exact cb_ HR0_1 HB); (case side4 => exact HC0_1.out); rintro e w12 ⟨v415, v418, rfl, ho0, ho1, hb⟩; refine ⟨_, rfl, ?_⟩; have n0_ := mk0 (Kd.R_lower ho0 (bz_ (b_ HB))); have n1_ := mk0 (Kd.R_lower ho1 (bz_ (b_ HB))); replace BK412 := mk0 (u_ BK412 hb); replace HB := mk0 (bt_ (b_ HB) hb); have HO416 := n0_; have HO419 := n1_; clear n0_ n1_; (try clear hb); (try clear ho0); (try clear ho1)) | ((with_reducible refine gate_dst (N := 3) rfl ?_); refine bx_ (N := 3) (cs := #[.slice none 0 0, .slice none 0 0]) (t := 56) (h := ?_); intro gb420 hg w13 hbox hb; have n5_ := mk0 (gz_ HB hg); have n6_ := mk0 (gz_ HB hg); have n7_ := mk0 (ne1_ BK412 hg); have n8_ := mk0 (ne2_ BK412 hg); replace HO416 := mk0 (Kd.R_below (r_ HO416) hb); replace HO419 := mk0 (Kd.R_below (r_ HO419) hb); replace BK412 := mk0 (u_ BK412 hb); replace HB := mk0 (bt_ (b_ HB) hb); have BK420 := mk0 (hbox); have GW420 := n5_; have GE420 := n6_; have NB412_420 := n7_; have NB420_412 := n8_; clear n5_ n6_ n7_ n8_ hb hbox hg; obtain ⟨Ao14, co14, eo14⟩ := Kd.R_slice HO416.out; subst eo14; have hnb15 := NB420_412.out; have hnc15 := NB412_420.out; obtain ⟨hcz16_0, hcz16_1, hfz16_0, hfz16_1⟩ := c2_ BK420; obtain ⟨Ao17, co17, eo17⟩ := Kd.R_slice HO419.out; subst eo17))
  go_loopg [4] k (fun kq v4 w' => ∃ (x4_1 : Int) (x421000_1 : List ByteArray) (x421001_1 : List Int) (u421000 : Value) (u421001 : Value), v4 = .int .i64 x4_1 ∧ Fc (quorumlaw5_PageExact.l0 kq x4_1 l0_0 l0_1 l0_2 x421000_1 x421001_1 = some r) ∧ Fc (kq ≤ k) ∧ Fc (Kd.V Kd.string 9 w' w.heap.size (fun k_ => k_ ≠ gb412 ∧ k_ ≠ gb420) u421000 x421000_1) ∧ Fc (Kd.V (Kd.int .i64) 3 w' w.heap.size (fun k_ => k_ ≠ gb412 ∧ k_ ≠ gb420) u421001 x421001_1) ∧ Fc (w'.heap[gb412]? = some (.cells #[(.slice A0_0 l0_0.length c0_0), (.slice A0_1 l0_1.length c0_1), (.slice A0_2 l0_2.length c0_2)] 59 (0, 0))) ∧ Fc (w'.heap[gb420]? = some (.cells #[u421000, u421001] 56 (0, 0))) ∧ Fc (Below w.heap.size w w'))
  case atStart => exact ⟨(0), (t414), (t417), (.slice Ao14 t414.length co14), (.slice Ao17 t417.length co17), (by first | rfl | (simp; done) | (simp [*]; done)), H', ⟨Nat.le_refl _⟩, ⟨Kd.R_V (r2_ (Kd.R_mono (Kd.R_far (p := ⟨gb420, 1, none⟩) (Kd.R_far (p := ⟨gb420, 0, none⟩) (Kd.R_types (Kd.R_types (Kd.R_types HO416.out BK412.out (by decide)) BK420.out (by decide)) BK420.out (by decide)) (fun _ hk => hk.2) (.slice Ao14 t414.length co14)) (fun _ hk => hk.2) (.slice Ao17 t417.length co17)) (fun _ hk => ⟨hk.1.1.2, hk.1.2⟩)))⟩, ⟨Kd.R_V (r2_ (Kd.R_mono (Kd.R_far (p := ⟨gb420, 1, none⟩) (Kd.R_far (p := ⟨gb420, 0, none⟩) (Kd.R_types (Kd.R_types (Kd.R_types HO419.out BK412.out (by decide)) BK420.out (by decide)) BK420.out (by decide)) (fun _ hk => hk.2) (.slice Ao14 t414.length co14)) (fun _ hk => hk.2) (.slice Ao17 t417.length co17)) (fun _ hk => ⟨hk.1.1.2, hk.1.2⟩)))⟩, ⟨(fa_ (fa_ (h_ BK412) NB412_420.out) NB412_420.out)⟩, ⟨(pu_ (cs := #[.slice Ao14 t414.length co14, .slice none 0 0]) (pu_ (cs := #[.slice none 0 0, .slice none 0 0]) (h_ BK420)))⟩, ⟨b_ HB⟩⟩
  case round =>
   clear H'
   try clear c3
   try clear hcz11_0
   try clear hcz11_1
   try clear hcz11_2
   try clear hcz16_0
   try clear hcz16_1
   try clear hcz5_0
   try clear hcz5_1
   try clear hcz5_2
   try clear hcz9_0
   try clear hcz9_1
   try clear hcz9_2
   try clear hfz11_0
   try clear hfz11_1
   try clear hfz11_2
   try clear hfz16_0
   try clear hfz16_1
   try clear hfz5_0
   try clear hfz5_1
   try clear hfz5_2
   try clear hfz9_0
   try clear hfz9_1
   try clear hfz9_2
   obtain ⟨x4_1, x421000_1, x421001_1, u421000, u421001, rfl, HA, HK1, HO_421000, HO_421001, BK412, BK420, HB⟩ := hrel
   cases gk with
   | zero => exact absurd HA.out (by simp [quorumlaw5_PageExact.l0])
   | succ k1 =>
    have H := HA.out
    clear HA
    simp only [quorumlaw5_PageExact.l0] at H
    as_aux_lemma =>
     have HC18 := mk0 H
     clear H
     go_upto_region 5 with (fail)
     go_cut [20] (fun v20 wc => ∃ (kq : Nat) (x20_17 : Bool), v20 = .bool x20_17 ∧ Fc (quorumlaw5_PageExact.j1 kq x4_1 x20_17 l0_0 l0_1 l0_2 x421000_1 x421001_1 = some r) ∧ Fc (kq ≤ k1) ∧ Fc (Kd.V Kd.string 9 wc w.heap.size (fun k_ => k_ ≠ gb412 ∧ k_ ≠ gb420) u421000 x421000_1) ∧ Fc (Kd.V (Kd.int .i64) 3 wc w.heap.size (fun k_ => k_ ≠ gb412 ∧ k_ ≠ gb420) u421001 x421001_1) ∧ Fc (wc.heap[gb412]? = some (.cells #[(.slice A0_0 l0_0.length c0_0), (.slice A0_1 l0_1.length c0_1), (.slice A0_2 l0_2.length c0_2)] 59 (0, 0))) ∧ Fc (wc.heap[gb420]? = some (.cells #[u421000, u421001] 56 (0, 0))) ∧ Fc (Below w.heap.size w wc))
     case first =>
      have H := HC18.out
      clear HC18
      by_cases c19 : x4_1 < (l0_2.length : Int)
      ·rw [if_pos c19] at H
       have c19b0 : decide (x4_1 < (l0_2.length : Int)) = true := decide_eq_true c19
       clear c19
       (first | rw [c19b0] | (simp only [i64_w, i32_w]; rw [c19b0]) | skip)
       have H' := mk0 H
       clear H
       have hnb20 := NB412_420.out
       have hnc20 := NB420_412.out
       obtain ⟨hcz21_0, hcz21_1, hcz21_2, hfz21_0, hfz21_1, hfz21_2⟩ := c3_ BK412
       go_wp2
       go_meet
       case rel => exact ⟨_, (decide (x4_1 < 16)), (by first | rfl | (simp; done) | (simp [*]; done)), H', ⟨by have := HK1.out; first | omega | exact Nat.le_refl _⟩, ⟨by (with_reducible repeat (first | apply Kd.V_alloc | apply Kd.V_drewN | apply Kd.V_drew)); exact HO_421000.out⟩, ⟨by (with_reducible repeat (first | apply Kd.V_alloc | apply Kd.V_drewN | apply Kd.V_drew)); exact HO_421001.out⟩, ⟨h_ BK412⟩, ⟨h_ BK420⟩, ⟨b_ HB⟩⟩
      ·rw [if_neg c19] at H
       have c19b0 : decide (x4_1 < (l0_2.length : Int)) = false := decide_eq_false c19
       clear c19
       (first | rw [c19b0] | (simp only [i64_w, i32_w]; rw [c19b0]) | skip)
       have H' := mk0 H
       clear H
       have hnb22 := NB412_420.out
       have hnc22 := NB420_412.out
       obtain ⟨hcz23_0, hcz23_1, hcz23_2, hfz23_0, hfz23_1, hfz23_2⟩ := c3_ BK412
       go_wp2
       go_meet
       case rel => exact ⟨_, (false), (by first | rfl | (simp; done) | (simp [*]; done)), H', ⟨by have := HK1.out; first | omega | exact Nat.le_refl _⟩, ⟨by (with_reducible repeat (first | apply Kd.V_alloc | apply Kd.V_drewN | apply Kd.V_drew)); exact HO_421000.out⟩, ⟨by (with_reducible repeat (first | apply Kd.V_alloc | apply Kd.V_drewN | apply Kd.V_drew)); exact HO_421001.out⟩, ⟨h_ BK412⟩, ⟨h_ BK420⟩, ⟨b_ HB⟩⟩
     case rest =>
      clear HC18
      try clear c3
      try clear c19
      try clear c19b0
      try clear hcz11_0
      try clear hcz11_1
      try clear hcz11_2
      try clear hcz16_0
      try clear hcz16_1
      try clear hcz21_0
      try clear hcz21_1
      try clear hcz21_2
      try clear hcz23_0
      try clear hcz23_1
      try clear hcz23_2
      try clear hcz5_0
      try clear hcz5_1
      try clear hcz5_2
      try clear hcz9_0
      try clear hcz9_1
      try clear hcz9_2
      try clear hfz11_0
      try clear hfz11_1
      try clear hfz11_2
      try clear hfz16_0
      try clear hfz16_1
      try clear hfz21_0
      try clear hfz21_1
      try clear hfz21_2
      try clear hfz23_0
      try clear hfz23_1
      try clear hfz23_2
      try clear hfz5_0
      try clear hfz5_1
      try clear hfz5_2
      try clear hfz9_0
      try clear hfz9_1
      try clear hfz9_2
      obtain ⟨kq, x20_17, rfl, HA, HJ17, HO_421000, HO_421001, BK412, BK420, HB⟩ := hcut
      cases kq with
      | zero => exact absurd HA.out (by simp [quorumlaw5_PageExact.j1])
      | succ kj17 =>
       have H := HA.out
       clear HA
       simp only [quorumlaw5_PageExact.j1] at H
       as_aux_lemma =>
        by_cases c24 : x20_17 = true
        ·subst c24
         rw [if_pos rfl] at H
         by_cases c25 : 0 ≤ x4_1
         ·rw [if_pos c25] at H
          have c25b0 : decide (0 ≤ x4_1) = true := decide_eq_true c25
          clear c25
          by_cases c26 : x4_1 < (l0_2.length : Int)
          ·rw [if_pos c26] at H
           have c26b0 : decide (x4_1 < (l0_2.length : Int)) = true := decide_eq_true c26
           clear c26
           replace H := Option.bind_eq_some_iff.mp H
           obtain ⟨⟨t422, t425, t428⟩, A270, H⟩ := H
           try dsimp only at H
           have A27 := mk0 A270
           clear A270
           by_cases c28 : t428 = true
           ·subst c28
            rw [if_pos rfl] at H
            have H' := mk0 H
            clear H
            obtain ⟨Ao29, co29, eo29⟩ := Kd.V_slice HO_421000.out
            subst eo29
            obtain ⟨Ao30, co30, eo30⟩ := Kd.V_slice HO_421001.out
            subst eo30
            try go_wp2
            replace HO_421000 := mk0 (Kd.V_drew HO_421000.out)
            replace HO_421001 := mk0 (Kd.V_drew HO_421001.out)
            replace BK412 := mk0 (bD_ BK412.out)
            replace BK420 := mk0 (bD_ BK420.out)
            replace HB := mk0 (b1_ HB.out)
            have p421 : 0 ≤ (x4_1 : Int) := of_decide_eq_true (by first | (with_reducible assumption) | assumption)
            have q421 : x4_1 < (l0_2.length : Int) := of_decide_eq_true (by first | (with_reducible assumption) | assumption)
            obtain ⟨ad421, e421, hx421_0, hx421_1, hx421_2⟩ := at_T64 HR0_2.out x4_1 p421 q421
            have hw421_2 := hx421_2
            have hw421_1 := hx421_1
            have hw421_0 := hx421_0
            cases e421
            replace hx421_0 := (HB.out.cell (World.block_lt_of_cell? w _ hx421_0)).trans hx421_0
            replace hx421_1 := (HB.out.cell (World.block_lt_of_cell? w _ hx421_1)).trans hx421_1
            replace hx421_2 := (HB.out.cell (World.block_lt_of_cell? w _ hx421_2)).trans hx421_2
            replace p421 := eq_true p421
            replace q421 := eq_true q421
            refine start_ (n := 13) (S := fun w' => w'.cell? ⟨gb420, 0, none⟩ = some (.slice Ao29 x421000_1.length co29) ∧ w'.cell? ⟨gb420, 1, none⟩ = some (.slice Ao30 x421001_1.length co30) ∧ w'.cell? ⟨gb412, 0, none⟩ = some (.slice A0_0 l0_0.length c0_0) ∧ w'.cell? ⟨gb412, 1, none⟩ = some (.slice A0_1 l0_1.length c0_1) ∧ w'.cell? ⟨gb412, 2, none⟩ = some (.slice (some ad421) l0_2.length c0_2) ∧ w'.cell? (ad421.add ((x4_1).toNat * 3)) = some (.int .i64 ((rd_T64 l0_2 x4_1).f0)) ∧ w'.cell? ⟨(ad421.add ((x4_1).toNat * 3)).block, (ad421.add ((x4_1).toNat * 3)).off + 1, none⟩ = some (.int .i64 ((rd_T64 l0_2 x4_1).f1)) ∧ w'.cell? ⟨(ad421.add ((x4_1).toNat * 3)).block, (ad421.add ((x4_1).toNat * 3)).off + 2, none⟩ = some (.string ((rd_T64 l0_2 x4_1).f2))) (ds := []) (bt 13 0) (by kernel_rfl) rfl rfl ⟨(blk_cell BK420.out 0).trans rfl, (blk_cell BK420.out 1).trans rfl, (blk_cell BK412.out 0).trans rfl, (blk_cell BK412.out 1).trans rfl, (blk_cell BK412.out 2).trans rfl, ((HB.out.cell (World.block_lt_of_cell? w _ hw421_0)).trans hw421_0), ((HB.out.cell (World.block_lt_of_cell? w _ hw421_1)).trans hw421_1), ((HB.out.cell (World.block_lt_of_cell? w _ hw421_2)).trans hw421_2)⟩ (fun hHeld => ?_); refine with_tabW quorumlaw5_PageExact.tab7 quorumlaw5_PageExact.bits7 (fun HT_ HW_ => ?_)
            generalize wc.drew = w31 at HO_421000 HO_421001 BK412 BK420 HB hx421_0 hx421_1 hx421_2 hHeld ⊢
            refine pq_ HT_.out 1 25 (bt 13 2) (h := ?_)
            refine pq_ HT_.out 3 27 (bt 13 10) (h := ?_)
            refine tq8_ HT_.out HW_.out 0 24 (bt 13 11) hHeld (h := ?_)
            refine tq8_ HT_.out HW_.out 2 26 (bt 13 15) hHeld (h := ?_)
            refine pq_ HT_.out 4 28 (bt 13 31) (h := ?_)
            refine tq8_ HT_.out HW_.out 5 29 (bt 13 63) hHeld (h := ?_)
            refine join_ (σ := Value × Value × Nat) 2 (bt 13 2047) (fun s_ => [(30, .tuple #[.agg #[s_.1, s_.2.1], .bool true]), (5, .pointer (some ⟨s_.2.2, 0, none⟩)), (23, .tuple #[.agg #[s_.1, s_.2.1], .bool true]), (31, .agg #[s_.1, s_.2.1]), (32, .bool true)]) (fun s_ w' => (w'.cell? ⟨gb420, 0, none⟩ = some (.slice Ao29 x421000_1.length co29) ∧ w'.cell? ⟨gb420, 1, none⟩ = some (.slice Ao30 x421001_1.length co30) ∧ w'.cell? ⟨gb412, 0, none⟩ = some (.slice A0_0 l0_0.length c0_0) ∧ w'.cell? ⟨gb412, 1, none⟩ = some (.slice A0_1 l0_1.length c0_1) ∧ w'.cell? ⟨gb412, 2, none⟩ = some (.slice (some ad421) l0_2.length c0_2) ∧ w'.cell? (ad421.add ((x4_1).toNat * 3)) = some (.int .i64 ((rd_T64 l0_2 x4_1).f0)) ∧ w'.cell? ⟨(ad421.add ((x4_1).toNat * 3)).block, (ad421.add ((x4_1).toNat * 3)).off + 1, none⟩ = some (.int .i64 ((rd_T64 l0_2 x4_1).f1)) ∧ w'.cell? ⟨(ad421.add ((x4_1).toNat * 3)).block, (ad421.add ((x4_1).toNat * 3)).off + 2, none⟩ = some (.string ((rd_T64 l0_2 x4_1).f2))) ∧ (Kd.V Kd.string 9 w' w.heap.size (fun k_ => k_ ≠ gb412 ∧ k_ ≠ gb420 ∧ k_ ≠ s_.2.2) s_.1 t422) ∧ (Kd.V (Kd.int .i64) 3 w' w.heap.size (fun k_ => k_ ≠ gb412 ∧ k_ ≠ gb420 ∧ k_ ≠ s_.2.2) s_.2.1 t425) ∧ (Kd.V Kd.string 9 w' w.heap.size (fun k_ => k_ ≠ gb412 ∧ k_ ≠ gb420 ∧ k_ ≠ s_.2.2) (.slice Ao29 x421000_1.length co29) x421000_1) ∧ (Kd.V (Kd.int .i64) 3 w' w.heap.size (fun k_ => k_ ≠ gb412 ∧ k_ ≠ gb420 ∧ k_ ≠ s_.2.2) (.slice Ao30 x421001_1.length co30) x421001_1) ∧ (w'.heap[gb412]? = some (.cells #[.slice A0_0 l0_0.length c0_0, .slice A0_1 l0_1.length c0_1, .slice (some ad421) l0_2.length c0_2] 59 (0, 0))) ∧ (w'.heap[gb420]? = some (.cells #[.slice Ao29 x421000_1.length co29, .slice Ao30 x421001_1.length co30] 56 (0, 0))) ∧ (w'.heap[s_.2.2]? = some (.cells #[.slice none 0 0, .slice none 0 0] 56 (0, 0))) ∧ (w.heap.size ≤ s_.2.2) ∧ (w.heap.size ≤ s_.2.2) ∧ (gb412 ≠ s_.2.2) ∧ (s_.2.2 ≠ gb412) ∧ (gb420 ≠ s_.2.2) ∧ (s_.2.2 ≠ gb420) ∧ (Below w.heap.size w w')) ?_ ?_
            rotate_left
            ·intro hCont
             refine two_ (i := 6) (j := 10) (Ni := some 30) (Nj := some 5) (bt 13 127) (bt 13 1087) rfl rfl rfl rfl (two_of HT_.out (by kernel_rfl)) (by decide) (by decide) (fun K hK => ?_) (fun K hK => ?_)
             ·skip
              refine goes_ Try.func43 (by kernel_rfl) rfl #[.agg #[.slice Ao29 x421000_1.length co29, .slice Ao30 x421001_1.length co30], .agg #[.int .i64 ((rd_T64 l0_2 x4_1).f0), .int .i64 ((rd_T64 l0_2 x4_1).f1), .string ((rd_T64 l0_2 x4_1).f2)]] (by rfl) rfl rfl (by (try simp only [List.map_toArray, List.map_cons, List.map_nil]); first | done | rfl | (simp only [List.length_drop, List.length_take]; rfl)) ?_
              with_reducible refine (quorumlaw5_step.calls kj17 (fun k_ => (k_ ≠ gb412 ∧ k_ ≠ gb420)) _ _ x421000_1 (fun k_ => (k_ ≠ gb412 ∧ k_ ≠ gb420)) _ _ x421001_1 ((rd_T64 l0_2 x4_1).f0) ((rd_T64 l0_2 x4_1).f1) ((rd_T64 l0_2 x4_1).f2) t422 t425 true _ ?side1 ?side2 A27.out).mono ?_
              (case side1 => exact HO_421000.out)
              (case side2 => exact HO_421001.out)
              rintro e w32 ⟨v423, v426, rfl, ho0, ho1, hb⟩
              refine ⟨_, rfl, ?_⟩
              have n2_ := mk0 (Kd.V_lower (Kd.V_mono (ok' := fun k_ => k_ ≠ gb412 ∧ k_ ≠ gb420) ho0 (fun k_ hk_ => ⟨Or.elim hk_ (fun hs_ => Or.elim hs_ (fun hs_ => hs_.1) (fun hs_ => hs_.1)) (fun hn_ => (Kd.freshB (g := gb412) (o := .cells #[.slice A0_0 l0_0.length c0_0, .slice A0_1 l0_1.length c0_1, .slice (some ad421) l0_2.length c0_2] 59 (0, 0)) (h_ BK412) k_ hn_)), Or.elim hk_ (fun hs_ => Or.elim hs_ (fun hs_ => hs_.2) (fun hs_ => hs_.2)) (fun hn_ => (Kd.freshB (g := gb420) (o := .cells #[.slice Ao29 x421000_1.length co29, .slice Ao30 x421001_1.length co30] 56 (0, 0)) (h_ BK420) k_ hn_))⟩)) (bz_ (b_ HB)))
              have n3_ := mk0 (Kd.V_lower (Kd.V_mono (ok' := fun k_ => k_ ≠ gb412 ∧ k_ ≠ gb420) ho1 (fun k_ hk_ => ⟨Or.elim hk_ (fun hs_ => Or.elim hs_ (fun hs_ => hs_.1) (fun hs_ => hs_.1)) (fun hn_ => (Kd.freshB (g := gb412) (o := .cells #[.slice A0_0 l0_0.length c0_0, .slice A0_1 l0_1.length c0_1, .slice (some ad421) l0_2.length c0_2] 59 (0, 0)) (h_ BK412) k_ hn_)), Or.elim hk_ (fun hs_ => Or.elim hs_ (fun hs_ => hs_.2) (fun hs_ => hs_.2)) (fun hn_ => (Kd.freshB (g := gb420) (o := .cells #[.slice Ao29 x421000_1.length co29, .slice Ao30 x421001_1.length co30] 56 (0, 0)) (h_ BK420) k_ hn_))⟩)) (bz_ (b_ HB)))
              replace HO_421000 := mk0 (Kd.V_below (v_ HO_421000) hb)
              replace HO_421001 := mk0 (Kd.V_below (v_ HO_421001) hb)
              replace BK412 := mk0 (u_ BK412 hb)
              replace BK420 := mk0 (u_ BK420 hb)
              replace HB := mk0 (bt_ (b_ HB) hb)
              have HO424 := n2_
              have HO427 := n3_
              clear n2_ n3_
              (try clear hb)
              (try clear hb2)
              (try clear hk)
              (try clear hi)
              (try clear ho0)
              (try clear ho1)
              refine hK.out _ _ ⟨(blk_cell BK420.out 0).trans rfl, (blk_cell BK420.out 1).trans rfl, (blk_cell BK412.out 0).trans rfl, (blk_cell BK412.out 1).trans rfl, (blk_cell BK412.out 2).trans rfl, ((HB.out.cell (World.block_lt_of_cell? w _ hw421_0)).trans hw421_0), ((HB.out.cell (World.block_lt_of_cell? w _ hw421_1)).trans hw421_1), ((HB.out.cell (World.block_lt_of_cell? w _ hw421_2)).trans hw421_2)⟩ (fun hHeld => ?_)
              clear hK K
              refine norm_ (a' := ?_) ?_ ?_
              rotate_left
              ·show Act.put _ (some 30) _ = _
               simp only [z_]
               rfl
              refine pq_ HT_.out 7 23 (bt 13 255) (h := ?_)
              refine pq_ HT_.out 8 31 (bt 13 511) (h := ?_)
              refine pq_ HT_.out 9 32 (bt 13 1023) (h := ?_)
              refine one_ (i := 10) (N := some 5) (bt 13 2047) rfl rfl (one_of HT_.out (by kernel_rfl)) (by decide) (fun K hK => ?_)
              refine box_step ?hg (N := 5) ?hd (cs := #[.slice none 0 0, .slice none 0 0]) (t := 56) ?hr ?_; (case hd => rfl); (case hg => rfl); (case hr => first | (go_simp; done) | (go_simp; rfl))
              intro gb429 hg w33 hbox hb
              have n8_ := mk0 (gz_ HB hg)
              have n9_ := mk0 (gz_ HB hg)
              have n10_ := mk0 (ne1_ BK412 hg)
              have n11_ := mk0 (ne2_ BK412 hg)
              have n12_ := mk0 (ne1_ BK420 hg)
              have n13_ := mk0 (ne2_ BK420 hg)
              replace HO_421000 := mk0 (Kd.V_below (Kd.V_elderB (v_ HO_421000) gb429 (Nat.le_of_eq hg.symm)) hb)
              replace HO_421001 := mk0 (Kd.V_below (Kd.V_elderB (v_ HO_421001) gb429 (Nat.le_of_eq hg.symm)) hb)
              replace HO424 := mk0 (Kd.V_below (Kd.V_elderB (v_ HO424) gb429 (Nat.le_of_eq hg.symm)) hb)
              replace HO427 := mk0 (Kd.V_below (Kd.V_elderB (v_ HO427) gb429 (Nat.le_of_eq hg.symm)) hb)
              replace BK412 := mk0 (u_ BK412 hb)
              replace BK420 := mk0 (u_ BK420 hb)
              replace HB := mk0 (bt_ (b_ HB) hb)
              have BK429 := mk0 (hbox)
              have GW429 := n8_
              have GE429 := n9_
              have NB412_429 := n10_
              have NB429_412 := n11_
              have NB420_429 := n12_
              have NB429_420 := n13_
              clear n8_ n9_ n10_ n11_ n12_ n13_ hb hbox hg
              refine hK.out _ _ ⟨(blk_cell BK420.out 0).trans rfl, (blk_cell BK420.out 1).trans rfl, (blk_cell BK412.out 0).trans rfl, (blk_cell BK412.out 1).trans rfl, (blk_cell BK412.out 2).trans rfl, ((HB.out.cell (World.block_lt_of_cell? w _ hw421_0)).trans hw421_0), ((HB.out.cell (World.block_lt_of_cell? w _ hw421_1)).trans hw421_1), ((HB.out.cell (World.block_lt_of_cell? w _ hw421_2)).trans hw421_2)⟩ (fun hHeld => ?_)
              clear hK K
              refine norm_ (a' := ?_) ?_ ?_
              rotate_left
              ·show Act.put _ (some 5) _ = _
               simp only [z_]
               rfl
              exact norm_ (by simp only [putAll, Act.put, List.setIfInBounds_toArray, List.set_cons_zero, List.set_cons_succ]) (hCont (v423, v426, gb429) _ ⟨hHeld, (v2_ (Kd.V_mono HO424.out (fun _ hk => ⟨hk.1.1, ⟨hk.1.2, hk.2⟩⟩))), (v2_ (Kd.V_mono HO427.out (fun _ hk => ⟨hk.1.1, ⟨hk.1.2, hk.2⟩⟩))), (v2_ (Kd.V_mono HO_421000.out (fun _ hk => ⟨hk.1.1, ⟨hk.1.2, hk.2⟩⟩))), (v2_ (Kd.V_mono HO_421001.out (fun _ hk => ⟨hk.1.1, ⟨hk.1.2, hk.2⟩⟩))), (h_ BK412), (h_ BK420), (h_ BK429), GW429.out, GE429.out, NB412_429.out, NB429_412.out, NB420_429.out, NB429_420.out, (b_ HB)⟩)
             ·skip
              refine box_step ?hg (N := 5) ?hd (cs := #[.slice none 0 0, .slice none 0 0]) (t := 56) ?hr ?_; (case hd => rfl); (case hg => rfl); (case hr => first | (go_simp; done) | (go_simp; rfl))
              intro gb429 hg w32 hbox hb
              have n6_ := mk0 (gz_ HB hg)
              have n7_ := mk0 (gz_ HB hg)
              have n8_ := mk0 (ne1_ BK412 hg)
              have n9_ := mk0 (ne2_ BK412 hg)
              have n10_ := mk0 (ne1_ BK420 hg)
              have n11_ := mk0 (ne2_ BK420 hg)
              replace HO_421000 := mk0 (Kd.V_below (Kd.V_elderB (v_ HO_421000) gb429 (Nat.le_of_eq hg.symm)) hb)
              replace HO_421001 := mk0 (Kd.V_below (Kd.V_elderB (v_ HO_421001) gb429 (Nat.le_of_eq hg.symm)) hb)
              replace BK412 := mk0 (u_ BK412 hb)
              replace BK420 := mk0 (u_ BK420 hb)
              replace HB := mk0 (bt_ (b_ HB) hb)
              have BK429 := mk0 (hbox)
              have GW429 := n6_
              have GE429 := n7_
              have NB412_429 := n8_
              have NB429_412 := n9_
              have NB420_429 := n10_
              have NB429_420 := n11_
              clear n6_ n7_ n8_ n9_ n10_ n11_ hb hbox hg
              refine hK.out _ _ ⟨(blk_cell BK420.out 0).trans rfl, (blk_cell BK420.out 1).trans rfl, (blk_cell BK412.out 0).trans rfl, (blk_cell BK412.out 1).trans rfl, (blk_cell BK412.out 2).trans rfl, ((HB.out.cell (World.block_lt_of_cell? w _ hw421_0)).trans hw421_0), ((HB.out.cell (World.block_lt_of_cell? w _ hw421_1)).trans hw421_1), ((HB.out.cell (World.block_lt_of_cell? w _ hw421_2)).trans hw421_2)⟩ (fun hHeld => ?_)
              clear hK K
              refine norm_ (a' := ?_) ?_ ?_
              rotate_left
              ·show Act.put _ (some 5) _ = _
               simp only [z_]
               rfl
              refine one_ (i := 6) (N := some 30) (bt 13 1151) rfl rfl (one_of HT_.out (by kernel_rfl)) (by decide) (fun K hK => ?_)
              refine goes_ Try.func43 (by kernel_rfl) rfl #[.agg #[.slice Ao29 x421000_1.length co29, .slice Ao30 x421001_1.length co30], .agg #[.int .i64 ((rd_T64 l0_2 x4_1).f0), .int .i64 ((rd_T64 l0_2 x4_1).f1), .string ((rd_T64 l0_2 x4_1).f2)]] (by rfl) rfl rfl (by (try simp only [List.map_toArray, List.map_cons, List.map_nil]); first | done | rfl | (simp only [List.length_drop, List.length_take]; rfl)) ?_
              with_reducible refine (quorumlaw5_step.calls kj17 (fun k_ => ((k_ ≠ gb412 ∧ k_ ≠ gb420) ∧ k_ ≠ gb429)) _ _ x421000_1 (fun k_ => ((k_ ≠ gb412 ∧ k_ ≠ gb420) ∧ k_ ≠ gb429)) _ _ x421001_1 ((rd_T64 l0_2 x4_1).f0) ((rd_T64 l0_2 x4_1).f1) ((rd_T64 l0_2 x4_1).f2) t422 t425 true _ ?side1 ?side2 A27.out).mono ?_
              (case side1 => exact HO_421000.out)
              (case side2 => exact HO_421001.out)
              rintro e w33 ⟨v423, v426, rfl, ho0, ho1, hb⟩
              refine ⟨_, rfl, ?_⟩
              have n2_ := mk0 (Kd.V_lower (Kd.V_mono (ok' := fun k_ => k_ ≠ gb412 ∧ k_ ≠ gb420 ∧ k_ ≠ gb429) ho0 (fun k_ hk_ => ⟨Or.elim hk_ (fun hs_ => Or.elim hs_ (fun hs_ => hs_.1.1) (fun hs_ => hs_.1.1)) (fun hn_ => (Kd.freshB (g := gb412) (o := .cells #[.slice A0_0 l0_0.length c0_0, .slice A0_1 l0_1.length c0_1, .slice (some ad421) l0_2.length c0_2] 59 (0, 0)) (h_ BK412) k_ hn_)), Or.elim hk_ (fun hs_ => Or.elim hs_ (fun hs_ => hs_.1.2) (fun hs_ => hs_.1.2)) (fun hn_ => (Kd.freshB (g := gb420) (o := .cells #[.slice Ao29 x421000_1.length co29, .slice Ao30 x421001_1.length co30] 56 (0, 0)) (h_ BK420) k_ hn_)), Or.elim hk_ (fun hs_ => Or.elim hs_ (fun hs_ => hs_.2) (fun hs_ => hs_.2)) (fun hn_ => (Kd.freshB (g := gb429) (o := .cells #[.slice none 0 0, .slice none 0 0] 56 (0, 0)) (h_ BK429) k_ hn_))⟩)) (bz_ (b_ HB)))
              have n3_ := mk0 (Kd.V_lower (Kd.V_mono (ok' := fun k_ => k_ ≠ gb412 ∧ k_ ≠ gb420 ∧ k_ ≠ gb429) ho1 (fun k_ hk_ => ⟨Or.elim hk_ (fun hs_ => Or.elim hs_ (fun hs_ => hs_.1.1) (fun hs_ => hs_.1.1)) (fun hn_ => (Kd.freshB (g := gb412) (o := .cells #[.slice A0_0 l0_0.length c0_0, .slice A0_1 l0_1.length c0_1, .slice (some ad421) l0_2.length c0_2] 59 (0, 0)) (h_ BK412) k_ hn_)), Or.elim hk_ (fun hs_ => Or.elim hs_ (fun hs_ => hs_.1.2) (fun hs_ => hs_.1.2)) (fun hn_ => (Kd.freshB (g := gb420) (o := .cells #[.slice Ao29 x421000_1.length co29, .slice Ao30 x421001_1.length co30] 56 (0, 0)) (h_ BK420) k_ hn_)), Or.elim hk_ (fun hs_ => Or.elim hs_ (fun hs_ => hs_.2) (fun hs_ => hs_.2)) (fun hn_ => (Kd.freshB (g := gb429) (o := .cells #[.slice none 0 0, .slice none 0 0] 56 (0, 0)) (h_ BK429) k_ hn_))⟩)) (bz_ (b_ HB)))
              replace HO_421000 := mk0 (Kd.V_below (v_ HO_421000) hb)
              replace HO_421001 := mk0 (Kd.V_below (v_ HO_421001) hb)
              replace BK412 := mk0 (u_ BK412 hb)
              replace BK420 := mk0 (u_ BK420 hb)
              replace BK429 := mk0 (u_ BK429 hb)
              replace HB := mk0 (bt_ (b_ HB) hb)
              have HO424 := n2_
              have HO427 := n3_
              clear n2_ n3_
              (try clear hb)
              (try clear hb2)
              (try clear hk)
              (try clear hi)
              (try clear ho0)
              (try clear ho1)
              refine hK.out _ _ ⟨(blk_cell BK420.out 0).trans rfl, (blk_cell BK420.out 1).trans rfl, (blk_cell BK412.out 0).trans rfl, (blk_cell BK412.out 1).trans rfl, (blk_cell BK412.out 2).trans rfl, ((HB.out.cell (World.block_lt_of_cell? w _ hw421_0)).trans hw421_0), ((HB.out.cell (World.block_lt_of_cell? w _ hw421_1)).trans hw421_1), ((HB.out.cell (World.block_lt_of_cell? w _ hw421_2)).trans hw421_2)⟩ (fun hHeld => ?_)
              clear hK K
              refine norm_ (a' := ?_) ?_ ?_
              rotate_left
              ·show Act.put _ (some 30) _ = _
               simp only [z_]
               rfl
              refine pq_ HT_.out 7 23 (bt 13 1279) (h := ?_)
              refine pq_ HT_.out 8 31 (bt 13 1535) (h := ?_)
              refine pq_ HT_.out 9 32 (bt 13 2047) (h := ?_)
              exact norm_ (by simp only [putAll, Act.put, List.setIfInBounds_toArray, List.set_cons_zero, List.set_cons_succ]) (hCont (v423, v426, gb429) _ ⟨hHeld, (v_ HO424), (v_ HO427), (v2_ (Kd.V_mono HO_421000.out (fun _ hk => ⟨hk.1.1, ⟨hk.1.2, hk.2⟩⟩))), (v2_ (Kd.V_mono HO_421001.out (fun _ hk => ⟨hk.1.1, ⟨hk.1.2, hk.2⟩⟩))), (h_ BK412), (h_ BK420), (h_ BK429), GW429.out, GE429.out, NB412_429.out, NB429_412.out, NB420_429.out, NB429_420.out, (b_ HB)⟩)
            rintro ⟨v423, v426, gb429⟩ w34 ⟨hS_, h0_, h1_, h2_, h3_, h4_, h5_, h6_, h7_, h8_, h9_, h10_, h11_, h12_, h13_⟩
            have n0_ : Fc (Kd.V Kd.string 9 w34 w.heap.size (fun k_ => k_ ≠ gb412 ∧ k_ ≠ gb420 ∧ k_ ≠ gb429) v423 t422) := ⟨h0_⟩
            have n1_ : Fc (Kd.V (Kd.int .i64) 3 w34 w.heap.size (fun k_ => k_ ≠ gb412 ∧ k_ ≠ gb420 ∧ k_ ≠ gb429) v426 t425) := ⟨h1_⟩
            have n2_ : Fc (Kd.V Kd.string 9 w34 w.heap.size (fun k_ => k_ ≠ gb412 ∧ k_ ≠ gb420 ∧ k_ ≠ gb429) (.slice Ao29 x421000_1.length co29) x421000_1) := ⟨h2_⟩
            have n3_ : Fc (Kd.V (Kd.int .i64) 3 w34 w.heap.size (fun k_ => k_ ≠ gb412 ∧ k_ ≠ gb420 ∧ k_ ≠ gb429) (.slice Ao30 x421001_1.length co30) x421001_1) := ⟨h3_⟩
            have n4_ : Fc (w34.heap[gb412]? = some (.cells #[.slice A0_0 l0_0.length c0_0, .slice A0_1 l0_1.length c0_1, .slice (some ad421) l0_2.length c0_2] 59 (0, 0))) := ⟨h4_⟩
            have n5_ : Fc (w34.heap[gb420]? = some (.cells #[.slice Ao29 x421000_1.length co29, .slice Ao30 x421001_1.length co30] 56 (0, 0))) := ⟨h5_⟩
            have n6_ : Fc (w34.heap[gb429]? = some (.cells #[.slice none 0 0, .slice none 0 0] 56 (0, 0))) := ⟨h6_⟩
            have n7_ : Fc (w.heap.size ≤ gb429) := ⟨h7_⟩
            have n8_ : Fc (w.heap.size ≤ gb429) := ⟨h8_⟩
            have n9_ : Fc (gb412 ≠ gb429) := ⟨h9_⟩
            have n10_ : Fc (gb429 ≠ gb412) := ⟨h10_⟩
            have n11_ : Fc (gb420 ≠ gb429) := ⟨h11_⟩
            have n12_ : Fc (gb429 ≠ gb420) := ⟨h12_⟩
            have n13_ : Fc (Below w.heap.size w w34) := ⟨h13_⟩
            clear HO_421000 HO_421001 BK412 BK420 HB h0_ h1_ h2_ h3_ h4_ h5_ h6_ h7_ h8_ h9_ h10_ h11_ h12_ h13_
            have HO424 := n0_
            have HO427 := n1_
            have HO_421000 := n2_
            have HO_421001 := n3_
            have BK412 := n4_
            have BK420 := n5_
            have BK429 := n6_
            have GW429 := n7_
            have GE429 := n8_
            have NB412_429 := n9_
            have NB429_412 := n10_
            have NB420_429 := n11_
            have NB429_420 := n12_
            have HB := n13_
            clear n0_ n1_ n2_ n3_ n4_ n5_ n6_ n7_ n8_ n9_ n10_ n11_ n12_ n13_
            have hHeld : w34.cell? ⟨gb420, 0, none⟩ = some (.slice Ao29 x421000_1.length co29) ∧ w34.cell? ⟨gb420, 1, none⟩ = some (.slice Ao30 x421001_1.length co30) ∧ w34.cell? ⟨gb412, 0, none⟩ = some (.slice A0_0 l0_0.length c0_0) ∧ w34.cell? ⟨gb412, 1, none⟩ = some (.slice A0_1 l0_1.length c0_1) ∧ w34.cell? ⟨gb412, 2, none⟩ = some (.slice (some ad421) l0_2.length c0_2) ∧ w34.cell? (ad421.add ((x4_1).toNat * 3)) = some (.int .i64 ((rd_T64 l0_2 x4_1).f0)) ∧ w34.cell? ⟨(ad421.add ((x4_1).toNat * 3)).block, (ad421.add ((x4_1).toNat * 3)).off + 1, none⟩ = some (.int .i64 ((rd_T64 l0_2 x4_1).f1)) ∧ w34.cell? ⟨(ad421.add ((x4_1).toNat * 3)).block, (ad421.add ((x4_1).toNat * 3)).off + 2, none⟩ = some (.string ((rd_T64 l0_2 x4_1).f2)) := hS_
            obtain ⟨Ao35, co35, eo35⟩ := Kd.V_slice HO424.out
            (first | subst eo35 | (injection eo35 with f1_ f2_ f3_; have f4_ := f1_.symm; have f5_ := f3_.symm; clear f1_ f2_ f3_; subst f4_; subst f5_))
            obtain ⟨Ao37, co37, eo37⟩ := Kd.V_slice HO427.out
            (first | subst eo37 | (injection eo37 with f1_ f2_ f3_; have f4_ := f1_.symm; have f5_ := f3_.symm; clear f1_ f2_ f3_; subst f4_; subst f5_))
            refine norm_ (a' := ?_) ?_ ?_
            rotate_left
            ·simp only [putAll, Act.put, List.setIfInBounds_toArray, List.set_cons_zero, List.set_cons_succ]
             rfl
            refine one_ (i := 11) (N := none) (bt 13 4095) rfl rfl (one_of HT_.out (by kernel_rfl)) (by decide) (fun K hK => ?_)
            have hs36 : w34.cell? ⟨gb429, 0, none⟩ = some (.slice none 0 0) := (blk_cell BK429.out 0).trans rfl
            have hfs36 := blk_frozen BK429.out 0
            have hns36_0 := NB412_429.out
            have hns36_1 := NB420_429.out
            have hms36_0 := NB429_412.out
            have hms36_1 := NB429_420.out
            have hs38 : w34.cell? ⟨gb429, 1, none⟩ = some (.slice none 0 0) := (blk_cell BK429.out 1).trans rfl
            have hfs38 := blk_frozen BK429.out 1
            have hns38_0 := NB412_429.out
            have hns38_1 := NB420_429.out
            have hms38_0 := NB429_412.out
            have hms38_1 := NB429_420.out
            refine skip_ (w1 := ?_) (by rfl) rfl ?_ ?_
            rotate_left
            ·go_simp
             rfl
            refine hK.out _ _ ⟨((cell_far (p := ⟨gb429, _, none⟩) NB420_429.out _).trans (((cell_far (p := ⟨gb429, _, none⟩) NB420_429.out _).trans (hHeld.1)))), ((cell_far (p := ⟨gb429, _, none⟩) NB420_429.out _).trans (((cell_far (p := ⟨gb429, _, none⟩) NB420_429.out _).trans (hHeld.2.1)))), ((cell_far (p := ⟨gb429, _, none⟩) NB412_429.out _).trans (((cell_far (p := ⟨gb429, _, none⟩) NB412_429.out _).trans (hHeld.2.2.1)))), ((cell_far (p := ⟨gb429, _, none⟩) NB412_429.out _).trans (((cell_far (p := ⟨gb429, _, none⟩) NB412_429.out _).trans (hHeld.2.2.2.1)))), ((cell_far (p := ⟨gb429, _, none⟩) NB412_429.out _).trans (((cell_far (p := ⟨gb429, _, none⟩) NB412_429.out _).trans (hHeld.2.2.2.2.1)))), ((cell_far (p := ⟨gb429, _, none⟩) (by first | exact Nat.ne_of_lt (Nat.lt_of_lt_of_le (by have := World.block_lt_of_cell? _ _ hw421_0; first | rwa [add_block] at this | exact this) GW429.out) | (rw [add_block]; exact Nat.ne_of_lt (Nat.lt_of_lt_of_le (by have := World.block_lt_of_cell? _ _ hw421_0; first | rwa [add_block] at this | exact this) GW429.out)) | (show (Addr.add _ _).block ≠ _; rw [add_block]; exact Nat.ne_of_lt (Nat.lt_of_lt_of_le (by have := World.block_lt_of_cell? _ _ hw421_0; first | rwa [add_block] at this | exact this) GW429.out)) | (dsimp only; exact Nat.ne_of_lt (Nat.lt_of_lt_of_le (by have := World.block_lt_of_cell? _ _ hw421_0; first | rwa [add_block] at this | exact this) GW429.out))) _).trans (((cell_far (p := ⟨gb429, _, none⟩) (by first | exact Nat.ne_of_lt (Nat.lt_of_lt_of_le (by have := World.block_lt_of_cell? _ _ hw421_0; first | rwa [add_block] at this | exact this) GW429.out) | (rw [add_block]; exact Nat.ne_of_lt (Nat.lt_of_lt_of_le (by have := World.block_lt_of_cell? _ _ hw421_0; first | rwa [add_block] at this | exact this) GW429.out)) | (show (Addr.add _ _).block ≠ _; rw [add_block]; exact Nat.ne_of_lt (Nat.lt_of_lt_of_le (by have := World.block_lt_of_cell? _ _ hw421_0; first | rwa [add_block] at this | exact this) GW429.out)) | (dsimp only; exact Nat.ne_of_lt (Nat.lt_of_lt_of_le (by have := World.block_lt_of_cell? _ _ hw421_0; first | rwa [add_block] at this | exact this) GW429.out))) _).trans (hHeld.2.2.2.2.2.1)))), ((cell_far (p := ⟨gb429, _, none⟩) (by first | exact Nat.ne_of_lt (Nat.lt_of_lt_of_le (by have := World.block_lt_of_cell? _ _ hw421_1; first | rwa [add_block] at this | exact this) GW429.out) | (rw [add_block]; exact Nat.ne_of_lt (Nat.lt_of_lt_of_le (by have := World.block_lt_of_cell? _ _ hw421_1; first | rwa [add_block] at this | exact this) GW429.out)) | (show (Addr.add _ _).block ≠ _; rw [add_block]; exact Nat.ne_of_lt (Nat.lt_of_lt_of_le (by have := World.block_lt_of_cell? _ _ hw421_1; first | rwa [add_block] at this | exact this) GW429.out)) | (dsimp only; exact Nat.ne_of_lt (Nat.lt_of_lt_of_le (by have := World.block_lt_of_cell? _ _ hw421_1; first | rwa [add_block] at this | exact this) GW429.out))) _).trans (((cell_far (p := ⟨gb429, _, none⟩) (by first | exact Nat.ne_of_lt (Nat.lt_of_lt_of_le (by have := World.block_lt_of_cell? _ _ hw421_1; first | rwa [add_block] at this | exact this) GW429.out) | (rw [add_block]; exact Nat.ne_of_lt (Nat.lt_of_lt_of_le (by have := World.block_lt_of_cell? _ _ hw421_1; first | rwa [add_block] at this | exact this) GW429.out)) | (show (Addr.add _ _).block ≠ _; rw [add_block]; exact Nat.ne_of_lt (Nat.lt_of_lt_of_le (by have := World.block_lt_of_cell? _ _ hw421_1; first | rwa [add_block] at this | exact this) GW429.out)) | (dsimp only; exact Nat.ne_of_lt (Nat.lt_of_lt_of_le (by have := World.block_lt_of_cell? _ _ hw421_1; first | rwa [add_block] at this | exact this) GW429.out))) _).trans (hHeld.2.2.2.2.2.2.1)))), ((cell_far (p := ⟨gb429, _, none⟩) (by first | exact Nat.ne_of_lt (Nat.lt_of_lt_of_le (by have := World.block_lt_of_cell? _ _ hw421_2; first | rwa [add_block] at this | exact this) GW429.out) | (rw [add_block]; exact Nat.ne_of_lt (Nat.lt_of_lt_of_le (by have := World.block_lt_of_cell? _ _ hw421_2; first | rwa [add_block] at this | exact this) GW429.out)) | (show (Addr.add _ _).block ≠ _; rw [add_block]; exact Nat.ne_of_lt (Nat.lt_of_lt_of_le (by have := World.block_lt_of_cell? _ _ hw421_2; first | rwa [add_block] at this | exact this) GW429.out)) | (dsimp only; exact Nat.ne_of_lt (Nat.lt_of_lt_of_le (by have := World.block_lt_of_cell? _ _ hw421_2; first | rwa [add_block] at this | exact this) GW429.out))) _).trans (((cell_far (p := ⟨gb429, _, none⟩) (by first | exact Nat.ne_of_lt (Nat.lt_of_lt_of_le (by have := World.block_lt_of_cell? _ _ hw421_2; first | rwa [add_block] at this | exact this) GW429.out) | (rw [add_block]; exact Nat.ne_of_lt (Nat.lt_of_lt_of_le (by have := World.block_lt_of_cell? _ _ hw421_2; first | rwa [add_block] at this | exact this) GW429.out)) | (show (Addr.add _ _).block ≠ _; rw [add_block]; exact Nat.ne_of_lt (Nat.lt_of_lt_of_le (by have := World.block_lt_of_cell? _ _ hw421_2; first | rwa [add_block] at this | exact this) GW429.out)) | (dsimp only; exact Nat.ne_of_lt (Nat.lt_of_lt_of_le (by have := World.block_lt_of_cell? _ _ hw421_2; first | rwa [add_block] at this | exact this) GW429.out))) _).trans (hHeld.2.2.2.2.2.2.2))))⟩ (fun hHeld => ?_)
            clear hK K
            refine pq_ HT_.out 12 6 (bt 13 8191) (h := ?_)
            refine done_ (done_of HT_.out (by kernel_rfl)) ?_
            have hnb39 := NB429_412.out
            have hnc39 := NB412_429.out
            have hnb40 := NB429_420.out
            have hnc40 := NB420_429.out
            obtain ⟨hcz41_0, hcz41_1, hfz41_0, hfz41_1⟩ := c2_ BK429
            have hnb42 := NB420_412.out
            have hnc42 := NB412_420.out
            obtain ⟨hcz43_0, hcz43_1, hfz43_0, hfz43_1⟩ := c2_ BK420
            try go_wp2
            go_roundg kj17
            case measure => have := HK1.out; have := HJ17.out; omega
            case rel => exact ⟨(wrap64 (x4_1 + 1)), (t422), (t425), (.slice Ao35 t422.length co35), (.slice Ao37 t425.length co37), (by first | rfl | (simp; done) | (simp [*]; done)), H', ⟨by have := HK1.out; have := HJ17.out; omega⟩, ⟨by (with_reducible repeat (first | apply Kd.V_alloc | apply Kd.V_drewN | apply Kd.V_drew)); exact Kd.V_mono (Kd.V_far (p := ⟨gb420, 1, none⟩) (Kd.V_far (p := ⟨gb420, 0, none⟩) (Kd.V_far (p := ⟨gb429, 1, none⟩) (Kd.V_far (p := ⟨gb429, 0, none⟩) (Kd.V_mono (Kd.V_mono HO424.out (fun k_ hk => (⟨hk, hk.2.2⟩ : _ ∧ k_ ≠ gb429))) (fun k_ hk => (⟨hk, hk.1.2.1⟩ : _ ∧ k_ ≠ gb420))) (fun _ hk => hk.1.2) (.slice Ao35 t422.length co35)) (fun _ hk => hk.1.2) (.slice Ao37 t425.length co37)) (fun _ hk => hk.2) (.slice Ao35 t422.length co35)) (fun _ hk => hk.2) (.slice Ao37 t425.length co37)) (fun _ hk => ⟨hk.1.1.1, hk.1.1.2.1⟩)⟩, ⟨by (with_reducible repeat (first | apply Kd.V_alloc | apply Kd.V_drewN | apply Kd.V_drew)); exact Kd.V_mono (Kd.V_far (p := ⟨gb420, 1, none⟩) (Kd.V_far (p := ⟨gb420, 0, none⟩) (Kd.V_far (p := ⟨gb429, 1, none⟩) (Kd.V_far (p := ⟨gb429, 0, none⟩) (Kd.V_mono (Kd.V_mono HO427.out (fun k_ hk => (⟨hk, hk.2.2⟩ : _ ∧ k_ ≠ gb429))) (fun k_ hk => (⟨hk, hk.1.2.1⟩ : _ ∧ k_ ≠ gb420))) (fun _ hk => hk.1.2) (.slice Ao35 t422.length co35)) (fun _ hk => hk.1.2) (.slice Ao37 t425.length co37)) (fun _ hk => hk.2) (.slice Ao35 t422.length co35)) (fun _ hk => hk.2) (.slice Ao37 t425.length co37)) (fun _ hk => ⟨hk.1.1.1, hk.1.1.2.1⟩)⟩, ⟨(fa_ (fa_ (fa_ (fa_ (h_ BK412) NB412_429.out) NB412_429.out) NB412_420.out) NB412_420.out)⟩, ⟨(pu_ (cs := #[.slice Ao35 t422.length co35, .slice Ao30 x421001_1.length co30]) (pu_ (cs := #[.slice Ao29 x421000_1.length co29, .slice Ao30 x421001_1.length co30]) (fa_ (fa_ (h_ BK420) NB420_429.out) NB420_429.out)))⟩, ⟨b_ HB⟩⟩
           ·replace c28 := Bool.eq_false_iff.mpr c28
            subst c28
            rw [if_neg (show ¬ (false = true) by decide)] at H
            obtain rfl := Option.some.inj H
            obtain ⟨Ao44, co44, eo44⟩ := Kd.V_slice HO_421000.out
            subst eo44
            obtain ⟨Ao45, co45, eo45⟩ := Kd.V_slice HO_421001.out
            subst eo45
            try go_wp2
            replace HO_421000 := mk0 (Kd.V_drew HO_421000.out)
            replace HO_421001 := mk0 (Kd.V_drew HO_421001.out)
            replace BK412 := mk0 (bD_ BK412.out)
            replace BK420 := mk0 (bD_ BK420.out)
            replace HB := mk0 (b1_ HB.out)
            have p421 : 0 ≤ (x4_1 : Int) := of_decide_eq_true (by first | (with_reducible assumption) | assumption)
            have q421 : x4_1 < (l0_2.length : Int) := of_decide_eq_true (by first | (with_reducible assumption) | assumption)
            obtain ⟨ad421, e421, hx421_0, hx421_1, hx421_2⟩ := at_T64 HR0_2.out x4_1 p421 q421
            have hw421_2 := hx421_2
            have hw421_1 := hx421_1
            have hw421_0 := hx421_0
            cases e421
            replace hx421_0 := (HB.out.cell (World.block_lt_of_cell? w _ hx421_0)).trans hx421_0
            replace hx421_1 := (HB.out.cell (World.block_lt_of_cell? w _ hx421_1)).trans hx421_1
            replace hx421_2 := (HB.out.cell (World.block_lt_of_cell? w _ hx421_2)).trans hx421_2
            replace p421 := eq_true p421
            replace q421 := eq_true q421
            refine start_ (n := 13) (S := fun w' => w'.cell? ⟨gb420, 0, none⟩ = some (.slice Ao44 x421000_1.length co44) ∧ w'.cell? ⟨gb420, 1, none⟩ = some (.slice Ao45 x421001_1.length co45) ∧ w'.cell? ⟨gb412, 0, none⟩ = some (.slice A0_0 l0_0.length c0_0) ∧ w'.cell? ⟨gb412, 1, none⟩ = some (.slice A0_1 l0_1.length c0_1) ∧ w'.cell? ⟨gb412, 2, none⟩ = some (.slice (some ad421) l0_2.length c0_2) ∧ w'.cell? (ad421.add ((x4_1).toNat * 3)) = some (.int .i64 ((rd_T64 l0_2 x4_1).f0)) ∧ w'.cell? ⟨(ad421.add ((x4_1).toNat * 3)).block, (ad421.add ((x4_1).toNat * 3)).off + 1, none⟩ = some (.int .i64 ((rd_T64 l0_2 x4_1).f1)) ∧ w'.cell? ⟨(ad421.add ((x4_1).toNat * 3)).block, (ad421.add ((x4_1).toNat * 3)).off + 2, none⟩ = some (.string ((rd_T64 l0_2 x4_1).f2))) (ds := []) (bt 13 0) (by kernel_rfl) rfl rfl ⟨(blk_cell BK420.out 0).trans rfl, (blk_cell BK420.out 1).trans rfl, (blk_cell BK412.out 0).trans rfl, (blk_cell BK412.out 1).trans rfl, (blk_cell BK412.out 2).trans rfl, ((HB.out.cell (World.block_lt_of_cell? w _ hw421_0)).trans hw421_0), ((HB.out.cell (World.block_lt_of_cell? w _ hw421_1)).trans hw421_1), ((HB.out.cell (World.block_lt_of_cell? w _ hw421_2)).trans hw421_2)⟩ (fun hHeld => ?_); refine with_tabW quorumlaw5_PageExact.tab7 quorumlaw5_PageExact.bits7 (fun HT_ HW_ => ?_)
            generalize wc.drew = w46 at HO_421000 HO_421001 BK412 BK420 HB hx421_0 hx421_1 hx421_2 hHeld ⊢
            refine pq_ HT_.out 1 25 (bt 13 2) (h := ?_)
            refine pq_ HT_.out 3 27 (bt 13 10) (h := ?_)
            refine tq8_ HT_.out HW_.out 0 24 (bt 13 11) hHeld (h := ?_)
            refine tq8_ HT_.out HW_.out 2 26 (bt 13 15) hHeld (h := ?_)
            refine pq_ HT_.out 4 28 (bt 13 31) (h := ?_)
            refine tq8_ HT_.out HW_.out 5 29 (bt 13 63) hHeld (h := ?_)
            refine join_ (σ := Value × Value × Nat) 2 (bt 13 2047) (fun s_ => [(30, .tuple #[.agg #[s_.1, s_.2.1], .bool false]), (5, .pointer (some ⟨s_.2.2, 0, none⟩)), (23, .tuple #[.agg #[s_.1, s_.2.1], .bool false]), (31, .agg #[s_.1, s_.2.1]), (32, .bool false)]) (fun s_ w' => (w'.cell? ⟨gb420, 0, none⟩ = some (.slice Ao44 x421000_1.length co44) ∧ w'.cell? ⟨gb420, 1, none⟩ = some (.slice Ao45 x421001_1.length co45) ∧ w'.cell? ⟨gb412, 0, none⟩ = some (.slice A0_0 l0_0.length c0_0) ∧ w'.cell? ⟨gb412, 1, none⟩ = some (.slice A0_1 l0_1.length c0_1) ∧ w'.cell? ⟨gb412, 2, none⟩ = some (.slice (some ad421) l0_2.length c0_2) ∧ w'.cell? (ad421.add ((x4_1).toNat * 3)) = some (.int .i64 ((rd_T64 l0_2 x4_1).f0)) ∧ w'.cell? ⟨(ad421.add ((x4_1).toNat * 3)).block, (ad421.add ((x4_1).toNat * 3)).off + 1, none⟩ = some (.int .i64 ((rd_T64 l0_2 x4_1).f1)) ∧ w'.cell? ⟨(ad421.add ((x4_1).toNat * 3)).block, (ad421.add ((x4_1).toNat * 3)).off + 2, none⟩ = some (.string ((rd_T64 l0_2 x4_1).f2))) ∧ (Kd.V Kd.string 9 w' w.heap.size (fun k_ => k_ ≠ gb412 ∧ k_ ≠ gb420 ∧ k_ ≠ s_.2.2) s_.1 t422) ∧ (Kd.V (Kd.int .i64) 3 w' w.heap.size (fun k_ => k_ ≠ gb412 ∧ k_ ≠ gb420 ∧ k_ ≠ s_.2.2) s_.2.1 t425) ∧ (Kd.V Kd.string 9 w' w.heap.size (fun k_ => k_ ≠ gb412 ∧ k_ ≠ gb420 ∧ k_ ≠ s_.2.2) (.slice Ao44 x421000_1.length co44) x421000_1) ∧ (Kd.V (Kd.int .i64) 3 w' w.heap.size (fun k_ => k_ ≠ gb412 ∧ k_ ≠ gb420 ∧ k_ ≠ s_.2.2) (.slice Ao45 x421001_1.length co45) x421001_1) ∧ (w'.heap[gb412]? = some (.cells #[.slice A0_0 l0_0.length c0_0, .slice A0_1 l0_1.length c0_1, .slice (some ad421) l0_2.length c0_2] 59 (0, 0))) ∧ (w'.heap[gb420]? = some (.cells #[.slice Ao44 x421000_1.length co44, .slice Ao45 x421001_1.length co45] 56 (0, 0))) ∧ (w'.heap[s_.2.2]? = some (.cells #[.slice none 0 0, .slice none 0 0] 56 (0, 0))) ∧ (w.heap.size ≤ s_.2.2) ∧ (w.heap.size ≤ s_.2.2) ∧ (gb412 ≠ s_.2.2) ∧ (s_.2.2 ≠ gb412) ∧ (gb420 ≠ s_.2.2) ∧ (s_.2.2 ≠ gb420) ∧ (Below w.heap.size w w')) ?_ ?_
            rotate_left
            ·intro hCont
             refine two_ (i := 6) (j := 10) (Ni := some 30) (Nj := some 5) (bt 13 127) (bt 13 1087) rfl rfl rfl rfl (two_of HT_.out (by kernel_rfl)) (by decide) (by decide) (fun K hK => ?_) (fun K hK => ?_)
             ·skip
              refine goes_ Try.func43 (by kernel_rfl) rfl #[.agg #[.slice Ao44 x421000_1.length co44, .slice Ao45 x421001_1.length co45], .agg #[.int .i64 ((rd_T64 l0_2 x4_1).f0), .int .i64 ((rd_T64 l0_2 x4_1).f1), .string ((rd_T64 l0_2 x4_1).f2)]] (by rfl) rfl rfl (by (try simp only [List.map_toArray, List.map_cons, List.map_nil]); first | done | rfl | (simp only [List.length_drop, List.length_take]; rfl)) ?_
              with_reducible refine (quorumlaw5_step.calls kj17 (fun k_ => (k_ ≠ gb412 ∧ k_ ≠ gb420)) _ _ x421000_1 (fun k_ => (k_ ≠ gb412 ∧ k_ ≠ gb420)) _ _ x421001_1 ((rd_T64 l0_2 x4_1).f0) ((rd_T64 l0_2 x4_1).f1) ((rd_T64 l0_2 x4_1).f2) t422 t425 false _ ?side1 ?side2 A27.out).mono ?_
              (case side1 => exact HO_421000.out)
              (case side2 => exact HO_421001.out)
              rintro e w47 ⟨v423, v426, rfl, ho0, ho1, hb⟩
              refine ⟨_, rfl, ?_⟩
              have n2_ := mk0 (Kd.V_lower (Kd.V_mono (ok' := fun k_ => k_ ≠ gb412 ∧ k_ ≠ gb420) ho0 (fun k_ hk_ => ⟨Or.elim hk_ (fun hs_ => Or.elim hs_ (fun hs_ => hs_.1) (fun hs_ => hs_.1)) (fun hn_ => (Kd.freshB (g := gb412) (o := .cells #[.slice A0_0 l0_0.length c0_0, .slice A0_1 l0_1.length c0_1, .slice (some ad421) l0_2.length c0_2] 59 (0, 0)) (h_ BK412) k_ hn_)), Or.elim hk_ (fun hs_ => Or.elim hs_ (fun hs_ => hs_.2) (fun hs_ => hs_.2)) (fun hn_ => (Kd.freshB (g := gb420) (o := .cells #[.slice Ao44 x421000_1.length co44, .slice Ao45 x421001_1.length co45] 56 (0, 0)) (h_ BK420) k_ hn_))⟩)) (bz_ (b_ HB)))
              have n3_ := mk0 (Kd.V_lower (Kd.V_mono (ok' := fun k_ => k_ ≠ gb412 ∧ k_ ≠ gb420) ho1 (fun k_ hk_ => ⟨Or.elim hk_ (fun hs_ => Or.elim hs_ (fun hs_ => hs_.1) (fun hs_ => hs_.1)) (fun hn_ => (Kd.freshB (g := gb412) (o := .cells #[.slice A0_0 l0_0.length c0_0, .slice A0_1 l0_1.length c0_1, .slice (some ad421) l0_2.length c0_2] 59 (0, 0)) (h_ BK412) k_ hn_)), Or.elim hk_ (fun hs_ => Or.elim hs_ (fun hs_ => hs_.2) (fun hs_ => hs_.2)) (fun hn_ => (Kd.freshB (g := gb420) (o := .cells #[.slice Ao44 x421000_1.length co44, .slice Ao45 x421001_1.length co45] 56 (0, 0)) (h_ BK420) k_ hn_))⟩)) (bz_ (b_ HB)))
              replace HO_421000 := mk0 (Kd.V_below (v_ HO_421000) hb)
              replace HO_421001 := mk0 (Kd.V_below (v_ HO_421001) hb)
              replace BK412 := mk0 (u_ BK412 hb)
              replace BK420 := mk0 (u_ BK420 hb)
              replace HB := mk0 (bt_ (b_ HB) hb)
              have HO424 := n2_
              have HO427 := n3_
              clear n2_ n3_
              (try clear hb)
              (try clear hb2)
              (try clear hk)
              (try clear hi)
              (try clear ho0)
              (try clear ho1)
              refine hK.out _ _ ⟨(blk_cell BK420.out 0).trans rfl, (blk_cell BK420.out 1).trans rfl, (blk_cell BK412.out 0).trans rfl, (blk_cell BK412.out 1).trans rfl, (blk_cell BK412.out 2).trans rfl, ((HB.out.cell (World.block_lt_of_cell? w _ hw421_0)).trans hw421_0), ((HB.out.cell (World.block_lt_of_cell? w _ hw421_1)).trans hw421_1), ((HB.out.cell (World.block_lt_of_cell? w _ hw421_2)).trans hw421_2)⟩ (fun hHeld => ?_)
              clear hK K
              refine norm_ (a' := ?_) ?_ ?_
              rotate_left
              ·show Act.put _ (some 30) _ = _
               simp only [z_]
               rfl
              refine pq_ HT_.out 7 23 (bt 13 255) (h := ?_)
              refine pq_ HT_.out 8 31 (bt 13 511) (h := ?_)
              refine pq_ HT_.out 9 32 (bt 13 1023) (h := ?_)
              refine one_ (i := 10) (N := some 5) (bt 13 2047) rfl rfl (one_of HT_.out (by kernel_rfl)) (by decide) (fun K hK => ?_)
              refine box_step ?hg (N := 5) ?hd (cs := #[.slice none 0 0, .slice none 0 0]) (t := 56) ?hr ?_; (case hd => rfl); (case hg => rfl); (case hr => first | (go_simp; done) | (go_simp; rfl))
              intro gb429 hg w48 hbox hb
              have n8_ := mk0 (gz_ HB hg)
              have n9_ := mk0 (gz_ HB hg)
              have n10_ := mk0 (ne1_ BK412 hg)
              have n11_ := mk0 (ne2_ BK412 hg)
              have n12_ := mk0 (ne1_ BK420 hg)
              have n13_ := mk0 (ne2_ BK420 hg)
              replace HO_421000 := mk0 (Kd.V_below (Kd.V_elderB (v_ HO_421000) gb429 (Nat.le_of_eq hg.symm)) hb)
              replace HO_421001 := mk0 (Kd.V_below (Kd.V_elderB (v_ HO_421001) gb429 (Nat.le_of_eq hg.symm)) hb)
              replace HO424 := mk0 (Kd.V_below (Kd.V_elderB (v_ HO424) gb429 (Nat.le_of_eq hg.symm)) hb)
              replace HO427 := mk0 (Kd.V_below (Kd.V_elderB (v_ HO427) gb429 (Nat.le_of_eq hg.symm)) hb)
              replace BK412 := mk0 (u_ BK412 hb)
              replace BK420 := mk0 (u_ BK420 hb)
              replace HB := mk0 (bt_ (b_ HB) hb)
              have BK429 := mk0 (hbox)
              have GW429 := n8_
              have GE429 := n9_
              have NB412_429 := n10_
              have NB429_412 := n11_
              have NB420_429 := n12_
              have NB429_420 := n13_
              clear n8_ n9_ n10_ n11_ n12_ n13_ hb hbox hg
              refine hK.out _ _ ⟨(blk_cell BK420.out 0).trans rfl, (blk_cell BK420.out 1).trans rfl, (blk_cell BK412.out 0).trans rfl, (blk_cell BK412.out 1).trans rfl, (blk_cell BK412.out 2).trans rfl, ((HB.out.cell (World.block_lt_of_cell? w _ hw421_0)).trans hw421_0), ((HB.out.cell (World.block_lt_of_cell? w _ hw421_1)).trans hw421_1), ((HB.out.cell (World.block_lt_of_cell? w _ hw421_2)).trans hw421_2)⟩ (fun hHeld => ?_)
              clear hK K
              refine norm_ (a' := ?_) ?_ ?_
              rotate_left
              ·show Act.put _ (some 5) _ = _
               simp only [z_]
               rfl
              exact norm_ (by simp only [putAll, Act.put, List.setIfInBounds_toArray, List.set_cons_zero, List.set_cons_succ]) (hCont (v423, v426, gb429) _ ⟨hHeld, (v2_ (Kd.V_mono HO424.out (fun _ hk => ⟨hk.1.1, ⟨hk.1.2, hk.2⟩⟩))), (v2_ (Kd.V_mono HO427.out (fun _ hk => ⟨hk.1.1, ⟨hk.1.2, hk.2⟩⟩))), (v2_ (Kd.V_mono HO_421000.out (fun _ hk => ⟨hk.1.1, ⟨hk.1.2, hk.2⟩⟩))), (v2_ (Kd.V_mono HO_421001.out (fun _ hk => ⟨hk.1.1, ⟨hk.1.2, hk.2⟩⟩))), (h_ BK412), (h_ BK420), (h_ BK429), GW429.out, GE429.out, NB412_429.out, NB429_412.out, NB420_429.out, NB429_420.out, (b_ HB)⟩)
             ·skip
              refine box_step ?hg (N := 5) ?hd (cs := #[.slice none 0 0, .slice none 0 0]) (t := 56) ?hr ?_; (case hd => rfl); (case hg => rfl); (case hr => first | (go_simp; done) | (go_simp; rfl))
              intro gb429 hg w47 hbox hb
              have n6_ := mk0 (gz_ HB hg)
              have n7_ := mk0 (gz_ HB hg)
              have n8_ := mk0 (ne1_ BK412 hg)
              have n9_ := mk0 (ne2_ BK412 hg)
              have n10_ := mk0 (ne1_ BK420 hg)
              have n11_ := mk0 (ne2_ BK420 hg)
              replace HO_421000 := mk0 (Kd.V_below (Kd.V_elderB (v_ HO_421000) gb429 (Nat.le_of_eq hg.symm)) hb)
              replace HO_421001 := mk0 (Kd.V_below (Kd.V_elderB (v_ HO_421001) gb429 (Nat.le_of_eq hg.symm)) hb)
              replace BK412 := mk0 (u_ BK412 hb)
              replace BK420 := mk0 (u_ BK420 hb)
              replace HB := mk0 (bt_ (b_ HB) hb)
              have BK429 := mk0 (hbox)
              have GW429 := n6_
              have GE429 := n7_
              have NB412_429 := n8_
              have NB429_412 := n9_
              have NB420_429 := n10_
              have NB429_420 := n11_
              clear n6_ n7_ n8_ n9_ n10_ n11_ hb hbox hg
              refine hK.out _ _ ⟨(blk_cell BK420.out 0).trans rfl, (blk_cell BK420.out 1).trans rfl, (blk_cell BK412.out 0).trans rfl, (blk_cell BK412.out 1).trans rfl, (blk_cell BK412.out 2).trans rfl, ((HB.out.cell (World.block_lt_of_cell? w _ hw421_0)).trans hw421_0), ((HB.out.cell (World.block_lt_of_cell? w _ hw421_1)).trans hw421_1), ((HB.out.cell (World.block_lt_of_cell? w _ hw421_2)).trans hw421_2)⟩ (fun hHeld => ?_)
              clear hK K
              refine norm_ (a' := ?_) ?_ ?_
              rotate_left
              ·show Act.put _ (some 5) _ = _
               simp only [z_]
               rfl
              refine one_ (i := 6) (N := some 30) (bt 13 1151) rfl rfl (one_of HT_.out (by kernel_rfl)) (by decide) (fun K hK => ?_)
              refine goes_ Try.func43 (by kernel_rfl) rfl #[.agg #[.slice Ao44 x421000_1.length co44, .slice Ao45 x421001_1.length co45], .agg #[.int .i64 ((rd_T64 l0_2 x4_1).f0), .int .i64 ((rd_T64 l0_2 x4_1).f1), .string ((rd_T64 l0_2 x4_1).f2)]] (by rfl) rfl rfl (by (try simp only [List.map_toArray, List.map_cons, List.map_nil]); first | done | rfl | (simp only [List.length_drop, List.length_take]; rfl)) ?_
              with_reducible refine (quorumlaw5_step.calls kj17 (fun k_ => ((k_ ≠ gb412 ∧ k_ ≠ gb420) ∧ k_ ≠ gb429)) _ _ x421000_1 (fun k_ => ((k_ ≠ gb412 ∧ k_ ≠ gb420) ∧ k_ ≠ gb429)) _ _ x421001_1 ((rd_T64 l0_2 x4_1).f0) ((rd_T64 l0_2 x4_1).f1) ((rd_T64 l0_2 x4_1).f2) t422 t425 false _ ?side1 ?side2 A27.out).mono ?_
              (case side1 => exact HO_421000.out)
              (case side2 => exact HO_421001.out)
              rintro e w48 ⟨v423, v426, rfl, ho0, ho1, hb⟩
              refine ⟨_, rfl, ?_⟩
              have n2_ := mk0 (Kd.V_lower (Kd.V_mono (ok' := fun k_ => k_ ≠ gb412 ∧ k_ ≠ gb420 ∧ k_ ≠ gb429) ho0 (fun k_ hk_ => ⟨Or.elim hk_ (fun hs_ => Or.elim hs_ (fun hs_ => hs_.1.1) (fun hs_ => hs_.1.1)) (fun hn_ => (Kd.freshB (g := gb412) (o := .cells #[.slice A0_0 l0_0.length c0_0, .slice A0_1 l0_1.length c0_1, .slice (some ad421) l0_2.length c0_2] 59 (0, 0)) (h_ BK412) k_ hn_)), Or.elim hk_ (fun hs_ => Or.elim hs_ (fun hs_ => hs_.1.2) (fun hs_ => hs_.1.2)) (fun hn_ => (Kd.freshB (g := gb420) (o := .cells #[.slice Ao44 x421000_1.length co44, .slice Ao45 x421001_1.length co45] 56 (0, 0)) (h_ BK420) k_ hn_)), Or.elim hk_ (fun hs_ => Or.elim hs_ (fun hs_ => hs_.2) (fun hs_ => hs_.2)) (fun hn_ => (Kd.freshB (g := gb429) (o := .cells #[.slice none 0 0, .slice none 0 0] 56 (0, 0)) (h_ BK429) k_ hn_))⟩)) (bz_ (b_ HB)))
              have n3_ := mk0 (Kd.V_lower (Kd.V_mono (ok' := fun k_ => k_ ≠ gb412 ∧ k_ ≠ gb420 ∧ k_ ≠ gb429) ho1 (fun k_ hk_ => ⟨Or.elim hk_ (fun hs_ => Or.elim hs_ (fun hs_ => hs_.1.1) (fun hs_ => hs_.1.1)) (fun hn_ => (Kd.freshB (g := gb412) (o := .cells #[.slice A0_0 l0_0.length c0_0, .slice A0_1 l0_1.length c0_1, .slice (some ad421) l0_2.length c0_2] 59 (0, 0)) (h_ BK412) k_ hn_)), Or.elim hk_ (fun hs_ => Or.elim hs_ (fun hs_ => hs_.1.2) (fun hs_ => hs_.1.2)) (fun hn_ => (Kd.freshB (g := gb420) (o := .cells #[.slice Ao44 x421000_1.length co44, .slice Ao45 x421001_1.length co45] 56 (0, 0)) (h_ BK420) k_ hn_)), Or.elim hk_ (fun hs_ => Or.elim hs_ (fun hs_ => hs_.2) (fun hs_ => hs_.2)) (fun hn_ => (Kd.freshB (g := gb429) (o := .cells #[.slice none 0 0, .slice none 0 0] 56 (0, 0)) (h_ BK429) k_ hn_))⟩)) (bz_ (b_ HB)))
              replace HO_421000 := mk0 (Kd.V_below (v_ HO_421000) hb)
              replace HO_421001 := mk0 (Kd.V_below (v_ HO_421001) hb)
              replace BK412 := mk0 (u_ BK412 hb)
              replace BK420 := mk0 (u_ BK420 hb)
              replace BK429 := mk0 (u_ BK429 hb)
              replace HB := mk0 (bt_ (b_ HB) hb)
              have HO424 := n2_
              have HO427 := n3_
              clear n2_ n3_
              (try clear hb)
              (try clear hb2)
              (try clear hk)
              (try clear hi)
              (try clear ho0)
              (try clear ho1)
              refine hK.out _ _ ⟨(blk_cell BK420.out 0).trans rfl, (blk_cell BK420.out 1).trans rfl, (blk_cell BK412.out 0).trans rfl, (blk_cell BK412.out 1).trans rfl, (blk_cell BK412.out 2).trans rfl, ((HB.out.cell (World.block_lt_of_cell? w _ hw421_0)).trans hw421_0), ((HB.out.cell (World.block_lt_of_cell? w _ hw421_1)).trans hw421_1), ((HB.out.cell (World.block_lt_of_cell? w _ hw421_2)).trans hw421_2)⟩ (fun hHeld => ?_)
              clear hK K
              refine norm_ (a' := ?_) ?_ ?_
              rotate_left
              ·show Act.put _ (some 30) _ = _
               simp only [z_]
               rfl
              refine pq_ HT_.out 7 23 (bt 13 1279) (h := ?_)
              refine pq_ HT_.out 8 31 (bt 13 1535) (h := ?_)
              refine pq_ HT_.out 9 32 (bt 13 2047) (h := ?_)
              exact norm_ (by simp only [putAll, Act.put, List.setIfInBounds_toArray, List.set_cons_zero, List.set_cons_succ]) (hCont (v423, v426, gb429) _ ⟨hHeld, (v_ HO424), (v_ HO427), (v2_ (Kd.V_mono HO_421000.out (fun _ hk => ⟨hk.1.1, ⟨hk.1.2, hk.2⟩⟩))), (v2_ (Kd.V_mono HO_421001.out (fun _ hk => ⟨hk.1.1, ⟨hk.1.2, hk.2⟩⟩))), (h_ BK412), (h_ BK420), (h_ BK429), GW429.out, GE429.out, NB412_429.out, NB429_412.out, NB420_429.out, NB429_420.out, (b_ HB)⟩)
            rintro ⟨v423, v426, gb429⟩ w49 ⟨hS_, h0_, h1_, h2_, h3_, h4_, h5_, h6_, h7_, h8_, h9_, h10_, h11_, h12_, h13_⟩
            have n0_ : Fc (Kd.V Kd.string 9 w49 w.heap.size (fun k_ => k_ ≠ gb412 ∧ k_ ≠ gb420 ∧ k_ ≠ gb429) v423 t422) := ⟨h0_⟩
            have n1_ : Fc (Kd.V (Kd.int .i64) 3 w49 w.heap.size (fun k_ => k_ ≠ gb412 ∧ k_ ≠ gb420 ∧ k_ ≠ gb429) v426 t425) := ⟨h1_⟩
            have n2_ : Fc (Kd.V Kd.string 9 w49 w.heap.size (fun k_ => k_ ≠ gb412 ∧ k_ ≠ gb420 ∧ k_ ≠ gb429) (.slice Ao44 x421000_1.length co44) x421000_1) := ⟨h2_⟩
            have n3_ : Fc (Kd.V (Kd.int .i64) 3 w49 w.heap.size (fun k_ => k_ ≠ gb412 ∧ k_ ≠ gb420 ∧ k_ ≠ gb429) (.slice Ao45 x421001_1.length co45) x421001_1) := ⟨h3_⟩
            have n4_ : Fc (w49.heap[gb412]? = some (.cells #[.slice A0_0 l0_0.length c0_0, .slice A0_1 l0_1.length c0_1, .slice (some ad421) l0_2.length c0_2] 59 (0, 0))) := ⟨h4_⟩
            have n5_ : Fc (w49.heap[gb420]? = some (.cells #[.slice Ao44 x421000_1.length co44, .slice Ao45 x421001_1.length co45] 56 (0, 0))) := ⟨h5_⟩
            have n6_ : Fc (w49.heap[gb429]? = some (.cells #[.slice none 0 0, .slice none 0 0] 56 (0, 0))) := ⟨h6_⟩
            have n7_ : Fc (w.heap.size ≤ gb429) := ⟨h7_⟩
            have n8_ : Fc (w.heap.size ≤ gb429) := ⟨h8_⟩
            have n9_ : Fc (gb412 ≠ gb429) := ⟨h9_⟩
            have n10_ : Fc (gb429 ≠ gb412) := ⟨h10_⟩
            have n11_ : Fc (gb420 ≠ gb429) := ⟨h11_⟩
            have n12_ : Fc (gb429 ≠ gb420) := ⟨h12_⟩
            have n13_ : Fc (Below w.heap.size w w49) := ⟨h13_⟩
            clear HO_421000 HO_421001 BK412 BK420 HB h0_ h1_ h2_ h3_ h4_ h5_ h6_ h7_ h8_ h9_ h10_ h11_ h12_ h13_
            have HO424 := n0_
            have HO427 := n1_
            have HO_421000 := n2_
            have HO_421001 := n3_
            have BK412 := n4_
            have BK420 := n5_
            have BK429 := n6_
            have GW429 := n7_
            have GE429 := n8_
            have NB412_429 := n9_
            have NB429_412 := n10_
            have NB420_429 := n11_
            have NB429_420 := n12_
            have HB := n13_
            clear n0_ n1_ n2_ n3_ n4_ n5_ n6_ n7_ n8_ n9_ n10_ n11_ n12_ n13_
            have hHeld : w49.cell? ⟨gb420, 0, none⟩ = some (.slice Ao44 x421000_1.length co44) ∧ w49.cell? ⟨gb420, 1, none⟩ = some (.slice Ao45 x421001_1.length co45) ∧ w49.cell? ⟨gb412, 0, none⟩ = some (.slice A0_0 l0_0.length c0_0) ∧ w49.cell? ⟨gb412, 1, none⟩ = some (.slice A0_1 l0_1.length c0_1) ∧ w49.cell? ⟨gb412, 2, none⟩ = some (.slice (some ad421) l0_2.length c0_2) ∧ w49.cell? (ad421.add ((x4_1).toNat * 3)) = some (.int .i64 ((rd_T64 l0_2 x4_1).f0)) ∧ w49.cell? ⟨(ad421.add ((x4_1).toNat * 3)).block, (ad421.add ((x4_1).toNat * 3)).off + 1, none⟩ = some (.int .i64 ((rd_T64 l0_2 x4_1).f1)) ∧ w49.cell? ⟨(ad421.add ((x4_1).toNat * 3)).block, (ad421.add ((x4_1).toNat * 3)).off + 2, none⟩ = some (.string ((rd_T64 l0_2 x4_1).f2)) := hS_
            obtain ⟨Ao50, co50, eo50⟩ := Kd.V_slice HO424.out
            (first | subst eo50 | (injection eo50 with f1_ f2_ f3_; have f4_ := f1_.symm; have f5_ := f3_.symm; clear f1_ f2_ f3_; subst f4_; subst f5_))
            obtain ⟨Ao52, co52, eo52⟩ := Kd.V_slice HO427.out
            (first | subst eo52 | (injection eo52 with f1_ f2_ f3_; have f4_ := f1_.symm; have f5_ := f3_.symm; clear f1_ f2_ f3_; subst f4_; subst f5_))
            refine norm_ (a' := ?_) ?_ ?_
            rotate_left
            ·simp only [putAll, Act.put, List.setIfInBounds_toArray, List.set_cons_zero, List.set_cons_succ]
             rfl
            refine one_ (i := 11) (N := none) (bt 13 4095) rfl rfl (one_of HT_.out (by kernel_rfl)) (by decide) (fun K hK => ?_)
            have hs51 : w49.cell? ⟨gb429, 0, none⟩ = some (.slice none 0 0) := (blk_cell BK429.out 0).trans rfl
            have hfs51 := blk_frozen BK429.out 0
            have hns51_0 := NB412_429.out
            have hns51_1 := NB420_429.out
            have hms51_0 := NB429_412.out
            have hms51_1 := NB429_420.out
            have hs53 : w49.cell? ⟨gb429, 1, none⟩ = some (.slice none 0 0) := (blk_cell BK429.out 1).trans rfl
            have hfs53 := blk_frozen BK429.out 1
            have hns53_0 := NB412_429.out
            have hns53_1 := NB420_429.out
            have hms53_0 := NB429_412.out
            have hms53_1 := NB429_420.out
            refine skip_ (w1 := ?_) (by rfl) rfl ?_ ?_
            rotate_left
            ·go_simp
             rfl
            refine hK.out _ _ ⟨((cell_far (p := ⟨gb429, _, none⟩) NB420_429.out _).trans (((cell_far (p := ⟨gb429, _, none⟩) NB420_429.out _).trans (hHeld.1)))), ((cell_far (p := ⟨gb429, _, none⟩) NB420_429.out _).trans (((cell_far (p := ⟨gb429, _, none⟩) NB420_429.out _).trans (hHeld.2.1)))), ((cell_far (p := ⟨gb429, _, none⟩) NB412_429.out _).trans (((cell_far (p := ⟨gb429, _, none⟩) NB412_429.out _).trans (hHeld.2.2.1)))), ((cell_far (p := ⟨gb429, _, none⟩) NB412_429.out _).trans (((cell_far (p := ⟨gb429, _, none⟩) NB412_429.out _).trans (hHeld.2.2.2.1)))), ((cell_far (p := ⟨gb429, _, none⟩) NB412_429.out _).trans (((cell_far (p := ⟨gb429, _, none⟩) NB412_429.out _).trans (hHeld.2.2.2.2.1)))), ((cell_far (p := ⟨gb429, _, none⟩) (by first | exact Nat.ne_of_lt (Nat.lt_of_lt_of_le (by have := World.block_lt_of_cell? _ _ hw421_0; first | rwa [add_block] at this | exact this) GW429.out) | (rw [add_block]; exact Nat.ne_of_lt (Nat.lt_of_lt_of_le (by have := World.block_lt_of_cell? _ _ hw421_0; first | rwa [add_block] at this | exact this) GW429.out)) | (show (Addr.add _ _).block ≠ _; rw [add_block]; exact Nat.ne_of_lt (Nat.lt_of_lt_of_le (by have := World.block_lt_of_cell? _ _ hw421_0; first | rwa [add_block] at this | exact this) GW429.out)) | (dsimp only; exact Nat.ne_of_lt (Nat.lt_of_lt_of_le (by have := World.block_lt_of_cell? _ _ hw421_0; first | rwa [add_block] at this | exact this) GW429.out))) _).trans (((cell_far (p := ⟨gb429, _, none⟩) (by first | exact Nat.ne_of_lt (Nat.lt_of_lt_of_le (by have := World.block_lt_of_cell? _ _ hw421_0; first | rwa [add_block] at this | exact this) GW429.out) | (rw [add_block]; exact Nat.ne_of_lt (Nat.lt_of_lt_of_le (by have := World.block_lt_of_cell? _ _ hw421_0; first | rwa [add_block] at this | exact this) GW429.out)) | (show (Addr.add _ _).block ≠ _; rw [add_block]; exact Nat.ne_of_lt (Nat.lt_of_lt_of_le (by have := World.block_lt_of_cell? _ _ hw421_0; first | rwa [add_block] at this | exact this) GW429.out)) | (dsimp only; exact Nat.ne_of_lt (Nat.lt_of_lt_of_le (by have := World.block_lt_of_cell? _ _ hw421_0; first | rwa [add_block] at this | exact this) GW429.out))) _).trans (hHeld.2.2.2.2.2.1)))), ((cell_far (p := ⟨gb429, _, none⟩) (by first | exact Nat.ne_of_lt (Nat.lt_of_lt_of_le (by have := World.block_lt_of_cell? _ _ hw421_1; first | rwa [add_block] at this | exact this) GW429.out) | (rw [add_block]; exact Nat.ne_of_lt (Nat.lt_of_lt_of_le (by have := World.block_lt_of_cell? _ _ hw421_1; first | rwa [add_block] at this | exact this) GW429.out)) | (show (Addr.add _ _).block ≠ _; rw [add_block]; exact Nat.ne_of_lt (Nat.lt_of_lt_of_le (by have := World.block_lt_of_cell? _ _ hw421_1; first | rwa [add_block] at this | exact this) GW429.out)) | (dsimp only; exact Nat.ne_of_lt (Nat.lt_of_lt_of_le (by have := World.block_lt_of_cell? _ _ hw421_1; first | rwa [add_block] at this | exact this) GW429.out))) _).trans (((cell_far (p := ⟨gb429, _, none⟩) (by first | exact Nat.ne_of_lt (Nat.lt_of_lt_of_le (by have := World.block_lt_of_cell? _ _ hw421_1; first | rwa [add_block] at this | exact this) GW429.out) | (rw [add_block]; exact Nat.ne_of_lt (Nat.lt_of_lt_of_le (by have := World.block_lt_of_cell? _ _ hw421_1; first | rwa [add_block] at this | exact this) GW429.out)) | (show (Addr.add _ _).block ≠ _; rw [add_block]; exact Nat.ne_of_lt (Nat.lt_of_lt_of_le (by have := World.block_lt_of_cell? _ _ hw421_1; first | rwa [add_block] at this | exact this) GW429.out)) | (dsimp only; exact Nat.ne_of_lt (Nat.lt_of_lt_of_le (by have := World.block_lt_of_cell? _ _ hw421_1; first | rwa [add_block] at this | exact this) GW429.out))) _).trans (hHeld.2.2.2.2.2.2.1)))), ((cell_far (p := ⟨gb429, _, none⟩) (by first | exact Nat.ne_of_lt (Nat.lt_of_lt_of_le (by have := World.block_lt_of_cell? _ _ hw421_2; first | rwa [add_block] at this | exact this) GW429.out) | (rw [add_block]; exact Nat.ne_of_lt (Nat.lt_of_lt_of_le (by have := World.block_lt_of_cell? _ _ hw421_2; first | rwa [add_block] at this | exact this) GW429.out)) | (show (Addr.add _ _).block ≠ _; rw [add_block]; exact Nat.ne_of_lt (Nat.lt_of_lt_of_le (by have := World.block_lt_of_cell? _ _ hw421_2; first | rwa [add_block] at this | exact this) GW429.out)) | (dsimp only; exact Nat.ne_of_lt (Nat.lt_of_lt_of_le (by have := World.block_lt_of_cell? _ _ hw421_2; first | rwa [add_block] at this | exact this) GW429.out))) _).trans (((cell_far (p := ⟨gb429, _, none⟩) (by first | exact Nat.ne_of_lt (Nat.lt_of_lt_of_le (by have := World.block_lt_of_cell? _ _ hw421_2; first | rwa [add_block] at this | exact this) GW429.out) | (rw [add_block]; exact Nat.ne_of_lt (Nat.lt_of_lt_of_le (by have := World.block_lt_of_cell? _ _ hw421_2; first | rwa [add_block] at this | exact this) GW429.out)) | (show (Addr.add _ _).block ≠ _; rw [add_block]; exact Nat.ne_of_lt (Nat.lt_of_lt_of_le (by have := World.block_lt_of_cell? _ _ hw421_2; first | rwa [add_block] at this | exact this) GW429.out)) | (dsimp only; exact Nat.ne_of_lt (Nat.lt_of_lt_of_le (by have := World.block_lt_of_cell? _ _ hw421_2; first | rwa [add_block] at this | exact this) GW429.out))) _).trans (hHeld.2.2.2.2.2.2.2))))⟩ (fun hHeld => ?_)
            clear hK K
            refine pq_ HT_.out 12 6 (bt 13 8191) (h := ?_)
            refine done_ (done_of HT_.out (by kernel_rfl)) ?_
            try go_wp2
            go_ret
            exact ⟨by first | rfl | (simp [errW_none, errW_some] <;> rfl) | (simp [*, errW_none, errW_some] <;> rfl), b_ HB⟩
          ·rw [if_neg c26] at H
           exact absurd H (by simp)
         ·rw [if_neg c25] at H
          exact absurd H (by simp)
        ·replace c24 := Bool.eq_false_iff.mpr c24
         subst c24
         rw [if_neg (show ¬ (false = true) by decide)] at H
         replace H := Option.bind_eq_some_iff.mp H
         obtain ⟨t430, A540, H⟩ := H
         try dsimp only at H
         have A54 := mk0 A540
         clear A540
         obtain rfl := Option.some.inj H
         go_wp2_with (first | ((with_reducible refine gate_callee (f := 41) rfl ?_); refine gL_ (some 36) Try.func41 #[] (h := ?_); (with_reducible refine (quorumlaw5_wakes.calls kj17  t430 _ A54.out).mono ?_); rintro e w55 ⟨rfl, hb⟩; refine ⟨_, rfl, ?_⟩; replace HO_421000 := mk0 (Kd.V_below (v_ HO_421000) hb); replace HO_421001 := mk0 (Kd.V_below (v_ HO_421001) hb); replace BK412 := mk0 (u_ BK412 hb); replace BK420 := mk0 (u_ BK420 hb); replace HB := mk0 (bt_ (b_ HB) hb); (try clear hb)))
         go_ret
         exact ⟨by first | rfl | (simp [errW_none, errW_some] <;> rfl) | (simp [*, errW_none, errW_some] <;> rfl), b_ HB⟩

end Go.Proofs.Ytoodkefpkgbjcaa.PPgb
