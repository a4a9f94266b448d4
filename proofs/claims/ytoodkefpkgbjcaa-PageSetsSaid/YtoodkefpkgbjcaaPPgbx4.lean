-- PRINTED by print.py (a twelfth state) out of the translation. Not trusted: Lean checks it.
import Derived.Test.YtoodkefpkgbjcaaPPgbx0
import Derived.Test.YtoodkefpkgbjcaaPPgbx1
import Derived.Test.YtoodkefpkgbjcaaPPgbx2
import Derived.Test.YtoodkefpkgbjcaaPPgbx3
namespace Go.Proofs.Ytoodkefpkgbjcaa.PPgb
open Go.RowKit Go.Proofs.YtoodkefpkgbjcaaW.PrintWords Go.Proofs.YtoodkefpkgbjcaaW.PrintLast Go.Proofs.YtoodkefpkgbjcaaW.PrintMore
attribute [local go_sem] max2_int min2_int max_two min_two max_three min_three max_four min_four   -- for this text's walks alone
set_option linter.unusedVariables false
set_option linter.unusedSimpArgs false

/-! ### page_asked: function 69 -/
def page_asked.j0 : Nat → Bool → List ByteArray → List Int → Option (List ByteArray × List Int × Int)
 | 0, _, _, _ => none
 | k + 1, x11, x137000, x137001 => if x11 = true then (some (([] : List ByteArray), ([] : List Int), 3)) else ((slices_Clone_string_string.f x137000).bind fun t140 => ((slices_Clone_int_int.f x137001).bind fun t143 => (some (t140, t143, 0))))
def page_asked.f (k : Nat) (l0_0 : List ByteArray) (l0_1 : List Int) (a1 : Int) : Option (List ByteArray × List Int × Int) := (page_may.f k l0_0 l0_1).bind fun t138 => (if t138 = true then (if a1 < 0 then (page_asked.j0 k true l0_0 l0_1) else (if a1 ≥ (l0_0.length : Int) then (page_asked.j0 k true l0_0 l0_1) else ((slices_Contains_int_int.f k l0_1 a1).bind fun t139 => (page_asked.j0 k t139 l0_0 l0_1)))) else (some (([] : List ByteArray), ([] : List Int), 1)))
theorem page_asked.mono_l : ∀ k, (∀ y0 y1 y2, LeO (page_asked.j0 k y0 y1 y2) (page_asked.j0 (k + 1) y0 y1 y2))
 | 0 => fun _ _ _ r h => by simp [page_asked.j0] at h
 | k + 1 => by
  have ih0 := page_asked.mono_l k
  ·intro y0 y1 y2
   unfold page_asked.j0
   repeat' first
   | (with_reducible exact ih0 _ _ _)
   | (with_reducible exact page_may.mono _ _ _)
   | (with_reducible exact slices_Contains_int_int.mono _ _ _)
   | (with_reducible exact LeO.refl _)
   | (with_reducible exact LeO.none _)
   | (with_reducible refine LeO.ite ?_ ?_)
   | (with_reducible refine LeO.bind ?_ (fun _ => ?_))
   | exact ih0 _ _ _
   | exact page_may.mono _ _ _
   | exact slices_Contains_int_int.mono _ _ _
   | exact LeO.none _
   | refine LeO.ite ?_ ?_
   | refine LeO.bind ?_ (fun _ => ?_)
theorem page_asked.mono : ∀ a0 a1 a2 k, LeO (page_asked.f k a0 a1 a2) (page_asked.f (k + 1) a0 a1 a2) := by
 intro a0 a1 a2 k
 have ih0 := page_asked.mono_l k
 unfold page_asked.f
 repeat' first
   | (with_reducible exact ih0 _ _ _)
   | (with_reducible exact page_may.mono _ _ _)
   | (with_reducible exact slices_Contains_int_int.mono _ _ _)
   | (with_reducible exact LeO.refl _)
   | (with_reducible exact LeO.none _)
   | (with_reducible refine LeO.ite ?_ ?_)
   | (with_reducible refine LeO.bind ?_ (fun _ => ?_))
   | exact ih0 _ _ _
   | exact page_may.mono _ _ _
   | exact slices_Contains_int_int.mono _ _ _
   | exact LeO.none _
   | refine LeO.ite ?_ ?_
   | refine LeO.bind ?_ (fun _ => ?_)
def page_asked.T5 : Bool × List (List Nat × List Nat) := (true, [([], []), ([0], [0]), ([1], [1]), ([], []), ([3], [3]), ([4, 2], [4]), ([2, 5], [2, 5]), ([6, 5, 0, 1, 2, 3, 4, 5, 6], [6]), ([7, 0, 1, 2, 3, 4, 5, 6, 7], [])])
def page_asked.B5 : List Nat := [0, 1, 3, 0, 8, 31, 63, 127, 255]
theorem page_asked.tab5 : rtab .any (opsOf Try.f69 5) = page_asked.T5 := by kernel_rfl
theorem page_asked.bits5 : waitsOk page_asked.T5.2 page_asked.B5 = true := by kernel_rfl
set_option maxHeartbeats 8000000 in
set_option maxRecDepth 100000 in
theorem page_asked.calls (k : Nat) (A0_0 : Option Addr) (c0_0 : Nat) (l0_0 : List ByteArray) (A0_1 : Option Addr) (c0_1 : Nat) (l0_1 : List Int) (a1 : Int) (r1 : List ByteArray) (r2 : List Int) (r3 : Int) (w : World) (hr0_0 : Kd.C Kd.string w A0_0 l0_0.length l0_0) (hc0_0 : l0_0.length ≤ c0_0) (hr0_1 : Kd.C (Kd.int .i64) w A0_1 l0_1.length l0_1) (hc0_1 : l0_1.length ≤ c0_1) (h : page_asked.f k l0_0 l0_1 a1 = some (r1, r2, r3)) :
  Calls Try.prog 69 #[.agg #[.slice A0_0 l0_0.length c0_0, .slice A0_1 l0_1.length c0_1], .int .i64 a1] w fun e w' => ∃ v0_ v1_ : Value, e = .returned (.tuple #[.agg #[v0_, v1_], .int .i64 r3]) ∧ Kd.R Kd.string 9 w' w.heap.size (fun _ => True) v0_ r1 ∧ Kd.R (Kd.int .i64) 3 w' w.heap.size (fun _ => True) v1_ r2 ∧ Below w.heap.size w w' := by
 have hu56 := Try.underlying56
 have HR0_0 := mk0 hr0_0
 have HC0_0 := mk0 hc0_0
 clear hr0_0 hc0_0
 have HR0_1 := mk0 hr0_1
 have HC0_1 := mk0 hc0_1
 clear hr0_1 hc0_1
 have HB := mk0 (Below.refl w.heap.size w)
 have H : ((page_may.f k l0_0 l0_1).bind fun t138 => (if t138 = true then (if a1 < 0 then (page_asked.j0 k true l0_0 l0_1) else (if a1 ≥ (l0_0.length : Int) then (page_asked.j0 k true l0_0 l0_1) else ((slices_Contains_int_int.f k l0_1 a1).bind fun t139 => (page_asked.j0 k t139 l0_0 l0_1)))) else (some (([] : List ByteArray), ([] : List Int), 1)))) = some (r1, r2, r3) := h
 clear h
 replace H := Option.bind_eq_some_iff.mp H
 obtain ⟨t138, A30, H⟩ := H
 try dsimp only at H
 have A3 := mk0 A30
 clear A30
 by_cases c4 : t138 = true
 ·subst c4
  rw [if_pos rfl] at H
  have HC5 := mk0 H
  clear H
  go_enter Try.func69, Try.ntmps69
  go_upto_region 3 with (first | ((with_reducible refine gate_dst (N := 2) rfl ?_); (try (refine gate_guard (by rfl) ?_; dsimp only)); refine bx_ (N := 2) (cs := #[.slice A0_0 l0_0.length c0_0, .slice A0_1 l0_1.length c0_1]) (t := 56) (h := ?_); intro gb136 hg w6 hbox hb; have n2_ := mk0 (gz_ HB hg); have n3_ := mk0 (gz_ HB hg); replace HB := mk0 (bt_ (b_ HB) hb); have BK136 := mk0 (hbox); have GW136 := n2_; have GE136 := n3_; clear n2_ n3_; clear hb hbox hg) | ((with_reducible refine gate_dst (N := 4) rfl ?_); (try (refine gate_guard (by rfl) ?_; dsimp only)); refine bx_ (N := 4) (cs := #[.slice none 0 0, .slice none 0 0]) (t := 56) (h := ?_); intro gb137 hg w7 hbox hb; have n3_ := mk0 (gz_ HB hg); have n4_ := mk0 (gz_ HB hg); have n5_ := mk0 (ne1_ BK136 hg); have n6_ := mk0 (ne2_ BK136 hg); replace BK136 := mk0 (u_ BK136 hb); replace HB := mk0 (bt_ (b_ HB) hb); have BK137 := mk0 (hbox); have GW137 := n3_; have GE137 := n4_; have NB136_137 := n5_; have NB137_136 := n6_; clear n3_ n4_ n5_ n6_ hb hbox hg; have hnb8 := NB136_137.out; have hnc8 := NB137_136.out; obtain ⟨hcz9_0, hcz9_1, hfz9_0, hfz9_1⟩ := c2_ BK136) | ((with_reducible refine gate_callee (f := 72) rfl ?_); refine gL_ (some 8) Try.func72 #[.agg #[.slice A0_0 l0_0.length c0_0, .slice A0_1 l0_1.length c0_1]] (h := ?_); (with_reducible refine (page_may.calls k _ _ l0_0 _ _ l0_1 true _ ?side1 ?side2 ?side3 ?side4 A3.out).mono ?_); (case side1 => exact cb_ HR0_0 HB); (case side2 => exact HC0_0.out); (case side3 => exact cb_ HR0_1 HB); (case side4 => exact HC0_1.out); rintro e w10 ⟨rfl, hb⟩; refine ⟨_, rfl, ?_⟩; replace BK136 := mk0 (u_ BK136 hb); replace BK137 := mk0 (u_ BK137 hb); replace HB := mk0 (bt_ (b_ HB) hb); (try clear hb)))
  (try simp only [Act.put, List.setIfInBounds_toArray, List.set_cons_zero, List.set_cons_succ])
  go_cut [11] (fun v11 wc => ∃ (kq : Nat) (x11_4 : Bool), v11 = .bool x11_4 ∧ Fc (page_asked.j0 kq x11_4 l0_0 l0_1 = some (r1, r2, r3)) ∧ Fc (kq ≤ k) ∧ Fc (wc.heap[gb136]? = some (.cells #[(.slice A0_0 l0_0.length c0_0), (.slice A0_1 l0_1.length c0_1)] 56 (0, 0))) ∧ Fc (wc.heap[gb137]? = some (.cells #[(.slice none 0 0), (.slice none 0 0)] 56 (0, 0))) ∧ Fc (Below w.heap.size w wc))
  case first =>
   have H := HC5.out
   clear HC5
   by_cases c11 : a1 < 0
   ·rw [if_pos c11] at H
    have c11b0 : decide (a1 < 0) = true := decide_eq_true c11
    clear c11
    (first | rw [c11b0] | (simp only [i64_w, i32_w]; rw [c11b0]) | skip)
    have H' := mk0 H
    clear H
    go_wp2
    go_meet
    case rel => exact ⟨_, (true), (by first | rfl | (simp; done) | (simp [*]; done)), H', ⟨by first | omega | exact Nat.le_refl _⟩, ⟨h_ BK136⟩, ⟨h_ BK137⟩, ⟨b_ HB⟩⟩
   ·rw [if_neg c11] at H
    have c11b0 : decide (a1 < 0) = false := decide_eq_false c11
    clear c11
    (first | rw [c11b0] | (simp only [i64_w, i32_w]; rw [c11b0]) | skip)
    by_cases c12 : a1 ≥ (l0_0.length : Int)
    ·rw [if_pos c12] at H
     have c12b0 : decide ((l0_0.length : Int) ≤ a1) = true := decide_eq_true c12
     clear c12
     have H' := mk0 H
     clear H
     have hnb13 := NB136_137.out
     have hnc13 := NB137_136.out
     obtain ⟨hcz14_0, hcz14_1, hfz14_0, hfz14_1⟩ := c2_ BK136
     go_wp2
     go_meet
     case rel => exact ⟨_, (true), (by first | rfl | (simp; done) | (simp [*]; done)), H', ⟨by first | omega | exact Nat.le_refl _⟩, ⟨h_ BK136⟩, ⟨h_ BK137⟩, ⟨b_ HB⟩⟩
    ·rw [if_neg c12] at H
     have c12b0 : decide ((l0_0.length : Int) ≤ a1) = false := decide_eq_false c12
     clear c12
     replace H := Option.bind_eq_some_iff.mp H
     obtain ⟨t139, A150, H⟩ := H
     try dsimp only at H
     have A15 := mk0 A150
     clear A150
     have H' := mk0 H
     clear H
     have hnb16 := NB136_137.out
     have hnc16 := NB137_136.out
     obtain ⟨hcz17_0, hcz17_1, hfz17_0, hfz17_1⟩ := c2_ BK136
     go_wp2_with (first | (go_at_call 124; (with_reducible refine (slices_Contains_int_int.calls k _ _ l0_1 a1 t139 _ ?side1 ?side2 A15.out).mono ?_); (case side1 => exact cb_ HR0_1 HB); (case side2 => exact HC0_1.out); rintro e w' ⟨rfl, ⟨nd, rfl⟩⟩))
     go_meet
     case rel => exact ⟨_, (t139), (by first | rfl | (simp; done) | (simp [*]; done)), H', ⟨by first | omega | exact Nat.le_refl _⟩, ⟨h_ BK136⟩, ⟨h_ BK137⟩, ⟨b_ HB⟩⟩
  case rest =>
   clear HC5
   try clear c4
   try clear c11
   try clear c11b0
   try clear c12
   try clear c12b0
   try clear hcz14_0
   try clear hcz14_1
   try clear hcz17_0
   try clear hcz17_1
   try clear hcz9_0
   try clear hcz9_1
   try clear hfz14_0
   try clear hfz14_1
   try clear hfz17_0
   try clear hfz17_1
   try clear hfz9_0
   try clear hfz9_1
   obtain ⟨kq, x11_4, rfl, HA, HJ4, BK136, BK137, HB⟩ := hcut
   cases kq with
   | zero => exact absurd HA.out (by simp [page_asked.j0])
   | succ kj4 =>
    have H := HA.out
    clear HA
    simp only [page_asked.j0] at H
    as_aux_lemma =>
     by_cases c18 : x11_4 = true
     ·subst c18
      rw [if_pos rfl] at H
      simp only [Option.some.injEq, Prod.mk.injEq] at H
      obtain ⟨rfl, rfl, rfl⟩ := H
      have hnb19 := NB137_136.out
      have hnc19 := NB136_137.out
      obtain ⟨hcz20_0, hcz20_1, hfz20_0, hfz20_1⟩ := c2_ BK137
      go_wp2
      refine bodyPost_ret (results_ct rfl _ _ gb137 56 #[.slice none 0 0, .slice none 0 0] (0, 0) _ rfl (pu_ (cs := #[.slice none 0 0, .slice none 0 0]) (pu_ (cs := #[.slice none 0 0, .slice none 0 0]) (h_ BK137))) Try.underlying56 rfl (by kernel_rfl)) rfl ?_
      exact ⟨_, _, by first | rfl | (simp [errW_none, errW_some] <;> rfl) | (simp [*, errW_none, errW_some] <;> rfl), by first | exact Kd.R_nil _ _ _ _ _ | exact Kd.N_nil _ _ _ _ _ | exact Kd.V_nil _ _ _ _ _ | exact Kd.Q_nil _ _ _ _ _ | exact Kd.S_nil _ _ _ _ _, by first | exact Kd.R_nil _ _ _ _ _ | exact Kd.N_nil _ _ _ _ _ | exact Kd.V_nil _ _ _ _ _ | exact Kd.Q_nil _ _ _ _ _ | exact Kd.S_nil _ _ _ _ _, b_ HB⟩
     ·replace c18 := Bool.eq_false_iff.mpr c18
      subst c18
      rw [if_neg (show ¬ (false = true) by decide)] at H
      replace H := Option.bind_eq_some_iff.mp H
      obtain ⟨t140, A210, H⟩ := H
      try dsimp only at H
      have A21 := mk0 A210
      clear A210
      replace H := Option.bind_eq_some_iff.mp H
      obtain ⟨t143, A220, H⟩ := H
      try dsimp only at H
      have A22 := mk0 A220
      clear A220
      simp only [Option.some.injEq, Prod.mk.injEq] at H
      obtain ⟨rfl, rfl, rfl⟩ := H
      try go_wp2
      replace BK136 := mk0 (bD_ BK136.out)
      replace BK137 := mk0 (bD_ BK137.out)
      replace HB := mk0 (b1_ HB.out)
      refine start_ (n := 9) (S := fun w' => w'.cell? ⟨gb136, 0, none⟩ = some (.slice A0_0 l0_0.length c0_0) ∧ w'.cell? ⟨gb136, 1, none⟩ = some (.slice A0_1 l0_1.length c0_1)) (ds := []) (bt 9 0) (by kernel_rfl) rfl rfl ⟨(blk_cell BK136.out 0).trans rfl, (blk_cell BK136.out 1).trans rfl⟩ (fun hHeld => ?_); refine with_tabW page_asked.tab5 page_asked.bits5 (fun HT_ HW_ => ?_)
      generalize wc.drew = w23 at BK136 BK137 HB hHeld ⊢
      refine pq_ HT_.out 0 28 (bt 9 1) (h := ?_)
      refine pq_ HT_.out 3 31 (bt 9 9) (h := ?_)
      refine tq2_ HT_.out HW_.out 1 29 (bt 9 11) hHeld (h := ?_)
      refine tq2_ HT_.out HW_.out 4 32 (bt 9 27) hHeld (h := ?_)
      refine one_ (i := 2) (N := some 30) (bt 9 31) rfl rfl (one_of HT_.out (by kernel_rfl)) (by decide) (fun K hK => ?_)
      refine goes_ Try.func73 (by kernel_rfl) rfl #[.slice A0_0 l0_0.length c0_0] (by rfl) rfl rfl (by (try simp only [List.map_toArray, List.map_cons, List.map_nil]); first | done | rfl | (simp only [List.length_drop, List.length_take]; rfl)) ?_
      with_reducible refine (slices_Clone_string_string.calls _ _ l0_0 t140 _ ?side1 ?side2 A21.out).mono ?_
      (case side1 => exact cb_ HR0_0 HB)
      (case side2 => exact HC0_0.out)
      rintro e w24 ⟨v141, rfl, ho0, hb⟩
      refine ⟨_, rfl, ?_⟩
      have n0_ := mk0 (Kd.R_lower ho0 (bz_ (b_ HB)))
      replace BK136 := mk0 (u_ BK136 hb)
      replace BK137 := mk0 (u_ BK137 hb)
      replace HB := mk0 (bt_ (b_ HB) hb)
      have HO142 := n0_
      clear n0_
      (try clear hb)
      (try clear hb2)
      (try clear hk)
      (try clear hi)
      (try clear ho0)
      refine hK.out _ _ ⟨(blk_cell BK136.out 0).trans rfl, (blk_cell BK136.out 1).trans rfl⟩ (fun hHeld => ?_)
      clear hK K
      refine norm_ (a' := ?_) ?_ ?_
      rotate_left
      ·show Act.put _ (some 30) _ = _
       simp only [z_]
       rfl
      refine one_ (i := 5) (N := some 33) (bt 9 63) rfl rfl (one_of HT_.out (by kernel_rfl)) (by decide) (fun K hK => ?_)
      refine goes_ Try.func74 (by kernel_rfl) rfl #[.slice A0_1 l0_1.length c0_1] (by rfl) rfl rfl (by (try simp only [List.map_toArray, List.map_cons, List.map_nil]); first | done | rfl | (simp only [List.length_drop, List.length_take]; rfl)) ?_
      with_reducible refine (slices_Clone_int_int.calls _ _ l0_1 t143 _ ?side1 ?side2 A22.out).mono ?_
      (case side1 => exact cb_ HR0_1 HB)
      (case side2 => exact HC0_1.out)
      rintro e w25 ⟨v144, rfl, ho0, hb⟩
      refine ⟨_, rfl, ?_⟩
      have n1_ := mk0 (Kd.R_lower ho0 (bz_ (b_ HB)))
      replace HO142 := mk0 (Kd.R_below (r_ HO142) hb)
      replace BK136 := mk0 (u_ BK136 hb)
      replace BK137 := mk0 (u_ BK137 hb)
      replace HB := mk0 (bt_ (b_ HB) hb)
      have HO145 := n1_
      clear n1_
      (try clear hb)
      (try clear hb2)
      (try clear hk)
      (try clear hi)
      (try clear ho0)
      obtain ⟨Ao26, co26, eo26⟩ := Kd.R_slice HO145.out
      (first | subst eo26 | (injection eo26 with f1_ f2_ f3_; have f4_ := f1_.symm; have f5_ := f3_.symm; clear f1_ f2_ f3_; subst f4_; subst f5_))
      obtain ⟨Ao27, co27, eo27⟩ := Kd.R_slice HO142.out
      (first | subst eo27 | (injection eo27 with f1_ f2_ f3_; have f4_ := f1_.symm; have f5_ := f3_.symm; clear f1_ f2_ f3_; subst f4_; subst f5_))
      refine hK.out _ _ ⟨(blk_cell BK136.out 0).trans rfl, (blk_cell BK136.out 1).trans rfl⟩ (fun hHeld => ?_)
      clear hK K
      refine norm_ (a' := ?_) ?_ ?_
      rotate_left
      ·show Act.put _ (some 33) _ = _
       simp only [z_]
       rfl
      refine pq_ HT_.out 6 34 (bt 9 127) (h := ?_)
      refine one_ (i := 7) (N := none) (bt 9 255) rfl rfl (one_of HT_.out (by kernel_rfl)) (by decide) (fun K hK => ?_)
      have hs28 : w25.cell? ⟨gb137, 0, none⟩ = some (.slice none 0 0) := (blk_cell BK137.out 0).trans rfl
      have hfs28 := blk_frozen BK137.out 0
      have hns28_0 := NB136_137.out
      have hms28_0 := NB137_136.out
      have hs29 : w25.cell? ⟨gb137, 1, none⟩ = some (.slice none 0 0) := (blk_cell BK137.out 1).trans rfl
      have hfs29 := blk_frozen BK137.out 1
      have hns29_0 := NB136_137.out
      have hms29_0 := NB137_136.out
      refine skip_ (w1 := ?_) (by rfl) rfl ?_ ?_
      rotate_left
      ·go_simp
       rfl
      refine hK.out _ _ ⟨((cell_far (p := ⟨gb137, _, none⟩) NB136_137.out _).trans (((cell_far (p := ⟨gb137, _, none⟩) NB136_137.out _).trans (hHeld.1)))), ((cell_far (p := ⟨gb137, _, none⟩) NB136_137.out _).trans (((cell_far (p := ⟨gb137, _, none⟩) NB136_137.out _).trans (hHeld.2))))⟩ (fun hHeld => ?_)
      clear hK K
      refine pq_ HT_.out 8 5 (bt 9 511) (h := ?_)
      refine done_ (done_of HT_.out (by kernel_rfl)) ?_
      try go_wp2
      refine bodyPost_ret (results_ct rfl _ _ gb137 56 #[.slice Ao27 t140.length co27, .slice Ao26 t143.length co26] (0, 0) _ rfl (pu_ (cs := #[.slice Ao27 t140.length co27, .slice none 0 0]) (pu_ (cs := #[.slice none 0 0, .slice none 0 0]) (h_ BK137))) Try.underlying56 rfl (by kernel_rfl)) rfl ?_
      exact ⟨_, _, by first | rfl | (simp [errW_none, errW_some] <;> rfl) | (simp [*, errW_none, errW_some] <;> rfl), by (with_reducible repeat (first | apply Ra_ | apply Rn_ | apply Rd_)); exact Kd.R_mono (Kd.R_far (p := ⟨gb137, 1, none⟩) (Kd.R_far (p := ⟨gb137, 0, none⟩) (Kd.R_types HO142.out BK137.out (by decide)) (fun _ hk => hk.2) (.slice Ao27 t140.length co27)) (fun _ hk => hk.2) (.slice Ao26 t143.length co26)) (fun _ hk => trivial), by (with_reducible repeat (first | apply Ra_ | apply Rn_ | apply Rd_)); exact Kd.R_mono (Kd.R_far (p := ⟨gb137, 1, none⟩) (Kd.R_far (p := ⟨gb137, 0, none⟩) (Kd.R_types HO145.out BK137.out (by decide)) (fun _ hk => hk.2) (.slice Ao27 t140.length co27)) (fun _ hk => hk.2) (.slice Ao26 t143.length co26)) (fun _ hk => trivial), b_ HB⟩
 ·replace c4 := Bool.eq_false_iff.mpr c4
  subst c4
  rw [if_neg (show ¬ (false = true) by decide)] at H
  simp only [Option.some.injEq, Prod.mk.injEq] at H
  obtain ⟨rfl, rfl, rfl⟩ := H
  go_enter Try.func69, Try.ntmps69
  go_wp2_with (first | ((with_reducible refine gate_dst (N := 2) rfl ?_); (try (refine gate_guard (by rfl) ?_; dsimp only)); refine bx_ (N := 2) (cs := #[.slice A0_0 l0_0.length c0_0, .slice A0_1 l0_1.length c0_1]) (t := 56) (h := ?_); intro gb136 hg w30 hbox hb; have n2_ := mk0 (gz_ HB hg); have n3_ := mk0 (gz_ HB hg); replace HB := mk0 (bt_ (b_ HB) hb); have BK136 := mk0 (hbox); have GW136 := n2_; have GE136 := n3_; clear n2_ n3_; clear hb hbox hg) | ((with_reducible refine gate_dst (N := 4) rfl ?_); (try (refine gate_guard (by rfl) ?_; dsimp only)); refine bx_ (N := 4) (cs := #[.slice none 0 0, .slice none 0 0]) (t := 56) (h := ?_); intro gb137 hg w31 hbox hb; have n3_ := mk0 (gz_ HB hg); have n4_ := mk0 (gz_ HB hg); have n5_ := mk0 (ne1_ BK136 hg); have n6_ := mk0 (ne2_ BK136 hg); replace BK136 := mk0 (u_ BK136 hb); replace HB := mk0 (bt_ (b_ HB) hb); have BK137 := mk0 (hbox); have GW137 := n3_; have GE137 := n4_; have NB136_137 := n5_; have NB137_136 := n6_; clear n3_ n4_ n5_ n6_ hb hbox hg; have hnb32 := NB136_137.out; have hnc32 := NB137_136.out; obtain ⟨hcz33_0, hcz33_1, hfz33_0, hfz33_1⟩ := c2_ BK136) | ((with_reducible refine gate_callee (f := 72) rfl ?_); refine gL_ (some 8) Try.func72 #[.agg #[.slice A0_0 l0_0.length c0_0, .slice A0_1 l0_1.length c0_1]] (h := ?_); (with_reducible refine (page_may.calls k _ _ l0_0 _ _ l0_1 false _ ?side1 ?side2 ?side3 ?side4 A3.out).mono ?_); (case side1 => exact cb_ HR0_0 HB); (case side2 => exact HC0_0.out); (case side3 => exact cb_ HR0_1 HB); (case side4 => exact HC0_1.out); rintro e w34 ⟨rfl, hb⟩; refine ⟨_, rfl, ?_⟩; replace BK136 := mk0 (u_ BK136 hb); replace BK137 := mk0 (u_ BK137 hb); replace HB := mk0 (bt_ (b_ HB) hb); (try clear hb); obtain ⟨hcz35_0, hcz35_1, hfz35_0, hfz35_1⟩ := c2_ BK137))
  refine bodyPost_ret (results_ct rfl _ _ gb137 56 #[.slice none 0 0, .slice none 0 0] (0, 0) _ rfl (pu_ (cs := #[.slice none 0 0, .slice none 0 0]) (pu_ (cs := #[.slice none 0 0, .slice none 0 0]) (h_ BK137))) Try.underlying56 rfl (by kernel_rfl)) rfl ?_
  exact ⟨_, _, by first | rfl | (simp [errW_none, errW_some] <;> rfl) | (simp [*, errW_none, errW_some] <;> rfl), by first | exact Kd.R_nil _ _ _ _ _ | exact Kd.N_nil _ _ _ _ _ | exact Kd.V_nil _ _ _ _ _ | exact Kd.Q_nil _ _ _ _ _ | exact Kd.S_nil _ _ _ _ _, by first | exact Kd.R_nil _ _ _ _ _ | exact Kd.N_nil _ _ _ _ _ | exact Kd.V_nil _ _ _ _ _ | exact Kd.Q_nil _ _ _ _ _ | exact Kd.S_nil _ _ _ _ _, b_ HB⟩

/-! ### page_Get: function 38 -/
def page_Get.f (k : Nat) (l0_0 : List ByteArray) (l0_1 : List Int) (a1 : Int) : Option (ByteArray × Int) := (page_asked.f k l0_0 l0_1 a1).bind fun bt147 => (if bt147.2.2 = 0 then (if 0 ≤ a1 then (if a1 < (bt147.1.length : Int) then (some (rdOf ByteArray.empty bt147.1 a1, 0)) else (none)) else (none)) else (some ((⟨#[]⟩ : ByteArray), bt147.2.2)))
theorem page_Get.mono : ∀ a0 a1 a2 k, LeO (page_Get.f k a0 a1 a2) (page_Get.f (k + 1) a0 a1 a2) := by
 intro a0 a1 a2 k
 unfold page_Get.f
 repeat' first
   | (with_reducible exact page_asked.mono _ _ _ _)
   | (with_reducible exact LeO.refl _)
   | (with_reducible exact LeO.none _)
   | (with_reducible refine LeO.ite ?_ ?_)
   | (with_reducible refine LeO.bind ?_ (fun _ => ?_))
   | exact page_asked.mono _ _ _ _
   | exact LeO.none _
   | refine LeO.ite ?_ ?_
   | refine LeO.bind ?_ (fun _ => ?_)
set_option maxHeartbeats 8000000 in
set_option maxRecDepth 100000 in
theorem page_Get.calls (k : Nat) (A0_0 : Option Addr) (c0_0 : Nat) (l0_0 : List ByteArray) (A0_1 : Option Addr) (c0_1 : Nat) (l0_1 : List Int) (a1 : Int) (r1 : ByteArray) (r2 : Int) (w : World) (hr0_0 : Kd.C Kd.string w A0_0 l0_0.length l0_0) (hc0_0 : l0_0.length ≤ c0_0) (hr0_1 : Kd.C (Kd.int .i64) w A0_1 l0_1.length l0_1) (hc0_1 : l0_1.length ≤ c0_1) (h : page_Get.f k l0_0 l0_1 a1 = some (r1, r2)) :
  Calls Try.prog 38 #[.agg #[.slice A0_0 l0_0.length c0_0, .slice A0_1 l0_1.length c0_1], .int .i64 a1] w fun e w' => e = .returned (.tuple #[.string r1, .int .i64 r2]) ∧ Below w.heap.size w w' := by
 have hu56 := Try.underlying56
 have HR0_0 := mk0 hr0_0
 have HC0_0 := mk0 hc0_0
 clear hr0_0 hc0_0
 have HR0_1 := mk0 hr0_1
 have HC0_1 := mk0 hc0_1
 clear hr0_1 hc0_1
 have HB := mk0 (Below.refl w.heap.size w)
 have H : ((page_asked.f k l0_0 l0_1 a1).bind fun bt147 => (if bt147.2.2 = 0 then (if 0 ≤ a1 then (if a1 < (bt147.1.length : Int) then (some (rdOf ByteArray.empty bt147.1 a1, 0)) else (none)) else (none)) else (some ((⟨#[]⟩ : ByteArray), bt147.2.2)))) = some (r1, r2) := h
 clear h
 replace H := Option.bind_eq_some_iff.mp H
 obtain ⟨⟨t147, t150, t153⟩, A30, H⟩ := H
 try dsimp only at H
 have A3 := mk0 A30
 clear A30
 by_cases c4 : t153 = 0
 focus
  rw [if_pos c4] at H
  have c4b0 : (t153 == 0) = true := beq_iff_eq.mpr c4
  have c4b1 : (t153 != 0) = false := bne_eq_false_iff_eq.mpr c4
  clear c4
  by_cases c5 : 0 ≤ a1
  focus
   rw [if_pos c5] at H
   have c5b0 : decide (0 ≤ a1) = true := decide_eq_true c5
   clear c5
   by_cases c6 : a1 < (t147.length : Int)
   focus
    rw [if_pos c6] at H
    have c6b0 : decide (a1 < (t147.length : Int)) = true := decide_eq_true c6
    clear c6
    simp only [Option.some.injEq, Prod.mk.injEq] at H
    obtain ⟨rfl, rfl⟩ := H
    go_enter Try.func38, Try.ntmps38
   rotate_left 1
   ·rw [if_neg c6] at H
    exact absurd H (by simp)
  rotate_left 1
  ·rw [if_neg c5] at H
   exact absurd H (by simp)
 rotate_left 1
 focus
  rw [if_neg c4] at H
  have c4b0 : (t153 == 0) = false := beq_eq_false_iff_ne.mpr c4
  have c4b1 : (t153 != 0) = true := bne_iff_ne.mpr c4
  simp only [Option.some.injEq, Prod.mk.injEq] at H
  obtain ⟨rfl, rfl⟩ := H
  go_enter Try.func38, Try.ntmps38
 rotate_right 1
 all_goals go_wp2_with (first | ((with_reducible refine gate_dst (N := 2) rfl ?_); refine bx_ (N := 2) (cs := #[.slice A0_0 l0_0.length c0_0, .slice A0_1 l0_1.length c0_1]) (t := 56) (h := ?_); intro gb146 hg w7 hbox hb; have n2_ := mk0 (gz_ HB hg); have n3_ := mk0 (gz_ HB hg); replace HB := mk0 (bt_ (b_ HB) hb); have BK146 := mk0 (hbox); have GW146 := n2_; have GE146 := n3_; clear n2_ n3_ hb hbox hg; obtain ⟨hcz8_0, hcz8_1, hfz8_0, hfz8_1⟩ := c2_ BK146) | ((with_reducible refine gate_callee (f := 69) rfl ?_); refine gL_ (some 11) Try.func69 #[.agg #[.slice A0_0 l0_0.length c0_0, .slice A0_1 l0_1.length c0_1], .int .i64 a1] (h := ?_); (with_reducible refine (page_asked.calls k _ _ l0_0 _ _ l0_1 a1 t147 t150 t153 _ ?side1 ?side2 ?side3 ?side4 A3.out).mono ?_); (case side1 => exact cb_ HR0_0 HB); (case side2 => exact HC0_0.out); (case side3 => exact cb_ HR0_1 HB); (case side4 => exact HC0_1.out); rintro e w9 ⟨v148, v151, rfl, ho0, ho1, hb⟩; refine ⟨_, rfl, ?_⟩; have n0_ := mk0 (Kd.R_lower ho0 (bz_ (b_ HB))); have n1_ := mk0 (Kd.R_lower ho1 (bz_ (b_ HB))); replace BK146 := mk0 (u_ BK146 hb); replace HB := mk0 (bt_ (b_ HB) hb); have HO149 := n0_; have HO152 := n1_; clear n0_ n1_; (try clear hb); (try clear ho0); (try clear ho1)) | ((with_reducible refine gate_dst (N := 6) rfl ?_); refine bx_ (N := 6) (cs := #[.slice none 0 0, .slice none 0 0]) (t := 56) (h := ?_); intro gb154 hg w10 hbox hb; have n5_ := mk0 (gz_ HB hg); have n6_ := mk0 (gz_ HB hg); have n7_ := mk0 (ne1_ BK146 hg); have n8_ := mk0 (ne2_ BK146 hg); replace HO149 := mk0 (Kd.R_below (r_ HO149) hb); replace HO152 := mk0 (Kd.R_below (r_ HO152) hb); replace BK146 := mk0 (u_ BK146 hb); replace HB := mk0 (bt_ (b_ HB) hb); have BK154 := mk0 (hbox); have GW154 := n5_; have GE154 := n6_; have NB146_154 := n7_; have NB154_146 := n8_; clear n5_ n6_ n7_ n8_ hb hbox hg; obtain ⟨Ao11, co11, eo11⟩ := Kd.R_slice HO149.out; subst eo11; have hnb12 := NB154_146.out; have hnc12 := NB146_154.out; obtain ⟨hcz13_0, hcz13_1, hfz13_0, hfz13_1⟩ := c2_ BK154; obtain ⟨Ao14, co14, eo14⟩ := Kd.R_slice HO152.out; subst eo14; have p155 : 0 ≤ (a1 : Int) := of_decide_eq_true (by first | (with_reducible assumption) | assumption); have q155 : a1 < (t147.length : Int) := of_decide_eq_true (by first | (with_reducible assumption) | assumption); obtain ⟨ad155, e155, hx155_0⟩ := Kd.at_string (Kd.R_reads' HO149.out).2.2 a1 p155 q155; cases e155; have hn155_0 : ad155.block ≠ gb154 := Kd.own_blk (Kd.R_ne HO149.out BK154.out (by decide)); have hn155_1 : ad155.block ≠ gb154 := Kd.own_blk (Kd.R_ne HO149.out BK154.out (by decide)); replace hx155_0 := (cell_far (p := ⟨gb154, 0, none⟩) (by first | (rw [add_block]; exact hn155_0) | (show (Addr.add _ _).block ≠ _; rw [add_block]; exact hn155_0) | exact hn155_0) (.slice (some ad155) t147.length co11)).trans hx155_0; replace hx155_0 := (cell_far (p := ⟨gb154, 1, none⟩) (by first | (rw [add_block]; exact hn155_1) | (show (Addr.add _ _).block ≠ _; rw [add_block]; exact hn155_1) | exact hn155_1) (.slice Ao14 t150.length co14)).trans hx155_0; clear hn155_0 hn155_1; replace p155 := eq_true p155; replace q155 := eq_true q155) | ((with_reducible refine gate_dst (N := 6) rfl ?_); refine bx_ (N := 6) (cs := #[.slice none 0 0, .slice none 0 0]) (t := 56) (h := ?_); intro gb154 hg w18 hbox hb; have n5_ := mk0 (gz_ HB hg); have n6_ := mk0 (gz_ HB hg); have n7_ := mk0 (ne1_ BK146 hg); have n8_ := mk0 (ne2_ BK146 hg); replace HO149 := mk0 (Kd.R_below (r_ HO149) hb); replace HO152 := mk0 (Kd.R_below (r_ HO152) hb); replace BK146 := mk0 (u_ BK146 hb); replace HB := mk0 (bt_ (b_ HB) hb); have BK154 := mk0 (hbox); have GW154 := n5_; have GE154 := n6_; have NB146_154 := n7_; have NB154_146 := n8_; clear n5_ n6_ n7_ n8_ hb hbox hg; obtain ⟨Ao19, co19, eo19⟩ := Kd.R_slice HO149.out; subst eo19; have hnb20 := NB154_146.out; have hnc20 := NB146_154.out; obtain ⟨hcz21_0, hcz21_1, hfz21_0, hfz21_1⟩ := c2_ BK154; obtain ⟨Ao22, co22, eo22⟩ := Kd.R_slice HO152.out; subst eo22))
 ·go_ret2
  exact ⟨by first | rfl | (simp [errW_none, errW_some] <;> rfl) | (simp [*, errW_none, errW_some] <;> rfl), b_ HB⟩
 ·go_ret2
  exact ⟨by first | rfl | (simp [errW_none, errW_some] <;> rfl) | (simp [*, errW_none, errW_some] <;> rfl), b_ HB⟩

/-! ### quorumlaw5_wakes: function 41 -/
def quorumlaw5_wakes.f (k : Nat)  : Option (Bool) := (page_Add.f k ([] : List ByteArray) ([] : List Int) (⟨#[97, 98]⟩ : ByteArray)).bind fun bt156 => ((page_Get.f k bt156.1 bt156.2.1 bt156.2.2.1).bind fun bt165 => ((quorumlaw5_num.f bt156.2.2.2).bind fun t167 => (if t167 = 0 then ((quorumlaw5_num.f bt165.2).bind fun t168 => (if t168 = 0 then (if bt165.1.toList = ([97, 98] : List UInt8) then (if bt156.2.2.1 = 0 then (some ((bt156.1.length : Int) == 1)) else (some false)) else (some false)) else (some false))) else (some false))))
theorem quorumlaw5_wakes.mono : ∀ k, LeO (quorumlaw5_wakes.f k ) (quorumlaw5_wakes.f (k + 1) ) := by
 intro  k
 unfold quorumlaw5_wakes.f
 repeat' first
   | (with_reducible exact page_Add.mono _ _ _ _)
   | (with_reducible exact page_Get.mono _ _ _ _)
   | (with_reducible exact LeO.refl _)
   | (with_reducible exact LeO.none _)
   | (with_reducible refine LeO.ite ?_ ?_)
   | (with_reducible refine LeO.bind ?_ (fun _ => ?_))
   | exact page_Add.mono _ _ _ _
   | exact page_Get.mono _ _ _ _
   | exact LeO.none _
   | refine LeO.ite ?_ ?_
   | refine LeO.bind ?_ (fun _ => ?_)
set_option maxHeartbeats 8000000 in
set_option maxRecDepth 100000 in
theorem quorumlaw5_wakes.calls (k : Nat)  (r : Bool) (w : World) (h : quorumlaw5_wakes.f k  = some r) :
  Calls Try.prog 41 #[] w fun e w' => e = .returned (.bool r) ∧ Below w.heap.size w w' := by
 have hu56 := Try.underlying56
 have HB := mk0 (Below.refl w.heap.size w)
 have H : ((page_Add.f k ([] : List ByteArray) ([] : List Int) (⟨#[97, 98]⟩ : ByteArray)).bind fun bt156 => ((page_Get.f k bt156.1 bt156.2.1 bt156.2.2.1).bind fun bt165 => ((quorumlaw5_num.f bt156.2.2.2).bind fun t167 => (if t167 = 0 then ((quorumlaw5_num.f bt165.2).bind fun t168 => (if t168 = 0 then (if bt165.1.toList = ([97, 98] : List UInt8) then (if bt156.2.2.1 = 0 then (some ((bt156.1.length : Int) == 1)) else (some false)) else (some false)) else (some false))) else (some false))))) = some r := h
 clear h
 replace H := Option.bind_eq_some_iff.mp H
 obtain ⟨⟨t156, t159, t162, t163⟩, A10, H⟩ := H
 try dsimp only at H
 have A1 := mk0 A10
 clear A10
 replace H := Option.bind_eq_some_iff.mp H
 obtain ⟨⟨t165, t166⟩, A20, H⟩ := H
 try dsimp only at H
 have A2 := mk0 A20
 clear A20
 replace H := Option.bind_eq_some_iff.mp H
 obtain ⟨t167, A30, H⟩ := H
 try dsimp only at H
 have A3 := mk0 A30
 clear A30
 by_cases c4 : t167 = 0
 focus
  rw [if_pos c4] at H
  have c4b0 : (t167 == 0) = true := beq_iff_eq.mpr c4
  have c4b1 : (t167 != 0) = false := bne_eq_false_iff_eq.mpr c4
  clear c4
  replace H := Option.bind_eq_some_iff.mp H
  obtain ⟨t168, A50, H⟩ := H
  try dsimp only at H
  have A5 := mk0 A50
  clear A50
  by_cases c6 : t168 = 0
  focus
   rw [if_pos c6] at H
   have c6b0 : (t168 == 0) = true := beq_iff_eq.mpr c6
   have c6b1 : (t168 != 0) = false := bne_eq_false_iff_eq.mpr c6
   clear c6
   by_cases c7 : t165.toList = ([97, 98] : List UInt8)
   focus
    rw [if_pos c7] at H
    have c7b0 : (t165.toList == ([97, 98] : List UInt8)) = true := beq_iff_eq.mpr c7
    have c7b1 : (t165.toList != ([97, 98] : List UInt8)) = false := bne_eq_false_iff_eq.mpr c7
    clear c7
    by_cases c8 : t162 = 0
    focus
     rw [if_pos c8] at H
     have c8b0 : (t162 == 0) = true := beq_iff_eq.mpr c8
     have c8b1 : (t162 != 0) = false := bne_eq_false_iff_eq.mpr c8
     clear c8
     obtain rfl := Option.some.inj H
     go_enter Try.func41, Try.ntmps41
    rotate_left 1
    focus
     rw [if_neg c8] at H
     have c8b0 : (t162 == 0) = false := beq_eq_false_iff_ne.mpr c8
     have c8b1 : (t162 != 0) = true := bne_iff_ne.mpr c8
     obtain rfl := Option.some.inj H
     go_enter Try.func41, Try.ntmps41
    rotate_right 1
   rotate_left 2
   focus
    rw [if_neg c7] at H
    have c7b0 : (t165.toList == ([97, 98] : List UInt8)) = false := beq_eq_false_iff_ne.mpr c7
    have c7b1 : (t165.toList != ([97, 98] : List UInt8)) = true := bne_iff_ne.mpr c7
    obtain rfl := Option.some.inj H
    go_enter Try.func41, Try.ntmps41
   rotate_right 2
  rotate_left 3
  focus
   rw [if_neg c6] at H
   have c6b0 : (t168 == 0) = false := beq_eq_false_iff_ne.mpr c6
   have c6b1 : (t168 != 0) = true := bne_iff_ne.mpr c6
   obtain rfl := Option.some.inj H
   go_enter Try.func41, Try.ntmps41
  rotate_right 3
 rotate_left 4
 focus
  rw [if_neg c4] at H
  have c4b0 : (t167 == 0) = false := beq_eq_false_iff_ne.mpr c4
  have c4b1 : (t167 != 0) = true := bne_iff_ne.mpr c4
  obtain rfl := Option.some.inj H
  go_enter Try.func41, Try.ntmps41
 rotate_right 4
 all_goals go_wp2_with (first | ((with_reducible refine gate_callee (f := 36) rfl ?_); refine gL_ (some 8) Try.func36 #[.agg #[.slice none 0 0, .slice none 0 0], .string (⟨#[97, 98]⟩ : ByteArray)] (h := ?_); (refine (page_Add.calls k _ _ ([] : List ByteArray) _ _ ([] : List Int) (⟨#[97, 98]⟩ : ByteArray) t156 t159 t162 t163 _ ?side1 ?side2 ?side3 ?side4 A1.out).mono ?_); (case side1 => exact Kd.C_nil _ _); (case side2 => exact Nat.le_refl _); (case side3 => exact Kd.C_nil _ _); (case side4 => exact Nat.le_refl _); rintro e w9 ⟨v157, v160, rfl, ho0, ho1, hb⟩; refine ⟨_, rfl, ?_⟩; have n0_ := mk0 (Kd.R_lower ho0 (bz_ (b_ HB))); have n1_ := mk0 (Kd.Q_lower ho1 (bz_ (b_ HB))); replace HB := mk0 (bt_ (b_ HB) hb); have HO158 := n0_; have HO161 := n1_; clear n0_ n1_; (try clear hb); (try clear ho0); (try clear ho1)) | ((with_reducible refine gate_dst (N := 1) rfl ?_); (try (refine gate_guard (by rfl) ?_; dsimp only)); refine bx_ (N := 1) (cs := #[.slice none 0 0, .slice none 0 0]) (t := 56) (h := ?_); intro gb164 hg w10 hbox hb; have n4_ := mk0 (gz_ HB hg); have n5_ := mk0 (gz_ HB hg); replace HO158 := mk0 (Kd.R_below (r_ HO158) hb); replace HO161 := mk0 (Kd.Q_below (q_ HO161) hb); replace HB := mk0 (bt_ (b_ HB) hb); have BK164 := mk0 (hbox); have GW164 := n4_; have GE164 := n5_; clear n4_ n5_ hb hbox hg; obtain ⟨Ao11, co11, eo11⟩ := Kd.R_slice HO158.out; subst eo11; obtain ⟨hcz12_0, hcz12_1, hfz12_0, hfz12_1⟩ := c2_ BK164; obtain ⟨Ao13, co13, eo13, _⟩ := Kd.Q_slice HO161.out; subst eo13) | ((with_reducible refine gate_callee (f := 38) rfl ?_); refine gL_ (some 15) Try.func38 #[.agg #[.slice Ao11 t156.length co11, .slice Ao13 t159.length co13], .int .i64 t162] (h := ?_); (with_reducible refine (page_Get.calls k _ _ t156 _ _ t159 t162 t165 t166 _ ?side1 ?side2 ?side3 ?side4 A2.out).mono ?_); (case side1 => refine (Kd.R_reads' (e := 9) (base := w.heap.size) (ok := fun k_ => True) (n := t156.length) (c := co11) ?_).2.2; exact (r2_ (Kd.R_mono (Kd.R_far (p := ⟨gb164, 1, none⟩) (Kd.R_far (p := ⟨gb164, 0, none⟩) (Kd.R_types HO158.out BK164.out (by decide)) (fun _ hk => hk.2) (.slice Ao11 t156.length co11)) (fun _ hk => hk.2) (.slice Ao13 t159.length co13)) (fun _ h_ => h_.1)))); (case side2 => exact (Kd.R_reads' HO158.out).2.1); (case side3 => refine (Kd.Q_reads' (e := 3) (base := w.heap.size) (ok := fun k_ => True) (n := t159.length) (c := co13) ?_).2.2; exact (q2_ (Kd.Q_mono (Kd.Q_far (p := ⟨gb164, 1, none⟩) (Kd.Q_far (p := ⟨gb164, 0, none⟩) (Kd.Q_types HO161.out BK164.out (by decide)) (fun _ hk => hk.2) (.slice Ao11 t156.length co11)) (fun _ hk => hk.2) (.slice Ao13 t159.length co13)) (fun _ h_ => h_.1)))); (case side4 => exact (Kd.Q_reads' HO161.out).2.1); rintro e w14 ⟨rfl, hb⟩; refine ⟨_, rfl, ?_⟩; have n0_ := mk0 (Kd.R_below (r2_ (Kd.R_mono (Kd.R_far (p := ⟨gb164, 1, none⟩) (Kd.R_far (p := ⟨gb164, 0, none⟩) (Kd.R_types HO158.out BK164.out (by decide)) (fun _ hk => hk.2) (.slice Ao11 t156.length co11)) (fun _ hk => hk.2) (.slice Ao13 t159.length co13)) (fun _ h_ => h_.1))) hb); have n1_ := mk0 (Kd.Q_below (q2_ (Kd.Q_mono (Kd.Q_far (p := ⟨gb164, 1, none⟩) (Kd.Q_far (p := ⟨gb164, 0, none⟩) (Kd.Q_types HO161.out BK164.out (by decide)) (fun _ hk => hk.2) (.slice Ao11 t156.length co11)) (fun _ hk => hk.2) (.slice Ao13 t159.length co13)) (fun _ h_ => h_.1))) hb); replace BK164 := mk0 (blk_below (g := gb164) (o := .cells #[.slice Ao11 t156.length co11, .slice Ao13 t159.length co13] 56 (0, 0)) (pu_ (cs := #[.slice Ao11 t156.length co11, .slice none 0 0]) (pu_ (cs := #[.slice none 0 0, .slice none 0 0]) (h_ BK164))) hb); replace HB := mk0 (bt_ (b_ HB) hb); clear HO158 HO161; have HO158 := n0_; have HO161 := n1_; clear n0_ n1_; (try clear hb)) | ((with_reducible refine gate_callee (f := 35) rfl ?_); refine gL_ (some 19) Try.func35 #[.int .i64 t163] (h := ?_); (with_reducible refine (quorumlaw5_num.calls t163 t167 _ A3.out).mono ?_); rintro e w' ⟨rfl, ⟨nd, rfl⟩⟩; refine ⟨_, rfl, ?_⟩) | (go_at_call 35; (with_reducible refine (quorumlaw5_num.calls t166 t168 _ A5.out).mono ?_); rintro e w' ⟨rfl, ⟨nd, rfl⟩⟩; obtain ⟨hcz15_0, hcz15_1, hfz15_0, hfz15_1⟩ := c2_ BK164) | ((with_reducible refine gate_callee (f := 35) rfl ?_); refine gL_ (some 19) Try.func35 #[.int .i64 t163] (h := ?_); (with_reducible refine (quorumlaw5_num.calls t163 t167 _ A3.out).mono ?_); rintro e w' ⟨rfl, ⟨nd, rfl⟩⟩; refine ⟨_, rfl, ?_⟩) | (go_at_call 35; (with_reducible refine (quorumlaw5_num.calls t166 t168 _ A5.out).mono ?_); rintro e w' ⟨rfl, ⟨nd, rfl⟩⟩) | ((with_reducible refine gate_callee (f := 35) rfl ?_); refine gL_ (some 19) Try.func35 #[.int .i64 t163] (h := ?_); (with_reducible refine (quorumlaw5_num.calls t163 t167 _ A3.out).mono ?_); rintro e w' ⟨rfl, ⟨nd, rfl⟩⟩; refine ⟨_, rfl, ?_⟩))
 ·go_ret
  exact ⟨by first | rfl | (simp [errW_none, errW_some] <;> rfl) | (simp [*, errW_none, errW_some] <;> rfl), b_ HB⟩
 ·go_ret
  exact ⟨by first | rfl | (simp [errW_none, errW_some] <;> rfl) | (simp [*, errW_none, errW_some] <;> rfl), b_ HB⟩
 ·go_ret
  exact ⟨by first | rfl | (simp [errW_none, errW_some] <;> rfl) | (simp [*, errW_none, errW_some] <;> rfl), b_ HB⟩
 ·go_ret
  exact ⟨by first | rfl | (simp [errW_none, errW_some] <;> rfl) | (simp [*, errW_none, errW_some] <;> rfl), b_ HB⟩
 ·go_ret
  exact ⟨by first | rfl | (simp [errW_none, errW_some] <;> rfl) | (simp [*, errW_none, errW_some] <;> rfl), b_ HB⟩

/-! ### quorumref0_CopyStrings: function 78 -/
def quorumref0_CopyStrings.l0 : Nat → List ByteArray → List ByteArray → Int → Option (List ByteArray)
 | 0, _, _, _ => none
 | k + 1, x0, x3, x4 => if x4 < (x0.length : Int) then (if 0 ≤ x4 then (if x3.length < 8796093022208 then (quorumref0_CopyStrings.l0 k x0 (x3 ++ [rdOf ByteArray.empty x0 x4]) (wrap64 (x4 + 1))) else (none)) else (none)) else (some x3)
def quorumref0_CopyStrings.f (k : Nat) (l0 : List ByteArray) : Option (List ByteArray) := quorumref0_CopyStrings.l0 k l0 ([] : List ByteArray) 0
theorem quorumref0_CopyStrings.mono_l : ∀ k, (∀ y0 y1 y2, LeO (quorumref0_CopyStrings.l0 k y0 y1 y2) (quorumref0_CopyStrings.l0 (k + 1) y0 y1 y2))
 | 0 => fun _ _ _ r h => by simp [quorumref0_CopyStrings.l0] at h
 | k + 1 => by
  have ih0 := quorumref0_CopyStrings.mono_l k
  ·intro y0 y1 y2
   unfold quorumref0_CopyStrings.l0
   repeat' first
   | (with_reducible exact ih0 _ _ _)
   | (with_reducible exact LeO.refl _)
   | (with_reducible exact LeO.none _)
   | (with_reducible refine LeO.ite ?_ ?_)
   | (with_reducible refine LeO.bind ?_ (fun _ => ?_))
   | exact ih0 _ _ _
   | exact LeO.none _
   | refine LeO.ite ?_ ?_
   | refine LeO.bind ?_ (fun _ => ?_)
theorem quorumref0_CopyStrings.mono : ∀ a0 k, LeO (quorumref0_CopyStrings.f k a0) (quorumref0_CopyStrings.f (k + 1) a0) := by
 intro a0 k
 have ih0 := quorumref0_CopyStrings.mono_l k
 unfold quorumref0_CopyStrings.f
 repeat' first
   | (with_reducible exact ih0 _ _ _)
   | (with_reducible exact LeO.refl _)
   | (with_reducible exact LeO.none _)
   | (with_reducible refine LeO.ite ?_ ?_)
   | (with_reducible refine LeO.bind ?_ (fun _ => ?_))
   | exact ih0 _ _ _
   | exact LeO.none _
   | refine LeO.ite ?_ ?_
   | refine LeO.bind ?_ (fun _ => ?_)
set_option maxHeartbeats 8000000 in
set_option maxRecDepth 100000 in
theorem quorumref0_CopyStrings.calls (k : Nat) (A0 : Option Addr) (c0 : Nat) (l0 : List ByteArray) (r : List ByteArray) (w : World) (hr0 : Kd.C Kd.string w A0 l0.length l0) (hc0 : l0.length ≤ c0) (h : quorumref0_CopyStrings.f k l0 = some r) :
  Calls Try.prog 78 #[.slice A0 l0.length c0] w fun e w' => ∃ v0_ : Value, e = .returned (v0_) ∧ Kd.R Kd.string 9 w' w.heap.size (fun _ => True) v0_ r ∧ Below w.heap.size w w' := by
 have HR0 := mk0 hr0
 have HC0 := mk0 hc0
 clear hr0 hc0
 have HB := mk0 (Below.refl w.heap.size w)
 have H : (quorumref0_CopyStrings.l0 k l0 ([] : List ByteArray) 0) = some r := h
 clear h
 have H' := mk0 H
 clear H
 go_enter Try.func78, Try.ntmps78
 go_wp2
 go_loopg [3, 4] k (fun kq v3 v4 w' => ∃ (x3_1 : List ByteArray) (x4_1 : Int), v4 = .int .i64 x4_1 ∧ Fc (quorumref0_CopyStrings.l0 kq l0 x3_1 x4_1 = some r) ∧ Fc (kq ≤ k) ∧ Fc (Kd.R Kd.string 9 w' w.heap.size (fun _ => True) v3 x3_1) ∧ Fc (Below w.heap.size w w'))
 case atStart => exact ⟨(([] : List ByteArray)), (0), (by first | rfl | (simp; done) | (simp [*]; done)), H', ⟨Nat.le_refl _⟩, ⟨by first | exact Kd.R_nil _ _ _ _ _ | exact Kd.N_nil _ _ _ _ _ | exact Kd.V_nil _ _ _ _ _ | exact Kd.Q_nil _ _ _ _ _ | exact Kd.S_nil _ _ _ _ _⟩, ⟨b_ HB⟩⟩
 case round =>
  clear H'
  obtain ⟨x3_1, x4_1, rfl, HA, HK1, HO_3, HB⟩ := hrel
  cases gk with
  | zero => exact absurd HA.out (by simp [quorumref0_CopyStrings.l0])
  | succ k1 =>
   have H := HA.out
   clear HA
   simp only [quorumref0_CopyStrings.l0] at H
   as_aux_lemma =>
    by_cases c2 : x4_1 < (l0.length : Int)
    ·rw [if_pos c2] at H
     have c2b0 : decide (x4_1 < (l0.length : Int)) = true := decide_eq_true c2
     clear c2
     by_cases c3 : 0 ≤ x4_1
     ·rw [if_pos c3] at H
      have c3b0 : decide (0 ≤ x4_1) = true := decide_eq_true c3
      clear c3
      by_cases c4 : x3_1.length < 8796093022208
      ·rw [if_pos c4] at H
       have LMc4 := mk0 c4
       clear c4
       obtain ⟨y170, hy170⟩ : ∃ y_ : List ByteArray, y_ = (x3_1 ++ [rdOf ByteArray.empty l0 x4_1]) := ⟨_, rfl⟩
       replace H : (quorumref0_CopyStrings.l0 k1 l0 y170 (wrap64 (x4_1 + 1))) = some r := by first | (rw [hy170]; with_reducible exact H) | (have H2_ := (Option.bind_some _ _).symm.trans H; rw [hy170]; with_reducible exact H2_) | (have H2_ := (Option.bind_some _ _).symm.trans H; with_reducible exact H2_) | with_reducible exact H | (rw [hy170]; exact H) | exact H
       have Ny170 := mk0 hy170
       clear hy170
       have H' := mk0 H
       clear H
       have p169 : 0 ≤ (x4_1 : Int) := of_decide_eq_true (by first | (with_reducible assumption) | assumption)
       have q169 : x4_1 < (l0.length : Int) := of_decide_eq_true (by first | (with_reducible assumption) | assumption)
       obtain ⟨ad169, e169, hx169_0⟩ := Kd.at_string HR0.out x4_1 p169 q169
       cases e169
       replace hx169_0 := (HB.out.cell (World.block_lt_of_cell? w _ hx169_0)).trans hx169_0
       replace p169 := eq_true p169
       replace q169 := eq_true q169
       go_wp2_with (first | ((with_reducible refine gate_builtin (b := .append) (xs := #[.tmp 11, .tmp 16]) rfl ?_); at_builtin; refine Kd.R_append Kd.string (w0 := w) w.heap.size rfl (.tmp 11) (.tmp 16) 25 9 (.string ⟨#[]⟩) 16 rfl Try.underlying25 info9 rfl (by decide) (by omega) u3 x3_1 (rdOf ByteArray.empty l0 x4_1) [.string (rdOf ByteArray.empty l0 x4_1)] (fun _ => True) (fun _ => False) rfl rfl ?aP (fun _ hk => hk.elim) ?aF ?aO ?aB ?aS ?aL ?_; (case aP => exact rfl); (case aB => exact (b_ HB)); (case aF => exact (fun _ _ => trivial)); (case aO => exact (r_ HO_3)); (case aS => exact (bz_ (b_ HB))); (case aL => have := LMc4.out; omega); intro v171 w5 ho hb hg hat; rw [← Ny170.out] at ho; replace HB := mk0 (hb); have HO172 := mk0 (ho); clear HO_3; clear ho hb hg hat))
       go_roundg k1
       case measure => have := HK1.out; omega
       case rel => exact ⟨(y170), (wrap64 (x4_1 + 1)), (by first | rfl | (simp; done) | (simp [*]; done)), H', ⟨by have := HK1.out; omega⟩, ⟨by (with_reducible repeat (first | apply Ra_ | apply Rn_ | apply Rd_)); exact HO172.out⟩, ⟨b_ HB⟩⟩
      ·rw [if_neg c4] at H
       exact absurd H (by simp)
     ·rw [if_neg c3] at H
      exact absurd H (by simp)
    ·rw [if_neg c2] at H
     have c2b0 : decide (x4_1 < (l0.length : Int)) = false := decide_eq_false c2
     clear c2
     obtain rfl := Option.some.inj H
     go_wp2
     go_ret
     exact ⟨_, by first | rfl | (simp [errW_none, errW_some] <;> rfl) | (simp [*, errW_none, errW_some] <;> rfl), by (with_reducible repeat (first | apply Ra_ | apply Rn_ | apply Rd_)); exact HO_3.out, b_ HB⟩

/-! ### quorumref0_CopyNumbers: function 79 -/
def quorumref0_CopyNumbers.l0 : Nat → List Int → List Int → Int → Option (List Int)
 | 0, _, _, _ => none
 | k + 1, x0, x3, x4 => if x4 < (x0.length : Int) then (if 0 ≤ x4 then (if x3.length < 17592186044416 then (quorumref0_CopyNumbers.l0 k x0 (x3 ++ [rd x0 x4]) (wrap64 (x4 + 1))) else (none)) else (none)) else (some x3)
def quorumref0_CopyNumbers.f (k : Nat) (l0 : List Int) : Option (List Int) := quorumref0_CopyNumbers.l0 k l0 ([] : List Int) 0
theorem quorumref0_CopyNumbers.mono_l : ∀ k, (∀ y0 y1 y2, LeO (quorumref0_CopyNumbers.l0 k y0 y1 y2) (quorumref0_CopyNumbers.l0 (k + 1) y0 y1 y2))
 | 0 => fun _ _ _ r h => by simp [quorumref0_CopyNumbers.l0] at h
 | k + 1 => by
  have ih0 := quorumref0_CopyNumbers.mono_l k
  ·intro y0 y1 y2
   unfold quorumref0_CopyNumbers.l0
   repeat' first
   | (with_reducible exact ih0 _ _ _)
   | (with_reducible exact LeO.refl _)
   | (with_reducible exact LeO.none _)
   | (with_reducible refine LeO.ite ?_ ?_)
   | (with_reducible refine LeO.bind ?_ (fun _ => ?_))
   | exact ih0 _ _ _
   | exact LeO.none _
   | refine LeO.ite ?_ ?_
   | refine LeO.bind ?_ (fun _ => ?_)
theorem quorumref0_CopyNumbers.mono : ∀ a0 k, LeO (quorumref0_CopyNumbers.f k a0) (quorumref0_CopyNumbers.f (k + 1) a0) := by
 intro a0 k
 have ih0 := quorumref0_CopyNumbers.mono_l k
 unfold quorumref0_CopyNumbers.f
 repeat' first
   | (with_reducible exact ih0 _ _ _)
   | (with_reducible exact LeO.refl _)
   | (with_reducible exact LeO.none _)
   | (with_reducible refine LeO.ite ?_ ?_)
   | (with_reducible refine LeO.bind ?_ (fun _ => ?_))
   | exact ih0 _ _ _
   | exact LeO.none _
   | refine LeO.ite ?_ ?_
   | refine LeO.bind ?_ (fun _ => ?_)
set_option maxHeartbeats 8000000 in
set_option maxRecDepth 100000 in
theorem quorumref0_CopyNumbers.calls (k : Nat) (A0 : Option Addr) (c0 : Nat) (l0 : List Int) (r : List Int) (w : World) (hr0 : Kd.C (Kd.int .i64) w A0 l0.length l0) (hc0 : l0.length ≤ c0) (h : quorumref0_CopyNumbers.f k l0 = some r) :
  Calls Try.prog 79 #[.slice A0 l0.length c0] w fun e w' => ∃ v0_ : Value, e = .returned (v0_) ∧ Kd.R (Kd.int .i64) 3 w' w.heap.size (fun _ => True) v0_ r ∧ Below w.heap.size w w' := by
 have HR0 := mk0 hr0
 have HC0 := mk0 hc0
 clear hr0 hc0
 have HB := mk0 (Below.refl w.heap.size w)
 have H : (quorumref0_CopyNumbers.l0 k l0 ([] : List Int) 0) = some r := h
 clear h
 have H' := mk0 H
 clear H
 go_enter Try.func79, Try.ntmps79
 go_wp2
 go_loopg [3, 4] k (fun kq v3 v4 w' => ∃ (x3_1 : List Int) (x4_1 : Int), v4 = .int .i64 x4_1 ∧ Fc (quorumref0_CopyNumbers.l0 kq l0 x3_1 x4_1 = some r) ∧ Fc (kq ≤ k) ∧ Fc (Kd.R (Kd.int .i64) 3 w' w.heap.size (fun _ => True) v3 x3_1) ∧ Fc (Below w.heap.size w w'))
 case atStart => exact ⟨(([] : List Int)), (0), (by first | rfl | (simp; done) | (simp [*]; done)), H', ⟨Nat.le_refl _⟩, ⟨by first | exact Kd.R_nil _ _ _ _ _ | exact Kd.N_nil _ _ _ _ _ | exact Kd.V_nil _ _ _ _ _ | exact Kd.Q_nil _ _ _ _ _ | exact Kd.S_nil _ _ _ _ _⟩, ⟨b_ HB⟩⟩
 case round =>
  clear H'
  obtain ⟨x3_1, x4_1, rfl, HA, HK1, HO_3, HB⟩ := hrel
  cases gk with
  | zero => exact absurd HA.out (by simp [quorumref0_CopyNumbers.l0])
  | succ k1 =>
   have H := HA.out
   clear HA
   simp only [quorumref0_CopyNumbers.l0] at H
   as_aux_lemma =>
    by_cases c2 : x4_1 < (l0.length : Int)
    ·rw [if_pos c2] at H
     have c2b0 : decide (x4_1 < (l0.length : Int)) = true := decide_eq_true c2
     clear c2
     by_cases c3 : 0 ≤ x4_1
     ·rw [if_pos c3] at H
      have c3b0 : decide (0 ≤ x4_1) = true := decide_eq_true c3
      clear c3
      by_cases c4 : x3_1.length < 17592186044416
      ·rw [if_pos c4] at H
       have LMc4 := mk0 c4
       clear c4
       obtain ⟨y174, hy174⟩ : ∃ y_ : List Int, y_ = (x3_1 ++ [rd l0 x4_1]) := ⟨_, rfl⟩
       replace H : (quorumref0_CopyNumbers.l0 k1 l0 y174 (wrap64 (x4_1 + 1))) = some r := by first | (rw [hy174]; with_reducible exact H) | (have H2_ := (Option.bind_some _ _).symm.trans H; rw [hy174]; with_reducible exact H2_) | (have H2_ := (Option.bind_some _ _).symm.trans H; with_reducible exact H2_) | with_reducible exact H | (rw [hy174]; exact H) | exact H
       have Ny174 := mk0 hy174
       clear hy174
       have H' := mk0 H
       clear H
       have p173 : 0 ≤ (x4_1 : Int) := of_decide_eq_true (by first | (with_reducible assumption) | assumption)
       have q173 : x4_1 < (l0.length : Int) := of_decide_eq_true (by first | (with_reducible assumption) | assumption)
       obtain ⟨ad173, e173, hx173_0⟩ := Kd.at_int HR0.out x4_1 p173 q173
       cases e173
       replace hx173_0 := (HB.out.cell (World.block_lt_of_cell? w _ hx173_0)).trans hx173_0
       replace p173 := eq_true p173
       replace q173 := eq_true q173
       go_wp2_with (first | ((with_reducible refine gate_builtin (b := .append) (xs := #[.tmp 11, .tmp 16]) rfl ?_); at_builtin; refine Kd.R_append (Kd.int .i64) (w0 := w) w.heap.size rfl (.tmp 11) (.tmp 16) 24 3 (.int .i64 0) 8 rfl Try.underlying24 info3 rfl (by decide) (by omega) u3 x3_1 (rd l0 x4_1) [.int .i64 (rd l0 x4_1)] (fun _ => True) (fun _ => False) rfl rfl ?aP (fun _ hk => hk.elim) ?aF ?aO ?aB ?aS ?aL ?_; (case aP => exact rfl); (case aB => exact (b_ HB)); (case aF => exact (fun _ _ => trivial)); (case aO => exact (r_ HO_3)); (case aS => exact (bz_ (b_ HB))); (case aL => have := LMc4.out; omega); intro v175 w5 ho hb hg hat; rw [← Ny174.out] at ho; replace HB := mk0 (hb); have HO176 := mk0 (ho); clear HO_3; clear ho hb hg hat))
       go_roundg k1
       case measure => have := HK1.out; omega
       case rel => exact ⟨(y174), (wrap64 (x4_1 + 1)), (by first | rfl | (simp; done) | (simp [*]; done)), H', ⟨by have := HK1.out; omega⟩, ⟨by (with_reducible repeat (first | apply Ra_ | apply Rn_ | apply Rd_)); exact HO176.out⟩, ⟨b_ HB⟩⟩
      ·rw [if_neg c4] at H
       exact absurd H (by simp)
     ·rw [if_neg c3] at H
      exact absurd H (by simp)
    ·rw [if_neg c2] at H
     have c2b0 : decide (x4_1 < (l0.length : Int)) = false := decide_eq_false c2
     clear c2
     obtain rfl := Option.some.inj H
     go_wp2
     go_ret
     exact ⟨_, by first | rfl | (simp [errW_none, errW_some] <;> rfl) | (simp [*, errW_none, errW_some] <;> rfl), by (with_reducible repeat (first | apply Ra_ | apply Rn_ | apply Rd_)); exact HO_3.out, b_ HB⟩

/-! ### quorumref0_CopyPage: function 42 -/
def quorumref0_CopyPage.f (k : Nat) (l0_0 : List ByteArray) (l0_1 : List Int) : Option (List ByteArray × List Int) := (quorumref0_CopyStrings.f k l0_0).bind fun t180 => ((quorumref0_CopyNumbers.f k l0_1).bind fun t183 => (some (t180, t183)))
theorem quorumref0_CopyPage.mono : ∀ a0 a1 k, LeO (quorumref0_CopyPage.f k a0 a1) (quorumref0_CopyPage.f (k + 1) a0 a1) := by
 intro a0 a1 k
 unfold quorumref0_CopyPage.f
 repeat' first
   | (with_reducible exact quorumref0_CopyNumbers.mono _ _)
   | (with_reducible exact quorumref0_CopyStrings.mono _ _)
   | (with_reducible exact LeO.refl _)
   | (with_reducible exact LeO.none _)
   | (with_reducible refine LeO.ite ?_ ?_)
   | (with_reducible refine LeO.bind ?_ (fun _ => ?_))
   | exact quorumref0_CopyNumbers.mono _ _
   | exact quorumref0_CopyStrings.mono _ _
   | exact LeO.none _
   | refine LeO.ite ?_ ?_
   | refine LeO.bind ?_ (fun _ => ?_)
set_option maxHeartbeats 8000000 in
set_option maxRecDepth 100000 in
theorem quorumref0_CopyPage.calls (k : Nat) (A0_0 : Option Addr) (c0_0 : Nat) (l0_0 : List ByteArray) (A0_1 : Option Addr) (c0_1 : Nat) (l0_1 : List Int) (r1 : List ByteArray) (r2 : List Int) (w : World) (hr0_0 : Kd.C Kd.string w A0_0 l0_0.length l0_0) (hc0_0 : l0_0.length ≤ c0_0) (hr0_1 : Kd.C (Kd.int .i64) w A0_1 l0_1.length l0_1) (hc0_1 : l0_1.length ≤ c0_1) (h : quorumref0_CopyPage.f k l0_0 l0_1 = some (r1, r2)) :
  Calls Try.prog 42 #[.agg #[.slice A0_0 l0_0.length c0_0, .slice A0_1 l0_1.length c0_1]] w fun e w' => ∃ v0_ v1_ : Value, e = .returned (.agg #[v0_, v1_]) ∧ Kd.R Kd.string 9 w' w.heap.size (fun _ => True) v0_ r1 ∧ Kd.R (Kd.int .i64) 3 w' w.heap.size (fun _ => True) v1_ r2 ∧ Below w.heap.size w w' := by
 have hu56 := Try.underlying56
 have HR0_0 := mk0 hr0_0
 have HC0_0 := mk0 hc0_0
 clear hr0_0 hc0_0
 have HR0_1 := mk0 hr0_1
 have HC0_1 := mk0 hc0_1
 clear hr0_1 hc0_1
 have HB := mk0 (Below.refl w.heap.size w)
 have H : ((quorumref0_CopyStrings.f k l0_0).bind fun t180 => ((quorumref0_CopyNumbers.f k l0_1).bind fun t183 => (some (t180, t183)))) = some (r1, r2) := h
 clear h
 replace H := Option.bind_eq_some_iff.mp H
 obtain ⟨t180, A20, H⟩ := H
 try dsimp only at H
 have A2 := mk0 A20
 clear A20
 replace H := Option.bind_eq_some_iff.mp H
 obtain ⟨t183, A30, H⟩ := H
 try dsimp only at H
 have A3 := mk0 A30
 clear A30
 simp only [Option.some.injEq, Prod.mk.injEq] at H
 obtain ⟨rfl, rfl⟩ := H
 go_enter Try.func42, Try.ntmps42
 go_wp2_with (first | ((with_reducible refine gate_dst (N := 1) rfl ?_); refine bx_ (N := 1) (cs := #[.slice A0_0 l0_0.length c0_0, .slice A0_1 l0_1.length c0_1]) (t := 56) (h := ?_); intro gb177 hg w4 hbox hb; have n2_ := mk0 (gz_ HB hg); have n3_ := mk0 (gz_ HB hg); replace HB := mk0 (bt_ (b_ HB) hb); have BK177 := mk0 (hbox); have GW177 := n2_; have GE177 := n3_; clear n2_ n3_; clear hb hbox hg) | ((with_reducible refine gate_dst (N := 2) rfl ?_); refine bx_ (N := 2) (cs := #[.slice none 0 0, .slice none 0 0]) (t := 56) (h := ?_); intro gb178 hg w5 hbox hb; have n3_ := mk0 (gz_ HB hg); have n4_ := mk0 (gz_ HB hg); have n5_ := mk0 (ne1_ BK177 hg); have n6_ := mk0 (ne2_ BK177 hg); replace BK177 := mk0 (u_ BK177 hb); replace HB := mk0 (bt_ (b_ HB) hb); have BK178 := mk0 (hbox); have GW178 := n3_; have GE178 := n4_; have NB177_178 := n5_; have NB178_177 := n6_; clear n3_ n4_ n5_ n6_ hb hbox hg; have hnb6 := NB177_178.out; have hnc6 := NB178_177.out; obtain ⟨hcz7_0, hcz7_1, hfz7_0, hfz7_1⟩ := c2_ BK177) | ((with_reducible refine gate_dst (N := 3) rfl ?_); refine bx_ (N := 3) (cs := #[.slice none 0 0, .slice none 0 0]) (t := 56) (h := ?_); intro gb179 hg w8 hbox hb; have n4_ := mk0 (gz_ HB hg); have n5_ := mk0 (gz_ HB hg); have n6_ := mk0 (ne1_ BK177 hg); have n7_ := mk0 (ne2_ BK177 hg); have n8_ := mk0 (ne1_ BK178 hg); have n9_ := mk0 (ne2_ BK178 hg); replace BK177 := mk0 (u_ BK177 hb); replace BK178 := mk0 (u_ BK178 hb); replace HB := mk0 (bt_ (b_ HB) hb); have BK179 := mk0 (hbox); have GW179 := n4_; have GE179 := n5_; have NB177_179 := n6_; have NB179_177 := n7_; have NB178_179 := n8_; have NB179_178 := n9_; clear n4_ n5_ n6_ n7_ n8_ n9_ hb hbox hg; have hnb9 := NB179_177.out; have hnc9 := NB177_179.out; have hnb10 := NB179_178.out; have hnc10 := NB178_179.out; obtain ⟨hcz11_0, hcz11_1, hfz11_0, hfz11_1⟩ := c2_ BK179; obtain ⟨hcz12_0, hcz12_1, hfz12_0, hfz12_1⟩ := c2_ BK177) | ((with_reducible refine gate_callee (f := 78) rfl ?_); refine gL_ (some 7) Try.func78 #[.slice A0_0 l0_0.length c0_0] (h := ?_); (with_reducible refine (quorumref0_CopyStrings.calls k _ _ l0_0 t180 _ ?side1 ?side2 A2.out).mono ?_); (case side1 => exact Kd.C_below HR0_0.out (b_ HB)); (case side2 => exact HC0_0.out); rintro e w13 ⟨v181, rfl, ho0, hb⟩; refine ⟨_, rfl, ?_⟩; have n0_ := mk0 (Kd.R_lower ho0 (bz_ (b_ HB))); replace BK177 := mk0 (blk_below (g := gb177) (o := .cells #[.slice A0_0 l0_0.length c0_0, .slice A0_1 l0_1.length c0_1] 56 (0, 0)) (fa_ (fa_ (h_ BK177) NB177_179.out) NB177_179.out) hb); replace BK178 := mk0 (blk_below (g := gb178) (o := .cells #[.slice none 0 0, .slice none 0 0] 56 (0, 0)) (fa_ (fa_ (h_ BK178) NB178_179.out) NB178_179.out) hb); replace BK179 := mk0 (blk_below (g := gb179) (o := .cells #[.slice A0_0 l0_0.length c0_0, .slice A0_1 l0_1.length c0_1] 56 (0, 0)) (pu_ (cs := #[.slice A0_0 l0_0.length c0_0, .slice none 0 0]) (pu_ (cs := #[.slice none 0 0, .slice none 0 0]) (h_ BK179))) hb); replace HB := mk0 (bt_ (b_ HB) hb); have HO182 := n0_; clear n0_; (try clear hb); (try clear ho0); obtain ⟨Ao14, co14, eo14⟩ := Kd.R_slice HO182.out; subst eo14; obtain ⟨hcz15_0, hcz15_1, hfz15_0, hfz15_1⟩ := c2_ BK179; obtain ⟨hcz16_0, hcz16_1, hfz16_0, hfz16_1⟩ := c2_ BK177) | ((with_reducible refine gate_callee (f := 79) rfl ?_); refine gL_ (some 11) Try.func79 #[.slice A0_1 l0_1.length c0_1] (h := ?_); (with_reducible refine (quorumref0_CopyNumbers.calls k _ _ l0_1 t183 _ ?side1 ?side2 A3.out).mono ?_); (case side1 => exact Kd.C_below HR0_1.out (b_ HB)); (case side2 => exact HC0_1.out); rintro e w17 ⟨v184, rfl, ho0, hb⟩; refine ⟨_, rfl, ?_⟩; have n0_ := mk0 (Kd.R_below (r2_ (Kd.R_mono (Kd.R_far (p := ⟨gb179, 0, none⟩) (Kd.R_types HO182.out BK179.out (by decide)) (fun _ hk => hk.2) (.slice Ao14 t180.length co14)) (fun _ h_ => h_.1))) hb); have n1_ := mk0 (Kd.R_lower ho0 (bz_ (b_ HB))); replace BK177 := mk0 (blk_below (g := gb177) (o := .cells #[.slice A0_0 l0_0.length c0_0, .slice A0_1 l0_1.length c0_1] 56 (0, 0)) (fa_ (h_ BK177) NB177_179.out) hb); replace BK178 := mk0 (blk_below (g := gb178) (o := .cells #[.slice none 0 0, .slice none 0 0] 56 (0, 0)) (fa_ (h_ BK178) NB178_179.out) hb); replace BK179 := mk0 (blk_below (g := gb179) (o := .cells #[.slice Ao14 t180.length co14, .slice A0_1 l0_1.length c0_1] 56 (0, 0)) (pu_ (cs := #[.slice A0_0 l0_0.length c0_0, .slice A0_1 l0_1.length c0_1]) (h_ BK179)) hb); replace HB := mk0 (bt_ (b_ HB) hb); clear HO182; have HO182 := n0_; have HO185 := n1_; clear n0_ n1_; (try clear hb); (try clear ho0); obtain ⟨Ao18, co18, eo18⟩ := Kd.R_slice HO185.out; subst eo18; obtain ⟨hcz19_0, hcz19_1, hfz19_0, hfz19_1⟩ := c2_ BK179; obtain ⟨hcz20_0, hcz20_1, hfz20_0, hfz20_1⟩ := c2_ BK178))
 refine bodyPost_ret (results_cell_row rfl _ _ gb178 56 #[.slice Ao14 t180.length co14, .slice Ao18 t183.length co18] (0, 0) _ rfl (pu_ (cs := #[.slice Ao14 t180.length co14, .slice none 0 0]) (pu_ (cs := #[.slice none 0 0, .slice none 0 0]) (fa_ (h_ BK178) NB178_179.out))) Try.underlying56 rfl (by kernel_rfl)) rfl ?_
 exact ⟨_, _, by first | rfl | (simp [errW_none, errW_some] <;> rfl) | (simp [*, errW_none, errW_some] <;> rfl), by (with_reducible repeat (first | apply Ra_ | apply Rn_ | apply Rd_)); exact Kd.R_mono (Kd.R_far (p := ⟨gb178, 1, none⟩) (Kd.R_far (p := ⟨gb178, 0, none⟩) (Kd.R_far (p := ⟨gb179, 1, none⟩) (Kd.R_types (Kd.R_types HO182.out BK179.out (by decide)) BK178.out (by decide)) (fun _ hk => hk.1.2) (.slice Ao18 t183.length co18)) (fun _ hk => hk.2) (.slice Ao14 t180.length co14)) (fun _ hk => hk.2) (.slice Ao18 t183.length co18)) (fun _ hk => trivial), by (with_reducible repeat (first | apply Ra_ | apply Rn_ | apply Rd_)); exact Kd.R_mono (Kd.R_far (p := ⟨gb178, 1, none⟩) (Kd.R_far (p := ⟨gb178, 0, none⟩) (Kd.R_far (p := ⟨gb179, 1, none⟩) (Kd.R_types (Kd.R_types HO185.out BK179.out (by decide)) BK178.out (by decide)) (fun _ hk => hk.1.2) (.slice Ao18 t183.length co18)) (fun _ hk => hk.2) (.slice Ao14 t180.length co14)) (fun _ hk => hk.2) (.slice Ao18 t183.length co18)) (fun _ hk => trivial), b_ HB⟩

/-! ### quorumlaw0_Within: function 33 -/
def quorumlaw0_Within.f (a0 : Int) (a1 : Int) : Option (Int) := if (IntKind.u64.wrap (a1)) = 0 then (none) else (some (wrap64 (Int.tmod (IntKind.u64.wrap (a0)) (IntKind.u64.wrap (a1)))))
set_option maxHeartbeats 8000000 in
set_option maxRecDepth 100000 in
theorem quorumlaw0_Within.calls (a0 : Int) (a1 : Int) (r : Int) (w : World) (h : quorumlaw0_Within.f a0 a1 = some r) :
  Calls Try.prog 33 #[.int .i64 a0, .int .i64 a1] w fun e w' => e = .returned (.int .i64 r) ∧ Drawn0 w w' := by
 have H : (if (IntKind.u64.wrap (a1)) = 0 then (none) else (some (wrap64 (Int.tmod (IntKind.u64.wrap (a0)) (IntKind.u64.wrap (a1)))))) = some r := h
 clear h
 by_cases c3 : (IntKind.u64.wrap (a1)) = 0
 ·rw [if_pos c3] at H
  exact absurd H (by simp)
 ·rw [if_neg c3] at H
  have c3b0 : ((IntKind.u64.wrap (a1)) == 0) = false := beq_eq_false_iff_ne.mpr c3
  have c3b1 : ((IntKind.u64.wrap (a1)) != 0) = true := bne_iff_ne.mpr c3
  obtain rfl := Option.some.inj H
  go_enter Try.func33, Try.ntmps33
  go_wp2
  go_ret
  exact ⟨by first | rfl | (simp; done) | (simp [*]; done), by repeat (first | exact Drawn0.refl _ | apply Drawn0.step)⟩

/-! ### cmp_isNaN_int: function 162 -/
def cmp_isNaN_int.f (a0 : Int) : Option (Bool) := some (a0 != a0)
set_option maxHeartbeats 8000000 in
set_option maxRecDepth 100000 in
theorem cmp_isNaN_int.calls (a0 : Int) (r : Bool) (w : World) (h : cmp_isNaN_int.f a0 = some r) :
  Calls Try.prog 162 #[.int .i64 a0] w fun e w' => e = .returned (.bool r) ∧ Drawn0 w w' := by
 have H : (some (a0 != a0)) = some r := h
 clear h
 obtain rfl := Option.some.inj H
 go_enter Try.func162, Try.ntmps162
 go_wp2
 go_ret
 exact ⟨by first | rfl | (simp; done) | (simp [*]; done), by repeat (first | exact Drawn0.refl _ | apply Drawn0.step)⟩

/-! ### cmp_Less_int: function 125 -/
def cmp_Less_int.f (a0 : Int) (a1 : Int) : Option (Bool) := (cmp_isNaN_int.f a0).bind fun t186 => (if t186 = true then ((cmp_isNaN_int.f a1).bind fun t187 => (if t187 = true then (some (decide (a0 < a1))) else (some true))) else (some (decide (a0 < a1))))
set_option maxHeartbeats 8000000 in
set_option maxRecDepth 100000 in
theorem cmp_Less_int.calls (a0 : Int) (a1 : Int) (r : Bool) (w : World) (h : cmp_Less_int.f a0 a1 = some r) :
  Calls Try.prog 125 #[.int .i64 a0, .int .i64 a1] w fun e w' => e = .returned (.bool r) ∧ Drawn0 w w' := by
 have H : ((cmp_isNaN_int.f a0).bind fun t186 => (if t186 = true then ((cmp_isNaN_int.f a1).bind fun t187 => (if t187 = true then (some (decide (a0 < a1))) else (some true))) else (some (decide (a0 < a1))))) = some r := h
 clear h
 replace H := Option.bind_eq_some_iff.mp H
 obtain ⟨t186, A30, H⟩ := H
 try dsimp only at H
 have A3 := mk0 A30
 clear A30
 by_cases c4 : t186 = true
 ·subst c4
  rw [if_pos rfl] at H
  replace H := Option.bind_eq_some_iff.mp H
  obtain ⟨t187, A50, H⟩ := H
  try dsimp only at H
  have A5 := mk0 A50
  clear A50
  by_cases c6 : t187 = true
  ·subst c6
   rw [if_pos rfl] at H
   obtain rfl := Option.some.inj H
   go_enter Try.func125, Try.ntmps125
   go_wp2_with (first | ((with_reducible refine gate_callee (f := 162) rfl ?_); refine gL_ (some 6) Try.func162 #[.int .i64 a0] (h := ?_); (with_reducible refine (cmp_isNaN_int.calls a0 true _ A3.out).mono ?_); rintro e w' ⟨rfl, ⟨nd, rfl⟩⟩; refine ⟨_, rfl, ?_⟩) | (go_at_call 162; (with_reducible refine (cmp_isNaN_int.calls a1 true _ A5.out).mono ?_); rintro e w' ⟨rfl, ⟨nd, rfl⟩⟩))
   go_ret
   exact ⟨by first | rfl | (simp; done) | (simp [*]; done), by repeat (first | exact Drawn0.refl _ | apply Drawn0.step)⟩
  ·replace c6 := Bool.eq_false_iff.mpr c6
   subst c6
   rw [if_neg (show ¬ (false = true) by decide)] at H
   obtain rfl := Option.some.inj H
   go_enter Try.func125, Try.ntmps125
   go_wp2_with (first | ((with_reducible refine gate_callee (f := 162) rfl ?_); refine gL_ (some 6) Try.func162 #[.int .i64 a0] (h := ?_); (with_reducible refine (cmp_isNaN_int.calls a0 true _ A3.out).mono ?_); rintro e w' ⟨rfl, ⟨nd, rfl⟩⟩; refine ⟨_, rfl, ?_⟩) | (go_at_call 162; (with_reducible refine (cmp_isNaN_int.calls a1 false _ A5.out).mono ?_); rintro e w' ⟨rfl, ⟨nd, rfl⟩⟩))
   go_ret
   exact ⟨by first | rfl | (simp; done) | (simp [*]; done), by repeat (first | exact Drawn0.refl _ | apply Drawn0.step)⟩
 ·replace c4 := Bool.eq_false_iff.mpr c4
  subst c4
  rw [if_neg (show ¬ (false = true) by decide)] at H
  obtain rfl := Option.some.inj H
  go_enter Try.func125, Try.ntmps125
  go_wp2_with (first | ((with_reducible refine gate_callee (f := 162) rfl ?_); refine gL_ (some 6) Try.func162 #[.int .i64 a0] (h := ?_); (with_reducible refine (cmp_isNaN_int.calls a0 false _ A3.out).mono ?_); rintro e w' ⟨rfl, ⟨nd, rfl⟩⟩; refine ⟨_, rfl, ?_⟩))
  go_ret
  exact ⟨by first | rfl | (simp; done) | (simp [*]; done), by repeat (first | exact Drawn0.refl _ | apply Drawn0.step)⟩

/-! ### slices_isNaN_int: function 126 -/
def slices_isNaN_int.f (a0 : Int) : Option (Bool) := some (a0 != a0)
set_option maxHeartbeats 8000000 in
set_option maxRecDepth 100000 in
theorem slices_isNaN_int.calls (a0 : Int) (r : Bool) (w : World) (h : slices_isNaN_int.f a0 = some r) :
  Calls Try.prog 126 #[.int .i64 a0] w fun e w' => e = .returned (.bool r) ∧ Drawn0 w w' := by
 have H : (some (a0 != a0)) = some r := h
 clear h
 obtain rfl := Option.some.inj H
 go_enter Try.func126, Try.ntmps126
 go_wp2
 go_ret
 exact ⟨by first | rfl | (simp; done) | (simp [*]; done), by repeat (first | exact Drawn0.refl _ | apply Drawn0.step)⟩

end Go.Proofs.Ytoodkefpkgbjcaa.PPgb
