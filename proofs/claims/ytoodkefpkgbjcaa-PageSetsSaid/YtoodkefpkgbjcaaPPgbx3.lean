-- PRINTED by print.py (a twelfth state) out of the translation. Not trusted: Lean checks it.
import Derived.Test.YtoodkefpkgbjcaaPPgbx0
import Derived.Test.YtoodkefpkgbjcaaPPgbx2
namespace Go.Proofs.Ytoodkefpkgbjcaa.PPgb
open Go.RowKit Go.Proofs.YtoodkefpkgbjcaaW.PrintWords Go.Proofs.YtoodkefpkgbjcaaW.PrintLast Go.Proofs.YtoodkefpkgbjcaaW.PrintMore
attribute [local go_sem] max2_int min2_int max_two min_two max_three min_three max_four min_four   -- for this text's walks alone
set_option linter.unusedVariables false
set_option linter.unusedSimpArgs false

/-! ### page_Add: function 36 -/
def page_Add.f (k : Nat) (l0_0 : List ByteArray) (l0_1 : List Int) (a1 : ByteArray) : Option (List ByteArray × List Int × Int × Int) := (page_may.f k l0_0 l0_1).bind fun t118 => (if t118 = true then ((slices_Clone_string_string.f l0_0).bind fun t119 => ((slices_Clone_int_int.f l0_1).bind fun t122 => (if (t122.length : Int) > 0 then (if 0 < (t122.length : Int) then (if 1 ≤ (t122.length : Int) then ((some (t122.drop (1 : Int).toNat : List Int)).bind fun y126 => (if 0 ≤ (rd t122 0) then (if (rd t122 0) < (t119.length : Int) then ((some (t119.set ((rd t122 0) : Int).toNat a1 : List ByteArray)).bind fun y129 => ((page_may.f k y129 y126).bind fun t130 => (if t130 = true then (some (y129, y126, rd t122 0, 0)) else (some (([] : List ByteArray), ([] : List Int), 0, 5))))) else (none)) else (none))) else (none)) else (none)) else (if t119.length < 8796093022208 then ((some (t119 ++ [(⟨#[]⟩ : ByteArray)] : List ByteArray)).bind fun y131 => (if 0 ≤ (t119.length : Int) then (if (t119.length : Int) < (y131.length : Int) then ((some (y131.set ((t119.length : Int) : Int).toNat a1 : List ByteArray)).bind fun y134 => ((page_may.f k y134 t122).bind fun t135 => (if t135 = true then (some (y134, t122, (t119.length : Int), 0)) else (some (([] : List ByteArray), ([] : List Int), 0, 5))))) else (none)) else (none))) else (none))))) else (some (([] : List ByteArray), ([] : List Int), 0, 1)))
theorem page_Add.mono : ∀ a0 a1 a2 k, LeO (page_Add.f k a0 a1 a2) (page_Add.f (k + 1) a0 a1 a2) := by
 intro a0 a1 a2 k
 unfold page_Add.f
 repeat' first
   | (with_reducible exact page_may.mono _ _ _)
   | (with_reducible exact LeO.refl _)
   | (with_reducible exact LeO.none _)
   | (with_reducible refine LeO.ite ?_ ?_)
   | (with_reducible refine LeO.bind ?_ (fun _ => ?_))
   | exact page_may.mono _ _ _
   | exact LeO.none _
   | refine LeO.ite ?_ ?_
   | refine LeO.bind ?_ (fun _ => ?_)
def page_Add.T3 : Bool × List (List Nat × List Nat) := (true, [([], []), ([0], [0]), ([1], [1]), ([], []), ([3], [3]), ([4, 2], [4]), ([2, 5], [2, 5]), ([6, 5, 0, 1, 2, 3, 4, 5, 6], [6])])
def page_Add.B3 : List Nat := [0, 1, 3, 0, 8, 31, 63, 127]
theorem page_Add.tab3 : rtab .any (opsOf Try.f36 3) = page_Add.T3 := by kernel_rfl
theorem page_Add.bits3 : waitsOk page_Add.T3.2 page_Add.B3 = true := by kernel_rfl
def page_Add.T6 : Bool × List (List Nat × List Nat) := (true, [([], []), ([0], [0]), ([1], [1]), ([2], [2]), ([], []), ([4], [4]), ([5], [5]), ([3, 0, 1, 2, 3], [3]), ([0, 1, 2, 3, 4, 5, 6, 7], []), ([8, 6, 7, 0, 1, 2, 3, 4, 5, 6, 7], [6, 8])])
def page_Add.B6 : List Nat := [0, 1, 3, 7, 0, 16, 48, 15, 255, 511]
theorem page_Add.tab6 : rtab .any (opsOf Try.f36 6) = page_Add.T6 := by kernel_rfl
theorem page_Add.bits6 : waitsOk page_Add.T6.2 page_Add.B6 = true := by kernel_rfl
set_option maxHeartbeats 8000000 in
set_option maxRecDepth 100000 in
theorem page_Add.calls (k : Nat) (A0_0 : Option Addr) (c0_0 : Nat) (l0_0 : List ByteArray) (A0_1 : Option Addr) (c0_1 : Nat) (l0_1 : List Int) (a1 : ByteArray) (r1 : List ByteArray) (r2 : List Int) (r3 : Int) (r4 : Int) (w : World) (hr0_0 : Kd.C Kd.string w A0_0 l0_0.length l0_0) (hc0_0 : l0_0.length ≤ c0_0) (hr0_1 : Kd.C (Kd.int .i64) w A0_1 l0_1.length l0_1) (hc0_1 : l0_1.length ≤ c0_1) (h : page_Add.f k l0_0 l0_1 a1 = some (r1, r2, r3, r4)) :
  Calls Try.prog 36 #[.agg #[.slice A0_0 l0_0.length c0_0, .slice A0_1 l0_1.length c0_1], .string a1] w fun e w' => ∃ v0_ v1_ : Value, e = .returned (.tuple #[.agg #[v0_, v1_], .int .i64 r3, .int .i64 r4]) ∧ Kd.R Kd.string 9 w' w.heap.size (fun _ => True) v0_ r1 ∧ Kd.Q (Kd.int .i64) 3 w' w.heap.size (fun _ => True) v1_ r2 ∧ Below w.heap.size w w' := by
 have hu56 := Try.underlying56
 have HR0_0 := mk0 hr0_0
 have HC0_0 := mk0 hc0_0
 clear hr0_0 hc0_0
 have HR0_1 := mk0 hr0_1
 have HC0_1 := mk0 hc0_1
 clear hr0_1 hc0_1
 have HB := mk0 (Below.refl w.heap.size w)
 have H : ((page_may.f k l0_0 l0_1).bind fun t118 => (if t118 = true then ((slices_Clone_string_string.f l0_0).bind fun t119 => ((slices_Clone_int_int.f l0_1).bind fun t122 => (if (t122.length : Int) > 0 then (if 0 < (t122.length : Int) then (if 1 ≤ (t122.length : Int) then ((some (t122.drop (1 : Int).toNat : List Int)).bind fun y126 => (if 0 ≤ (rd t122 0) then (if (rd t122 0) < (t119.length : Int) then ((some (t119.set ((rd t122 0) : Int).toNat a1 : List ByteArray)).bind fun y129 => ((page_may.f k y129 y126).bind fun t130 => (if t130 = true then (some (y129, y126, rd t122 0, 0)) else (some (([] : List ByteArray), ([] : List Int), 0, 5))))) else (none)) else (none))) else (none)) else (none)) else (if t119.length < 8796093022208 then ((some (t119 ++ [(⟨#[]⟩ : ByteArray)] : List ByteArray)).bind fun y131 => (if 0 ≤ (t119.length : Int) then (if (t119.length : Int) < (y131.length : Int) then ((some (y131.set ((t119.length : Int) : Int).toNat a1 : List ByteArray)).bind fun y134 => ((page_may.f k y134 t122).bind fun t135 => (if t135 = true then (some (y134, t122, (t119.length : Int), 0)) else (some (([] : List ByteArray), ([] : List Int), 0, 5))))) else (none)) else (none))) else (none))))) else (some (([] : List ByteArray), ([] : List Int), 0, 1)))) = some (r1, r2, r3, r4) := h
 clear h
 replace H := Option.bind_eq_some_iff.mp H
 obtain ⟨t118, A30, H⟩ := H
 try dsimp only at H
 have A3 := mk0 A30
 clear A30
 by_cases c4 : t118 = true
 ·subst c4
  rw [if_pos rfl] at H
  replace H := Option.bind_eq_some_iff.mp H
  obtain ⟨t119, A50, H⟩ := H
  try dsimp only at H
  have A5 := mk0 A50
  clear A50
  replace H := Option.bind_eq_some_iff.mp H
  obtain ⟨t122, A60, H⟩ := H
  try dsimp only at H
  have A6 := mk0 A60
  clear A60
  by_cases c7 : (t122.length : Int) > 0
  ·rw [if_pos c7] at H
   have c7b0 : decide (0 < (t122.length : Int)) = true := decide_eq_true c7
   have c7b1 : decide (0 < t122.length) = true := decide_eq_true (by omega)
   clear c7
   by_cases c8 : 0 < (t122.length : Int)
   ·rw [if_pos c8] at H
    have c8b0 : decide (0 < (t122.length : Int)) = true := decide_eq_true c8
    have c8b1 : decide (0 < t122.length) = true := decide_eq_true (by omega)
    clear c8
    by_cases c9 : 1 ≤ (t122.length : Int)
    ·rw [if_pos c9] at H
     have c9b0 := eq_true c9
     have c9b1 : decide (1 ≤ (t122.length : Int)) = true := decide_eq_true c9
     clear c9
     obtain ⟨y126, hy126⟩ : ∃ y_ : List Int, y_ = (t122.drop (1 : Int).toNat) := ⟨_, rfl⟩
     replace H : (if 0 ≤ (rd t122 0) then (if (rd t122 0) < (t119.length : Int) then ((some (t119.set ((rd t122 0) : Int).toNat a1 : List ByteArray)).bind fun y129 => ((page_may.f k y129 y126).bind fun t130 => (if t130 = true then (some (y129, y126, rd t122 0, 0)) else (some (([] : List ByteArray), ([] : List Int), 0, 5))))) else (none)) else (none)) = some (r1, r2, r3, r4) := by first | (rw [hy126]; with_reducible exact H) | (have H2_ := (Option.bind_some _ _).symm.trans H; rw [hy126]; with_reducible exact H2_) | (have H2_ := (Option.bind_some _ _).symm.trans H; with_reducible exact H2_) | with_reducible exact H | (rw [hy126]; exact H) | exact H
     have Ny126 := mk0 hy126
     clear hy126
     by_cases c10 : 0 ≤ (rd t122 0)
     ·rw [if_pos c10] at H
      have c10b0 : decide (0 ≤ (rd t122 0)) = true := decide_eq_true c10
      clear c10
      by_cases c11 : (rd t122 0) < (t119.length : Int)
      ·rw [if_pos c11] at H
       have c11b0 : decide ((rd t122 0) < (t119.length : Int)) = true := decide_eq_true c11
       clear c11
       obtain ⟨y129, hy129⟩ : ∃ y_ : List ByteArray, y_ = (t119.set ((rd t122 0) : Int).toNat a1) := ⟨_, rfl⟩
       replace H : ((page_may.f k y129 y126).bind fun t130 => (if t130 = true then (some (y129, y126, rd t122 0, 0)) else (some (([] : List ByteArray), ([] : List Int), 0, 5)))) = some (r1, r2, r3, r4) := by first | (rw [hy129]; with_reducible exact H) | (have H2_ := (Option.bind_some _ _).symm.trans H; rw [hy129]; with_reducible exact H2_) | (have H2_ := (Option.bind_some _ _).symm.trans H; with_reducible exact H2_) | with_reducible exact H | (rw [hy129]; exact H) | exact H
       have Ny129 := mk0 hy129
       clear hy129
       replace H := Option.bind_eq_some_iff.mp H
       obtain ⟨t130, A130, H⟩ := H
       try dsimp only at H
       have A13 := mk0 A130
       clear A130
       by_cases c14 : t130 = true
       ·subst c14
        rw [if_pos rfl] at H
        simp only [Option.some.injEq, Prod.mk.injEq] at H
        obtain ⟨rfl, rfl, rfl, rfl⟩ := H
        go_enter Try.func36, Try.ntmps36
        try go_wp2_with (first | ((with_reducible refine gate_dst (N := 2) rfl ?_); refine bx_ (N := 2) (cs := #[.slice A0_0 l0_0.length c0_0, .slice A0_1 l0_1.length c0_1]) (t := 56) (h := ?_); intro gb116 hg w15 hbox hb; have n2_ := mk0 (gz_ HB hg); have n3_ := mk0 (gz_ HB hg); replace HB := mk0 (bt_ (b_ HB) hb); have BK116 := mk0 (hbox); have GW116 := n2_; have GE116 := n3_; clear n2_ n3_; clear hb hbox hg) | ((with_reducible refine gate_dst (N := 4) rfl ?_); refine bx_ (N := 4) (cs := #[.slice none 0 0, .slice none 0 0]) (t := 56) (h := ?_); intro gb117 hg w16 hbox hb; have n3_ := mk0 (gz_ HB hg); have n4_ := mk0 (gz_ HB hg); have n5_ := mk0 (ne1_ BK116 hg); have n6_ := mk0 (ne2_ BK116 hg); replace BK116 := mk0 (u_ BK116 hb); replace HB := mk0 (bt_ (b_ HB) hb); have BK117 := mk0 (hbox); have GW117 := n3_; have GE117 := n4_; have NB116_117 := n5_; have NB117_116 := n6_; clear n3_ n4_ n5_ n6_ hb hbox hg; have hnb17 := NB116_117.out; have hnc17 := NB117_116.out; obtain ⟨hcz18_0, hcz18_1, hfz18_0, hfz18_1⟩ := c2_ BK116) | ((with_reducible refine gate_callee (f := 72) rfl ?_); refine gL_ (some 8) Try.func72 #[.agg #[.slice A0_0 l0_0.length c0_0, .slice A0_1 l0_1.length c0_1]] (h := ?_); (with_reducible refine (page_may.calls k _ _ l0_0 _ _ l0_1 true _ ?side1 ?side2 ?side3 ?side4 A3.out).mono ?_); (case side1 => exact cb_ HR0_0 HB); (case side2 => exact HC0_0.out); (case side3 => exact cb_ HR0_1 HB); (case side4 => exact HC0_1.out); rintro e w19 ⟨rfl, hb⟩; refine ⟨_, rfl, ?_⟩; replace BK116 := mk0 (u_ BK116 hb); replace BK117 := mk0 (u_ BK117 hb); replace HB := mk0 (bt_ (b_ HB) hb); (try clear hb)))
        replace BK116 := mk0 (bD_ BK116.out)
        replace BK117 := mk0 (bD_ BK117.out)
        replace HB := mk0 (b1_ HB.out)
        refine start_ (n := 8) (S := fun w' => w'.cell? ⟨gb116, 0, none⟩ = some (.slice A0_0 l0_0.length c0_0) ∧ w'.cell? ⟨gb116, 1, none⟩ = some (.slice A0_1 l0_1.length c0_1)) (ds := []) (bt 8 0) (by kernel_rfl) rfl rfl ⟨(blk_cell BK116.out 0).trans rfl, (blk_cell BK116.out 1).trans rfl⟩ (fun hHeld => ?_); refine with_tabW page_Add.tab3 page_Add.bits3 (fun HT_ HW_ => ?_)
        generalize w19.drew = w20 at BK116 BK117 HB hHeld ⊢
        refine pq_ HT_.out 0 11 (bt 8 1) (h := ?_)
        refine pq_ HT_.out 3 14 (bt 8 9) (h := ?_)
        refine tq2_ HT_.out HW_.out 1 12 (bt 8 11) hHeld (h := ?_)
        refine tq2_ HT_.out HW_.out 4 15 (bt 8 27) hHeld (h := ?_)
        refine one_ (i := 2) (N := some 13) (bt 8 31) rfl rfl (one_of HT_.out (by kernel_rfl)) (by decide) (fun K hK => ?_)
        refine goes_ Try.func73 (by kernel_rfl) rfl #[.slice A0_0 l0_0.length c0_0] (by rfl) rfl rfl (by (try simp only [List.map_toArray, List.map_cons, List.map_nil]); first | done | rfl | (simp only [List.length_drop, List.length_take]; rfl)) ?_
        with_reducible refine (slices_Clone_string_string.calls _ _ l0_0 t119 _ ?side1 ?side2 A5.out).mono ?_
        (case side1 => exact cb_ HR0_0 HB)
        (case side2 => exact HC0_0.out)
        rintro e w21 ⟨v120, rfl, ho0, hb⟩
        refine ⟨_, rfl, ?_⟩
        have n0_ := mk0 (Kd.R_lower ho0 (bz_ (b_ HB)))
        replace BK116 := mk0 (u_ BK116 hb)
        replace BK117 := mk0 (u_ BK117 hb)
        replace HB := mk0 (bt_ (b_ HB) hb)
        have HO121 := n0_
        clear n0_
        (try clear hb)
        (try clear hb2)
        (try clear hk)
        (try clear hi)
        (try clear ho0)
        refine hK.out _ _ ⟨(blk_cell BK116.out 0).trans rfl, (blk_cell BK116.out 1).trans rfl⟩ (fun hHeld => ?_)
        clear hK K
        refine norm_ (a' := ?_) ?_ ?_
        rotate_left
        ·show Act.put _ (some 13) _ = _
         simp only [z_]
         rfl
        refine one_ (i := 5) (N := some 16) (bt 8 63) rfl rfl (one_of HT_.out (by kernel_rfl)) (by decide) (fun K hK => ?_)
        refine goes_ Try.func74 (by kernel_rfl) rfl #[.slice A0_1 l0_1.length c0_1] (by rfl) rfl rfl (by (try simp only [List.map_toArray, List.map_cons, List.map_nil]); first | done | rfl | (simp only [List.length_drop, List.length_take]; rfl)) ?_
        with_reducible refine (slices_Clone_int_int.calls _ _ l0_1 t122 _ ?side1 ?side2 A6.out).mono ?_
        (case side1 => exact cb_ HR0_1 HB)
        (case side2 => exact HC0_1.out)
        rintro e w22 ⟨v123, rfl, ho0, hb⟩
        refine ⟨_, rfl, ?_⟩
        have n1_ := mk0 (Kd.R_lower ho0 (bz_ (b_ HB)))
        replace HO121 := mk0 (Kd.R_below (r_ HO121) hb)
        replace BK116 := mk0 (u_ BK116 hb)
        replace BK117 := mk0 (u_ BK117 hb)
        replace HB := mk0 (bt_ (b_ HB) hb)
        have HO124 := n1_
        clear n1_
        (try clear hb)
        (try clear hb2)
        (try clear hk)
        (try clear hi)
        (try clear ho0)
        obtain ⟨Ao23, co23, eo23⟩ := Kd.R_slice HO124.out
        (first | subst eo23 | (injection eo23 with f1_ f2_ f3_; have f4_ := f1_.symm; have f5_ := f3_.symm; clear f1_ f2_ f3_; subst f4_; subst f5_))
        obtain ⟨Ao24, co24, eo24⟩ := Kd.R_slice HO121.out
        (first | subst eo24 | (injection eo24 with f1_ f2_ f3_; have f4_ := f1_.symm; have f5_ := f3_.symm; clear f1_ f2_ f3_; subst f4_; subst f5_))
        refine hK.out _ _ ⟨(blk_cell BK116.out 0).trans rfl, (blk_cell BK116.out 1).trans rfl⟩ (fun hHeld => ?_)
        clear hK K
        refine norm_ (a' := ?_) ?_ ?_
        rotate_left
        ·show Act.put _ (some 16) _ = _
         simp only [z_]
         rfl
        refine pq_ HT_.out 6 17 (bt 8 127) (h := ?_)
        refine one_ (i := 7) (N := none) (bt 8 255) rfl rfl (one_of HT_.out (by kernel_rfl)) (by decide) (fun K hK => ?_)
        have hs25 : w22.cell? ⟨gb117, 0, none⟩ = some (.slice none 0 0) := (blk_cell BK117.out 0).trans rfl
        have hfs25 := blk_frozen BK117.out 0
        have hns25_0 := NB116_117.out
        have hms25_0 := NB117_116.out
        have hs26 : w22.cell? ⟨gb117, 1, none⟩ = some (.slice none 0 0) := (blk_cell BK117.out 1).trans rfl
        have hfs26 := blk_frozen BK117.out 1
        have hns26_0 := NB116_117.out
        have hms26_0 := NB117_116.out
        refine skip_ (w1 := ?_) (by rfl) rfl ?_ ?_
        rotate_left
        ·go_simp
         rfl
        refine hK.out _ _ ⟨((cell_far (p := ⟨gb117, _, none⟩) NB116_117.out _).trans (((cell_far (p := ⟨gb117, _, none⟩) NB116_117.out _).trans (hHeld.1)))), ((cell_far (p := ⟨gb117, _, none⟩) NB116_117.out _).trans (((cell_far (p := ⟨gb117, _, none⟩) NB116_117.out _).trans (hHeld.2))))⟩ (fun hHeld => ?_)
        clear hK K
        refine done_ (done_of HT_.out (by kernel_rfl)) ?_
        obtain ⟨hcz27_0, hcz27_1, hfz27_0, hfz27_1⟩ := c2_ BK117
        try go_wp2
        have n0_ : Fc (Kd.R Kd.string 9 ((w22.setCell ⟨gb117, 0, none⟩ (.slice Ao24 t119.length co24)).setCell ⟨gb117, 1, none⟩ (.slice Ao23 t122.length co23)) w.heap.size (fun _ => True) (.slice Ao24 t119.length co24) t119) := ⟨by (with_reducible repeat (first | apply Ra_ | apply Rn_ | apply Rd_)); exact Kd.R_mono (Kd.R_far (p := ⟨gb117, 1, none⟩) (Kd.R_far (p := ⟨gb117, 0, none⟩) (Kd.R_types HO121.out BK117.out (by decide)) (fun _ hk => hk.2) (.slice Ao24 t119.length co24)) (fun _ hk => hk.2) (.slice Ao23 t122.length co23)) (fun _ hk => trivial)⟩
        have n1_ : Fc (Kd.R (Kd.int .i64) 3 ((w22.setCell ⟨gb117, 0, none⟩ (.slice Ao24 t119.length co24)).setCell ⟨gb117, 1, none⟩ (.slice Ao23 t122.length co23)) w.heap.size (fun _ => True) (.slice Ao23 t122.length co23) t122) := ⟨by (with_reducible repeat (first | apply Ra_ | apply Rn_ | apply Rd_)); exact Kd.R_mono (Kd.R_far (p := ⟨gb117, 1, none⟩) (Kd.R_far (p := ⟨gb117, 0, none⟩) (Kd.R_types HO124.out BK117.out (by decide)) (fun _ hk => hk.2) (.slice Ao24 t119.length co24)) (fun _ hk => hk.2) (.slice Ao23 t122.length co23)) (fun _ hk => trivial)⟩
        have n2_ : Fc (((w22.setCell ⟨gb117, 0, none⟩ (.slice Ao24 t119.length co24)).setCell ⟨gb117, 1, none⟩ (.slice Ao23 t122.length co23)).heap[gb116]? = some (.cells #[.slice A0_0 l0_0.length c0_0, .slice A0_1 l0_1.length c0_1] 56 (0, 0))) := ⟨(fa_ (fa_ (h_ BK116) NB116_117.out) NB116_117.out)⟩
        have n3_ : Fc (((w22.setCell ⟨gb117, 0, none⟩ (.slice Ao24 t119.length co24)).setCell ⟨gb117, 1, none⟩ (.slice Ao23 t122.length co23)).heap[gb117]? = some (.cells #[.slice Ao24 t119.length co24, .slice Ao23 t122.length co23] 56 (0, 0))) := ⟨(pu_ (cs := #[.slice Ao24 t119.length co24, .slice none 0 0]) (pu_ (cs := #[.slice none 0 0, .slice none 0 0]) (h_ BK117)))⟩
        have n4_ : Fc (Below w.heap.size w ((w22.setCell ⟨gb117, 0, none⟩ (.slice Ao24 t119.length co24)).setCell ⟨gb117, 1, none⟩ (.slice Ao23 t122.length co23))) := ⟨b_ HB⟩
        (try clear HO121)
        (try clear HO124)
        (try clear BK116)
        (try clear BK117)
        (try clear HB)
        generalize ((w22.setCell ⟨gb117, 0, none⟩ (.slice Ao24 t119.length co24)).setCell ⟨gb117, 1, none⟩ (.slice Ao23 t122.length co23)) = w28 at n0_ n1_ n2_ n3_ n4_ ⊢
        have HO121 := n0_
        have HO124 := n1_
        have BK116 := n2_
        have BK117 := n3_
        have HB := n4_
        clear n0_ n1_ n2_ n3_ n4_
        replace HO121 := mk0 (Rd_ HO121.out)
        replace HO124 := mk0 (Rd_ HO124.out)
        replace BK116 := mk0 (bD_ BK116.out)
        replace BK117 := mk0 (bD_ BK117.out)
        replace HB := mk0 (b1_ HB.out)
        have p125 : 0 ≤ (0 : Int) := (by omega)
        have q125 : 0 < (t122.length : Int) := of_decide_eq_true (by first | (with_reducible assumption) | assumption)
        obtain ⟨ad125, e125, hx125_0⟩ := Kd.at_int (Kd.R_reads' HO124.out).2.2 0 p125 q125
        cases e125
        have qi125 : (0 < t122.length) = True := eq_true (by omega)
        (try rw [show ((0 : Int)).toNat = 0 from rfl] at hx125_0)
        (try rw [Addr.add_zero'] at hx125_0)
        replace p125 := eq_true p125
        replace q125 := eq_true q125
        have q30 : (1 : Int) ≤ ((t122.length : Int) : Int) := of_decide_eq_true (by first | (with_reducible assumption) | assumption)
        obtain ⟨i030, hi030, _, hsz30, _⟩ := info_parts info3
        have hcut30 := cut_from (P := Try.prog) 24 3 .i64 Try.underlying24 hi030 1 hsz30 (some ad125) t122.length co23 1 (by omega) q30
        have hr30 := Kd.Q_drop (k := (1 : Int).toNat) (Kd.Q_of_R HO124.out) (by omega)
        obtain ⟨A30, hA30⟩ : ∃ A1, A1 = (if co23 = (1 : Int).toNat then (some ad125) else ((some ad125) : Option Addr).map (·.add ((1 : Int).toNat * 1))) := ⟨_, rfl⟩
        obtain ⟨c30, hc30⟩ : ∃ c1, c1 = co23 - (1 : Int).toNat := ⟨_, rfl⟩
        have hy30 : y126.length = t122.length - (1 : Int).toNat := (by rw [Ny126.out, List.length_drop])
        rw [← Ny126.out] at hr30
        rw [← hy30, ← hA30, ← hc30] at hcut30
        replace hr30 : Kd.Q (Kd.int .i64) 3 _ w.heap.size (fun _ => True) (.slice A30 y126.length c30) y126 := (by rw [hA30, hc30, hy30]; exact hr30)
        have HE30 : Fc ((Value.slice A30 y126.length c30).ownBlock = (.slice (some ad125) t122.length co23 : Value).ownBlock) := ⟨by rw [hA30]; split <;> (cases ((some ad125) : Option Addr) <;> rfl)⟩
        clear hy30 hi030 hsz30 HO124 hA30 hc30
        have HO128 := mk0 hr30
        clear hr30
        replace q30 := eq_true q30
        refine start_ (n := 10) (S := fun w' => w'.cell? ⟨gb117, 0, none⟩ = some (.slice Ao24 t119.length co24) ∧ w'.cell? ⟨gb117, 1, none⟩ = some (.slice (some ad125) t122.length co23) ∧ w'.cell? ad125 = some (.int .i64 (rd t122 0))) (ds := [9]) (bt 10 0) (by kernel_rfl) rfl rfl ⟨(blk_cell BK117.out 0).trans rfl, (blk_cell BK117.out 1).trans rfl, hx125_0⟩ (fun hHeld => ?_); refine with_tabW page_Add.tab6 page_Add.bits6 (fun HT_ HW_ => ?_)
        generalize w28.drew = w29 at HO121 BK116 BK117 HB HO128 hx125_0 hHeld ⊢
        refine pq_ HT_.out 0 25 (bt 10 1) (h := ?_)
        refine pq_ HT_.out 4 29 (bt 10 17) (h := ?_)
        refine tq3_ HT_.out HW_.out 1 26 (bt 10 19) hHeld (h := ?_)
        refine pq_ HT_.out 2 27 (bt 10 23) (h := ?_)
        refine tq3_ HT_.out HW_.out 3 28 (bt 10 31) hHeld (h := ?_)
        refine pq_ HT_.out 7 5 (bt 10 159) (h := ?_)
        refine tq3_ HT_.out HW_.out 5 30 (bt 10 191) hHeld (h := ?_)
        refine pq_ HT_.out 6 31 (bt 10 255) (h := ?_)
        refine pq_ HT_.out 8 32 (bt 10 511) (h := ?_)
        refine last_ (i := 9) (N := none) (bt 10 1023) rfl rfl (one_of HT_.out (by kernel_rfl)) (by decide) (fun K hK => ?_)
        have hs31 : w29.cell? ⟨gb117, 1, none⟩ = some (.slice (some ad125) t122.length co23) := (blk_cell BK117.out 1).trans rfl
        have hfs31 := blk_frozen BK117.out 1
        have hns31_0 := NB116_117.out
        have hms31_0 := NB117_116.out
        refine skip_ (w1 := ?_) (by rfl) rfl ?_ ?_
        rotate_left
        ·go_simp
         rfl
        refine hK.out _ _ ?_
        clear hK K
        refine done_ (done_of HT_.out (by kernel_rfl)) ?_
        have n0_ : Fc (Kd.R Kd.string 9 (w29.setCell ⟨gb117, 1, none⟩ (.slice A30 y126.length c30)) w.heap.size (fun _ => True) (.slice Ao24 t119.length co24) t119) := ⟨by (with_reducible repeat (first | apply Ra_ | apply Rn_ | apply Rd_)); exact Kd.R_mono (Kd.R_far (p := ⟨gb117, 1, none⟩) (Kd.R_types HO121.out BK117.out (by decide)) (fun _ hk => hk.2) (.slice A30 y126.length c30)) (fun _ hk => trivial)⟩
        have n1_ : Fc (Kd.Q (Kd.int .i64) 3 (w29.setCell ⟨gb117, 1, none⟩ (.slice A30 y126.length c30)) w.heap.size (fun _ => True) (.slice A30 y126.length c30) y126) := ⟨by (with_reducible repeat (first | apply Kd.Q_alloc | apply Kd.Q_drewN | apply Kd.Q_drew)); exact Kd.Q_mono (Kd.Q_far (p := ⟨gb117, 1, none⟩) (Kd.Q_types HO128.out BK117.out (by decide)) (fun _ hk => hk.2) (.slice A30 y126.length c30)) (fun _ hk => trivial)⟩
        have n2_ : Fc ((w29.setCell ⟨gb117, 1, none⟩ (.slice A30 y126.length c30)).heap[gb116]? = some (.cells #[.slice A0_0 l0_0.length c0_0, .slice A0_1 l0_1.length c0_1] 56 (0, 0))) := ⟨(fa_ (h_ BK116) NB116_117.out)⟩
        have n3_ : Fc ((w29.setCell ⟨gb117, 1, none⟩ (.slice A30 y126.length c30)).heap[gb117]? = some (.cells #[.slice Ao24 t119.length co24, .slice A30 y126.length c30] 56 (0, 0))) := ⟨(pu_ (cs := #[.slice Ao24 t119.length co24, .slice (some ad125) t122.length co23]) (h_ BK117))⟩
        have n4_ : Fc (Below w.heap.size w (w29.setCell ⟨gb117, 1, none⟩ (.slice A30 y126.length c30))) := ⟨b_ HB⟩
        (try clear HO121)
        (try clear HO128)
        (try clear BK116)
        (try clear BK117)
        (try clear HB)
        generalize (w29.setCell ⟨gb117, 1, none⟩ (.slice A30 y126.length c30)) = w32 at n0_ n1_ n2_ n3_ n4_ ⊢
        have HO121 := n0_
        have HO128 := n1_
        have BK116 := n2_
        have BK117 := n3_
        have HB := n4_
        clear n0_ n1_ n2_ n3_ n4_
        obtain ⟨hcz33_0, hcz33_1, hfz33_0, hfz33_1⟩ := c2_ BK117
        have p12 : 0 ≤ ((rd t122 0) : Int) := of_decide_eq_true (by first | (with_reducible assumption) | assumption)
        have q12 : ((rd t122 0) : Int) < ((t119.length : Int) : Int) := of_decide_eq_true (by first | (with_reducible assumption) | assumption)
        obtain ⟨go12, co12, eo12, gb12, gl12, cl12, HG12⟩ := Kd.R_form HO121.out (by omega)
        (first | cases eo12 | (injection eo12 with ea_ en_ ec_; (first | subst ea_ | (injection ea_ with ea_; subst ea_)); subst ec_; clear en_))
        have GB12 := mk0 gb12
        have GG12 := mk0 HG12
        clear gb12 gl12 HG12
        obtain ⟨hx12_0, hf12_0⟩ := Kd.R_celln (⟨#[]⟩ : ByteArray) HO121.out ((rd t122 0) : Int) p12 q12
        replace p12 := eq_true p12
        replace q12 := eq_true q12
        obtain ⟨hy34_, hz34_⟩ := Kd.R_celln (⟨#[]⟩ : ByteArray) HO121.out ((rd t122 0) : Int) (of_decide_eq_true (by first | (with_reducible assumption) | assumption)) (of_decide_eq_true (by first | (with_reducible assumption) | assumption))
        have HP34 := Kd.R_putg HO121.out ((rd t122 0) : Int) a1
        try go_wp2_with (first | ((with_reducible refine gate_store (t := 9) (p := 42) rfl ?_); refine sv_ (t := 9) (p := 42) (w1 := (w32.setCell ⟨go12, ((rd t122 0) : Int).toNat, none⟩ (.string a1))) (h := ?_); intro w35 hw; have hg : w32.grownBy w35 (some go12) := (by rw [hw]; exact HP34.2); have hp_ : Kd.R Kd.string 9 w35 w.heap.size (fun _ => True) (.slice (some ⟨go12, 0, none⟩) t119.length co24) y129 := (by rw [hw, Ny129.out]; exact HP34.1); clear HP34; have n0_ := mk0 (blk_grown (g := gb116) (o := .cells #[.slice A0_0 l0_0.length c0_0, .slice A0_1 l0_1.length c0_1] 56 (0, 0)) (h_ BK116) hg (Kd.R_ne HO121.out BK116.out (by decide))); have n1_ := mk0 (blk_grown (g := gb117) (o := .cells #[.slice (some ⟨go12, 0, none⟩) t119.length co24, .slice A30 y126.length c30] 56 (0, 0)) (h_ BK117) hg (Kd.R_ne HO121.out BK117.out (by decide))); have n3_ := mk0 (Kd.Q_over' (v := (.slice (some ⟨go12, 0, none⟩) t119.length co24)) (q_ HO128) (Kd.R_typed HO121.out) (by decide) hg); replace HO121 := mk0 (hp_); replace HB := mk0 ((by rw [hw]; exact bs_ (HB.out) GB12.out : Below w.heap.size w w35)); clear BK116 BK117 HO128; have BK116 := n0_; have BK117 := n1_; have HO128 := n3_; clear n0_ n1_ n3_ hg hw hp_; obtain ⟨hcz36_0, hcz36_1, hfz36_0, hfz36_1⟩ := c2_ BK117) | ((with_reducible refine gate_callee (f := 72) rfl ?_); refine goesL_ (some 44) rfl rfl Try.func72 (by kernel_rfl) rfl #[.agg #[.slice (some ⟨go12, 0, none⟩) y129.length co24, .slice A30 y126.length c30]] rfl (by (try simp only [List.map_toArray, List.map_cons, List.map_nil]); first | done | (rw [show y129.length = t119.length from (Kd.R_reads' HO121.out).1.symm] <;> rfl) | rfl | (simp only [List.length_drop, List.length_take]; rfl)) ?_; (with_reducible refine (page_may.calls k _ _ y129 _ _ y126 true _ ?side1 ?side2 ?side3 ?side4 A13.out).mono ?_); (case side1 => exact cr_ HO121); (case side2 => rw [show y129.length = t119.length from (Kd.R_reads' HO121.out).1.symm]; exact (Kd.R_reads' HO121.out).2.1); (case side3 => exact cq_ HO128); (case side4 => exact (Kd.Q_reads' HO128.out).2.1); rintro e w37 ⟨rfl, hb⟩; refine ⟨_, rfl, ?_⟩; replace HO121 := mk0 (Kd.R_below (r_ HO121) hb); replace HO128 := mk0 (Kd.Q_below (q_ HO128) hb); replace BK116 := mk0 (u_ BK116 hb); replace BK117 := mk0 (u_ BK117 hb); replace HB := mk0 (bt_ (b_ HB) hb); (try clear hb); obtain ⟨hcz38_0, hcz38_1, hfz38_0, hfz38_1⟩ := c2_ BK117))
        refine bodyPost_ret (results_ctt rfl _ _ gb117 56 #[.slice (some ⟨go12, 0, none⟩) t119.length co24, .slice A30 y126.length c30] (0, 0) _ rfl (pu_ (cs := #[.slice (some ⟨go12, 0, none⟩) t119.length co24, .slice A30 y126.length c30]) (pu_ (cs := #[.slice (some ⟨go12, 0, none⟩) t119.length co24, .slice A30 y126.length c30]) (h_ BK117))) Try.underlying56 rfl (by kernel_rfl)) rfl ?_
        exact ⟨_, _, by first | rfl | (simp [errW_none, errW_some] <;> rfl) | (simp [*, errW_none, errW_some] <;> rfl), by (with_reducible repeat (first | apply Ra_ | apply Rn_ | apply Rd_)); exact Kd.R_mono (Kd.R_far (p := ⟨gb117, 1, none⟩) (Kd.R_far (p := ⟨gb117, 0, none⟩) (Kd.R_types HO121.out BK117.out (by decide)) (fun _ hk => hk.2) (.slice (some ⟨go12, 0, none⟩) t119.length co24)) (fun _ hk => hk.2) (.slice A30 y126.length c30)) (fun _ hk => trivial), by (with_reducible repeat (first | apply Kd.Q_alloc | apply Kd.Q_drewN | apply Kd.Q_drew)); exact Kd.Q_mono (Kd.Q_far (p := ⟨gb117, 1, none⟩) (Kd.Q_far (p := ⟨gb117, 0, none⟩) (Kd.Q_types HO128.out BK117.out (by decide)) (fun _ hk => hk.2) (.slice (some ⟨go12, 0, none⟩) t119.length co24)) (fun _ hk => hk.2) (.slice A30 y126.length c30)) (fun _ hk => trivial), b_ HB⟩
       ·replace c14 := Bool.eq_false_iff.mpr c14
        subst c14
        rw [if_neg (show ¬ (false = true) by decide)] at H
        simp only [Option.some.injEq, Prod.mk.injEq] at H
        obtain ⟨rfl, rfl, rfl, rfl⟩ := H
        go_enter Try.func36, Try.ntmps36
        try go_wp2_with (first | ((with_reducible refine gate_dst (N := 2) rfl ?_); refine bx_ (N := 2) (cs := #[.slice A0_0 l0_0.length c0_0, .slice A0_1 l0_1.length c0_1]) (t := 56) (h := ?_); intro gb116 hg w39 hbox hb; have n2_ := mk0 (gz_ HB hg); have n3_ := mk0 (gz_ HB hg); replace HB := mk0 (bt_ (b_ HB) hb); have BK116 := mk0 (hbox); have GW116 := n2_; have GE116 := n3_; clear n2_ n3_; clear hb hbox hg) | ((with_reducible refine gate_dst (N := 4) rfl ?_); refine bx_ (N := 4) (cs := #[.slice none 0 0, .slice none 0 0]) (t := 56) (h := ?_); intro gb117 hg w40 hbox hb; have n3_ := mk0 (gz_ HB hg); have n4_ := mk0 (gz_ HB hg); have n5_ := mk0 (ne1_ BK116 hg); have n6_ := mk0 (ne2_ BK116 hg); replace BK116 := mk0 (u_ BK116 hb); replace HB := mk0 (bt_ (b_ HB) hb); have BK117 := mk0 (hbox); have GW117 := n3_; have GE117 := n4_; have NB116_117 := n5_; have NB117_116 := n6_; clear n3_ n4_ n5_ n6_ hb hbox hg; have hnb41 := NB116_117.out; have hnc41 := NB117_116.out; obtain ⟨hcz42_0, hcz42_1, hfz42_0, hfz42_1⟩ := c2_ BK116) | ((with_reducible refine gate_callee (f := 72) rfl ?_); refine gL_ (some 8) Try.func72 #[.agg #[.slice A0_0 l0_0.length c0_0, .slice A0_1 l0_1.length c0_1]] (h := ?_); (with_reducible refine (page_may.calls k _ _ l0_0 _ _ l0_1 true _ ?side1 ?side2 ?side3 ?side4 A3.out).mono ?_); (case side1 => exact cb_ HR0_0 HB); (case side2 => exact HC0_0.out); (case side3 => exact cb_ HR0_1 HB); (case side4 => exact HC0_1.out); rintro e w43 ⟨rfl, hb⟩; refine ⟨_, rfl, ?_⟩; replace BK116 := mk0 (u_ BK116 hb); replace BK117 := mk0 (u_ BK117 hb); replace HB := mk0 (bt_ (b_ HB) hb); (try clear hb)))
        replace BK116 := mk0 (bD_ BK116.out)
        replace BK117 := mk0 (bD_ BK117.out)
        replace HB := mk0 (b1_ HB.out)
        refine start_ (n := 8) (S := fun w' => w'.cell? ⟨gb116, 0, none⟩ = some (.slice A0_0 l0_0.length c0_0) ∧ w'.cell? ⟨gb116, 1, none⟩ = some (.slice A0_1 l0_1.length c0_1)) (ds := []) (bt 8 0) (by kernel_rfl) rfl rfl ⟨(blk_cell BK116.out 0).trans rfl, (blk_cell BK116.out 1).trans rfl⟩ (fun hHeld => ?_); refine with_tabW page_Add.tab3 page_Add.bits3 (fun HT_ HW_ => ?_)
        generalize w43.drew = w44 at BK116 BK117 HB hHeld ⊢
        refine pq_ HT_.out 0 11 (bt 8 1) (h := ?_)
        refine pq_ HT_.out 3 14 (bt 8 9) (h := ?_)
        refine tq2_ HT_.out HW_.out 1 12 (bt 8 11) hHeld (h := ?_)
        refine tq2_ HT_.out HW_.out 4 15 (bt 8 27) hHeld (h := ?_)
        refine one_ (i := 2) (N := some 13) (bt 8 31) rfl rfl (one_of HT_.out (by kernel_rfl)) (by decide) (fun K hK => ?_)
        refine goes_ Try.func73 (by kernel_rfl) rfl #[.slice A0_0 l0_0.length c0_0] (by rfl) rfl rfl (by (try simp only [List.map_toArray, List.map_cons, List.map_nil]); first | done | rfl | (simp only [List.length_drop, List.length_take]; rfl)) ?_
        with_reducible refine (slices_Clone_string_string.calls _ _ l0_0 t119 _ ?side1 ?side2 A5.out).mono ?_
        (case side1 => exact cb_ HR0_0 HB)
        (case side2 => exact HC0_0.out)
        rintro e w45 ⟨v120, rfl, ho0, hb⟩
        refine ⟨_, rfl, ?_⟩
        have n0_ := mk0 (Kd.R_lower ho0 (bz_ (b_ HB)))
        replace BK116 := mk0 (u_ BK116 hb)
        replace BK117 := mk0 (u_ BK117 hb)
        replace HB := mk0 (bt_ (b_ HB) hb)
        have HO121 := n0_
        clear n0_
        (try clear hb)
        (try clear hb2)
        (try clear hk)
        (try clear hi)
        (try clear ho0)
        refine hK.out _ _ ⟨(blk_cell BK116.out 0).trans rfl, (blk_cell BK116.out 1).trans rfl⟩ (fun hHeld => ?_)
        clear hK K
        refine norm_ (a' := ?_) ?_ ?_
        rotate_left
        ·show Act.put _ (some 13) _ = _
         simp only [z_]
         rfl
        refine one_ (i := 5) (N := some 16) (bt 8 63) rfl rfl (one_of HT_.out (by kernel_rfl)) (by decide) (fun K hK => ?_)
        refine goes_ Try.func74 (by kernel_rfl) rfl #[.slice A0_1 l0_1.length c0_1] (by rfl) rfl rfl (by (try simp only [List.map_toArray, List.map_cons, List.map_nil]); first | done | rfl | (simp only [List.length_drop, List.length_take]; rfl)) ?_
        with_reducible refine (slices_Clone_int_int.calls _ _ l0_1 t122 _ ?side1 ?side2 A6.out).mono ?_
        (case side1 => exact cb_ HR0_1 HB)
        (case side2 => exact HC0_1.out)
        rintro e w46 ⟨v123, rfl, ho0, hb⟩
        refine ⟨_, rfl, ?_⟩
        have n1_ := mk0 (Kd.R_lower ho0 (bz_ (b_ HB)))
        replace HO121 := mk0 (Kd.R_below (r_ HO121) hb)
        replace BK116 := mk0 (u_ BK116 hb)
        replace BK117 := mk0 (u_ BK117 hb)
        replace HB := mk0 (bt_ (b_ HB) hb)
        have HO124 := n1_
        clear n1_
        (try clear hb)
        (try clear hb2)
        (try clear hk)
        (try clear hi)
        (try clear ho0)
        obtain ⟨Ao47, co47, eo47⟩ := Kd.R_slice HO124.out
        (first | subst eo47 | (injection eo47 with f1_ f2_ f3_; have f4_ := f1_.symm; have f5_ := f3_.symm; clear f1_ f2_ f3_; subst f4_; subst f5_))
        obtain ⟨Ao48, co48, eo48⟩ := Kd.R_slice HO121.out
        (first | subst eo48 | (injection eo48 with f1_ f2_ f3_; have f4_ := f1_.symm; have f5_ := f3_.symm; clear f1_ f2_ f3_; subst f4_; subst f5_))
        refine hK.out _ _ ⟨(blk_cell BK116.out 0).trans rfl, (blk_cell BK116.out 1).trans rfl⟩ (fun hHeld => ?_)
        clear hK K
        refine norm_ (a' := ?_) ?_ ?_
        rotate_left
        ·show Act.put _ (some 16) _ = _
         simp only [z_]
         rfl
        refine pq_ HT_.out 6 17 (bt 8 127) (h := ?_)
        refine one_ (i := 7) (N := none) (bt 8 255) rfl rfl (one_of HT_.out (by kernel_rfl)) (by decide) (fun K hK => ?_)
        have hs49 : w46.cell? ⟨gb117, 0, none⟩ = some (.slice none 0 0) := (blk_cell BK117.out 0).trans rfl
        have hfs49 := blk_frozen BK117.out 0
        have hns49_0 := NB116_117.out
        have hms49_0 := NB117_116.out
        have hs50 : w46.cell? ⟨gb117, 1, none⟩ = some (.slice none 0 0) := (blk_cell BK117.out 1).trans rfl
        have hfs50 := blk_frozen BK117.out 1
        have hns50_0 := NB116_117.out
        have hms50_0 := NB117_116.out
        refine skip_ (w1 := ?_) (by rfl) rfl ?_ ?_
        rotate_left
        ·go_simp
         rfl
        refine hK.out _ _ ⟨((cell_far (p := ⟨gb117, _, none⟩) NB116_117.out _).trans (((cell_far (p := ⟨gb117, _, none⟩) NB116_117.out _).trans (hHeld.1)))), ((cell_far (p := ⟨gb117, _, none⟩) NB116_117.out _).trans (((cell_far (p := ⟨gb117, _, none⟩) NB116_117.out _).trans (hHeld.2))))⟩ (fun hHeld => ?_)
        clear hK K
        refine done_ (done_of HT_.out (by kernel_rfl)) ?_
        obtain ⟨hcz51_0, hcz51_1, hfz51_0, hfz51_1⟩ := c2_ BK117
        try go_wp2
        have n0_ : Fc (Kd.R Kd.string 9 ((w46.setCell ⟨gb117, 0, none⟩ (.slice Ao48 t119.length co48)).setCell ⟨gb117, 1, none⟩ (.slice Ao47 t122.length co47)) w.heap.size (fun _ => True) (.slice Ao48 t119.length co48) t119) := ⟨by (with_reducible repeat (first | apply Ra_ | apply Rn_ | apply Rd_)); exact Kd.R_mono (Kd.R_far (p := ⟨gb117, 1, none⟩) (Kd.R_far (p := ⟨gb117, 0, none⟩) (Kd.R_types HO121.out BK117.out (by decide)) (fun _ hk => hk.2) (.slice Ao48 t119.length co48)) (fun _ hk => hk.2) (.slice Ao47 t122.length co47)) (fun _ hk => trivial)⟩
        have n1_ : Fc (Kd.R (Kd.int .i64) 3 ((w46.setCell ⟨gb117, 0, none⟩ (.slice Ao48 t119.length co48)).setCell ⟨gb117, 1, none⟩ (.slice Ao47 t122.length co47)) w.heap.size (fun _ => True) (.slice Ao47 t122.length co47) t122) := ⟨by (with_reducible repeat (first | apply Ra_ | apply Rn_ | apply Rd_)); exact Kd.R_mono (Kd.R_far (p := ⟨gb117, 1, none⟩) (Kd.R_far (p := ⟨gb117, 0, none⟩) (Kd.R_types HO124.out BK117.out (by decide)) (fun _ hk => hk.2) (.slice Ao48 t119.length co48)) (fun _ hk => hk.2) (.slice Ao47 t122.length co47)) (fun _ hk => trivial)⟩
        have n2_ : Fc (((w46.setCell ⟨gb117, 0, none⟩ (.slice Ao48 t119.length co48)).setCell ⟨gb117, 1, none⟩ (.slice Ao47 t122.length co47)).heap[gb116]? = some (.cells #[.slice A0_0 l0_0.length c0_0, .slice A0_1 l0_1.length c0_1] 56 (0, 0))) := ⟨(fa_ (fa_ (h_ BK116) NB116_117.out) NB116_117.out)⟩
        have n3_ : Fc (((w46.setCell ⟨gb117, 0, none⟩ (.slice Ao48 t119.length co48)).setCell ⟨gb117, 1, none⟩ (.slice Ao47 t122.length co47)).heap[gb117]? = some (.cells #[.slice Ao48 t119.length co48, .slice Ao47 t122.length co47] 56 (0, 0))) := ⟨(pu_ (cs := #[.slice Ao48 t119.length co48, .slice none 0 0]) (pu_ (cs := #[.slice none 0 0, .slice none 0 0]) (h_ BK117)))⟩
        have n4_ : Fc (Below w.heap.size w ((w46.setCell ⟨gb117, 0, none⟩ (.slice Ao48 t119.length co48)).setCell ⟨gb117, 1, none⟩ (.slice Ao47 t122.length co47))) := ⟨b_ HB⟩
        (try clear HO121)
        (try clear HO124)
        (try clear BK116)
        (try clear BK117)
        (try clear HB)
        generalize ((w46.setCell ⟨gb117, 0, none⟩ (.slice Ao48 t119.length co48)).setCell ⟨gb117, 1, none⟩ (.slice Ao47 t122.length co47)) = w52 at n0_ n1_ n2_ n3_ n4_ ⊢
        have HO121 := n0_
        have HO124 := n1_
        have BK116 := n2_
        have BK117 := n3_
        have HB := n4_
        clear n0_ n1_ n2_ n3_ n4_
        replace HO121 := mk0 (Rd_ HO121.out)
        replace HO124 := mk0 (Rd_ HO124.out)
        replace BK116 := mk0 (bD_ BK116.out)
        replace BK117 := mk0 (bD_ BK117.out)
        replace HB := mk0 (b1_ HB.out)
        have p125 : 0 ≤ (0 : Int) := (by omega)
        have q125 : 0 < (t122.length : Int) := of_decide_eq_true (by first | (with_reducible assumption) | assumption)
        obtain ⟨ad125, e125, hx125_0⟩ := Kd.at_int (Kd.R_reads' HO124.out).2.2 0 p125 q125
        cases e125
        have qi125 : (0 < t122.length) = True := eq_true (by omega)
        (try rw [show ((0 : Int)).toNat = 0 from rfl] at hx125_0)
        (try rw [Addr.add_zero'] at hx125_0)
        replace p125 := eq_true p125
        replace q125 := eq_true q125
        have q54 : (1 : Int) ≤ ((t122.length : Int) : Int) := of_decide_eq_true (by first | (with_reducible assumption) | assumption)
        obtain ⟨i054, hi054, _, hsz54, _⟩ := info_parts info3
        have hcut54 := cut_from (P := Try.prog) 24 3 .i64 Try.underlying24 hi054 1 hsz54 (some ad125) t122.length co47 1 (by omega) q54
        have hr54 := Kd.Q_drop (k := (1 : Int).toNat) (Kd.Q_of_R HO124.out) (by omega)
        obtain ⟨A54, hA54⟩ : ∃ A1, A1 = (if co47 = (1 : Int).toNat then (some ad125) else ((some ad125) : Option Addr).map (·.add ((1 : Int).toNat * 1))) := ⟨_, rfl⟩
        obtain ⟨c54, hc54⟩ : ∃ c1, c1 = co47 - (1 : Int).toNat := ⟨_, rfl⟩
        have hy54 : y126.length = t122.length - (1 : Int).toNat := (by rw [Ny126.out, List.length_drop])
        rw [← Ny126.out] at hr54
        rw [← hy54, ← hA54, ← hc54] at hcut54
        replace hr54 : Kd.Q (Kd.int .i64) 3 _ w.heap.size (fun _ => True) (.slice A54 y126.length c54) y126 := (by rw [hA54, hc54, hy54]; exact hr54)
        have HE54 : Fc ((Value.slice A54 y126.length c54).ownBlock = (.slice (some ad125) t122.length co47 : Value).ownBlock) := ⟨by rw [hA54]; split <;> (cases ((some ad125) : Option Addr) <;> rfl)⟩
        clear hy54 hi054 hsz54 HO124 hA54 hc54
        have HO128 := mk0 hr54
        clear hr54
        replace q54 := eq_true q54
        refine start_ (n := 10) (S := fun w' => w'.cell? ⟨gb117, 0, none⟩ = some (.slice Ao48 t119.length co48) ∧ w'.cell? ⟨gb117, 1, none⟩ = some (.slice (some ad125) t122.length co47) ∧ w'.cell? ad125 = some (.int .i64 (rd t122 0))) (ds := [9]) (bt 10 0) (by kernel_rfl) rfl rfl ⟨(blk_cell BK117.out 0).trans rfl, (blk_cell BK117.out 1).trans rfl, hx125_0⟩ (fun hHeld => ?_); refine with_tabW page_Add.tab6 page_Add.bits6 (fun HT_ HW_ => ?_)
        generalize w52.drew = w53 at HO121 BK116 BK117 HB HO128 hx125_0 hHeld ⊢
        refine pq_ HT_.out 0 25 (bt 10 1) (h := ?_)
        refine pq_ HT_.out 4 29 (bt 10 17) (h := ?_)
        refine tq3_ HT_.out HW_.out 1 26 (bt 10 19) hHeld (h := ?_)
        refine pq_ HT_.out 2 27 (bt 10 23) (h := ?_)
        refine tq3_ HT_.out HW_.out 3 28 (bt 10 31) hHeld (h := ?_)
        refine pq_ HT_.out 7 5 (bt 10 159) (h := ?_)
        refine tq3_ HT_.out HW_.out 5 30 (bt 10 191) hHeld (h := ?_)
        refine pq_ HT_.out 6 31 (bt 10 255) (h := ?_)
        refine pq_ HT_.out 8 32 (bt 10 511) (h := ?_)
        refine last_ (i := 9) (N := none) (bt 10 1023) rfl rfl (one_of HT_.out (by kernel_rfl)) (by decide) (fun K hK => ?_)
        have hs55 : w53.cell? ⟨gb117, 1, none⟩ = some (.slice (some ad125) t122.length co47) := (blk_cell BK117.out 1).trans rfl
        have hfs55 := blk_frozen BK117.out 1
        have hns55_0 := NB116_117.out
        have hms55_0 := NB117_116.out
        refine skip_ (w1 := ?_) (by rfl) rfl ?_ ?_
        rotate_left
        ·go_simp
         rfl
        refine hK.out _ _ ?_
        clear hK K
        refine done_ (done_of HT_.out (by kernel_rfl)) ?_
        have n0_ : Fc (Kd.R Kd.string 9 (w53.setCell ⟨gb117, 1, none⟩ (.slice A54 y126.length c54)) w.heap.size (fun _ => True) (.slice Ao48 t119.length co48) t119) := ⟨by (with_reducible repeat (first | apply Ra_ | apply Rn_ | apply Rd_)); exact Kd.R_mono (Kd.R_far (p := ⟨gb117, 1, none⟩) (Kd.R_types HO121.out BK117.out (by decide)) (fun _ hk => hk.2) (.slice A54 y126.length c54)) (fun _ hk => trivial)⟩
        have n1_ : Fc (Kd.Q (Kd.int .i64) 3 (w53.setCell ⟨gb117, 1, none⟩ (.slice A54 y126.length c54)) w.heap.size (fun _ => True) (.slice A54 y126.length c54) y126) := ⟨by (with_reducible repeat (first | apply Kd.Q_alloc | apply Kd.Q_drewN | apply Kd.Q_drew)); exact Kd.Q_mono (Kd.Q_far (p := ⟨gb117, 1, none⟩) (Kd.Q_types HO128.out BK117.out (by decide)) (fun _ hk => hk.2) (.slice A54 y126.length c54)) (fun _ hk => trivial)⟩
        have n2_ : Fc ((w53.setCell ⟨gb117, 1, none⟩ (.slice A54 y126.length c54)).heap[gb116]? = some (.cells #[.slice A0_0 l0_0.length c0_0, .slice A0_1 l0_1.length c0_1] 56 (0, 0))) := ⟨(fa_ (h_ BK116) NB116_117.out)⟩
        have n3_ : Fc ((w53.setCell ⟨gb117, 1, none⟩ (.slice A54 y126.length c54)).heap[gb117]? = some (.cells #[.slice Ao48 t119.length co48, .slice A54 y126.length c54] 56 (0, 0))) := ⟨(pu_ (cs := #[.slice Ao48 t119.length co48, .slice (some ad125) t122.length co47]) (h_ BK117))⟩
        have n4_ : Fc (Below w.heap.size w (w53.setCell ⟨gb117, 1, none⟩ (.slice A54 y126.length c54))) := ⟨b_ HB⟩
        (try clear HO121)
        (try clear HO128)
        (try clear BK116)
        (try clear BK117)
        (try clear HB)
        generalize (w53.setCell ⟨gb117, 1, none⟩ (.slice A54 y126.length c54)) = w56 at n0_ n1_ n2_ n3_ n4_ ⊢
        have HO121 := n0_
        have HO128 := n1_
        have BK116 := n2_
        have BK117 := n3_
        have HB := n4_
        clear n0_ n1_ n2_ n3_ n4_
        obtain ⟨hcz57_0, hcz57_1, hfz57_0, hfz57_1⟩ := c2_ BK117
        have p12 : 0 ≤ ((rd t122 0) : Int) := of_decide_eq_true (by first | (with_reducible assumption) | assumption)
        have q12 : ((rd t122 0) : Int) < ((t119.length : Int) : Int) := of_decide_eq_true (by first | (with_reducible assumption) | assumption)
        obtain ⟨go12, co12, eo12, gb12, gl12, cl12, HG12⟩ := Kd.R_form HO121.out (by omega)
        (first | cases eo12 | (injection eo12 with ea_ en_ ec_; (first | subst ea_ | (injection ea_ with ea_; subst ea_)); subst ec_; clear en_))
        have GB12 := mk0 gb12
        have GG12 := mk0 HG12
        clear gb12 gl12 HG12
        obtain ⟨hx12_0, hf12_0⟩ := Kd.R_celln (⟨#[]⟩ : ByteArray) HO121.out ((rd t122 0) : Int) p12 q12
        replace p12 := eq_true p12
        replace q12 := eq_true q12
        obtain ⟨hy58_, hz58_⟩ := Kd.R_celln (⟨#[]⟩ : ByteArray) HO121.out ((rd t122 0) : Int) (of_decide_eq_true (by first | (with_reducible assumption) | assumption)) (of_decide_eq_true (by first | (with_reducible assumption) | assumption))
        have HP58 := Kd.R_putg HO121.out ((rd t122 0) : Int) a1
        try go_wp2_with (first | ((with_reducible refine gate_store (t := 9) (p := 42) rfl ?_); refine sv_ (t := 9) (p := 42) (w1 := (w56.setCell ⟨go12, ((rd t122 0) : Int).toNat, none⟩ (.string a1))) (h := ?_); intro w59 hw; have hg : w56.grownBy w59 (some go12) := (by rw [hw]; exact HP58.2); have hp_ : Kd.R Kd.string 9 w59 w.heap.size (fun _ => True) (.slice (some ⟨go12, 0, none⟩) t119.length co48) y129 := (by rw [hw, Ny129.out]; exact HP58.1); clear HP58; have n0_ := mk0 (blk_grown (g := gb116) (o := .cells #[.slice A0_0 l0_0.length c0_0, .slice A0_1 l0_1.length c0_1] 56 (0, 0)) (h_ BK116) hg (Kd.R_ne HO121.out BK116.out (by decide))); have n1_ := mk0 (blk_grown (g := gb117) (o := .cells #[.slice (some ⟨go12, 0, none⟩) t119.length co48, .slice A54 y126.length c54] 56 (0, 0)) (h_ BK117) hg (Kd.R_ne HO121.out BK117.out (by decide))); have n3_ := mk0 (Kd.Q_over' (v := (.slice (some ⟨go12, 0, none⟩) t119.length co48)) (q_ HO128) (Kd.R_typed HO121.out) (by decide) hg); replace HO121 := mk0 (hp_); replace HB := mk0 ((by rw [hw]; exact bs_ (HB.out) GB12.out : Below w.heap.size w w59)); clear BK116 BK117 HO128; have BK116 := n0_; have BK117 := n1_; have HO128 := n3_; clear n0_ n1_ n3_ hg hw hp_; obtain ⟨hcz60_0, hcz60_1, hfz60_0, hfz60_1⟩ := c2_ BK117) | ((with_reducible refine gate_callee (f := 72) rfl ?_); refine goesL_ (some 44) rfl rfl Try.func72 (by kernel_rfl) rfl #[.agg #[.slice (some ⟨go12, 0, none⟩) y129.length co48, .slice A54 y126.length c54]] rfl (by (try simp only [List.map_toArray, List.map_cons, List.map_nil]); first | done | (rw [show y129.length = t119.length from (Kd.R_reads' HO121.out).1.symm] <;> rfl) | rfl | (simp only [List.length_drop, List.length_take]; rfl)) ?_; (with_reducible refine (page_may.calls k _ _ y129 _ _ y126 false _ ?side1 ?side2 ?side3 ?side4 A13.out).mono ?_); (case side1 => exact cr_ HO121); (case side2 => rw [show y129.length = t119.length from (Kd.R_reads' HO121.out).1.symm]; exact (Kd.R_reads' HO121.out).2.1); (case side3 => exact cq_ HO128); (case side4 => exact (Kd.Q_reads' HO128.out).2.1); rintro e w61 ⟨rfl, hb⟩; refine ⟨_, rfl, ?_⟩; replace HO121 := mk0 (Kd.R_below (r_ HO121) hb); replace HO128 := mk0 (Kd.Q_below (q_ HO128) hb); replace BK116 := mk0 (u_ BK116 hb); replace BK117 := mk0 (u_ BK117 hb); replace HB := mk0 (bt_ (b_ HB) hb); (try clear hb); obtain ⟨hcz62_0, hcz62_1, hfz62_0, hfz62_1⟩ := c2_ BK117))
        refine bodyPost_ret (results_ctt rfl _ _ gb117 56 #[.slice none 0 0, .slice none 0 0] (0, 0) _ rfl (pu_ (cs := #[.slice none 0 0, .slice A54 y126.length c54]) (pu_ (cs := #[.slice (some ⟨go12, 0, none⟩) t119.length co48, .slice A54 y126.length c54]) (h_ BK117))) Try.underlying56 rfl (by kernel_rfl)) rfl ?_
        exact ⟨_, _, by first | rfl | (simp [errW_none, errW_some] <;> rfl) | (simp [*, errW_none, errW_some] <;> rfl), by first | exact Kd.R_nil _ _ _ _ _ | exact Kd.N_nil _ _ _ _ _ | exact Kd.V_nil _ _ _ _ _ | exact Kd.Q_nil _ _ _ _ _ | exact Kd.S_nil _ _ _ _ _, Kd.Q_of_R (by first | exact Kd.R_nil _ _ _ _ _ | exact Kd.N_nil _ _ _ _ _ | exact Kd.V_nil _ _ _ _ _ | exact Kd.Q_nil _ _ _ _ _ | exact Kd.S_nil _ _ _ _ _), b_ HB⟩
      ·rw [if_neg c11] at H
       exact absurd H (by simp)
     ·rw [if_neg c10] at H
      exact absurd H (by simp)
    ·rw [if_neg c9] at H
     exact absurd H (by simp)
   ·rw [if_neg c8] at H
    exact absurd H (by simp)
  ·rw [if_neg c7] at H
   have c7b0 : decide (0 < (t122.length : Int)) = false := decide_eq_false c7
   have c7b1 : decide (0 < t122.length) = false := decide_eq_false (by omega)
   clear c7
   by_cases c63 : t119.length < 8796093022208
   ·rw [if_pos c63] at H
    have LMc63 := mk0 c63
    clear c63
    obtain ⟨y131, hy131⟩ : ∃ y_ : List ByteArray, y_ = (t119 ++ [(⟨#[]⟩ : ByteArray)]) := ⟨_, rfl⟩
    replace H : (if 0 ≤ (t119.length : Int) then (if (t119.length : Int) < (y131.length : Int) then ((some (y131.set ((t119.length : Int) : Int).toNat a1 : List ByteArray)).bind fun y134 => ((page_may.f k y134 t122).bind fun t135 => (if t135 = true then (some (y134, t122, (t119.length : Int), 0)) else (some (([] : List ByteArray), ([] : List Int), 0, 5))))) else (none)) else (none)) = some (r1, r2, r3, r4) := by first | (rw [hy131]; with_reducible exact H) | (have H2_ := (Option.bind_some _ _).symm.trans H; rw [hy131]; with_reducible exact H2_) | (have H2_ := (Option.bind_some _ _).symm.trans H; with_reducible exact H2_) | with_reducible exact H | (rw [hy131]; exact H) | exact H
    have Ny131 := mk0 hy131
    clear hy131
    by_cases c64 : 0 ≤ (t119.length : Int)
    ·rw [if_pos c64] at H
     have c64b0 : decide (0 ≤ (t119.length : Int)) = true := decide_eq_true c64
     have c64b1 : decide (0 ≤ t119.length) = true := decide_eq_true (by omega)
     clear c64
     by_cases c65 : (t119.length : Int) < (y131.length : Int)
     ·rw [if_pos c65] at H
      have c65b0 : decide ((t119.length : Int) < (y131.length : Int)) = true := decide_eq_true c65
      have c65b1 : decide (t119.length < y131.length) = true := decide_eq_true (Int.ofNat_lt.mp c65)
      clear c65
      obtain ⟨y134, hy134⟩ : ∃ y_ : List ByteArray, y_ = (y131.set ((t119.length : Int) : Int).toNat a1) := ⟨_, rfl⟩
      replace H : ((page_may.f k y134 t122).bind fun t135 => (if t135 = true then (some (y134, t122, (t119.length : Int), 0)) else (some (([] : List ByteArray), ([] : List Int), 0, 5)))) = some (r1, r2, r3, r4) := by first | (rw [hy134]; with_reducible exact H) | (have H2_ := (Option.bind_some _ _).symm.trans H; rw [hy134]; with_reducible exact H2_) | (have H2_ := (Option.bind_some _ _).symm.trans H; with_reducible exact H2_) | with_reducible exact H | (rw [hy134]; exact H) | exact H
      have Ny134 := mk0 hy134
      clear hy134
      replace H := Option.bind_eq_some_iff.mp H
      obtain ⟨t135, A670, H⟩ := H
      try dsimp only at H
      have A67 := mk0 A670
      clear A670
      by_cases c68 : t135 = true
      ·subst c68
       rw [if_pos rfl] at H
       simp only [Option.some.injEq, Prod.mk.injEq] at H
       obtain ⟨rfl, rfl, rfl, rfl⟩ := H
       go_enter Try.func36, Try.ntmps36
       try go_wp2_with (first | ((with_reducible refine gate_dst (N := 2) rfl ?_); refine bx_ (N := 2) (cs := #[.slice A0_0 l0_0.length c0_0, .slice A0_1 l0_1.length c0_1]) (t := 56) (h := ?_); intro gb116 hg w69 hbox hb; have n2_ := mk0 (gz_ HB hg); have n3_ := mk0 (gz_ HB hg); replace HB := mk0 (bt_ (b_ HB) hb); have BK116 := mk0 (hbox); have GW116 := n2_; have GE116 := n3_; clear n2_ n3_; clear hb hbox hg) | ((with_reducible refine gate_dst (N := 4) rfl ?_); refine bx_ (N := 4) (cs := #[.slice none 0 0, .slice none 0 0]) (t := 56) (h := ?_); intro gb117 hg w70 hbox hb; have n3_ := mk0 (gz_ HB hg); have n4_ := mk0 (gz_ HB hg); have n5_ := mk0 (ne1_ BK116 hg); have n6_ := mk0 (ne2_ BK116 hg); replace BK116 := mk0 (u_ BK116 hb); replace HB := mk0 (bt_ (b_ HB) hb); have BK117 := mk0 (hbox); have GW117 := n3_; have GE117 := n4_; have NB116_117 := n5_; have NB117_116 := n6_; clear n3_ n4_ n5_ n6_ hb hbox hg; have hnb71 := NB116_117.out; have hnc71 := NB117_116.out; obtain ⟨hcz72_0, hcz72_1, hfz72_0, hfz72_1⟩ := c2_ BK116) | ((with_reducible refine gate_callee (f := 72) rfl ?_); refine gL_ (some 8) Try.func72 #[.agg #[.slice A0_0 l0_0.length c0_0, .slice A0_1 l0_1.length c0_1]] (h := ?_); (with_reducible refine (page_may.calls k _ _ l0_0 _ _ l0_1 true _ ?side1 ?side2 ?side3 ?side4 A3.out).mono ?_); (case side1 => exact cb_ HR0_0 HB); (case side2 => exact HC0_0.out); (case side3 => exact cb_ HR0_1 HB); (case side4 => exact HC0_1.out); rintro e w73 ⟨rfl, hb⟩; refine ⟨_, rfl, ?_⟩; replace BK116 := mk0 (u_ BK116 hb); replace BK117 := mk0 (u_ BK117 hb); replace HB := mk0 (bt_ (b_ HB) hb); (try clear hb)))
       replace BK116 := mk0 (bD_ BK116.out)
       replace BK117 := mk0 (bD_ BK117.out)
       replace HB := mk0 (b1_ HB.out)
       refine start_ (n := 8) (S := fun w' => w'.cell? ⟨gb116, 0, none⟩ = some (.slice A0_0 l0_0.length c0_0) ∧ w'.cell? ⟨gb116, 1, none⟩ = some (.slice A0_1 l0_1.length c0_1)) (ds := []) (bt 8 0) (by kernel_rfl) rfl rfl ⟨(blk_cell BK116.out 0).trans rfl, (blk_cell BK116.out 1).trans rfl⟩ (fun hHeld => ?_); refine with_tabW page_Add.tab3 page_Add.bits3 (fun HT_ HW_ => ?_)
       generalize w73.drew = w74 at BK116 BK117 HB hHeld ⊢
       refine pq_ HT_.out 0 11 (bt 8 1) (h := ?_)
       refine pq_ HT_.out 3 14 (bt 8 9) (h := ?_)
       refine tq2_ HT_.out HW_.out 1 12 (bt 8 11) hHeld (h := ?_)
       refine tq2_ HT_.out HW_.out 4 15 (bt 8 27) hHeld (h := ?_)
       refine one_ (i := 2) (N := some 13) (bt 8 31) rfl rfl (one_of HT_.out (by kernel_rfl)) (by decide) (fun K hK => ?_)
       refine goes_ Try.func73 (by kernel_rfl) rfl #[.slice A0_0 l0_0.length c0_0] (by rfl) rfl rfl (by (try simp only [List.map_toArray, List.map_cons, List.map_nil]); first | done | rfl | (simp only [List.length_drop, List.length_take]; rfl)) ?_
       with_reducible refine (slices_Clone_string_string.calls _ _ l0_0 t119 _ ?side1 ?side2 A5.out).mono ?_
       (case side1 => exact cb_ HR0_0 HB)
       (case side2 => exact HC0_0.out)
       rintro e w75 ⟨v120, rfl, ho0, hb⟩
       refine ⟨_, rfl, ?_⟩
       have n0_ := mk0 (Kd.R_lower ho0 (bz_ (b_ HB)))
       replace BK116 := mk0 (u_ BK116 hb)
       replace BK117 := mk0 (u_ BK117 hb)
       replace HB := mk0 (bt_ (b_ HB) hb)
       have HO121 := n0_
       clear n0_
       (try clear hb)
       (try clear hb2)
       (try clear hk)
       (try clear hi)
       (try clear ho0)
       refine hK.out _ _ ⟨(blk_cell BK116.out 0).trans rfl, (blk_cell BK116.out 1).trans rfl⟩ (fun hHeld => ?_)
       clear hK K
       refine norm_ (a' := ?_) ?_ ?_
       rotate_left
       ·show Act.put _ (some 13) _ = _
        simp only [z_]
        rfl
       refine one_ (i := 5) (N := some 16) (bt 8 63) rfl rfl (one_of HT_.out (by kernel_rfl)) (by decide) (fun K hK => ?_)
       refine goes_ Try.func74 (by kernel_rfl) rfl #[.slice A0_1 l0_1.length c0_1] (by rfl) rfl rfl (by (try simp only [List.map_toArray, List.map_cons, List.map_nil]); first | done | rfl | (simp only [List.length_drop, List.length_take]; rfl)) ?_
       with_reducible refine (slices_Clone_int_int.calls _ _ l0_1 t122 _ ?side1 ?side2 A6.out).mono ?_
       (case side1 => exact cb_ HR0_1 HB)
       (case side2 => exact HC0_1.out)
       rintro e w76 ⟨v123, rfl, ho0, hb⟩
       refine ⟨_, rfl, ?_⟩
       have n1_ := mk0 (Kd.R_lower ho0 (bz_ (b_ HB)))
       replace HO121 := mk0 (Kd.R_below (r_ HO121) hb)
       replace BK116 := mk0 (u_ BK116 hb)
       replace BK117 := mk0 (u_ BK117 hb)
       replace HB := mk0 (bt_ (b_ HB) hb)
       have HO124 := n1_
       clear n1_
       (try clear hb)
       (try clear hb2)
       (try clear hk)
       (try clear hi)
       (try clear ho0)
       obtain ⟨Ao77, co77, eo77⟩ := Kd.R_slice HO124.out
       (first | subst eo77 | (injection eo77 with f1_ f2_ f3_; have f4_ := f1_.symm; have f5_ := f3_.symm; clear f1_ f2_ f3_; subst f4_; subst f5_))
       obtain ⟨Ao78, co78, eo78⟩ := Kd.R_slice HO121.out
       (first | subst eo78 | (injection eo78 with f1_ f2_ f3_; have f4_ := f1_.symm; have f5_ := f3_.symm; clear f1_ f2_ f3_; subst f4_; subst f5_))
       refine hK.out _ _ ⟨(blk_cell BK116.out 0).trans rfl, (blk_cell BK116.out 1).trans rfl⟩ (fun hHeld => ?_)
       clear hK K
       refine norm_ (a' := ?_) ?_ ?_
       rotate_left
       ·show Act.put _ (some 16) _ = _
        simp only [z_]
        rfl
       refine pq_ HT_.out 6 17 (bt 8 127) (h := ?_)
       refine one_ (i := 7) (N := none) (bt 8 255) rfl rfl (one_of HT_.out (by kernel_rfl)) (by decide) (fun K hK => ?_)
       have hs79 : w76.cell? ⟨gb117, 0, none⟩ = some (.slice none 0 0) := (blk_cell BK117.out 0).trans rfl
       have hfs79 := blk_frozen BK117.out 0
       have hns79_0 := NB116_117.out
       have hms79_0 := NB117_116.out
       have hs80 : w76.cell? ⟨gb117, 1, none⟩ = some (.slice none 0 0) := (blk_cell BK117.out 1).trans rfl
       have hfs80 := blk_frozen BK117.out 1
       have hns80_0 := NB116_117.out
       have hms80_0 := NB117_116.out
       refine skip_ (w1 := ?_) (by rfl) rfl ?_ ?_
       rotate_left
       ·go_simp
        rfl
       refine hK.out _ _ ⟨((cell_far (p := ⟨gb117, _, none⟩) NB116_117.out _).trans (((cell_far (p := ⟨gb117, _, none⟩) NB116_117.out _).trans (hHeld.1)))), ((cell_far (p := ⟨gb117, _, none⟩) NB116_117.out _).trans (((cell_far (p := ⟨gb117, _, none⟩) NB116_117.out _).trans (hHeld.2))))⟩ (fun hHeld => ?_)
       clear hK K
       refine done_ (done_of HT_.out (by kernel_rfl)) ?_
       obtain ⟨hcz81_0, hcz81_1, hfz81_0, hfz81_1⟩ := c2_ BK117
       try go_wp2_with (first | ((with_reducible refine gate_builtin (b := .append) (xs := #[.tmp 34, .tmp 35]) rfl ?_); at_builtin; refine Kd.R_append Kd.string (w0 := w) w.heap.size rfl (.tmp 34) (.tmp 35) 25 9 (.string ⟨#[]⟩) 16 rfl Try.underlying25 info9 rfl (by decide) (by omega) (.slice Ao78 t119.length co78) t119 (⟨#[]⟩ : ByteArray) [.string (⟨#[]⟩ : ByteArray)] (fun _ => True) (fun _ => False) rfl (by first | (go_simp; done) | (go_simp; rfl)) ?aP (fun _ hk => hk.elim) ?aF ?aO ?aB ?aS ?aL ?_; (case aP => exact rfl); (case aB => exact (b_ HB)); (case aF => exact (fun _ _ => trivial)); (case aO => exact (r2_ (Kd.R_mono (Kd.R_far (p := ⟨gb117, 1, none⟩) (Kd.R_far (p := ⟨gb117, 0, none⟩) (Kd.R_types HO121.out BK117.out (by decide)) (fun _ hk => hk.2) (.slice Ao78 t119.length co78)) (fun _ hk => hk.2) (.slice Ao77 t122.length co77)) (fun _ hk => trivial)))); (case aS => exact (bz_ (b_ HB))); (case aL => have := LMc63.out; omega); intro v132 w82 ho hb hg hat; rw [← Ny131.out] at ho; have n2_ := mk0 (Kd.R_over' (r2_ (Kd.R_mono (Kd.R_far (p := ⟨gb117, 1, none⟩) (Kd.R_far (p := ⟨gb117, 0, none⟩) (Kd.R_types HO124.out BK117.out (by decide)) (fun _ hk => hk.2) (.slice Ao78 t119.length co78)) (fun _ hk => hk.2) (.slice Ao77 t122.length co77)) (fun _ h_ => h_.1))) (Kd.R_typed (r2_ (Kd.R_mono (Kd.R_far (p := ⟨gb117, 1, none⟩) (Kd.R_far (p := ⟨gb117, 0, none⟩) (Kd.R_types HO121.out BK117.out (by decide)) (fun _ hk => hk.2) (.slice Ao78 t119.length co78)) (fun _ hk => hk.2) (.slice Ao77 t122.length co77)) (fun _ h_ => h_.1)))) (by decide) hg); replace BK116 := mk0 (blk_grown (g := gb116) (o := .cells #[.slice A0_0 l0_0.length c0_0, .slice A0_1 l0_1.length c0_1] 56 (0, 0)) (fa_ (fa_ (h_ BK116) NB116_117.out) NB116_117.out) hg (Kd.R_ne HO121.out BK116.out (by decide))); replace BK117 := mk0 (blk_grown (g := gb117) (o := .cells #[.slice Ao78 t119.length co78, .slice Ao77 t122.length co77] 56 (0, 0)) (pu_ (cs := #[.slice Ao78 t119.length co78, .slice none 0 0]) (pu_ (cs := #[.slice none 0 0, .slice none 0 0]) (h_ BK117))) hg (Kd.R_ne HO121.out BK117.out (by decide))); replace HB := mk0 (hb); have HO133 := mk0 (ho); clear HO124 HO121; have HO124 := n2_; clear n2_ ho hb hg hat; obtain ⟨Ao83, co83, eo83⟩ := Kd.R_slice HO133.out; subst eo83; obtain ⟨hcz84_0, hcz84_1, hfz84_0, hfz84_1⟩ := c2_ BK117) | ((with_reducible refine gate_store (t := 25) (p := 37) rfl ?_); refine sv_ (t := 25) (p := 37) (w1 := (w82.setCell ⟨gb117, 0, none⟩ (.slice Ao83 y131.length co83))) (h := ?_); intro w85 hw; have n0_ : Fc (Kd.R (Kd.int .i64) 3 w85 w.heap.size (fun _ => True) (.slice Ao77 t122.length co77) t122) := ⟨(by rw [hw]; exact (r2_ (Kd.R_mono (Kd.R_far (p := ⟨gb117, 0, none⟩) (Kd.R_types HO124.out BK117.out (by decide)) (fun _ hk => hk.2) (.slice Ao83 y131.length co83)) (fun _ hk => trivial))))⟩; have n1_ : Fc (Kd.R Kd.string 9 w85 w.heap.size (fun _ => True) (.slice Ao83 y131.length co83) y131) := ⟨(by rw [hw]; exact (r2_ (Kd.R_mono (Kd.R_far (p := ⟨gb117, 0, none⟩) (Kd.R_types HO133.out BK117.out (by decide)) (fun _ hk => hk.2) (.slice Ao83 y131.length co83)) (fun _ hk => trivial))))⟩; have n2_ : Fc (w85.heap[gb116]? = some (.cells #[.slice A0_0 l0_0.length c0_0, .slice A0_1 l0_1.length c0_1] 56 (0, 0))) := ⟨(by rw [hw]; exact (fa_ (h_ BK116) NB116_117.out))⟩; have n3_ : Fc (w85.heap[gb117]? = some (.cells #[.slice Ao83 y131.length co83, .slice Ao77 t122.length co77] 56 (0, 0))) := ⟨(by rw [hw]; exact (pu_ (cs := #[.slice Ao78 t119.length co78, .slice Ao77 t122.length co77]) (h_ BK117)))⟩; have n4_ : Fc (Below w.heap.size w w85) := ⟨(by rw [hw]; exact (b_ HB))⟩; clear hw HO124 HO133 BK116 BK117 HB; have HO124 := n0_; have HO133 := n1_; have BK116 := n2_; have BK117 := n3_; have HB := n4_; clear n0_ n1_ n2_ n3_ n4_; obtain ⟨hcz86_0, hcz86_1, hfz86_0, hfz86_1⟩ := c2_ BK117; have p66 : 0 ≤ ((t119.length : Int) : Int) := of_decide_eq_true (by first | (with_reducible assumption) | assumption); have q66 : ((t119.length : Int) : Int) < ((y131.length : Int) : Int) := of_decide_eq_true (by first | (with_reducible assumption) | assumption); obtain ⟨go66, co66, eo66, gb66, gl66, cl66, HG66⟩ := Kd.R_form HO133.out (by omega); (first | cases eo66 | (injection eo66 with ea_ en_ ec_; (first | subst ea_ | (injection ea_ with ea_; subst ea_)); subst ec_; clear en_)); have GB66 := mk0 gb66; have GG66 := mk0 HG66; clear gb66 gl66 HG66; obtain ⟨hx66_0, hf66_0⟩ := Kd.R_celln (⟨#[]⟩ : ByteArray) HO133.out ((t119.length : Int) : Int) p66 q66; replace p66 := eq_true p66; replace q66 := eq_true q66; obtain ⟨hy87_, hz87_⟩ := Kd.R_celln (⟨#[]⟩ : ByteArray) HO133.out ((t119.length : Int) : Int) (of_decide_eq_true (by first | (with_reducible assumption) | assumption)) (of_decide_eq_true (by first | (with_reducible assumption) | assumption)); (try simp only [Go.IntWalk.toNatUp] at hy87_ hz87_); have HP87 := Kd.R_putg HO133.out ((t119.length : Int) : Int) a1) | ((with_reducible refine gate_store (t := 9) (p := 42) rfl ?_); refine sv_ (t := 9) (p := 42) (w1 := (w85.setCell ⟨go66, ((t119.length : Int) : Int).toNat, none⟩ (.string a1))) (h := ?_); intro w88 hw; have hg : w85.grownBy w88 (some go66) := (by rw [hw]; exact HP87.2); have hp_ : Kd.R Kd.string 9 w88 w.heap.size (fun _ => True) (.slice (some ⟨go66, 0, none⟩) y131.length co83) y134 := (by rw [hw, Ny134.out]; exact HP87.1); clear HP87; have n0_ := mk0 (blk_grown (g := gb116) (o := .cells #[.slice A0_0 l0_0.length c0_0, .slice A0_1 l0_1.length c0_1] 56 (0, 0)) (h_ BK116) hg (Kd.R_ne HO133.out BK116.out (by decide))); have n1_ := mk0 (blk_grown (g := gb117) (o := .cells #[.slice (some ⟨go66, 0, none⟩) y131.length co83, .slice Ao77 t122.length co77] 56 (0, 0)) (h_ BK117) hg (Kd.R_ne HO133.out BK117.out (by decide))); have n2_ := mk0 (Kd.R_over' (v := (.slice (some ⟨go66, 0, none⟩) y131.length co83)) (r_ HO124) (Kd.R_typed HO133.out) (by decide) hg); replace HO133 := mk0 (hp_); replace HB := mk0 ((by rw [hw]; exact bs_ (HB.out) GB66.out : Below w.heap.size w w88)); clear BK116 BK117 HO124; have BK116 := n0_; have BK117 := n1_; have HO124 := n2_; clear n0_ n1_ n2_ hg hw hp_; obtain ⟨hcz89_0, hcz89_1, hfz89_0, hfz89_1⟩ := c2_ BK117) | ((with_reducible refine gate_callee (f := 72) rfl ?_); refine goesL_ (some 44) rfl rfl Try.func72 (by kernel_rfl) rfl #[.agg #[.slice (some ⟨go66, 0, none⟩) y134.length co83, .slice Ao77 t122.length co77]] rfl (by (try simp only [List.map_toArray, List.map_cons, List.map_nil]); first | done | (rw [show y134.length = y131.length from (Kd.R_reads' HO133.out).1.symm] <;> rfl) | rfl | (simp only [List.length_drop, List.length_take]; rfl)) ?_; (with_reducible refine (page_may.calls k _ _ y134 _ _ t122 true _ ?side1 ?side2 ?side3 ?side4 A67.out).mono ?_); (case side1 => exact cr_ HO133); (case side2 => rw [show y134.length = y131.length from (Kd.R_reads' HO133.out).1.symm]; exact (Kd.R_reads' HO133.out).2.1); (case side3 => exact cr_ HO124); (case side4 => exact (Kd.R_reads' HO124.out).2.1); rintro e w90 ⟨rfl, hb⟩; refine ⟨_, rfl, ?_⟩; replace HO124 := mk0 (Kd.R_below (r_ HO124) hb); replace HO133 := mk0 (Kd.R_below (r_ HO133) hb); replace BK116 := mk0 (u_ BK116 hb); replace BK117 := mk0 (u_ BK117 hb); replace HB := mk0 (bt_ (b_ HB) hb); (try clear hb); obtain ⟨hcz91_0, hcz91_1, hfz91_0, hfz91_1⟩ := c2_ BK117))
       refine bodyPost_ret (results_ctt rfl _ _ gb117 56 #[.slice (some ⟨go66, 0, none⟩) y131.length co83, .slice Ao77 t122.length co77] (0, 0) _ rfl (pu_ (cs := #[.slice (some ⟨go66, 0, none⟩) y131.length co83, .slice Ao77 t122.length co77]) (pu_ (cs := #[.slice (some ⟨go66, 0, none⟩) y131.length co83, .slice Ao77 t122.length co77]) (h_ BK117))) Try.underlying56 rfl (by kernel_rfl)) rfl ?_
       exact ⟨_, _, by first | rfl | (simp [errW_none, errW_some] <;> rfl) | (simp [*, errW_none, errW_some] <;> rfl), by (with_reducible repeat (first | apply Ra_ | apply Rn_ | apply Rd_)); exact Kd.R_mono (Kd.R_far (p := ⟨gb117, 1, none⟩) (Kd.R_far (p := ⟨gb117, 0, none⟩) (Kd.R_types HO133.out BK117.out (by decide)) (fun _ hk => hk.2) (.slice (some ⟨go66, 0, none⟩) y131.length co83)) (fun _ hk => hk.2) (.slice Ao77 t122.length co77)) (fun _ hk => trivial), Kd.Q_of_R (r2_ (Kd.R_mono (Kd.R_far (p := ⟨gb117, 1, none⟩) (Kd.R_far (p := ⟨gb117, 0, none⟩) (Kd.R_types HO124.out BK117.out (by decide)) (fun _ hk => hk.2) (.slice (some ⟨go66, 0, none⟩) y131.length co83)) (fun _ hk => hk.2) (.slice Ao77 t122.length co77)) (fun _ hk => trivial))), b_ HB⟩
      ·replace c68 := Bool.eq_false_iff.mpr c68
       subst c68
       rw [if_neg (show ¬ (false = true) by decide)] at H
       simp only [Option.some.injEq, Prod.mk.injEq] at H
       obtain ⟨rfl, rfl, rfl, rfl⟩ := H
       go_enter Try.func36, Try.ntmps36
       try go_wp2_with (first | ((with_reducible refine gate_dst (N := 2) rfl ?_); refine bx_ (N := 2) (cs := #[.slice A0_0 l0_0.length c0_0, .slice A0_1 l0_1.length c0_1]) (t := 56) (h := ?_); intro gb116 hg w92 hbox hb; have n2_ := mk0 (gz_ HB hg); have n3_ := mk0 (gz_ HB hg); replace HB := mk0 (bt_ (b_ HB) hb); have BK116 := mk0 (hbox); have GW116 := n2_; have GE116 := n3_; clear n2_ n3_; clear hb hbox hg) | ((with_reducible refine gate_dst (N := 4) rfl ?_); refine bx_ (N := 4) (cs := #[.slice none 0 0, .slice none 0 0]) (t := 56) (h := ?_); intro gb117 hg w93 hbox hb; have n3_ := mk0 (gz_ HB hg); have n4_ := mk0 (gz_ HB hg); have n5_ := mk0 (ne1_ BK116 hg); have n6_ := mk0 (ne2_ BK116 hg); replace BK116 := mk0 (u_ BK116 hb); replace HB := mk0 (bt_ (b_ HB) hb); have BK117 := mk0 (hbox); have GW117 := n3_; have GE117 := n4_; have NB116_117 := n5_; have NB117_116 := n6_; clear n3_ n4_ n5_ n6_ hb hbox hg; have hnb94 := NB116_117.out; have hnc94 := NB117_116.out; obtain ⟨hcz95_0, hcz95_1, hfz95_0, hfz95_1⟩ := c2_ BK116) | ((with_reducible refine gate_callee (f := 72) rfl ?_); refine gL_ (some 8) Try.func72 #[.agg #[.slice A0_0 l0_0.length c0_0, .slice A0_1 l0_1.length c0_1]] (h := ?_); (with_reducible refine (page_may.calls k _ _ l0_0 _ _ l0_1 true _ ?side1 ?side2 ?side3 ?side4 A3.out).mono ?_); (case side1 => exact cb_ HR0_0 HB); (case side2 => exact HC0_0.out); (case side3 => exact cb_ HR0_1 HB); (case side4 => exact HC0_1.out); rintro e w96 ⟨rfl, hb⟩; refine ⟨_, rfl, ?_⟩; replace BK116 := mk0 (u_ BK116 hb); replace BK117 := mk0 (u_ BK117 hb); replace HB := mk0 (bt_ (b_ HB) hb); (try clear hb)))
       replace BK116 := mk0 (bD_ BK116.out)
       replace BK117 := mk0 (bD_ BK117.out)
       replace HB := mk0 (b1_ HB.out)
       refine start_ (n := 8) (S := fun w' => w'.cell? ⟨gb116, 0, none⟩ = some (.slice A0_0 l0_0.length c0_0) ∧ w'.cell? ⟨gb116, 1, none⟩ = some (.slice A0_1 l0_1.length c0_1)) (ds := []) (bt 8 0) (by kernel_rfl) rfl rfl ⟨(blk_cell BK116.out 0).trans rfl, (blk_cell BK116.out 1).trans rfl⟩ (fun hHeld => ?_); refine with_tabW page_Add.tab3 page_Add.bits3 (fun HT_ HW_ => ?_)
       generalize w96.drew = w97 at BK116 BK117 HB hHeld ⊢
       refine pq_ HT_.out 0 11 (bt 8 1) (h := ?_)
       refine pq_ HT_.out 3 14 (bt 8 9) (h := ?_)
       refine tq2_ HT_.out HW_.out 1 12 (bt 8 11) hHeld (h := ?_)
       refine tq2_ HT_.out HW_.out 4 15 (bt 8 27) hHeld (h := ?_)
       refine one_ (i := 2) (N := some 13) (bt 8 31) rfl rfl (one_of HT_.out (by kernel_rfl)) (by decide) (fun K hK => ?_)
       refine goes_ Try.func73 (by kernel_rfl) rfl #[.slice A0_0 l0_0.length c0_0] (by rfl) rfl rfl (by (try simp only [List.map_toArray, List.map_cons, List.map_nil]); first | done | rfl | (simp only [List.length_drop, List.length_take]; rfl)) ?_
       with_reducible refine (slices_Clone_string_string.calls _ _ l0_0 t119 _ ?side1 ?side2 A5.out).mono ?_
       (case side1 => exact cb_ HR0_0 HB)
       (case side2 => exact HC0_0.out)
       rintro e w98 ⟨v120, rfl, ho0, hb⟩
       refine ⟨_, rfl, ?_⟩
       have n0_ := mk0 (Kd.R_lower ho0 (bz_ (b_ HB)))
       replace BK116 := mk0 (u_ BK116 hb)
       replace BK117 := mk0 (u_ BK117 hb)
       replace HB := mk0 (bt_ (b_ HB) hb)
       have HO121 := n0_
       clear n0_
       (try clear hb)
       (try clear hb2)
       (try clear hk)
       (try clear hi)
       (try clear ho0)
       refine hK.out _ _ ⟨(blk_cell BK116.out 0).trans rfl, (blk_cell BK116.out 1).trans rfl⟩ (fun hHeld => ?_)
       clear hK K
       refine norm_ (a' := ?_) ?_ ?_
       rotate_left
       ·show Act.put _ (some 13) _ = _
        simp only [z_]
        rfl
       refine one_ (i := 5) (N := some 16) (bt 8 63) rfl rfl (one_of HT_.out (by kernel_rfl)) (by decide) (fun K hK => ?_)
       refine goes_ Try.func74 (by kernel_rfl) rfl #[.slice A0_1 l0_1.length c0_1] (by rfl) rfl rfl (by (try simp only [List.map_toArray, List.map_cons, List.map_nil]); first | done | rfl | (simp only [List.length_drop, List.length_take]; rfl)) ?_
       with_reducible refine (slices_Clone_int_int.calls _ _ l0_1 t122 _ ?side1 ?side2 A6.out).mono ?_
       (case side1 => exact cb_ HR0_1 HB)
       (case side2 => exact HC0_1.out)
       rintro e w99 ⟨v123, rfl, ho0, hb⟩
       refine ⟨_, rfl, ?_⟩
       have n1_ := mk0 (Kd.R_lower ho0 (bz_ (b_ HB)))
       replace HO121 := mk0 (Kd.R_below (r_ HO121) hb)
       replace BK116 := mk0 (u_ BK116 hb)
       replace BK117 := mk0 (u_ BK117 hb)
       replace HB := mk0 (bt_ (b_ HB) hb)
       have HO124 := n1_
       clear n1_
       (try clear hb)
       (try clear hb2)
       (try clear hk)
       (try clear hi)
       (try clear ho0)
       obtain ⟨Ao100, co100, eo100⟩ := Kd.R_slice HO124.out
       (first | subst eo100 | (injection eo100 with f1_ f2_ f3_; have f4_ := f1_.symm; have f5_ := f3_.symm; clear f1_ f2_ f3_; subst f4_; subst f5_))
       obtain ⟨Ao101, co101, eo101⟩ := Kd.R_slice HO121.out
       (first | subst eo101 | (injection eo101 with f1_ f2_ f3_; have f4_ := f1_.symm; have f5_ := f3_.symm; clear f1_ f2_ f3_; subst f4_; subst f5_))
       refine hK.out _ _ ⟨(blk_cell BK116.out 0).trans rfl, (blk_cell BK116.out 1).trans rfl⟩ (fun hHeld => ?_)
       clear hK K
       refine norm_ (a' := ?_) ?_ ?_
       rotate_left
       ·show Act.put _ (some 16) _ = _
        simp only [z_]
        rfl
       refine pq_ HT_.out 6 17 (bt 8 127) (h := ?_)
       refine one_ (i := 7) (N := none) (bt 8 255) rfl rfl (one_of HT_.out (by kernel_rfl)) (by decide) (fun K hK => ?_)
       have hs102 : w99.cell? ⟨gb117, 0, none⟩ = some (.slice none 0 0) := (blk_cell BK117.out 0).trans rfl
       have hfs102 := blk_frozen BK117.out 0
       have hns102_0 := NB116_117.out
       have hms102_0 := NB117_116.out
       have hs103 : w99.cell? ⟨gb117, 1, none⟩ = some (.slice none 0 0) := (blk_cell BK117.out 1).trans rfl
       have hfs103 := blk_frozen BK117.out 1
       have hns103_0 := NB116_117.out
       have hms103_0 := NB117_116.out
       refine skip_ (w1 := ?_) (by rfl) rfl ?_ ?_
       rotate_left
       ·go_simp
        rfl
       refine hK.out _ _ ⟨((cell_far (p := ⟨gb117, _, none⟩) NB116_117.out _).trans (((cell_far (p := ⟨gb117, _, none⟩) NB116_117.out _).trans (hHeld.1)))), ((cell_far (p := ⟨gb117, _, none⟩) NB116_117.out _).trans (((cell_far (p := ⟨gb117, _, none⟩) NB116_117.out _).trans (hHeld.2))))⟩ (fun hHeld => ?_)
       clear hK K
       refine done_ (done_of HT_.out (by kernel_rfl)) ?_
       obtain ⟨hcz104_0, hcz104_1, hfz104_0, hfz104_1⟩ := c2_ BK117
       try go_wp2_with (first | ((with_reducible refine gate_builtin (b := .append) (xs := #[.tmp 34, .tmp 35]) rfl ?_); at_builtin; refine Kd.R_append Kd.string (w0 := w) w.heap.size rfl (.tmp 34) (.tmp 35) 25 9 (.string ⟨#[]⟩) 16 rfl Try.underlying25 info9 rfl (by decide) (by omega) (.slice Ao101 t119.length co101) t119 (⟨#[]⟩ : ByteArray) [.string (⟨#[]⟩ : ByteArray)] (fun _ => True) (fun _ => False) rfl (by first | (go_simp; done) | (go_simp; rfl)) ?aP (fun _ hk => hk.elim) ?aF ?aO ?aB ?aS ?aL ?_; (case aP => exact rfl); (case aB => exact (b_ HB)); (case aF => exact (fun _ _ => trivial)); (case aO => exact (r2_ (Kd.R_mono (Kd.R_far (p := ⟨gb117, 1, none⟩) (Kd.R_far (p := ⟨gb117, 0, none⟩) (Kd.R_types HO121.out BK117.out (by decide)) (fun _ hk => hk.2) (.slice Ao101 t119.length co101)) (fun _ hk => hk.2) (.slice Ao100 t122.length co100)) (fun _ hk => trivial)))); (case aS => exact (bz_ (b_ HB))); (case aL => have := LMc63.out; omega); intro v132 w105 ho hb hg hat; rw [← Ny131.out] at ho; have n2_ := mk0 (Kd.R_over' (r2_ (Kd.R_mono (Kd.R_far (p := ⟨gb117, 1, none⟩) (Kd.R_far (p := ⟨gb117, 0, none⟩) (Kd.R_types HO124.out BK117.out (by decide)) (fun _ hk => hk.2) (.slice Ao101 t119.length co101)) (fun _ hk => hk.2) (.slice Ao100 t122.length co100)) (fun _ h_ => h_.1))) (Kd.R_typed (r2_ (Kd.R_mono (Kd.R_far (p := ⟨gb117, 1, none⟩) (Kd.R_far (p := ⟨gb117, 0, none⟩) (Kd.R_types HO121.out BK117.out (by decide)) (fun _ hk => hk.2) (.slice Ao101 t119.length co101)) (fun _ hk => hk.2) (.slice Ao100 t122.length co100)) (fun _ h_ => h_.1)))) (by decide) hg); replace BK116 := mk0 (blk_grown (g := gb116) (o := .cells #[.slice A0_0 l0_0.length c0_0, .slice A0_1 l0_1.length c0_1] 56 (0, 0)) (fa_ (fa_ (h_ BK116) NB116_117.out) NB116_117.out) hg (Kd.R_ne HO121.out BK116.out (by decide))); replace BK117 := mk0 (blk_grown (g := gb117) (o := .cells #[.slice Ao101 t119.length co101, .slice Ao100 t122.length co100] 56 (0, 0)) (pu_ (cs := #[.slice Ao101 t119.length co101, .slice none 0 0]) (pu_ (cs := #[.slice none 0 0, .slice none 0 0]) (h_ BK117))) hg (Kd.R_ne HO121.out BK117.out (by decide))); replace HB := mk0 (hb); have HO133 := mk0 (ho); clear HO124 HO121; have HO124 := n2_; clear n2_ ho hb hg hat; obtain ⟨Ao106, co106, eo106⟩ := Kd.R_slice HO133.out; subst eo106; obtain ⟨hcz107_0, hcz107_1, hfz107_0, hfz107_1⟩ := c2_ BK117) | ((with_reducible refine gate_store (t := 25) (p := 37) rfl ?_); refine sv_ (t := 25) (p := 37) (w1 := (w105.setCell ⟨gb117, 0, none⟩ (.slice Ao106 y131.length co106))) (h := ?_); intro w108 hw; have n0_ : Fc (Kd.R (Kd.int .i64) 3 w108 w.heap.size (fun _ => True) (.slice Ao100 t122.length co100) t122) := ⟨(by rw [hw]; exact (r2_ (Kd.R_mono (Kd.R_far (p := ⟨gb117, 0, none⟩) (Kd.R_types HO124.out BK117.out (by decide)) (fun _ hk => hk.2) (.slice Ao106 y131.length co106)) (fun _ hk => trivial))))⟩; have n1_ : Fc (Kd.R Kd.string 9 w108 w.heap.size (fun _ => True) (.slice Ao106 y131.length co106) y131) := ⟨(by rw [hw]; exact (r2_ (Kd.R_mono (Kd.R_far (p := ⟨gb117, 0, none⟩) (Kd.R_types HO133.out BK117.out (by decide)) (fun _ hk => hk.2) (.slice Ao106 y131.length co106)) (fun _ hk => trivial))))⟩; have n2_ : Fc (w108.heap[gb116]? = some (.cells #[.slice A0_0 l0_0.length c0_0, .slice A0_1 l0_1.length c0_1] 56 (0, 0))) := ⟨(by rw [hw]; exact (fa_ (h_ BK116) NB116_117.out))⟩; have n3_ : Fc (w108.heap[gb117]? = some (.cells #[.slice Ao106 y131.length co106, .slice Ao100 t122.length co100] 56 (0, 0))) := ⟨(by rw [hw]; exact (pu_ (cs := #[.slice Ao101 t119.length co101, .slice Ao100 t122.length co100]) (h_ BK117)))⟩; have n4_ : Fc (Below w.heap.size w w108) := ⟨(by rw [hw]; exact (b_ HB))⟩; clear hw HO124 HO133 BK116 BK117 HB; have HO124 := n0_; have HO133 := n1_; have BK116 := n2_; have BK117 := n3_; have HB := n4_; clear n0_ n1_ n2_ n3_ n4_; obtain ⟨hcz109_0, hcz109_1, hfz109_0, hfz109_1⟩ := c2_ BK117; have p66 : 0 ≤ ((t119.length : Int) : Int) := of_decide_eq_true (by first | (with_reducible assumption) | assumption); have q66 : ((t119.length : Int) : Int) < ((y131.length : Int) : Int) := of_decide_eq_true (by first | (with_reducible assumption) | assumption); obtain ⟨go66, co66, eo66, gb66, gl66, cl66, HG66⟩ := Kd.R_form HO133.out (by omega); (first | cases eo66 | (injection eo66 with ea_ en_ ec_; (first | subst ea_ | (injection ea_ with ea_; subst ea_)); subst ec_; clear en_)); have GB66 := mk0 gb66; have GG66 := mk0 HG66; clear gb66 gl66 HG66; obtain ⟨hx66_0, hf66_0⟩ := Kd.R_celln (⟨#[]⟩ : ByteArray) HO133.out ((t119.length : Int) : Int) p66 q66; replace p66 := eq_true p66; replace q66 := eq_true q66; obtain ⟨hy110_, hz110_⟩ := Kd.R_celln (⟨#[]⟩ : ByteArray) HO133.out ((t119.length : Int) : Int) (of_decide_eq_true (by first | (with_reducible assumption) | assumption)) (of_decide_eq_true (by first | (with_reducible assumption) | assumption)); (try simp only [Go.IntWalk.toNatUp] at hy110_ hz110_); have HP110 := Kd.R_putg HO133.out ((t119.length : Int) : Int) a1) | ((with_reducible refine gate_store (t := 9) (p := 42) rfl ?_); refine sv_ (t := 9) (p := 42) (w1 := (w108.setCell ⟨go66, ((t119.length : Int) : Int).toNat, none⟩ (.string a1))) (h := ?_); intro w111 hw; have hg : w108.grownBy w111 (some go66) := (by rw [hw]; exact HP110.2); have hp_ : Kd.R Kd.string 9 w111 w.heap.size (fun _ => True) (.slice (some ⟨go66, 0, none⟩) y131.length co106) y134 := (by rw [hw, Ny134.out]; exact HP110.1); clear HP110; have n0_ := mk0 (blk_grown (g := gb116) (o := .cells #[.slice A0_0 l0_0.length c0_0, .slice A0_1 l0_1.length c0_1] 56 (0, 0)) (h_ BK116) hg (Kd.R_ne HO133.out BK116.out (by decide))); have n1_ := mk0 (blk_grown (g := gb117) (o := .cells #[.slice (some ⟨go66, 0, none⟩) y131.length co106, .slice Ao100 t122.length co100] 56 (0, 0)) (h_ BK117) hg (Kd.R_ne HO133.out BK117.out (by decide))); have n2_ := mk0 (Kd.R_over' (v := (.slice (some ⟨go66, 0, none⟩) y131.length co106)) (r_ HO124) (Kd.R_typed HO133.out) (by decide) hg); replace HO133 := mk0 (hp_); replace HB := mk0 ((by rw [hw]; exact bs_ (HB.out) GB66.out : Below w.heap.size w w111)); clear BK116 BK117 HO124; have BK116 := n0_; have BK117 := n1_; have HO124 := n2_; clear n0_ n1_ n2_ hg hw hp_; obtain ⟨hcz112_0, hcz112_1, hfz112_0, hfz112_1⟩ := c2_ BK117) | ((with_reducible refine gate_callee (f := 72) rfl ?_); refine goesL_ (some 44) rfl rfl Try.func72 (by kernel_rfl) rfl #[.agg #[.slice (some ⟨go66, 0, none⟩) y134.length co106, .slice Ao100 t122.length co100]] rfl (by (try simp only [List.map_toArray, List.map_cons, List.map_nil]); first | done | (rw [show y134.length = y131.length from (Kd.R_reads' HO133.out).1.symm] <;> rfl) | rfl | (simp only [List.length_drop, List.length_take]; rfl)) ?_; (with_reducible refine (page_may.calls k _ _ y134 _ _ t122 false _ ?side1 ?side2 ?side3 ?side4 A67.out).mono ?_); (case side1 => exact cr_ HO133); (case side2 => rw [show y134.length = y131.length from (Kd.R_reads' HO133.out).1.symm]; exact (Kd.R_reads' HO133.out).2.1); (case side3 => exact cr_ HO124); (case side4 => exact (Kd.R_reads' HO124.out).2.1); rintro e w113 ⟨rfl, hb⟩; refine ⟨_, rfl, ?_⟩; replace HO124 := mk0 (Kd.R_below (r_ HO124) hb); replace HO133 := mk0 (Kd.R_below (r_ HO133) hb); replace BK116 := mk0 (u_ BK116 hb); replace BK117 := mk0 (u_ BK117 hb); replace HB := mk0 (bt_ (b_ HB) hb); (try clear hb); obtain ⟨hcz114_0, hcz114_1, hfz114_0, hfz114_1⟩ := c2_ BK117))
       refine bodyPost_ret (results_ctt rfl _ _ gb117 56 #[.slice none 0 0, .slice none 0 0] (0, 0) _ rfl (pu_ (cs := #[.slice none 0 0, .slice Ao100 t122.length co100]) (pu_ (cs := #[.slice (some ⟨go66, 0, none⟩) y131.length co106, .slice Ao100 t122.length co100]) (h_ BK117))) Try.underlying56 rfl (by kernel_rfl)) rfl ?_
       exact ⟨_, _, by first | rfl | (simp [errW_none, errW_some] <;> rfl) | (simp [*, errW_none, errW_some] <;> rfl), by first | exact Kd.R_nil _ _ _ _ _ | exact Kd.N_nil _ _ _ _ _ | exact Kd.V_nil _ _ _ _ _ | exact Kd.Q_nil _ _ _ _ _ | exact Kd.S_nil _ _ _ _ _, Kd.Q_of_R (by first | exact Kd.R_nil _ _ _ _ _ | exact Kd.N_nil _ _ _ _ _ | exact Kd.V_nil _ _ _ _ _ | exact Kd.Q_nil _ _ _ _ _ | exact Kd.S_nil _ _ _ _ _), b_ HB⟩
     ·rw [if_neg c65] at H
      exact absurd H (by simp)
    ·rw [if_neg c64] at H
     exact absurd H (by simp)
   ·rw [if_neg c63] at H
    exact absurd H (by simp)
 ·replace c4 := Bool.eq_false_iff.mpr c4
  subst c4
  rw [if_neg (show ¬ (false = true) by decide)] at H
  simp only [Option.some.injEq, Prod.mk.injEq] at H
  obtain ⟨rfl, rfl, rfl, rfl⟩ := H
  go_enter Try.func36, Try.ntmps36
  go_wp2_with (first | ((with_reducible refine gate_dst (N := 2) rfl ?_); refine bx_ (N := 2) (cs := #[.slice A0_0 l0_0.length c0_0, .slice A0_1 l0_1.length c0_1]) (t := 56) (h := ?_); intro gb116 hg w115 hbox hb; have n2_ := mk0 (gz_ HB hg); have n3_ := mk0 (gz_ HB hg); replace HB := mk0 (bt_ (b_ HB) hb); have BK116 := mk0 (hbox); have GW116 := n2_; have GE116 := n3_; clear n2_ n3_; clear hb hbox hg) | ((with_reducible refine gate_dst (N := 4) rfl ?_); refine bx_ (N := 4) (cs := #[.slice none 0 0, .slice none 0 0]) (t := 56) (h := ?_); intro gb117 hg w116 hbox hb; have n3_ := mk0 (gz_ HB hg); have n4_ := mk0 (gz_ HB hg); have n5_ := mk0 (ne1_ BK116 hg); have n6_ := mk0 (ne2_ BK116 hg); replace BK116 := mk0 (u_ BK116 hb); replace HB := mk0 (bt_ (b_ HB) hb); have BK117 := mk0 (hbox); have GW117 := n3_; have GE117 := n4_; have NB116_117 := n5_; have NB117_116 := n6_; clear n3_ n4_ n5_ n6_ hb hbox hg; have hnb117 := NB116_117.out; have hnc117 := NB117_116.out; obtain ⟨hcz118_0, hcz118_1, hfz118_0, hfz118_1⟩ := c2_ BK116) | ((with_reducible refine gate_callee (f := 72) rfl ?_); refine gL_ (some 8) Try.func72 #[.agg #[.slice A0_0 l0_0.length c0_0, .slice A0_1 l0_1.length c0_1]] (h := ?_); (with_reducible refine (page_may.calls k _ _ l0_0 _ _ l0_1 false _ ?side1 ?side2 ?side3 ?side4 A3.out).mono ?_); (case side1 => exact cb_ HR0_0 HB); (case side2 => exact HC0_0.out); (case side3 => exact cb_ HR0_1 HB); (case side4 => exact HC0_1.out); rintro e w119 ⟨rfl, hb⟩; refine ⟨_, rfl, ?_⟩; replace BK116 := mk0 (u_ BK116 hb); replace BK117 := mk0 (u_ BK117 hb); replace HB := mk0 (bt_ (b_ HB) hb); (try clear hb); obtain ⟨hcz120_0, hcz120_1, hfz120_0, hfz120_1⟩ := c2_ BK117))
  refine bodyPost_ret (results_ctt rfl _ _ gb117 56 #[.slice none 0 0, .slice none 0 0] (0, 0) _ rfl (pu_ (cs := #[.slice none 0 0, .slice none 0 0]) (pu_ (cs := #[.slice none 0 0, .slice none 0 0]) (h_ BK117))) Try.underlying56 rfl (by kernel_rfl)) rfl ?_
  exact ⟨_, _, by first | rfl | (simp [errW_none, errW_some] <;> rfl) | (simp [*, errW_none, errW_some] <;> rfl), by first | exact Kd.R_nil _ _ _ _ _ | exact Kd.N_nil _ _ _ _ _ | exact Kd.V_nil _ _ _ _ _ | exact Kd.Q_nil _ _ _ _ _ | exact Kd.S_nil _ _ _ _ _, Kd.Q_of_R (by first | exact Kd.R_nil _ _ _ _ _ | exact Kd.N_nil _ _ _ _ _ | exact Kd.V_nil _ _ _ _ _ | exact Kd.Q_nil _ _ _ _ _ | exact Kd.S_nil _ _ _ _ _), b_ HB⟩

end Go.Proofs.Ytoodkefpkgbjcaa.PPgb
