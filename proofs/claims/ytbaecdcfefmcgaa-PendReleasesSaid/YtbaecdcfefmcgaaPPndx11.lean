-- PRINTED by print.py (a twelfth state) out of the translation. Not trusted: Lean checks it.
import Derived.Test.YtbaecdcfefmcgaaPPndx0
import Derived.Test.YtbaecdcfefmcgaaPPndx2
import Derived.Test.YtbaecdcfefmcgaaPPndx5
import Derived.Test.YtbaecdcfefmcgaaPPndx8
import Derived.Test.YtbaecdcfefmcgaaPPndx9
import Derived.Test.YtbaecdcfefmcgaaPPndx10
namespace Go.Proofs.Ytbaecdcfefmcgaa.PPnd
open Go.RowKit Go.Proofs.YtbaecdcfefmcgaaW.PrintWords Go.Proofs.YtbaecdcfefmcgaaW.PrintLast Go.Proofs.YtbaecdcfefmcgaaW.PrintMore
attribute [local go_sem] max2_int min2_int max_two min_two max_three min_three max_four min_four   -- for this text's walks alone
set_option linter.unusedVariables false
set_option linter.unusedSimpArgs false

/-! ### quorumlaw10_wakes: function 26 -/
def quorumlaw10_wakes.f (k : Nat)  : Option (Bool) := (pend_Save.f k ([] : List (S36)) ([] : List Int)).bind fun bt445 => ((pend_Put.f k bt445.1 bt445.2.1 0 (⟨#[97]⟩ : ByteArray) (⟨#[]⟩ : ByteArray) false).bind fun bt454 => ((pend_Return.f k bt454.1 bt454.2.1 bt445.2.2.1).bind fun bt461 => ((quorumlaw10_num.f bt445.2.2.2).bind fun t468 => (if t468 = 0 then ((quorumlaw10_num.f bt454.2.2).bind fun t469 => (if t469 = 0 then ((quorumlaw10_num.f bt461.2.2).bind fun t470 => (if t470 = 0 then (if (bt461.1.length : Int) = 0 then (some ((bt461.2.1.length : Int) == 1)) else (some false)) else (some false))) else (some false))) else (some false)))))
theorem quorumlaw10_wakes.mono : ∀ k, LeO (quorumlaw10_wakes.f k ) (quorumlaw10_wakes.f (k + 1) ) := by
 intro  k
 unfold quorumlaw10_wakes.f
 repeat' first
   | (with_reducible exact pend_Put.mono _ _ _ _ _ _ _)
   | (with_reducible exact pend_Return.mono _ _ _ _)
   | (with_reducible exact pend_Save.mono _ _ _)
   | (with_reducible exact LeO.refl _)
   | (with_reducible exact LeO.none _)
   | (with_reducible refine LeO.ite ?_ ?_)
   | (with_reducible refine LeO.bind ?_ (fun _ => ?_))
   | exact pend_Put.mono _ _ _ _ _ _ _
   | exact pend_Return.mono _ _ _ _
   | exact pend_Save.mono _ _ _
   | exact LeO.none _
   | refine LeO.ite ?_ ?_
   | refine LeO.bind ?_ (fun _ => ?_)
set_option maxHeartbeats 8000000 in
set_option maxRecDepth 100000 in
theorem quorumlaw10_wakes.calls (k : Nat)  (r : Bool) (w : World) (h : quorumlaw10_wakes.f k  = some r) :
  Calls Try.prog 26 #[] w fun e w' => e = .returned (.bool r) ∧ Below w.heap.size w w' := by
 have hu34 := Try.underlying34
 have hu36 := Try.underlying36
 have HB := mk0 (Below.refl w.heap.size w)
 have H : ((pend_Save.f k ([] : List (S36)) ([] : List Int)).bind fun bt445 => ((pend_Put.f k bt445.1 bt445.2.1 0 (⟨#[97]⟩ : ByteArray) (⟨#[]⟩ : ByteArray) false).bind fun bt454 => ((pend_Return.f k bt454.1 bt454.2.1 bt445.2.2.1).bind fun bt461 => ((quorumlaw10_num.f bt445.2.2.2).bind fun t468 => (if t468 = 0 then ((quorumlaw10_num.f bt454.2.2).bind fun t469 => (if t469 = 0 then ((quorumlaw10_num.f bt461.2.2).bind fun t470 => (if t470 = 0 then (if (bt461.1.length : Int) = 0 then (some ((bt461.2.1.length : Int) == 1)) else (some false)) else (some false))) else (some false))) else (some false)))))) = some r := h
 clear h
 replace H := Option.bind_eq_some_iff.mp H
 obtain ⟨⟨t445, t448, t451, t452⟩, A10, H⟩ := H
 try dsimp only at H
 have A1 := mk0 A10
 clear A10
 replace H := Option.bind_eq_some_iff.mp H
 obtain ⟨⟨t454, t457, t460⟩, A20, H⟩ := H
 try dsimp only at H
 have A2 := mk0 A20
 clear A20
 replace H := Option.bind_eq_some_iff.mp H
 obtain ⟨⟨t461, t464, t467⟩, A30, H⟩ := H
 try dsimp only at H
 have A3 := mk0 A30
 clear A30
 replace H := Option.bind_eq_some_iff.mp H
 obtain ⟨t468, A40, H⟩ := H
 try dsimp only at H
 have A4 := mk0 A40
 clear A40
 by_cases c5 : t468 = 0
 focus
  rw [if_pos c5] at H
  have c5b0 : (t468 == 0) = true := beq_iff_eq.mpr c5
  have c5b1 : (t468 != 0) = false := bne_eq_false_iff_eq.mpr c5
  clear c5
  replace H := Option.bind_eq_some_iff.mp H
  obtain ⟨t469, A60, H⟩ := H
  try dsimp only at H
  have A6 := mk0 A60
  clear A60
  by_cases c7 : t469 = 0
  focus
   rw [if_pos c7] at H
   have c7b0 : (t469 == 0) = true := beq_iff_eq.mpr c7
   have c7b1 : (t469 != 0) = false := bne_eq_false_iff_eq.mpr c7
   clear c7
   replace H := Option.bind_eq_some_iff.mp H
   obtain ⟨t470, A80, H⟩ := H
   try dsimp only at H
   have A8 := mk0 A80
   clear A80
   by_cases c9 : t470 = 0
   focus
    rw [if_pos c9] at H
    have c9b0 : (t470 == 0) = true := beq_iff_eq.mpr c9
    have c9b1 : (t470 != 0) = false := bne_eq_false_iff_eq.mpr c9
    clear c9
    by_cases c10 : (t461.length : Int) = 0
    focus
     rw [if_pos c10] at H
     have c10b0 : ((t461.length : Int) == 0) = true := beq_iff_eq.mpr c10
     have c10b1 : ((t461.length : Int) != 0) = false := bne_eq_false_iff_eq.mpr c10
     clear c10
     obtain rfl := Option.some.inj H
     go_enter Try.func26, Try.ntmps26
    rotate_left 1
    focus
     rw [if_neg c10] at H
     have c10b0 : ((t461.length : Int) == 0) = false := beq_eq_false_iff_ne.mpr c10
     have c10b1 : ((t461.length : Int) != 0) = true := bne_iff_ne.mpr c10
     have c10b2 : ¬ (t461 = []) := fun h_ => c10 (by rw [h_]; rfl)
     obtain rfl := Option.some.inj H
     go_enter Try.func26, Try.ntmps26
    rotate_right 1
   rotate_left 2
   focus
    rw [if_neg c9] at H
    have c9b0 : (t470 == 0) = false := beq_eq_false_iff_ne.mpr c9
    have c9b1 : (t470 != 0) = true := bne_iff_ne.mpr c9
    obtain rfl := Option.some.inj H
    go_enter Try.func26, Try.ntmps26
   rotate_right 2
  rotate_left 3
  focus
   rw [if_neg c7] at H
   have c7b0 : (t469 == 0) = false := beq_eq_false_iff_ne.mpr c7
   have c7b1 : (t469 != 0) = true := bne_iff_ne.mpr c7
   obtain rfl := Option.some.inj H
   go_enter Try.func26, Try.ntmps26
  rotate_right 3
 rotate_left 4
 focus
  rw [if_neg c5] at H
  have c5b0 : (t468 == 0) = false := beq_eq_false_iff_ne.mpr c5
  have c5b1 : (t468 != 0) = true := bne_iff_ne.mpr c5
  obtain rfl := Option.some.inj H
  go_enter Try.func26, Try.ntmps26
 rotate_right 4
 all_goals go_wp2_with (first | ((with_reducible refine gate_callee (f := 53) rfl ?_); refine gL_ (some 8) Try.func53 #[.agg #[.slice none 0 0, .slice none 0 0]] (h := ?_); (refine (pend_Save.calls k _ _ ([] : List (S36)) _ _ ([] : List Int) t445 t448 t451 t452 _ ?side1 ?side2 ?side3 ?side4 A1.out).mono ?_); (case side1 => exact Kd.C_nil _ _); (case side2 => exact Nat.le_refl _); (case side3 => exact Kd.C_nil _ _); (case side4 => exact Nat.le_refl _); rintro e w11 ⟨v446, v449, rfl, ho0, ho1, hb⟩; refine ⟨_, rfl, ?_⟩; have n0_ := mk0 (Kd.R_lower ho0 (bz_ (b_ HB))); have n1_ := mk0 (Kd.R_lower ho1 (bz_ (b_ HB))); replace HB := mk0 (bt_ (b_ HB) hb); have HO447 := n0_; have HO450 := n1_; clear n0_ n1_; (try clear hb); (try clear ho0); (try clear ho1)) | ((with_reducible refine gate_dst (N := 1) rfl ?_); (try (refine gate_guard (by rfl) ?_; dsimp only)); refine bx_ (N := 1) (cs := #[.slice none 0 0, .slice none 0 0]) (t := 34) (h := ?_); intro gb453 hg w12 hbox hb; have n4_ := mk0 (gz_ HB hg); have n5_ := mk0 (gz_ HB hg); replace HO447 := mk0 (Kd.R_below (r_ HO447) hb); replace HO450 := mk0 (Kd.R_below (r_ HO450) hb); replace HB := mk0 (bt_ (b_ HB) hb); have BK453 := mk0 (hbox); have GW453 := n4_; have GE453 := n5_; clear n4_ n5_ hb hbox hg; obtain ⟨Ao13, co13, eo13⟩ := Kd.R_slice HO447.out; subst eo13; obtain ⟨hcz14_0, hcz14_1, hfz14_0, hfz14_1⟩ := c2_ BK453; obtain ⟨Ao15, co15, eo15⟩ := Kd.R_slice HO450.out; subst eo15) | ((with_reducible refine gate_callee (f := 66) rfl ?_); refine gL_ (some 15) Try.func66 #[.agg #[.slice Ao13 t445.length co13, .slice Ao15 t448.length co15], .agg #[.int .i64 0, .string (⟨#[97]⟩ : ByteArray), .string (⟨#[]⟩ : ByteArray), .bool false]] (h := ?_); (with_reducible refine (pend_Put.calls k _ _ t445 _ _ t448 0 (⟨#[97]⟩ : ByteArray) (⟨#[]⟩ : ByteArray) false t454 t457 t460 _ ?side1 ?side2 ?side3 ?side4 A2.out).mono ?_); (case side1 => refine (Kd.R_reads' (e := 36) (base := w.heap.size) (ok := fun k_ => True) (n := t445.length) (c := co13) ?_).2.2; exact (r2_ (Kd.R_mono (Kd.R_far (p := ⟨gb453, 1, none⟩) (Kd.R_far (p := ⟨gb453, 0, none⟩) (Kd.R_types HO447.out BK453.out (by decide)) (fun _ hk => hk.2) (.slice Ao13 t445.length co13)) (fun _ hk => hk.2) (.slice Ao15 t448.length co15)) (fun _ h_ => h_.1)))); (case side2 => exact (Kd.R_reads' HO447.out).2.1); (case side3 => refine (Kd.R_reads' (e := 3) (base := w.heap.size) (ok := fun k_ => True) (n := t448.length) (c := co15) ?_).2.2; exact (r2_ (Kd.R_mono (Kd.R_far (p := ⟨gb453, 1, none⟩) (Kd.R_far (p := ⟨gb453, 0, none⟩) (Kd.R_types HO450.out BK453.out (by decide)) (fun _ hk => hk.2) (.slice Ao13 t445.length co13)) (fun _ hk => hk.2) (.slice Ao15 t448.length co15)) (fun _ h_ => h_.1)))); (case side4 => exact (Kd.R_reads' HO450.out).2.1); rintro e w16 ⟨v455, v458, rfl, ho0, ho1, hb⟩; refine ⟨_, rfl, ?_⟩; have n0_ := mk0 (Kd.R_elder' (r2_ (Kd.R_mono (Kd.R_far (p := ⟨gb453, 1, none⟩) (Kd.R_far (p := ⟨gb453, 0, none⟩) (Kd.R_types HO447.out BK453.out (by decide)) (fun _ hk => hk.2) (.slice Ao13 t445.length co13)) (fun _ hk => hk.2) (.slice Ao15 t448.length co15)) (fun _ h_ => h_.1))) (Kd.R_base ho0) hb); have n1_ := mk0 (Kd.R_elder' (r2_ (Kd.R_mono (Kd.R_far (p := ⟨gb453, 1, none⟩) (Kd.R_far (p := ⟨gb453, 0, none⟩) (Kd.R_types HO450.out BK453.out (by decide)) (fun _ hk => hk.2) (.slice Ao13 t445.length co13)) (fun _ hk => hk.2) (.slice Ao15 t448.length co15)) (fun _ h_ => h_.1))) (Kd.R_base ho1) hb); have n2_ := mk0 (Kd.R_lower (Kd.R_new' ho0 (Kd.R_lt (r2_ (Kd.R_mono (Kd.R_far (p := ⟨gb453, 1, none⟩) (Kd.R_far (p := ⟨gb453, 0, none⟩) (Kd.R_types HO447.out BK453.out (by decide)) (fun _ hk => hk.2) (.slice Ao13 t445.length co13)) (fun _ hk => hk.2) (.slice Ao15 t448.length co15)) (fun _ h_ => h_.1))))) (bz_ (b_ HB))); have n3_ := mk0 (Kd.R_lower (Kd.R_new' ho1 (Kd.R_lt (r2_ (Kd.R_mono (Kd.R_far (p := ⟨gb453, 1, none⟩) (Kd.R_far (p := ⟨gb453, 0, none⟩) (Kd.R_types HO450.out BK453.out (by decide)) (fun _ hk => hk.2) (.slice Ao13 t445.length co13)) (fun _ hk => hk.2) (.slice Ao15 t448.length co15)) (fun _ h_ => h_.1))))) (bz_ (b_ HB))); replace BK453 := mk0 (blk_below (g := gb453) (o := .cells #[.slice Ao13 t445.length co13, .slice Ao15 t448.length co15] 34 (0, 0)) (pu_ (cs := #[.slice Ao13 t445.length co13, .slice none 0 0]) (pu_ (cs := #[.slice none 0 0, .slice none 0 0]) (h_ BK453))) hb); replace HB := mk0 (bt_ (b_ HB) hb); clear HO447 HO450; have HO447 := n0_; have HO450 := n1_; have HO456 := n2_; have HO459 := n3_; clear n0_ n1_ n2_ n3_; (try clear hb); (try clear ho0); (try clear ho1); obtain ⟨Ao17, co17, eo17⟩ := Kd.R_slice HO456.out; subst eo17; obtain ⟨hcz18_0, hcz18_1, hfz18_0, hfz18_1⟩ := c2_ BK453; obtain ⟨Ao19, co19, eo19⟩ := Kd.R_slice HO459.out; subst eo19) | ((with_reducible refine gate_callee (f := 55) rfl ?_); refine gL_ (some 21) Try.func55 #[.agg #[.slice Ao17 t454.length co17, .slice Ao19 t457.length co19], .int .i64 t451] (h := ?_); (with_reducible refine (pend_Return.calls k _ _ t454 _ _ t457 t451 t461 t464 t467 _ ?side1 ?side2 ?side3 ?side4 A3.out).mono ?_); (case side1 => refine (Kd.R_reads' (e := 36) (base := w.heap.size) (ok := fun k_ => (True ∧ some k_ ≠ (.slice Ao13 t445.length co13 : Value).ownBlock)) (n := t454.length) (c := co17) ?_).2.2; exact (r2_ (Kd.R_mono (Kd.R_far (p := ⟨gb453, 1, none⟩) (Kd.R_far (p := ⟨gb453, 0, none⟩) (Kd.R_types HO456.out BK453.out (by decide)) (fun _ hk => hk.2) (.slice Ao17 t454.length co17)) (fun _ hk => hk.2) (.slice Ao19 t457.length co19)) (fun _ h_ => h_.1)))); (case side2 => exact (Kd.R_reads' HO456.out).2.1); (case side3 => refine (Kd.R_reads' (e := 3) (base := w.heap.size) (ok := fun k_ => (True ∧ some k_ ≠ (.slice Ao15 t448.length co15 : Value).ownBlock)) (n := t457.length) (c := co19) ?_).2.2; exact (r2_ (Kd.R_mono (Kd.R_far (p := ⟨gb453, 1, none⟩) (Kd.R_far (p := ⟨gb453, 0, none⟩) (Kd.R_types HO459.out BK453.out (by decide)) (fun _ hk => hk.2) (.slice Ao17 t454.length co17)) (fun _ hk => hk.2) (.slice Ao19 t457.length co19)) (fun _ h_ => h_.1)))); (case side4 => exact (Kd.R_reads' HO459.out).2.1); rintro e w20 ⟨v462, v465, rfl, ho0, ho1, hb⟩; refine ⟨_, rfl, ?_⟩; have n0_ := mk0 (Kd.R_elder' (r2_ (Kd.R_mono (Kd.R_far (p := ⟨gb453, 1, none⟩) (Kd.R_far (p := ⟨gb453, 0, none⟩) (Kd.R_types HO447.out BK453.out (by decide)) (fun _ hk => hk.2) (.slice Ao17 t454.length co17)) (fun _ hk => hk.2) (.slice Ao19 t457.length co19)) (fun _ h_ => h_.1))) (Kd.R_base ho0) hb); have n1_ := mk0 (Kd.R_elder' (r2_ (Kd.R_mono (Kd.R_far (p := ⟨gb453, 1, none⟩) (Kd.R_far (p := ⟨gb453, 0, none⟩) (Kd.R_types HO450.out BK453.out (by decide)) (fun _ hk => hk.2) (.slice Ao17 t454.length co17)) (fun _ hk => hk.2) (.slice Ao19 t457.length co19)) (fun _ h_ => h_.1))) (Kd.R_base ho1) hb); have n2_ := mk0 (Kd.R_elder' (r2_ (Kd.R_mono (Kd.R_far (p := ⟨gb453, 1, none⟩) (Kd.R_far (p := ⟨gb453, 0, none⟩) (Kd.R_types HO456.out BK453.out (by decide)) (fun _ hk => hk.2) (.slice Ao17 t454.length co17)) (fun _ hk => hk.2) (.slice Ao19 t457.length co19)) (fun _ h_ => h_.1))) (Kd.R_base ho0) hb); have n3_ := mk0 (Kd.R_elder' (r2_ (Kd.R_mono (Kd.R_far (p := ⟨gb453, 1, none⟩) (Kd.R_far (p := ⟨gb453, 0, none⟩) (Kd.R_types HO459.out BK453.out (by decide)) (fun _ hk => hk.2) (.slice Ao17 t454.length co17)) (fun _ hk => hk.2) (.slice Ao19 t457.length co19)) (fun _ h_ => h_.1))) (Kd.R_base ho1) hb); have n4_ := mk0 (Kd.R_lower (Kd.R_new' (Kd.R_new' ho0 (Kd.R_lt (r2_ (Kd.R_mono (Kd.R_far (p := ⟨gb453, 1, none⟩) (Kd.R_far (p := ⟨gb453, 0, none⟩) (Kd.R_types HO447.out BK453.out (by decide)) (fun _ hk => hk.2) (.slice Ao17 t454.length co17)) (fun _ hk => hk.2) (.slice Ao19 t457.length co19)) (fun _ h_ => h_.1))))) (Kd.R_lt (r2_ (Kd.R_mono (Kd.R_far (p := ⟨gb453, 1, none⟩) (Kd.R_far (p := ⟨gb453, 0, none⟩) (Kd.R_types HO456.out BK453.out (by decide)) (fun _ hk => hk.2) (.slice Ao17 t454.length co17)) (fun _ hk => hk.2) (.slice Ao19 t457.length co19)) (fun _ h_ => h_.1))))) (bz_ (b_ HB))); have n5_ := mk0 (Kd.R_lower (Kd.R_new' (Kd.R_new' ho1 (Kd.R_lt (r2_ (Kd.R_mono (Kd.R_far (p := ⟨gb453, 1, none⟩) (Kd.R_far (p := ⟨gb453, 0, none⟩) (Kd.R_types HO450.out BK453.out (by decide)) (fun _ hk => hk.2) (.slice Ao17 t454.length co17)) (fun _ hk => hk.2) (.slice Ao19 t457.length co19)) (fun _ h_ => h_.1))))) (Kd.R_lt (r2_ (Kd.R_mono (Kd.R_far (p := ⟨gb453, 1, none⟩) (Kd.R_far (p := ⟨gb453, 0, none⟩) (Kd.R_types HO459.out BK453.out (by decide)) (fun _ hk => hk.2) (.slice Ao17 t454.length co17)) (fun _ hk => hk.2) (.slice Ao19 t457.length co19)) (fun _ h_ => h_.1))))) (bz_ (b_ HB))); replace BK453 := mk0 (blk_below (g := gb453) (o := .cells #[.slice Ao17 t454.length co17, .slice Ao19 t457.length co19] 34 (0, 0)) (pu_ (cs := #[.slice Ao17 t454.length co17, .slice Ao15 t448.length co15]) (pu_ (cs := #[.slice Ao13 t445.length co13, .slice Ao15 t448.length co15]) (h_ BK453))) hb); replace HB := mk0 (bt_ (b_ HB) hb); clear HO447 HO450 HO456 HO459; have HO447 := n0_; have HO450 := n1_; have HO456 := n2_; have HO459 := n3_; have HO463 := n4_; have HO466 := n5_; clear n0_ n1_ n2_ n3_ n4_ n5_; (try clear hb); (try clear ho0); (try clear ho1); obtain ⟨Ao21, co21, eo21⟩ := Kd.R_slice HO463.out; subst eo21; obtain ⟨hcz22_0, hcz22_1, hfz22_0, hfz22_1⟩ := c2_ BK453; obtain ⟨Ao23, co23, eo23⟩ := Kd.R_slice HO466.out; subst eo23) | ((with_reducible refine gate_callee (f := 63) rfl ?_); refine gL_ (some 25) Try.func63 #[.int .i64 t452] (h := ?_); (with_reducible refine (quorumlaw10_num.calls t452 t468 _ A4.out).mono ?_); rintro e w' ⟨rfl, ⟨nd, rfl⟩⟩; refine ⟨_, rfl, ?_⟩) | (go_at_call 63; (with_reducible refine (quorumlaw10_num.calls t460 t469 _ A6.out).mono ?_); rintro e w' ⟨rfl, ⟨nd, rfl⟩⟩) | (go_at_call 63; (with_reducible refine (quorumlaw10_num.calls t467 t470 _ A8.out).mono ?_); rintro e w' ⟨rfl, ⟨nd, rfl⟩⟩) | ((with_reducible refine gate_callee (f := 63) rfl ?_); refine gL_ (some 25) Try.func63 #[.int .i64 t452] (h := ?_); (with_reducible refine (quorumlaw10_num.calls t452 t468 _ A4.out).mono ?_); rintro e w' ⟨rfl, ⟨nd, rfl⟩⟩; refine ⟨_, rfl, ?_⟩) | (go_at_call 63; (with_reducible refine (quorumlaw10_num.calls t460 t469 _ A6.out).mono ?_); rintro e w' ⟨rfl, ⟨nd, rfl⟩⟩) | ((with_reducible refine gate_callee (f := 63) rfl ?_); refine gL_ (some 25) Try.func63 #[.int .i64 t452] (h := ?_); (with_reducible refine (quorumlaw10_num.calls t452 t468 _ A4.out).mono ?_); rintro e w' ⟨rfl, ⟨nd, rfl⟩⟩; refine ⟨_, rfl, ?_⟩))
 ·go_ret
  exact ⟨by first | rfl | (simp [errW_none, errW_some] <;> rfl) | (simp [*, errW_none, errW_some] <;> rfl), b_ HB⟩
 ·go_ret
  exact ⟨by first | rfl | (simp [errW_none, errW_some] <;> rfl) | (simp [*, errW_none, errW_some] <;> rfl), b_ HB⟩
 ·go_ret
  exact ⟨by first | rfl | (simp [errW_none, errW_some] <;> rfl) | (simp [*, errW_none, errW_some] <;> rfl), b_ HB⟩
 ·go_ret
  exact ⟨by first | rfl | (simp [errW_none, errW_some] <;> rfl) | (simp [*, errW_none, errW_some] <;> rfl), b_ HB⟩
 ·go_ret
  exact ⟨by first | rfl | (simp [errW_none, errW_some] <;> rfl) | (simp [*, errW_none, errW_some] <;> rfl), b_ HB⟩

/-! ### quorumlaw10_PendExact: function 5 -/
mutual
def quorumlaw10_PendExact.l0 : Nat → Int → List (S36) → List Int → List (S62) → List (S36) → List Int → Option (Bool)
 | 0, _, _, _, _, _, _ => none
 | k + 1, x4, x472000, x472001, x472002, x480000, x480001 => if x4 < (x472002.length : Int) then (quorumlaw10_PendExact.j1 k x4 (decide (x4 < 20)) x472000 x472001 x472002 x480000 x480001) else (quorumlaw10_PendExact.j1 k x4 false x472000 x472001 x472002 x480000 x480001)
def quorumlaw10_PendExact.j1 : Nat → Int → Bool → List (S36) → List Int → List (S62) → List (S36) → List Int → Option (Bool)
 | 0, _, _, _, _, _, _, _ => none
 | k + 1, x4, x20, x472000, x472001, x472002, x480000, x480001 => if x20 = true then (if 0 ≤ x4 then (if x4 < (x472002.length : Int) then ((quorumlaw10_step.f k x480000 x480001 ((rd_T62 x472002 x4).f0) ((rd_T62 x472002 x4).f1) ((rd_T62 x472002 x4).f2.f0) ((rd_T62 x472002 x4).f2.f1) ((rd_T62 x472002 x4).f2.f2) ((rd_T62 x472002 x4).f2.f3)).bind fun bt481 => (if bt481.2.2 = true then (quorumlaw10_PendExact.l0 k (wrap64 (x4 + 1)) x472000 x472001 x472002 bt481.1 bt481.2.1) else (some false))) else (none)) else (none)) else ((quorumlaw10_wakes.f k).bind fun t489 => (some t489))
end
def quorumlaw10_PendExact.f (k : Nat) (l0_0 : List (S36)) (l0_1 : List Int) (l0_2 : List (S62)) : Option (Bool) := (quorumlaw10_Heavy.f k l0_0 l0_1 l0_2).bind fun t472 => (if t472 = true then (some true) else ((quorumref0_CopyPend.f k l0_0 l0_1).bind fun bt473 => (quorumlaw10_PendExact.l0 k 0 l0_0 l0_1 l0_2 bt473.1 bt473.2)))
theorem quorumlaw10_PendExact.mono_l : ∀ k, (∀ y0 y1 y2 y3 y4 y5, LeO (quorumlaw10_PendExact.l0 k y0 y1 y2 y3 y4 y5) (quorumlaw10_PendExact.l0 (k + 1) y0 y1 y2 y3 y4 y5)) ∧ (∀ y0 y1 y2 y3 y4 y5 y6, LeO (quorumlaw10_PendExact.j1 k y0 y1 y2 y3 y4 y5 y6) (quorumlaw10_PendExact.j1 (k + 1) y0 y1 y2 y3 y4 y5 y6))
 | 0 => ⟨fun _ _ _ _ _ _ r h => by simp [quorumlaw10_PendExact.l0] at h, fun _ _ _ _ _ _ _ r h => by simp [quorumlaw10_PendExact.j1] at h⟩
 | k + 1 => by
  obtain ⟨ih0, ih1⟩ := quorumlaw10_PendExact.mono_l k
  refine ⟨?_, ?_⟩
  ·intro y0 y1 y2 y3 y4 y5
   unfold quorumlaw10_PendExact.l0
   repeat' first
   | (with_reducible exact ih0 _ _ _ _ _ _)
   | (with_reducible exact ih1 _ _ _ _ _ _ _)
   | (with_reducible exact quorumlaw10_Heavy.mono _ _ _ _)
   | (with_reducible exact quorumlaw10_step.mono _ _ _ _ _ _ _ _ _)
   | (with_reducible exact quorumlaw10_wakes.mono _)
   | (with_reducible exact quorumref0_CopyPend.mono _ _ _)
   | (with_reducible exact LeO.refl _)
   | (with_reducible exact LeO.none _)
   | (with_reducible refine LeO.ite ?_ ?_)
   | (with_reducible refine LeO.bind ?_ (fun _ => ?_))
   | exact ih0 _ _ _ _ _ _
   | exact ih1 _ _ _ _ _ _ _
   | exact quorumlaw10_Heavy.mono _ _ _ _
   | exact quorumlaw10_step.mono _ _ _ _ _ _ _ _ _
   | exact quorumlaw10_wakes.mono _
   | exact quorumref0_CopyPend.mono _ _ _
   | exact LeO.none _
   | refine LeO.ite ?_ ?_
   | refine LeO.bind ?_ (fun _ => ?_)
  ·intro y0 y1 y2 y3 y4 y5 y6
   unfold quorumlaw10_PendExact.j1
   repeat' first
   | (with_reducible exact ih0 _ _ _ _ _ _)
   | (with_reducible exact ih1 _ _ _ _ _ _ _)
   | (with_reducible exact quorumlaw10_Heavy.mono _ _ _ _)
   | (with_reducible exact quorumlaw10_step.mono _ _ _ _ _ _ _ _ _)
   | (with_reducible exact quorumlaw10_wakes.mono _)
   | (with_reducible exact quorumref0_CopyPend.mono _ _ _)
   | (with_reducible exact LeO.refl _)
   | (with_reducible exact LeO.none _)
   | (with_reducible refine LeO.ite ?_ ?_)
   | (with_reducible refine LeO.bind ?_ (fun _ => ?_))
   | exact ih0 _ _ _ _ _ _
   | exact ih1 _ _ _ _ _ _ _
   | exact quorumlaw10_Heavy.mono _ _ _ _
   | exact quorumlaw10_step.mono _ _ _ _ _ _ _ _ _
   | exact quorumlaw10_wakes.mono _
   | exact quorumref0_CopyPend.mono _ _ _
   | exact LeO.none _
   | refine LeO.ite ?_ ?_
   | refine LeO.bind ?_ (fun _ => ?_)
theorem quorumlaw10_PendExact.mono : ∀ a0 a1 a2 k, LeO (quorumlaw10_PendExact.f k a0 a1 a2) (quorumlaw10_PendExact.f (k + 1) a0 a1 a2) := by
 intro a0 a1 a2 k
 obtain ⟨ih0, ih1⟩ := quorumlaw10_PendExact.mono_l k
 unfold quorumlaw10_PendExact.f
 repeat' first
   | (with_reducible exact ih0 _ _ _ _ _ _)
   | (with_reducible exact ih1 _ _ _ _ _ _ _)
   | (with_reducible exact quorumlaw10_Heavy.mono _ _ _ _)
   | (with_reducible exact quorumlaw10_step.mono _ _ _ _ _ _ _ _ _)
   | (with_reducible exact quorumlaw10_wakes.mono _)
   | (with_reducible exact quorumref0_CopyPend.mono _ _ _)
   | (with_reducible exact LeO.refl _)
   | (with_reducible exact LeO.none _)
   | (with_reducible refine LeO.ite ?_ ?_)
   | (with_reducible refine LeO.bind ?_ (fun _ => ?_))
   | exact ih0 _ _ _ _ _ _
   | exact ih1 _ _ _ _ _ _ _
   | exact quorumlaw10_Heavy.mono _ _ _ _
   | exact quorumlaw10_step.mono _ _ _ _ _ _ _ _ _
   | exact quorumlaw10_wakes.mono _
   | exact quorumref0_CopyPend.mono _ _ _
   | exact LeO.none _
   | refine LeO.ite ?_ ?_
   | refine LeO.bind ?_ (fun _ => ?_)
def quorumlaw10_PendExact.T7 : Bool × List (List Nat × List Nat) := (true, [([], []), ([], []), ([1], [1]), ([], []), ([2, 3], [2, 3]), ([4], [4]), ([0, 5], [0, 5]), ([6], [6]), ([7], [7]), ([7], [7]), ([], []), ([10, 8, 6, 0, 1, 2, 3, 4, 5, 6, 7, 8, 10], [8, 10]), ([9, 11, 0, 1, 2, 3, 4, 5, 6, 7, 8, 9, 10, 11], [9])])
def quorumlaw10_PendExact.B7 : List Nat := [0, 0, 2, 0, 14, 30, 63, 127, 255, 255, 0, 1535, 4095]
theorem quorumlaw10_PendExact.tab7 : rtab .any (opsOf Try.f5 7) = quorumlaw10_PendExact.T7 := by kernel_rfl
theorem quorumlaw10_PendExact.bits7 : waitsOk quorumlaw10_PendExact.T7.2 quorumlaw10_PendExact.B7 = true := by kernel_rfl
set_option maxHeartbeats 8000000 in
set_option maxRecDepth 100000 in
theorem quorumlaw10_PendExact.calls (k : Nat) (A0_0 : Option Addr) (c0_0 : Nat) (l0_0 : List (S36)) (A0_1 : Option Addr) (c0_1 : Nat) (l0_1 : List Int) (A0_2 : Option Addr) (c0_2 : Nat) (l0_2 : List (S62)) (r : Bool) (w : World) (hr0_0 : Kd.C k36 w A0_0 l0_0.length l0_0) (hc0_0 : l0_0.length ≤ c0_0) (hr0_1 : Kd.C (Kd.int .i64) w A0_1 l0_1.length l0_1) (hc0_1 : l0_1.length ≤ c0_1) (hr0_2 : Kd.C k62 w A0_2 l0_2.length l0_2) (hc0_2 : l0_2.length ≤ c0_2) (h : quorumlaw10_PendExact.f k l0_0 l0_1 l0_2 = some r) :
  Calls Try.prog 5 #[.agg #[.slice A0_0 l0_0.length c0_0, .slice A0_1 l0_1.length c0_1, .slice A0_2 l0_2.length c0_2]] w fun e w' => e = .returned (.bool r) ∧ Below w.heap.size w w' := by
 have hu56 := Try.underlying56
 have hu34 := Try.underlying34
 have hu62 := Try.underlying62
 have HR0_0 := mk0 hr0_0
 have HC0_0 := mk0 hc0_0
 clear hr0_0 hc0_0
 have HR0_1 := mk0 hr0_1
 have HC0_1 := mk0 hc0_1
 clear hr0_1 hc0_1
 have HR0_2 := mk0 hr0_2
 have HC0_2 := mk0 hc0_2
 clear hr0_2 hc0_2
 have HB := mk0 (Below.refl w.heap.size w)
 have H : ((quorumlaw10_Heavy.f k l0_0 l0_1 l0_2).bind fun t472 => (if t472 = true then (some true) else ((quorumref0_CopyPend.f k l0_0 l0_1).bind fun bt473 => (quorumlaw10_PendExact.l0 k 0 l0_0 l0_1 l0_2 bt473.1 bt473.2)))) = some r := h
 clear h
 replace H := Option.bind_eq_some_iff.mp H
 obtain ⟨t472, A20, H⟩ := H
 try dsimp only at H
 have A2 := mk0 A20
 clear A20
 by_cases c3 : t472 = true
 ·subst c3
  rw [if_pos rfl] at H
  obtain rfl := Option.some.inj H
  go_enter Try.func5, Try.ntmps5
  go_wp2_with (first | ((with_reducible refine gate_dst (N := 1) rfl ?_); refine bx_ (N := 1) (cs := #[.slice A0_0 l0_0.length c0_0, .slice A0_1 l0_1.length c0_1, .slice A0_2 l0_2.length c0_2]) (t := 56) (h := ?_); intro gb471 hg w4 hbox hb; have n2_ := mk0 (gz_ HB hg); have n3_ := mk0 (gz_ HB hg); replace HB := mk0 (bt_ (b_ HB) hb); have BK471 := mk0 (hbox); have GW471 := n2_; have GE471 := n3_; clear n2_ n3_ hb hbox hg; obtain ⟨hcz5_0, hcz5_1, hcz5_2, hfz5_0, hfz5_1, hfz5_2⟩ := c3_ BK471) | ((with_reducible refine gate_callee (f := 23) rfl ?_); refine gL_ (some 8) Try.func23 #[.agg #[.slice A0_0 l0_0.length c0_0, .slice A0_1 l0_1.length c0_1, .slice A0_2 l0_2.length c0_2]] (h := ?_); (with_reducible refine (quorumlaw10_Heavy.calls k _ _ l0_0 _ _ l0_1 _ _ l0_2 true _ ?side1 ?side2 ?side3 ?side4 ?side5 ?side6 A2.out).mono ?_); (case side1 => exact cb_ HR0_0 HB); (case side2 => exact HC0_0.out); (case side3 => exact cb_ HR0_1 HB); (case side4 => exact HC0_1.out); (case side5 => exact cb_ HR0_2 HB); (case side6 => exact HC0_2.out); rintro e w6 ⟨rfl, hb⟩; refine ⟨_, rfl, ?_⟩; replace BK471 := mk0 (u_ BK471 hb); replace HB := mk0 (bt_ (b_ HB) hb); (try clear hb)))
  go_ret
  exact ⟨by first | rfl | (simp [errW_none, errW_some] <;> rfl) | (simp [*, errW_none, errW_some] <;> rfl), b_ HB⟩
 ·replace c3 := Bool.eq_false_iff.mpr c3
  subst c3
  rw [if_neg (show ¬ (false = true) by decide)] at H
  replace H := Option.bind_eq_some_iff.mp H
  obtain ⟨⟨t473, t476⟩, A70, H⟩ := H
  try dsimp only at H
  have A7 := mk0 A70
  clear A70
  have H' := mk0 H
  clear H
  go_enter Try.func5, Try.ntmps5
  go_wp2_with (first | ((with_reducible refine gate_dst (N := 1) rfl ?_); refine bx_ (N := 1) (cs := #[.slice A0_0 l0_0.length c0_0, .slice A0_1 l0_1.length c0_1, .slice A0_2 l0_2.length c0_2]) (t := 56) (h := ?_); intro gb471 hg w8 hbox hb; have n2_ := mk0 (gz_ HB hg); have n3_ := mk0 (gz_ HB hg); replace HB := mk0 (bt_ (b_ HB) hb); have BK471 := mk0 (hbox); have GW471 := n2_; have GE471 := n3_; clear n2_ n3_ hb hbox hg; obtain ⟨hcz9_0, hcz9_1, hcz9_2, hfz9_0, hfz9_1, hfz9_2⟩ := c3_ BK471) | ((with_reducible refine gate_callee (f := 23) rfl ?_); refine gL_ (some 8) Try.func23 #[.agg #[.slice A0_0 l0_0.length c0_0, .slice A0_1 l0_1.length c0_1, .slice A0_2 l0_2.length c0_2]] (h := ?_); (with_reducible refine (quorumlaw10_Heavy.calls k _ _ l0_0 _ _ l0_1 _ _ l0_2 false _ ?side1 ?side2 ?side3 ?side4 ?side5 ?side6 A2.out).mono ?_); (case side1 => exact cb_ HR0_0 HB); (case side2 => exact HC0_0.out); (case side3 => exact cb_ HR0_1 HB); (case side4 => exact HC0_1.out); (case side5 => exact cb_ HR0_2 HB); (case side6 => exact HC0_2.out); rintro e w10 ⟨rfl, hb⟩; refine ⟨_, rfl, ?_⟩; replace BK471 := mk0 (u_ BK471 hb); replace HB := mk0 (bt_ (b_ HB) hb); (try clear hb); obtain ⟨hcz11_0, hcz11_1, hcz11_2, hfz11_0, hfz11_1, hfz11_2⟩ := c3_ BK471) | ((with_reducible refine gate_callee (f := 24) rfl ?_); refine gL_ (some 11) Try.func24 #[.agg #[.slice A0_0 l0_0.length c0_0, .slice A0_1 l0_1.length c0_1]] (h := ?_); (with_reducible refine (quorumref0_CopyPend.calls k _ _ l0_0 _ _ l0_1 t473 t476 _ ?side1 ?side2 ?side3 ?side4 A7.out).mono ?_); (case side1 => exact cb_ HR0_0 HB); (case side2 => exact HC0_0.out); (case side3 => exact cb_ HR0_1 HB); (case side4 => exact HC0_1.out); rintro e w12 ⟨v474, v477, rfl, ho0, ho1, hb⟩; refine ⟨_, rfl, ?_⟩; have n0_ := mk0 (Kd.R_lower ho0 (bz_ (b_ HB))); have n1_ := mk0 (Kd.R_lower ho1 (bz_ (b_ HB))); replace BK471 := mk0 (u_ BK471 hb); replace HB := mk0 (bt_ (b_ HB) hb); have HO475 := n0_; have HO478 := n1_; clear n0_ n1_; (try clear hb); (try clear ho0); (try clear ho1)) | ((with_reducible refine gate_dst (N := 3) rfl ?_); refine bx_ (N := 3) (cs := #[.slice none 0 0, .slice none 0 0]) (t := 34) (h := ?_); intro gb479 hg w13 hbox hb; have n5_ := mk0 (gz_ HB hg); have n6_ := mk0 (gz_ HB hg); have n7_ := mk0 (ne1_ BK471 hg); have n8_ := mk0 (ne2_ BK471 hg); replace HO475 := mk0 (Kd.R_below (r_ HO475) hb); replace HO478 := mk0 (Kd.R_below (r_ HO478) hb); replace BK471 := mk0 (u_ BK471 hb); replace HB := mk0 (bt_ (b_ HB) hb); have BK479 := mk0 (hbox); have GW479 := n5_; have GE479 := n6_; have NB471_479 := n7_; have NB479_471 := n8_; clear n5_ n6_ n7_ n8_ hb hbox hg; obtain ⟨Ao14, co14, eo14⟩ := Kd.R_slice HO475.out; subst eo14; have hnb15 := NB479_471.out; have hnc15 := NB471_479.out; obtain ⟨hcz16_0, hcz16_1, hfz16_0, hfz16_1⟩ := c2_ BK479; obtain ⟨Ao17, co17, eo17⟩ := Kd.R_slice HO478.out; subst eo17))
  go_loopg [4] k (fun kq v4 w' => ∃ (x4_1 : Int) (x480000_1 : List (S36)) (x480001_1 : List Int) (u480000 : Value) (u480001 : Value), v4 = .int .i64 x4_1 ∧ Fc (quorumlaw10_PendExact.l0 kq x4_1 l0_0 l0_1 l0_2 x480000_1 x480001_1 = some r) ∧ Fc (kq ≤ k) ∧ Fc (Kd.V k36 36 w' w.heap.size (fun k_ => k_ ≠ gb471 ∧ k_ ≠ gb479) u480000 x480000_1) ∧ Fc (Kd.V (Kd.int .i64) 3 w' w.heap.size (fun k_ => k_ ≠ gb471 ∧ k_ ≠ gb479) u480001 x480001_1) ∧ Fc (w'.heap[gb471]? = some (.cells #[(.slice A0_0 l0_0.length c0_0), (.slice A0_1 l0_1.length c0_1), (.slice A0_2 l0_2.length c0_2)] 56 (0, 0))) ∧ Fc (w'.heap[gb479]? = some (.cells #[u480000, u480001] 34 (0, 0))) ∧ Fc (Below w.heap.size w w'))
  case atStart => exact ⟨(0), (t473), (t476), (.slice Ao14 t473.length co14), (.slice Ao17 t476.length co17), (by first | rfl | (simp; done) | (simp [*]; done)), H', ⟨Nat.le_refl _⟩, ⟨Kd.R_V (r2_ (Kd.R_mono (Kd.R_far (p := ⟨gb479, 1, none⟩) (Kd.R_far (p := ⟨gb479, 0, none⟩) (Kd.R_types (Kd.R_types (Kd.R_types HO475.out BK471.out (by decide)) BK479.out (by decide)) BK479.out (by decide)) (fun _ hk => hk.2) (.slice Ao14 t473.length co14)) (fun _ hk => hk.2) (.slice Ao17 t476.length co17)) (fun _ hk => ⟨hk.1.1.2, hk.1.2⟩)))⟩, ⟨Kd.R_V (r2_ (Kd.R_mono (Kd.R_far (p := ⟨gb479, 1, none⟩) (Kd.R_far (p := ⟨gb479, 0, none⟩) (Kd.R_types (Kd.R_types (Kd.R_types HO478.out BK471.out (by decide)) BK479.out (by decide)) BK479.out (by decide)) (fun _ hk => hk.2) (.slice Ao14 t473.length co14)) (fun _ hk => hk.2) (.slice Ao17 t476.length co17)) (fun _ hk => ⟨hk.1.1.2, hk.1.2⟩)))⟩, ⟨(fa_ (fa_ (h_ BK471) NB471_479.out) NB471_479.out)⟩, ⟨(pu_ (cs := #[.slice Ao14 t473.length co14, .slice none 0 0]) (pu_ (cs := #[.slice none 0 0, .slice none 0 0]) (h_ BK479)))⟩, ⟨b_ HB⟩⟩
  case round =>
   clear H'
   try clear c3
   try clear hcz11_0
   try clear hcz11_1
   try clear hcz11_2
   try clear hcz16_0
   try clear hcz16_1
   try clear hcz5_0
   try clear hcz5_1
   try clear hcz5_2
   try clear hcz9_0
   try clear hcz9_1
   try clear hcz9_2
   try clear hfz11_0
   try clear hfz11_1
   try clear hfz11_2
   try clear hfz16_0
   try clear hfz16_1
   try clear hfz5_0
   try clear hfz5_1
   try clear hfz5_2
   try clear hfz9_0
   try clear hfz9_1
   try clear hfz9_2
   obtain ⟨x4_1, x480000_1, x480001_1, u480000, u480001, rfl, HA, HK1, HO_480000, HO_480001, BK471, BK479, HB⟩ := hrel
   cases gk with
   | zero => exact absurd HA.out (by simp [quorumlaw10_PendExact.l0])
   | succ k1 =>
    have H := HA.out
    clear HA
    simp only [quorumlaw10_PendExact.l0] at H
    as_aux_lemma =>
     have HC18 := mk0 H
     clear H
     go_upto_region 5 with (fail)
     go_cut [20] (fun v20 wc => ∃ (kq : Nat) (x20_17 : Bool), v20 = .bool x20_17 ∧ Fc (quorumlaw10_PendExact.j1 kq x4_1 x20_17 l0_0 l0_1 l0_2 x480000_1 x480001_1 = some r) ∧ Fc (kq ≤ k1) ∧ Fc (Kd.V k36 36 wc w.heap.size (fun k_ => k_ ≠ gb471 ∧ k_ ≠ gb479) u480000 x480000_1) ∧ Fc (Kd.V (Kd.int .i64) 3 wc w.heap.size (fun k_ => k_ ≠ gb471 ∧ k_ ≠ gb479) u480001 x480001_1) ∧ Fc (wc.heap[gb471]? = some (.cells #[(.slice A0_0 l0_0.length c0_0), (.slice A0_1 l0_1.length c0_1), (.slice A0_2 l0_2.length c0_2)] 56 (0, 0))) ∧ Fc (wc.heap[gb479]? = some (.cells #[u480000, u480001] 34 (0, 0))) ∧ Fc (Below w.heap.size w wc))
     case first =>
      have H := HC18.out
      clear HC18
      by_cases c19 : x4_1 < (l0_2.length : Int)
      ·rw [if_pos c19] at H
       have c19b0 : decide (x4_1 < (l0_2.length : Int)) = true := decide_eq_true c19
       clear c19
       (first | rw [c19b0] | (simp only [i64_w, i32_w]; rw [c19b0]) | skip)
       have H' := mk0 H
       clear H
       have hnb20 := NB471_479.out
       have hnc20 := NB479_471.out
       obtain ⟨hcz21_0, hcz21_1, hcz21_2, hfz21_0, hfz21_1, hfz21_2⟩ := c3_ BK471
       go_wp2
       go_meet
       case rel => exact ⟨_, (decide (x4_1 < 20)), (by first | rfl | (simp; done) | (simp [*]; done)), H', ⟨by have := HK1.out; first | omega | exact Nat.le_refl _⟩, ⟨by (with_reducible repeat (first | apply Kd.V_alloc | apply Kd.V_drewN | apply Kd.V_drew)); exact HO_480000.out⟩, ⟨by (with_reducible repeat (first | apply Kd.V_alloc | apply Kd.V_drewN | apply Kd.V_drew)); exact HO_480001.out⟩, ⟨h_ BK471⟩, ⟨h_ BK479⟩, ⟨b_ HB⟩⟩
      ·rw [if_neg c19] at H
       have c19b0 : decide (x4_1 < (l0_2.length : Int)) = false := decide_eq_false c19
       clear c19
       (first | rw [c19b0] | (simp only [i64_w, i32_w]; rw [c19b0]) | skip)
       have H' := mk0 H
       clear H
       have hnb22 := NB471_479.out
       have hnc22 := NB479_471.out
       obtain ⟨hcz23_0, hcz23_1, hcz23_2, hfz23_0, hfz23_1, hfz23_2⟩ := c3_ BK471
       go_wp2
       go_meet
       case rel => exact ⟨_, (false), (by first | rfl | (simp; done) | (simp [*]; done)), H', ⟨by have := HK1.out; first | omega | exact Nat.le_refl _⟩, ⟨by (with_reducible repeat (first | apply Kd.V_alloc | apply Kd.V_drewN | apply Kd.V_drew)); exact HO_480000.out⟩, ⟨by (with_reducible repeat (first | apply Kd.V_alloc | apply Kd.V_drewN | apply Kd.V_drew)); exact HO_480001.out⟩, ⟨h_ BK471⟩, ⟨h_ BK479⟩, ⟨b_ HB⟩⟩
     case rest =>
      clear HC18
      try clear c3
      try clear c19
      try clear c19b0
      try clear hcz11_0
      try clear hcz11_1
      try clear hcz11_2
      try clear hcz16_0
      try clear hcz16_1
      try clear hcz21_0
      try clear hcz21_1
      try clear hcz21_2
      try clear hcz23_0
      try clear hcz23_1
      try clear hcz23_2
      try clear hcz5_0
      try clear hcz5_1
      try clear hcz5_2
      try clear hcz9_0
      try clear hcz9_1
      try clear hcz9_2
      try clear hfz11_0
      try clear hfz11_1
      try clear hfz11_2
      try clear hfz16_0
      try clear hfz16_1
      try clear hfz21_0
      try clear hfz21_1
      try clear hfz21_2
      try clear hfz23_0
      try clear hfz23_1
      try clear hfz23_2
      try clear hfz5_0
      try clear hfz5_1
      try clear hfz5_2
      try clear hfz9_0
      try clear hfz9_1
      try clear hfz9_2
      obtain ⟨kq, x20_17, rfl, HA, HJ17, HO_480000, HO_480001, BK471, BK479, HB⟩ := hcut
      cases kq with
      | zero => exact absurd HA.out (by simp [quorumlaw10_PendExact.j1])
      | succ kj17 =>
       have H := HA.out
       clear HA
       simp only [quorumlaw10_PendExact.j1] at H
       as_aux_lemma =>
        by_cases c24 : x20_17 = true
        ·subst c24
         rw [if_pos rfl] at H
         by_cases c25 : 0 ≤ x4_1
         ·rw [if_pos c25] at H
          have c25b0 : decide (0 ≤ x4_1) = true := decide_eq_true c25
          clear c25
          by_cases c26 : x4_1 < (l0_2.length : Int)
          ·rw [if_pos c26] at H
           have c26b0 : decide (x4_1 < (l0_2.length : Int)) = true := decide_eq_true c26
           clear c26
           replace H := Option.bind_eq_some_iff.mp H
           obtain ⟨⟨t481, t484, t487⟩, A270, H⟩ := H
           try dsimp only at H
           have A27 := mk0 A270
           clear A270
           by_cases c28 : t487 = true
           ·subst c28
            rw [if_pos rfl] at H
            have H' := mk0 H
            clear H
            obtain ⟨Ao29, co29, eo29⟩ := Kd.V_slice HO_480000.out
            subst eo29
            obtain ⟨Ao30, co30, eo30⟩ := Kd.V_slice HO_480001.out
            subst eo30
            try go_wp2
            replace HO_480000 := mk0 (Kd.V_drew HO_480000.out)
            replace HO_480001 := mk0 (Kd.V_drew HO_480001.out)
            replace BK471 := mk0 (bD_ BK471.out)
            replace BK479 := mk0 (bD_ BK479.out)
            replace HB := mk0 (b1_ HB.out)
            have p480 : 0 ≤ (x4_1 : Int) := of_decide_eq_true (by first | (with_reducible assumption) | assumption)
            have q480 : x4_1 < (l0_2.length : Int) := of_decide_eq_true (by first | (with_reducible assumption) | assumption)
            obtain ⟨ad480, e480, hx480_0, hx480_1, hx480_2, hx480_3, hx480_4, hx480_5⟩ := at_T62 HR0_2.out x4_1 p480 q480
            have hw480_5 := hx480_5
            have hw480_4 := hx480_4
            have hw480_3 := hx480_3
            have hw480_2 := hx480_2
            have hw480_1 := hx480_1
            have hw480_0 := hx480_0
            cases e480
            replace hx480_0 := (bc_ HB hx480_0 :)
            replace hx480_1 := (bc_ HB hx480_1 :)
            replace hx480_2 := (bc_ HB hx480_2 :)
            replace hx480_3 := (bc_ HB hx480_3 :)
            replace hx480_4 := (bc_ HB hx480_4 :)
            replace hx480_5 := (bc_ HB hx480_5 :)
            replace p480 := eq_true p480
            replace q480 := eq_true q480
            refine start_ (n := 13) (S := fun w' => w'.cell? ⟨gb479, 0, none⟩ = some (.slice Ao29 x480000_1.length co29) ∧ w'.cell? ⟨gb479, 1, none⟩ = some (.slice Ao30 x480001_1.length co30) ∧ w'.cell? ⟨gb471, 0, none⟩ = some (.slice A0_0 l0_0.length c0_0) ∧ w'.cell? ⟨gb471, 1, none⟩ = some (.slice A0_1 l0_1.length c0_1) ∧ w'.cell? ⟨gb471, 2, none⟩ = some (.slice (some ad480) l0_2.length c0_2) ∧ w'.cell? (ad480.add ((x4_1).toNat * 6)) = some (.int .i64 ((rd_T62 l0_2 x4_1).f0)) ∧ w'.cell? ⟨(ad480.add ((x4_1).toNat * 6)).block, (ad480.add ((x4_1).toNat * 6)).off + 1, none⟩ = some (.int .i64 ((rd_T62 l0_2 x4_1).f1)) ∧ w'.cell? ⟨(ad480.add ((x4_1).toNat * 6)).block, (ad480.add ((x4_1).toNat * 6)).off + 2, none⟩ = some (.int .i64 ((rd_T62 l0_2 x4_1).f2.f0)) ∧ w'.cell? ⟨(ad480.add ((x4_1).toNat * 6)).block, (ad480.add ((x4_1).toNat * 6)).off + 3, none⟩ = some (.string ((rd_T62 l0_2 x4_1).f2.f1)) ∧ w'.cell? ⟨(ad480.add ((x4_1).toNat * 6)).block, (ad480.add ((x4_1).toNat * 6)).off + 4, none⟩ = some (.string ((rd_T62 l0_2 x4_1).f2.f2)) ∧ w'.cell? ⟨(ad480.add ((x4_1).toNat * 6)).block, (ad480.add ((x4_1).toNat * 6)).off + 5, none⟩ = some (.bool ((rd_T62 l0_2 x4_1).f2.f3))) (ds := []) (bt 13 0) (by kernel_rfl) rfl rfl ⟨bk_ BK479 0, bk_ BK479 1, bk_ BK471 0, bk_ BK471 1, bk_ BK471 2, ((bc_ HB hw480_0 :)), ((bc_ HB hw480_1 :)), ((bc_ HB hw480_2 :)), ((bc_ HB hw480_3 :)), ((bc_ HB hw480_4 :)), ((bc_ HB hw480_5 :))⟩ (fun hHeld => ?_); refine with_tabW quorumlaw10_PendExact.tab7 quorumlaw10_PendExact.bits7 (fun HT_ HW_ => ?_)
            generalize wc.drew = w31 at HO_480000 HO_480001 BK471 BK479 HB hx480_0 hx480_1 hx480_2 hx480_3 hx480_4 hx480_5 hHeld ⊢
            refine pq_ HT_.out 1 25 (bt 13 2) (h := ?_)
            refine pq_ HT_.out 3 27 (bt 13 10) (h := ?_)
            refine tq11_ HT_.out HW_.out 0 24 (bt 13 11) hHeld (h := ?_)
            refine tq11_ HT_.out HW_.out 2 26 (bt 13 15) hHeld (h := ?_)
            refine pq_ HT_.out 4 28 (bt 13 31) (h := ?_)
            refine tq11_ HT_.out HW_.out 5 29 (bt 13 63) hHeld (h := ?_)
            refine join_ (σ := Value × Value × Nat) 2 (bt 13 2047) (fun s_ => [(30, .tuple #[.agg #[s_.1, s_.2.1], .bool true]), (5, .pointer (some ⟨s_.2.2, 0, none⟩)), (23, .tuple #[.agg #[s_.1, s_.2.1], .bool true]), (31, .agg #[s_.1, s_.2.1]), (32, .bool true)]) (fun s_ w' => (w'.cell? ⟨gb479, 0, none⟩ = some (.slice Ao29 x480000_1.length co29) ∧ w'.cell? ⟨gb479, 1, none⟩ = some (.slice Ao30 x480001_1.length co30) ∧ w'.cell? ⟨gb471, 0, none⟩ = some (.slice A0_0 l0_0.length c0_0) ∧ w'.cell? ⟨gb471, 1, none⟩ = some (.slice A0_1 l0_1.length c0_1) ∧ w'.cell? ⟨gb471, 2, none⟩ = some (.slice (some ad480) l0_2.length c0_2) ∧ w'.cell? (ad480.add ((x4_1).toNat * 6)) = some (.int .i64 ((rd_T62 l0_2 x4_1).f0)) ∧ w'.cell? ⟨(ad480.add ((x4_1).toNat * 6)).block, (ad480.add ((x4_1).toNat * 6)).off + 1, none⟩ = some (.int .i64 ((rd_T62 l0_2 x4_1).f1)) ∧ w'.cell? ⟨(ad480.add ((x4_1).toNat * 6)).block, (ad480.add ((x4_1).toNat * 6)).off + 2, none⟩ = some (.int .i64 ((rd_T62 l0_2 x4_1).f2.f0)) ∧ w'.cell? ⟨(ad480.add ((x4_1).toNat * 6)).block, (ad480.add ((x4_1).toNat * 6)).off + 3, none⟩ = some (.string ((rd_T62 l0_2 x4_1).f2.f1)) ∧ w'.cell? ⟨(ad480.add ((x4_1).toNat * 6)).block, (ad480.add ((x4_1).toNat * 6)).off + 4, none⟩ = some (.string ((rd_T62 l0_2 x4_1).f2.f2)) ∧ w'.cell? ⟨(ad480.add ((x4_1).toNat * 6)).block, (ad480.add ((x4_1).toNat * 6)).off + 5, none⟩ = some (.bool ((rd_T62 l0_2 x4_1).f2.f3))) ∧ (Kd.V k36 36 w' w.heap.size (fun k_ => k_ ≠ gb471 ∧ k_ ≠ gb479 ∧ k_ ≠ s_.2.2) s_.1 t481) ∧ (Kd.V (Kd.int .i64) 3 w' w.heap.size (fun k_ => k_ ≠ gb471 ∧ k_ ≠ gb479 ∧ k_ ≠ s_.2.2) s_.2.1 t484) ∧ (Kd.V k36 36 w' w.heap.size (fun k_ => k_ ≠ gb471 ∧ k_ ≠ gb479 ∧ k_ ≠ s_.2.2) (.slice Ao29 x480000_1.length co29) x480000_1) ∧ (Kd.V (Kd.int .i64) 3 w' w.heap.size (fun k_ => k_ ≠ gb471 ∧ k_ ≠ gb479 ∧ k_ ≠ s_.2.2) (.slice Ao30 x480001_1.length co30) x480001_1) ∧ (w'.heap[gb471]? = some (.cells #[.slice A0_0 l0_0.length c0_0, .slice A0_1 l0_1.length c0_1, .slice (some ad480) l0_2.length c0_2] 56 (0, 0))) ∧ (w'.heap[gb479]? = some (.cells #[.slice Ao29 x480000_1.length co29, .slice Ao30 x480001_1.length co30] 34 (0, 0))) ∧ (w'.heap[s_.2.2]? = some (.cells #[.slice none 0 0, .slice none 0 0] 34 (0, 0))) ∧ (w.heap.size ≤ s_.2.2) ∧ (w.heap.size ≤ s_.2.2) ∧ (gb471 ≠ s_.2.2) ∧ (s_.2.2 ≠ gb471) ∧ (gb479 ≠ s_.2.2) ∧ (s_.2.2 ≠ gb479) ∧ (Below w.heap.size w w')) ?_ ?_
            rotate_left
            ·intro hCont
             refine two_ (i := 6) (j := 10) (Ni := some 30) (Nj := some 5) (bt 13 127) (bt 13 1087) rfl rfl rfl rfl (two_of HT_.out (by kernel_rfl)) (by decide) (by decide) (fun K hK => ?_) (fun K hK => ?_)
             ·skip
              refine goes_ Try.func25 (by kernel_rfl) rfl #[.agg #[.slice Ao29 x480000_1.length co29, .slice Ao30 x480001_1.length co30], .agg #[.int .i64 ((rd_T62 l0_2 x4_1).f0), .int .i64 ((rd_T62 l0_2 x4_1).f1), .int .i64 ((rd_T62 l0_2 x4_1).f2.f0), .string ((rd_T62 l0_2 x4_1).f2.f1), .string ((rd_T62 l0_2 x4_1).f2.f2), .bool ((rd_T62 l0_2 x4_1).f2.f3)]] (by rfl) rfl rfl (by (try simp only [List.map_toArray, List.map_cons, List.map_nil]); first | done | rfl | (simp only [List.length_drop, List.length_take]; rfl)) ?_
              with_reducible refine (quorumlaw10_step.calls kj17 (fun k_ => (k_ ≠ gb471 ∧ k_ ≠ gb479)) _ _ x480000_1 (fun k_ => (k_ ≠ gb471 ∧ k_ ≠ gb479)) _ _ x480001_1 ((rd_T62 l0_2 x4_1).f0) ((rd_T62 l0_2 x4_1).f1) ((rd_T62 l0_2 x4_1).f2.f0) ((rd_T62 l0_2 x4_1).f2.f1) ((rd_T62 l0_2 x4_1).f2.f2) ((rd_T62 l0_2 x4_1).f2.f3) t481 t484 true _ ?side1 ?side2 A27.out).mono ?_
              (case side1 => exact HO_480000.out)
              (case side2 => exact HO_480001.out)
              rintro e w32 ⟨v482, v485, rfl, ho0, ho1, hb⟩
              refine ⟨_, rfl, ?_⟩
              have n2_ := mk0 (Kd.V_lower (Kd.V_mono (ok' := fun k_ => k_ ≠ gb471 ∧ k_ ≠ gb479) ho0 (fun k_ hk_ => ⟨Or.elim hk_ (fun hs_ => Or.elim hs_ (fun hs_ => hs_.1) (fun hs_ => hs_.1)) (fun hn_ => (Kd.freshB (g := gb471) (o := .cells #[.slice A0_0 l0_0.length c0_0, .slice A0_1 l0_1.length c0_1, .slice (some ad480) l0_2.length c0_2] 56 (0, 0)) (h_ BK471) k_ hn_)), Or.elim hk_ (fun hs_ => Or.elim hs_ (fun hs_ => hs_.2) (fun hs_ => hs_.2)) (fun hn_ => (Kd.freshB (g := gb479) (o := .cells #[.slice Ao29 x480000_1.length co29, .slice Ao30 x480001_1.length co30] 34 (0, 0)) (h_ BK479) k_ hn_))⟩)) (bz_ (b_ HB)))
              have n3_ := mk0 (Kd.V_lower (Kd.V_mono (ok' := fun k_ => k_ ≠ gb471 ∧ k_ ≠ gb479) ho1 (fun k_ hk_ => ⟨Or.elim hk_ (fun hs_ => Or.elim hs_ (fun hs_ => hs_.1) (fun hs_ => hs_.1)) (fun hn_ => (Kd.freshB (g := gb471) (o := .cells #[.slice A0_0 l0_0.length c0_0, .slice A0_1 l0_1.length c0_1, .slice (some ad480) l0_2.length c0_2] 56 (0, 0)) (h_ BK471) k_ hn_)), Or.elim hk_ (fun hs_ => Or.elim hs_ (fun hs_ => hs_.2) (fun hs_ => hs_.2)) (fun hn_ => (Kd.freshB (g := gb479) (o := .cells #[.slice Ao29 x480000_1.length co29, .slice Ao30 x480001_1.length co30] 34 (0, 0)) (h_ BK479) k_ hn_))⟩)) (bz_ (b_ HB)))
              replace HO_480000 := mk0 (Kd.V_below (v_ HO_480000) hb)
              replace HO_480001 := mk0 (Kd.V_below (v_ HO_480001) hb)
              replace BK471 := mk0 (u_ BK471 hb)
              replace BK479 := mk0 (u_ BK479 hb)
              replace HB := mk0 (bt_ (b_ HB) hb)
              have HO483 := n2_
              have HO486 := n3_
              clear n2_ n3_
              (try clear hb)
              (try clear hb2)
              (try clear hk)
              (try clear hi)
              (try clear ho0)
              (try clear ho1)
              refine hK.out _ _ ⟨bk_ BK479 0, bk_ BK479 1, bk_ BK471 0, bk_ BK471 1, bk_ BK471 2, ((bc_ HB hw480_0 :)), ((bc_ HB hw480_1 :)), ((bc_ HB hw480_2 :)), ((bc_ HB hw480_3 :)), ((bc_ HB hw480_4 :)), ((bc_ HB hw480_5 :))⟩ (fun hHeld => ?_)
              clear hK K
              refine norm_ (a' := ?_) ?_ ?_
              rotate_left
              ·show Act.put _ (some 30) _ = _
               simp only [z_]
               rfl
              refine pq_ HT_.out 7 23 (bt 13 255) (h := ?_)
              refine pq_ HT_.out 8 31 (bt 13 511) (h := ?_)
              refine pq_ HT_.out 9 32 (bt 13 1023) (h := ?_)
              refine one_ (i := 10) (N := some 5) (bt 13 2047) rfl rfl (one_of HT_.out (by kernel_rfl)) (by decide) (fun K hK => ?_)
              refine box_step ?hg (N := 5) ?hd (cs := #[.slice none 0 0, .slice none 0 0]) (t := 34) ?hr ?_; (case hd => rfl); (case hg => rfl); (case hr => first | (go_simp; done) | (go_simp; rfl))
              intro gb488 hg w33 hbox hb
              have n8_ := mk0 (gz_ HB hg)
              have n9_ := mk0 (gz_ HB hg)
              have n10_ := mk0 (ne1_ BK471 hg)
              have n11_ := mk0 (ne2_ BK471 hg)
              have n12_ := mk0 (ne1_ BK479 hg)
              have n13_ := mk0 (ne2_ BK479 hg)
              replace HO_480000 := mk0 (Kd.V_below (Kd.V_elderB (v_ HO_480000) gb488 (Nat.le_of_eq hg.symm)) hb)
              replace HO_480001 := mk0 (Kd.V_below (Kd.V_elderB (v_ HO_480001) gb488 (Nat.le_of_eq hg.symm)) hb)
              replace HO483 := mk0 (Kd.V_below (Kd.V_elderB (v_ HO483) gb488 (Nat.le_of_eq hg.symm)) hb)
              replace HO486 := mk0 (Kd.V_below (Kd.V_elderB (v_ HO486) gb488 (Nat.le_of_eq hg.symm)) hb)
              replace BK471 := mk0 (u_ BK471 hb)
              replace BK479 := mk0 (u_ BK479 hb)
              replace HB := mk0 (bt_ (b_ HB) hb)
              have BK488 := mk0 (hbox)
              have GW488 := n8_
              have GE488 := n9_
              have NB471_488 := n10_
              have NB488_471 := n11_
              have NB479_488 := n12_
              have NB488_479 := n13_
              clear n8_ n9_ n10_ n11_ n12_ n13_ hb hbox hg
              refine hK.out _ _ ⟨bk_ BK479 0, bk_ BK479 1, bk_ BK471 0, bk_ BK471 1, bk_ BK471 2, ((bc_ HB hw480_0 :)), ((bc_ HB hw480_1 :)), ((bc_ HB hw480_2 :)), ((bc_ HB hw480_3 :)), ((bc_ HB hw480_4 :)), ((bc_ HB hw480_5 :))⟩ (fun hHeld => ?_)
              clear hK K
              refine norm_ (a' := ?_) ?_ ?_
              rotate_left
              ·show Act.put _ (some 5) _ = _
               simp only [z_]
               rfl
              exact norm_ (by simp only [putAll, Act.put, List.setIfInBounds_toArray, List.set_cons_zero, List.set_cons_succ]) (hCont (v482, v485, gb488) _ ⟨hHeld, (v2_ (Kd.V_mono HO483.out (fun _ hk => ⟨hk.1.1, ⟨hk.1.2, hk.2⟩⟩))), (v2_ (Kd.V_mono HO486.out (fun _ hk => ⟨hk.1.1, ⟨hk.1.2, hk.2⟩⟩))), (v2_ (Kd.V_mono HO_480000.out (fun _ hk => ⟨hk.1.1, ⟨hk.1.2, hk.2⟩⟩))), (v2_ (Kd.V_mono HO_480001.out (fun _ hk => ⟨hk.1.1, ⟨hk.1.2, hk.2⟩⟩))), (h_ BK471), (h_ BK479), (h_ BK488), GW488.out, GE488.out, NB471_488.out, NB488_471.out, NB479_488.out, NB488_479.out, (b_ HB)⟩)
             ·skip
              refine box_step ?hg (N := 5) ?hd (cs := #[.slice none 0 0, .slice none 0 0]) (t := 34) ?hr ?_; (case hd => rfl); (case hg => rfl); (case hr => first | (go_simp; done) | (go_simp; rfl))
              intro gb488 hg w32 hbox hb
              have n6_ := mk0 (gz_ HB hg)
              have n7_ := mk0 (gz_ HB hg)
              have n8_ := mk0 (ne1_ BK471 hg)
              have n9_ := mk0 (ne2_ BK471 hg)
              have n10_ := mk0 (ne1_ BK479 hg)
              have n11_ := mk0 (ne2_ BK479 hg)
              replace HO_480000 := mk0 (Kd.V_below (Kd.V_elderB (v_ HO_480000) gb488 (Nat.le_of_eq hg.symm)) hb)
              replace HO_480001 := mk0 (Kd.V_below (Kd.V_elderB (v_ HO_480001) gb488 (Nat.le_of_eq hg.symm)) hb)
              replace BK471 := mk0 (u_ BK471 hb)
              replace BK479 := mk0 (u_ BK479 hb)
              replace HB := mk0 (bt_ (b_ HB) hb)
              have BK488 := mk0 (hbox)
              have GW488 := n6_
              have GE488 := n7_
              have NB471_488 := n8_
              have NB488_471 := n9_
              have NB479_488 := n10_
              have NB488_479 := n11_
              clear n6_ n7_ n8_ n9_ n10_ n11_ hb hbox hg
              refine hK.out _ _ ⟨bk_ BK479 0, bk_ BK479 1, bk_ BK471 0, bk_ BK471 1, bk_ BK471 2, ((bc_ HB hw480_0 :)), ((bc_ HB hw480_1 :)), ((bc_ HB hw480_2 :)), ((bc_ HB hw480_3 :)), ((bc_ HB hw480_4 :)), ((bc_ HB hw480_5 :))⟩ (fun hHeld => ?_)
              clear hK K
              refine norm_ (a' := ?_) ?_ ?_
              rotate_left
              ·show Act.put _ (some 5) _ = _
               simp only [z_]
               rfl
              refine one_ (i := 6) (N := some 30) (bt 13 1151) rfl rfl (one_of HT_.out (by kernel_rfl)) (by decide) (fun K hK => ?_)
              refine goes_ Try.func25 (by kernel_rfl) rfl #[.agg #[.slice Ao29 x480000_1.length co29, .slice Ao30 x480001_1.length co30], .agg #[.int .i64 ((rd_T62 l0_2 x4_1).f0), .int .i64 ((rd_T62 l0_2 x4_1).f1), .int .i64 ((rd_T62 l0_2 x4_1).f2.f0), .string ((rd_T62 l0_2 x4_1).f2.f1), .string ((rd_T62 l0_2 x4_1).f2.f2), .bool ((rd_T62 l0_2 x4_1).f2.f3)]] (by rfl) rfl rfl (by (try simp only [List.map_toArray, List.map_cons, List.map_nil]); first | done | rfl | (simp only [List.length_drop, List.length_take]; rfl)) ?_
              with_reducible refine (quorumlaw10_step.calls kj17 (fun k_ => ((k_ ≠ gb471 ∧ k_ ≠ gb479) ∧ k_ ≠ gb488)) _ _ x480000_1 (fun k_ => ((k_ ≠ gb471 ∧ k_ ≠ gb479) ∧ k_ ≠ gb488)) _ _ x480001_1 ((rd_T62 l0_2 x4_1).f0) ((rd_T62 l0_2 x4_1).f1) ((rd_T62 l0_2 x4_1).f2.f0) ((rd_T62 l0_2 x4_1).f2.f1) ((rd_T62 l0_2 x4_1).f2.f2) ((rd_T62 l0_2 x4_1).f2.f3) t481 t484 true _ ?side1 ?side2 A27.out).mono ?_
              (case side1 => exact HO_480000.out)
              (case side2 => exact HO_480001.out)
              rintro e w33 ⟨v482, v485, rfl, ho0, ho1, hb⟩
              refine ⟨_, rfl, ?_⟩
              have n2_ := mk0 (Kd.V_lower (Kd.V_mono (ok' := fun k_ => k_ ≠ gb471 ∧ k_ ≠ gb479 ∧ k_ ≠ gb488) ho0 (fun k_ hk_ => ⟨Or.elim hk_ (fun hs_ => Or.elim hs_ (fun hs_ => hs_.1.1) (fun hs_ => hs_.1.1)) (fun hn_ => (Kd.freshB (g := gb471) (o := .cells #[.slice A0_0 l0_0.length c0_0, .slice A0_1 l0_1.length c0_1, .slice (some ad480) l0_2.length c0_2] 56 (0, 0)) (h_ BK471) k_ hn_)), Or.elim hk_ (fun hs_ => Or.elim hs_ (fun hs_ => hs_.1.2) (fun hs_ => hs_.1.2)) (fun hn_ => (Kd.freshB (g := gb479) (o := .cells #[.slice Ao29 x480000_1.length co29, .slice Ao30 x480001_1.length co30] 34 (0, 0)) (h_ BK479) k_ hn_)), Or.elim hk_ (fun hs_ => Or.elim hs_ (fun hs_ => hs_.2) (fun hs_ => hs_.2)) (fun hn_ => (Kd.freshB (g := gb488) (o := .cells #[.slice none 0 0, .slice none 0 0] 34 (0, 0)) (h_ BK488) k_ hn_))⟩)) (bz_ (b_ HB)))
              have n3_ := mk0 (Kd.V_lower (Kd.V_mono (ok' := fun k_ => k_ ≠ gb471 ∧ k_ ≠ gb479 ∧ k_ ≠ gb488) ho1 (fun k_ hk_ => ⟨Or.elim hk_ (fun hs_ => Or.elim hs_ (fun hs_ => hs_.1.1) (fun hs_ => hs_.1.1)) (fun hn_ => (Kd.freshB (g := gb471) (o := .cells #[.slice A0_0 l0_0.length c0_0, .slice A0_1 l0_1.length c0_1, .slice (some ad480) l0_2.length c0_2] 56 (0, 0)) (h_ BK471) k_ hn_)), Or.elim hk_ (fun hs_ => Or.elim hs_ (fun hs_ => hs_.1.2) (fun hs_ => hs_.1.2)) (fun hn_ => (Kd.freshB (g := gb479) (o := .cells #[.slice Ao29 x480000_1.length co29, .slice Ao30 x480001_1.length co30] 34 (0, 0)) (h_ BK479) k_ hn_)), Or.elim hk_ (fun hs_ => Or.elim hs_ (fun hs_ => hs_.2) (fun hs_ => hs_.2)) (fun hn_ => (Kd.freshB (g := gb488) (o := .cells #[.slice none 0 0, .slice none 0 0] 34 (0, 0)) (h_ BK488) k_ hn_))⟩)) (bz_ (b_ HB)))
              replace HO_480000 := mk0 (Kd.V_below (v_ HO_480000) hb)
              replace HO_480001 := mk0 (Kd.V_below (v_ HO_480001) hb)
              replace BK471 := mk0 (u_ BK471 hb)
              replace BK479 := mk0 (u_ BK479 hb)
              replace BK488 := mk0 (u_ BK488 hb)
              replace HB := mk0 (bt_ (b_ HB) hb)
              have HO483 := n2_
              have HO486 := n3_
              clear n2_ n3_
              (try clear hb)
              (try clear hb2)
              (try clear hk)
              (try clear hi)
              (try clear ho0)
              (try clear ho1)
              refine hK.out _ _ ⟨bk_ BK479 0, bk_ BK479 1, bk_ BK471 0, bk_ BK471 1, bk_ BK471 2, ((bc_ HB hw480_0 :)), ((bc_ HB hw480_1 :)), ((bc_ HB hw480_2 :)), ((bc_ HB hw480_3 :)), ((bc_ HB hw480_4 :)), ((bc_ HB hw480_5 :))⟩ (fun hHeld => ?_)
              clear hK K
              refine norm_ (a' := ?_) ?_ ?_
              rotate_left
              ·show Act.put _ (some 30) _ = _
               simp only [z_]
               rfl
              refine pq_ HT_.out 7 23 (bt 13 1279) (h := ?_)
              refine pq_ HT_.out 8 31 (bt 13 1535) (h := ?_)
              refine pq_ HT_.out 9 32 (bt 13 2047) (h := ?_)
              exact norm_ (by simp only [putAll, Act.put, List.setIfInBounds_toArray, List.set_cons_zero, List.set_cons_succ]) (hCont (v482, v485, gb488) _ ⟨hHeld, (v_ HO483), (v_ HO486), (v2_ (Kd.V_mono HO_480000.out (fun _ hk => ⟨hk.1.1, ⟨hk.1.2, hk.2⟩⟩))), (v2_ (Kd.V_mono HO_480001.out (fun _ hk => ⟨hk.1.1, ⟨hk.1.2, hk.2⟩⟩))), (h_ BK471), (h_ BK479), (h_ BK488), GW488.out, GE488.out, NB471_488.out, NB488_471.out, NB479_488.out, NB488_479.out, (b_ HB)⟩)
            rintro ⟨v482, v485, gb488⟩ w34 ⟨hS_, h0_, h1_, h2_, h3_, h4_, h5_, h6_, h7_, h8_, h9_, h10_, h11_, h12_, h13_⟩
            have n0_ : Fc (Kd.V k36 36 w34 w.heap.size (fun k_ => k_ ≠ gb471 ∧ k_ ≠ gb479 ∧ k_ ≠ gb488) v482 t481) := ⟨h0_⟩
            have n1_ : Fc (Kd.V (Kd.int .i64) 3 w34 w.heap.size (fun k_ => k_ ≠ gb471 ∧ k_ ≠ gb479 ∧ k_ ≠ gb488) v485 t484) := ⟨h1_⟩
            have n2_ : Fc (Kd.V k36 36 w34 w.heap.size (fun k_ => k_ ≠ gb471 ∧ k_ ≠ gb479 ∧ k_ ≠ gb488) (.slice Ao29 x480000_1.length co29) x480000_1) := ⟨h2_⟩
            have n3_ : Fc (Kd.V (Kd.int .i64) 3 w34 w.heap.size (fun k_ => k_ ≠ gb471 ∧ k_ ≠ gb479 ∧ k_ ≠ gb488) (.slice Ao30 x480001_1.length co30) x480001_1) := ⟨h3_⟩
            have n4_ : Fc (w34.heap[gb471]? = some (.cells #[.slice A0_0 l0_0.length c0_0, .slice A0_1 l0_1.length c0_1, .slice (some ad480) l0_2.length c0_2] 56 (0, 0))) := ⟨h4_⟩
            have n5_ : Fc (w34.heap[gb479]? = some (.cells #[.slice Ao29 x480000_1.length co29, .slice Ao30 x480001_1.length co30] 34 (0, 0))) := ⟨h5_⟩
            have n6_ : Fc (w34.heap[gb488]? = some (.cells #[.slice none 0 0, .slice none 0 0] 34 (0, 0))) := ⟨h6_⟩
            have n7_ : Fc (w.heap.size ≤ gb488) := ⟨h7_⟩
            have n8_ : Fc (w.heap.size ≤ gb488) := ⟨h8_⟩
            have n9_ : Fc (gb471 ≠ gb488) := ⟨h9_⟩
            have n10_ : Fc (gb488 ≠ gb471) := ⟨h10_⟩
            have n11_ : Fc (gb479 ≠ gb488) := ⟨h11_⟩
            have n12_ : Fc (gb488 ≠ gb479) := ⟨h12_⟩
            have n13_ : Fc (Below w.heap.size w w34) := ⟨h13_⟩
            clear HO_480000 HO_480001 BK471 BK479 HB h0_ h1_ h2_ h3_ h4_ h5_ h6_ h7_ h8_ h9_ h10_ h11_ h12_ h13_
            have HO483 := n0_
            have HO486 := n1_
            have HO_480000 := n2_
            have HO_480001 := n3_
            have BK471 := n4_
            have BK479 := n5_
            have BK488 := n6_
            have GW488 := n7_
            have GE488 := n8_
            have NB471_488 := n9_
            have NB488_471 := n10_
            have NB479_488 := n11_
            have NB488_479 := n12_
            have HB := n13_
            clear n0_ n1_ n2_ n3_ n4_ n5_ n6_ n7_ n8_ n9_ n10_ n11_ n12_ n13_
            have hHeld : w34.cell? ⟨gb479, 0, none⟩ = some (.slice Ao29 x480000_1.length co29) ∧ w34.cell? ⟨gb479, 1, none⟩ = some (.slice Ao30 x480001_1.length co30) ∧ w34.cell? ⟨gb471, 0, none⟩ = some (.slice A0_0 l0_0.length c0_0) ∧ w34.cell? ⟨gb471, 1, none⟩ = some (.slice A0_1 l0_1.length c0_1) ∧ w34.cell? ⟨gb471, 2, none⟩ = some (.slice (some ad480) l0_2.length c0_2) ∧ w34.cell? (ad480.add ((x4_1).toNat * 6)) = some (.int .i64 ((rd_T62 l0_2 x4_1).f0)) ∧ w34.cell? ⟨(ad480.add ((x4_1).toNat * 6)).block, (ad480.add ((x4_1).toNat * 6)).off + 1, none⟩ = some (.int .i64 ((rd_T62 l0_2 x4_1).f1)) ∧ w34.cell? ⟨(ad480.add ((x4_1).toNat * 6)).block, (ad480.add ((x4_1).toNat * 6)).off + 2, none⟩ = some (.int .i64 ((rd_T62 l0_2 x4_1).f2.f0)) ∧ w34.cell? ⟨(ad480.add ((x4_1).toNat * 6)).block, (ad480.add ((x4_1).toNat * 6)).off + 3, none⟩ = some (.string ((rd_T62 l0_2 x4_1).f2.f1)) ∧ w34.cell? ⟨(ad480.add ((x4_1).toNat * 6)).block, (ad480.add ((x4_1).toNat * 6)).off + 4, none⟩ = some (.string ((rd_T62 l0_2 x4_1).f2.f2)) ∧ w34.cell? ⟨(ad480.add ((x4_1).toNat * 6)).block, (ad480.add ((x4_1).toNat * 6)).off + 5, none⟩ = some (.bool ((rd_T62 l0_2 x4_1).f2.f3)) := hS_
            obtain ⟨Ao35, co35, eo35⟩ := Kd.V_slice HO483.out
            (first | subst eo35 | (injection eo35 with f1_ f2_ f3_; have f4_ := f1_.symm; have f5_ := f3_.symm; clear f1_ f2_ f3_; subst f4_; subst f5_))
            obtain ⟨Ao37, co37, eo37⟩ := Kd.V_slice HO486.out
            (first | subst eo37 | (injection eo37 with f1_ f2_ f3_; have f4_ := f1_.symm; have f5_ := f3_.symm; clear f1_ f2_ f3_; subst f4_; subst f5_))
            refine norm_ (a' := ?_) ?_ ?_
            rotate_left
            ·simp only [putAll, Act.put, List.setIfInBounds_toArray, List.set_cons_zero, List.set_cons_succ]
             rfl
            refine one_ (i := 11) (N := none) (bt 13 4095) rfl rfl (one_of HT_.out (by kernel_rfl)) (by decide) (fun K hK => ?_)
            have hs36 : w34.cell? ⟨gb488, 0, none⟩ = some (.slice none 0 0) := bk_ BK488 0
            have hfs36 := blk_frozen BK488.out 0
            have hns36_0 := NB471_488.out
            have hns36_1 := NB479_488.out
            have hms36_0 := NB488_471.out
            have hms36_1 := NB488_479.out
            have hs38 : w34.cell? ⟨gb488, 1, none⟩ = some (.slice none 0 0) := bk_ BK488 1
            have hfs38 := blk_frozen BK488.out 1
            have hns38_0 := NB471_488.out
            have hns38_1 := NB479_488.out
            have hms38_0 := NB488_471.out
            have hms38_1 := NB488_479.out
            refine skip_ (w1 := ?_) (by rfl) rfl ?_ ?_
            rotate_left
            ·go_simp
             rfl
            refine hK.out _ _ ⟨(cf_ NB479_488.out (cf_ NB479_488.out hHeld.1)), (cf_ NB479_488.out (cf_ NB479_488.out hHeld.2.1)), (cf_ NB471_488.out (cf_ NB471_488.out hHeld.2.2.1)), (cf_ NB471_488.out (cf_ NB471_488.out hHeld.2.2.2.1)), (cf_ NB471_488.out (cf_ NB471_488.out hHeld.2.2.2.2.1)), (cf_ (nb_ hw480_0 GW488) (cf_ (nb_ hw480_0 GW488) hHeld.2.2.2.2.2.1)), (cf_ (nb_ hw480_1 GW488) (cf_ (nb_ hw480_1 GW488) hHeld.2.2.2.2.2.2.1)), (cf_ (nb_ hw480_2 GW488) (cf_ (nb_ hw480_2 GW488) hHeld.2.2.2.2.2.2.2.1)), (cf_ (nb_ hw480_3 GW488) (cf_ (nb_ hw480_3 GW488) hHeld.2.2.2.2.2.2.2.2.1)), (cf_ (nb_ hw480_4 GW488) (cf_ (nb_ hw480_4 GW488) hHeld.2.2.2.2.2.2.2.2.2.1)), (cf_ (nb_ hw480_5 GW488) (cf_ (nb_ hw480_5 GW488) hHeld.2.2.2.2.2.2.2.2.2.2))⟩ (fun hHeld => ?_)
            clear hK K
            refine pq_ HT_.out 12 6 (bt 13 8191) (h := ?_)
            refine done_ (done_of HT_.out (by kernel_rfl)) ?_
            have hnb39 := NB488_471.out
            have hnc39 := NB471_488.out
            have hnb40 := NB488_479.out
            have hnc40 := NB479_488.out
            obtain ⟨hcz41_0, hcz41_1, hfz41_0, hfz41_1⟩ := c2_ BK488
            have hnb42 := NB479_471.out
            have hnc42 := NB471_479.out
            obtain ⟨hcz43_0, hcz43_1, hfz43_0, hfz43_1⟩ := c2_ BK479
            try go_wp2
            go_roundg kj17
            case measure => have := HK1.out; have := HJ17.out; omega
            case rel => exact ⟨(wrap64 (x4_1 + 1)), (t481), (t484), (.slice Ao35 t481.length co35), (.slice Ao37 t484.length co37), (by first | rfl | (simp; done) | (simp [*]; done)), H', ⟨by have := HK1.out; have := HJ17.out; omega⟩, ⟨by (with_reducible repeat (first | apply Kd.V_alloc | apply Kd.V_drewN | apply Kd.V_drew)); exact Kd.V_mono (Kd.V_far (p := ⟨gb479, 1, none⟩) (Kd.V_far (p := ⟨gb479, 0, none⟩) (Kd.V_far (p := ⟨gb488, 1, none⟩) (Kd.V_far (p := ⟨gb488, 0, none⟩) (Kd.V_mono (Kd.V_mono HO483.out (fun k_ hk => (⟨hk, hk.2.2⟩ : _ ∧ k_ ≠ gb488))) (fun k_ hk => (⟨hk, hk.1.2.1⟩ : _ ∧ k_ ≠ gb479))) (fun _ hk => hk.1.2) (.slice Ao35 t481.length co35)) (fun _ hk => hk.1.2) (.slice Ao37 t484.length co37)) (fun _ hk => hk.2) (.slice Ao35 t481.length co35)) (fun _ hk => hk.2) (.slice Ao37 t484.length co37)) (fun _ hk => ⟨hk.1.1.1, hk.1.1.2.1⟩)⟩, ⟨by (with_reducible repeat (first | apply Kd.V_alloc | apply Kd.V_drewN | apply Kd.V_drew)); exact Kd.V_mono (Kd.V_far (p := ⟨gb479, 1, none⟩) (Kd.V_far (p := ⟨gb479, 0, none⟩) (Kd.V_far (p := ⟨gb488, 1, none⟩) (Kd.V_far (p := ⟨gb488, 0, none⟩) (Kd.V_mono (Kd.V_mono HO486.out (fun k_ hk => (⟨hk, hk.2.2⟩ : _ ∧ k_ ≠ gb488))) (fun k_ hk => (⟨hk, hk.1.2.1⟩ : _ ∧ k_ ≠ gb479))) (fun _ hk => hk.1.2) (.slice Ao35 t481.length co35)) (fun _ hk => hk.1.2) (.slice Ao37 t484.length co37)) (fun _ hk => hk.2) (.slice Ao35 t481.length co35)) (fun _ hk => hk.2) (.slice Ao37 t484.length co37)) (fun _ hk => ⟨hk.1.1.1, hk.1.1.2.1⟩)⟩, ⟨(fa_ (fa_ (fa_ (fa_ (h_ BK471) NB471_488.out) NB471_488.out) NB471_479.out) NB471_479.out)⟩, ⟨(pu_ (cs := #[.slice Ao35 t481.length co35, .slice Ao30 x480001_1.length co30]) (pu_ (cs := #[.slice Ao29 x480000_1.length co29, .slice Ao30 x480001_1.length co30]) (fa_ (fa_ (h_ BK479) NB479_488.out) NB479_488.out)))⟩, ⟨b_ HB⟩⟩
           ·replace c28 := Bool.eq_false_iff.mpr c28
            subst c28
            rw [if_neg (show ¬ (false = true) by decide)] at H
            obtain rfl := Option.some.inj H
            obtain ⟨Ao44, co44, eo44⟩ := Kd.V_slice HO_480000.out
            subst eo44
            obtain ⟨Ao45, co45, eo45⟩ := Kd.V_slice HO_480001.out
            subst eo45
            try go_wp2
            replace HO_480000 := mk0 (Kd.V_drew HO_480000.out)
            replace HO_480001 := mk0 (Kd.V_drew HO_480001.out)
            replace BK471 := mk0 (bD_ BK471.out)
            replace BK479 := mk0 (bD_ BK479.out)
            replace HB := mk0 (b1_ HB.out)
            have p480 : 0 ≤ (x4_1 : Int) := of_decide_eq_true (by first | (with_reducible assumption) | assumption)
            have q480 : x4_1 < (l0_2.length : Int) := of_decide_eq_true (by first | (with_reducible assumption) | assumption)
            obtain ⟨ad480, e480, hx480_0, hx480_1, hx480_2, hx480_3, hx480_4, hx480_5⟩ := at_T62 HR0_2.out x4_1 p480 q480
            have hw480_5 := hx480_5
            have hw480_4 := hx480_4
            have hw480_3 := hx480_3
            have hw480_2 := hx480_2
            have hw480_1 := hx480_1
            have hw480_0 := hx480_0
            cases e480
            replace hx480_0 := (bc_ HB hx480_0 :)
            replace hx480_1 := (bc_ HB hx480_1 :)
            replace hx480_2 := (bc_ HB hx480_2 :)
            replace hx480_3 := (bc_ HB hx480_3 :)
            replace hx480_4 := (bc_ HB hx480_4 :)
            replace hx480_5 := (bc_ HB hx480_5 :)
            replace p480 := eq_true p480
            replace q480 := eq_true q480
            refine start_ (n := 13) (S := fun w' => w'.cell? ⟨gb479, 0, none⟩ = some (.slice Ao44 x480000_1.length co44) ∧ w'.cell? ⟨gb479, 1, none⟩ = some (.slice Ao45 x480001_1.length co45) ∧ w'.cell? ⟨gb471, 0, none⟩ = some (.slice A0_0 l0_0.length c0_0) ∧ w'.cell? ⟨gb471, 1, none⟩ = some (.slice A0_1 l0_1.length c0_1) ∧ w'.cell? ⟨gb471, 2, none⟩ = some (.slice (some ad480) l0_2.length c0_2) ∧ w'.cell? (ad480.add ((x4_1).toNat * 6)) = some (.int .i64 ((rd_T62 l0_2 x4_1).f0)) ∧ w'.cell? ⟨(ad480.add ((x4_1).toNat * 6)).block, (ad480.add ((x4_1).toNat * 6)).off + 1, none⟩ = some (.int .i64 ((rd_T62 l0_2 x4_1).f1)) ∧ w'.cell? ⟨(ad480.add ((x4_1).toNat * 6)).block, (ad480.add ((x4_1).toNat * 6)).off + 2, none⟩ = some (.int .i64 ((rd_T62 l0_2 x4_1).f2.f0)) ∧ w'.cell? ⟨(ad480.add ((x4_1).toNat * 6)).block, (ad480.add ((x4_1).toNat * 6)).off + 3, none⟩ = some (.string ((rd_T62 l0_2 x4_1).f2.f1)) ∧ w'.cell? ⟨(ad480.add ((x4_1).toNat * 6)).block, (ad480.add ((x4_1).toNat * 6)).off + 4, none⟩ = some (.string ((rd_T62 l0_2 x4_1).f2.f2)) ∧ w'.cell? ⟨(ad480.add ((x4_1).toNat * 6)).block, (ad480.add ((x4_1).toNat * 6)).off + 5, none⟩ = some (.bool ((rd_T62 l0_2 x4_1).f2.f3))) (ds := []) (bt 13 0) (by kernel_rfl) rfl rfl ⟨bk_ BK479 0, bk_ BK479 1, bk_ BK471 0, bk_ BK471 1, bk_ BK471 2, ((bc_ HB hw480_0 :)), ((bc_ HB hw480_1 :)), ((bc_ HB hw480_2 :)), ((bc_ HB hw480_3 :)), ((bc_ HB hw480_4 :)), ((bc_ HB hw480_5 :))⟩ (fun hHeld => ?_); refine with_tabW quorumlaw10_PendExact.tab7 quorumlaw10_PendExact.bits7 (fun HT_ HW_ => ?_)
            generalize wc.drew = w46 at HO_480000 HO_480001 BK471 BK479 HB hx480_0 hx480_1 hx480_2 hx480_3 hx480_4 hx480_5 hHeld ⊢
            refine pq_ HT_.out 1 25 (bt 13 2) (h := ?_)
            refine pq_ HT_.out 3 27 (bt 13 10) (h := ?_)
            refine tq11_ HT_.out HW_.out 0 24 (bt 13 11) hHeld (h := ?_)
            refine tq11_ HT_.out HW_.out 2 26 (bt 13 15) hHeld (h := ?_)
            refine pq_ HT_.out 4 28 (bt 13 31) (h := ?_)
            refine tq11_ HT_.out HW_.out 5 29 (bt 13 63) hHeld (h := ?_)
            refine join_ (σ := Value × Value × Nat) 2 (bt 13 2047) (fun s_ => [(30, .tuple #[.agg #[s_.1, s_.2.1], .bool false]), (5, .pointer (some ⟨s_.2.2, 0, none⟩)), (23, .tuple #[.agg #[s_.1, s_.2.1], .bool false]), (31, .agg #[s_.1, s_.2.1]), (32, .bool false)]) (fun s_ w' => (w'.cell? ⟨gb479, 0, none⟩ = some (.slice Ao44 x480000_1.length co44) ∧ w'.cell? ⟨gb479, 1, none⟩ = some (.slice Ao45 x480001_1.length co45) ∧ w'.cell? ⟨gb471, 0, none⟩ = some (.slice A0_0 l0_0.length c0_0) ∧ w'.cell? ⟨gb471, 1, none⟩ = some (.slice A0_1 l0_1.length c0_1) ∧ w'.cell? ⟨gb471, 2, none⟩ = some (.slice (some ad480) l0_2.length c0_2) ∧ w'.cell? (ad480.add ((x4_1).toNat * 6)) = some (.int .i64 ((rd_T62 l0_2 x4_1).f0)) ∧ w'.cell? ⟨(ad480.add ((x4_1).toNat * 6)).block, (ad480.add ((x4_1).toNat * 6)).off + 1, none⟩ = some (.int .i64 ((rd_T62 l0_2 x4_1).f1)) ∧ w'.cell? ⟨(ad480.add ((x4_1).toNat * 6)).block, (ad480.add ((x4_1).toNat * 6)).off + 2, none⟩ = some (.int .i64 ((rd_T62 l0_2 x4_1).f2.f0)) ∧ w'.cell? ⟨(ad480.add ((x4_1).toNat * 6)).block, (ad480.add ((x4_1).toNat * 6)).off + 3, none⟩ = some (.string ((rd_T62 l0_2 x4_1).f2.f1)) ∧ w'.cell? ⟨(ad480.add ((x4_1).toNat * 6)).block, (ad480.add ((x4_1).toNat * 6)).off + 4, none⟩ = some (.string ((rd_T62 l0_2 x4_1).f2.f2)) ∧ w'.cell? ⟨(ad480.add ((x4_1).toNat * 6)).block, (ad480.add ((x4_1).toNat * 6)).off + 5, none⟩ = some (.bool ((rd_T62 l0_2 x4_1).f2.f3))) ∧ (Kd.V k36 36 w' w.heap.size (fun k_ => k_ ≠ gb471 ∧ k_ ≠ gb479 ∧ k_ ≠ s_.2.2) s_.1 t481) ∧ (Kd.V (Kd.int .i64) 3 w' w.heap.size (fun k_ => k_ ≠ gb471 ∧ k_ ≠ gb479 ∧ k_ ≠ s_.2.2) s_.2.1 t484) ∧ (Kd.V k36 36 w' w.heap.size (fun k_ => k_ ≠ gb471 ∧ k_ ≠ gb479 ∧ k_ ≠ s_.2.2) (.slice Ao44 x480000_1.length co44) x480000_1) ∧ (Kd.V (Kd.int .i64) 3 w' w.heap.size (fun k_ => k_ ≠ gb471 ∧ k_ ≠ gb479 ∧ k_ ≠ s_.2.2) (.slice Ao45 x480001_1.length co45) x480001_1) ∧ (w'.heap[gb471]? = some (.cells #[.slice A0_0 l0_0.length c0_0, .slice A0_1 l0_1.length c0_1, .slice (some ad480) l0_2.length c0_2] 56 (0, 0))) ∧ (w'.heap[gb479]? = some (.cells #[.slice Ao44 x480000_1.length co44, .slice Ao45 x480001_1.length co45] 34 (0, 0))) ∧ (w'.heap[s_.2.2]? = some (.cells #[.slice none 0 0, .slice none 0 0] 34 (0, 0))) ∧ (w.heap.size ≤ s_.2.2) ∧ (w.heap.size ≤ s_.2.2) ∧ (gb471 ≠ s_.2.2) ∧ (s_.2.2 ≠ gb471) ∧ (gb479 ≠ s_.2.2) ∧ (s_.2.2 ≠ gb479) ∧ (Below w.heap.size w w')) ?_ ?_
            rotate_left
            ·intro hCont
             refine two_ (i := 6) (j := 10) (Ni := some 30) (Nj := some 5) (bt 13 127) (bt 13 1087) rfl rfl rfl rfl (two_of HT_.out (by kernel_rfl)) (by decide) (by decide) (fun K hK => ?_) (fun K hK => ?_)
             ·skip
              refine goes_ Try.func25 (by kernel_rfl) rfl #[.agg #[.slice Ao44 x480000_1.length co44, .slice Ao45 x480001_1.length co45], .agg #[.int .i64 ((rd_T62 l0_2 x4_1).f0), .int .i64 ((rd_T62 l0_2 x4_1).f1), .int .i64 ((rd_T62 l0_2 x4_1).f2.f0), .string ((rd_T62 l0_2 x4_1).f2.f1), .string ((rd_T62 l0_2 x4_1).f2.f2), .bool ((rd_T62 l0_2 x4_1).f2.f3)]] (by rfl) rfl rfl (by (try simp only [List.map_toArray, List.map_cons, List.map_nil]); first | done | rfl | (simp only [List.length_drop, List.length_take]; rfl)) ?_
              with_reducible refine (quorumlaw10_step.calls kj17 (fun k_ => (k_ ≠ gb471 ∧ k_ ≠ gb479)) _ _ x480000_1 (fun k_ => (k_ ≠ gb471 ∧ k_ ≠ gb479)) _ _ x480001_1 ((rd_T62 l0_2 x4_1).f0) ((rd_T62 l0_2 x4_1).f1) ((rd_T62 l0_2 x4_1).f2.f0) ((rd_T62 l0_2 x4_1).f2.f1) ((rd_T62 l0_2 x4_1).f2.f2) ((rd_T62 l0_2 x4_1).f2.f3) t481 t484 false _ ?side1 ?side2 A27.out).mono ?_
              (case side1 => exact HO_480000.out)
              (case side2 => exact HO_480001.out)
              rintro e w47 ⟨v482, v485, rfl, ho0, ho1, hb⟩
              refine ⟨_, rfl, ?_⟩
              have n2_ := mk0 (Kd.V_lower (Kd.V_mono (ok' := fun k_ => k_ ≠ gb471 ∧ k_ ≠ gb479) ho0 (fun k_ hk_ => ⟨Or.elim hk_ (fun hs_ => Or.elim hs_ (fun hs_ => hs_.1) (fun hs_ => hs_.1)) (fun hn_ => (Kd.freshB (g := gb471) (o := .cells #[.slice A0_0 l0_0.length c0_0, .slice A0_1 l0_1.length c0_1, .slice (some ad480) l0_2.length c0_2] 56 (0, 0)) (h_ BK471) k_ hn_)), Or.elim hk_ (fun hs_ => Or.elim hs_ (fun hs_ => hs_.2) (fun hs_ => hs_.2)) (fun hn_ => (Kd.freshB (g := gb479) (o := .cells #[.slice Ao44 x480000_1.length co44, .slice Ao45 x480001_1.length co45] 34 (0, 0)) (h_ BK479) k_ hn_))⟩)) (bz_ (b_ HB)))
              have n3_ := mk0 (Kd.V_lower (Kd.V_mono (ok' := fun k_ => k_ ≠ gb471 ∧ k_ ≠ gb479) ho1 (fun k_ hk_ => ⟨Or.elim hk_ (fun hs_ => Or.elim hs_ (fun hs_ => hs_.1) (fun hs_ => hs_.1)) (fun hn_ => (Kd.freshB (g := gb471) (o := .cells #[.slice A0_0 l0_0.length c0_0, .slice A0_1 l0_1.length c0_1, .slice (some ad480) l0_2.length c0_2] 56 (0, 0)) (h_ BK471) k_ hn_)), Or.elim hk_ (fun hs_ => Or.elim hs_ (fun hs_ => hs_.2) (fun hs_ => hs_.2)) (fun hn_ => (Kd.freshB (g := gb479) (o := .cells #[.slice Ao44 x480000_1.length co44, .slice Ao45 x480001_1.length co45] 34 (0, 0)) (h_ BK479) k_ hn_))⟩)) (bz_ (b_ HB)))
              replace HO_480000 := mk0 (Kd.V_below (v_ HO_480000) hb)
              replace HO_480001 := mk0 (Kd.V_below (v_ HO_480001) hb)
              replace BK471 := mk0 (u_ BK471 hb)
              replace BK479 := mk0 (u_ BK479 hb)
              replace HB := mk0 (bt_ (b_ HB) hb)
              have HO483 := n2_
              have HO486 := n3_
              clear n2_ n3_
              (try clear hb)
              (try clear hb2)
              (try clear hk)
              (try clear hi)
              (try clear ho0)
              (try clear ho1)
              refine hK.out _ _ ⟨bk_ BK479 0, bk_ BK479 1, bk_ BK471 0, bk_ BK471 1, bk_ BK471 2, ((bc_ HB hw480_0 :)), ((bc_ HB hw480_1 :)), ((bc_ HB hw480_2 :)), ((bc_ HB hw480_3 :)), ((bc_ HB hw480_4 :)), ((bc_ HB hw480_5 :))⟩ (fun hHeld => ?_)
              clear hK K
              refine norm_ (a' := ?_) ?_ ?_
              rotate_left
              ·show Act.put _ (some 30) _ = _
               simp only [z_]
               rfl
              refine pq_ HT_.out 7 23 (bt 13 255) (h := ?_)
              refine pq_ HT_.out 8 31 (bt 13 511) (h := ?_)
              refine pq_ HT_.out 9 32 (bt 13 1023) (h := ?_)
              refine one_ (i := 10) (N := some 5) (bt 13 2047) rfl rfl (one_of HT_.out (by kernel_rfl)) (by decide) (fun K hK => ?_)
              refine box_step ?hg (N := 5) ?hd (cs := #[.slice none 0 0, .slice none 0 0]) (t := 34) ?hr ?_; (case hd => rfl); (case hg => rfl); (case hr => first | (go_simp; done) | (go_simp; rfl))
              intro gb488 hg w48 hbox hb
              have n8_ := mk0 (gz_ HB hg)
              have n9_ := mk0 (gz_ HB hg)
              have n10_ := mk0 (ne1_ BK471 hg)
              have n11_ := mk0 (ne2_ BK471 hg)
              have n12_ := mk0 (ne1_ BK479 hg)
              have n13_ := mk0 (ne2_ BK479 hg)
              replace HO_480000 := mk0 (Kd.V_below (Kd.V_elderB (v_ HO_480000) gb488 (Nat.le_of_eq hg.symm)) hb)
              replace HO_480001 := mk0 (Kd.V_below (Kd.V_elderB (v_ HO_480001) gb488 (Nat.le_of_eq hg.symm)) hb)
              replace HO483 := mk0 (Kd.V_below (Kd.V_elderB (v_ HO483) gb488 (Nat.le_of_eq hg.symm)) hb)
              replace HO486 := mk0 (Kd.V_below (Kd.V_elderB (v_ HO486) gb488 (Nat.le_of_eq hg.symm)) hb)
              replace BK471 := mk0 (u_ BK471 hb)
              replace BK479 := mk0 (u_ BK479 hb)
              replace HB := mk0 (bt_ (b_ HB) hb)
              have BK488 := mk0 (hbox)
              have GW488 := n8_
              have GE488 := n9_
              have NB471_488 := n10_
              have NB488_471 := n11_
              have NB479_488 := n12_
              have NB488_479 := n13_
              clear n8_ n9_ n10_ n11_ n12_ n13_ hb hbox hg
              refine hK.out _ _ ⟨bk_ BK479 0, bk_ BK479 1, bk_ BK471 0, bk_ BK471 1, bk_ BK471 2, ((bc_ HB hw480_0 :)), ((bc_ HB hw480_1 :)), ((bc_ HB hw480_2 :)), ((bc_ HB hw480_3 :)), ((bc_ HB hw480_4 :)), ((bc_ HB hw480_5 :))⟩ (fun hHeld => ?_)
              clear hK K
              refine norm_ (a' := ?_) ?_ ?_
              rotate_left
              ·show Act.put _ (some 5) _ = _
               simp only [z_]
               rfl
              exact norm_ (by simp only [putAll, Act.put, List.setIfInBounds_toArray, List.set_cons_zero, List.set_cons_succ]) (hCont (v482, v485, gb488) _ ⟨hHeld, (v2_ (Kd.V_mono HO483.out (fun _ hk => ⟨hk.1.1, ⟨hk.1.2, hk.2⟩⟩))), (v2_ (Kd.V_mono HO486.out (fun _ hk => ⟨hk.1.1, ⟨hk.1.2, hk.2⟩⟩))), (v2_ (Kd.V_mono HO_480000.out (fun _ hk => ⟨hk.1.1, ⟨hk.1.2, hk.2⟩⟩))), (v2_ (Kd.V_mono HO_480001.out (fun _ hk => ⟨hk.1.1, ⟨hk.1.2, hk.2⟩⟩))), (h_ BK471), (h_ BK479), (h_ BK488), GW488.out, GE488.out, NB471_488.out, NB488_471.out, NB479_488.out, NB488_479.out, (b_ HB)⟩)
             ·skip
              refine box_step ?hg (N := 5) ?hd (cs := #[.slice none 0 0, .slice none 0 0]) (t := 34) ?hr ?_; (case hd => rfl); (case hg => rfl); (case hr => first | (go_simp; done) | (go_simp; rfl))
              intro gb488 hg w47 hbox hb
              have n6_ := mk0 (gz_ HB hg)
              have n7_ := mk0 (gz_ HB hg)
              have n8_ := mk0 (ne1_ BK471 hg)
              have n9_ := mk0 (ne2_ BK471 hg)
              have n10_ := mk0 (ne1_ BK479 hg)
              have n11_ := mk0 (ne2_ BK479 hg)
              replace HO_480000 := mk0 (Kd.V_below (Kd.V_elderB (v_ HO_480000) gb488 (Nat.le_of_eq hg.symm)) hb)
              replace HO_480001 := mk0 (Kd.V_below (Kd.V_elderB (v_ HO_480001) gb488 (Nat.le_of_eq hg.symm)) hb)
              replace BK471 := mk0 (u_ BK471 hb)
              replace BK479 := mk0 (u_ BK479 hb)
              replace HB := mk0 (bt_ (b_ HB) hb)
              have BK488 := mk0 (hbox)
              have GW488 := n6_
              have GE488 := n7_
              have NB471_488 := n8_
              have NB488_471 := n9_
              have NB479_488 := n10_
              have NB488_479 := n11_
              clear n6_ n7_ n8_ n9_ n10_ n11_ hb hbox hg
              refine hK.out _ _ ⟨bk_ BK479 0, bk_ BK479 1, bk_ BK471 0, bk_ BK471 1, bk_ BK471 2, ((bc_ HB hw480_0 :)), ((bc_ HB hw480_1 :)), ((bc_ HB hw480_2 :)), ((bc_ HB hw480_3 :)), ((bc_ HB hw480_4 :)), ((bc_ HB hw480_5 :))⟩ (fun hHeld => ?_)
              clear hK K
              refine norm_ (a' := ?_) ?_ ?_
              rotate_left
              ·show Act.put _ (some 5) _ = _
               simp only [z_]
               rfl
              refine one_ (i := 6) (N := some 30) (bt 13 1151) rfl rfl (one_of HT_.out (by kernel_rfl)) (by decide) (fun K hK => ?_)
              refine goes_ Try.func25 (by kernel_rfl) rfl #[.agg #[.slice Ao44 x480000_1.length co44, .slice Ao45 x480001_1.length co45], .agg #[.int .i64 ((rd_T62 l0_2 x4_1).f0), .int .i64 ((rd_T62 l0_2 x4_1).f1), .int .i64 ((rd_T62 l0_2 x4_1).f2.f0), .string ((rd_T62 l0_2 x4_1).f2.f1), .string ((rd_T62 l0_2 x4_1).f2.f2), .bool ((rd_T62 l0_2 x4_1).f2.f3)]] (by rfl) rfl rfl (by (try simp only [List.map_toArray, List.map_cons, List.map_nil]); first | done | rfl | (simp only [List.length_drop, List.length_take]; rfl)) ?_
              with_reducible refine (quorumlaw10_step.calls kj17 (fun k_ => ((k_ ≠ gb471 ∧ k_ ≠ gb479) ∧ k_ ≠ gb488)) _ _ x480000_1 (fun k_ => ((k_ ≠ gb471 ∧ k_ ≠ gb479) ∧ k_ ≠ gb488)) _ _ x480001_1 ((rd_T62 l0_2 x4_1).f0) ((rd_T62 l0_2 x4_1).f1) ((rd_T62 l0_2 x4_1).f2.f0) ((rd_T62 l0_2 x4_1).f2.f1) ((rd_T62 l0_2 x4_1).f2.f2) ((rd_T62 l0_2 x4_1).f2.f3) t481 t484 false _ ?side1 ?side2 A27.out).mono ?_
              (case side1 => exact HO_480000.out)
              (case side2 => exact HO_480001.out)
              rintro e w48 ⟨v482, v485, rfl, ho0, ho1, hb⟩
              refine ⟨_, rfl, ?_⟩
              have n2_ := mk0 (Kd.V_lower (Kd.V_mono (ok' := fun k_ => k_ ≠ gb471 ∧ k_ ≠ gb479 ∧ k_ ≠ gb488) ho0 (fun k_ hk_ => ⟨Or.elim hk_ (fun hs_ => Or.elim hs_ (fun hs_ => hs_.1.1) (fun hs_ => hs_.1.1)) (fun hn_ => (Kd.freshB (g := gb471) (o := .cells #[.slice A0_0 l0_0.length c0_0, .slice A0_1 l0_1.length c0_1, .slice (some ad480) l0_2.length c0_2] 56 (0, 0)) (h_ BK471) k_ hn_)), Or.elim hk_ (fun hs_ => Or.elim hs_ (fun hs_ => hs_.1.2) (fun hs_ => hs_.1.2)) (fun hn_ => (Kd.freshB (g := gb479) (o := .cells #[.slice Ao44 x480000_1.length co44, .slice Ao45 x480001_1.length co45] 34 (0, 0)) (h_ BK479) k_ hn_)), Or.elim hk_ (fun hs_ => Or.elim hs_ (fun hs_ => hs_.2) (fun hs_ => hs_.2)) (fun hn_ => (Kd.freshB (g := gb488) (o := .cells #[.slice none 0 0, .slice none 0 0] 34 (0, 0)) (h_ BK488) k_ hn_))⟩)) (bz_ (b_ HB)))
              have n3_ := mk0 (Kd.V_lower (Kd.V_mono (ok' := fun k_ => k_ ≠ gb471 ∧ k_ ≠ gb479 ∧ k_ ≠ gb488) ho1 (fun k_ hk_ => ⟨Or.elim hk_ (fun hs_ => Or.elim hs_ (fun hs_ => hs_.1.1) (fun hs_ => hs_.1.1)) (fun hn_ => (Kd.freshB (g := gb471) (o := .cells #[.slice A0_0 l0_0.length c0_0, .slice A0_1 l0_1.length c0_1, .slice (some ad480) l0_2.length c0_2] 56 (0, 0)) (h_ BK471) k_ hn_)), Or.elim hk_ (fun hs_ => Or.elim hs_ (fun hs_ => hs_.1.2) (fun hs_ => hs_.1.2)) (fun hn_ => (Kd.freshB (g := gb479) (o := .cells #[.slice Ao44 x480000_1.length co44, .slice Ao45 x480001_1.length co45] 34 (0, 0)) (h_ BK479) k_ hn_)), Or.elim hk_ (fun hs_ => Or.elim hs_ (fun hs_ => hs_.2) (fun hs_ => hs_.2)) (fun hn_ => (Kd.freshB (g := gb488) (o := .cells #[.slice none 0 0, .slice none 0 0] 34 (0, 0)) (h_ BK488) k_ hn_))⟩)) (bz_ (b_ HB)))
              replace HO_480000 := mk0 (Kd.V_below (v_ HO_480000) hb)
              replace HO_480001 := mk0 (Kd.V_below (v_ HO_480001) hb)
              replace BK471 := mk0 (u_ BK471 hb)
              replace BK479 := mk0 (u_ BK479 hb)
              replace BK488 := mk0 (u_ BK488 hb)
              replace HB := mk0 (bt_ (b_ HB) hb)
              have HO483 := n2_
              have HO486 := n3_
              clear n2_ n3_
              (try clear hb)
              (try clear hb2)
              (try clear hk)
              (try clear hi)
              (try clear ho0)
              (try clear ho1)
              refine hK.out _ _ ⟨bk_ BK479 0, bk_ BK479 1, bk_ BK471 0, bk_ BK471 1, bk_ BK471 2, ((bc_ HB hw480_0 :)), ((bc_ HB hw480_1 :)), ((bc_ HB hw480_2 :)), ((bc_ HB hw480_3 :)), ((bc_ HB hw480_4 :)), ((bc_ HB hw480_5 :))⟩ (fun hHeld => ?_)
              clear hK K
              refine norm_ (a' := ?_) ?_ ?_
              rotate_left
              ·show Act.put _ (some 30) _ = _
               simp only [z_]
               rfl
              refine pq_ HT_.out 7 23 (bt 13 1279) (h := ?_)
              refine pq_ HT_.out 8 31 (bt 13 1535) (h := ?_)
              refine pq_ HT_.out 9 32 (bt 13 2047) (h := ?_)
              exact norm_ (by simp only [putAll, Act.put, List.setIfInBounds_toArray, List.set_cons_zero, List.set_cons_succ]) (hCont (v482, v485, gb488) _ ⟨hHeld, (v_ HO483), (v_ HO486), (v2_ (Kd.V_mono HO_480000.out (fun _ hk => ⟨hk.1.1, ⟨hk.1.2, hk.2⟩⟩))), (v2_ (Kd.V_mono HO_480001.out (fun _ hk => ⟨hk.1.1, ⟨hk.1.2, hk.2⟩⟩))), (h_ BK471), (h_ BK479), (h_ BK488), GW488.out, GE488.out, NB471_488.out, NB488_471.out, NB479_488.out, NB488_479.out, (b_ HB)⟩)
            rintro ⟨v482, v485, gb488⟩ w49 ⟨hS_, h0_, h1_, h2_, h3_, h4_, h5_, h6_, h7_, h8_, h9_, h10_, h11_, h12_, h13_⟩
            have n0_ : Fc (Kd.V k36 36 w49 w.heap.size (fun k_ => k_ ≠ gb471 ∧ k_ ≠ gb479 ∧ k_ ≠ gb488) v482 t481) := ⟨h0_⟩
            have n1_ : Fc (Kd.V (Kd.int .i64) 3 w49 w.heap.size (fun k_ => k_ ≠ gb471 ∧ k_ ≠ gb479 ∧ k_ ≠ gb488) v485 t484) := ⟨h1_⟩
            have n2_ : Fc (Kd.V k36 36 w49 w.heap.size (fun k_ => k_ ≠ gb471 ∧ k_ ≠ gb479 ∧ k_ ≠ gb488) (.slice Ao44 x480000_1.length co44) x480000_1) := ⟨h2_⟩
            have n3_ : Fc (Kd.V (Kd.int .i64) 3 w49 w.heap.size (fun k_ => k_ ≠ gb471 ∧ k_ ≠ gb479 ∧ k_ ≠ gb488) (.slice Ao45 x480001_1.length co45) x480001_1) := ⟨h3_⟩
            have n4_ : Fc (w49.heap[gb471]? = some (.cells #[.slice A0_0 l0_0.length c0_0, .slice A0_1 l0_1.length c0_1, .slice (some ad480) l0_2.length c0_2] 56 (0, 0))) := ⟨h4_⟩
            have n5_ : Fc (w49.heap[gb479]? = some (.cells #[.slice Ao44 x480000_1.length co44, .slice Ao45 x480001_1.length co45] 34 (0, 0))) := ⟨h5_⟩
            have n6_ : Fc (w49.heap[gb488]? = some (.cells #[.slice none 0 0, .slice none 0 0] 34 (0, 0))) := ⟨h6_⟩
            have n7_ : Fc (w.heap.size ≤ gb488) := ⟨h7_⟩
            have n8_ : Fc (w.heap.size ≤ gb488) := ⟨h8_⟩
            have n9_ : Fc (gb471 ≠ gb488) := ⟨h9_⟩
            have n10_ : Fc (gb488 ≠ gb471) := ⟨h10_⟩
            have n11_ : Fc (gb479 ≠ gb488) := ⟨h11_⟩
            have n12_ : Fc (gb488 ≠ gb479) := ⟨h12_⟩
            have n13_ : Fc (Below w.heap.size w w49) := ⟨h13_⟩
            clear HO_480000 HO_480001 BK471 BK479 HB h0_ h1_ h2_ h3_ h4_ h5_ h6_ h7_ h8_ h9_ h10_ h11_ h12_ h13_
            have HO483 := n0_
            have HO486 := n1_
            have HO_480000 := n2_
            have HO_480001 := n3_
            have BK471 := n4_
            have BK479 := n5_
            have BK488 := n6_
            have GW488 := n7_
            have GE488 := n8_
            have NB471_488 := n9_
            have NB488_471 := n10_
            have NB479_488 := n11_
            have NB488_479 := n12_
            have HB := n13_
            clear n0_ n1_ n2_ n3_ n4_ n5_ n6_ n7_ n8_ n9_ n10_ n11_ n12_ n13_
            have hHeld : w49.cell? ⟨gb479, 0, none⟩ = some (.slice Ao44 x480000_1.length co44) ∧ w49.cell? ⟨gb479, 1, none⟩ = some (.slice Ao45 x480001_1.length co45) ∧ w49.cell? ⟨gb471, 0, none⟩ = some (.slice A0_0 l0_0.length c0_0) ∧ w49.cell? ⟨gb471, 1, none⟩ = some (.slice A0_1 l0_1.length c0_1) ∧ w49.cell? ⟨gb471, 2, none⟩ = some (.slice (some ad480) l0_2.length c0_2) ∧ w49.cell? (ad480.add ((x4_1).toNat * 6)) = some (.int .i64 ((rd_T62 l0_2 x4_1).f0)) ∧ w49.cell? ⟨(ad480.add ((x4_1).toNat * 6)).block, (ad480.add ((x4_1).toNat * 6)).off + 1, none⟩ = some (.int .i64 ((rd_T62 l0_2 x4_1).f1)) ∧ w49.cell? ⟨(ad480.add ((x4_1).toNat * 6)).block, (ad480.add ((x4_1).toNat * 6)).off + 2, none⟩ = some (.int .i64 ((rd_T62 l0_2 x4_1).f2.f0)) ∧ w49.cell? ⟨(ad480.add ((x4_1).toNat * 6)).block, (ad480.add ((x4_1).toNat * 6)).off + 3, none⟩ = some (.string ((rd_T62 l0_2 x4_1).f2.f1)) ∧ w49.cell? ⟨(ad480.add ((x4_1).toNat * 6)).block, (ad480.add ((x4_1).toNat * 6)).off + 4, none⟩ = some (.string ((rd_T62 l0_2 x4_1).f2.f2)) ∧ w49.cell? ⟨(ad480.add ((x4_1).toNat * 6)).block, (ad480.add ((x4_1).toNat * 6)).off + 5, none⟩ = some (.bool ((rd_T62 l0_2 x4_1).f2.f3)) := hS_
            obtain ⟨Ao50, co50, eo50⟩ := Kd.V_slice HO483.out
            (first | subst eo50 | (injection eo50 with f1_ f2_ f3_; have f4_ := f1_.symm; have f5_ := f3_.symm; clear f1_ f2_ f3_; subst f4_; subst f5_))
            obtain ⟨Ao52, co52, eo52⟩ := Kd.V_slice HO486.out
            (first | subst eo52 | (injection eo52 with f1_ f2_ f3_; have f4_ := f1_.symm; have f5_ := f3_.symm; clear f1_ f2_ f3_; subst f4_; subst f5_))
            refine norm_ (a' := ?_) ?_ ?_
            rotate_left
            ·simp only [putAll, Act.put, List.setIfInBounds_toArray, List.set_cons_zero, List.set_cons_succ]
             rfl
            refine one_ (i := 11) (N := none) (bt 13 4095) rfl rfl (one_of HT_.out (by kernel_rfl)) (by decide) (fun K hK => ?_)
            have hs51 : w49.cell? ⟨gb488, 0, none⟩ = some (.slice none 0 0) := bk_ BK488 0
            have hfs51 := blk_frozen BK488.out 0
            have hns51_0 := NB471_488.out
            have hns51_1 := NB479_488.out
            have hms51_0 := NB488_471.out
            have hms51_1 := NB488_479.out
            have hs53 : w49.cell? ⟨gb488, 1, none⟩ = some (.slice none 0 0) := bk_ BK488 1
            have hfs53 := blk_frozen BK488.out 1
            have hns53_0 := NB471_488.out
            have hns53_1 := NB479_488.out
            have hms53_0 := NB488_471.out
            have hms53_1 := NB488_479.out
            refine skip_ (w1 := ?_) (by rfl) rfl ?_ ?_
            rotate_left
            ·go_simp
             rfl
            refine hK.out _ _ ⟨(cf_ NB479_488.out (cf_ NB479_488.out hHeld.1)), (cf_ NB479_488.out (cf_ NB479_488.out hHeld.2.1)), (cf_ NB471_488.out (cf_ NB471_488.out hHeld.2.2.1)), (cf_ NB471_488.out (cf_ NB471_488.out hHeld.2.2.2.1)), (cf_ NB471_488.out (cf_ NB471_488.out hHeld.2.2.2.2.1)), (cf_ (nb_ hw480_0 GW488) (cf_ (nb_ hw480_0 GW488) hHeld.2.2.2.2.2.1)), (cf_ (nb_ hw480_1 GW488) (cf_ (nb_ hw480_1 GW488) hHeld.2.2.2.2.2.2.1)), (cf_ (nb_ hw480_2 GW488) (cf_ (nb_ hw480_2 GW488) hHeld.2.2.2.2.2.2.2.1)), (cf_ (nb_ hw480_3 GW488) (cf_ (nb_ hw480_3 GW488) hHeld.2.2.2.2.2.2.2.2.1)), (cf_ (nb_ hw480_4 GW488) (cf_ (nb_ hw480_4 GW488) hHeld.2.2.2.2.2.2.2.2.2.1)), (cf_ (nb_ hw480_5 GW488) (cf_ (nb_ hw480_5 GW488) hHeld.2.2.2.2.2.2.2.2.2.2))⟩ (fun hHeld => ?_)
            clear hK K
            refine pq_ HT_.out 12 6 (bt 13 8191) (h := ?_)
            refine done_ (done_of HT_.out (by kernel_rfl)) ?_
            try go_wp2
            go_ret
            exact ⟨by first | rfl | (simp [errW_none, errW_some] <;> rfl) | (simp [*, errW_none, errW_some] <;> rfl), b_ HB⟩
          ·rw [if_neg c26] at H
           exact absurd H (by simp)
         ·rw [if_neg c25] at H
          exact absurd H (by simp)
        ·replace c24 := Bool.eq_false_iff.mpr c24
         subst c24
         rw [if_neg (show ¬ (false = true) by decide)] at H
         replace H := Option.bind_eq_some_iff.mp H
         obtain ⟨t489, A540, H⟩ := H
         try dsimp only at H
         have A54 := mk0 A540
         clear A540
         obtain rfl := Option.some.inj H
         go_wp2_with (first | ((with_reducible refine gate_callee (f := 26) rfl ?_); refine gL_ (some 36) Try.func26 #[] (h := ?_); (with_reducible refine (quorumlaw10_wakes.calls kj17  t489 _ A54.out).mono ?_); rintro e w55 ⟨rfl, hb⟩; refine ⟨_, rfl, ?_⟩; replace HO_480000 := mk0 (Kd.V_below (v_ HO_480000) hb); replace HO_480001 := mk0 (Kd.V_below (v_ HO_480001) hb); replace BK471 := mk0 (u_ BK471 hb); replace BK479 := mk0 (u_ BK479 hb); replace HB := mk0 (bt_ (b_ HB) hb); (try clear hb)))
         go_ret
         exact ⟨by first | rfl | (simp [errW_none, errW_some] <;> rfl) | (simp [*, errW_none, errW_some] <;> rfl), b_ HB⟩

end Go.Proofs.Ytbaecdcfefmcgaa.PPnd
