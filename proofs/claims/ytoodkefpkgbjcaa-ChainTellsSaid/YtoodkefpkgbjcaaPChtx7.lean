-- PRINTED by print.py (a twelfth state) out of the translation. Not trusted: Lean checks it.
import Derived.Test.YtoodkefpkgbjcaaPChtx0
import Derived.Test.YtoodkefpkgbjcaaPChtx4
import Derived.Test.YtoodkefpkgbjcaaPChtx6
namespace Go.Proofs.Ytoodkefpkgbjcaa.PCht
open Go.RowKit Go.Proofs.YtoodkefpkgbjcaaW.PrintWords Go.Proofs.YtoodkefpkgbjcaaW.PrintLast Go.Proofs.YtoodkefpkgbjcaaW.PrintMore
attribute [local go_sem] max2_int min2_int max_two min_two max_three min_three max_four min_four   -- for this text's walks alone
set_option linter.unusedVariables false
set_option linter.unusedSimpArgs false

/-! ### quorumlaw8_wakes: function 31 -/
def quorumlaw8_wakes.f (k : Nat)  : Option (Bool) := (chain_New.f k (⟨#[97]⟩ : ByteArray) 2 (⟨#[118]⟩ : ByteArray) false).bind fun bt250 => ((chain_At.f k bt250.1 bt250.2.1 3).bind fun bt256 => ((chain_At.f k bt250.1 bt250.2.1 1).bind fun bt261 => ((quorumlaw8_num.f bt250.2.2).bind fun t266 => (if t266 = 0 then ((quorumlaw8_num.f bt256.2.2.2).bind fun t267 => (if t267 = 0 then ((quorumlaw8_num.f bt261.2.2.2).bind fun t268 => (if t268 = 3 then (some (bt256.2.1.toList == ([118] : List UInt8))) else (some false))) else (some false))) else (some false)))))
theorem quorumlaw8_wakes.mono : ∀ k, LeO (quorumlaw8_wakes.f k ) (quorumlaw8_wakes.f (k + 1) ) := by
 intro  k
 unfold quorumlaw8_wakes.f
 repeat' first
   | (with_reducible exact chain_At.mono _ _ _ _)
   | (with_reducible exact chain_New.mono _ _ _ _ _)
   | (with_reducible exact LeO.refl _)
   | (with_reducible exact LeO.none _)
   | (with_reducible refine LeO.ite ?_ ?_)
   | (with_reducible refine LeO.bind ?_ (fun _ => ?_))
   | exact chain_At.mono _ _ _ _
   | exact chain_New.mono _ _ _ _ _
   | exact LeO.none _
   | refine LeO.ite ?_ ?_
   | refine LeO.bind ?_ (fun _ => ?_)
set_option maxHeartbeats 8000000 in
set_option maxRecDepth 100000 in
theorem quorumlaw8_wakes.calls (k : Nat)  (r : Bool) (w : World) (h : quorumlaw8_wakes.f k  = some r) :
  Calls Try.prog 31 #[] w fun e w' => e = .returned (.bool r) ∧ Below w.heap.size w w' := by
 have hu39 := Try.underlying39
 have hu30 := Try.underlying30
 have HB := mk0 (Below.refl w.heap.size w)
 have H : ((chain_New.f k (⟨#[97]⟩ : ByteArray) 2 (⟨#[118]⟩ : ByteArray) false).bind fun bt250 => ((chain_At.f k bt250.1 bt250.2.1 3).bind fun bt256 => ((chain_At.f k bt250.1 bt250.2.1 1).bind fun bt261 => ((quorumlaw8_num.f bt250.2.2).bind fun t266 => (if t266 = 0 then ((quorumlaw8_num.f bt256.2.2.2).bind fun t267 => (if t267 = 0 then ((quorumlaw8_num.f bt261.2.2.2).bind fun t268 => (if t268 = 3 then (some (bt256.2.1.toList == ([118] : List UInt8))) else (some false))) else (some false))) else (some false)))))) = some r := h
 clear h
 replace H := Option.bind_eq_some_iff.mp H
 obtain ⟨⟨t250, t251, t254⟩, A10, H⟩ := H
 try dsimp only at H
 have A1 := mk0 A10
 clear A10
 replace H := Option.bind_eq_some_iff.mp H
 obtain ⟨⟨t256, t257, t258, t259⟩, A20, H⟩ := H
 try dsimp only at H
 have A2 := mk0 A20
 clear A20
 replace H := Option.bind_eq_some_iff.mp H
 obtain ⟨⟨t261, t262, t263, t264⟩, A30, H⟩ := H
 try dsimp only at H
 have A3 := mk0 A30
 clear A30
 replace H := Option.bind_eq_some_iff.mp H
 obtain ⟨t266, A40, H⟩ := H
 try dsimp only at H
 have A4 := mk0 A40
 clear A40
 by_cases c5 : t266 = 0
 focus
  rw [if_pos c5] at H
  have c5b0 : (t266 == 0) = true := beq_iff_eq.mpr c5
  have c5b1 : (t266 != 0) = false := bne_eq_false_iff_eq.mpr c5
  clear c5
  replace H := Option.bind_eq_some_iff.mp H
  obtain ⟨t267, A60, H⟩ := H
  try dsimp only at H
  have A6 := mk0 A60
  clear A60
  by_cases c7 : t267 = 0
  focus
   rw [if_pos c7] at H
   have c7b0 : (t267 == 0) = true := beq_iff_eq.mpr c7
   have c7b1 : (t267 != 0) = false := bne_eq_false_iff_eq.mpr c7
   clear c7
   replace H := Option.bind_eq_some_iff.mp H
   obtain ⟨t268, A80, H⟩ := H
   try dsimp only at H
   have A8 := mk0 A80
   clear A80
   by_cases c9 : t268 = 3
   focus
    rw [if_pos c9] at H
    have c9b0 : (t268 == 3) = true := beq_iff_eq.mpr c9
    have c9b1 : (t268 != 3) = false := bne_eq_false_iff_eq.mpr c9
    clear c9
    obtain rfl := Option.some.inj H
    go_enter Try.func31, Try.ntmps31
   rotate_left 1
   focus
    rw [if_neg c9] at H
    have c9b0 : (t268 == 3) = false := beq_eq_false_iff_ne.mpr c9
    have c9b1 : (t268 != 3) = true := bne_iff_ne.mpr c9
    obtain rfl := Option.some.inj H
    go_enter Try.func31, Try.ntmps31
   rotate_right 1
  rotate_left 2
  focus
   rw [if_neg c7] at H
   have c7b0 : (t267 == 0) = false := beq_eq_false_iff_ne.mpr c7
   have c7b1 : (t267 != 0) = true := bne_iff_ne.mpr c7
   obtain rfl := Option.some.inj H
   go_enter Try.func31, Try.ntmps31
  rotate_right 2
 rotate_left 3
 focus
  rw [if_neg c5] at H
  have c5b0 : (t266 == 0) = false := beq_eq_false_iff_ne.mpr c5
  have c5b1 : (t266 != 0) = true := bne_iff_ne.mpr c5
  obtain rfl := Option.some.inj H
  go_enter Try.func31, Try.ntmps31
 rotate_right 3
 all_goals go_wp2_with (first | ((with_reducible refine gate_callee (f := 28) rfl ?_); refine gL_ (some 9) Try.func28 #[.string (⟨#[97]⟩ : ByteArray), .agg #[.int .i64 2, .string (⟨#[118]⟩ : ByteArray), .bool false]] (h := ?_); (with_reducible refine (chain_New.calls k (⟨#[97]⟩ : ByteArray) 2 (⟨#[118]⟩ : ByteArray) false t250 t251 t254 _ A1.out).mono ?_); rintro e w10 ⟨v252, rfl, ho0, hb⟩; refine ⟨_, rfl, ?_⟩; have n0_ := mk0 (Kd.R_lower ho0 (bz_ (b_ HB))); replace HB := mk0 (bt_ (b_ HB) hb); have HO253 := n0_; clear n0_; (try clear hb); (try clear ho0)) | ((with_reducible refine gate_dst (N := 1) rfl ?_); refine bx_ (N := 1) (cs := #[.string (⟨#[]⟩ : ByteArray), .slice none 0 0]) (t := 30) (h := ?_); intro gb255 hg w11 hbox hb; have n3_ := mk0 (gz_ HB hg); have n4_ := mk0 (gz_ HB hg); replace HO253 := mk0 (Kd.R_below (r_ HO253) hb); replace HB := mk0 (bt_ (b_ HB) hb); have BK255 := mk0 (hbox); have GW255 := n3_; have GE255 := n4_; clear n3_ n4_ hb hbox hg; obtain ⟨hcz12_0, hcz12_1, hfz12_0, hfz12_1⟩ := c2_ BK255; obtain ⟨Ao13, co13, eo13⟩ := Kd.R_slice HO253.out; subst eo13) | ((with_reducible refine gate_callee (f := 21) rfl ?_); refine gL_ (some 14) Try.func21 #[.agg #[.string t250, .slice Ao13 t251.length co13], .int .i64 3] (h := ?_); (with_reducible refine (chain_At.calls k t250 _ _ t251 3 t256 t257 t258 t259 _ ?side1 ?side2 A2.out).mono ?_); (case side1 => refine (Kd.R_reads' (e := 39) (base := w.heap.size) (ok := fun k_ => True) (n := t251.length) (c := co13) ?_).2.2; exact (r2_ (Kd.R_mono (Kd.R_far (p := ⟨gb255, 1, none⟩) (Kd.R_far (p := ⟨gb255, 0, none⟩) (Kd.R_types HO253.out BK255.out (by decide)) (fun _ hk => hk.2) (.string t250)) (fun _ hk => hk.2) (.slice Ao13 t251.length co13)) (fun _ h_ => h_.1)))); (case side2 => exact (Kd.R_reads' HO253.out).2.1); rintro e w14 ⟨rfl, hb⟩; refine ⟨_, rfl, ?_⟩; have n0_ := mk0 (Kd.R_below (r2_ (Kd.R_mono (Kd.R_far (p := ⟨gb255, 1, none⟩) (Kd.R_far (p := ⟨gb255, 0, none⟩) (Kd.R_types HO253.out BK255.out (by decide)) (fun _ hk => hk.2) (.string t250)) (fun _ hk => hk.2) (.slice Ao13 t251.length co13)) (fun _ h_ => h_.1))) hb); replace BK255 := mk0 (blk_below (g := gb255) (o := .cells #[.string t250, .slice Ao13 t251.length co13] 30 (0, 0)) (pu_ (cs := #[.string t250, .slice none 0 0]) (pu_ (cs := #[.string (⟨#[]⟩ : ByteArray), .slice none 0 0]) (h_ BK255))) hb); replace HB := mk0 (bt_ (b_ HB) hb); clear HO253; have HO253 := n0_; clear n0_; (try clear hb)) | ((with_reducible refine gate_dst (N := 3) rfl ?_); refine bx_ (N := 3) (cs := #[.int .i64 0, .string (⟨#[]⟩ : ByteArray), .bool false]) (t := 39) (h := ?_); intro gb260 hg w15 hbox hb; have n4_ := mk0 (gz_ HB hg); have n5_ := mk0 (gz_ HB hg); have n6_ := mk0 (ne1_ BK255 hg); have n7_ := mk0 (ne2_ BK255 hg); replace HO253 := mk0 (Kd.R_below (Kd.R_elderB (r_ HO253) gb260 (Nat.le_of_eq hg.symm)) hb); replace BK255 := mk0 (u_ BK255 hb); replace HB := mk0 (bt_ (b_ HB) hb); have BK260 := mk0 (hbox); have GW260 := n4_; have GE260 := n5_; have NB255_260 := n6_; have NB260_255 := n7_; clear n4_ n5_ n6_ n7_ hb hbox hg; have hnb16 := NB260_255.out; have hnc16 := NB255_260.out; obtain ⟨hcz17_0, hcz17_1, hcz17_2, hfz17_0, hfz17_1, hfz17_2⟩ := c3_ BK260; obtain ⟨hcz18_0, hcz18_1, hfz18_0, hfz18_1⟩ := c2_ BK255) | ((with_reducible refine gate_callee (f := 21) rfl ?_); refine gL_ (some 19) Try.func21 #[.agg #[.string t250, .slice Ao13 t251.length co13], .int .i64 1] (h := ?_); (with_reducible refine (chain_At.calls k t250 _ _ t251 1 t261 t262 t263 t264 _ ?side1 ?side2 A3.out).mono ?_); (case side1 => refine (Kd.R_reads' (e := 39) (base := w.heap.size) (ok := fun k_ => (True ∧ k_ ≠ gb260)) (n := t251.length) (c := co13) ?_).2.2; exact (r2_ (Kd.R_mono (Kd.R_far (p := ⟨gb260, 2, none⟩) (Kd.R_far (p := ⟨gb260, 1, none⟩) (Kd.R_far (p := ⟨gb260, 0, none⟩) (Kd.R_mono HO253.out (fun k_ hk => (⟨hk, hk.2⟩ : _ ∧ k_ ≠ gb260))) (fun _ hk => hk.2) (.int .i64 t256)) (fun _ hk => hk.2) (.string t257)) (fun _ hk => hk.2) (.bool t258)) (fun _ h_ => h_.1)))); (case side2 => exact (Kd.R_reads' HO253.out).2.1); rintro e w19 ⟨rfl, hb⟩; refine ⟨_, rfl, ?_⟩; replace HO253 := mk0 (Kd.R_below (r2_ (Kd.R_mono (Kd.R_far (p := ⟨gb260, 2, none⟩) (Kd.R_far (p := ⟨gb260, 1, none⟩) (Kd.R_far (p := ⟨gb260, 0, none⟩) (Kd.R_mono HO253.out (fun k_ hk => (⟨hk, hk.2⟩ : _ ∧ k_ ≠ gb260))) (fun _ hk => hk.2) (.int .i64 t256)) (fun _ hk => hk.2) (.string t257)) (fun _ hk => hk.2) (.bool t258)) (fun _ h_ => h_.1))) hb); replace BK255 := mk0 (blk_below (g := gb255) (o := .cells #[.string t250, .slice Ao13 t251.length co13] 30 (0, 0)) (fa_ (fa_ (fa_ (h_ BK255) NB255_260.out) NB255_260.out) NB255_260.out) hb); replace BK260 := mk0 (blk_below (g := gb260) (o := .cells #[.int .i64 t256, .string t257, .bool t258] 39 (0, 0)) (pu_ (cs := #[.int .i64 t256, .string t257, .bool false]) (pu_ (cs := #[.int .i64 t256, .string (⟨#[]⟩ : ByteArray), .bool false]) (pu_ (cs := #[.int .i64 0, .string (⟨#[]⟩ : ByteArray), .bool false]) (h_ BK260)))) hb); replace HB := mk0 (bt_ (b_ HB) hb); (try clear hb)) | ((with_reducible refine gate_dst (N := 5) rfl ?_); refine bx_ (N := 5) (cs := #[.int .i64 0, .string (⟨#[]⟩ : ByteArray), .bool false]) (t := 39) (h := ?_); intro gb265 hg w20 hbox hb; have n5_ := mk0 (gz_ HB hg); have n6_ := mk0 (gz_ HB hg); have n7_ := mk0 (ne1_ BK255 hg); have n8_ := mk0 (ne2_ BK255 hg); have n9_ := mk0 (ne1_ BK260 hg); have n10_ := mk0 (ne2_ BK260 hg); replace HO253 := mk0 (Kd.R_below (Kd.R_elderB (r_ HO253) gb265 (Nat.le_of_eq hg.symm)) hb); replace BK255 := mk0 (u_ BK255 hb); replace BK260 := mk0 (u_ BK260 hb); replace HB := mk0 (bt_ (b_ HB) hb); have BK265 := mk0 (hbox); have GW265 := n5_; have GE265 := n6_; have NB255_265 := n7_; have NB265_255 := n8_; have NB260_265 := n9_; have NB265_260 := n10_; clear n5_ n6_ n7_ n8_ n9_ n10_ hb hbox hg; have hnb21 := NB265_255.out; have hnc21 := NB255_265.out; have hnb22 := NB265_260.out; have hnc22 := NB260_265.out; obtain ⟨hcz23_0, hcz23_1, hcz23_2, hfz23_0, hfz23_1, hfz23_2⟩ := c3_ BK265) | ((with_reducible refine gate_callee (f := 19) rfl ?_); refine gL_ (some 23) Try.func19 #[.int .i64 t254] (h := ?_); (with_reducible refine (quorumlaw8_num.calls t254 t266 _ A4.out).mono ?_); rintro e w' ⟨rfl, ⟨nd, rfl⟩⟩; refine ⟨_, rfl, ?_⟩) | (go_at_call 19; (with_reducible refine (quorumlaw8_num.calls t259 t267 _ A6.out).mono ?_); rintro e w' ⟨rfl, ⟨nd, rfl⟩⟩) | (go_at_call 19; (with_reducible refine (quorumlaw8_num.calls t264 t268 _ A8.out).mono ?_); rintro e w' ⟨rfl, ⟨nd, rfl⟩⟩; obtain ⟨hcz24_0, hcz24_1, hcz24_2, hfz24_0, hfz24_1, hfz24_2⟩ := c3_ BK260) | ((with_reducible refine gate_callee (f := 19) rfl ?_); refine gL_ (some 23) Try.func19 #[.int .i64 t254] (h := ?_); (with_reducible refine (quorumlaw8_num.calls t254 t266 _ A4.out).mono ?_); rintro e w' ⟨rfl, ⟨nd, rfl⟩⟩; refine ⟨_, rfl, ?_⟩) | (go_at_call 19; (with_reducible refine (quorumlaw8_num.calls t259 t267 _ A6.out).mono ?_); rintro e w' ⟨rfl, ⟨nd, rfl⟩⟩) | (go_at_call 19; (with_reducible refine (quorumlaw8_num.calls t264 t268 _ A8.out).mono ?_); rintro e w' ⟨rfl, ⟨nd, rfl⟩⟩) | ((with_reducible refine gate_callee (f := 19) rfl ?_); refine gL_ (some 23) Try.func19 #[.int .i64 t254] (h := ?_); (with_reducible refine (quorumlaw8_num.calls t254 t266 _ A4.out).mono ?_); rintro e w' ⟨rfl, ⟨nd, rfl⟩⟩; refine ⟨_, rfl, ?_⟩) | (go_at_call 19; (with_reducible refine (quorumlaw8_num.calls t259 t267 _ A6.out).mono ?_); rintro e w' ⟨rfl, ⟨nd, rfl⟩⟩) | ((with_reducible refine gate_callee (f := 19) rfl ?_); refine gL_ (some 23) Try.func19 #[.int .i64 t254] (h := ?_); (with_reducible refine (quorumlaw8_num.calls t254 t266 _ A4.out).mono ?_); rintro e w' ⟨rfl, ⟨nd, rfl⟩⟩; refine ⟨_, rfl, ?_⟩))
 ·go_ret
  exact ⟨by first | rfl | (simp [errW_none, errW_some] <;> rfl) | (simp [*, errW_none, errW_some] <;> rfl), b_ HB⟩
 ·go_ret
  exact ⟨by first | rfl | (simp [errW_none, errW_some] <;> rfl) | (simp [*, errW_none, errW_some] <;> rfl), b_ HB⟩
 ·go_ret
  exact ⟨by first | rfl | (simp [errW_none, errW_some] <;> rfl) | (simp [*, errW_none, errW_some] <;> rfl), b_ HB⟩
 ·go_ret
  exact ⟨by first | rfl | (simp [errW_none, errW_some] <;> rfl) | (simp [*, errW_none, errW_some] <;> rfl), b_ HB⟩

end Go.Proofs.Ytoodkefpkgbjcaa.PCht
