-- PRINTED by print.py (a twelfth state) out of the translation. Not trusted: Lean checks it.
import Derived.Test.YtbaecdcfefmcgaaPTbex0
import Derived.Test.YtbaecdcfefmcgaaPTbex4
import Derived.Test.YtbaecdcfefmcgaaPTbex10
import Derived.Test.YtbaecdcfefmcgaaPTbex15
import Derived.Test.YtbaecdcfefmcgaaPTbex17
import Derived.Test.YtbaecdcfefmcgaaHTabW
namespace Go.Proofs.Ytbaecdcfefmcgaa.PTbe
open Go.RowKit Go.Proofs.YtbaecdcfefmcgaaW.PrintWords Go.Proofs.YtbaecdcfefmcgaaW.PrintLast Go.Proofs.YtbaecdcfefmcgaaW.PrintMore
attribute [local go_sem] max2_int min2_int max_two min_two max_three min_three max_four min_four   -- for this text's walks alone
set_option maxHeartbeats 8000000
set_option maxRecDepth 100000
set_option linter.unusedVariables false
set_option linter.unusedSimpArgs false
/-! ### quorumlaw9_wakes: function 31 -/
def quorumlaw9_wakes.f (k : Nat)  : Option (Bool) := (table_Put.f k ([] : List (S99)) (⟨#[97]⟩ : ByteArray) 4 (⟨#[118]⟩ : ByteArray) false).bind fun bt552 => ((table_Get.f k bt552.1 (⟨#[97]⟩ : ByteArray) 3).bind fun bt557 => ((table_Get.f k bt552.1 (⟨#[97]⟩ : ByteArray) 4).bind fun bt559 => ((quorumlaw9_num.f bt552.2).bind fun t561 => (if t561 = 0 then ((quorumlaw9_num.f bt557.2).bind fun t562 => (if t562 = 3 then ((quorumlaw9_num.f bt559.2).bind fun t563 => (if t563 = 0 then (some (bt559.1.toList == ([118] : List UInt8))) else (some false))) else (some false))) else (some false)))))
theorem quorumlaw9_wakes.mono : ∀ k, LeO (quorumlaw9_wakes.f k ) (quorumlaw9_wakes.f (k + 1) ) := by
 intro  k
 unfold quorumlaw9_wakes.f
 repeat' first | (with_reducible exact table_Get.mono ..) | (with_reducible exact table_Put.mono ..) | (with_reducible exact LeO.refl _) | (with_reducible exact LeO.none _) | (with_reducible refine LeO.ite ?_ ?_) | (with_reducible refine LeO.bind ?_ (fun _ => ?_)) | exact LeO.none _ | refine LeO.ite ?_ ?_ | refine LeO.bind ?_ (fun _ => ?_)
theorem quorumlaw9_wakes.calls (k : Nat)  (r : Bool) (w : World) (h : quorumlaw9_wakes.f k  = some r) :
  Calls Try.prog 31 #[] w fun e w' => e = .returned (.bool r) ∧ Below w.heap.size w w' := by
 have hu47 := Try.underlying47
 have hu72 := Try.underlying72
 have HB := mk0 (Below.refl w.heap.size w)
 have H : ((table_Put.f k ([] : List (S99)) (⟨#[97]⟩ : ByteArray) 4 (⟨#[118]⟩ : ByteArray) false).bind fun bt552 => ((table_Get.f k bt552.1 (⟨#[97]⟩ : ByteArray) 3).bind fun bt557 => ((table_Get.f k bt552.1 (⟨#[97]⟩ : ByteArray) 4).bind fun bt559 => ((quorumlaw9_num.f bt552.2).bind fun af => (if af = 0 then ((quorumlaw9_num.f bt557.2).bind fun ah => (if ah = 3 then ((quorumlaw9_num.f bt559.2).bind fun aj => (if aj = 0 then (some (bt559.1.toList == ([118] : List UInt8))) else (some false))) else (some false))) else (some false)))))) = some r := h
 clear h
 replace H := ob_ H
 obtain ⟨⟨ac, ae⟩, A1, H⟩ := H
 try dsimp only at H
 replace H := ob_ H
 obtain ⟨⟨am, ak⟩, A2, H⟩ := H
 try dsimp only at H
 replace H := ob_ H
 obtain ⟨⟨an, al⟩, A3, H⟩ := H
 try dsimp only at H
 replace H := ob_ H
 obtain ⟨af, A4, H⟩ := H
 try dsimp only at H
 by_cases c5 : af = 0
 focus
  rw [if_pos c5] at H
  have ao := beq_iff_eq.mpr c5
  have ap := bne_eq_false_iff_eq.mpr c5
  clear c5
  replace H := ob_ H
  obtain ⟨ah, A6, H⟩ := H
  try dsimp only at H
  by_cases c7 : ah = 3
  focus
   rw [if_pos c7] at H
   have aq := beq_iff_eq.mpr c7
   have ar := bne_eq_false_iff_eq.mpr c7
   clear c7
   replace H := ob_ H
   obtain ⟨aj, A8, H⟩ := H
   try dsimp only at H
   by_cases c9 : aj = 0
   focus
    rw [if_pos c9] at H
    have au := beq_iff_eq.mpr c9
    have av := bne_eq_false_iff_eq.mpr c9
    clear c9
    obtain rfl := Option.some.inj H
    go_enter Try.func31, Try.ntmps31
   rotate_left 1
   focus
    rw [if_neg c9] at H
    have au := beq_eq_false_iff_ne.mpr c9
    have av := bne_iff_ne.mpr c9
    obtain rfl := Option.some.inj H
    go_enter Try.func31, Try.ntmps31
   rotate_right 1
  rotate_left 2
  focus
   rw [if_neg c7] at H
   have aq := beq_eq_false_iff_ne.mpr c7
   have ar := bne_iff_ne.mpr c7
   obtain rfl := Option.some.inj H
   go_enter Try.func31, Try.ntmps31
  rotate_right 2
 rotate_left 3
 focus
  rw [if_neg c5] at H
  have ao := beq_eq_false_iff_ne.mpr c5
  have ap := bne_iff_ne.mpr c5
  obtain rfl := Option.some.inj H
  go_enter Try.func31, Try.ntmps31
 rotate_right 3
 all_goals go_wp2_with (first | ((with_reducible refine gate_callee (f := 84) rfl ?_); refine gL_ (some 10) Try.func84 #[.agg #[.slice none 0 0], .string (⟨#[97]⟩ : ByteArray), .agg #[.int .i64 4, .string (⟨#[118]⟩ : ByteArray), .bool false]] (h := ?_); (refine (table_Put.calls k _ _ ([] : List (S99)) (⟨#[97]⟩ : ByteArray) 4 (⟨#[118]⟩ : ByteArray) false ac ae _ ?side1 ?side2 A1.out).mono ?_); (case side1 => exact Kd.C_nil _ _); (case side2 => exact Nat.le_refl _); rintro e aG ⟨aF, rfl, ho0, hb⟩; refine ⟨_, rfl, ?_⟩; have aw := mk0 (Kd.N_mono (ok' := fun k_ => True) (HTabU.N_of ho0) (fun k_ hk_ => trivial)); replace HB := mk0 (bt_ (b_ HB) hb); have aa := aw; clear aw; (try clear hb); (try clear ho0)) | ((with_reducible refine gate_dst (N := 1) rfl ?_); refine bx_ (N := 1) (cs := #[.slice none 0 0]) (t := 47) (h := ?_); intro ab hg aH hbox hb; have aD := mk0 (gz_ HB hg); have ax := mk0 (gz_ HB hg); replace aa := mk0 (Kd.N_below (Kd.N_elderB (nn_ aa) ab (Nat.le_of_eq hg.symm)) hb); replace HB := mk0 (bt_ (b_ HB) hb); have ad := mk0 (hbox); have aE := ax; clear aD ax hb hbox hg; obtain ⟨ai, ag, ay⟩ := Kd.N_slice aa.out; subst ay; obtain ⟨az, aA⟩ := c1_ ad) | ((with_reducible refine gate_callee (f := 73) rfl ?_); refine gL_ (some 15) Try.func73 #[.agg #[.slice ai ac.length ag], .string (⟨#[97]⟩ : ByteArray), .int .i64 3] (h := ?_); (with_reducible refine (table_Get.calls k _ _ ac (⟨#[97]⟩ : ByteArray) 3 am ak _ ?side1 ?side2 A2.out).mono ?_); (case side1 => refine (Kd.N_reads' (e := 99) (base := w.heap.size) (ok := fun k_ => (True ∧ k_ ≠ ab)) (n := ac.length) (c := ag) ?_).2.2; exact (n2_ (Kd.N_mono (Kd.N_far (p := ⟨ab, 0, none⟩) (Kd.N_mono aa.out (fun k_ hk => (⟨hk, hk.2⟩ : _ ∧ k_ ≠ ab))) (fun _ hk => hk.2) (.slice ai ac.length ag)) (fun _ h_ => h_.1)))); (case side2 => exact (Kd.N_reads' aa.out).2.1); rintro e aI ⟨rfl, hb⟩; refine ⟨_, rfl, ?_⟩; replace aa := mk0 (Kd.N_below (n2_ (Kd.N_mono (Kd.N_far (p := ⟨ab, 0, none⟩) (Kd.N_mono aa.out (fun k_ hk => (⟨hk, hk.2⟩ : _ ∧ k_ ≠ ab))) (fun _ hk => hk.2) (.slice ai ac.length ag)) (fun _ h_ => h_.1))) hb); replace ad := mk0 (blk_below (g := ab) (o := .cells #[.slice ai ac.length ag] 47 (0, 0)) (pu_ (cs := #[.slice none 0 0]) (h_ ad)) hb); replace HB := mk0 (bt_ (b_ HB) hb); (try clear hb); obtain ⟨aB, aC⟩ := c1_ ad) | ((with_reducible refine gate_callee (f := 73) rfl ?_); refine gL_ (some 20) Try.func73 #[.agg #[.slice ai ac.length ag], .string (⟨#[97]⟩ : ByteArray), .int .i64 4] (h := ?_); (with_reducible refine (table_Get.calls k _ _ ac (⟨#[97]⟩ : ByteArray) 4 an al _ ?side1 ?side2 A3.out).mono ?_); (case side1 => exact cn_ aa); (case side2 => exact (Kd.N_reads' aa.out).2.1); rintro e aJ ⟨rfl, hb⟩; refine ⟨_, rfl, ?_⟩; replace aa := mk0 (Kd.N_below (nn_ aa) hb); replace ad := mk0 (u_ ad hb); replace HB := mk0 (bt_ (b_ HB) hb); (try clear hb)) | ((with_reducible refine gate_callee (f := 76) rfl ?_); refine gL_ (some 24) Try.func76 #[.int .i64 ae] (h := ?_); (with_reducible refine (quorumlaw9_num.calls ae af _ A4.out).mono ?_); rintro e w' ⟨rfl, ⟨nd, rfl⟩⟩; refine ⟨_, rfl, ?_⟩) | (go_at_call 76; (with_reducible refine (quorumlaw9_num.calls ak ah _ A6.out).mono ?_); rintro e w' ⟨rfl, ⟨nd, rfl⟩⟩) | (go_at_call 76; (with_reducible refine (quorumlaw9_num.calls al aj _ A8.out).mono ?_); rintro e w' ⟨rfl, ⟨nd, rfl⟩⟩) | ((with_reducible refine gate_callee (f := 76) rfl ?_); refine gL_ (some 24) Try.func76 #[.int .i64 ae] (h := ?_); (with_reducible refine (quorumlaw9_num.calls ae af _ A4.out).mono ?_); rintro e w' ⟨rfl, ⟨nd, rfl⟩⟩; refine ⟨_, rfl, ?_⟩) | (go_at_call 76; (with_reducible refine (quorumlaw9_num.calls ak ah _ A6.out).mono ?_); rintro e w' ⟨rfl, ⟨nd, rfl⟩⟩) | ((with_reducible refine gate_callee (f := 76) rfl ?_); refine gL_ (some 24) Try.func76 #[.int .i64 ae] (h := ?_); (with_reducible refine (quorumlaw9_num.calls ae af _ A4.out).mono ?_); rintro e w' ⟨rfl, ⟨nd, rfl⟩⟩; refine ⟨_, rfl, ?_⟩))
 ·go_ret
  exact ⟨sa_, b_ HB⟩
 ·go_ret
  exact ⟨sa_, b_ HB⟩
 ·go_ret
  exact ⟨sa_, b_ HB⟩
 ·go_ret
  exact ⟨sa_, b_ HB⟩
/-! ### quorumlaw9_TableExact: function 9 -/
mutual
def quorumlaw9_TableExact.l0 : Nat → Int → List (S99) → List (S76) → List (S99) → Option (Bool)
 | 0, _, _, _, _ => none
 | k + 1, x4, x565000, x565001, x570000 => if x4 < (x565001.length : Int) then (quorumlaw9_TableExact.j1 k x4 (decide (x4 < 16)) x565000 x565001 x570000) else (quorumlaw9_TableExact.j1 k x4 false x565000 x565001 x570000)
def quorumlaw9_TableExact.j1 : Nat → Int → Bool → List (S99) → List (S76) → List (S99) → Option (Bool)
 | 0, _, _, _, _, _ => none
 | k + 1, x4, x20, x565000, x565001, x570000 => if x20 = true then (if 0 ≤ x4 then (if x4 < (x565001.length : Int) then ((quorumlaw9_step.f k x570000 ((rd_T76 x565001 x4).f0) ((rd_T76 x565001 x4).f1) ((rd_T76 x565001 x4).f2) ((rd_T76 x565001 x4).f3) ((rd_T76 x565001 x4).f4.f0) ((rd_T76 x565001 x4).f4.f1) ((rd_T76 x565001 x4).f4.f2) ((rd_T76 x565001 x4).f5.f0) ((rd_T76 x565001 x4).f5.f1) ((rd_T76 x565001 x4).f5.f2) ((rd_T76 x565001 x4).f6)).bind fun bt571 => (if bt571.2 = true then (quorumlaw9_TableExact.l0 k (wrap64 (x4 + 1)) x565000 x565001 bt571.1) else (some false))) else (none)) else (none)) else ((quorumlaw9_wakes.f k).bind fun t576 => (some t576))
end
def quorumlaw9_TableExact.f (k : Nat) (l0_0 : List (S99)) (l0_1 : List (S76)) : Option (Bool) := (quorumlaw9_Heavy.f k l0_0 l0_1).bind fun t565 => (if t565 = true then (some true) else ((quorumref0_CopyTable.f k l0_0).bind fun t566 => (quorumlaw9_TableExact.l0 k 0 l0_0 l0_1 t566)))
theorem quorumlaw9_TableExact.mono_l : ∀ k, (∀ y0 y1 y2 y3, LeO (quorumlaw9_TableExact.l0 k y0 y1 y2 y3) (quorumlaw9_TableExact.l0 (k + 1) y0 y1 y2 y3)) ∧ (∀ y0 y1 y2 y3 y4, LeO (quorumlaw9_TableExact.j1 k y0 y1 y2 y3 y4) (quorumlaw9_TableExact.j1 (k + 1) y0 y1 y2 y3 y4))
 | 0 => ⟨fun _ _ _ _ r h => by simp [quorumlaw9_TableExact.l0] at h, fun _ _ _ _ _ r h => by simp [quorumlaw9_TableExact.j1] at h⟩
 | k + 1 => by
  obtain ⟨ih0, ih1⟩ := quorumlaw9_TableExact.mono_l k
  refine ⟨?_, ?_⟩
  all_goals (intros; first | unfold quorumlaw9_TableExact.l0 | unfold quorumlaw9_TableExact.j1)
  all_goals (repeat' first | (with_reducible exact ih0 ..) | (with_reducible exact ih1 ..) | (with_reducible exact quorumlaw9_Heavy.mono ..) | (with_reducible exact quorumlaw9_step.mono ..) | (with_reducible exact quorumlaw9_wakes.mono ..) | (with_reducible exact quorumref0_CopyTable.mono ..) | (with_reducible exact LeO.refl _) | (with_reducible exact LeO.none _) | (with_reducible refine LeO.ite ?_ ?_) | (with_reducible refine LeO.bind ?_ (fun _ => ?_)) | exact LeO.none _ | refine LeO.ite ?_ ?_ | refine LeO.bind ?_ (fun _ => ?_))
theorem quorumlaw9_TableExact.mono : ∀ a0 a1 k, LeO (quorumlaw9_TableExact.f k a0 a1) (quorumlaw9_TableExact.f (k + 1) a0 a1) := by
 intro a0 a1 k
 obtain ⟨ih0, ih1⟩ := quorumlaw9_TableExact.mono_l k
 unfold quorumlaw9_TableExact.f
 repeat' first | (with_reducible exact ih0 ..) | (with_reducible exact ih1 ..) | (with_reducible exact quorumlaw9_Heavy.mono ..) | (with_reducible exact quorumlaw9_step.mono ..) | (with_reducible exact quorumlaw9_wakes.mono ..) | (with_reducible exact quorumref0_CopyTable.mono ..) | (with_reducible exact LeO.refl _) | (with_reducible exact LeO.none _) | (with_reducible refine LeO.ite ?_ ?_) | (with_reducible refine LeO.bind ?_ (fun _ => ?_)) | exact LeO.none _ | refine LeO.ite ?_ ?_ | refine LeO.bind ?_ (fun _ => ?_)
def quorumlaw9_TableExact.T7 : Bool × List (List Nat × List Nat) := (true, [([], []), ([], []), ([1], [1]), ([], []), ([2, 3], [2, 3]), ([4], [4]), ([0, 5], [0, 5]), ([6], [6]), ([7], [7]), ([7], [7]), ([], []), ([10, 8, 6, 0, 1, 2, 3, 4, 5, 6, 7, 8, 10], [8, 10]), ([9, 11, 0, 1, 2, 3, 4, 5, 6, 7, 8, 9, 10, 11], [9])])
def quorumlaw9_TableExact.B7 : List Nat := [0, 0, 2, 0, 14, 30, 63, 127, 255, 255, 0, 1535, 4095]
theorem quorumlaw9_TableExact.tab7 : rtab .any (opsOf Try.f9 7) = quorumlaw9_TableExact.T7 := by kernel_rfl
theorem quorumlaw9_TableExact.bits7 : waitsOk quorumlaw9_TableExact.T7.2 quorumlaw9_TableExact.B7 = true := by kernel_rfl
theorem quorumlaw9_TableExact.calls (k : Nat) (A0_0 : Option Addr) (c0_0 : Nat) (l0_0 : List (S99)) (A0_1 : Option Addr) (c0_1 : Nat) (l0_1 : List (S76)) (r : Bool) (w : World) (hr0_0 : Kd.C k99 w A0_0 l0_0.length l0_0) (hc0_0 : l0_0.length ≤ c0_0) (hr0_1 : Kd.C k76 w A0_1 l0_1.length l0_1) (hc0_1 : l0_1.length ≤ c0_1) (h : quorumlaw9_TableExact.f k l0_0 l0_1 = some r) :
  Calls Try.prog 9 #[.agg #[.slice A0_0 l0_0.length c0_0, .slice A0_1 l0_1.length c0_1]] w fun e w' => e = .returned (.bool r) ∧ Below w.heap.size w w' := by
 have hu66 := Try.underlying66
 have hu47 := Try.underlying47
 have hu76 := Try.underlying76
 have bq := mk0 hr0_0
 have br := mk0 hc0_0
 clear hr0_0 hc0_0
 have bh := mk0 hr0_1
 have bA := mk0 hc0_1
 clear hr0_1 hc0_1
 have HB := mk0 (Below.refl w.heap.size w)
 have H : ((quorumlaw9_Heavy.f k l0_0 l0_1).bind fun bB => (if bB = true then (some true) else ((quorumref0_CopyTable.f k l0_0).bind fun bf => (quorumlaw9_TableExact.l0 k 0 l0_0 l0_1 bf)))) = some r := h
 clear h
 replace H := ob_ H
 obtain ⟨bB, A2, H⟩ := H
 try dsimp only at H
 by_cases c3 : bB = true
 ·subst c3
  rw [if_pos rfl] at H
  obtain rfl := Option.some.inj H
  go_enter Try.func9, Try.ntmps9
  go_wp2_with (first | ((with_reducible refine gate_dst (N := 1) rfl ?_); refine bx_ (N := 1) (cs := #[.slice A0_0 l0_0.length c0_0, .slice A0_1 l0_1.length c0_1]) (t := 66) (h := ?_); intro ag hg w4 hbox hb; have n2_ := mk0 (gz_ HB hg); have bb := mk0 (gz_ HB hg); replace HB := mk0 (bt_ (b_ HB) hb); have ac := mk0 (hbox); have bQ := n2_; have bR := bb; clear n2_ bb hb hbox hg; obtain ⟨ch, ci, cj, ck⟩ := c2_ ac) | ((with_reducible refine gate_callee (f := 28) rfl ?_); refine gL_ (some 8) Try.func28 #[.agg #[.slice A0_0 l0_0.length c0_0, .slice A0_1 l0_1.length c0_1]] (h := ?_); (with_reducible refine (quorumlaw9_Heavy.calls k _ _ l0_0 _ _ l0_1 true _ ?side1 ?side2 ?side3 ?side4 A2.out).mono ?_); (case side1 => exact cb_ bq HB); (case side2 => exact br.out); (case side3 => exact cb_ bh HB); (case side4 => exact bA.out); rintro e w6 ⟨rfl, hb⟩; refine ⟨_, rfl, ?_⟩; replace ac := mk0 (u_ ac hb); replace HB := mk0 (bt_ (b_ HB) hb); (try clear hb)))
  go_ret
  exact ⟨sa_, b_ HB⟩
 ·replace c3 := Bool.eq_false_iff.mpr c3
  subst c3
  rw [if_neg nf_] at H
  replace H := ob_ H
  obtain ⟨bf, A7, H⟩ := H
  try dsimp only at H
  have H' := mk0 H
  clear H
  go_enter Try.func9, Try.ntmps9
  go_wp2_with (first | ((with_reducible refine gate_dst (N := 1) rfl ?_); refine bx_ (N := 1) (cs := #[.slice A0_0 l0_0.length c0_0, .slice A0_1 l0_1.length c0_1]) (t := 66) (h := ?_); intro ag hg w8 hbox hb; have n2_ := mk0 (gz_ HB hg); have bb := mk0 (gz_ HB hg); replace HB := mk0 (bt_ (b_ HB) hb); have ac := mk0 (hbox); have bQ := n2_; have bR := bb; clear n2_ bb hb hbox hg; obtain ⟨bu, bv, bw, bx⟩ := c2_ ac) | ((with_reducible refine gate_callee (f := 28) rfl ?_); refine gL_ (some 8) Try.func28 #[.agg #[.slice A0_0 l0_0.length c0_0, .slice A0_1 l0_1.length c0_1]] (h := ?_); (with_reducible refine (quorumlaw9_Heavy.calls k _ _ l0_0 _ _ l0_1 false _ ?side1 ?side2 ?side3 ?side4 A2.out).mono ?_); (case side1 => exact cb_ bq HB); (case side2 => exact br.out); (case side3 => exact cb_ bh HB); (case side4 => exact bA.out); rintro e cJ ⟨rfl, hb⟩; refine ⟨_, rfl, ?_⟩; replace ac := mk0 (u_ ac hb); replace HB := mk0 (bt_ (b_ HB) hb); (try clear hb); obtain ⟨bj, bk, bl, bm⟩ := c2_ ac) | ((with_reducible refine gate_callee (f := 29) rfl ?_); refine gL_ (some 11) Try.func29 #[.agg #[.slice A0_0 l0_0.length c0_0]] (h := ?_); (with_reducible refine (quorumref0_CopyTable.calls k _ _ l0_0 bf _ ?side1 ?side2 A7.out).mono ?_); (case side1 => exact cb_ bq HB); (case side2 => exact br.out); rintro e cK ⟨cG, rfl, ho0, hb⟩; refine ⟨_, rfl, ?_⟩; have bn := mk0 (Kd.S_lower ho0 (bz_ (b_ HB))); replace ac := mk0 (u_ ac hb); replace HB := mk0 (bt_ (b_ HB) hb); have bi := bn; clear bn; (try clear hb); (try clear ho0)) | ((with_reducible refine gate_dst (N := 3) rfl ?_); refine bx_ (N := 3) (cs := #[.slice none 0 0]) (t := 47) (h := ?_); intro ah hg cL hbox hb; have bs := mk0 (gz_ HB hg); have a7 := mk0 (gz_ HB hg); have aS := mk0 (ne1_ ac hg); have aT := mk0 (ne2_ ac hg); replace bi := mk0 (Kd.S_below (s_ bi) hb); replace ac := mk0 (u_ ac hb); replace HB := mk0 (bt_ (b_ HB) hb); have af := mk0 (hbox); have cl := a7; have aO := aS; have aU := aT; clear bs a7 aS aT hb hbox hg; obtain ⟨bL, bM, bS⟩ := Kd.S_slice bi.out; subst bS; have cm := aU.out; have cn := aO.out; obtain ⟨bo, bp⟩ := c1_ af))
  go_loopg [4] k (fun kq v4 w' => ∃ (aa : Int) (ae : List (S99)) (aX : Value), v4 = .int .i64 aa ∧ Fc (quorumlaw9_TableExact.l0 kq aa l0_0 l0_1 ae = some r) ∧ Fc (kq ≤ k) ∧ Fc (Kd.V k99 99 w' w.heap.size (fun k_ => k_ ≠ ag ∧ k_ ≠ ah) aX ae) ∧ Fc (w'.heap[ag]? = some (.cells #[(.slice A0_0 l0_0.length c0_0), (.slice A0_1 l0_1.length c0_1)] 66 (0, 0))) ∧ Fc (w'.heap[ah]? = some (.cells #[aX] 47 (0, 0))) ∧ Fc (Below w.heap.size w w'))
  case atStart => exact ⟨(0), (bf), (.slice bL bf.length bM), sm_, H', ⟨Nat.le_refl _⟩, ⟨Kd.S_V (s2_ (Kd.S_mono (Kd.S_far (p := ⟨ah, 0, none⟩) (Kd.S_types (Kd.S_types (Kd.S_types bi.out ac.out (by decide)) af.out (by decide)) af.out (by decide)) (fun _ hk => hk.2) (.slice bL bf.length bM)) (fun _ hk => ⟨hk.1.1.2, hk.1.2⟩)))⟩, ⟨(fa_ (h_ ac) aO.out)⟩, ⟨(pu_ (cs := #[.slice none 0 0]) (h_ af))⟩, ⟨b_ HB⟩⟩
  case round =>
   clear H'
   try clear c3
   try clear bj
   try clear bk
   try clear bo
   try clear bu
   try clear bv
   try clear bl
   try clear bm
   try clear bp
   try clear bw
   try clear bx
   obtain ⟨aa, ae, aX, rfl, HA, bF, ad, ac, af, HB⟩ := hrel
   cases gk with
   | zero => exact absurd HA.out (by simp [quorumlaw9_TableExact.l0])
   | succ k1 =>
    have H := HA.out
    clear HA
    simp only [quorumlaw9_TableExact.l0] at H
    as_aux_lemma =>
     have HC17 := mk0 H
     clear H
     go_upto_region 5 with (fail)
     go_cut [20] (fun v20 wc => ∃ (kq : Nat) (ba : Bool), v20 = .bool ba ∧ Fc (quorumlaw9_TableExact.j1 kq aa ba l0_0 l0_1 ae = some r) ∧ Fc (kq ≤ k1) ∧ Fc (Kd.V k99 99 wc w.heap.size (fun k_ => k_ ≠ ag ∧ k_ ≠ ah) aX ae) ∧ Fc (wc.heap[ag]? = some (.cells #[(.slice A0_0 l0_0.length c0_0), (.slice A0_1 l0_1.length c0_1)] 66 (0, 0))) ∧ Fc (wc.heap[ah]? = some (.cells #[aX] 47 (0, 0))) ∧ Fc (Below w.heap.size w wc))
     case first =>
      have H := HC17.out
      clear HC17
      by_cases bz : aa < (l0_1.length : Int)
      ·rw [if_pos bz] at H
       have bc := decide_eq_true bz
       clear bz
       (first | rw [bc] | (simp only [i64_w, i32_w]; rw [bc]) | skip)
       have H' := mk0 H
       clear H
       have co := aO.out
       have cp := aU.out
       obtain ⟨bT, bU, bV, bW⟩ := c2_ ac
       go_wp2
       go_meet
       case rel => exact ⟨_, (decide (aa < 16)), sm_, H', ⟨by have := bF.out; first | omega | exact Nat.le_refl _⟩, ⟨v2_ ad.out⟩, ⟨h_ ac⟩, ⟨h_ af⟩, ⟨b_ HB⟩⟩
      ·rw [if_neg bz] at H
       have bc := decide_eq_false bz
       clear bz
       (first | rw [bc] | (simp only [i64_w, i32_w]; rw [bc]) | skip)
       have H' := mk0 H
       clear H
       have cq := aO.out
       have cr := aU.out
       obtain ⟨bX, bY, bZ, b0⟩ := c2_ ac
       go_wp2
       go_meet
       case rel => exact ⟨_, (false), sm_, H', ⟨by have := bF.out; first | omega | exact Nat.le_refl _⟩, ⟨v2_ ad.out⟩, ⟨h_ ac⟩, ⟨h_ af⟩, ⟨b_ HB⟩⟩
     case rest =>
      clear HC17
      try clear c3
      try clear bj
      try clear bk
      try clear bo
      try clear bu
      try clear bv
      try clear bl
      try clear bm
      try clear bp
      try clear bw
      try clear bx
      obtain ⟨kq, ba, rfl, HA, bN, ad, ac, af, HB⟩ := hcut
      cases kq with
      | zero => exact absurd HA.out (by simp [quorumlaw9_TableExact.j1])
      | succ bg =>
       have H := HA.out
       clear HA
       simp only [quorumlaw9_TableExact.j1] at H
       as_aux_lemma =>
        by_cases bG : ba = true
        ·subst bG
         rw [if_pos rfl] at H
         by_cases bH : 0 ≤ aa
         ·rw [if_pos bH] at H
          have ct := decide_eq_true bH
          clear bH
          by_cases bI : aa < (l0_1.length : Int)
          ·rw [if_pos bI] at H
           have cu := decide_eq_true bI
           clear bI
           replace H := ob_ H
           obtain ⟨⟨aW, b1⟩, bJ, H⟩ := H
           try dsimp only at H
           by_cases bK : b1 = true
           ·subst bK
            rw [if_pos rfl] at H
            have H' := mk0 H
            clear H
            obtain ⟨a5, a6, b2⟩ := Kd.V_slice ad.out
            subst b2
            try go_wp2
            replace ad := mk0 (Kd.V_drew ad.out)
            replace ac := mk0 (bD_ ac.out)
            replace af := mk0 (bD_ af.out)
            replace HB := mk0 (b1_ HB.out)
            have bd : 0 ≤ (aa : Int) := od_
            have be : aa < (l0_1.length : Int) := od_
            obtain ⟨ab, bC, aE, aF, aG, aH, aI, aJ, aK, aL, aM, aN, aC⟩ := at_T76 bh.out aa bd be
            have ao := aC
            have ap := aN
            have aq := aM
            have ar := aL
            have au := aK
            have av := aJ
            have aw := aI
            have ax := aH
            have ay := aG
            have az := aF
            have aA := aE
            cases bC
            replace aE := (bc_ HB aE :)
            replace aF := (bc_ HB aF :)
            replace aG := (bc_ HB aG :)
            replace aH := (bc_ HB aH :)
            replace aI := (bc_ HB aI :)
            replace aJ := (bc_ HB aJ :)
            replace aK := (bc_ HB aK :)
            replace aL := (bc_ HB aL :)
            replace aM := (bc_ HB aM :)
            replace aN := (bc_ HB aN :)
            replace aC := (bc_ HB aC :)
            replace bd := eq_true bd
            replace be := eq_true be
            refine start_ (n := 13) (S := fun w' => w'.cell? ⟨ah, 0, none⟩ = some (.slice a5 ae.length a6) ∧ w'.cell? ⟨ag, 0, none⟩ = some (.slice A0_0 l0_0.length c0_0) ∧ w'.cell? ⟨ag, 1, none⟩ = some (.slice (some ab) l0_1.length c0_1) ∧ w'.cell? (ab.add ((aa).toNat * 11)) = some (.int .i64 ((rd_T76 l0_1 aa).f0)) ∧ w'.cell? ⟨(ab.add ((aa).toNat * 11)).block, (ab.add ((aa).toNat * 11)).off + 1, none⟩ = some (.int .i64 ((rd_T76 l0_1 aa).f1)) ∧ w'.cell? ⟨(ab.add ((aa).toNat * 11)).block, (ab.add ((aa).toNat * 11)).off + 2, none⟩ = some (.int .i64 ((rd_T76 l0_1 aa).f2)) ∧ w'.cell? ⟨(ab.add ((aa).toNat * 11)).block, (ab.add ((aa).toNat * 11)).off + 3, none⟩ = some (.string ((rd_T76 l0_1 aa).f3)) ∧ w'.cell? ⟨(ab.add ((aa).toNat * 11)).block, (ab.add ((aa).toNat * 11)).off + 4, none⟩ = some (.int .i64 ((rd_T76 l0_1 aa).f4.f0)) ∧ w'.cell? ⟨(ab.add ((aa).toNat * 11)).block, (ab.add ((aa).toNat * 11)).off + 5, none⟩ = some (.string ((rd_T76 l0_1 aa).f4.f1)) ∧ w'.cell? ⟨(ab.add ((aa).toNat * 11)).block, (ab.add ((aa).toNat * 11)).off + 6, none⟩ = some (.bool ((rd_T76 l0_1 aa).f4.f2)) ∧ w'.cell? ⟨(ab.add ((aa).toNat * 11)).block, (ab.add ((aa).toNat * 11)).off + 7, none⟩ = some (.string ((rd_T76 l0_1 aa).f5.f0)) ∧ w'.cell? ⟨(ab.add ((aa).toNat * 11)).block, (ab.add ((aa).toNat * 11)).off + 8, none⟩ = some (.string ((rd_T76 l0_1 aa).f5.f1)) ∧ w'.cell? ⟨(ab.add ((aa).toNat * 11)).block, (ab.add ((aa).toNat * 11)).off + 9, none⟩ = some (.bool ((rd_T76 l0_1 aa).f5.f2)) ∧ w'.cell? ⟨(ab.add ((aa).toNat * 11)).block, (ab.add ((aa).toNat * 11)).off + 10, none⟩ = some (.bool ((rd_T76 l0_1 aa).f6))) (ds := []) (bt 13 0) (by kernel_rfl) rfl rfl ⟨bk_ af 0, bk_ ac 0, bk_ ac 1, ((bc_ HB aA :)), ((bc_ HB az :)), ((bc_ HB ay :)), ((bc_ HB ax :)), ((bc_ HB aw :)), ((bc_ HB av :)), ((bc_ HB au :)), ((bc_ HB ar :)), ((bc_ HB aq :)), ((bc_ HB ap :)), ((bc_ HB ao :))⟩ (fun hHeld => ?_); refine with_tabW quorumlaw9_TableExact.tab7 quorumlaw9_TableExact.bits7 (fun HT_ HW_ => ?_)
            generalize wc.drew = cM at ad ac af HB aE aF aC aG aH aI aJ aK aL aM aN hHeld ⊢
            refine pq_ HT_.out 1 25 (bt 13 2) (h := ?_)
            refine pq_ HT_.out 3 27 (bt 13 10) (h := ?_)
            refine tq14_ HT_.out HW_.out 0 24 (bt 13 11) hHeld (h := ?_)
            refine tq14_ HT_.out HW_.out 2 26 (bt 13 15) hHeld (h := ?_)
            refine pq_ HT_.out 4 28 (bt 13 31) (h := ?_)
            refine tq14_ HT_.out HW_.out 5 29 (bt 13 63) hHeld (h := ?_)
            refine join_ (σ := Value × Nat) 2 (bt 13 2047) (fun s_ => [(30, .tuple #[.agg #[s_.1], .bool true]), (5, .pointer (some ⟨s_.2, 0, none⟩)), (23, .tuple #[.agg #[s_.1], .bool true]), (31, .agg #[s_.1]), (32, .bool true)]) (fun s_ w' => (w'.cell? ⟨ah, 0, none⟩ = some (.slice a5 ae.length a6) ∧ w'.cell? ⟨ag, 0, none⟩ = some (.slice A0_0 l0_0.length c0_0) ∧ w'.cell? ⟨ag, 1, none⟩ = some (.slice (some ab) l0_1.length c0_1) ∧ w'.cell? (ab.add ((aa).toNat * 11)) = some (.int .i64 ((rd_T76 l0_1 aa).f0)) ∧ w'.cell? ⟨(ab.add ((aa).toNat * 11)).block, (ab.add ((aa).toNat * 11)).off + 1, none⟩ = some (.int .i64 ((rd_T76 l0_1 aa).f1)) ∧ w'.cell? ⟨(ab.add ((aa).toNat * 11)).block, (ab.add ((aa).toNat * 11)).off + 2, none⟩ = some (.int .i64 ((rd_T76 l0_1 aa).f2)) ∧ w'.cell? ⟨(ab.add ((aa).toNat * 11)).block, (ab.add ((aa).toNat * 11)).off + 3, none⟩ = some (.string ((rd_T76 l0_1 aa).f3)) ∧ w'.cell? ⟨(ab.add ((aa).toNat * 11)).block, (ab.add ((aa).toNat * 11)).off + 4, none⟩ = some (.int .i64 ((rd_T76 l0_1 aa).f4.f0)) ∧ w'.cell? ⟨(ab.add ((aa).toNat * 11)).block, (ab.add ((aa).toNat * 11)).off + 5, none⟩ = some (.string ((rd_T76 l0_1 aa).f4.f1)) ∧ w'.cell? ⟨(ab.add ((aa).toNat * 11)).block, (ab.add ((aa).toNat * 11)).off + 6, none⟩ = some (.bool ((rd_T76 l0_1 aa).f4.f2)) ∧ w'.cell? ⟨(ab.add ((aa).toNat * 11)).block, (ab.add ((aa).toNat * 11)).off + 7, none⟩ = some (.string ((rd_T76 l0_1 aa).f5.f0)) ∧ w'.cell? ⟨(ab.add ((aa).toNat * 11)).block, (ab.add ((aa).toNat * 11)).off + 8, none⟩ = some (.string ((rd_T76 l0_1 aa).f5.f1)) ∧ w'.cell? ⟨(ab.add ((aa).toNat * 11)).block, (ab.add ((aa).toNat * 11)).off + 9, none⟩ = some (.bool ((rd_T76 l0_1 aa).f5.f2)) ∧ w'.cell? ⟨(ab.add ((aa).toNat * 11)).block, (ab.add ((aa).toNat * 11)).off + 10, none⟩ = some (.bool ((rd_T76 l0_1 aa).f6))) ∧ (Kd.V k99 99 w' w.heap.size (fun k_ => k_ ≠ ag ∧ k_ ≠ ah ∧ k_ ≠ s_.2) s_.1 aW) ∧ (Kd.V k99 99 w' w.heap.size (fun k_ => k_ ≠ ag ∧ k_ ≠ ah ∧ k_ ≠ s_.2) (.slice a5 ae.length a6) ae) ∧ (w'.heap[ag]? = some (.cells #[.slice A0_0 l0_0.length c0_0, .slice (some ab) l0_1.length c0_1] 66 (0, 0))) ∧ (w'.heap[ah]? = some (.cells #[.slice a5 ae.length a6] 47 (0, 0))) ∧ (w'.heap[s_.2]? = some (.cells #[.slice none 0 0] 47 (0, 0))) ∧ (w.heap.size ≤ s_.2) ∧ (w.heap.size ≤ s_.2) ∧ (ag ≠ s_.2) ∧ (s_.2 ≠ ag) ∧ (ah ≠ s_.2) ∧ (s_.2 ≠ ah) ∧ (Below w.heap.size w w')) ?_ ?_
            rotate_left
            ·intro hCont
             refine two_ (i := 6) (j := 10) (Ni := some 30) (Nj := some 5) (bt 13 127) (bt 13 1087) rfl rfl rfl rfl (two_of HT_.out (by kernel_rfl)) (by decide) (by decide) (fun K hK => ?_) (fun K hK => ?_)
             ·skip
              refine goes_ Try.func30 (by kernel_rfl) rfl #[.agg #[.slice a5 ae.length a6], .agg #[.int .i64 ((rd_T76 l0_1 aa).f0), .int .i64 ((rd_T76 l0_1 aa).f1), .int .i64 ((rd_T76 l0_1 aa).f2), .string ((rd_T76 l0_1 aa).f3), .int .i64 ((rd_T76 l0_1 aa).f4.f0), .string ((rd_T76 l0_1 aa).f4.f1), .bool ((rd_T76 l0_1 aa).f4.f2), .string ((rd_T76 l0_1 aa).f5.f0), .string ((rd_T76 l0_1 aa).f5.f1), .bool ((rd_T76 l0_1 aa).f5.f2), .bool ((rd_T76 l0_1 aa).f6)]] (by rfl) rfl rfl gs_ ?_
              with_reducible refine (quorumlaw9_step.calls bg (fun k_ => (k_ ≠ ag ∧ k_ ≠ ah)) _ _ ae ((rd_T76 l0_1 aa).f0) ((rd_T76 l0_1 aa).f1) ((rd_T76 l0_1 aa).f2) ((rd_T76 l0_1 aa).f3) ((rd_T76 l0_1 aa).f4.f0) ((rd_T76 l0_1 aa).f4.f1) ((rd_T76 l0_1 aa).f4.f2) ((rd_T76 l0_1 aa).f5.f0) ((rd_T76 l0_1 aa).f5.f1) ((rd_T76 l0_1 aa).f5.f2) ((rd_T76 l0_1 aa).f6) aW true _ ?side1 bJ.out).mono ?_
              (case side1 => exact ad.out)
              rintro e cv ⟨aY, rfl, ho0, hb⟩
              refine ⟨_, rfl, ?_⟩
              have aZ := mk0 (Kd.V_lower (Kd.V_mono (ok' := fun k_ => k_ ≠ ag ∧ k_ ≠ ah) ho0 (fun k_ hk_ => ⟨Or.elim hk_ (fun hs_ => hs_.1) (fun hn_ => (fb_ ac k_ hn_)), Or.elim hk_ (fun hs_ => hs_.2) (fun hn_ => (fb_ af k_ hn_))⟩)) (bz_ (b_ HB)))
              replace ad := mk0 (Kd.V_below (v_ ad) hb)
              replace ac := mk0 (u_ ac hb)
              replace af := mk0 (u_ af hb)
              replace HB := mk0 (bt_ (b_ HB) hb)
              have aD := aZ
              clear aZ
              (try clear hb)
              (try clear hk)
              (try clear hi)
              (try clear ho0)
              refine hK.out _ _ ⟨bk_ af 0, bk_ ac 0, bk_ ac 1, ((bc_ HB aA :)), ((bc_ HB az :)), ((bc_ HB ay :)), ((bc_ HB ax :)), ((bc_ HB aw :)), ((bc_ HB av :)), ((bc_ HB au :)), ((bc_ HB ar :)), ((bc_ HB aq :)), ((bc_ HB ap :)), ((bc_ HB ao :))⟩ (fun hHeld => ?_)
              clear hK K
              refine norm_ (a' := ?_) ?_ ?_
              rotate_left
              ·show Act.put _ (some 30) _ = _
               simp only [z_]
               rfl
              refine pq_ HT_.out 7 23 (bt 13 255) (h := ?_)
              refine pq_ HT_.out 8 31 (bt 13 511) (h := ?_)
              refine pq_ HT_.out 9 32 (bt 13 1023) (h := ?_)
              refine one_ (i := 10) (N := some 5) (bt 13 2047) rfl rfl (one_of HT_.out (by kernel_rfl)) (by decide) (fun K hK => ?_)
              refine box_step ?hg (N := 5) ?hd (cs := #[.slice none 0 0]) (t := 47) ?hr ?_; (case hd => rfl); (case hg => rfl); (case hr => first | (go_simp; done) | (go_simp; rfl))
              intro ai hg cw hbox hb
              have aS := mk0 (gz_ HB hg)
              have aT := mk0 (gz_ HB hg)
              have a2 := mk0 (ne1_ ac hg)
              have a3 := mk0 (ne2_ ac hg)
              have aP := mk0 (ne1_ af hg)
              have a4 := mk0 (ne2_ af hg)
              replace ad := mk0 (Kd.V_below (Kd.V_elderB (v_ ad) ai (Nat.le_of_eq hg.symm)) hb)
              replace aD := mk0 (Kd.V_below (Kd.V_elderB (v_ aD) ai (Nat.le_of_eq hg.symm)) hb)
              replace ac := mk0 (u_ ac hb)
              replace af := mk0 (u_ af hb)
              replace HB := mk0 (bt_ (b_ HB) hb)
              have aB := mk0 (hbox)
              have ak := aS
              have aV := aT
              have aj := a2
              have am := a3
              have al := aP
              have an := a4
              clear aS aT a2 a3 aP a4 hb hbox hg
              refine hK.out _ _ ⟨bk_ af 0, bk_ ac 0, bk_ ac 1, ((bc_ HB aA :)), ((bc_ HB az :)), ((bc_ HB ay :)), ((bc_ HB ax :)), ((bc_ HB aw :)), ((bc_ HB av :)), ((bc_ HB au :)), ((bc_ HB ar :)), ((bc_ HB aq :)), ((bc_ HB ap :)), ((bc_ HB ao :))⟩ (fun hHeld => ?_)
              clear hK K
              refine norm_ (a' := ?_) ?_ ?_
              rotate_left
              ·show Act.put _ (some 5) _ = _
               simp only [z_]
               rfl
              exact norm_ (by simp only [putAll, Act.put, List.setIfInBounds_toArray, List.set_cons_zero, List.set_cons_succ]) (hCont (aY, ai) _ ⟨hHeld, (v2_ (Kd.V_mono aD.out (fun _ hk => ⟨hk.1.1, ⟨hk.1.2, hk.2⟩⟩))), (v2_ (Kd.V_mono ad.out (fun _ hk => ⟨hk.1.1, ⟨hk.1.2, hk.2⟩⟩))), (h_ ac), (h_ af), (h_ aB), ak.out, aV.out, aj.out, am.out, al.out, an.out, (b_ HB)⟩)
             ·skip
              refine box_step ?hg (N := 5) ?hd (cs := #[.slice none 0 0]) (t := 47) ?hr ?_; (case hd => rfl); (case hg => rfl); (case hr => first | (go_simp; done) | (go_simp; rfl))
              intro ai hg cv hbox hb
              have a7 := mk0 (gz_ HB hg)
              have aS := mk0 (gz_ HB hg)
              have aT := mk0 (ne1_ ac hg)
              have a2 := mk0 (ne2_ ac hg)
              have a3 := mk0 (ne1_ af hg)
              have aP := mk0 (ne2_ af hg)
              replace ad := mk0 (Kd.V_below (Kd.V_elderB (v_ ad) ai (Nat.le_of_eq hg.symm)) hb)
              replace ac := mk0 (u_ ac hb)
              replace af := mk0 (u_ af hb)
              replace HB := mk0 (bt_ (b_ HB) hb)
              have aB := mk0 (hbox)
              have ak := a7
              have aV := aS
              have aj := aT
              have am := a2
              have al := a3
              have an := aP
              clear a7 aS aT a2 a3 aP hb hbox hg
              refine hK.out _ _ ⟨bk_ af 0, bk_ ac 0, bk_ ac 1, ((bc_ HB aA :)), ((bc_ HB az :)), ((bc_ HB ay :)), ((bc_ HB ax :)), ((bc_ HB aw :)), ((bc_ HB av :)), ((bc_ HB au :)), ((bc_ HB ar :)), ((bc_ HB aq :)), ((bc_ HB ap :)), ((bc_ HB ao :))⟩ (fun hHeld => ?_)
              clear hK K
              refine norm_ (a' := ?_) ?_ ?_
              rotate_left
              ·show Act.put _ (some 5) _ = _
               simp only [z_]
               rfl
              refine one_ (i := 6) (N := some 30) (bt 13 1151) rfl rfl (one_of HT_.out (by kernel_rfl)) (by decide) (fun K hK => ?_)
              refine goes_ Try.func30 (by kernel_rfl) rfl #[.agg #[.slice a5 ae.length a6], .agg #[.int .i64 ((rd_T76 l0_1 aa).f0), .int .i64 ((rd_T76 l0_1 aa).f1), .int .i64 ((rd_T76 l0_1 aa).f2), .string ((rd_T76 l0_1 aa).f3), .int .i64 ((rd_T76 l0_1 aa).f4.f0), .string ((rd_T76 l0_1 aa).f4.f1), .bool ((rd_T76 l0_1 aa).f4.f2), .string ((rd_T76 l0_1 aa).f5.f0), .string ((rd_T76 l0_1 aa).f5.f1), .bool ((rd_T76 l0_1 aa).f5.f2), .bool ((rd_T76 l0_1 aa).f6)]] (by rfl) rfl rfl gs_ ?_
              with_reducible refine (quorumlaw9_step.calls bg (fun k_ => ((k_ ≠ ag ∧ k_ ≠ ah) ∧ k_ ≠ ai)) _ _ ae ((rd_T76 l0_1 aa).f0) ((rd_T76 l0_1 aa).f1) ((rd_T76 l0_1 aa).f2) ((rd_T76 l0_1 aa).f3) ((rd_T76 l0_1 aa).f4.f0) ((rd_T76 l0_1 aa).f4.f1) ((rd_T76 l0_1 aa).f4.f2) ((rd_T76 l0_1 aa).f5.f0) ((rd_T76 l0_1 aa).f5.f1) ((rd_T76 l0_1 aa).f5.f2) ((rd_T76 l0_1 aa).f6) aW true _ ?side1 bJ.out).mono ?_
              (case side1 => exact ad.out)
              rintro e cw ⟨aY, rfl, ho0, hb⟩
              refine ⟨_, rfl, ?_⟩
              have aZ := mk0 (Kd.V_lower (Kd.V_mono (ok' := fun k_ => k_ ≠ ag ∧ k_ ≠ ah ∧ k_ ≠ ai) ho0 (fun k_ hk_ => ⟨Or.elim hk_ (fun hs_ => hs_.1.1) (fun hn_ => (fb_ ac k_ hn_)), Or.elim hk_ (fun hs_ => hs_.1.2) (fun hn_ => (fb_ af k_ hn_)), Or.elim hk_ (fun hs_ => hs_.2) (fun hn_ => (fb_ aB k_ hn_))⟩)) (bz_ (b_ HB)))
              replace ad := mk0 (Kd.V_below (v_ ad) hb)
              replace ac := mk0 (u_ ac hb)
              replace af := mk0 (u_ af hb)
              replace aB := mk0 (u_ aB hb)
              replace HB := mk0 (bt_ (b_ HB) hb)
              have aD := aZ
              clear aZ
              (try clear hb)
              (try clear hk)
              (try clear hi)
              (try clear ho0)
              refine hK.out _ _ ⟨bk_ af 0, bk_ ac 0, bk_ ac 1, ((bc_ HB aA :)), ((bc_ HB az :)), ((bc_ HB ay :)), ((bc_ HB ax :)), ((bc_ HB aw :)), ((bc_ HB av :)), ((bc_ HB au :)), ((bc_ HB ar :)), ((bc_ HB aq :)), ((bc_ HB ap :)), ((bc_ HB ao :))⟩ (fun hHeld => ?_)
              clear hK K
              refine norm_ (a' := ?_) ?_ ?_
              rotate_left
              ·show Act.put _ (some 30) _ = _
               simp only [z_]
               rfl
              refine pq_ HT_.out 7 23 (bt 13 1279) (h := ?_)
              refine pq_ HT_.out 8 31 (bt 13 1535) (h := ?_)
              refine pq_ HT_.out 9 32 (bt 13 2047) (h := ?_)
              exact norm_ (by simp only [putAll, Act.put, List.setIfInBounds_toArray, List.set_cons_zero, List.set_cons_succ]) (hCont (aY, ai) _ ⟨hHeld, (v_ aD), (v2_ (Kd.V_mono ad.out (fun _ hk => ⟨hk.1.1, ⟨hk.1.2, hk.2⟩⟩))), (h_ ac), (h_ af), (h_ aB), ak.out, aV.out, aj.out, am.out, al.out, an.out, (b_ HB)⟩)
            rintro ⟨aY, ai⟩ aQ ⟨hS_, h0_, h1_, h2_, h3_, h4_, h5_, h6_, h7_, h8_, h9_, h10_, h11_⟩
            have bn : Fc (Kd.V k99 99 aQ w.heap.size (fun k_ => k_ ≠ ag ∧ k_ ≠ ah ∧ k_ ≠ ai) aY aW) := ⟨h0_⟩
            have aZ : Fc (Kd.V k99 99 aQ w.heap.size (fun k_ => k_ ≠ ag ∧ k_ ≠ ah ∧ k_ ≠ ai) (.slice a5 ae.length a6) ae) := ⟨h1_⟩
            have n2_ : Fc (aQ.heap[ag]? = some (.cells #[.slice A0_0 l0_0.length c0_0, .slice (some ab) l0_1.length c0_1] 66 (0, 0))) := ⟨h2_⟩
            have bb : Fc (aQ.heap[ah]? = some (.cells #[.slice a5 ae.length a6] 47 (0, 0))) := ⟨h3_⟩
            have bs : Fc (aQ.heap[ai]? = some (.cells #[.slice none 0 0] 47 (0, 0))) := ⟨h4_⟩
            have a7 : Fc (w.heap.size ≤ ai) := ⟨h5_⟩
            have aS : Fc (w.heap.size ≤ ai) := ⟨h6_⟩
            have aT : Fc (ag ≠ ai) := ⟨h7_⟩
            have a2 : Fc (ai ≠ ag) := ⟨h8_⟩
            have a3 : Fc (ah ≠ ai) := ⟨h9_⟩
            have aP : Fc (ai ≠ ah) := ⟨h10_⟩
            have a4 : Fc (Below w.heap.size w aQ) := ⟨h11_⟩
            clear ad ac af HB h0_ h1_ h2_ h3_ h4_ h5_ h6_ h7_ h8_ h9_ h10_ h11_
            have aD := bn
            have ad := aZ
            have ac := n2_
            have af := bb
            have aB := bs
            have ak := a7
            have aV := aS
            have aj := aT
            have am := a2
            have al := a3
            have an := aP
            have HB := a4
            clear bn aZ n2_ bb bs a7 aS aT a2 a3 aP a4
            have hHeld : aQ.cell? ⟨ah, 0, none⟩ = some (.slice a5 ae.length a6) ∧ aQ.cell? ⟨ag, 0, none⟩ = some (.slice A0_0 l0_0.length c0_0) ∧ aQ.cell? ⟨ag, 1, none⟩ = some (.slice (some ab) l0_1.length c0_1) ∧ aQ.cell? (ab.add ((aa).toNat * 11)) = some (.int .i64 ((rd_T76 l0_1 aa).f0)) ∧ aQ.cell? ⟨(ab.add ((aa).toNat * 11)).block, (ab.add ((aa).toNat * 11)).off + 1, none⟩ = some (.int .i64 ((rd_T76 l0_1 aa).f1)) ∧ aQ.cell? ⟨(ab.add ((aa).toNat * 11)).block, (ab.add ((aa).toNat * 11)).off + 2, none⟩ = some (.int .i64 ((rd_T76 l0_1 aa).f2)) ∧ aQ.cell? ⟨(ab.add ((aa).toNat * 11)).block, (ab.add ((aa).toNat * 11)).off + 3, none⟩ = some (.string ((rd_T76 l0_1 aa).f3)) ∧ aQ.cell? ⟨(ab.add ((aa).toNat * 11)).block, (ab.add ((aa).toNat * 11)).off + 4, none⟩ = some (.int .i64 ((rd_T76 l0_1 aa).f4.f0)) ∧ aQ.cell? ⟨(ab.add ((aa).toNat * 11)).block, (ab.add ((aa).toNat * 11)).off + 5, none⟩ = some (.string ((rd_T76 l0_1 aa).f4.f1)) ∧ aQ.cell? ⟨(ab.add ((aa).toNat * 11)).block, (ab.add ((aa).toNat * 11)).off + 6, none⟩ = some (.bool ((rd_T76 l0_1 aa).f4.f2)) ∧ aQ.cell? ⟨(ab.add ((aa).toNat * 11)).block, (ab.add ((aa).toNat * 11)).off + 7, none⟩ = some (.string ((rd_T76 l0_1 aa).f5.f0)) ∧ aQ.cell? ⟨(ab.add ((aa).toNat * 11)).block, (ab.add ((aa).toNat * 11)).off + 8, none⟩ = some (.string ((rd_T76 l0_1 aa).f5.f1)) ∧ aQ.cell? ⟨(ab.add ((aa).toNat * 11)).block, (ab.add ((aa).toNat * 11)).off + 9, none⟩ = some (.bool ((rd_T76 l0_1 aa).f5.f2)) ∧ aQ.cell? ⟨(ab.add ((aa).toNat * 11)).block, (ab.add ((aa).toNat * 11)).off + 10, none⟩ = some (.bool ((rd_T76 l0_1 aa).f6)) := hS_
            obtain ⟨bD, bE, bO⟩ := Kd.V_slice aD.out
            (first | subst bO | (injection bO with f1_ f2_ f3_; have f4_ := f1_.symm; have f5_ := f3_.symm; clear f1_ f2_ f3_; subst f4_; subst f5_))
            refine norm_ (a' := ?_) ?_ ?_
            rotate_left
            ·simp only [putAll, Act.put, List.setIfInBounds_toArray, List.set_cons_zero, List.set_cons_succ]
             rfl
            refine one_ (i := 11) (N := none) (bt 13 4095) rfl rfl (one_of HT_.out (by kernel_rfl)) (by decide) (fun K hK => ?_)
            have hs34 : aQ.cell? ⟨ai, 0, none⟩ = some (.slice none 0 0) := bk_ aB 0
            have hfs34 := blk_frozen aB.out 0
            have b3 := aj.out
            have b4 := al.out
            have b5 := am.out
            have b6 := an.out
            refine skip_ (w1 := ?_) (by rfl) rfl ?_ ?_
            rotate_left
            ·go_simp
             rfl
            refine hK.out _ _ ⟨(cf_ al.out hHeld.1), (cf_ aj.out hHeld.2.1), (cf_ aj.out hHeld.2.2.1), (cf_ (nb_ aA ak) hHeld.2.2.2.1), (cf_ (nb_ az ak) hHeld.2.2.2.2.1), (cf_ (nb_ ay ak) hHeld.2.2.2.2.2.1), (cf_ (nb_ ax ak) hHeld.2.2.2.2.2.2.1), (cf_ (nb_ aw ak) hHeld.2.2.2.2.2.2.2.1), (cf_ (nb_ av ak) hHeld.2.2.2.2.2.2.2.2.1), (cf_ (nb_ au ak) hHeld.2.2.2.2.2.2.2.2.2.1), (cf_ (nb_ ar ak) hHeld.2.2.2.2.2.2.2.2.2.2.1), (cf_ (nb_ aq ak) hHeld.2.2.2.2.2.2.2.2.2.2.2.1), (cf_ (nb_ ap ak) hHeld.2.2.2.2.2.2.2.2.2.2.2.2.1), (cf_ (nb_ ao ak) hHeld.2.2.2.2.2.2.2.2.2.2.2.2.2)⟩ (fun hHeld => ?_)
            clear hK K
            refine pq_ HT_.out 12 6 (bt 13 8191) (h := ?_)
            refine done_ (done_of HT_.out (by kernel_rfl)) ?_
            have cx := am.out
            have cy := aj.out
            have cz := an.out
            have cA := al.out
            obtain ⟨b7, b8⟩ := c1_ aB
            have cB := aU.out
            have cC := aO.out
            obtain ⟨b9, ca⟩ := c1_ af
            try go_wp2
            go_roundg bg
            case measure => have := bF.out; have := bN.out; omega
            case rel => exact ⟨(wrap64 (aa + 1)), (aW), (.slice bD aW.length bE), sm_, H', ⟨by have := bF.out; have := bN.out; omega⟩, ⟨by (with_reducible repeat (first | apply Kd.V_alloc | apply Kd.V_drewN | apply Kd.V_drew)); exact Kd.V_mono (Kd.V_far (p := ⟨ah, 0, none⟩) (Kd.V_far (p := ⟨ai, 0, none⟩) (Kd.V_mono (Kd.V_mono aD.out (fun k_ hk => (⟨hk, hk.2.2⟩ : _ ∧ k_ ≠ ai))) (fun k_ hk => (⟨hk, hk.1.2.1⟩ : _ ∧ k_ ≠ ah))) (fun _ hk => hk.1.2) (.slice bD aW.length bE)) (fun _ hk => hk.2) (.slice bD aW.length bE)) (fun _ hk => ⟨hk.1.1.1, hk.1.1.2.1⟩)⟩, ⟨(fa_ (fa_ (h_ ac) aj.out) aO.out)⟩, ⟨(pu_ (cs := #[.slice a5 ae.length a6]) (fa_ (h_ af) al.out))⟩, ⟨b_ HB⟩⟩
           ·replace bK := Bool.eq_false_iff.mpr bK
            subst bK
            rw [if_neg nf_] at H
            obtain rfl := Option.some.inj H
            obtain ⟨a8, a9, cb⟩ := Kd.V_slice ad.out
            subst cb
            try go_wp2
            replace ad := mk0 (Kd.V_drew ad.out)
            replace ac := mk0 (bD_ ac.out)
            replace af := mk0 (bD_ af.out)
            replace HB := mk0 (b1_ HB.out)
            have bd : 0 ≤ (aa : Int) := od_
            have be : aa < (l0_1.length : Int) := od_
            obtain ⟨ab, bC, aE, aF, aG, aH, aI, aJ, aK, aL, aM, aN, aC⟩ := at_T76 bh.out aa bd be
            have ao := aC
            have ap := aN
            have aq := aM
            have ar := aL
            have au := aK
            have av := aJ
            have aw := aI
            have ax := aH
            have ay := aG
            have az := aF
            have aA := aE
            cases bC
            replace aE := (bc_ HB aE :)
            replace aF := (bc_ HB aF :)
            replace aG := (bc_ HB aG :)
            replace aH := (bc_ HB aH :)
            replace aI := (bc_ HB aI :)
            replace aJ := (bc_ HB aJ :)
            replace aK := (bc_ HB aK :)
            replace aL := (bc_ HB aL :)
            replace aM := (bc_ HB aM :)
            replace aN := (bc_ HB aN :)
            replace aC := (bc_ HB aC :)
            replace bd := eq_true bd
            replace be := eq_true be
            refine start_ (n := 13) (S := fun w' => w'.cell? ⟨ah, 0, none⟩ = some (.slice a8 ae.length a9) ∧ w'.cell? ⟨ag, 0, none⟩ = some (.slice A0_0 l0_0.length c0_0) ∧ w'.cell? ⟨ag, 1, none⟩ = some (.slice (some ab) l0_1.length c0_1) ∧ w'.cell? (ab.add ((aa).toNat * 11)) = some (.int .i64 ((rd_T76 l0_1 aa).f0)) ∧ w'.cell? ⟨(ab.add ((aa).toNat * 11)).block, (ab.add ((aa).toNat * 11)).off + 1, none⟩ = some (.int .i64 ((rd_T76 l0_1 aa).f1)) ∧ w'.cell? ⟨(ab.add ((aa).toNat * 11)).block, (ab.add ((aa).toNat * 11)).off + 2, none⟩ = some (.int .i64 ((rd_T76 l0_1 aa).f2)) ∧ w'.cell? ⟨(ab.add ((aa).toNat * 11)).block, (ab.add ((aa).toNat * 11)).off + 3, none⟩ = some (.string ((rd_T76 l0_1 aa).f3)) ∧ w'.cell? ⟨(ab.add ((aa).toNat * 11)).block, (ab.add ((aa).toNat * 11)).off + 4, none⟩ = some (.int .i64 ((rd_T76 l0_1 aa).f4.f0)) ∧ w'.cell? ⟨(ab.add ((aa).toNat * 11)).block, (ab.add ((aa).toNat * 11)).off + 5, none⟩ = some (.string ((rd_T76 l0_1 aa).f4.f1)) ∧ w'.cell? ⟨(ab.add ((aa).toNat * 11)).block, (ab.add ((aa).toNat * 11)).off + 6, none⟩ = some (.bool ((rd_T76 l0_1 aa).f4.f2)) ∧ w'.cell? ⟨(ab.add ((aa).toNat * 11)).block, (ab.add ((aa).toNat * 11)).off + 7, none⟩ = some (.string ((rd_T76 l0_1 aa).f5.f0)) ∧ w'.cell? ⟨(ab.add ((aa).toNat * 11)).block, (ab.add ((aa).toNat * 11)).off + 8, none⟩ = some (.string ((rd_T76 l0_1 aa).f5.f1)) ∧ w'.cell? ⟨(ab.add ((aa).toNat * 11)).block, (ab.add ((aa).toNat * 11)).off + 9, none⟩ = some (.bool ((rd_T76 l0_1 aa).f5.f2)) ∧ w'.cell? ⟨(ab.add ((aa).toNat * 11)).block, (ab.add ((aa).toNat * 11)).off + 10, none⟩ = some (.bool ((rd_T76 l0_1 aa).f6))) (ds := []) (bt 13 0) (by kernel_rfl) rfl rfl ⟨bk_ af 0, bk_ ac 0, bk_ ac 1, ((bc_ HB aA :)), ((bc_ HB az :)), ((bc_ HB ay :)), ((bc_ HB ax :)), ((bc_ HB aw :)), ((bc_ HB av :)), ((bc_ HB au :)), ((bc_ HB ar :)), ((bc_ HB aq :)), ((bc_ HB ap :)), ((bc_ HB ao :))⟩ (fun hHeld => ?_); refine with_tabW quorumlaw9_TableExact.tab7 quorumlaw9_TableExact.bits7 (fun HT_ HW_ => ?_)
            generalize wc.drew = cN at ad ac af HB aE aF aC aG aH aI aJ aK aL aM aN hHeld ⊢
            refine pq_ HT_.out 1 25 (bt 13 2) (h := ?_)
            refine pq_ HT_.out 3 27 (bt 13 10) (h := ?_)
            refine tq14_ HT_.out HW_.out 0 24 (bt 13 11) hHeld (h := ?_)
            refine tq14_ HT_.out HW_.out 2 26 (bt 13 15) hHeld (h := ?_)
            refine pq_ HT_.out 4 28 (bt 13 31) (h := ?_)
            refine tq14_ HT_.out HW_.out 5 29 (bt 13 63) hHeld (h := ?_)
            refine join_ (σ := Value × Nat) 2 (bt 13 2047) (fun s_ => [(30, .tuple #[.agg #[s_.1], .bool false]), (5, .pointer (some ⟨s_.2, 0, none⟩)), (23, .tuple #[.agg #[s_.1], .bool false]), (31, .agg #[s_.1]), (32, .bool false)]) (fun s_ w' => (w'.cell? ⟨ah, 0, none⟩ = some (.slice a8 ae.length a9) ∧ w'.cell? ⟨ag, 0, none⟩ = some (.slice A0_0 l0_0.length c0_0) ∧ w'.cell? ⟨ag, 1, none⟩ = some (.slice (some ab) l0_1.length c0_1) ∧ w'.cell? (ab.add ((aa).toNat * 11)) = some (.int .i64 ((rd_T76 l0_1 aa).f0)) ∧ w'.cell? ⟨(ab.add ((aa).toNat * 11)).block, (ab.add ((aa).toNat * 11)).off + 1, none⟩ = some (.int .i64 ((rd_T76 l0_1 aa).f1)) ∧ w'.cell? ⟨(ab.add ((aa).toNat * 11)).block, (ab.add ((aa).toNat * 11)).off + 2, none⟩ = some (.int .i64 ((rd_T76 l0_1 aa).f2)) ∧ w'.cell? ⟨(ab.add ((aa).toNat * 11)).block, (ab.add ((aa).toNat * 11)).off + 3, none⟩ = some (.string ((rd_T76 l0_1 aa).f3)) ∧ w'.cell? ⟨(ab.add ((aa).toNat * 11)).block, (ab.add ((aa).toNat * 11)).off + 4, none⟩ = some (.int .i64 ((rd_T76 l0_1 aa).f4.f0)) ∧ w'.cell? ⟨(ab.add ((aa).toNat * 11)).block, (ab.add ((aa).toNat * 11)).off + 5, none⟩ = some (.string ((rd_T76 l0_1 aa).f4.f1)) ∧ w'.cell? ⟨(ab.add ((aa).toNat * 11)).block, (ab.add ((aa).toNat * 11)).off + 6, none⟩ = some (.bool ((rd_T76 l0_1 aa).f4.f2)) ∧ w'.cell? ⟨(ab.add ((aa).toNat * 11)).block, (ab.add ((aa).toNat * 11)).off + 7, none⟩ = some (.string ((rd_T76 l0_1 aa).f5.f0)) ∧ w'.cell? ⟨(ab.add ((aa).toNat * 11)).block, (ab.add ((aa).toNat * 11)).off + 8, none⟩ = some (.string ((rd_T76 l0_1 aa).f5.f1)) ∧ w'.cell? ⟨(ab.add ((aa).toNat * 11)).block, (ab.add ((aa).toNat * 11)).off + 9, none⟩ = some (.bool ((rd_T76 l0_1 aa).f5.f2)) ∧ w'.cell? ⟨(ab.add ((aa).toNat * 11)).block, (ab.add ((aa).toNat * 11)).off + 10, none⟩ = some (.bool ((rd_T76 l0_1 aa).f6))) ∧ (Kd.V k99 99 w' w.heap.size (fun k_ => k_ ≠ ag ∧ k_ ≠ ah ∧ k_ ≠ s_.2) s_.1 aW) ∧ (Kd.V k99 99 w' w.heap.size (fun k_ => k_ ≠ ag ∧ k_ ≠ ah ∧ k_ ≠ s_.2) (.slice a8 ae.length a9) ae) ∧ (w'.heap[ag]? = some (.cells #[.slice A0_0 l0_0.length c0_0, .slice (some ab) l0_1.length c0_1] 66 (0, 0))) ∧ (w'.heap[ah]? = some (.cells #[.slice a8 ae.length a9] 47 (0, 0))) ∧ (w'.heap[s_.2]? = some (.cells #[.slice none 0 0] 47 (0, 0))) ∧ (w.heap.size ≤ s_.2) ∧ (w.heap.size ≤ s_.2) ∧ (ag ≠ s_.2) ∧ (s_.2 ≠ ag) ∧ (ah ≠ s_.2) ∧ (s_.2 ≠ ah) ∧ (Below w.heap.size w w')) ?_ ?_
            rotate_left
            ·intro hCont
             refine two_ (i := 6) (j := 10) (Ni := some 30) (Nj := some 5) (bt 13 127) (bt 13 1087) rfl rfl rfl rfl (two_of HT_.out (by kernel_rfl)) (by decide) (by decide) (fun K hK => ?_) (fun K hK => ?_)
             ·skip
              refine goes_ Try.func30 (by kernel_rfl) rfl #[.agg #[.slice a8 ae.length a9], .agg #[.int .i64 ((rd_T76 l0_1 aa).f0), .int .i64 ((rd_T76 l0_1 aa).f1), .int .i64 ((rd_T76 l0_1 aa).f2), .string ((rd_T76 l0_1 aa).f3), .int .i64 ((rd_T76 l0_1 aa).f4.f0), .string ((rd_T76 l0_1 aa).f4.f1), .bool ((rd_T76 l0_1 aa).f4.f2), .string ((rd_T76 l0_1 aa).f5.f0), .string ((rd_T76 l0_1 aa).f5.f1), .bool ((rd_T76 l0_1 aa).f5.f2), .bool ((rd_T76 l0_1 aa).f6)]] (by rfl) rfl rfl gs_ ?_
              with_reducible refine (quorumlaw9_step.calls bg (fun k_ => (k_ ≠ ag ∧ k_ ≠ ah)) _ _ ae ((rd_T76 l0_1 aa).f0) ((rd_T76 l0_1 aa).f1) ((rd_T76 l0_1 aa).f2) ((rd_T76 l0_1 aa).f3) ((rd_T76 l0_1 aa).f4.f0) ((rd_T76 l0_1 aa).f4.f1) ((rd_T76 l0_1 aa).f4.f2) ((rd_T76 l0_1 aa).f5.f0) ((rd_T76 l0_1 aa).f5.f1) ((rd_T76 l0_1 aa).f5.f2) ((rd_T76 l0_1 aa).f6) aW false _ ?side1 bJ.out).mono ?_
              (case side1 => exact ad.out)
              rintro e cD ⟨aY, rfl, ho0, hb⟩
              refine ⟨_, rfl, ?_⟩
              have aZ := mk0 (Kd.V_lower (Kd.V_mono (ok' := fun k_ => k_ ≠ ag ∧ k_ ≠ ah) ho0 (fun k_ hk_ => ⟨Or.elim hk_ (fun hs_ => hs_.1) (fun hn_ => (fb_ ac k_ hn_)), Or.elim hk_ (fun hs_ => hs_.2) (fun hn_ => (fb_ af k_ hn_))⟩)) (bz_ (b_ HB)))
              replace ad := mk0 (Kd.V_below (v_ ad) hb)
              replace ac := mk0 (u_ ac hb)
              replace af := mk0 (u_ af hb)
              replace HB := mk0 (bt_ (b_ HB) hb)
              have aD := aZ
              clear aZ
              (try clear hb)
              (try clear hk)
              (try clear hi)
              (try clear ho0)
              refine hK.out _ _ ⟨bk_ af 0, bk_ ac 0, bk_ ac 1, ((bc_ HB aA :)), ((bc_ HB az :)), ((bc_ HB ay :)), ((bc_ HB ax :)), ((bc_ HB aw :)), ((bc_ HB av :)), ((bc_ HB au :)), ((bc_ HB ar :)), ((bc_ HB aq :)), ((bc_ HB ap :)), ((bc_ HB ao :))⟩ (fun hHeld => ?_)
              clear hK K
              refine norm_ (a' := ?_) ?_ ?_
              rotate_left
              ·show Act.put _ (some 30) _ = _
               simp only [z_]
               rfl
              refine pq_ HT_.out 7 23 (bt 13 255) (h := ?_)
              refine pq_ HT_.out 8 31 (bt 13 511) (h := ?_)
              refine pq_ HT_.out 9 32 (bt 13 1023) (h := ?_)
              refine one_ (i := 10) (N := some 5) (bt 13 2047) rfl rfl (one_of HT_.out (by kernel_rfl)) (by decide) (fun K hK => ?_)
              refine box_step ?hg (N := 5) ?hd (cs := #[.slice none 0 0]) (t := 47) ?hr ?_; (case hd => rfl); (case hg => rfl); (case hr => first | (go_simp; done) | (go_simp; rfl))
              intro ai hg cE hbox hb
              have aS := mk0 (gz_ HB hg)
              have aT := mk0 (gz_ HB hg)
              have a2 := mk0 (ne1_ ac hg)
              have a3 := mk0 (ne2_ ac hg)
              have aP := mk0 (ne1_ af hg)
              have a4 := mk0 (ne2_ af hg)
              replace ad := mk0 (Kd.V_below (Kd.V_elderB (v_ ad) ai (Nat.le_of_eq hg.symm)) hb)
              replace aD := mk0 (Kd.V_below (Kd.V_elderB (v_ aD) ai (Nat.le_of_eq hg.symm)) hb)
              replace ac := mk0 (u_ ac hb)
              replace af := mk0 (u_ af hb)
              replace HB := mk0 (bt_ (b_ HB) hb)
              have aB := mk0 (hbox)
              have ak := aS
              have aV := aT
              have aj := a2
              have am := a3
              have al := aP
              have an := a4
              clear aS aT a2 a3 aP a4 hb hbox hg
              refine hK.out _ _ ⟨bk_ af 0, bk_ ac 0, bk_ ac 1, ((bc_ HB aA :)), ((bc_ HB az :)), ((bc_ HB ay :)), ((bc_ HB ax :)), ((bc_ HB aw :)), ((bc_ HB av :)), ((bc_ HB au :)), ((bc_ HB ar :)), ((bc_ HB aq :)), ((bc_ HB ap :)), ((bc_ HB ao :))⟩ (fun hHeld => ?_)
              clear hK K
              refine norm_ (a' := ?_) ?_ ?_
              rotate_left
              ·show Act.put _ (some 5) _ = _
               simp only [z_]
               rfl
              exact norm_ (by simp only [putAll, Act.put, List.setIfInBounds_toArray, List.set_cons_zero, List.set_cons_succ]) (hCont (aY, ai) _ ⟨hHeld, (v2_ (Kd.V_mono aD.out (fun _ hk => ⟨hk.1.1, ⟨hk.1.2, hk.2⟩⟩))), (v2_ (Kd.V_mono ad.out (fun _ hk => ⟨hk.1.1, ⟨hk.1.2, hk.2⟩⟩))), (h_ ac), (h_ af), (h_ aB), ak.out, aV.out, aj.out, am.out, al.out, an.out, (b_ HB)⟩)
             ·skip
              refine box_step ?hg (N := 5) ?hd (cs := #[.slice none 0 0]) (t := 47) ?hr ?_; (case hd => rfl); (case hg => rfl); (case hr => first | (go_simp; done) | (go_simp; rfl))
              intro ai hg cD hbox hb
              have a7 := mk0 (gz_ HB hg)
              have aS := mk0 (gz_ HB hg)
              have aT := mk0 (ne1_ ac hg)
              have a2 := mk0 (ne2_ ac hg)
              have a3 := mk0 (ne1_ af hg)
              have aP := mk0 (ne2_ af hg)
              replace ad := mk0 (Kd.V_below (Kd.V_elderB (v_ ad) ai (Nat.le_of_eq hg.symm)) hb)
              replace ac := mk0 (u_ ac hb)
              replace af := mk0 (u_ af hb)
              replace HB := mk0 (bt_ (b_ HB) hb)
              have aB := mk0 (hbox)
              have ak := a7
              have aV := aS
              have aj := aT
              have am := a2
              have al := a3
              have an := aP
              clear a7 aS aT a2 a3 aP hb hbox hg
              refine hK.out _ _ ⟨bk_ af 0, bk_ ac 0, bk_ ac 1, ((bc_ HB aA :)), ((bc_ HB az :)), ((bc_ HB ay :)), ((bc_ HB ax :)), ((bc_ HB aw :)), ((bc_ HB av :)), ((bc_ HB au :)), ((bc_ HB ar :)), ((bc_ HB aq :)), ((bc_ HB ap :)), ((bc_ HB ao :))⟩ (fun hHeld => ?_)
              clear hK K
              refine norm_ (a' := ?_) ?_ ?_
              rotate_left
              ·show Act.put _ (some 5) _ = _
               simp only [z_]
               rfl
              refine one_ (i := 6) (N := some 30) (bt 13 1151) rfl rfl (one_of HT_.out (by kernel_rfl)) (by decide) (fun K hK => ?_)
              refine goes_ Try.func30 (by kernel_rfl) rfl #[.agg #[.slice a8 ae.length a9], .agg #[.int .i64 ((rd_T76 l0_1 aa).f0), .int .i64 ((rd_T76 l0_1 aa).f1), .int .i64 ((rd_T76 l0_1 aa).f2), .string ((rd_T76 l0_1 aa).f3), .int .i64 ((rd_T76 l0_1 aa).f4.f0), .string ((rd_T76 l0_1 aa).f4.f1), .bool ((rd_T76 l0_1 aa).f4.f2), .string ((rd_T76 l0_1 aa).f5.f0), .string ((rd_T76 l0_1 aa).f5.f1), .bool ((rd_T76 l0_1 aa).f5.f2), .bool ((rd_T76 l0_1 aa).f6)]] (by rfl) rfl rfl gs_ ?_
              with_reducible refine (quorumlaw9_step.calls bg (fun k_ => ((k_ ≠ ag ∧ k_ ≠ ah) ∧ k_ ≠ ai)) _ _ ae ((rd_T76 l0_1 aa).f0) ((rd_T76 l0_1 aa).f1) ((rd_T76 l0_1 aa).f2) ((rd_T76 l0_1 aa).f3) ((rd_T76 l0_1 aa).f4.f0) ((rd_T76 l0_1 aa).f4.f1) ((rd_T76 l0_1 aa).f4.f2) ((rd_T76 l0_1 aa).f5.f0) ((rd_T76 l0_1 aa).f5.f1) ((rd_T76 l0_1 aa).f5.f2) ((rd_T76 l0_1 aa).f6) aW false _ ?side1 bJ.out).mono ?_
              (case side1 => exact ad.out)
              rintro e cE ⟨aY, rfl, ho0, hb⟩
              refine ⟨_, rfl, ?_⟩
              have aZ := mk0 (Kd.V_lower (Kd.V_mono (ok' := fun k_ => k_ ≠ ag ∧ k_ ≠ ah ∧ k_ ≠ ai) ho0 (fun k_ hk_ => ⟨Or.elim hk_ (fun hs_ => hs_.1.1) (fun hn_ => (fb_ ac k_ hn_)), Or.elim hk_ (fun hs_ => hs_.1.2) (fun hn_ => (fb_ af k_ hn_)), Or.elim hk_ (fun hs_ => hs_.2) (fun hn_ => (fb_ aB k_ hn_))⟩)) (bz_ (b_ HB)))
              replace ad := mk0 (Kd.V_below (v_ ad) hb)
              replace ac := mk0 (u_ ac hb)
              replace af := mk0 (u_ af hb)
              replace aB := mk0 (u_ aB hb)
              replace HB := mk0 (bt_ (b_ HB) hb)
              have aD := aZ
              clear aZ
              (try clear hb)
              (try clear hk)
              (try clear hi)
              (try clear ho0)
              refine hK.out _ _ ⟨bk_ af 0, bk_ ac 0, bk_ ac 1, ((bc_ HB aA :)), ((bc_ HB az :)), ((bc_ HB ay :)), ((bc_ HB ax :)), ((bc_ HB aw :)), ((bc_ HB av :)), ((bc_ HB au :)), ((bc_ HB ar :)), ((bc_ HB aq :)), ((bc_ HB ap :)), ((bc_ HB ao :))⟩ (fun hHeld => ?_)
              clear hK K
              refine norm_ (a' := ?_) ?_ ?_
              rotate_left
              ·show Act.put _ (some 30) _ = _
               simp only [z_]
               rfl
              refine pq_ HT_.out 7 23 (bt 13 1279) (h := ?_)
              refine pq_ HT_.out 8 31 (bt 13 1535) (h := ?_)
              refine pq_ HT_.out 9 32 (bt 13 2047) (h := ?_)
              exact norm_ (by simp only [putAll, Act.put, List.setIfInBounds_toArray, List.set_cons_zero, List.set_cons_succ]) (hCont (aY, ai) _ ⟨hHeld, (v_ aD), (v2_ (Kd.V_mono ad.out (fun _ hk => ⟨hk.1.1, ⟨hk.1.2, hk.2⟩⟩))), (h_ ac), (h_ af), (h_ aB), ak.out, aV.out, aj.out, am.out, al.out, an.out, (b_ HB)⟩)
            rintro ⟨aY, ai⟩ aR ⟨hS_, h0_, h1_, h2_, h3_, h4_, h5_, h6_, h7_, h8_, h9_, h10_, h11_⟩
            have bn : Fc (Kd.V k99 99 aR w.heap.size (fun k_ => k_ ≠ ag ∧ k_ ≠ ah ∧ k_ ≠ ai) aY aW) := ⟨h0_⟩
            have aZ : Fc (Kd.V k99 99 aR w.heap.size (fun k_ => k_ ≠ ag ∧ k_ ≠ ah ∧ k_ ≠ ai) (.slice a8 ae.length a9) ae) := ⟨h1_⟩
            have n2_ : Fc (aR.heap[ag]? = some (.cells #[.slice A0_0 l0_0.length c0_0, .slice (some ab) l0_1.length c0_1] 66 (0, 0))) := ⟨h2_⟩
            have bb : Fc (aR.heap[ah]? = some (.cells #[.slice a8 ae.length a9] 47 (0, 0))) := ⟨h3_⟩
            have bs : Fc (aR.heap[ai]? = some (.cells #[.slice none 0 0] 47 (0, 0))) := ⟨h4_⟩
            have a7 : Fc (w.heap.size ≤ ai) := ⟨h5_⟩
            have aS : Fc (w.heap.size ≤ ai) := ⟨h6_⟩
            have aT : Fc (ag ≠ ai) := ⟨h7_⟩
            have a2 : Fc (ai ≠ ag) := ⟨h8_⟩
            have a3 : Fc (ah ≠ ai) := ⟨h9_⟩
            have aP : Fc (ai ≠ ah) := ⟨h10_⟩
            have a4 : Fc (Below w.heap.size w aR) := ⟨h11_⟩
            clear ad ac af HB h0_ h1_ h2_ h3_ h4_ h5_ h6_ h7_ h8_ h9_ h10_ h11_
            have aD := bn
            have ad := aZ
            have ac := n2_
            have af := bb
            have aB := bs
            have ak := a7
            have aV := aS
            have aj := aT
            have am := a2
            have al := a3
            have an := aP
            have HB := a4
            clear bn aZ n2_ bb bs a7 aS aT a2 a3 aP a4
            have hHeld : aR.cell? ⟨ah, 0, none⟩ = some (.slice a8 ae.length a9) ∧ aR.cell? ⟨ag, 0, none⟩ = some (.slice A0_0 l0_0.length c0_0) ∧ aR.cell? ⟨ag, 1, none⟩ = some (.slice (some ab) l0_1.length c0_1) ∧ aR.cell? (ab.add ((aa).toNat * 11)) = some (.int .i64 ((rd_T76 l0_1 aa).f0)) ∧ aR.cell? ⟨(ab.add ((aa).toNat * 11)).block, (ab.add ((aa).toNat * 11)).off + 1, none⟩ = some (.int .i64 ((rd_T76 l0_1 aa).f1)) ∧ aR.cell? ⟨(ab.add ((aa).toNat * 11)).block, (ab.add ((aa).toNat * 11)).off + 2, none⟩ = some (.int .i64 ((rd_T76 l0_1 aa).f2)) ∧ aR.cell? ⟨(ab.add ((aa).toNat * 11)).block, (ab.add ((aa).toNat * 11)).off + 3, none⟩ = some (.string ((rd_T76 l0_1 aa).f3)) ∧ aR.cell? ⟨(ab.add ((aa).toNat * 11)).block, (ab.add ((aa).toNat * 11)).off + 4, none⟩ = some (.int .i64 ((rd_T76 l0_1 aa).f4.f0)) ∧ aR.cell? ⟨(ab.add ((aa).toNat * 11)).block, (ab.add ((aa).toNat * 11)).off + 5, none⟩ = some (.string ((rd_T76 l0_1 aa).f4.f1)) ∧ aR.cell? ⟨(ab.add ((aa).toNat * 11)).block, (ab.add ((aa).toNat * 11)).off + 6, none⟩ = some (.bool ((rd_T76 l0_1 aa).f4.f2)) ∧ aR.cell? ⟨(ab.add ((aa).toNat * 11)).block, (ab.add ((aa).toNat * 11)).off + 7, none⟩ = some (.string ((rd_T76 l0_1 aa).f5.f0)) ∧ aR.cell? ⟨(ab.add ((aa).toNat * 11)).block, (ab.add ((aa).toNat * 11)).off + 8, none⟩ = some (.string ((rd_T76 l0_1 aa).f5.f1)) ∧ aR.cell? ⟨(ab.add ((aa).toNat * 11)).block, (ab.add ((aa).toNat * 11)).off + 9, none⟩ = some (.bool ((rd_T76 l0_1 aa).f5.f2)) ∧ aR.cell? ⟨(ab.add ((aa).toNat * 11)).block, (ab.add ((aa).toNat * 11)).off + 10, none⟩ = some (.bool ((rd_T76 l0_1 aa).f6)) := hS_
            obtain ⟨cH, cI, bP⟩ := Kd.V_slice aD.out
            (first | subst bP | (injection bP with f1_ f2_ f3_; have f4_ := f1_.symm; have f5_ := f3_.symm; clear f1_ f2_ f3_; subst f4_; subst f5_))
            refine norm_ (a' := ?_) ?_ ?_
            rotate_left
            ·simp only [putAll, Act.put, List.setIfInBounds_toArray, List.set_cons_zero, List.set_cons_succ]
             rfl
            refine one_ (i := 11) (N := none) (bt 13 4095) rfl rfl (one_of HT_.out (by kernel_rfl)) (by decide) (fun K hK => ?_)
            have hs46 : aR.cell? ⟨ai, 0, none⟩ = some (.slice none 0 0) := bk_ aB 0
            have hfs46 := blk_frozen aB.out 0
            have cc := aj.out
            have cd := al.out
            have ce := am.out
            have cf := an.out
            refine skip_ (w1 := ?_) (by rfl) rfl ?_ ?_
            rotate_left
            ·go_simp
             rfl
            refine hK.out _ _ ⟨(cf_ al.out hHeld.1), (cf_ aj.out hHeld.2.1), (cf_ aj.out hHeld.2.2.1), (cf_ (nb_ aA ak) hHeld.2.2.2.1), (cf_ (nb_ az ak) hHeld.2.2.2.2.1), (cf_ (nb_ ay ak) hHeld.2.2.2.2.2.1), (cf_ (nb_ ax ak) hHeld.2.2.2.2.2.2.1), (cf_ (nb_ aw ak) hHeld.2.2.2.2.2.2.2.1), (cf_ (nb_ av ak) hHeld.2.2.2.2.2.2.2.2.1), (cf_ (nb_ au ak) hHeld.2.2.2.2.2.2.2.2.2.1), (cf_ (nb_ ar ak) hHeld.2.2.2.2.2.2.2.2.2.2.1), (cf_ (nb_ aq ak) hHeld.2.2.2.2.2.2.2.2.2.2.2.1), (cf_ (nb_ ap ak) hHeld.2.2.2.2.2.2.2.2.2.2.2.2.1), (cf_ (nb_ ao ak) hHeld.2.2.2.2.2.2.2.2.2.2.2.2.2)⟩ (fun hHeld => ?_)
            clear hK K
            refine pq_ HT_.out 12 6 (bt 13 8191) (h := ?_)
            refine done_ (done_of HT_.out (by kernel_rfl)) ?_
            try go_wp2
            go_ret
            exact ⟨sa_, b_ HB⟩
          ·rw [if_neg bI] at H
           exact absurd H (by simp)
         ·rw [if_neg bH] at H
          exact absurd H (by simp)
        ·replace bG := Bool.eq_false_iff.mpr bG
         subst bG
         rw [if_neg nf_] at H
         replace H := ob_ H
         obtain ⟨cg, cF, H⟩ := H
         try dsimp only at H
         obtain rfl := Option.some.inj H
         go_wp2_with (first | ((with_reducible refine gate_callee (f := 31) rfl ?_); refine gL_ (some 36) Try.func31 #[] (h := ?_); (with_reducible refine (quorumlaw9_wakes.calls bg  cg _ cF.out).mono ?_); rintro e cO ⟨rfl, hb⟩; refine ⟨_, rfl, ?_⟩; replace ad := mk0 (Kd.V_below (v_ ad) hb); replace ac := mk0 (u_ ac hb); replace af := mk0 (u_ af hb); replace HB := mk0 (bt_ (b_ HB) hb); (try clear hb)))
         go_ret
         exact ⟨sa_, b_ HB⟩
end Go.Proofs.Ytbaecdcfefmcgaa.PTbe
