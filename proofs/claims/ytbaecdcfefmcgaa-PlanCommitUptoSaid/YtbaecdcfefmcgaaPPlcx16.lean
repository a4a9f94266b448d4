-- PRINTED by print.py (a twelfth state) out of the translation. Not trusted: Lean checks it.
import Derived.Test.YtbaecdcfefmcgaaPPlcx0
import Derived.Test.YtbaecdcfefmcgaaPPlcx4
import Derived.Test.YtbaecdcfefmcgaaPPlcx5
import Derived.Test.YtbaecdcfefmcgaaPPlcx15
namespace Go.Proofs.Ytbaecdcfefmcgaa.PPlc
open Go.RowKit Go.Proofs.YtbaecdcfefmcgaaW.PrintWords Go.Proofs.YtbaecdcfefmcgaaW.PrintLast Go.Proofs.YtbaecdcfefmcgaaW.PrintMore
attribute [local go_sem] max2_int min2_int max_two min_two max_three min_three max_four min_four   -- for this text's walks alone
set_option linter.unusedVariables false
set_option linter.unusedSimpArgs false

/-! ### quorumlaw12_each: function 22 -/
def quorumlaw12_each.l0 : Nat → Int → Int → List (S101) → List (S34) → List Int → List (S101) → List (S34) → List Int → Option (Bool)
 | 0, _, _, _, _, _, _, _, _ => none
 | k + 1, x1, x6, x347000, x347001, x347002, x348000, x348001, x348002 => if x6 < (x347000.length : Int) then (if 0 ≤ x6 then ((quorumlaw12_Bare.f x1 ((rd_T101 x347000 x6).f1) ((rd_T101 x347000 x6).f2) ((rd_T101 x347000 x6).f3) ((rd_T101 x347000 x6).f4.f0) ((rd_T101 x347000 x6).f4.f1) ((rd_T101 x347000 x6).f4.f2) ((rd_T101 x347000 x6).f5) ((rd_T101 x347000 x6).f6)).bind fun bt350 => ((some (([(⟨x1, (rd_T101 x347000 x6).f1, (rd_T101 x347000 x6).f2, (rd_T101 x347000 x6).f3, (⟨(rd_T101 x347000 x6).f4.f0, (rd_T101 x347000 x6).f4.f1, (rd_T101 x347000 x6).f4.f2⟩ : S74), (rd_T101 x347000 x6).f5, (rd_T101 x347000 x6).f6⟩ : S101), (⟨bt350.1, bt350.2.1, bt350.2.2.1, bt350.2.2.2.1, (⟨bt350.2.2.2.2.1, bt350.2.2.2.2.2.1, bt350.2.2.2.2.2.2.1⟩ : S74), bt350.2.2.2.2.2.2.2.1, bt350.2.2.2.2.2.2.2.2⟩ : S101)] : List (S101)) : List (S101))).bind fun y359 => (if x348000.length + y359.length < 1353245080339 then (quorumlaw12_each.l0 k x1 (wrap64 (x6 + 1)) x347000 x347001 x347002 (x348000 ++ y359) x348001 x348002) else (none)))) else (none)) else ((quorumlaw12_PlanLocks.f k x348000 x348001 x348002).bind fun t365 => (if t365 = true then ((plan_Writes.f x1 0 (⟨#[]⟩ : ByteArray) (⟨#[]⟩ : ByteArray) (⟨#[]⟩ : ByteArray) (⟨#[]⟩ : ByteArray) false 0 false).bind fun t366 => ((quorumref12_Writes.f x1 0 (⟨#[]⟩ : ByteArray) (⟨#[]⟩ : ByteArray) (⟨#[]⟩ : ByteArray) (⟨#[]⟩ : ByteArray) false 0 false).bind fun t367 => (some (t366 == t367)))) else (some false)))
def quorumlaw12_each.f (k : Nat) (l0_0 : List (S101)) (l0_1 : List (S34)) (l0_2 : List Int) (a1 : Int) : Option (Bool) := quorumlaw12_each.l0 k a1 0 l0_0 l0_1 l0_2 ([] : List (S101)) l0_1 l0_2
theorem quorumlaw12_each.mono_l : ∀ k, (∀ y0 y1 y2 y3 y4 y5 y6 y7, LeO (quorumlaw12_each.l0 k y0 y1 y2 y3 y4 y5 y6 y7) (quorumlaw12_each.l0 (k + 1) y0 y1 y2 y3 y4 y5 y6 y7))
 | 0 => fun _ _ _ _ _ _ _ _ r h => by simp [quorumlaw12_each.l0] at h
 | k + 1 => by
  have ih0 := quorumlaw12_each.mono_l k
  ·intro y0 y1 y2 y3 y4 y5 y6 y7
   unfold quorumlaw12_each.l0
   repeat' first
   | (with_reducible exact ih0 _ _ _ _ _ _ _ _)
   | (with_reducible exact quorumlaw12_PlanLocks.mono _ _ _ _)
   | (with_reducible exact LeO.refl _)
   | (with_reducible exact LeO.none _)
   | (with_reducible refine LeO.ite ?_ ?_)
   | (with_reducible refine LeO.bind ?_ (fun _ => ?_))
   | exact ih0 _ _ _ _ _ _ _ _
   | exact quorumlaw12_PlanLocks.mono _ _ _ _
   | exact LeO.none _
   | refine LeO.ite ?_ ?_
   | refine LeO.bind ?_ (fun _ => ?_)
theorem quorumlaw12_each.mono : ∀ a0 a1 a2 a3 k, LeO (quorumlaw12_each.f k a0 a1 a2 a3) (quorumlaw12_each.f (k + 1) a0 a1 a2 a3) := by
 intro a0 a1 a2 a3 k
 have ih0 := quorumlaw12_each.mono_l k
 unfold quorumlaw12_each.f
 repeat' first
   | (with_reducible exact ih0 _ _ _ _ _ _ _ _)
   | (with_reducible exact quorumlaw12_PlanLocks.mono _ _ _ _)
   | (with_reducible exact LeO.refl _)
   | (with_reducible exact LeO.none _)
   | (with_reducible refine LeO.ite ?_ ?_)
   | (with_reducible refine LeO.bind ?_ (fun _ => ?_))
   | exact ih0 _ _ _ _ _ _ _ _
   | exact quorumlaw12_PlanLocks.mono _ _ _ _
   | exact LeO.none _
   | refine LeO.ite ?_ ?_
   | refine LeO.bind ?_ (fun _ => ?_)
def quorumlaw12_each.T8 : Bool × List (List Nat × List Nat) := (true, [([], []), ([0], [0]), ([], []), ([], []), ([3], [3]), ([2, 4], [2, 4]), ([1, 5, 4], [1, 5]), ([0, 1, 2, 3, 4, 5, 6], []), ([7, 6, 6, 0, 1, 2, 3, 4, 5, 6], [6, 7])])
def quorumlaw12_each.B8 : List Nat := [0, 1, 0, 0, 8, 28, 63, 127, 255]
theorem quorumlaw12_each.tab8 : rtab .any (opsOf Try.f22 8) = quorumlaw12_each.T8 := by kernel_rfl
theorem quorumlaw12_each.bits8 : waitsOk quorumlaw12_each.T8.2 quorumlaw12_each.B8 = true := by kernel_rfl
set_option maxHeartbeats 8000000 in
set_option maxRecDepth 100000 in
theorem quorumlaw12_each.calls (k : Nat) (A0_0 : Option Addr) (c0_0 : Nat) (l0_0 : List (S101)) (A0_1 : Option Addr) (c0_1 : Nat) (l0_1 : List (S34)) (A0_2 : Option Addr) (c0_2 : Nat) (l0_2 : List Int) (a1 : Int) (r : Bool) (w : World) (hr0_0 : Kd.C k101 w A0_0 l0_0.length l0_0) (hc0_0 : l0_0.length ≤ c0_0) (hr0_1 : Kd.C k34 w A0_1 l0_1.length l0_1) (hc0_1 : l0_1.length ≤ c0_1) (hr0_2 : Kd.C (Kd.int .i64) w A0_2 l0_2.length l0_2) (hc0_2 : l0_2.length ≤ c0_2) (h : quorumlaw12_each.f k l0_0 l0_1 l0_2 a1 = some r) :
  Calls Try.prog 22 #[.agg #[.slice A0_0 l0_0.length c0_0, .slice A0_1 l0_1.length c0_1, .slice A0_2 l0_2.length c0_2], .int .i64 a1] w fun e w' => e = .returned (.bool r) ∧ Below w.heap.size w w' := by
 have hu51 := Try.underlying51
 have hu101 := Try.underlying101
 have HR0_0 := mk0 hr0_0
 have HC0_0 := mk0 hc0_0
 clear hr0_0 hc0_0
 have HR0_1 := mk0 hr0_1
 have HC0_1 := mk0 hc0_1
 clear hr0_1 hc0_1
 have HR0_2 := mk0 hr0_2
 have HC0_2 := mk0 hc0_2
 clear hr0_2 hc0_2
 have HB := mk0 (Below.refl w.heap.size w)
 have H : (quorumlaw12_each.l0 k a1 0 l0_0 l0_1 l0_2 ([] : List (S101)) l0_1 l0_2) = some r := h
 clear h
 have H' := mk0 H
 clear H
 go_enter Try.func22, Try.ntmps22
 go_wp2_with (first | ((with_reducible refine gate_dst (N := 2) rfl ?_); refine bx_ (N := 2) (cs := #[.slice A0_0 l0_0.length c0_0, .slice A0_1 l0_1.length c0_1, .slice A0_2 l0_2.length c0_2]) (t := 51) (h := ?_); intro gb346 hg w3 hbox hb; have n2_ := mk0 (gz_ HB hg); have n3_ := mk0 (gz_ HB hg); replace HB := mk0 (bt_ (b_ HB) hb); have BK346 := mk0 (hbox); have GW346 := n2_; have GE346 := n3_; clear n2_ n3_ hb hbox hg; obtain ⟨hcz4_0, hcz4_1, hcz4_2, hfz4_0, hfz4_1, hfz4_2⟩ := c3_ BK346) | ((with_reducible refine gate_dst (N := 5) rfl ?_); refine bx_ (N := 5) (cs := #[.slice none 0 0, .slice none 0 0, .slice none 0 0]) (t := 51) (h := ?_); intro gb347 hg w5 hbox hb; have n3_ := mk0 (gz_ HB hg); have n4_ := mk0 (gz_ HB hg); have n5_ := mk0 (ne1_ BK346 hg); have n6_ := mk0 (ne2_ BK346 hg); replace BK346 := mk0 (u_ BK346 hb); replace HB := mk0 (bt_ (b_ HB) hb); have BK347 := mk0 (hbox); have GW347 := n3_; have GE347 := n4_; have NB346_347 := n5_; have NB347_346 := n6_; clear n3_ n4_ n5_ n6_ hb hbox hg; have hnb6 := NB347_346.out; have hnc6 := NB346_347.out; obtain ⟨hcz7_0, hcz7_1, hcz7_2, hfz7_0, hfz7_1, hfz7_2⟩ := c3_ BK347))
 go_loopg [6] k (fun kq v6 w' => ∃ (x6_1 : Int) (x348000_1 : List (S101)) (u348000 : Value), v6 = .int .i64 x6_1 ∧ Fc (quorumlaw12_each.l0 kq a1 x6_1 l0_0 l0_1 l0_2 x348000_1 l0_1 l0_2 = some r) ∧ Fc (kq ≤ k) ∧ Fc (Kd.R k101 101 w' w.heap.size (fun _ => True) u348000 x348000_1) ∧ Fc (w'.heap[gb346]? = some (.cells #[(.slice A0_0 l0_0.length c0_0), (.slice A0_1 l0_1.length c0_1), (.slice A0_2 l0_2.length c0_2)] 51 (0, 0))) ∧ Fc (w'.heap[gb347]? = some (.cells #[u348000, (.slice A0_1 l0_1.length c0_1), (.slice A0_2 l0_2.length c0_2)] 51 (0, 0))) ∧ Fc (Below w.heap.size w w'))
 case atStart => exact ⟨(0), (([] : List (S101))), (.slice none 0 0), (by first | rfl | (simp; done) | (simp [*]; done)), H', ⟨Nat.le_refl _⟩, ⟨by first | exact Kd.R_nil _ _ _ _ _ | exact Kd.N_nil _ _ _ _ _ | exact Kd.V_nil _ _ _ _ _ | exact Kd.Q_nil _ _ _ _ _ | exact Kd.S_nil _ _ _ _ _⟩, ⟨(fa_ (fa_ (fa_ (fa_ (h_ BK346) NB346_347.out) NB346_347.out) NB346_347.out) NB346_347.out)⟩, ⟨(pu_ (cs := #[.slice A0_0 l0_0.length c0_0, .slice A0_1 l0_1.length c0_1, .slice A0_2 l0_2.length c0_2]) (pu_ (cs := #[.slice A0_0 l0_0.length c0_0, .slice A0_1 l0_1.length c0_1, .slice none 0 0]) (pu_ (cs := #[.slice A0_0 l0_0.length c0_0, .slice none 0 0, .slice none 0 0]) (pu_ (cs := #[.slice none 0 0, .slice none 0 0, .slice none 0 0]) (h_ BK347)))))⟩, ⟨b_ HB⟩⟩
 case round =>
  clear H'
  try clear hcz4_0
  try clear hcz4_1
  try clear hcz4_2
  try clear hcz7_0
  try clear hcz7_1
  try clear hcz7_2
  try clear hfz4_0
  try clear hfz4_1
  try clear hfz4_2
  try clear hfz7_0
  try clear hfz7_1
  try clear hfz7_2
  obtain ⟨x6_1, x348000_1, u348000, rfl, HA, HK1, HO_348000, BK346, BK347, HB⟩ := hrel
  cases gk with
  | zero => exact absurd HA.out (by simp [quorumlaw12_each.l0])
  | succ k1 =>
   have H := HA.out
   clear HA
   simp only [quorumlaw12_each.l0] at H
   focus
    by_cases c8 : x6_1 < (l0_0.length : Int)
    ·rw [if_pos c8] at H
     have c8b0 : decide (x6_1 < (l0_0.length : Int)) = true := decide_eq_true c8
     clear c8
     by_cases c9 : 0 ≤ x6_1
     ·rw [if_pos c9] at H
      have c9b0 : decide (0 ≤ x6_1) = true := decide_eq_true c9
      clear c9
      replace H := Option.bind_eq_some_iff.mp H
      obtain ⟨⟨t350, t351, t352, t353, t354, t355, t356, t357, t358⟩, A100, H⟩ := H
      try dsimp only at H
      have A10 := mk0 A100
      clear A100
      obtain ⟨y359, hy359⟩ : ∃ y_ : List (S101), y_ = (([(⟨a1, (rd_T101 l0_0 x6_1).f1, (rd_T101 l0_0 x6_1).f2, (rd_T101 l0_0 x6_1).f3, (⟨(rd_T101 l0_0 x6_1).f4.f0, (rd_T101 l0_0 x6_1).f4.f1, (rd_T101 l0_0 x6_1).f4.f2⟩ : S74), (rd_T101 l0_0 x6_1).f5, (rd_T101 l0_0 x6_1).f6⟩ : S101), (⟨t350, t351, t352, t353, (⟨t354, t355, t356⟩ : S74), t357, t358⟩ : S101)] : List (S101))) := ⟨_, rfl⟩
      replace H : (if x348000_1.length + y359.length < 1353245080339 then (quorumlaw12_each.l0 k1 a1 (wrap64 (x6_1 + 1)) l0_0 l0_1 l0_2 (x348000_1 ++ y359) l0_1 l0_2) else (none)) = some r := by first | (rw [hy359]; with_reducible exact H) | (have H2_ := (Option.bind_some _ _).symm.trans H; rw [hy359]; with_reducible exact H2_) | (have H2_ := (Option.bind_some _ _).symm.trans H; with_reducible exact H2_) | with_reducible exact H | (rw [hy359]; exact H) | exact H
      have Ny359 := mk0 hy359
      clear hy359
      by_cases c11 : x348000_1.length + y359.length < 1353245080339
      ·rw [if_pos c11] at H
       have LMc11 := mk0 c11
       clear c11
       obtain ⟨y362, hy362⟩ : ∃ y_ : List (S101), y_ = (x348000_1 ++ y359) := ⟨_, rfl⟩
       replace H : (quorumlaw12_each.l0 k1 a1 (wrap64 (x6_1 + 1)) l0_0 l0_1 l0_2 y362 l0_1 l0_2) = some r := by first | (rw [hy362]; with_reducible exact H) | (have H2_ := (Option.bind_some _ _).symm.trans H; rw [hy362]; with_reducible exact H2_) | (have H2_ := (Option.bind_some _ _).symm.trans H; with_reducible exact H2_) | with_reducible exact H | (rw [hy362]; exact H) | exact H
       have Ny362 := mk0 hy362
       clear hy362
       have H' := mk0 H
       clear H
       have hnb12 := NB346_347.out
       have hnc12 := NB347_346.out
       obtain ⟨hcz13_0, hcz13_1, hcz13_2, hfz13_0, hfz13_1, hfz13_2⟩ := c3_ BK346
       have p348 : 0 ≤ (x6_1 : Int) := of_decide_eq_true (by first | (with_reducible assumption) | assumption)
       have q348 : x6_1 < (l0_0.length : Int) := of_decide_eq_true (by first | (with_reducible assumption) | assumption)
       obtain ⟨ad348, e348, hx348_0, hx348_1, hx348_2, hx348_3, hx348_4, hx348_5, hx348_6, hx348_7, hx348_8⟩ := at_T101 HR0_0.out x6_1 p348 q348
       cases e348
       replace hx348_0 := (bc_ HB hx348_0 :)
       replace hx348_1 := (bc_ HB hx348_1 :)
       replace hx348_2 := (bc_ HB hx348_2 :)
       replace hx348_3 := (bc_ HB hx348_3 :)
       replace hx348_4 := (bc_ HB hx348_4 :)
       replace hx348_5 := (bc_ HB hx348_5 :)
       replace hx348_6 := (bc_ HB hx348_6 :)
       replace hx348_7 := (bc_ HB hx348_7 :)
       replace hx348_8 := (bc_ HB hx348_8 :)
       replace p348 := eq_true p348
       replace q348 := eq_true q348
       try go_wp2_with (first | ((with_reducible refine gate_dst (N := 7) rfl ?_); refine bx_ (N := 7) (cs := #[.int .i64 0, .int .i64 0, .string (⟨#[]⟩ : ByteArray), .string (⟨#[]⟩ : ByteArray), .string (⟨#[]⟩ : ByteArray), .string (⟨#[]⟩ : ByteArray), .bool false, .int .i64 0, .bool false]) (t := 101) (h := ?_); intro gb349 hg w14 hbox hb; have n5_ := mk0 (gz_ HB hg); have n6_ := mk0 (gz_ HB hg); have n7_ := mk0 (ne1_ BK346 hg); have n8_ := mk0 (ne2_ BK346 hg); have n9_ := mk0 (ne1_ BK347 hg); have n10_ := mk0 (ne2_ BK347 hg); replace HO_348000 := mk0 (Kd.R_below (Kd.R_elderB (r_ HO_348000) gb349 (Nat.le_of_eq hg.symm)) hb); replace BK346 := mk0 (u_ BK346 hb); replace BK347 := mk0 (u_ BK347 hb); replace HB := mk0 (bt_ (b_ HB) hb); have BK349 := mk0 (hbox); have GW349 := n5_; have GE349 := n6_; have NB346_349 := n7_; have NB349_346 := n8_; have NB347_349 := n9_; have NB349_347 := n10_; clear n5_ n6_ n7_ n8_ n9_ n10_ hb hbox hg; have hnb15 := NB349_346.out; have hnc15 := NB346_349.out; have hnb16 := NB349_347.out; have hnc16 := NB347_349.out; obtain ⟨hcz17_0, hcz17_1, hcz17_2, hcz17_3, hcz17_4, hcz17_5, hcz17_6, hcz17_7, hcz17_8, hfz17_0, hfz17_1, hfz17_2, hfz17_3, hfz17_4, hfz17_5, hfz17_6, hfz17_7, hfz17_8⟩ := c9_ BK349))
       have n0_ : Fc (Kd.R k101 101 ((((((((((w14.setCell ⟨gb349, 0, none⟩ (.int .i64 ((rd_T101 l0_0 x6_1).f0))).setCell ⟨gb349, 1, none⟩ (.int .i64 ((rd_T101 l0_0 x6_1).f1))).setCell ⟨gb349, 2, none⟩ (.string ((rd_T101 l0_0 x6_1).f2))).setCell ⟨gb349, 3, none⟩ (.string ((rd_T101 l0_0 x6_1).f3))).setCell ⟨gb349, 4, none⟩ (.string ((rd_T101 l0_0 x6_1).f4.f0))).setCell ⟨gb349, 5, none⟩ (.string ((rd_T101 l0_0 x6_1).f4.f1))).setCell ⟨gb349, 6, none⟩ (.bool ((rd_T101 l0_0 x6_1).f4.f2))).setCell ⟨gb349, 7, none⟩ (.int .i64 ((rd_T101 l0_0 x6_1).f5))).setCell ⟨gb349, 8, none⟩ (.bool ((rd_T101 l0_0 x6_1).f6))).setCell ⟨gb349, 0, none⟩ (.int .i64 a1)) w.heap.size (fun k_ => k_ ≠ gb349) u348000 x348000_1) := ⟨by (with_reducible repeat (first | apply Ra_ | apply Rn_ | apply Rd_)); exact Kd.R_mono (Kd.R_far (p := ⟨gb349, 0, none⟩) (Kd.R_far (p := ⟨gb349, 8, none⟩) (Kd.R_far (p := ⟨gb349, 7, none⟩) (Kd.R_far (p := ⟨gb349, 6, none⟩) (Kd.R_far (p := ⟨gb349, 5, none⟩) (Kd.R_far (p := ⟨gb349, 4, none⟩) (Kd.R_far (p := ⟨gb349, 3, none⟩) (Kd.R_far (p := ⟨gb349, 2, none⟩) (Kd.R_far (p := ⟨gb349, 1, none⟩) (Kd.R_far (p := ⟨gb349, 0, none⟩) (Kd.R_mono HO_348000.out (fun k_ hk => (⟨hk, hk.2⟩ : _ ∧ k_ ≠ gb349))) (fun _ hk => hk.2) (.int .i64 ((rd_T101 l0_0 x6_1).f0))) (fun _ hk => hk.2) (.int .i64 ((rd_T101 l0_0 x6_1).f1))) (fun _ hk => hk.2) (.string ((rd_T101 l0_0 x6_1).f2))) (fun _ hk => hk.2) (.string ((rd_T101 l0_0 x6_1).f3))) (fun _ hk => hk.2) (.string ((rd_T101 l0_0 x6_1).f4.f0))) (fun _ hk => hk.2) (.string ((rd_T101 l0_0 x6_1).f4.f1))) (fun _ hk => hk.2) (.bool ((rd_T101 l0_0 x6_1).f4.f2))) (fun _ hk => hk.2) (.int .i64 ((rd_T101 l0_0 x6_1).f5))) (fun _ hk => hk.2) (.bool ((rd_T101 l0_0 x6_1).f6))) (fun _ hk => hk.2) (.int .i64 a1)) (fun _ hk => hk.1.2)⟩
       have n1_ : Fc (((((((((((w14.setCell ⟨gb349, 0, none⟩ (.int .i64 ((rd_T101 l0_0 x6_1).f0))).setCell ⟨gb349, 1, none⟩ (.int .i64 ((rd_T101 l0_0 x6_1).f1))).setCell ⟨gb349, 2, none⟩ (.string ((rd_T101 l0_0 x6_1).f2))).setCell ⟨gb349, 3, none⟩ (.string ((rd_T101 l0_0 x6_1).f3))).setCell ⟨gb349, 4, none⟩ (.string ((rd_T101 l0_0 x6_1).f4.f0))).setCell ⟨gb349, 5, none⟩ (.string ((rd_T101 l0_0 x6_1).f4.f1))).setCell ⟨gb349, 6, none⟩ (.bool ((rd_T101 l0_0 x6_1).f4.f2))).setCell ⟨gb349, 7, none⟩ (.int .i64 ((rd_T101 l0_0 x6_1).f5))).setCell ⟨gb349, 8, none⟩ (.bool ((rd_T101 l0_0 x6_1).f6))).setCell ⟨gb349, 0, none⟩ (.int .i64 a1)).heap[gb346]? = some (.cells #[.slice (some ad348) l0_0.length c0_0, .slice A0_1 l0_1.length c0_1, .slice A0_2 l0_2.length c0_2] 51 (0, 0))) := ⟨(fa_ (fa_ (fa_ (fa_ (fa_ (fa_ (fa_ (fa_ (fa_ (fa_ (h_ BK346) NB346_349.out) NB346_349.out) NB346_349.out) NB346_349.out) NB346_349.out) NB346_349.out) NB346_349.out) NB346_349.out) NB346_349.out) NB346_349.out)⟩
       have n2_ : Fc (((((((((((w14.setCell ⟨gb349, 0, none⟩ (.int .i64 ((rd_T101 l0_0 x6_1).f0))).setCell ⟨gb349, 1, none⟩ (.int .i64 ((rd_T101 l0_0 x6_1).f1))).setCell ⟨gb349, 2, none⟩ (.string ((rd_T101 l0_0 x6_1).f2))).setCell ⟨gb349, 3, none⟩ (.string ((rd_T101 l0_0 x6_1).f3))).setCell ⟨gb349, 4, none⟩ (.string ((rd_T101 l0_0 x6_1).f4.f0))).setCell ⟨gb349, 5, none⟩ (.string ((rd_T101 l0_0 x6_1).f4.f1))).setCell ⟨gb349, 6, none⟩ (.bool ((rd_T101 l0_0 x6_1).f4.f2))).setCell ⟨gb349, 7, none⟩ (.int .i64 ((rd_T101 l0_0 x6_1).f5))).setCell ⟨gb349, 8, none⟩ (.bool ((rd_T101 l0_0 x6_1).f6))).setCell ⟨gb349, 0, none⟩ (.int .i64 a1)).heap[gb347]? = some (.cells #[u348000, .slice A0_1 l0_1.length c0_1, .slice A0_2 l0_2.length c0_2] 51 (0, 0))) := ⟨(fa_ (fa_ (fa_ (fa_ (fa_ (fa_ (fa_ (fa_ (fa_ (fa_ (h_ BK347) NB347_349.out) NB347_349.out) NB347_349.out) NB347_349.out) NB347_349.out) NB347_349.out) NB347_349.out) NB347_349.out) NB347_349.out) NB347_349.out)⟩
       have n3_ : Fc (((((((((((w14.setCell ⟨gb349, 0, none⟩ (.int .i64 ((rd_T101 l0_0 x6_1).f0))).setCell ⟨gb349, 1, none⟩ (.int .i64 ((rd_T101 l0_0 x6_1).f1))).setCell ⟨gb349, 2, none⟩ (.string ((rd_T101 l0_0 x6_1).f2))).setCell ⟨gb349, 3, none⟩ (.string ((rd_T101 l0_0 x6_1).f3))).setCell ⟨gb349, 4, none⟩ (.string ((rd_T101 l0_0 x6_1).f4.f0))).setCell ⟨gb349, 5, none⟩ (.string ((rd_T101 l0_0 x6_1).f4.f1))).setCell ⟨gb349, 6, none⟩ (.bool ((rd_T101 l0_0 x6_1).f4.f2))).setCell ⟨gb349, 7, none⟩ (.int .i64 ((rd_T101 l0_0 x6_1).f5))).setCell ⟨gb349, 8, none⟩ (.bool ((rd_T101 l0_0 x6_1).f6))).setCell ⟨gb349, 0, none⟩ (.int .i64 a1)).heap[gb349]? = some (.cells #[.int .i64 a1, .int .i64 ((rd_T101 l0_0 x6_1).f1), .string ((rd_T101 l0_0 x6_1).f2), .string ((rd_T101 l0_0 x6_1).f3), .string ((rd_T101 l0_0 x6_1).f4.f0), .string ((rd_T101 l0_0 x6_1).f4.f1), .bool ((rd_T101 l0_0 x6_1).f4.f2), .int .i64 ((rd_T101 l0_0 x6_1).f5), .bool ((rd_T101 l0_0 x6_1).f6)] 101 (0, 0))) := ⟨(pu_ (cs := #[.int .i64 ((rd_T101 l0_0 x6_1).f0), .int .i64 ((rd_T101 l0_0 x6_1).f1), .string ((rd_T101 l0_0 x6_1).f2), .string ((rd_T101 l0_0 x6_1).f3), .string ((rd_T101 l0_0 x6_1).f4.f0), .string ((rd_T101 l0_0 x6_1).f4.f1), .bool ((rd_T101 l0_0 x6_1).f4.f2), .int .i64 ((rd_T101 l0_0 x6_1).f5), .bool ((rd_T101 l0_0 x6_1).f6)]) (pu_ (cs := #[.int .i64 ((rd_T101 l0_0 x6_1).f0), .int .i64 ((rd_T101 l0_0 x6_1).f1), .string ((rd_T101 l0_0 x6_1).f2), .string ((rd_T101 l0_0 x6_1).f3), .string ((rd_T101 l0_0 x6_1).f4.f0), .string ((rd_T101 l0_0 x6_1).f4.f1), .bool ((rd_T101 l0_0 x6_1).f4.f2), .int .i64 ((rd_T101 l0_0 x6_1).f5), .bool false]) (pu_ (cs := #[.int .i64 ((rd_T101 l0_0 x6_1).f0), .int .i64 ((rd_T101 l0_0 x6_1).f1), .string ((rd_T101 l0_0 x6_1).f2), .string ((rd_T101 l0_0 x6_1).f3), .string ((rd_T101 l0_0 x6_1).f4.f0), .string ((rd_T101 l0_0 x6_1).f4.f1), .bool ((rd_T101 l0_0 x6_1).f4.f2), .int .i64 0, .bool false]) (pu_ (cs := #[.int .i64 ((rd_T101 l0_0 x6_1).f0), .int .i64 ((rd_T101 l0_0 x6_1).f1), .string ((rd_T101 l0_0 x6_1).f2), .string ((rd_T101 l0_0 x6_1).f3), .string ((rd_T101 l0_0 x6_1).f4.f0), .string ((rd_T101 l0_0 x6_1).f4.f1), .bool false, .int .i64 0, .bool false]) (pu_ (cs := #[.int .i64 ((rd_T101 l0_0 x6_1).f0), .int .i64 ((rd_T101 l0_0 x6_1).f1), .string ((rd_T101 l0_0 x6_1).f2), .string ((rd_T101 l0_0 x6_1).f3), .string ((rd_T101 l0_0 x6_1).f4.f0), .string (⟨#[]⟩ : ByteArray), .bool false, .int .i64 0, .bool false]) (pu_ (cs := #[.int .i64 ((rd_T101 l0_0 x6_1).f0), .int .i64 ((rd_T101 l0_0 x6_1).f1), .string ((rd_T101 l0_0 x6_1).f2), .string ((rd_T101 l0_0 x6_1).f3), .string (⟨#[]⟩ : ByteArray), .string (⟨#[]⟩ : ByteArray), .bool false, .int .i64 0, .bool false]) (pu_ (cs := #[.int .i64 ((rd_T101 l0_0 x6_1).f0), .int .i64 ((rd_T101 l0_0 x6_1).f1), .string ((rd_T101 l0_0 x6_1).f2), .string (⟨#[]⟩ : ByteArray), .string (⟨#[]⟩ : ByteArray), .string (⟨#[]⟩ : ByteArray), .bool false, .int .i64 0, .bool false]) (pu_ (cs := #[.int .i64 ((rd_T101 l0_0 x6_1).f0), .int .i64 ((rd_T101 l0_0 x6_1).f1), .string (⟨#[]⟩ : ByteArray), .string (⟨#[]⟩ : ByteArray), .string (⟨#[]⟩ : ByteArray), .string (⟨#[]⟩ : ByteArray), .bool false, .int .i64 0, .bool false]) (pu_ (cs := #[.int .i64 ((rd_T101 l0_0 x6_1).f0), .int .i64 0, .string (⟨#[]⟩ : ByteArray), .string (⟨#[]⟩ : ByteArray), .string (⟨#[]⟩ : ByteArray), .string (⟨#[]⟩ : ByteArray), .bool false, .int .i64 0, .bool false]) (pu_ (cs := #[.int .i64 0, .int .i64 0, .string (⟨#[]⟩ : ByteArray), .string (⟨#[]⟩ : ByteArray), .string (⟨#[]⟩ : ByteArray), .string (⟨#[]⟩ : ByteArray), .bool false, .int .i64 0, .bool false]) (h_ BK349)))))))))))⟩
       have n4_ : Fc (Below w.heap.size w ((((((((((w14.setCell ⟨gb349, 0, none⟩ (.int .i64 ((rd_T101 l0_0 x6_1).f0))).setCell ⟨gb349, 1, none⟩ (.int .i64 ((rd_T101 l0_0 x6_1).f1))).setCell ⟨gb349, 2, none⟩ (.string ((rd_T101 l0_0 x6_1).f2))).setCell ⟨gb349, 3, none⟩ (.string ((rd_T101 l0_0 x6_1).f3))).setCell ⟨gb349, 4, none⟩ (.string ((rd_T101 l0_0 x6_1).f4.f0))).setCell ⟨gb349, 5, none⟩ (.string ((rd_T101 l0_0 x6_1).f4.f1))).setCell ⟨gb349, 6, none⟩ (.bool ((rd_T101 l0_0 x6_1).f4.f2))).setCell ⟨gb349, 7, none⟩ (.int .i64 ((rd_T101 l0_0 x6_1).f5))).setCell ⟨gb349, 8, none⟩ (.bool ((rd_T101 l0_0 x6_1).f6))).setCell ⟨gb349, 0, none⟩ (.int .i64 a1))) := ⟨b_ HB⟩
       (try clear HO_348000)
       (try clear BK346)
       (try clear BK347)
       (try clear BK349)
       (try clear HB)
       generalize ((((((((((w14.setCell ⟨gb349, 0, none⟩ (.int .i64 ((rd_T101 l0_0 x6_1).f0))).setCell ⟨gb349, 1, none⟩ (.int .i64 ((rd_T101 l0_0 x6_1).f1))).setCell ⟨gb349, 2, none⟩ (.string ((rd_T101 l0_0 x6_1).f2))).setCell ⟨gb349, 3, none⟩ (.string ((rd_T101 l0_0 x6_1).f3))).setCell ⟨gb349, 4, none⟩ (.string ((rd_T101 l0_0 x6_1).f4.f0))).setCell ⟨gb349, 5, none⟩ (.string ((rd_T101 l0_0 x6_1).f4.f1))).setCell ⟨gb349, 6, none⟩ (.bool ((rd_T101 l0_0 x6_1).f4.f2))).setCell ⟨gb349, 7, none⟩ (.int .i64 ((rd_T101 l0_0 x6_1).f5))).setCell ⟨gb349, 8, none⟩ (.bool ((rd_T101 l0_0 x6_1).f6))).setCell ⟨gb349, 0, none⟩ (.int .i64 a1)) = w18 at n0_ n1_ n2_ n3_ n4_ ⊢
       have HO_348000 := n0_
       have BK346 := n1_
       have BK347 := n2_
       have BK349 := n3_
       have HB := n4_
       clear n0_ n1_ n2_ n3_ n4_
       replace HO_348000 := mk0 (Rd_ HO_348000.out)
       replace BK346 := mk0 (bD_ BK346.out)
       replace BK347 := mk0 (bD_ BK347.out)
       replace BK349 := mk0 (bD_ BK349.out)
       replace HB := mk0 (b1_ HB.out)
       refine start_ (n := 9) (S := fun w' => w'.cell? ⟨gb347, 0, none⟩ = some (u348000) ∧ w'.cell? ⟨gb347, 1, none⟩ = some (.slice A0_1 l0_1.length c0_1) ∧ w'.cell? ⟨gb347, 2, none⟩ = some (.slice A0_2 l0_2.length c0_2) ∧ w'.cell? ⟨gb349, 0, none⟩ = some (.int .i64 a1) ∧ w'.cell? ⟨gb349, 1, none⟩ = some (.int .i64 ((rd_T101 l0_0 x6_1).f1)) ∧ w'.cell? ⟨gb349, 2, none⟩ = some (.string ((rd_T101 l0_0 x6_1).f2)) ∧ w'.cell? ⟨gb349, 3, none⟩ = some (.string ((rd_T101 l0_0 x6_1).f3)) ∧ w'.cell? ⟨gb349, 4, none⟩ = some (.string ((rd_T101 l0_0 x6_1).f4.f0)) ∧ w'.cell? ⟨gb349, 5, none⟩ = some (.string ((rd_T101 l0_0 x6_1).f4.f1)) ∧ w'.cell? ⟨gb349, 6, none⟩ = some (.bool ((rd_T101 l0_0 x6_1).f4.f2)) ∧ w'.cell? ⟨gb349, 7, none⟩ = some (.int .i64 ((rd_T101 l0_0 x6_1).f5)) ∧ w'.cell? ⟨gb349, 8, none⟩ = some (.bool ((rd_T101 l0_0 x6_1).f6))) (ds := [8]) (bt 9 0) (by kernel_rfl) rfl rfl ⟨bk_ BK347 0, bk_ BK347 1, bk_ BK347 2, bk_ BK349 0, bk_ BK349 1, bk_ BK349 2, bk_ BK349 3, bk_ BK349 4, bk_ BK349 5, bk_ BK349 6, bk_ BK349 7, bk_ BK349 8⟩ (fun hHeld => ?_); refine with_tabW quorumlaw12_each.tab8 quorumlaw12_each.bits8 (fun HT_ HW_ => ?_)
       generalize w18.drew = w19 at HO_348000 BK346 BK347 BK349 HB hHeld ⊢
       refine pq_ HT_.out 0 24 (bt 9 1) (h := ?_)
       refine tq12_ HT_.out HW_.out 1 25 (bt 9 3) hHeld (h := ?_)
       refine tq12_ HT_.out HW_.out 2 26 (bt 9 7) hHeld (h := ?_)
       refine tq12_ HT_.out HW_.out 3 27 (bt 9 15) hHeld (h := ?_)
       refine one_ (i := 4) (N := some 28) (bt 9 31) rfl rfl (one_of HT_.out (by kernel_rfl)) (by decide) (fun K hK => ?_)
       refine goes_ Try.func46 (by kernel_rfl) rfl #[.agg #[.int .i64 a1, .int .i64 ((rd_T101 l0_0 x6_1).f1), .string ((rd_T101 l0_0 x6_1).f2), .string ((rd_T101 l0_0 x6_1).f3), .string ((rd_T101 l0_0 x6_1).f4.f0), .string ((rd_T101 l0_0 x6_1).f4.f1), .bool ((rd_T101 l0_0 x6_1).f4.f2), .int .i64 ((rd_T101 l0_0 x6_1).f5), .bool ((rd_T101 l0_0 x6_1).f6)]] (by rfl) rfl rfl (by (try simp only [List.map_toArray, List.map_cons, List.map_nil]); first | done | rfl | (simp only [List.length_drop, List.length_take]; rfl)) ?_
       with_reducible refine (quorumlaw12_Bare.calls a1 ((rd_T101 l0_0 x6_1).f1) ((rd_T101 l0_0 x6_1).f2) ((rd_T101 l0_0 x6_1).f3) ((rd_T101 l0_0 x6_1).f4.f0) ((rd_T101 l0_0 x6_1).f4.f1) ((rd_T101 l0_0 x6_1).f4.f2) ((rd_T101 l0_0 x6_1).f5) ((rd_T101 l0_0 x6_1).f6) t350 t351 t352 t353 t354 t355 t356 t357 t358 _ A10.out).mono ?_
       rintro e w20 ⟨rfl, hb⟩
       refine ⟨_, rfl, ?_⟩
       replace HO_348000 := mk0 (Kd.R_below (r_ HO_348000) hb)
       replace BK346 := mk0 (u_ BK346 hb)
       replace BK347 := mk0 (u_ BK347 hb)
       replace BK349 := mk0 (u_ BK349 hb)
       replace HB := mk0 (bt_ (b_ HB) hb)
       (try clear hb)
       (try clear hb2)
       (try clear hk)
       (try clear hi)
       refine hK.out _ _ ⟨bk_ BK347 0, bk_ BK347 1, bk_ BK347 2, bk_ BK349 0, bk_ BK349 1, bk_ BK349 2, bk_ BK349 3, bk_ BK349 4, bk_ BK349 5, bk_ BK349 6, bk_ BK349 7, bk_ BK349 8⟩ (fun hHeld => ?_)
       clear hK K
       refine norm_ (a' := ?_) ?_ ?_
       rotate_left
       ·show Act.put _ (some 28) _ = _
        simp only [z_]
        rfl
       refine one_ (i := 5) (N := some 29) (bt 9 63) rfl rfl (one_of HT_.out (by kernel_rfl)) (by decide) (fun K hK => ?_)
       refine Kd.R_lit_step k101 _ 101 ?hg (N := 29) ?hd (xs := ([(⟨a1, (rd_T101 l0_0 x6_1).f1, (rd_T101 l0_0 x6_1).f2, (rd_T101 l0_0 x6_1).f3, (⟨(rd_T101 l0_0 x6_1).f4.f0, (rd_T101 l0_0 x6_1).f4.f1, (rd_T101 l0_0 x6_1).f4.f2⟩ : S74), (rd_T101 l0_0 x6_1).f5, (rd_T101 l0_0 x6_1).f6⟩ : S101), (⟨t350, t351, t352, t353, (⟨t354, t355, t356⟩ : S74), t357, t358⟩ : S101)] : List (S101))) (inner := [.int .i64 a1, .int .i64 ((rd_T101 l0_0 x6_1).f1), .string ((rd_T101 l0_0 x6_1).f2), .string ((rd_T101 l0_0 x6_1).f3), .string ((rd_T101 l0_0 x6_1).f4.f0), .string ((rd_T101 l0_0 x6_1).f4.f1), .bool ((rd_T101 l0_0 x6_1).f4.f2), .int .i64 ((rd_T101 l0_0 x6_1).f5), .bool ((rd_T101 l0_0 x6_1).f6), .int .i64 t350, .int .i64 t351, .string t352, .string t353, .string t354, .string t355, .bool t356, .int .i64 t357, .bool t358]) (ok := fun _ => True) (okp := fun _ => True) ?hr ?hp (fun _ hk => hk) trivial (Below.refl _ _) (Nat.le_refl _) (by simp) ?_; (case hd => rfl); (case hg => rfl); (case hr => first | (go_simp; done) | (go_simp; rfl)); (case hp => exact (Reps.c9 (show Kd.M k101 _ _ _ (⟨a1, (rd_T101 l0_0 x6_1).f1, (rd_T101 l0_0 x6_1).f2, (rd_T101 l0_0 x6_1).f3, (⟨(rd_T101 l0_0 x6_1).f4.f0, (rd_T101 l0_0 x6_1).f4.f1, (rd_T101 l0_0 x6_1).f4.f2⟩ : S74), (rd_T101 l0_0 x6_1).f5, (rd_T101 l0_0 x6_1).f6⟩ : S101) [.int .i64 a1, .int .i64 ((rd_T101 l0_0 x6_1).f1), .string ((rd_T101 l0_0 x6_1).f2), .string ((rd_T101 l0_0 x6_1).f3), .string ((rd_T101 l0_0 x6_1).f4.f0), .string ((rd_T101 l0_0 x6_1).f4.f1), .bool ((rd_T101 l0_0 x6_1).f4.f2), .int .i64 ((rd_T101 l0_0 x6_1).f5), .bool ((rd_T101 l0_0 x6_1).f6)] from (k101_mkM _ _ _ (⟨a1, (rd_T101 l0_0 x6_1).f1, (rd_T101 l0_0 x6_1).f2, (rd_T101 l0_0 x6_1).f3, (⟨(rd_T101 l0_0 x6_1).f4.f0, (rd_T101 l0_0 x6_1).f4.f1, (rd_T101 l0_0 x6_1).f4.f2⟩ : S74), (rd_T101 l0_0 x6_1).f5, (rd_T101 l0_0 x6_1).f6⟩ : S101) )) (Reps.c9 (show Kd.M k101 _ _ _ (⟨t350, t351, t352, t353, (⟨t354, t355, t356⟩ : S74), t357, t358⟩ : S101) [.int .i64 t350, .int .i64 t351, .string t352, .string t353, .string t354, .string t355, .bool t356, .int .i64 t357, .bool t358] from (k101_mkM _ _ _ (⟨t350, t351, t352, t353, (⟨t354, t355, t356⟩ : S74), t357, t358⟩ : S101) )) (Reps.none _ _))))
       intro v360 w21 ho22 hb hg_ hnew_
       clear hg_ hnew_
       (first | rw [← Ny359.out] at ho22 | (simp only [Int.reduceToNat] at ho22; rw [← Ny359.out] at ho22))
       have n1_ := mk0 (Kd.R_lower (Kd.R_newB (Kd.R_new' ho22 (Kd.R_lt (r_ HO_348000))) (g := gb349) (o := .cells #[.int .i64 a1, .int .i64 ((rd_T101 l0_0 x6_1).f1), .string ((rd_T101 l0_0 x6_1).f2), .string ((rd_T101 l0_0 x6_1).f3), .string ((rd_T101 l0_0 x6_1).f4.f0), .string ((rd_T101 l0_0 x6_1).f4.f1), .bool ((rd_T101 l0_0 x6_1).f4.f2), .int .i64 ((rd_T101 l0_0 x6_1).f5), .bool ((rd_T101 l0_0 x6_1).f6)] 101 (0, 0)) (h_ BK349)) (bz_ (b_ HB)))
       replace HO_348000 := mk0 (Kd.R_elder' (r_ HO_348000) (Kd.R_base ho22) hb)
       replace BK346 := mk0 (u_ BK346 hb)
       replace BK347 := mk0 (u_ BK347 hb)
       replace BK349 := mk0 (u_ BK349 hb)
       replace HB := mk0 (bt_ (b_ HB) hb)
       have HO361 := n1_
       clear n1_ hb ho22
       obtain ⟨Ao24, co24, eo24⟩ := Kd.R_slice HO361.out
       (first | subst eo24 | (injection eo24 with f1_ f2_ f3_; have f4_ := f1_.symm; have f5_ := f3_.symm; clear f1_ f2_ f3_; subst f4_; subst f5_))
       refine hK.out _ _ ⟨bk_ BK347 0, bk_ BK347 1, bk_ BK347 2, bk_ BK349 0, bk_ BK349 1, bk_ BK349 2, bk_ BK349 3, bk_ BK349 4, bk_ BK349 5, bk_ BK349 6, bk_ BK349 7, bk_ BK349 8⟩ (fun hHeld => ?_)
       clear hK K
       refine norm_ (a' := ?_) ?_ ?_
       rotate_left
       ·show Act.put _ (some 29) _ = _
        simp only [z_]
        rfl
       refine one_ (i := 6) (N := some 30) (bt 9 127) rfl rfl (one_of HT_.out (by kernel_rfl)) (by decide) (fun K hK => ?_)
       refine Kd.R_append_rows_step k101 (w0 := w) w.heap.size (by rfl) (.tmp 25) (.tmp 29) 49 101 (.agg #[(.int .i64 0), (.int .i64 0), (.string ⟨#[]⟩), (.string ⟨#[]⟩), (.string ⟨#[]⟩), (.string ⟨#[]⟩), (.bool false), (.int .i64 0), (.bool false)]) 104 rfl Try.underlying49 info101 rfl (by decide) (by omega) u348000 x348000_1 y359 _ _ _ (fun k_ => some k_ ≠ (.slice Ao24 y359.length co24 : Value).ownBlock ∧ k_ ≠ gb349) (fun _ => False) rfl rfl ?aO ?aR (fun _ _ h => h) (fun _ h => h.elim) ?aF ?aB ?aS ?aL ?_
       (case aR => repeat (first | exact (Kd.R_reads' HO361.out).2.2 | (with_reducible refine Kd.C_alloc ?_ _) | (with_reducible refine Kd.C_drewN ?_ _) | (with_reducible refine Kd.C_drew ?_)))
       (case aB => exact (b_ HB))
       (case aF => exact (fun k_ hk => ⟨Kd.fresh' (Kd.R_lt (r_ HO361)) k_ hk, Kd.freshB (g := gb349) (o := .cells #[.int .i64 a1, .int .i64 ((rd_T101 l0_0 x6_1).f1), .string ((rd_T101 l0_0 x6_1).f2), .string ((rd_T101 l0_0 x6_1).f3), .string ((rd_T101 l0_0 x6_1).f4.f0), .string ((rd_T101 l0_0 x6_1).f4.f1), .bool ((rd_T101 l0_0 x6_1).f4.f2), .int .i64 ((rd_T101 l0_0 x6_1).f5), .bool ((rd_T101 l0_0 x6_1).f6)] 101 (0, 0)) (h_ BK349) k_ hk⟩))
       (case aO => exact (r2_ (Kd.R_mono HO_348000.out (fun _ hk => ⟨hk.2, hk.1⟩))))
       (case aS => exact (bz_ (b_ HB)))
       (case aL => have := LMc11.out; omega)
       intro v363 w23 ho hb hg hat
       rw [← Ny362.out] at ho
       replace BK346 := mk0 (blk_grown (g := gb346) (o := .cells #[.slice (some ad348) l0_0.length c0_0, .slice A0_1 l0_1.length c0_1, .slice A0_2 l0_2.length c0_2] 51 (0, 0)) (h_ BK346) hg (Kd.R_ne HO_348000.out BK346.out (by decide)))
       replace BK347 := mk0 (blk_grown (g := gb347) (o := .cells #[u348000, .slice A0_1 l0_1.length c0_1, .slice A0_2 l0_2.length c0_2] 51 (0, 0)) (h_ BK347) hg (Kd.R_ne HO_348000.out BK347.out (by decide)))
       replace BK349 := mk0 (blk_grown (g := gb349) (o := .cells #[.int .i64 a1, .int .i64 ((rd_T101 l0_0 x6_1).f1), .string ((rd_T101 l0_0 x6_1).f2), .string ((rd_T101 l0_0 x6_1).f3), .string ((rd_T101 l0_0 x6_1).f4.f0), .string ((rd_T101 l0_0 x6_1).f4.f1), .bool ((rd_T101 l0_0 x6_1).f4.f2), .int .i64 ((rd_T101 l0_0 x6_1).f5), .bool ((rd_T101 l0_0 x6_1).f6)] 101 (0, 0)) (h_ BK349) hg (Kd.R_away HO_348000.out (fun _ hk => hk.1)))
       replace HO361 := mk0 (Kd.R_after (ok := (fun k_ => k_ ≠ gb349)) (r2_ (Kd.R_mono HO361.out (fun _ hk => ⟨hk.2, hk.1.2⟩))) hg hat)
       replace HB := mk0 (hb)
       have HO364 := mk0 (ho)
       clear HO_348000
       clear ho hb hg hat
       obtain ⟨Ao25, co25, eo25⟩ := Kd.R_slice HO364.out
       (first | subst eo25 | (injection eo25 with f1_ f2_ f3_; have f4_ := f1_.symm; have f5_ := f3_.symm; clear f1_ f2_ f3_; subst f4_; subst f5_))
       refine hK.out _ _ ⟨bk_ BK347 0, bk_ BK347 1, bk_ BK347 2, bk_ BK349 0, bk_ BK349 1, bk_ BK349 2, bk_ BK349 3, bk_ BK349 4, bk_ BK349 5, bk_ BK349 6, bk_ BK349 7, bk_ BK349 8⟩ (fun hHeld => ?_)
       clear hK K
       refine norm_ (a' := ?_) ?_ ?_
       rotate_left
       ·show Act.put _ (some 30) _ = _
        simp only [z_]
        rfl
       refine pq_ HT_.out 7 31 (bt 9 255) (h := ?_)
       refine last_ (i := 8) (N := none) (bt 9 511) rfl rfl (one_of HT_.out (by kernel_rfl)) (by decide) (fun K hK => ?_)
       have hs26 : w23.cell? ⟨gb347, 0, none⟩ = some (u348000) := bk_ BK347 0
       have hfs26 := blk_frozen BK347.out 0
       have hns26_0 := NB346_347.out
       have hns26_2 := NB349_347.out
       have hms26_0 := NB347_346.out
       have hms26_2 := NB347_349.out
       refine skip_ (w1 := ?_) (by rfl) rfl ?_ ?_
       rotate_left
       ·go_simp
        rfl
       refine hK.out _ _ ?_
       clear hK K
       refine done_ (done_of HT_.out (by kernel_rfl)) ?_
       try go_wp2
       go_roundg k1
       case measure => have := HK1.out; omega
       case rel => exact ⟨(wrap64 (x6_1 + 1)), (y362), (.slice Ao25 y362.length co25), (by first | rfl | (simp; done) | (simp [*]; done)), H', ⟨by have := HK1.out; omega⟩, ⟨by (with_reducible repeat (first | apply Ra_ | apply Rn_ | apply Rd_)); exact Kd.R_mono (Kd.R_far (p := ⟨gb347, 0, none⟩) (Kd.R_types HO364.out BK347.out (by decide)) (fun _ hk => hk.2) (.slice Ao25 y362.length co25)) (fun _ hk => trivial)⟩, ⟨(fa_ (h_ BK346) NB346_347.out)⟩, ⟨(pu_ (cs := #[u348000, .slice A0_1 l0_1.length c0_1, .slice A0_2 l0_2.length c0_2]) (h_ BK347))⟩, ⟨b_ HB⟩⟩
      ·rw [if_neg c11] at H
       exact absurd H (by simp)
     ·rw [if_neg c9] at H
      exact absurd H (by simp)
    ·rw [if_neg c8] at H
     have c8b0 : decide (x6_1 < (l0_0.length : Int)) = false := decide_eq_false c8
     clear c8
     replace H := Option.bind_eq_some_iff.mp H
     obtain ⟨t365, A270, H⟩ := H
     try dsimp only at H
     have A27 := mk0 A270
     clear A270
     by_cases c28 : t365 = true
     ·subst c28
      rw [if_pos rfl] at H
      replace H := Option.bind_eq_some_iff.mp H
      obtain ⟨t366, A290, H⟩ := H
      try dsimp only at H
      have A29 := mk0 A290
      clear A290
      replace H := Option.bind_eq_some_iff.mp H
      obtain ⟨t367, A300, H⟩ := H
      try dsimp only at H
      have A30 := mk0 A300
      clear A300
      obtain rfl := Option.some.inj H
      have hnb31 := NB346_347.out
      have hnc31 := NB347_346.out
      obtain ⟨hcz32_0, hcz32_1, hcz32_2, hfz32_0, hfz32_1, hfz32_2⟩ := c3_ BK346
      obtain ⟨hcz33_0, hcz33_1, hcz33_2, hfz33_0, hfz33_1, hfz33_2⟩ := c3_ BK347
      obtain ⟨Ao34, co34, eo34⟩ := Kd.R_slice HO_348000.out
      subst eo34
      go_wp2_with (first | ((with_reducible refine gate_callee (f := 47) rfl ?_); refine gL_ (some 33) Try.func47 #[.agg #[.slice Ao34 x348000_1.length co34, .slice A0_1 l0_1.length c0_1, .slice A0_2 l0_2.length c0_2]] (h := ?_); (with_reducible refine (quorumlaw12_PlanLocks.calls k1 _ _ x348000_1 (fun k_ => k_ < w.heap.size) _ _ l0_1 _ _ l0_2 true _ ?side1 ?side2 ?side3 ?side4 ?side5 A27.out).mono ?_); (case side1 => exact cr_ HO_348000); (case side2 => exact (Kd.R_reads' HO_348000.out).2.1); (case side3 => exact Kd.V_mk HC0_1.out (Kd.F_below (Kd.C_F k34_heap HR0_1.out) (b_ HB))); (case side4 => exact cb_ HR0_2 HB); (case side5 => exact HC0_2.out); rintro e w35 ⟨rfl, hb⟩; refine ⟨_, rfl, ?_⟩; replace HO_348000 := mk0 (Kd.R_below (r_ HO_348000) hb); replace BK346 := mk0 (u_ BK346 hb); replace BK347 := mk0 (u_ BK347 hb); replace HB := mk0 (bt_ (b_ HB) hb); (try clear hb)) | (go_at_call 48; (with_reducible refine (plan_Writes.calls a1 0 (⟨#[]⟩ : ByteArray) (⟨#[]⟩ : ByteArray) (⟨#[]⟩ : ByteArray) (⟨#[]⟩ : ByteArray) false 0 false t366 _ A29.out).mono ?_); rintro e w36 ⟨rfl, hb⟩; replace HO_348000 := mk0 (Kd.R_below (r_ HO_348000) hb); replace BK346 := mk0 (u_ BK346 hb); replace BK347 := mk0 (u_ BK347 hb); replace HB := mk0 (bt_ (b_ HB) hb); (try clear hb)) | (go_at_call 49; (with_reducible refine (quorumref12_Writes.calls a1 0 (⟨#[]⟩ : ByteArray) (⟨#[]⟩ : ByteArray) (⟨#[]⟩ : ByteArray) (⟨#[]⟩ : ByteArray) false 0 false t367 _ A30.out).mono ?_); rintro e w37 ⟨rfl, hb⟩; replace HO_348000 := mk0 (Kd.R_below (r_ HO_348000) hb); replace BK346 := mk0 (u_ BK346 hb); replace BK347 := mk0 (u_ BK347 hb); replace HB := mk0 (bt_ (b_ HB) hb); (try clear hb)))
      go_ret
      exact ⟨by first | rfl | (simp [errW_none, errW_some] <;> rfl) | (simp [*, errW_none, errW_some] <;> rfl), b_ HB⟩
     ·replace c28 := Bool.eq_false_iff.mpr c28
      subst c28
      rw [if_neg (show ¬ (false = true) by decide)] at H
      obtain rfl := Option.some.inj H
      have hnb38 := NB346_347.out
      have hnc38 := NB347_346.out
      obtain ⟨hcz39_0, hcz39_1, hcz39_2, hfz39_0, hfz39_1, hfz39_2⟩ := c3_ BK346
      obtain ⟨hcz40_0, hcz40_1, hcz40_2, hfz40_0, hfz40_1, hfz40_2⟩ := c3_ BK347
      obtain ⟨Ao41, co41, eo41⟩ := Kd.R_slice HO_348000.out
      subst eo41
      go_wp2_with (first | ((with_reducible refine gate_callee (f := 47) rfl ?_); refine gL_ (some 33) Try.func47 #[.agg #[.slice Ao41 x348000_1.length co41, .slice A0_1 l0_1.length c0_1, .slice A0_2 l0_2.length c0_2]] (h := ?_); (with_reducible refine (quorumlaw12_PlanLocks.calls k1 _ _ x348000_1 (fun k_ => k_ < w.heap.size) _ _ l0_1 _ _ l0_2 false _ ?side1 ?side2 ?side3 ?side4 ?side5 A27.out).mono ?_); (case side1 => exact cr_ HO_348000); (case side2 => exact (Kd.R_reads' HO_348000.out).2.1); (case side3 => exact Kd.V_mk HC0_1.out (Kd.F_below (Kd.C_F k34_heap HR0_1.out) (b_ HB))); (case side4 => exact cb_ HR0_2 HB); (case side5 => exact HC0_2.out); rintro e w42 ⟨rfl, hb⟩; refine ⟨_, rfl, ?_⟩; replace HO_348000 := mk0 (Kd.R_below (r_ HO_348000) hb); replace BK346 := mk0 (u_ BK346 hb); replace BK347 := mk0 (u_ BK347 hb); replace HB := mk0 (bt_ (b_ HB) hb); (try clear hb)))
      go_ret
      exact ⟨by first | rfl | (simp [errW_none, errW_some] <;> rfl) | (simp [*, errW_none, errW_some] <;> rfl), b_ HB⟩

/-! ### quorumlaw12_PlanCommit: function 4 -/
def quorumlaw12_PlanCommit.f (k : Nat) (l0_0 : List (S101)) (l0_1 : List (S34)) (l0_2 : List Int) : Option (Bool) := (quorumlaw12_each.f k l0_0 l0_1 l0_2 11).bind fun t369 => (some t369)
theorem quorumlaw12_PlanCommit.mono : ∀ a0 a1 a2 k, LeO (quorumlaw12_PlanCommit.f k a0 a1 a2) (quorumlaw12_PlanCommit.f (k + 1) a0 a1 a2) := by
 intro a0 a1 a2 k
 unfold quorumlaw12_PlanCommit.f
 repeat' first
   | (with_reducible exact quorumlaw12_each.mono _ _ _ _ _)
   | (with_reducible exact LeO.refl _)
   | (with_reducible exact LeO.none _)
   | (with_reducible refine LeO.ite ?_ ?_)
   | (with_reducible refine LeO.bind ?_ (fun _ => ?_))
   | exact quorumlaw12_each.mono _ _ _ _ _
   | exact LeO.none _
   | refine LeO.ite ?_ ?_
   | refine LeO.bind ?_ (fun _ => ?_)
set_option maxHeartbeats 8000000 in
set_option maxRecDepth 100000 in
theorem quorumlaw12_PlanCommit.calls (k : Nat) (A0_0 : Option Addr) (c0_0 : Nat) (l0_0 : List (S101)) (A0_1 : Option Addr) (c0_1 : Nat) (l0_1 : List (S34)) (A0_2 : Option Addr) (c0_2 : Nat) (l0_2 : List Int) (r : Bool) (w : World) (hr0_0 : Kd.C k101 w A0_0 l0_0.length l0_0) (hc0_0 : l0_0.length ≤ c0_0) (hr0_1 : Kd.C k34 w A0_1 l0_1.length l0_1) (hc0_1 : l0_1.length ≤ c0_1) (hr0_2 : Kd.C (Kd.int .i64) w A0_2 l0_2.length l0_2) (hc0_2 : l0_2.length ≤ c0_2) (h : quorumlaw12_PlanCommit.f k l0_0 l0_1 l0_2 = some r) :
  Calls Try.prog 4 #[.agg #[.slice A0_0 l0_0.length c0_0, .slice A0_1 l0_1.length c0_1, .slice A0_2 l0_2.length c0_2]] w fun e w' => e = .returned (.bool r) ∧ Below w.heap.size w w' := by
 have hu51 := Try.underlying51
 have HR0_0 := mk0 hr0_0
 have HC0_0 := mk0 hc0_0
 clear hr0_0 hc0_0
 have HR0_1 := mk0 hr0_1
 have HC0_1 := mk0 hc0_1
 clear hr0_1 hc0_1
 have HR0_2 := mk0 hr0_2
 have HC0_2 := mk0 hc0_2
 clear hr0_2 hc0_2
 have HB := mk0 (Below.refl w.heap.size w)
 have H : ((quorumlaw12_each.f k l0_0 l0_1 l0_2 11).bind fun t369 => (some t369)) = some r := h
 clear h
 replace H := Option.bind_eq_some_iff.mp H
 obtain ⟨t369, A20, H⟩ := H
 try dsimp only at H
 have A2 := mk0 A20
 clear A20
 obtain rfl := Option.some.inj H
 go_enter Try.func4, Try.ntmps4
 go_wp2_with (first | ((with_reducible refine gate_dst (N := 1) rfl ?_); refine bx_ (N := 1) (cs := #[.slice A0_0 l0_0.length c0_0, .slice A0_1 l0_1.length c0_1, .slice A0_2 l0_2.length c0_2]) (t := 51) (h := ?_); intro gb368 hg w3 hbox hb; have n2_ := mk0 (gz_ HB hg); have n3_ := mk0 (gz_ HB hg); replace HB := mk0 (bt_ (b_ HB) hb); have BK368 := mk0 (hbox); have GW368 := n2_; have GE368 := n3_; clear n2_ n3_ hb hbox hg; obtain ⟨hcz4_0, hcz4_1, hcz4_2, hfz4_0, hfz4_1, hfz4_2⟩ := c3_ BK368) | ((with_reducible refine gate_callee (f := 22) rfl ?_); refine gL_ (some 4) Try.func22 #[.agg #[.slice A0_0 l0_0.length c0_0, .slice A0_1 l0_1.length c0_1, .slice A0_2 l0_2.length c0_2], .int .i64 11] (h := ?_); (with_reducible refine (quorumlaw12_each.calls k _ _ l0_0 _ _ l0_1 _ _ l0_2 11 t369 _ ?side1 ?side2 ?side3 ?side4 ?side5 ?side6 A2.out).mono ?_); (case side1 => exact cb_ HR0_0 HB); (case side2 => exact HC0_0.out); (case side3 => exact cb_ HR0_1 HB); (case side4 => exact HC0_1.out); (case side5 => exact cb_ HR0_2 HB); (case side6 => exact HC0_2.out); rintro e w5 ⟨rfl, hb⟩; refine ⟨_, rfl, ?_⟩; replace BK368 := mk0 (u_ BK368 hb); replace HB := mk0 (bt_ (b_ HB) hb); (try clear hb)))
 go_ret
 exact ⟨by first | rfl | (simp [errW_none, errW_some] <;> rfl) | (simp [*, errW_none, errW_some] <;> rfl), b_ HB⟩

end Go.Proofs.Ytbaecdcfefmcgaa.PPlc
