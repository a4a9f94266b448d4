-- PRINTED by print.py (a twelfth state) out of the translation. Not trusted: Lean checks it.
import Derived.Test.YtlnplaajhalekaaPLkx0
import Derived.Test.YtlnplaajhalekaaPLkx4
import Derived.Test.YtlnplaajhalekaaPLkx5
import Derived.Test.YtlnplaajhalekaaPLkx6
import Derived.Test.YtlnplaajhalekaaPLkx7
import Derived.Test.YtlnplaajhalekaaPLkx8
import Derived.Test.YtlnplaajhalekaaPLkx9
namespace Go.Proofs.Ytlnplaajhalekaa.PLk
open Go.RowKit Go.Proofs.YtlnplaajhalekaaW.PrintWords Go.Proofs.YtlnplaajhalekaaW.PrintLast Go.Proofs.YtlnplaajhalekaaW.PrintMore
attribute [local go_sem] max2_int min2_int max_two min_two max_three min_three max_four min_four   -- for this text's walks alone
set_option linter.unusedVariables false
set_option linter.unusedSimpArgs false

/-! ### quorumlaw12_PlanLocks: function 31 -/
set_option maxHeartbeats 8000000 in
set_option maxRecDepth 100000 in
theorem quorumlaw12_PlanLocks.calls (k : Nat) (A0_0 : Option Addr) (c0_0 : Nat) (aa : List (S39)) (P0_1_ : Nat → Prop) (A0_1 : Option Addr) (c0_1 : Nat) (aj : List (S31)) (A0_2 : Option Addr) (c0_2 : Nat) (ao : List Int) (r : Bool) (w : World) (hr0_0 : Kd.C k39 w A0_0 aa.length aa) (hc0_0 : aa.length ≤ c0_0) (hs0_1 : Kd.V k31 31 w w.heap.size (fun k_ => P0_1_ k_) (.slice A0_1 aj.length c0_1) aj) (hr0_2 : Kd.C (Kd.int .i64) w A0_2 ao.length ao) (hc0_2 : ao.length ≤ c0_2) (h : quorumlaw12_PlanLocks.f k aa aj ao = some r) :
  Calls Try.prog 31 #[.agg #[.slice A0_0 aa.length c0_0, .slice A0_1 aj.length c0_1, .slice A0_2 ao.length c0_2]] w fun e w' => e = .returned (.bool r) ∧ Below w.heap.size w w' := by
 have hu26 := Try.underlying26
 have hu31 := Try.underlying31
 have hu39 := Try.underlying39
 have HR0_0 := mk0 hr0_0
 have HC0_0 := mk0 hc0_0
 clear hr0_0 hc0_0
 have HO0_1 := mk0 (show Kd.V k31 31 w w.heap.size (fun k_ => (P0_1_ k_ ∨ w.heap.size ≤ k_)) (.slice A0_1 aj.length c0_1) aj from Kd.V_mono hs0_1 (fun k_ hk => .inl hk))
 have HR0_2 := mk0 hr0_2
 have HC0_2 := mk0 hc0_2
 clear hr0_2 hc0_2
 have HB := mk0 (Below.refl w.heap.size w)
 have H : ((quorumlaw12_Heavy.f k aa aj ao).bind fun t180 => (if t180 = true then (some true) else ((some (([(⟨([] : List (S44)), ([] : List Int)⟩ : S31)] : List (S31)) : List (S31))).bind fun y181 => (if y181.length + aj.length < 2932031007402 then ((some (([0, 5, (-1)] : List Int) : List Int)).bind fun y187 => (if y187.length + ao.length < 17592186044416 then (quorumlaw12_PlanLocks.l0 k (y181 ++ aj) (y187 ++ ao) 0 aa aj ao) else (none))) else (none))))) = some r := h
 clear h
 replace H := Option.bind_eq_some_iff.mp H
 obtain ⟨t180, A20, H⟩ := H
 replace H : (if t180 = true then (some true) else ((some (([(⟨([] : List (S44)), ([] : List Int)⟩ : S31)] : List (S31)) : List (S31))).bind fun y181 => (if y181.length + aj.length < 2932031007402 then ((some (([0, 5, (-1)] : List Int) : List Int)).bind fun y187 => (if y187.length + ao.length < 17592186044416 then (quorumlaw12_PlanLocks.l0 k (y181 ++ aj) (y187 ++ ao) 0 aa aj ao) else (none))) else (none)))) = some r := H
 have A2 := mk0 A20
 clear A20
 by_cases c3 : t180 = true
 ·subst c3
  have H1 : (some true) = some r := by rw [if_pos rfl] at H; exact H
  clear H
  have H := H1
  clear H1
  obtain rfl := Option.some.inj H
  go_enter Try.func31, Try.ntmps31
  go_wp2_with (first | ((with_reducible refine gate_dst (N := 1) rfl ?_); refine box_event ?hg (N := 1) ?hd (cs := #[.slice A0_0 aa.length c0_0, .slice A0_1 aj.length c0_1, .slice A0_2 ao.length c0_2]) (t := 26) ?hr ?_; (case hd => rfl); (case hg => rfl); (case hr => first | (go_simp; done) | (go_simp; rfl)); intro ag hg w4 hbox hb; have n0_ := mk0 (Kd.V_below (Kd.V_elderB (by (with_reducible repeat (first | apply Kd.V_alloc | apply Kd.V_drewN | apply Kd.V_drew)); exact HO0_1.out) ag (Nat.le_of_eq hg.symm)) hb); have n1_ := mk0 (bt_ (by repeat (first | (with_reducible first | exact HB.out | apply bL_ | apply pN_ | apply b1_) | exact HB.out)) hb); have n2_ := mk0 (hbox); have n3_ := mk0 ((by rw [hg]; exact (bz_ (by repeat (first | (with_reducible first | exact HB.out | apply bL_ | apply pN_ | apply b1_) | exact HB.out))) : w.heap.size ≤ ag)); have n4_ := mk0 ((by rw [hg]; exact (bz_ (by repeat (first | (with_reducible first | exact HB.out | apply bL_ | apply pN_ | apply b1_) | exact HB.out))) : w.heap.size ≤ ag)); clear HO0_1; clear HB; have HO0_1 := n0_; have HB := n1_; have ae := n2_; have GW179 := n3_; have GE179 := n4_; clear n0_ n1_ n2_ n3_ n4_; clear hb hbox hg; have hcz5_0 : w4.cell? ⟨ag, 0, none⟩ = some (.slice A0_0 aa.length c0_0) := (blk_cell ae.out 0).trans rfl; have hcz5_1 : w4.cell? ⟨ag, 1, none⟩ = some (.slice A0_1 aj.length c0_1) := (blk_cell ae.out 1).trans rfl; have hcz5_2 : w4.cell? ⟨ag, 2, none⟩ = some (.slice A0_2 ao.length c0_2) := (blk_cell ae.out 2).trans rfl; have hfz5_0 := blk_frozen ae.out 0; have hfz5_1 := blk_frozen ae.out 1; have hfz5_2 := blk_frozen ae.out 2) | ((with_reducible refine gate_callee (f := 15) rfl ?_); refine goesL_ (some 17) rfl rfl Try.func15 (by kernel_rfl) rfl #[.agg #[.slice A0_0 aa.length c0_0, .slice A0_1 aj.length c0_1, .slice A0_2 ao.length c0_2]] rfl (by (try simp only [List.map_toArray, List.map_cons, List.map_nil]); first | done | rfl | (simp only [List.length_drop, List.length_take]; rfl)) ?_; (with_reducible refine (quorumlaw12_Heavy.calls k _ _ aa _ _ aj _ _ ao true _ ?side1 ?side2 ?side3 ?side4 ?side5 ?side6 A2.out).mono ?_); (case side1 => repeat (first | exact (Kd.C_below HR0_0.out HB.out) | (with_reducible refine Kd.C_alloc ?_ _) | (with_reducible refine Kd.C_drewN ?_ _) | (with_reducible refine Kd.C_drew ?_))); (case side2 => exact HC0_0.out); (case side3 => repeat (first | exact (Kd.V_reads' HO0_1.out).2.2 | (with_reducible refine Kd.C_alloc ?_ _) | (with_reducible refine Kd.C_drewN ?_ _) | (with_reducible refine Kd.C_drew ?_))); (case side4 => exact (Kd.V_reads' HO0_1.out).2.1); (case side5 => repeat (first | exact (Kd.C_below HR0_2.out HB.out) | (with_reducible refine Kd.C_alloc ?_ _) | (with_reducible refine Kd.C_drewN ?_ _) | (with_reducible refine Kd.C_drew ?_))); (case side6 => exact HC0_2.out); rintro e w6 ⟨rfl, hb⟩; refine ⟨_, rfl, ?_⟩; have n0_ := mk0 (Kd.V_below (by (with_reducible repeat (first | apply Kd.V_alloc | apply Kd.V_drewN | apply Kd.V_drew)); exact HO0_1.out) hb); have n1_ := mk0 (blk_below (g := ag) (o := .cells #[.slice A0_0 aa.length c0_0, .slice A0_1 aj.length c0_1, .slice A0_2 ao.length c0_2] 26 (0, 0)) (by (with_reducible repeat (first | refine bN_ ?_ _ | refine bD_ ?_ | refine bA_ ?_ _)); exact ae.out) hb); have n2_ := mk0 (bt_ (by repeat (first | (with_reducible first | exact HB.out | apply bL_ | apply pN_ | apply b1_ | refine bs_ ?_ GE179.out) | exact HB.out)) hb); clear HO0_1; clear ae; clear HB; have HO0_1 := n0_; have ae := n1_; have HB := n2_; clear n0_ n1_ n2_; (try clear hb); (try clear hb2); (try clear hk); (try clear hi)))
  go_ret
  exact ⟨by first | rfl | (simp [errW_none, errW_some] <;> rfl) | (simp [*, errW_none, errW_some] <;> rfl), by repeat (first | (with_reducible first | exact HB.out | apply bL_ | apply pN_ | apply b1_ | refine bs_ ?_ GE179.out) | exact HB.out)⟩
 replace c3 := Bool.eq_false_iff.mpr c3
 subst c3
 have H1 : ((some (([(⟨([] : List (S44)), ([] : List Int)⟩ : S31)] : List (S31)) : List (S31))).bind fun y181 => (if y181.length + aj.length < 2932031007402 then ((some (([0, 5, (-1)] : List Int) : List Int)).bind fun y187 => (if y187.length + ao.length < 17592186044416 then (quorumlaw12_PlanLocks.l0 k (y181 ++ aj) (y187 ++ ao) 0 aa aj ao) else (none))) else (none))) = some r := by rw [if_neg (show ¬ (false = true) by decide)] at H; exact H
 clear H
 have H := H1
 clear H1
 obtain ⟨y181, hy181⟩ : ∃ y_ : List (S31), y_ = (([(⟨([] : List (S44)), ([] : List Int)⟩ : S31)] : List (S31))) := ⟨_, rfl⟩
 replace H : (if y181.length + aj.length < 2932031007402 then ((some (([0, 5, (-1)] : List Int) : List Int)).bind fun y187 => (if y187.length + ao.length < 17592186044416 then (quorumlaw12_PlanLocks.l0 k (y181 ++ aj) (y187 ++ ao) 0 aa aj ao) else (none))) else (none)) = some r := by first | (rw [hy181]; with_reducible exact H) | (have H2_ := (Option.bind_some _ _).symm.trans H; rw [hy181]; with_reducible exact H2_) | (have H2_ := (Option.bind_some _ _).symm.trans H; with_reducible exact H2_) | with_reducible exact H | (rw [hy181]; exact H) | exact H
 have Ny181 := mk0 hy181
 clear hy181
 by_cases c7 : y181.length + aj.length < 2932031007402
 rotate_left
 ·rw [if_neg c7] at H
  exact absurd H (by simp)
 rw [if_pos c7] at H
 have LMc7 := mk0 c7
 clear c7
 obtain ⟨ai, hy184⟩ : ∃ y_ : List (S31), y_ = (y181 ++ aj) := ⟨_, rfl⟩
 replace H : ((some (([0, 5, (-1)] : List Int) : List Int)).bind fun y187 => (if y187.length + ao.length < 17592186044416 then (quorumlaw12_PlanLocks.l0 k ai (y187 ++ ao) 0 aa aj ao) else (none))) = some r := by first | (rw [hy184]; with_reducible exact H) | (have H2_ := (Option.bind_some _ _).symm.trans H; rw [hy184]; with_reducible exact H2_) | (have H2_ := (Option.bind_some _ _).symm.trans H; with_reducible exact H2_) | with_reducible exact H | (rw [hy184]; exact H) | exact H
 have Ny184 := mk0 hy184
 clear hy184
 obtain ⟨y187, hy187⟩ : ∃ y_ : List Int, y_ = (([0, 5, (-1)] : List Int)) := ⟨_, rfl⟩
 replace H : (if y187.length + ao.length < 17592186044416 then (quorumlaw12_PlanLocks.l0 k ai (y187 ++ ao) 0 aa aj ao) else (none)) = some r := by first | (rw [hy187]; with_reducible exact H) | (have H2_ := (Option.bind_some _ _).symm.trans H; rw [hy187]; with_reducible exact H2_) | (have H2_ := (Option.bind_some _ _).symm.trans H; with_reducible exact H2_) | with_reducible exact H | (rw [hy187]; exact H) | exact H
 have Ny187 := mk0 hy187
 clear hy187
 by_cases c8 : y187.length + ao.length < 17592186044416
 rotate_left
 ·rw [if_neg c8] at H
  exact absurd H (by simp)
 rw [if_pos c8] at H
 have LMc8 := mk0 c8
 clear c8
 obtain ⟨y190, hy190⟩ : ∃ y_ : List Int, y_ = (y187 ++ ao) := ⟨_, rfl⟩
 replace H : (quorumlaw12_PlanLocks.l0 k ai y190 0 aa aj ao) = some r := by first | (rw [hy190]; with_reducible exact H) | (have H2_ := (Option.bind_some _ _).symm.trans H; rw [hy190]; with_reducible exact H2_) | (have H2_ := (Option.bind_some _ _).symm.trans H; with_reducible exact H2_) | with_reducible exact H | (rw [hy190]; exact H) | exact H
 have Ny190 := mk0 hy190
 clear hy190
 have H' := mk0 H
 clear H
 go_enter Try.func31, Try.ntmps31
 go_wp2_with (first | ((with_reducible refine gate_dst (N := 1) rfl ?_); refine box_event ?hg (N := 1) ?hd (cs := #[.slice A0_0 aa.length c0_0, .slice A0_1 aj.length c0_1, .slice A0_2 ao.length c0_2]) (t := 26) ?hr ?_; (case hd => rfl); (case hg => rfl); (case hr => first | (go_simp; done) | (go_simp; rfl)); intro ag hg w9 hbox hb; have n0_ := mk0 (Kd.V_below (Kd.V_elderB (by (with_reducible repeat (first | apply Kd.V_alloc | apply Kd.V_drewN | apply Kd.V_drew)); exact HO0_1.out) ag (Nat.le_of_eq hg.symm)) hb); have n1_ := mk0 (bt_ (by repeat (first | (with_reducible first | exact HB.out | apply bL_ | apply pN_ | apply b1_) | exact HB.out)) hb); have n2_ := mk0 (hbox); have n3_ := mk0 ((by rw [hg]; exact (bz_ (by repeat (first | (with_reducible first | exact HB.out | apply bL_ | apply pN_ | apply b1_) | exact HB.out))) : w.heap.size ≤ ag)); have n4_ := mk0 ((by rw [hg]; exact (bz_ (by repeat (first | (with_reducible first | exact HB.out | apply bL_ | apply pN_ | apply b1_) | exact HB.out))) : w.heap.size ≤ ag)); clear HO0_1; clear HB; have HO0_1 := n0_; have HB := n1_; have ae := n2_; have GW179 := n3_; have GE179 := n4_; clear n0_ n1_ n2_ n3_ n4_; clear hb hbox hg; have hcz10_0 : w9.cell? ⟨ag, 0, none⟩ = some (.slice A0_0 aa.length c0_0) := (blk_cell ae.out 0).trans rfl; have hcz10_1 : w9.cell? ⟨ag, 1, none⟩ = some (.slice A0_1 aj.length c0_1) := (blk_cell ae.out 1).trans rfl; have hcz10_2 : w9.cell? ⟨ag, 2, none⟩ = some (.slice A0_2 ao.length c0_2) := (blk_cell ae.out 2).trans rfl; have hfz10_0 := blk_frozen ae.out 0; have hfz10_1 := blk_frozen ae.out 1; have hfz10_2 := blk_frozen ae.out 2) | ((with_reducible refine gate_callee (f := 15) rfl ?_); refine goesL_ (some 17) rfl rfl Try.func15 (by kernel_rfl) rfl #[.agg #[.slice A0_0 aa.length c0_0, .slice A0_1 aj.length c0_1, .slice A0_2 ao.length c0_2]] rfl (by (try simp only [List.map_toArray, List.map_cons, List.map_nil]); first | done | rfl | (simp only [List.length_drop, List.length_take]; rfl)) ?_; (with_reducible refine (quorumlaw12_Heavy.calls k _ _ aa _ _ aj _ _ ao false _ ?side1 ?side2 ?side3 ?side4 ?side5 ?side6 A2.out).mono ?_); (case side1 => repeat (first | exact (Kd.C_below HR0_0.out HB.out) | (with_reducible refine Kd.C_alloc ?_ _) | (with_reducible refine Kd.C_drewN ?_ _) | (with_reducible refine Kd.C_drew ?_))); (case side2 => exact HC0_0.out); (case side3 => repeat (first | exact (Kd.V_reads' HO0_1.out).2.2 | (with_reducible refine Kd.C_alloc ?_ _) | (with_reducible refine Kd.C_drewN ?_ _) | (with_reducible refine Kd.C_drew ?_))); (case side4 => exact (Kd.V_reads' HO0_1.out).2.1); (case side5 => repeat (first | exact (Kd.C_below HR0_2.out HB.out) | (with_reducible refine Kd.C_alloc ?_ _) | (with_reducible refine Kd.C_drewN ?_ _) | (with_reducible refine Kd.C_drew ?_))); (case side6 => exact HC0_2.out); rintro e w11 ⟨rfl, hb⟩; refine ⟨_, rfl, ?_⟩; have n0_ := mk0 (Kd.V_below (by (with_reducible repeat (first | apply Kd.V_alloc | apply Kd.V_drewN | apply Kd.V_drew)); exact HO0_1.out) hb); have n1_ := mk0 (blk_below (g := ag) (o := .cells #[.slice A0_0 aa.length c0_0, .slice A0_1 aj.length c0_1, .slice A0_2 ao.length c0_2] 26 (0, 0)) (by (with_reducible repeat (first | refine bN_ ?_ _ | refine bD_ ?_ | refine bA_ ?_ _)); exact ae.out) hb); have n2_ := mk0 (bt_ (by repeat (first | (with_reducible first | exact HB.out | apply bL_ | apply pN_ | apply b1_ | refine bs_ ?_ GE179.out) | exact HB.out)) hb); clear HO0_1; clear ae; clear HB; have HO0_1 := n0_; have ae := n1_; have HB := n2_; clear n0_ n1_ n2_; (try clear hb); (try clear hb2); (try clear hk); (try clear hi)) | ((with_reducible refine gate_dst (N := 19) rfl ?_); refine Kd.N_lit k31 _ 31 ?hg (N' := 19) ?hd (xs := ([(⟨([] : List (S44)), ([] : List Int)⟩ : S31)] : List (S31))) (inner := [.slice none 0 0, .slice none 0 0]) (ok := (fun k_ => (P0_1_ k_ ∨ w.heap.size ≤ k_) ∧ k_ ≠ ag)) (okp := (fun k_ => (P0_1_ k_ ∨ w.heap.size ≤ k_) ∧ k_ ≠ ag)) ?hr ?hp (fun _ hk => hk) ((show ∀ k_, w11.heap.size ≤ k_ → (fun k_ => (P0_1_ k_ ∨ w.heap.size ≤ k_) ∧ k_ ≠ ag) k_ from fun k_ hk => ⟨(.inr (Nat.le_trans (bz_ (by repeat (first | (with_reducible first | exact HB.out | apply bL_ | apply pN_ | apply b1_ | refine bs_ ?_ GE179.out) | exact HB.out))) hk)), Kd.freshB (g := ag) (o := .cells #[.slice A0_0 aa.length c0_0, .slice A0_1 aj.length c0_1, .slice A0_2 ao.length c0_2] 26 (0, 0)) (by (with_reducible repeat (first | refine bN_ ?_ _ | refine bD_ ?_ | refine bA_ ?_ _)); exact ae.out) k_ hk⟩) _ (Nat.le_refl _)) (Below.refl _ _) (Nat.le_refl _) (by simp) ?_; (case hd => rfl); (case hg => rfl); (case hr => first | (go_simp; done) | (go_simp; rfl)); (case hp => exact (Reps.c2 (show Kd.FK k31 _ _ (⟨([] : List (S44)), ([] : List Int)⟩ : S31) [.slice none 0 0, .slice none 0 0] from (k31_mkF _ _ (⟨([] : List (S44)), ([] : List Int)⟩ : S31) (Nat.le_refl _) (Kd.F_nil _ _ _) (Nat.le_refl _) (Kd.F_nil _ _ _))) (Reps.none _ _))); intro v182 w12 ho13 hb hg_ hnew_; clear hg_ hnew_; (first | rw [← Ny181.out] at ho13 | (simp only [Int.reduceToNat] at ho13; rw [← Ny181.out] at ho13)); have n0_ := mk0 (Kd.V_elder' (by (with_reducible repeat (first | apply Kd.V_alloc | apply Kd.V_drewN | apply Kd.V_drew)); exact HO0_1.out) (Kd.N_base ho13) hb); have n1_ := mk0 (Kd.N_lower ho13 (bz_ (by repeat (first | (with_reducible first | exact HB.out | apply bL_ | apply pN_ | apply b1_ | refine bs_ ?_ GE179.out) | exact HB.out)))); have n2_ := mk0 (blk_below (g := ag) (o := .cells #[.slice A0_0 aa.length c0_0, .slice A0_1 aj.length c0_1, .slice A0_2 ao.length c0_2] 26 (0, 0)) (by (with_reducible repeat (first | refine bN_ ?_ _ | refine bD_ ?_ | refine bA_ ?_ _)); exact ae.out) hb); have n3_ := mk0 (bt_ (by repeat (first | (with_reducible first | exact HB.out | apply bL_ | apply pN_ | apply b1_ | refine bs_ ?_ GE179.out) | exact HB.out)) hb); clear HO0_1; clear ae; clear HB; have HO0_1 := n0_; have HO183 := n1_; have ae := n2_; have HB := n3_; clear n0_ n1_ n2_ n3_; clear hb ho13; have hcz14_0 : w12.cell? ⟨ag, 0, none⟩ = some (.slice A0_0 aa.length c0_0) := (blk_cell ae.out 0).trans rfl; have hcz14_1 : w12.cell? ⟨ag, 1, none⟩ = some (.slice A0_1 aj.length c0_1) := (blk_cell ae.out 1).trans rfl; have hcz14_2 : w12.cell? ⟨ag, 2, none⟩ = some (.slice A0_2 ao.length c0_2) := (blk_cell ae.out 2).trans rfl; have hfz14_0 := blk_frozen ae.out 0; have hfz14_1 := blk_frozen ae.out 1; have hfz14_2 := blk_frozen ae.out 2) | ((with_reducible refine gate_builtin (b := .append) (xs := #[.tmp 19, .tmp 21]) rfl ?_); at_builtin; refine Kd.N_append_rows k31 (w0 := w) w.heap.size rfl (.tmp 19) (.tmp 21) 23 31 (.agg #[(.slice none 0 0), (.slice none 0 0)]) 48 rfl Try.underlying23 info31 rfl (by decide) (by omega) v182 y181 aj _ _ _ (fun k_ => (P0_1_ k_ ∨ w.heap.size ≤ k_) ∧ k_ ≠ ag) (fun k_ => ((fun k_ => (P0_1_ k_ ∨ w.heap.size ≤ k_) ∧ k_ ≠ ag)) k_ ∧ some k_ ≠ (v182 : Value).ownBlock) rfl rfl ?aO ?aR (fun _ hk => hk) ?aF ?aB ?aS ?aL ?_; (case aR => exact (by skip; exact Kd.V_F (Kd.V_mono (ok' := (fun k_ => ((fun k_ => (P0_1_ k_ ∨ w.heap.size ≤ k_) ∧ k_ ≠ ag)) k_ ∧ some k_ ≠ (v182 : Value).ownBlock)) (HO0_1.out) (fun k_ hk => ⟨⟨hk.1.1, hk.1.2⟩, hk.2⟩)))); (case aB => exact (by repeat (first | (with_reducible first | exact HB.out | apply bL_ | apply pN_ | apply b1_ | refine bs_ ?_ GE179.out) | exact HB.out))); (case aF => exact (fun k_ hk => ⟨(.inr (Nat.le_trans (bz_ (by repeat (first | (with_reducible first | exact HB.out | apply bL_ | apply pN_ | apply b1_ | refine bs_ ?_ GE179.out) | exact HB.out))) hk)), Kd.freshB (g := ag) (o := .cells #[.slice A0_0 aa.length c0_0, .slice A0_1 aj.length c0_1, .slice A0_2 ao.length c0_2] 26 (0, 0)) (by (with_reducible repeat (first | refine bN_ ?_ _ | refine bD_ ?_ | refine bA_ ?_ _)); exact ae.out) k_ hk⟩)); (case aO => exact (by (with_reducible repeat (first | apply Kd.N_alloc | apply Kd.N_drewN | apply Kd.N_drew)); exact HO183.out)); (case aS => exact (bz_ (by repeat (first | (with_reducible first | exact HB.out | apply bL_ | apply pN_ | apply b1_ | refine bs_ ?_ GE179.out) | exact HB.out)))); (case aL => have := LMc7.out; omega); intro v185 w15 ho hb hg hat; rw [← Ny184.out] at ho; have n0_ := mk0 (Kd.V_afterv (ok := (fun k_ => (P0_1_ k_ ∨ w.heap.size ≤ k_) ∧ k_ ≠ ag)) (by (with_reducible repeat (first | apply Kd.V_alloc | apply Kd.V_drewN | apply Kd.V_drew)); exact HO0_1.out) hg hat); have n1_ := mk0 (blk_grown (g := ag) (o := .cells #[.slice A0_0 aa.length c0_0, .slice A0_1 aj.length c0_1, .slice A0_2 ao.length c0_2] 26 (0, 0)) (by (with_reducible repeat (first | refine bN_ ?_ _ | refine bD_ ?_ | refine bA_ ?_ _)); exact ae.out) hg (Kd.N_ne HO183.out ae.out (by decide))); have n2_ := mk0 (hb); have n3_ := mk0 (ho); clear HO0_1; clear ae; clear HB; clear HO183; have HO0_1 := n0_; have ae := n1_; have HB := n2_; have HO186 := n3_; clear n0_ n1_ n2_ n3_; clear ho hb hg hat) | ((with_reducible refine gate_dst (N := 23) rfl ?_); refine Kd.R_lit (Kd.int .i64) _ 3 ?hg (N := 23) ?hd (xs := ([0, 5, (-1)] : List Int)) (inner := [.int .i64 0, .int .i64 5, .int .i64 (-1)]) (ok := fun _ => True) (okp := fun _ => True) ?hr ?hp (fun _ hk => hk) trivial (Below.refl _ _) (Nat.le_refl _) (by simp) ?_; (case hd => rfl); (case hg => rfl); (case hr => first | (go_simp; done) | (go_simp; rfl)); (case hp => exact (Reps.one (show Kd.M (Kd.int .i64) _ _ _ 0 [.int .i64 0] from rfl) (Reps.one (show Kd.M (Kd.int .i64) _ _ _ 5 [.int .i64 5] from rfl) (Reps.one (show Kd.M (Kd.int .i64) _ _ _ (-1) [.int .i64 (-1)] from rfl) (Reps.none _ _))))); intro v188 w16 ho17 hb hg_ hnew_; clear hg_ hnew_; (first | rw [← Ny187.out] at ho17 | (simp only [Int.reduceToNat] at ho17; rw [← Ny187.out] at ho17)); have n0_ := mk0 (Kd.V_elder' (by (with_reducible repeat (first | apply Kd.V_alloc | apply Kd.V_drewN | apply Kd.V_drew)); exact HO0_1.out) (Kd.R_base ho17) hb); have n1_ := mk0 (Kd.N_elder' (by (with_reducible repeat (first | apply Kd.N_alloc | apply Kd.N_drewN | apply Kd.N_drew)); exact HO186.out) (Kd.R_base ho17) hb); have n2_ := mk0 (Kd.R_lower (Kd.R_newM (M := fun k_ => (w.heap.size ≤ k_)) ho17 (bz_ (by repeat (first | (with_reducible first | exact HB.out | apply bL_ | apply pN_ | apply b1_ | refine bs_ ?_ GE179.out) | exact HB.out))) (fun k_ h_ => h_)) (bz_ (by repeat (first | (with_reducible first | exact HB.out | apply bL_ | apply pN_ | apply b1_ | refine bs_ ?_ GE179.out) | exact HB.out)))); have n3_ := mk0 (blk_below (g := ag) (o := .cells #[.slice A0_0 aa.length c0_0, .slice A0_1 aj.length c0_1, .slice A0_2 ao.length c0_2] 26 (0, 0)) (by (with_reducible repeat (first | refine bN_ ?_ _ | refine bD_ ?_ | refine bA_ ?_ _)); exact ae.out) hb); have n4_ := mk0 (bt_ (by repeat (first | (with_reducible first | exact HB.out | apply bL_ | apply pN_ | apply b1_ | refine bs_ ?_ GE179.out) | exact HB.out)) hb); clear HO0_1; clear HO186; clear ae; clear HB; have HO0_1 := n0_; have HO186 := n1_; have HO189 := n2_; have ae := n3_; have HB := n4_; clear n0_ n1_ n2_ n3_ n4_; clear hb ho17; have hcz18_0 : w16.cell? ⟨ag, 0, none⟩ = some (.slice A0_0 aa.length c0_0) := (blk_cell ae.out 0).trans rfl; have hcz18_1 : w16.cell? ⟨ag, 1, none⟩ = some (.slice A0_1 aj.length c0_1) := (blk_cell ae.out 1).trans rfl; have hcz18_2 : w16.cell? ⟨ag, 2, none⟩ = some (.slice A0_2 ao.length c0_2) := (blk_cell ae.out 2).trans rfl; have hfz18_0 := blk_frozen ae.out 0; have hfz18_1 := blk_frozen ae.out 1; have hfz18_2 := blk_frozen ae.out 2) | ((with_reducible refine gate_builtin (b := .append) (xs := #[.tmp 23, .tmp 25]) rfl ?_); at_builtin; refine Kd.R_append_rows (Kd.int .i64) (w0 := w) w.heap.size rfl (.tmp 23) (.tmp 25) 24 3 (.int .i64 0) 8 rfl Try.underlying24 info3 rfl (by decide) (by omega) v188 y187 ao _ _ _ (fun k_ => (w.heap.size ≤ k_)) (fun _ => False) rfl rfl ?aO ?aR (fun _ _ h => h) (fun _ h => h.elim) ?aF ?aB ?aS ?aL ?_; (case aR => repeat (first | exact (Kd.C_below HR0_2.out HB.out) | (with_reducible refine Kd.C_alloc ?_ _) | (with_reducible refine Kd.C_drewN ?_ _) | (with_reducible refine Kd.C_drew ?_))); (case aB => exact (by repeat (first | (with_reducible first | exact HB.out | apply bL_ | apply pN_ | apply b1_ | refine bs_ ?_ GE179.out) | exact HB.out))); (case aF => exact (fun k_ hk => (Nat.le_trans (bz_ (by repeat (first | (with_reducible first | exact HB.out | apply bL_ | apply pN_ | apply b1_ | refine bs_ ?_ GE179.out) | exact HB.out))) hk))); (case aO => exact (by (with_reducible repeat (first | apply Ra_ | apply Rn_ | apply Rd_)); exact Kd.R_mono HO189.out (fun _ hk => hk.1))); (case aS => exact (bz_ (by repeat (first | (with_reducible first | exact HB.out | apply bL_ | apply pN_ | apply b1_ | refine bs_ ?_ GE179.out) | exact HB.out)))); (case aL => have := LMc8.out; omega); intro v191 w19 ho hb hg hat; rw [← Ny190.out] at ho; have n0_ := mk0 (Kd.V_afterv (ok := (fun k_ => (P0_1_ k_ ∨ w.heap.size ≤ k_) ∧ some k_ ≠ (v185 : Value).ownBlock ∧ k_ ≠ ag)) (by (with_reducible repeat (first | apply Kd.V_alloc | apply Kd.V_drewN | apply Kd.V_drew)); exact Kd.V_mono HO0_1.out (fun _ hk => ⟨⟨hk.1.1.1, ⟨hk.1.2, hk.1.1.2⟩⟩, hk.2⟩)) hg hat); have n1_ := mk0 (blk_grown (g := ag) (o := .cells #[.slice A0_0 aa.length c0_0, .slice A0_1 aj.length c0_1, .slice A0_2 ao.length c0_2] 26 (0, 0)) (by (with_reducible repeat (first | refine bN_ ?_ _ | refine bD_ ?_ | refine bA_ ?_ _)); exact ae.out) hg (Kd.R_ne HO189.out ae.out (by decide))); have n2_ := mk0 (Kd.N_afterv (ok := (fun k_ => (P0_1_ k_ ∨ w.heap.size ≤ k_) ∧ k_ ≠ ag)) (by (with_reducible repeat (first | apply Kd.N_alloc | apply Kd.N_drewN | apply Kd.N_drew)); exact HO186.out) hg hat); have n3_ := mk0 (hb); have n4_ := mk0 (ho); clear HO0_1; clear ae; clear HO186; clear HB; clear HO189; have HO0_1 := n0_; have ae := n1_; have HO186 := n2_; have HB := n3_; have HO192 := n4_; clear n0_ n1_ n2_ n3_ n4_; clear ho hb hg hat))
 go_loopg [5] k (fun kq v5 w' => ∃ (ab : Int), v5 = .int .i64 ab ∧ Aside0 (quorumlaw12_PlanLocks.l0 kq ai y190 ab aa aj ao = some r) ∧ Aside0 (kq ≤ k) ∧ Aside0 (Kd.N k31 31 w' w.heap.size (fun k_ => (P0_1_ k_ ∨ w.heap.size ≤ k_) ∧ some k_ ≠ (v191 : Value).ownBlock ∧ k_ ≠ ag) v185 ai) ∧ Aside0 (Kd.R (Kd.int .i64) 3 w' w.heap.size (fun k_ => (w.heap.size ≤ k_)) v191 y190) ∧ Aside0 (Kd.V k31 31 w' w.heap.size (fun k_ => (P0_1_ k_ ∨ w.heap.size ≤ k_) ∧ some k_ ≠ (v185 : Value).ownBlock ∧ some k_ ≠ (v191 : Value).ownBlock ∧ k_ ≠ ag) (.slice A0_1 aj.length c0_1) aj) ∧ Aside0 (w'.heap[ag]? = some (.cells #[(.slice A0_0 aa.length c0_0), (.slice A0_1 aj.length c0_1), (.slice A0_2 ao.length c0_2)] 26 (0, 0))) ∧ Aside0 (Below w.heap.size w w'))
 case atStart => exact ⟨(0), (by first | rfl | (simp; done) | (simp [*]; done)), H', ⟨Nat.le_refl _⟩, ⟨by (with_reducible repeat (first | apply Kd.N_alloc | apply Kd.N_drewN | apply Kd.N_drew)); exact Kd.N_mono HO186.out (fun _ hk => ⟨hk.1.1, ⟨hk.2, hk.1.2⟩⟩)⟩, ⟨by (with_reducible repeat (first | apply Ra_ | apply Rn_ | apply Rd_)); exact HO192.out⟩, ⟨by (with_reducible repeat (first | apply Kd.V_alloc | apply Kd.V_drewN | apply Kd.V_drew)); exact Kd.V_mono HO0_1.out (fun _ hk => ⟨hk.1.1, ⟨hk.1.2.1, ⟨hk.2, hk.1.2.2⟩⟩⟩)⟩, ⟨by (with_reducible repeat (first | refine bN_ ?_ _ | refine bD_ ?_ | refine bA_ ?_ _)); exact ae.out⟩, ⟨by repeat (first | (with_reducible first | exact HB.out | apply bL_ | apply pN_ | apply b1_ | refine bs_ ?_ GE179.out) | exact HB.out)⟩⟩
 clear H'
 try clear c1
 try clear c2
 try clear p2
 try clear c3
 try clear c7
 try clear c8
 try clear c15
 try clear hcz10_0 hcz10_1 hcz10_2 hfz10_0 hfz10_1 hfz10_2
 try clear hcz14_0 hcz14_1 hcz14_2 hfz14_0 hfz14_1 hfz14_2
 try clear hcz18_0 hcz18_1 hcz18_2 hfz18_0 hfz18_1 hfz18_2
 try clear hcz5_0 hcz5_1 hcz5_2 hfz5_0 hfz5_1 hfz5_2
 obtain ⟨ab, rfl, HA, HK1, ak, ap, ad, ae, HB⟩ := hrel
 cases gk with
 | zero => exact absurd HA.out (by simp [quorumlaw12_PlanLocks.l0])
 | succ k1 =>
  have H := HA.out
  clear HA
  simp only [quorumlaw12_PlanLocks.l0] at H
  have HC20 := mk0 H
  clear H
  go_upto_region 6 with (fail)
  go_cut [35] (fun v35 wc => ∃ (kq : Nat) (x35_19 : Bool), v35 = .bool x35_19 ∧ Aside0 (quorumlaw12_PlanLocks.j1 kq ai y190 ab x35_19 aa aj ao = some r) ∧ Aside0 (kq ≤ k1) ∧ Aside0 (Kd.N k31 31 wc w.heap.size (fun k_ => (P0_1_ k_ ∨ w.heap.size ≤ k_) ∧ some k_ ≠ (v191 : Value).ownBlock ∧ k_ ≠ ag) v185 ai) ∧ Aside0 (Kd.R (Kd.int .i64) 3 wc w.heap.size (fun k_ => (w.heap.size ≤ k_)) v191 y190) ∧ Aside0 (Kd.V k31 31 wc w.heap.size (fun k_ => (P0_1_ k_ ∨ w.heap.size ≤ k_) ∧ some k_ ≠ (v185 : Value).ownBlock ∧ some k_ ≠ (v191 : Value).ownBlock ∧ k_ ≠ ag) (.slice A0_1 aj.length c0_1) aj) ∧ Aside0 (wc.heap[ag]? = some (.cells #[(.slice A0_0 aa.length c0_0), (.slice A0_1 aj.length c0_1), (.slice A0_2 ao.length c0_2)] 26 (0, 0))) ∧ Aside0 (Below w.heap.size w wc))
  case first =>
   have H := HC20.out
   clear HC20
   by_cases c21 : ab < (aa.length : Int)
   ·rw [if_pos c21] at H
    have c21b0 : decide (ab < (aa.length : Int)) = true := decide_eq_true c21
    clear c21
    (first | rw [c21b0] | (simp only [i64_w, i32_w]; rw [c21b0]) | skip)
    have H' := mk0 H
    clear H
    have hcz22_0 : wr.cell? ⟨ag, 0, none⟩ = some (.slice A0_0 aa.length c0_0) := (blk_cell ae.out 0).trans rfl
    have hcz22_1 : wr.cell? ⟨ag, 1, none⟩ = some (.slice A0_1 aj.length c0_1) := (blk_cell ae.out 1).trans rfl
    have hcz22_2 : wr.cell? ⟨ag, 2, none⟩ = some (.slice A0_2 ao.length c0_2) := (blk_cell ae.out 2).trans rfl
    have hfz22_0 := blk_frozen ae.out 0
    have hfz22_1 := blk_frozen ae.out 1
    have hfz22_2 := blk_frozen ae.out 2
    go_wp2
    go_meet
    case rel => exact ⟨_, (decide (ab < 8)), (by first | rfl | (simp; done) | (simp [*]; done)), H', ⟨by have := HK1.out; first | omega | exact Nat.le_refl _⟩, ⟨by (with_reducible repeat (first | apply Kd.N_alloc | apply Kd.N_drewN | apply Kd.N_drew)); exact ak.out⟩, ⟨by (with_reducible repeat (first | apply Ra_ | apply Rn_ | apply Rd_)); exact ap.out⟩, ⟨by (with_reducible repeat (first | apply Kd.V_alloc | apply Kd.V_drewN | apply Kd.V_drew)); exact ad.out⟩, ⟨by (with_reducible repeat (first | refine bN_ ?_ _ | refine bD_ ?_ | refine bA_ ?_ _)); exact ae.out⟩, ⟨by repeat (first | (with_reducible first | exact HB.out | apply bL_ | apply pN_ | apply b1_ | refine bs_ ?_ GE179.out) | exact HB.out)⟩⟩
   rw [if_neg c21] at H
   have c21b0 : decide (ab < (aa.length : Int)) = false := decide_eq_false c21
   clear c21
   (first | rw [c21b0] | (simp only [i64_w, i32_w]; rw [c21b0]) | skip)
   have H' := mk0 H
   clear H
   have hcz23_0 : wr.cell? ⟨ag, 0, none⟩ = some (.slice A0_0 aa.length c0_0) := (blk_cell ae.out 0).trans rfl
   have hcz23_1 : wr.cell? ⟨ag, 1, none⟩ = some (.slice A0_1 aj.length c0_1) := (blk_cell ae.out 1).trans rfl
   have hcz23_2 : wr.cell? ⟨ag, 2, none⟩ = some (.slice A0_2 ao.length c0_2) := (blk_cell ae.out 2).trans rfl
   have hfz23_0 := blk_frozen ae.out 0
   have hfz23_1 := blk_frozen ae.out 1
   have hfz23_2 := blk_frozen ae.out 2
   go_wp2
   go_meet
   case rel => exact ⟨_, (false), (by first | rfl | (simp; done) | (simp [*]; done)), H', ⟨by have := HK1.out; first | omega | exact Nat.le_refl _⟩, ⟨by (with_reducible repeat (first | apply Kd.N_alloc | apply Kd.N_drewN | apply Kd.N_drew)); exact ak.out⟩, ⟨by (with_reducible repeat (first | apply Ra_ | apply Rn_ | apply Rd_)); exact ap.out⟩, ⟨by (with_reducible repeat (first | apply Kd.V_alloc | apply Kd.V_drewN | apply Kd.V_drew)); exact ad.out⟩, ⟨by (with_reducible repeat (first | refine bN_ ?_ _ | refine bD_ ?_ | refine bA_ ?_ _)); exact ae.out⟩, ⟨by repeat (first | (with_reducible first | exact HB.out | apply bL_ | apply pN_ | apply b1_ | refine bs_ ?_ GE179.out) | exact HB.out)⟩⟩
  clear HC20
  try clear c1
  try clear c2
  try clear p2
  try clear c3
  try clear c7
  try clear c8
  try clear c15
  try clear c21
  try clear c21b0
  try clear hcz10_0 hcz10_1 hcz10_2 hfz10_0 hfz10_1 hfz10_2
  try clear hcz14_0 hcz14_1 hcz14_2 hfz14_0 hfz14_1 hfz14_2
  try clear hcz18_0 hcz18_1 hcz18_2 hfz18_0 hfz18_1 hfz18_2
  try clear hcz22_0 hcz22_1 hcz22_2 hfz22_0 hfz22_1 hfz22_2
  try clear hcz23_0 hcz23_1 hcz23_2 hfz23_0 hfz23_1 hfz23_2
  try clear hcz5_0 hcz5_1 hcz5_2 hfz5_0 hfz5_1 hfz5_2
  try clear p2
  obtain ⟨kq, x35_19, rfl, HA, HJ19, ak, ap, ad, ae, HB⟩ := hcut
  cases kq with
  | zero => exact absurd HA.out (by simp [quorumlaw12_PlanLocks.j1])
  | succ kj19 =>
   have H := HA.out
   clear HA
   simp only [quorumlaw12_PlanLocks.j1] at H
   by_cases c24 : x35_19 = true
   rotate_left
   ·replace c24 := Bool.eq_false_iff.mpr c24
    subst c24
    have H1 : ((quorumlaw12_wakes.f).bind fun t193 => (some t193)) = some r := by rw [if_neg (show ¬ (false = true) by decide)] at H; exact H
    clear H
    have H := H1
    clear H1
    replace H := Option.bind_eq_some_iff.mp H
    obtain ⟨t193, A1360, H⟩ := H
    replace H : (some t193) = some r := H
    have A136 := mk0 A1360
    clear A1360
    obtain rfl := Option.some.inj H
    go_wp2_with (first | ((with_reducible refine gate_callee (f := 20) rfl ?_); refine goesL_ (some 148) rfl rfl Try.func20 (by kernel_rfl) rfl #[] rfl (by (try simp only [List.map_toArray, List.map_cons, List.map_nil]); first | done | rfl | (simp only [List.length_drop, List.length_take]; rfl)) ?_; (with_reducible refine (quorumlaw12_wakes.calls  t193 _ A136.out).mono ?_); rintro e w137 ⟨rfl, hb⟩; refine ⟨_, rfl, ?_⟩; have n0_ := mk0 (Kd.N_below (by (with_reducible repeat (first | apply Kd.N_alloc | apply Kd.N_drewN | apply Kd.N_drew)); exact ak.out) hb); have n1_ := mk0 (Kd.R_below (by (with_reducible repeat (first | apply Ra_ | apply Rn_ | apply Rd_)); exact ap.out) hb); have n2_ := mk0 (Kd.V_below (by (with_reducible repeat (first | apply Kd.V_alloc | apply Kd.V_drewN | apply Kd.V_drew)); exact ad.out) hb); have n3_ := mk0 (blk_below (g := ag) (o := .cells #[.slice A0_0 aa.length c0_0, .slice A0_1 aj.length c0_1, .slice A0_2 ao.length c0_2] 26 (0, 0)) (by (with_reducible repeat (first | refine bN_ ?_ _ | refine bD_ ?_ | refine bA_ ?_ _)); exact ae.out) hb); have n4_ := mk0 (bt_ (by repeat (first | (with_reducible first | exact HB.out | apply bL_ | apply pN_ | apply b1_ | refine bs_ ?_ GE179.out) | exact HB.out)) hb); clear ak; clear ap; clear ad; clear ae; clear HB; have ak := n0_; have ap := n1_; have ad := n2_; have ae := n3_; have HB := n4_; clear n0_ n1_ n2_ n3_ n4_; (try clear hb); (try clear hb2); (try clear hk); (try clear hi)))
    go_ret
    exact ⟨by first | rfl | (simp [errW_none, errW_some] <;> rfl) | (simp [*, errW_none, errW_some] <;> rfl), by repeat (first | (with_reducible first | exact HB.out | apply bL_ | apply pN_ | apply b1_ | refine bs_ ?_ GE179.out) | exact HB.out)⟩
   subst c24
   have H1 : (if 0 ≤ ab then (if ab < (aa.length : Int) then (quorumlaw12_PlanLocks.l1 kj19 ai y190 ab (-1) aa aj ao ((rd_T39 aa ab).f0) ((rd_T39 aa ab).f1) ((rd_T39 aa ab).f2) ((rd_T39 aa ab).f3) ((rd_T39 aa ab).f4.f0) ((rd_T39 aa ab).f4.f1) ((rd_T39 aa ab).f4.f2) ((rd_T39 aa ab).f5) ((rd_T39 aa ab).f6)) else (none)) else (none)) = some r := by rw [if_pos rfl] at H; exact H
   clear H
   have H := H1
   clear H1
   by_cases c25 : 0 ≤ ab
   rotate_left
   ·rw [if_neg c25] at H
    exact absurd H (by simp)
   rw [if_pos c25] at H
   have c25b0 : decide (0 ≤ ab) = true := decide_eq_true c25
   clear c25
   by_cases c26 : ab < (aa.length : Int)
   rotate_left
   ·rw [if_neg c26] at H
    exact absurd H (by simp)
   rw [if_pos c26] at H
   have c26b0 : decide (ab < (aa.length : Int)) = true := decide_eq_true c26
   clear c26
   have H' := mk0 H
   clear H
   have hcz27_0 : wc.cell? ⟨ag, 0, none⟩ = some (.slice A0_0 aa.length c0_0) := (blk_cell ae.out 0).trans rfl
   have hcz27_1 : wc.cell? ⟨ag, 1, none⟩ = some (.slice A0_1 aj.length c0_1) := (blk_cell ae.out 1).trans rfl
   have hcz27_2 : wc.cell? ⟨ag, 2, none⟩ = some (.slice A0_2 ao.length c0_2) := (blk_cell ae.out 2).trans rfl
   have hfz27_0 := blk_frozen ae.out 0
   have hfz27_1 := blk_frozen ae.out 1
   have hfz27_2 := blk_frozen ae.out 2
   have p194 : 0 ≤ (ab : Int) := of_decide_eq_true (by first | (with_reducible assumption) | assumption)
   have q194 : ab < (aa.length : Int) := of_decide_eq_true (by first | (with_reducible assumption) | assumption)
   obtain ⟨ad194, e194, hx194_0, hx194_1, hx194_2, hx194_3, hx194_4, hx194_5, hx194_6, hx194_7, hx194_8⟩ := at_T39 HR0_0.out ab p194 q194
   cases e194
   replace hx194_0 := (HB.out.cell (World.block_lt_of_cell? w _ hx194_0)).trans hx194_0
   replace hx194_1 := (HB.out.cell (World.block_lt_of_cell? w _ hx194_1)).trans hx194_1
   replace hx194_2 := (HB.out.cell (World.block_lt_of_cell? w _ hx194_2)).trans hx194_2
   replace hx194_3 := (HB.out.cell (World.block_lt_of_cell? w _ hx194_3)).trans hx194_3
   replace hx194_4 := (HB.out.cell (World.block_lt_of_cell? w _ hx194_4)).trans hx194_4
   replace hx194_5 := (HB.out.cell (World.block_lt_of_cell? w _ hx194_5)).trans hx194_5
   replace hx194_6 := (HB.out.cell (World.block_lt_of_cell? w _ hx194_6)).trans hx194_6
   replace hx194_7 := (HB.out.cell (World.block_lt_of_cell? w _ hx194_7)).trans hx194_7
   replace hx194_8 := (HB.out.cell (World.block_lt_of_cell? w _ hx194_8)).trans hx194_8
   replace p194 := eq_true p194
   replace q194 := eq_true q194
   go_wp2_with (first | ((with_reducible refine gate_dst (N := 6) rfl ?_); refine box_event ?hg (N := 6) ?hd (cs := #[.int .i64 0, .int .i64 0, .string (⟨#[]⟩ : ByteArray), .string (⟨#[]⟩ : ByteArray), .string (⟨#[]⟩ : ByteArray), .string (⟨#[]⟩ : ByteArray), .bool false, .int .i64 0, .bool false]) (t := 39) ?hr ?_; (case hd => rfl); (case hg => rfl); (case hr => first | (go_simp; done) | (go_simp; rfl)); intro af hg w28 hbox hb; have n0_ := mk0 (Kd.N_below (Kd.N_elderB (by (with_reducible repeat (first | apply Kd.N_alloc | apply Kd.N_drewN | apply Kd.N_drew)); exact ak.out) af (Nat.le_of_eq hg.symm)) hb); have n1_ := mk0 (Kd.R_below (by (with_reducible repeat (first | apply Ra_ | apply Rn_ | apply Rd_)); exact ap.out) hb); have n2_ := mk0 (Kd.V_below (Kd.V_elderB (by (with_reducible repeat (first | apply Kd.V_alloc | apply Kd.V_drewN | apply Kd.V_drew)); exact ad.out) af (Nat.le_of_eq hg.symm)) hb); have n3_ := mk0 (blk_below (g := ag) (o := .cells #[.slice (some ad194) aa.length c0_0, .slice A0_1 aj.length c0_1, .slice A0_2 ao.length c0_2] 26 (0, 0)) (by (with_reducible repeat (first | refine bN_ ?_ _ | refine bD_ ?_ | refine bA_ ?_ _)); exact ae.out) hb); have n4_ := mk0 (bt_ (by repeat (first | (with_reducible first | exact HB.out | apply bL_ | apply pN_ | apply b1_ | refine bs_ ?_ GE179.out) | exact HB.out)) hb); have n5_ := mk0 (hbox); have n6_ := mk0 ((by rw [hg]; exact (bz_ (by repeat (first | (with_reducible first | exact HB.out | apply bL_ | apply pN_ | apply b1_ | refine bs_ ?_ GE179.out) | exact HB.out))) : w.heap.size ≤ af)); have n7_ := mk0 ((by rw [hg]; exact (bz_ (by repeat (first | (with_reducible first | exact HB.out | apply bL_ | apply pN_ | apply b1_ | refine bs_ ?_ GE179.out) | exact HB.out))) : w.heap.size ≤ af)); have n8_ := mk0 ((by rw [hg]; exact Nat.ne_of_lt (blk_lt (g := ag) (o := .cells #[.slice (some ad194) aa.length c0_0, .slice A0_1 aj.length c0_1, .slice A0_2 ao.length c0_2] 26 (0, 0)) (by (with_reducible repeat (first | refine bN_ ?_ _ | refine bD_ ?_ | refine bA_ ?_ _)); exact ae.out)) : ag ≠ af)); have n9_ := mk0 ((by rw [hg]; exact Nat.ne_of_gt (blk_lt (g := ag) (o := .cells #[.slice (some ad194) aa.length c0_0, .slice A0_1 aj.length c0_1, .slice A0_2 ao.length c0_2] 26 (0, 0)) (by (with_reducible repeat (first | refine bN_ ?_ _ | refine bD_ ?_ | refine bA_ ?_ _)); exact ae.out)) : af ≠ ag)); clear ak; clear ap; clear ad; clear ae; clear HB; have ak := n0_; have ap := n1_; have ad := n2_; have ae := n3_; have HB := n4_; have ac := n5_; have GW195 := n6_; have GE195 := n7_; have NB179_195 := n8_; have NB195_179 := n9_; clear n0_ n1_ n2_ n3_ n4_ n5_ n6_ n7_ n8_ n9_; clear hb hbox hg; have hnb29 := NB195_179.out; have hnc29 := NB179_195.out; have hcz30_0 : w28.cell? ⟨af, 0, none⟩ = some (.int .i64 0) := (blk_cell ac.out 0).trans rfl; have hcz30_1 : w28.cell? ⟨af, 1, none⟩ = some (.int .i64 0) := (blk_cell ac.out 1).trans rfl; have hcz30_2 : w28.cell? ⟨af, 2, none⟩ = some (.string (⟨#[]⟩ : ByteArray)) := (blk_cell ac.out 2).trans rfl; have hcz30_3 : w28.cell? ⟨af, 3, none⟩ = some (.string (⟨#[]⟩ : ByteArray)) := (blk_cell ac.out 3).trans rfl; have hcz30_4 : w28.cell? ⟨af, 4, none⟩ = some (.string (⟨#[]⟩ : ByteArray)) := (blk_cell ac.out 4).trans rfl; have hcz30_5 : w28.cell? ⟨af, 5, none⟩ = some (.string (⟨#[]⟩ : ByteArray)) := (blk_cell ac.out 5).trans rfl; have hcz30_6 : w28.cell? ⟨af, 6, none⟩ = some (.bool false) := (blk_cell ac.out 6).trans rfl; have hcz30_7 : w28.cell? ⟨af, 7, none⟩ = some (.int .i64 0) := (blk_cell ac.out 7).trans rfl; have hcz30_8 : w28.cell? ⟨af, 8, none⟩ = some (.bool false) := (blk_cell ac.out 8).trans rfl; have hfz30_0 := blk_frozen ac.out 0; have hfz30_1 := blk_frozen ac.out 1; have hfz30_2 := blk_frozen ac.out 2; have hfz30_3 := blk_frozen ac.out 3; have hfz30_4 := blk_frozen ac.out 4; have hfz30_5 := blk_frozen ac.out 5; have hfz30_6 := blk_frozen ac.out 6; have hfz30_7 := blk_frozen ac.out 7; have hfz30_8 := blk_frozen ac.out 8))
   go_loopg [7] kj19 (fun kq v7 w' => ∃ (x7_3 : Int), v7 = .int .i64 x7_3 ∧ Aside0 (quorumlaw12_PlanLocks.l1 kq ai y190 ab x7_3 aa aj ao ((rd_T39 aa ab).f0) ((rd_T39 aa ab).f1) ((rd_T39 aa ab).f2) ((rd_T39 aa ab).f3) ((rd_T39 aa ab).f4.f0) ((rd_T39 aa ab).f4.f1) ((rd_T39 aa ab).f4.f2) ((rd_T39 aa ab).f5) ((rd_T39 aa ab).f6) = some r) ∧ Aside0 (kq ≤ kj19) ∧ Aside0 (Kd.N k31 31 w' w.heap.size (fun k_ => (P0_1_ k_ ∨ w.heap.size ≤ k_) ∧ some k_ ≠ (v191 : Value).ownBlock ∧ k_ ≠ ag ∧ k_ ≠ af) v185 ai) ∧ Aside0 (Kd.R (Kd.int .i64) 3 w' w.heap.size (fun k_ => (w.heap.size ≤ k_)) v191 y190) ∧ Aside0 (Kd.V k31 31 w' w.heap.size (fun k_ => (P0_1_ k_ ∨ w.heap.size ≤ k_) ∧ some k_ ≠ (v185 : Value).ownBlock ∧ some k_ ≠ (v191 : Value).ownBlock ∧ k_ ≠ ag ∧ k_ ≠ af) (.slice A0_1 aj.length c0_1) aj) ∧ Aside0 (w'.heap[ag]? = some (.cells #[(.slice (some ad194) aa.length c0_0), (.slice A0_1 aj.length c0_1), (.slice A0_2 ao.length c0_2)] 26 (0, 0))) ∧ Aside0 (w'.heap[af]? = some (.cells #[.int .i64 ((rd_T39 aa ab).f0), .int .i64 ((rd_T39 aa ab).f1), .string ((rd_T39 aa ab).f2), .string ((rd_T39 aa ab).f3), .string ((rd_T39 aa ab).f4.f0), .string ((rd_T39 aa ab).f4.f1), .bool ((rd_T39 aa ab).f4.f2), .int .i64 ((rd_T39 aa ab).f5), .bool ((rd_T39 aa ab).f6)] 39 (0, 0))) ∧ Aside0 (Below w.heap.size w w'))
   case atStart => exact ⟨((-1)), (by first | rfl | (simp; done) | (simp [*]; done)), H', ⟨Nat.le_refl _⟩, ⟨by (with_reducible repeat (first | apply Kd.N_alloc | apply Kd.N_drewN | apply Kd.N_drew)); exact Kd.N_mono (Kd.N_far (p := ⟨af, 8, none⟩) (Kd.N_far (p := ⟨af, 7, none⟩) (Kd.N_far (p := ⟨af, 6, none⟩) (Kd.N_far (p := ⟨af, 5, none⟩) (Kd.N_far (p := ⟨af, 4, none⟩) (Kd.N_far (p := ⟨af, 3, none⟩) (Kd.N_far (p := ⟨af, 2, none⟩) (Kd.N_far (p := ⟨af, 1, none⟩) (Kd.N_far (p := ⟨af, 0, none⟩) (Kd.N_mono ak.out (fun k_ hk => (⟨hk, hk.2⟩ : _ ∧ k_ ≠ af))) (fun _ hk => hk.2) (.int .i64 ((rd_T39 aa ab).f0))) (fun _ hk => hk.2) (.int .i64 ((rd_T39 aa ab).f1))) (fun _ hk => hk.2) (.string ((rd_T39 aa ab).f2))) (fun _ hk => hk.2) (.string ((rd_T39 aa ab).f3))) (fun _ hk => hk.2) (.string ((rd_T39 aa ab).f4.f0))) (fun _ hk => hk.2) (.string ((rd_T39 aa ab).f4.f1))) (fun _ hk => hk.2) (.bool ((rd_T39 aa ab).f4.f2))) (fun _ hk => hk.2) (.int .i64 ((rd_T39 aa ab).f5))) (fun _ hk => hk.2) (.bool ((rd_T39 aa ab).f6))) (fun _ hk => ⟨hk.1.1.1, ⟨hk.1.1.2.1, ⟨hk.1.1.2.2, hk.1.2⟩⟩⟩)⟩, ⟨by (with_reducible repeat (first | apply Ra_ | apply Rn_ | apply Rd_)); exact Kd.R_mono (Kd.R_far (p := ⟨af, 8, none⟩) (Kd.R_far (p := ⟨af, 7, none⟩) (Kd.R_far (p := ⟨af, 6, none⟩) (Kd.R_far (p := ⟨af, 5, none⟩) (Kd.R_far (p := ⟨af, 4, none⟩) (Kd.R_far (p := ⟨af, 3, none⟩) (Kd.R_far (p := ⟨af, 2, none⟩) (Kd.R_far (p := ⟨af, 1, none⟩) (Kd.R_far (p := ⟨af, 0, none⟩) (Kd.R_types ap.out ac.out (by decide)) (fun _ hk => hk.2) (.int .i64 ((rd_T39 aa ab).f0))) (fun _ hk => hk.2) (.int .i64 ((rd_T39 aa ab).f1))) (fun _ hk => hk.2) (.string ((rd_T39 aa ab).f2))) (fun _ hk => hk.2) (.string ((rd_T39 aa ab).f3))) (fun _ hk => hk.2) (.string ((rd_T39 aa ab).f4.f0))) (fun _ hk => hk.2) (.string ((rd_T39 aa ab).f4.f1))) (fun _ hk => hk.2) (.bool ((rd_T39 aa ab).f4.f2))) (fun _ hk => hk.2) (.int .i64 ((rd_T39 aa ab).f5))) (fun _ hk => hk.2) (.bool ((rd_T39 aa ab).f6))) (fun _ hk => hk.1)⟩, ⟨by (with_reducible repeat (first | apply Kd.V_alloc | apply Kd.V_drewN | apply Kd.V_drew)); exact Kd.V_mono (Kd.V_far (p := ⟨af, 8, none⟩) (Kd.V_far (p := ⟨af, 7, none⟩) (Kd.V_far (p := ⟨af, 6, none⟩) (Kd.V_far (p := ⟨af, 5, none⟩) (Kd.V_far (p := ⟨af, 4, none⟩) (Kd.V_far (p := ⟨af, 3, none⟩) (Kd.V_far (p := ⟨af, 2, none⟩) (Kd.V_far (p := ⟨af, 1, none⟩) (Kd.V_far (p := ⟨af, 0, none⟩) (Kd.V_mono ad.out (fun k_ hk => (⟨hk, hk.2⟩ : _ ∧ k_ ≠ af))) (fun _ hk => hk.2) (.int .i64 ((rd_T39 aa ab).f0))) (fun _ hk => hk.2) (.int .i64 ((rd_T39 aa ab).f1))) (fun _ hk => hk.2) (.string ((rd_T39 aa ab).f2))) (fun _ hk => hk.2) (.string ((rd_T39 aa ab).f3))) (fun _ hk => hk.2) (.string ((rd_T39 aa ab).f4.f0))) (fun _ hk => hk.2) (.string ((rd_T39 aa ab).f4.f1))) (fun _ hk => hk.2) (.bool ((rd_T39 aa ab).f4.f2))) (fun _ hk => hk.2) (.int .i64 ((rd_T39 aa ab).f5))) (fun _ hk => hk.2) (.bool ((rd_T39 aa ab).f6))) (fun _ hk => ⟨hk.1.1.1, ⟨hk.1.1.2.1, ⟨hk.1.1.2.2.1, ⟨hk.1.1.2.2.2, hk.1.2⟩⟩⟩⟩)⟩, ⟨by (with_reducible repeat (first | refine bN_ ?_ _ | refine bD_ ?_ | refine bA_ ?_ _)); refine blk_far ?_ NB179_195.out _; (with_reducible repeat (first | refine bN_ ?_ _ | refine bD_ ?_ | refine bA_ ?_ _)); refine blk_far ?_ NB179_195.out _; (with_reducible repeat (first | refine bN_ ?_ _ | refine bD_ ?_ | refine bA_ ?_ _)); refine blk_far ?_ NB179_195.out _; (with_reducible repeat (first | refine bN_ ?_ _ | refine bD_ ?_ | refine bA_ ?_ _)); refine blk_far ?_ NB179_195.out _; (with_reducible repeat (first | refine bN_ ?_ _ | refine bD_ ?_ | refine bA_ ?_ _)); refine blk_far ?_ NB179_195.out _; (with_reducible repeat (first | refine bN_ ?_ _ | refine bD_ ?_ | refine bA_ ?_ _)); refine blk_far ?_ NB179_195.out _; (with_reducible repeat (first | refine bN_ ?_ _ | refine bD_ ?_ | refine bA_ ?_ _)); refine blk_far ?_ NB179_195.out _; (with_reducible repeat (first | refine bN_ ?_ _ | refine bD_ ?_ | refine bA_ ?_ _)); refine blk_far ?_ NB179_195.out _; (with_reducible repeat (first | refine bN_ ?_ _ | refine bD_ ?_ | refine bA_ ?_ _)); refine blk_far ?_ NB179_195.out _; (with_reducible repeat (first | refine bN_ ?_ _ | refine bD_ ?_ | refine bA_ ?_ _)); exact ae.out⟩, ⟨by (with_reducible repeat (first | refine bN_ ?_ _ | refine bD_ ?_ | refine bA_ ?_ _)); refine blk_put (cs := #[.int .i64 ((rd_T39 aa ab).f0), .int .i64 ((rd_T39 aa ab).f1), .string ((rd_T39 aa ab).f2), .string ((rd_T39 aa ab).f3), .string ((rd_T39 aa ab).f4.f0), .string ((rd_T39 aa ab).f4.f1), .bool ((rd_T39 aa ab).f4.f2), .int .i64 ((rd_T39 aa ab).f5), .bool false]) ?_ 8 _ rfl; (with_reducible repeat (first | refine bN_ ?_ _ | refine bD_ ?_ | refine bA_ ?_ _)); refine blk_put (cs := #[.int .i64 ((rd_T39 aa ab).f0), .int .i64 ((rd_T39 aa ab).f1), .string ((rd_T39 aa ab).f2), .string ((rd_T39 aa ab).f3), .string ((rd_T39 aa ab).f4.f0), .string ((rd_T39 aa ab).f4.f1), .bool ((rd_T39 aa ab).f4.f2), .int .i64 0, .bool false]) ?_ 7 _ rfl; (with_reducible repeat (first | refine bN_ ?_ _ | refine bD_ ?_ | refine bA_ ?_ _)); refine blk_put (cs := #[.int .i64 ((rd_T39 aa ab).f0), .int .i64 ((rd_T39 aa ab).f1), .string ((rd_T39 aa ab).f2), .string ((rd_T39 aa ab).f3), .string ((rd_T39 aa ab).f4.f0), .string ((rd_T39 aa ab).f4.f1), .bool false, .int .i64 0, .bool false]) ?_ 6 _ rfl; (with_reducible repeat (first | refine bN_ ?_ _ | refine bD_ ?_ | refine bA_ ?_ _)); refine blk_put (cs := #[.int .i64 ((rd_T39 aa ab).f0), .int .i64 ((rd_T39 aa ab).f1), .string ((rd_T39 aa ab).f2), .string ((rd_T39 aa ab).f3), .string ((rd_T39 aa ab).f4.f0), .string (⟨#[]⟩ : ByteArray), .bool false, .int .i64 0, .bool false]) ?_ 5 _ rfl; (with_reducible repeat (first | refine bN_ ?_ _ | refine bD_ ?_ | refine bA_ ?_ _)); refine blk_put (cs := #[.int .i64 ((rd_T39 aa ab).f0), .int .i64 ((rd_T39 aa ab).f1), .string ((rd_T39 aa ab).f2), .string ((rd_T39 aa ab).f3), .string (⟨#[]⟩ : ByteArray), .string (⟨#[]⟩ : ByteArray), .bool false, .int .i64 0, .bool false]) ?_ 4 _ rfl; (with_reducible repeat (first | refine bN_ ?_ _ | refine bD_ ?_ | refine bA_ ?_ _)); refine blk_put (cs := #[.int .i64 ((rd_T39 aa ab).f0), .int .i64 ((rd_T39 aa ab).f1), .string ((rd_T39 aa ab).f2), .string (⟨#[]⟩ : ByteArray), .string (⟨#[]⟩ : ByteArray), .string (⟨#[]⟩ : ByteArray), .bool false, .int .i64 0, .bool false]) ?_ 3 _ rfl; (with_reducible repeat (first | refine bN_ ?_ _ | refine bD_ ?_ | refine bA_ ?_ _)); refine blk_put (cs := #[.int .i64 ((rd_T39 aa ab).f0), .int .i64 ((rd_T39 aa ab).f1), .string (⟨#[]⟩ : ByteArray), .string (⟨#[]⟩ : ByteArray), .string (⟨#[]⟩ : ByteArray), .string (⟨#[]⟩ : ByteArray), .bool false, .int .i64 0, .bool false]) ?_ 2 _ rfl; (with_reducible repeat (first | refine bN_ ?_ _ | refine bD_ ?_ | refine bA_ ?_ _)); refine blk_put (cs := #[.int .i64 ((rd_T39 aa ab).f0), .int .i64 0, .string (⟨#[]⟩ : ByteArray), .string (⟨#[]⟩ : ByteArray), .string (⟨#[]⟩ : ByteArray), .string (⟨#[]⟩ : ByteArray), .bool false, .int .i64 0, .bool false]) ?_ 1 _ rfl; (with_reducible repeat (first | refine bN_ ?_ _ | refine bD_ ?_ | refine bA_ ?_ _)); refine blk_put (cs := #[.int .i64 0, .int .i64 0, .string (⟨#[]⟩ : ByteArray), .string (⟨#[]⟩ : ByteArray), .string (⟨#[]⟩ : ByteArray), .string (⟨#[]⟩ : ByteArray), .bool false, .int .i64 0, .bool false]) ?_ 0 _ rfl; (with_reducible repeat (first | refine bN_ ?_ _ | refine bD_ ?_ | refine bA_ ?_ _)); exact ac.out⟩, ⟨by repeat (first | (with_reducible first | exact HB.out | apply bL_ | apply pN_ | apply b1_ | refine bs_ ?_ GE179.out | refine bs_ ?_ GE195.out) | exact HB.out)⟩⟩
   clear H'
   try clear c1
   try clear p1
   try clear q1
   try clear hx1
   try clear c2
   try clear p2
   try clear c3
   try clear c7
   try clear c8
   try clear c15
   try clear p19
   try clear q19
   try clear hx19
   try clear c21
   try clear c21b0
   try clear c24
   try clear c25
   try clear c25b0
   try clear c26
   try clear c26b0
   try clear c29
   try clear hcz10_0 hcz10_1 hcz10_2 hfz10_0 hfz10_1 hfz10_2
   try clear hcz14_0 hcz14_1 hcz14_2 hfz14_0 hfz14_1 hfz14_2
   try clear hcz18_0 hcz18_1 hcz18_2 hfz18_0 hfz18_1 hfz18_2
   try clear hcz22_0 hcz22_1 hcz22_2 hfz22_0 hfz22_1 hfz22_2
   try clear hcz23_0 hcz23_1 hcz23_2 hfz23_0 hfz23_1 hfz23_2
   try clear hcz27_0 hcz27_1 hcz27_2 hfz27_0 hfz27_1 hfz27_2
   try clear hcz30_0 hcz30_1 hcz30_2 hcz30_3 hcz30_4 hcz30_5 hcz30_6 hcz30_7 hcz30_8 hfz30_0 hfz30_1 hfz30_2 hfz30_3 hfz30_4 hfz30_5 hfz30_6 hfz30_7 hfz30_8
   try clear hcz5_0 hcz5_1 hcz5_2 hfz5_0 hfz5_1 hfz5_2
   try clear hx194_0 hx194_1 hx194_2 hx194_3 hx194_4 hx194_5 hx194_6 hx194_7 hx194_8
   try clear p194
   try clear p2
   try clear q194
   obtain ⟨x7_3, rfl, HA, HK3, ak, ap, ad, ae, ac, HB⟩ := hrel
   cases gk with
   | zero => exact absurd HA.out (by simp [quorumlaw12_PlanLocks.l1])
   | succ k3 =>
    have H := HA.out
    clear HA
    simp only [quorumlaw12_PlanLocks.l1] at H
    by_cases c31 : x7_3 ≤ 5
    ·rw [if_pos c31] at H
     have c31b0 : decide (x7_3 ≤ 5) = true := decide_eq_true c31
     clear c31
     have HC32 := mk0 H
     clear H
     go_upto_region 12 with (fail)
     go_cut [8] (fun v8 wc => ∃ (kq : Nat) (x8_31 : Bool), v8 = .bool x8_31 ∧ Aside0 (quorumlaw12_PlanLocks.j3 kq ai y190 ab x7_3 x8_31 aa aj ao ((rd_T39 aa ab).f0) ((rd_T39 aa ab).f1) ((rd_T39 aa ab).f2) ((rd_T39 aa ab).f3) ((rd_T39 aa ab).f4.f0) ((rd_T39 aa ab).f4.f1) ((rd_T39 aa ab).f4.f2) ((rd_T39 aa ab).f5) ((rd_T39 aa ab).f6) = some r) ∧ Aside0 (kq ≤ k3) ∧ Aside0 (Kd.N k31 31 wc w.heap.size (fun k_ => (P0_1_ k_ ∨ w.heap.size ≤ k_) ∧ some k_ ≠ (v191 : Value).ownBlock ∧ k_ ≠ ag ∧ k_ ≠ af) v185 ai) ∧ Aside0 (Kd.R (Kd.int .i64) 3 wc w.heap.size (fun k_ => (w.heap.size ≤ k_)) v191 y190) ∧ Aside0 (Kd.V k31 31 wc w.heap.size (fun k_ => (P0_1_ k_ ∨ w.heap.size ≤ k_) ∧ some k_ ≠ (v185 : Value).ownBlock ∧ some k_ ≠ (v191 : Value).ownBlock ∧ k_ ≠ ag ∧ k_ ≠ af) (.slice A0_1 aj.length c0_1) aj) ∧ Aside0 (wc.heap[ag]? = some (.cells #[(.slice (some ad194) aa.length c0_0), (.slice A0_1 aj.length c0_1), (.slice A0_2 ao.length c0_2)] 26 (0, 0))) ∧ Aside0 (wc.heap[af]? = some (.cells #[.int .i64 ((rd_T39 aa ab).f0), .int .i64 ((rd_T39 aa ab).f1), .string ((rd_T39 aa ab).f2), .string ((rd_T39 aa ab).f3), .string ((rd_T39 aa ab).f4.f0), .string ((rd_T39 aa ab).f4.f1), .bool ((rd_T39 aa ab).f4.f2), .int .i64 ((rd_T39 aa ab).f5), .bool ((rd_T39 aa ab).f6)] 39 (0, 0))) ∧ Aside0 (Below w.heap.size w wc))
     case first =>
      have H := HC32.out
      clear HC32
      replace H := Option.bind_eq_some_iff.mp H
      obtain ⟨t196, A330, H⟩ := H
      replace H : (if t196 = true then ((quorumref12_Op.f ((rd_T39 aa ab).f0) ((rd_T39 aa ab).f1) ((rd_T39 aa ab).f2) ((rd_T39 aa ab).f3) ((rd_T39 aa ab).f4.f0) ((rd_T39 aa ab).f4.f1) ((rd_T39 aa ab).f4.f2) ((rd_T39 aa ab).f5) ((rd_T39 aa ab).f6) x7_3).bind fun t197 => (quorumlaw12_PlanLocks.j3 k3 ai y190 ab x7_3 t197 aa aj ao ((rd_T39 aa ab).f0) ((rd_T39 aa ab).f1) ((rd_T39 aa ab).f2) ((rd_T39 aa ab).f3) ((rd_T39 aa ab).f4.f0) ((rd_T39 aa ab).f4.f1) ((rd_T39 aa ab).f4.f2) ((rd_T39 aa ab).f5) ((rd_T39 aa ab).f6))) else (quorumlaw12_PlanLocks.j3 k3 ai y190 ab x7_3 false aa aj ao ((rd_T39 aa ab).f0) ((rd_T39 aa ab).f1) ((rd_T39 aa ab).f2) ((rd_T39 aa ab).f3) ((rd_T39 aa ab).f4.f0) ((rd_T39 aa ab).f4.f1) ((rd_T39 aa ab).f4.f2) ((rd_T39 aa ab).f5) ((rd_T39 aa ab).f6))) = some r := H
      have A33 := mk0 A330
      clear A330
      by_cases c34 : t196 = true
      rotate_left
      ·replace c34 := Bool.eq_false_iff.mpr c34
       subst c34
       have H1 : (quorumlaw12_PlanLocks.j3 k3 ai y190 ab x7_3 false aa aj ao ((rd_T39 aa ab).f0) ((rd_T39 aa ab).f1) ((rd_T39 aa ab).f2) ((rd_T39 aa ab).f3) ((rd_T39 aa ab).f4.f0) ((rd_T39 aa ab).f4.f1) ((rd_T39 aa ab).f4.f2) ((rd_T39 aa ab).f5) ((rd_T39 aa ab).f6)) = some r := by rw [if_neg (show ¬ (false = true) by decide)] at H; exact H
       clear H
       have H := H1
       clear H1
       have H' := mk0 H
       clear H
       go_wp2_with (first | ((with_reducible refine gate_callee (f := 51) rfl ?_); refine goesL_ (some 48) rfl rfl Try.func51 (by kernel_rfl) rfl #[.int .i64 x7_3, .int .i64 1, .int .i64 3] rfl (by (try simp only [List.map_toArray, List.map_cons, List.map_nil]); first | done | rfl | (simp only [List.length_drop, List.length_take]; rfl)) ?_; (with_reducible refine (quorumref0_Between.calls x7_3 1 3 false _ A33.out).mono ?_); rintro e w' ⟨rfl, ⟨nd, rfl⟩⟩; refine ⟨_, rfl, ?_⟩))
       go_meet
       case rel => exact ⟨_, (false), (by first | rfl | (simp; done) | (simp [*]; done)), H', ⟨by have := HK1.out; have := HJ19.out; have := HK3.out; first | omega | exact Nat.le_refl _⟩, ⟨by (with_reducible repeat (first | apply Kd.N_alloc | apply Kd.N_drewN | apply Kd.N_drew)); exact ak.out⟩, ⟨by (with_reducible repeat (first | apply Ra_ | apply Rn_ | apply Rd_)); exact ap.out⟩, ⟨by (with_reducible repeat (first | apply Kd.V_alloc | apply Kd.V_drewN | apply Kd.V_drew)); exact ad.out⟩, ⟨by (with_reducible repeat (first | refine bN_ ?_ _ | refine bD_ ?_ | refine bA_ ?_ _)); exact ae.out⟩, ⟨by (with_reducible repeat (first | refine bN_ ?_ _ | refine bD_ ?_ | refine bA_ ?_ _)); exact ac.out⟩, ⟨by repeat (first | (with_reducible first | exact HB.out | apply bL_ | apply pN_ | apply b1_ | refine bs_ ?_ GE179.out | refine bs_ ?_ GE195.out) | exact HB.out)⟩⟩
      subst c34
      have H1 : ((quorumref12_Op.f ((rd_T39 aa ab).f0) ((rd_T39 aa ab).f1) ((rd_T39 aa ab).f2) ((rd_T39 aa ab).f3) ((rd_T39 aa ab).f4.f0) ((rd_T39 aa ab).f4.f1) ((rd_T39 aa ab).f4.f2) ((rd_T39 aa ab).f5) ((rd_T39 aa ab).f6) x7_3).bind fun t197 => (quorumlaw12_PlanLocks.j3 k3 ai y190 ab x7_3 t197 aa aj ao ((rd_T39 aa ab).f0) ((rd_T39 aa ab).f1) ((rd_T39 aa ab).f2) ((rd_T39 aa ab).f3) ((rd_T39 aa ab).f4.f0) ((rd_T39 aa ab).f4.f1) ((rd_T39 aa ab).f4.f2) ((rd_T39 aa ab).f5) ((rd_T39 aa ab).f6))) = some r := by rw [if_pos rfl] at H; exact H
      clear H
      have H := H1
      clear H1
      replace H := Option.bind_eq_some_iff.mp H
      obtain ⟨t197, A350, H⟩ := H
      replace H : (quorumlaw12_PlanLocks.j3 k3 ai y190 ab x7_3 t197 aa aj ao ((rd_T39 aa ab).f0) ((rd_T39 aa ab).f1) ((rd_T39 aa ab).f2) ((rd_T39 aa ab).f3) ((rd_T39 aa ab).f4.f0) ((rd_T39 aa ab).f4.f1) ((rd_T39 aa ab).f4.f2) ((rd_T39 aa ab).f5) ((rd_T39 aa ab).f6)) = some r := H
      have A35 := mk0 A350
      clear A350
      have H' := mk0 H
      clear H
      go_wp2_with (first | ((with_reducible refine gate_callee (f := 51) rfl ?_); refine goesL_ (some 48) rfl rfl Try.func51 (by kernel_rfl) rfl #[.int .i64 x7_3, .int .i64 1, .int .i64 3] rfl (by (try simp only [List.map_toArray, List.map_cons, List.map_nil]); first | done | rfl | (simp only [List.length_drop, List.length_take]; rfl)) ?_; (with_reducible refine (quorumref0_Between.calls x7_3 1 3 true _ A33.out).mono ?_); rintro e w' ⟨rfl, ⟨nd, rfl⟩⟩; refine ⟨_, rfl, ?_⟩; have hnb36 := NB195_179.out; have hnc36 := NB179_195.out; have hcz37_0 : wr.cell? ⟨af, 0, none⟩ = some (.int .i64 ((rd_T39 aa ab).f0)) := (blk_cell ac.out 0).trans rfl; have hcz37_1 : wr.cell? ⟨af, 1, none⟩ = some (.int .i64 ((rd_T39 aa ab).f1)) := (blk_cell ac.out 1).trans rfl; have hcz37_2 : wr.cell? ⟨af, 2, none⟩ = some (.string ((rd_T39 aa ab).f2)) := (blk_cell ac.out 2).trans rfl; have hcz37_3 : wr.cell? ⟨af, 3, none⟩ = some (.string ((rd_T39 aa ab).f3)) := (blk_cell ac.out 3).trans rfl; have hcz37_4 : wr.cell? ⟨af, 4, none⟩ = some (.string ((rd_T39 aa ab).f4.f0)) := (blk_cell ac.out 4).trans rfl; have hcz37_5 : wr.cell? ⟨af, 5, none⟩ = some (.string ((rd_T39 aa ab).f4.f1)) := (blk_cell ac.out 5).trans rfl; have hcz37_6 : wr.cell? ⟨af, 6, none⟩ = some (.bool ((rd_T39 aa ab).f4.f2)) := (blk_cell ac.out 6).trans rfl; have hcz37_7 : wr.cell? ⟨af, 7, none⟩ = some (.int .i64 ((rd_T39 aa ab).f5)) := (blk_cell ac.out 7).trans rfl; have hcz37_8 : wr.cell? ⟨af, 8, none⟩ = some (.bool ((rd_T39 aa ab).f6)) := (blk_cell ac.out 8).trans rfl; have hfz37_0 := blk_frozen ac.out 0; have hfz37_1 := blk_frozen ac.out 1; have hfz37_2 := blk_frozen ac.out 2; have hfz37_3 := blk_frozen ac.out 3; have hfz37_4 := blk_frozen ac.out 4; have hfz37_5 := blk_frozen ac.out 5; have hfz37_6 := blk_frozen ac.out 6; have hfz37_7 := blk_frozen ac.out 7; have hfz37_8 := blk_frozen ac.out 8) | (go_at_call 52; (with_reducible refine (quorumref12_Op.calls ((rd_T39 aa ab).f0) ((rd_T39 aa ab).f1) ((rd_T39 aa ab).f2) ((rd_T39 aa ab).f3) ((rd_T39 aa ab).f4.f0) ((rd_T39 aa ab).f4.f1) ((rd_T39 aa ab).f4.f2) ((rd_T39 aa ab).f5) ((rd_T39 aa ab).f6) x7_3 t197 _ A35.out).mono ?_); rintro e w38 ⟨rfl, hb⟩; have n0_ := mk0 (Kd.N_below (by (with_reducible repeat (first | apply Kd.N_alloc | apply Kd.N_drewN | apply Kd.N_drew)); exact ak.out) hb); have n1_ := mk0 (Kd.R_below (by (with_reducible repeat (first | apply Ra_ | apply Rn_ | apply Rd_)); exact ap.out) hb); have n2_ := mk0 (Kd.V_below (by (with_reducible repeat (first | apply Kd.V_alloc | apply Kd.V_drewN | apply Kd.V_drew)); exact ad.out) hb); have n3_ := mk0 (blk_below (g := ag) (o := .cells #[.slice (some ad194) aa.length c0_0, .slice A0_1 aj.length c0_1, .slice A0_2 ao.length c0_2] 26 (0, 0)) (by (with_reducible repeat (first | refine bN_ ?_ _ | refine bD_ ?_ | refine bA_ ?_ _)); exact ae.out) hb); have n4_ := mk0 (blk_below (g := af) (o := .cells #[.int .i64 ((rd_T39 aa ab).f0), .int .i64 ((rd_T39 aa ab).f1), .string ((rd_T39 aa ab).f2), .string ((rd_T39 aa ab).f3), .string ((rd_T39 aa ab).f4.f0), .string ((rd_T39 aa ab).f4.f1), .bool ((rd_T39 aa ab).f4.f2), .int .i64 ((rd_T39 aa ab).f5), .bool ((rd_T39 aa ab).f6)] 39 (0, 0)) (by (with_reducible repeat (first | refine bN_ ?_ _ | refine bD_ ?_ | refine bA_ ?_ _)); exact ac.out) hb); have n5_ := mk0 (bt_ (by repeat (first | (with_reducible first | exact HB.out | apply bL_ | apply pN_ | apply b1_ | refine bs_ ?_ GE179.out | refine bs_ ?_ GE195.out) | exact HB.out)) hb); clear ak; clear ap; clear ad; clear ae; clear ac; clear HB; have ak := n0_; have ap := n1_; have ad := n2_; have ae := n3_; have ac := n4_; have HB := n5_; clear n0_ n1_ n2_ n3_ n4_ n5_; (try clear hb); (try clear hb2); (try clear hk); (try clear hi)))
      go_meet
      case rel => exact ⟨_, (t197), (by first | rfl | (simp; done) | (simp [*]; done)), H', ⟨by have := HK1.out; have := HJ19.out; have := HK3.out; first | omega | exact Nat.le_refl _⟩, ⟨by (with_reducible repeat (first | apply Kd.N_alloc | apply Kd.N_drewN | apply Kd.N_drew)); exact ak.out⟩, ⟨by (with_reducible repeat (first | apply Ra_ | apply Rn_ | apply Rd_)); exact ap.out⟩, ⟨by (with_reducible repeat (first | apply Kd.V_alloc | apply Kd.V_drewN | apply Kd.V_drew)); exact ad.out⟩, ⟨by (with_reducible repeat (first | refine bN_ ?_ _ | refine bD_ ?_ | refine bA_ ?_ _)); exact ae.out⟩, ⟨by (with_reducible repeat (first | refine bN_ ?_ _ | refine bD_ ?_ | refine bA_ ?_ _)); exact ac.out⟩, ⟨by repeat (first | (with_reducible first | exact HB.out | apply bL_ | apply pN_ | apply b1_ | refine bs_ ?_ GE179.out | refine bs_ ?_ GE195.out) | exact HB.out)⟩⟩
     clear HC32
     try clear c1
     try clear p1
     try clear q1
     try clear hx1
     try clear c2
     try clear p2
     try clear c3
     try clear c5
     try clear c7
     try clear c8
     try clear c15
     try clear p19
     try clear q19
     try clear hx19
     try clear c21
     try clear c21b0
     try clear c24
     try clear c25
     try clear c25b0
     try clear c26
     try clear c26b0
     try clear c29
     try clear c31
     try clear c31b0
     try clear c34
     try clear c36
     try clear hcz10_0 hcz10_1 hcz10_2 hfz10_0 hfz10_1 hfz10_2
     try clear hcz14_0 hcz14_1 hcz14_2 hfz14_0 hfz14_1 hfz14_2
     try clear hcz18_0 hcz18_1 hcz18_2 hfz18_0 hfz18_1 hfz18_2
     try clear hcz22_0 hcz22_1 hcz22_2 hfz22_0 hfz22_1 hfz22_2
     try clear hcz23_0 hcz23_1 hcz23_2 hfz23_0 hfz23_1 hfz23_2
     try clear hcz27_0 hcz27_1 hcz27_2 hfz27_0 hfz27_1 hfz27_2
     try clear hcz30_0 hcz30_1 hcz30_2 hcz30_3 hcz30_4 hcz30_5 hcz30_6 hcz30_7 hcz30_8 hfz30_0 hfz30_1 hfz30_2 hfz30_3 hfz30_4 hfz30_5 hfz30_6 hfz30_7 hfz30_8
     try clear hcz37_0 hcz37_1 hcz37_2 hcz37_3 hcz37_4 hcz37_5 hcz37_6 hcz37_7 hcz37_8 hfz37_0 hfz37_1 hfz37_2 hfz37_3 hfz37_4 hfz37_5 hfz37_6 hfz37_7 hfz37_8
     try clear hcz5_0 hcz5_1 hcz5_2 hfz5_0 hfz5_1 hfz5_2
     try clear hx194_0 hx194_1 hx194_2 hx194_3 hx194_4 hx194_5 hx194_6 hx194_7 hx194_8
     try clear p1
     try clear p19
     try clear p194
     try clear p2
     try clear q1
     try clear q19
     try clear q194
     obtain ⟨kq, x8_31, rfl, HA, HJ31, ak, ap, ad, ae, ac, HB⟩ := hcut
     cases kq with
     | zero => exact absurd HA.out (by simp [quorumlaw12_PlanLocks.j3])
     | succ kj31 =>
      have H := HA.out
      clear HA
      simp only [quorumlaw12_PlanLocks.j3] at H
      replace H := Option.bind_eq_some_iff.mp H
      obtain ⟨t198, A390, H⟩ := H
      replace H : ((quorumlaw12_num.f t198).bind fun t199 => (if ((t199 == 0) != x8_31) = true then (some false) else (quorumlaw12_PlanLocks.l1 kj31 ai y190 ab (wrap64 (x7_3 + 1)) aa aj ao ((rd_T39 aa ab).f0) ((rd_T39 aa ab).f1) ((rd_T39 aa ab).f2) ((rd_T39 aa ab).f3) ((rd_T39 aa ab).f4.f0) ((rd_T39 aa ab).f4.f1) ((rd_T39 aa ab).f4.f2) ((rd_T39 aa ab).f5) ((rd_T39 aa ab).f6)))) = some r := H
      have A39 := mk0 A390
      clear A390
      replace H := Option.bind_eq_some_iff.mp H
      obtain ⟨t199, A400, H⟩ := H
      replace H : (if ((t199 == 0) != x8_31) = true then (some false) else (quorumlaw12_PlanLocks.l1 kj31 ai y190 ab (wrap64 (x7_3 + 1)) aa aj ao ((rd_T39 aa ab).f0) ((rd_T39 aa ab).f1) ((rd_T39 aa ab).f2) ((rd_T39 aa ab).f3) ((rd_T39 aa ab).f4.f0) ((rd_T39 aa ab).f4.f1) ((rd_T39 aa ab).f4.f2) ((rd_T39 aa ab).f5) ((rd_T39 aa ab).f6))) = some r := H
      have A40 := mk0 A400
      clear A400
      by_cases c41 : ((t199 == 0) != x8_31) = true
      focus
       rw [if_pos c41] at H
       have c41b0 : ((t199 == 0) != x8_31) = true := c41
       (try (have c41b1 : decide ((t199 == 0) = x8_31) = false := by simpa using c41))
       (try (have c41b2 : ((t199 == 0) == x8_31) = false := by simpa using c41))
       (try (have c41b3 : ¬ ((t199 == 0) = x8_31) := by simpa using c41))
       clear c41
       obtain rfl := Option.some.inj H
       have hnb42 := NB195_179.out
       have hnc42 := NB179_195.out
       have hcz43_0 : wc.cell? ⟨af, 0, none⟩ = some (.int .i64 ((rd_T39 aa ab).f0)) := (blk_cell ac.out 0).trans rfl
       have hcz43_1 : wc.cell? ⟨af, 1, none⟩ = some (.int .i64 ((rd_T39 aa ab).f1)) := (blk_cell ac.out 1).trans rfl
       have hcz43_2 : wc.cell? ⟨af, 2, none⟩ = some (.string ((rd_T39 aa ab).f2)) := (blk_cell ac.out 2).trans rfl
       have hcz43_3 : wc.cell? ⟨af, 3, none⟩ = some (.string ((rd_T39 aa ab).f3)) := (blk_cell ac.out 3).trans rfl
       have hcz43_4 : wc.cell? ⟨af, 4, none⟩ = some (.string ((rd_T39 aa ab).f4.f0)) := (blk_cell ac.out 4).trans rfl
       have hcz43_5 : wc.cell? ⟨af, 5, none⟩ = some (.string ((rd_T39 aa ab).f4.f1)) := (blk_cell ac.out 5).trans rfl
       have hcz43_6 : wc.cell? ⟨af, 6, none⟩ = some (.bool ((rd_T39 aa ab).f4.f2)) := (blk_cell ac.out 6).trans rfl
       have hcz43_7 : wc.cell? ⟨af, 7, none⟩ = some (.int .i64 ((rd_T39 aa ab).f5)) := (blk_cell ac.out 7).trans rfl
       have hcz43_8 : wc.cell? ⟨af, 8, none⟩ = some (.bool ((rd_T39 aa ab).f6)) := (blk_cell ac.out 8).trans rfl
       have hfz43_0 := blk_frozen ac.out 0
       have hfz43_1 := blk_frozen ac.out 1
       have hfz43_2 := blk_frozen ac.out 2
       have hfz43_3 := blk_frozen ac.out 3
       have hfz43_4 := blk_frozen ac.out 4
       have hfz43_5 := blk_frozen ac.out 5
       have hfz43_6 := blk_frozen ac.out 6
       have hfz43_7 := blk_frozen ac.out 7
       have hfz43_8 := blk_frozen ac.out 8
      rotate_left 1
      focus
       rw [if_neg c41] at H
       have c41b0 : ((t199 == 0) != x8_31) = false := by simpa using c41
       (try (have c41b1 : decide ((t199 == 0) = x8_31) = true := by simpa using c41))
       (try (have c41b2 : ((t199 == 0) == x8_31) = true := by simpa using c41))
       clear c41
       have H' := mk0 H
       clear H
       have hnb45 := NB195_179.out
       have hnc45 := NB179_195.out
       have hcz46_0 : wc.cell? ⟨af, 0, none⟩ = some (.int .i64 ((rd_T39 aa ab).f0)) := (blk_cell ac.out 0).trans rfl
       have hcz46_1 : wc.cell? ⟨af, 1, none⟩ = some (.int .i64 ((rd_T39 aa ab).f1)) := (blk_cell ac.out 1).trans rfl
       have hcz46_2 : wc.cell? ⟨af, 2, none⟩ = some (.string ((rd_T39 aa ab).f2)) := (blk_cell ac.out 2).trans rfl
       have hcz46_3 : wc.cell? ⟨af, 3, none⟩ = some (.string ((rd_T39 aa ab).f3)) := (blk_cell ac.out 3).trans rfl
       have hcz46_4 : wc.cell? ⟨af, 4, none⟩ = some (.string ((rd_T39 aa ab).f4.f0)) := (blk_cell ac.out 4).trans rfl
       have hcz46_5 : wc.cell? ⟨af, 5, none⟩ = some (.string ((rd_T39 aa ab).f4.f1)) := (blk_cell ac.out 5).trans rfl
       have hcz46_6 : wc.cell? ⟨af, 6, none⟩ = some (.bool ((rd_T39 aa ab).f4.f2)) := (blk_cell ac.out 6).trans rfl
       have hcz46_7 : wc.cell? ⟨af, 7, none⟩ = some (.int .i64 ((rd_T39 aa ab).f5)) := (blk_cell ac.out 7).trans rfl
       have hcz46_8 : wc.cell? ⟨af, 8, none⟩ = some (.bool ((rd_T39 aa ab).f6)) := (blk_cell ac.out 8).trans rfl
       have hfz46_0 := blk_frozen ac.out 0
       have hfz46_1 := blk_frozen ac.out 1
       have hfz46_2 := blk_frozen ac.out 2
       have hfz46_3 := blk_frozen ac.out 3
       have hfz46_4 := blk_frozen ac.out 4
       have hfz46_5 := blk_frozen ac.out 5
       have hfz46_6 := blk_frozen ac.out 6
       have hfz46_7 := blk_frozen ac.out 7
       have hfz46_8 := blk_frozen ac.out 8
      rotate_right 1
      all_goals go_wp2_with (first | ((with_reducible refine gate_callee (f := 53) rfl ?_); refine goesL_ (some 56) rfl rfl Try.func53 (by kernel_rfl) rfl #[.agg #[.int .i64 ((rd_T39 aa ab).f0), .int .i64 ((rd_T39 aa ab).f1), .string ((rd_T39 aa ab).f2), .string ((rd_T39 aa ab).f3), .string ((rd_T39 aa ab).f4.f0), .string ((rd_T39 aa ab).f4.f1), .bool ((rd_T39 aa ab).f4.f2), .int .i64 ((rd_T39 aa ab).f5), .bool ((rd_T39 aa ab).f6)], .int .i64 x7_3] rfl (by (try simp only [List.map_toArray, List.map_cons, List.map_nil]); first | done | rfl | (simp only [List.length_drop, List.length_take]; rfl)) ?_; (with_reducible refine (plan_Check.calls ((rd_T39 aa ab).f0) ((rd_T39 aa ab).f1) ((rd_T39 aa ab).f2) ((rd_T39 aa ab).f3) ((rd_T39 aa ab).f4.f0) ((rd_T39 aa ab).f4.f1) ((rd_T39 aa ab).f4.f2) ((rd_T39 aa ab).f5) ((rd_T39 aa ab).f6) x7_3 t198 _ A39.out).mono ?_); rintro e w44 ⟨rfl, hb⟩; refine ⟨_, rfl, ?_⟩; have n0_ := mk0 (Kd.N_below (by (with_reducible repeat (first | apply Kd.N_alloc | apply Kd.N_drewN | apply Kd.N_drew)); exact ak.out) hb); have n1_ := mk0 (Kd.R_below (by (with_reducible repeat (first | apply Ra_ | apply Rn_ | apply Rd_)); exact ap.out) hb); have n2_ := mk0 (Kd.V_below (by (with_reducible repeat (first | apply Kd.V_alloc | apply Kd.V_drewN | apply Kd.V_drew)); exact ad.out) hb); have n3_ := mk0 (blk_below (g := ag) (o := .cells #[.slice (some ad194) aa.length c0_0, .slice A0_1 aj.length c0_1, .slice A0_2 ao.length c0_2] 26 (0, 0)) (by (with_reducible repeat (first | refine bN_ ?_ _ | refine bD_ ?_ | refine bA_ ?_ _)); exact ae.out) hb); have n4_ := mk0 (blk_below (g := af) (o := .cells #[.int .i64 ((rd_T39 aa ab).f0), .int .i64 ((rd_T39 aa ab).f1), .string ((rd_T39 aa ab).f2), .string ((rd_T39 aa ab).f3), .string ((rd_T39 aa ab).f4.f0), .string ((rd_T39 aa ab).f4.f1), .bool ((rd_T39 aa ab).f4.f2), .int .i64 ((rd_T39 aa ab).f5), .bool ((rd_T39 aa ab).f6)] 39 (0, 0)) (by (with_reducible repeat (first | refine bN_ ?_ _ | refine bD_ ?_ | refine bA_ ?_ _)); exact ac.out) hb); have n5_ := mk0 (bt_ (by repeat (first | (with_reducible first | exact HB.out | apply bL_ | apply pN_ | apply b1_ | refine bs_ ?_ GE179.out | refine bs_ ?_ GE195.out) | exact HB.out)) hb); clear ak; clear ap; clear ad; clear ae; clear ac; clear HB; have ak := n0_; have ap := n1_; have ad := n2_; have ae := n3_; have ac := n4_; have HB := n5_; clear n0_ n1_ n2_ n3_ n4_ n5_; (try clear hb); (try clear hb2); (try clear hk); (try clear hi)) | ((with_reducible refine gate_callee (f := 18) rfl ?_); refine goesL_ (some 57) rfl rfl Try.func18 (by kernel_rfl) rfl #[.int .i64 t198] rfl (by (try simp only [List.map_toArray, List.map_cons, List.map_nil]); first | done | rfl | (simp only [List.length_drop, List.length_take]; rfl)) ?_; (with_reducible refine (quorumlaw12_num.calls t198 t199 _ A40.out).mono ?_); rintro e w' ⟨rfl, ⟨nd, rfl⟩⟩; refine ⟨_, rfl, ?_⟩))
      ·go_ret
       exact ⟨by first | rfl | (simp [errW_none, errW_some] <;> rfl) | (simp [*, errW_none, errW_some] <;> rfl), by repeat (first | (with_reducible first | exact HB.out | apply bL_ | apply pN_ | apply b1_ | refine bs_ ?_ GE179.out | refine bs_ ?_ GE195.out) | exact HB.out)⟩
      ·go_roundg kj31
       case measure => have := HK1.out; have := HJ19.out; have := HK3.out; have := HJ31.out; omega
       case rel => exact ⟨(wrap64 (x7_3 + 1)), (by first | rfl | (simp; done) | (simp [*]; done)), H', ⟨by have := HK1.out; have := HJ19.out; have := HK3.out; have := HJ31.out; omega⟩, ⟨by (with_reducible repeat (first | apply Kd.N_alloc | apply Kd.N_drewN | apply Kd.N_drew)); exact ak.out⟩, ⟨by (with_reducible repeat (first | apply Ra_ | apply Rn_ | apply Rd_)); exact ap.out⟩, ⟨by (with_reducible repeat (first | apply Kd.V_alloc | apply Kd.V_drewN | apply Kd.V_drew)); exact ad.out⟩, ⟨by (with_reducible repeat (first | refine bN_ ?_ _ | refine bD_ ?_ | refine bA_ ?_ _)); exact ae.out⟩, ⟨by (with_reducible repeat (first | refine bN_ ?_ _ | refine bD_ ?_ | refine bA_ ?_ _)); exact ac.out⟩, ⟨by repeat (first | (with_reducible first | exact HB.out | apply bL_ | apply pN_ | apply b1_ | refine bs_ ?_ GE179.out | refine bs_ ?_ GE195.out) | exact HB.out)⟩⟩
    rw [if_neg c31] at H
    have c31b0 : decide (x7_3 ≤ 5) = false := decide_eq_false c31
    clear c31
    replace H := Option.bind_eq_some_iff.mp H
    obtain ⟨t200, A480, H⟩ := H
    replace H : ((quorumref12_Writes.f ((rd_T39 aa ab).f0) ((rd_T39 aa ab).f1) ((rd_T39 aa ab).f2) ((rd_T39 aa ab).f3) ((rd_T39 aa ab).f4.f0) ((rd_T39 aa ab).f4.f1) ((rd_T39 aa ab).f4.f2) ((rd_T39 aa ab).f5) ((rd_T39 aa ab).f6)).bind fun t201 => (if (t200 != t201) = true then (some false) else (quorumlaw12_PlanLocks.l2 k3 ai y190 ab 0 aa aj ao ((rd_T39 aa ab).f0) ((rd_T39 aa ab).f1) ((rd_T39 aa ab).f2) ((rd_T39 aa ab).f3) ((rd_T39 aa ab).f4.f0) ((rd_T39 aa ab).f4.f1) ((rd_T39 aa ab).f4.f2) ((rd_T39 aa ab).f5) ((rd_T39 aa ab).f6)))) = some r := H
    have A48 := mk0 A480
    clear A480
    replace H := Option.bind_eq_some_iff.mp H
    obtain ⟨t201, A490, H⟩ := H
    replace H : (if (t200 != t201) = true then (some false) else (quorumlaw12_PlanLocks.l2 k3 ai y190 ab 0 aa aj ao ((rd_T39 aa ab).f0) ((rd_T39 aa ab).f1) ((rd_T39 aa ab).f2) ((rd_T39 aa ab).f3) ((rd_T39 aa ab).f4.f0) ((rd_T39 aa ab).f4.f1) ((rd_T39 aa ab).f4.f2) ((rd_T39 aa ab).f5) ((rd_T39 aa ab).f6))) = some r := H
    have A49 := mk0 A490
    clear A490
    by_cases c50 : (t200 != t201) = true
    ·rw [if_pos c50] at H
     have c50b0 : (t200 != t201) = true := c50
     (try (have c50b1 : decide (t200 = t201) = false := by simpa using c50))
     (try (have c50b2 : (t200 == t201) = false := by simpa using c50))
     (try (have c50b3 : ¬ (t200 = t201) := by simpa using c50))
     clear c50
     obtain rfl := Option.some.inj H
     try go_wp2
     have n0_ := mk0 (Kd.N_drew ak.out)
     have n1_ := mk0 (Rd_ ap.out)
     have n2_ := mk0 (Kd.V_drew ad.out)
     have n3_ := mk0 (bD_ ae.out)
     have n4_ := mk0 (bD_ ac.out)
     have n5_ := mk0 (b1_ HB.out)
     clear ak
     clear ap
     clear ad
     clear ae
     clear ac
     clear HB
     have ak := n0_
     have ap := n1_
     have ad := n2_
     have ae := n3_
     have ac := n4_
     have HB := n5_
     clear n0_ n1_ n2_ n3_ n4_ n5_
     refine start_ (n := 5) (S := fun w' => w'.cell? ⟨af, 0, none⟩ = some (.int .i64 ((rd_T39 aa ab).f0)) ∧ w'.cell? ⟨af, 1, none⟩ = some (.int .i64 ((rd_T39 aa ab).f1)) ∧ w'.cell? ⟨af, 2, none⟩ = some (.string ((rd_T39 aa ab).f2)) ∧ w'.cell? ⟨af, 3, none⟩ = some (.string ((rd_T39 aa ab).f3)) ∧ w'.cell? ⟨af, 4, none⟩ = some (.string ((rd_T39 aa ab).f4.f0)) ∧ w'.cell? ⟨af, 5, none⟩ = some (.string ((rd_T39 aa ab).f4.f1)) ∧ w'.cell? ⟨af, 6, none⟩ = some (.bool ((rd_T39 aa ab).f4.f2)) ∧ w'.cell? ⟨af, 7, none⟩ = some (.int .i64 ((rd_T39 aa ab).f5)) ∧ w'.cell? ⟨af, 8, none⟩ = some (.bool ((rd_T39 aa ab).f6))) (ds := []) (bt 5 0) (by kernel_rfl) rfl rfl ⟨(blk_cell ac.out 0).trans rfl, (blk_cell ac.out 1).trans rfl, (blk_cell ac.out 2).trans rfl, (blk_cell ac.out 3).trans rfl, (blk_cell ac.out 4).trans rfl, (blk_cell ac.out 5).trans rfl, (blk_cell ac.out 6).trans rfl, (blk_cell ac.out 7).trans rfl, (blk_cell ac.out 8).trans rfl⟩ (fun hHeld => ?_)
     generalize wr.drew = w51 at ak ap ad ae ac HB hHeld ⊢
     refine take_ (i := 0) (N := some 61) (bt 5 1) rfl rfl (by kernel_rfl) (fun _ _ _ h => h) (Or.inl ⟨by rfl, by rintro w' ⟨s0, s1, s2, s3, s4, s5, s6, s7, s8⟩; go_simp; with_reducible rfl⟩) hHeld (by simp only [z_]; rfl) ?_
     refine take_ (i := 2) (N := some 63) (bt 5 5) rfl rfl (by kernel_rfl) (fun _ _ _ h => h) (Or.inl ⟨by rfl, by rintro w' ⟨s0, s1, s2, s3, s4, s5, s6, s7, s8⟩; go_simp; with_reducible rfl⟩) hHeld (by simp only [z_]; rfl) ?_
     refine one_ (i := 1) (N := some 62) (bt 5 7) rfl rfl (by kernel_rfl) (by decide) (fun K hK => ?_)
     refine goes_ Try.func32 (by kernel_rfl) rfl #[.agg #[.int .i64 ((rd_T39 aa ab).f0), .int .i64 ((rd_T39 aa ab).f1), .string ((rd_T39 aa ab).f2), .string ((rd_T39 aa ab).f3), .string ((rd_T39 aa ab).f4.f0), .string ((rd_T39 aa ab).f4.f1), .bool ((rd_T39 aa ab).f4.f2), .int .i64 ((rd_T39 aa ab).f5), .bool ((rd_T39 aa ab).f6)]] (by rfl) rfl rfl (by (try simp only [List.map_toArray, List.map_cons, List.map_nil]); first | done | rfl | (simp only [List.length_drop, List.length_take]; rfl)) ?_
     with_reducible refine (plan_Writes.calls ((rd_T39 aa ab).f0) ((rd_T39 aa ab).f1) ((rd_T39 aa ab).f2) ((rd_T39 aa ab).f3) ((rd_T39 aa ab).f4.f0) ((rd_T39 aa ab).f4.f1) ((rd_T39 aa ab).f4.f2) ((rd_T39 aa ab).f5) ((rd_T39 aa ab).f6) t200 _ A48.out).mono ?_
     rintro e w52 ⟨rfl, hb⟩
     refine ⟨_, rfl, ?_⟩
     have n0_ := mk0 (Kd.N_below (by (with_reducible repeat (first | apply Kd.N_alloc | apply Kd.N_drewN | apply Kd.N_drew)); exact ak.out) hb)
     have n1_ := mk0 (Kd.R_below (by (with_reducible repeat (first | apply Ra_ | apply Rn_ | apply Rd_)); exact ap.out) hb)
     have n2_ := mk0 (Kd.V_below (by (with_reducible repeat (first | apply Kd.V_alloc | apply Kd.V_drewN | apply Kd.V_drew)); exact ad.out) hb)
     have n3_ := mk0 (blk_below (g := ag) (o := .cells #[.slice (some ad194) aa.length c0_0, .slice A0_1 aj.length c0_1, .slice A0_2 ao.length c0_2] 26 (0, 0)) (by (with_reducible repeat (first | refine bN_ ?_ _ | refine bD_ ?_ | refine bA_ ?_ _)); exact ae.out) hb)
     have n4_ := mk0 (blk_below (g := af) (o := .cells #[.int .i64 ((rd_T39 aa ab).f0), .int .i64 ((rd_T39 aa ab).f1), .string ((rd_T39 aa ab).f2), .string ((rd_T39 aa ab).f3), .string ((rd_T39 aa ab).f4.f0), .string ((rd_T39 aa ab).f4.f1), .bool ((rd_T39 aa ab).f4.f2), .int .i64 ((rd_T39 aa ab).f5), .bool ((rd_T39 aa ab).f6)] 39 (0, 0)) (by (with_reducible repeat (first | refine bN_ ?_ _ | refine bD_ ?_ | refine bA_ ?_ _)); exact ac.out) hb)
     have n5_ := mk0 (bt_ (by repeat (first | (with_reducible first | exact HB.out | apply bL_ | apply pN_ | apply b1_ | refine bs_ ?_ GE179.out | refine bs_ ?_ GE195.out) | exact HB.out)) hb)
     clear ak
     clear ap
     clear ad
     clear ae
     clear ac
     clear HB
     have ak := n0_
     have ap := n1_
     have ad := n2_
     have ae := n3_
     have ac := n4_
     have HB := n5_
     clear n0_ n1_ n2_ n3_ n4_ n5_
     (try clear hb)
     (try clear hb2)
     (try clear hk)
     (try clear hi)
     refine hK.out _ _ ⟨(blk_cell ac.out 0).trans rfl, (blk_cell ac.out 1).trans rfl, (blk_cell ac.out 2).trans rfl, (blk_cell ac.out 3).trans rfl, (blk_cell ac.out 4).trans rfl, (blk_cell ac.out 5).trans rfl, (blk_cell ac.out 6).trans rfl, (blk_cell ac.out 7).trans rfl, (blk_cell ac.out 8).trans rfl⟩ (fun hHeld => ?_)
     clear hK K
     refine norm_ (a' := ?_) ?_ ?_
     rotate_left
     ·show Act.put _ (some 62) _ = _
      simp only [z_]
      rfl
     refine one_ (i := 3) (N := some 64) (bt 5 15) rfl rfl (by kernel_rfl) (by decide) (fun K hK => ?_)
     refine goes_ Try.func33 (by kernel_rfl) rfl #[.agg #[.int .i64 ((rd_T39 aa ab).f0), .int .i64 ((rd_T39 aa ab).f1), .string ((rd_T39 aa ab).f2), .string ((rd_T39 aa ab).f3), .string ((rd_T39 aa ab).f4.f0), .string ((rd_T39 aa ab).f4.f1), .bool ((rd_T39 aa ab).f4.f2), .int .i64 ((rd_T39 aa ab).f5), .bool ((rd_T39 aa ab).f6)]] (by rfl) rfl rfl (by (try simp only [List.map_toArray, List.map_cons, List.map_nil]); first | done | rfl | (simp only [List.length_drop, List.length_take]; rfl)) ?_
     with_reducible refine (quorumref12_Writes.calls ((rd_T39 aa ab).f0) ((rd_T39 aa ab).f1) ((rd_T39 aa ab).f2) ((rd_T39 aa ab).f3) ((rd_T39 aa ab).f4.f0) ((rd_T39 aa ab).f4.f1) ((rd_T39 aa ab).f4.f2) ((rd_T39 aa ab).f5) ((rd_T39 aa ab).f6) t201 _ A49.out).mono ?_
     rintro e w53 ⟨rfl, hb⟩
     refine ⟨_, rfl, ?_⟩
     have n0_ := mk0 (Kd.N_below (by (with_reducible repeat (first | apply Kd.N_alloc | apply Kd.N_drewN | apply Kd.N_drew)); exact ak.out) hb)
     have n1_ := mk0 (Kd.R_below (by (with_reducible repeat (first | apply Ra_ | apply Rn_ | apply Rd_)); exact ap.out) hb)
     have n2_ := mk0 (Kd.V_below (by (with_reducible repeat (first | apply Kd.V_alloc | apply Kd.V_drewN | apply Kd.V_drew)); exact ad.out) hb)
     have n3_ := mk0 (blk_below (g := ag) (o := .cells #[.slice (some ad194) aa.length c0_0, .slice A0_1 aj.length c0_1, .slice A0_2 ao.length c0_2] 26 (0, 0)) (by (with_reducible repeat (first | refine bN_ ?_ _ | refine bD_ ?_ | refine bA_ ?_ _)); exact ae.out) hb)
     have n4_ := mk0 (blk_below (g := af) (o := .cells #[.int .i64 ((rd_T39 aa ab).f0), .int .i64 ((rd_T39 aa ab).f1), .string ((rd_T39 aa ab).f2), .string ((rd_T39 aa ab).f3), .string ((rd_T39 aa ab).f4.f0), .string ((rd_T39 aa ab).f4.f1), .bool ((rd_T39 aa ab).f4.f2), .int .i64 ((rd_T39 aa ab).f5), .bool ((rd_T39 aa ab).f6)] 39 (0, 0)) (by (with_reducible repeat (first | refine bN_ ?_ _ | refine bD_ ?_ | refine bA_ ?_ _)); exact ac.out) hb)
     have n5_ := mk0 (bt_ (by repeat (first | (with_reducible first | exact HB.out | apply bL_ | apply pN_ | apply b1_ | refine bs_ ?_ GE179.out | refine bs_ ?_ GE195.out) | exact HB.out)) hb)
     clear ak
     clear ap
     clear ad
     clear ae
     clear ac
     clear HB
     have ak := n0_
     have ap := n1_
     have ad := n2_
     have ae := n3_
     have ac := n4_
     have HB := n5_
     clear n0_ n1_ n2_ n3_ n4_ n5_
     (try clear hb)
     (try clear hb2)
     (try clear hk)
     (try clear hi)
     refine hK.out _ _ ⟨(blk_cell ac.out 0).trans rfl, (blk_cell ac.out 1).trans rfl, (blk_cell ac.out 2).trans rfl, (blk_cell ac.out 3).trans rfl, (blk_cell ac.out 4).trans rfl, (blk_cell ac.out 5).trans rfl, (blk_cell ac.out 6).trans rfl, (blk_cell ac.out 7).trans rfl, (blk_cell ac.out 8).trans rfl⟩ (fun hHeld => ?_)
     clear hK K
     refine norm_ (a' := ?_) ?_ ?_
     rotate_left
     ·show Act.put _ (some 64) _ = _
      simp only [z_]
      rfl
     refine pure_ (i := 4) (N := some 65) (bt 5 31) rfl rfl (by kernel_rfl) (fun _ _ _ h => h) (Or.inl ⟨by rfl, by intro w'; go_simp; with_reducible rfl⟩) (by simp only [z_]; rfl) ?_
     refine done_ (by kernel_rfl) ?_
     try go_wp2
     go_ret
     exact ⟨by first | rfl | (simp [errW_none, errW_some] <;> rfl) | (simp [*, errW_none, errW_some] <;> rfl), by repeat (first | (with_reducible first | exact HB.out | apply bL_ | apply pN_ | apply b1_ | refine bs_ ?_ GE179.out | refine bs_ ?_ GE195.out) | exact HB.out)⟩
    rw [if_neg c50] at H
    have c50b0 : (t200 != t201) = false := by simpa using c50
    (try (have c50b1 : decide (t200 = t201) = true := by simpa using c50))
    (try (have c50b2 : (t200 == t201) = true := by simpa using c50))
    clear c50
    have H' := mk0 H
    clear H
    try go_wp2
    have n0_ := mk0 (Kd.N_drew ak.out)
    have n1_ := mk0 (Rd_ ap.out)
    have n2_ := mk0 (Kd.V_drew ad.out)
    have n3_ := mk0 (bD_ ae.out)
    have n4_ := mk0 (bD_ ac.out)
    have n5_ := mk0 (b1_ HB.out)
    clear ak
    clear ap
    clear ad
    clear ae
    clear ac
    clear HB
    have ak := n0_
    have ap := n1_
    have ad := n2_
    have ae := n3_
    have ac := n4_
    have HB := n5_
    clear n0_ n1_ n2_ n3_ n4_ n5_
    refine start_ (n := 5) (S := fun w' => w'.cell? ⟨af, 0, none⟩ = some (.int .i64 ((rd_T39 aa ab).f0)) ∧ w'.cell? ⟨af, 1, none⟩ = some (.int .i64 ((rd_T39 aa ab).f1)) ∧ w'.cell? ⟨af, 2, none⟩ = some (.string ((rd_T39 aa ab).f2)) ∧ w'.cell? ⟨af, 3, none⟩ = some (.string ((rd_T39 aa ab).f3)) ∧ w'.cell? ⟨af, 4, none⟩ = some (.string ((rd_T39 aa ab).f4.f0)) ∧ w'.cell? ⟨af, 5, none⟩ = some (.string ((rd_T39 aa ab).f4.f1)) ∧ w'.cell? ⟨af, 6, none⟩ = some (.bool ((rd_T39 aa ab).f4.f2)) ∧ w'.cell? ⟨af, 7, none⟩ = some (.int .i64 ((rd_T39 aa ab).f5)) ∧ w'.cell? ⟨af, 8, none⟩ = some (.bool ((rd_T39 aa ab).f6))) (ds := []) (bt 5 0) (by kernel_rfl) rfl rfl ⟨(blk_cell ac.out 0).trans rfl, (blk_cell ac.out 1).trans rfl, (blk_cell ac.out 2).trans rfl, (blk_cell ac.out 3).trans rfl, (blk_cell ac.out 4).trans rfl, (blk_cell ac.out 5).trans rfl, (blk_cell ac.out 6).trans rfl, (blk_cell ac.out 7).trans rfl, (blk_cell ac.out 8).trans rfl⟩ (fun hHeld => ?_)
    generalize wr.drew = w54 at ak ap ad ae ac HB hHeld ⊢
    refine take_ (i := 0) (N := some 61) (bt 5 1) rfl rfl (by kernel_rfl) (fun _ _ _ h => h) (Or.inl ⟨by rfl, by rintro w' ⟨s0, s1, s2, s3, s4, s5, s6, s7, s8⟩; go_simp; with_reducible rfl⟩) hHeld (by simp only [z_]; rfl) ?_
    refine take_ (i := 2) (N := some 63) (bt 5 5) rfl rfl (by kernel_rfl) (fun _ _ _ h => h) (Or.inl ⟨by rfl, by rintro w' ⟨s0, s1, s2, s3, s4, s5, s6, s7, s8⟩; go_simp; with_reducible rfl⟩) hHeld (by simp only [z_]; rfl) ?_
    refine one_ (i := 1) (N := some 62) (bt 5 7) rfl rfl (by kernel_rfl) (by decide) (fun K hK => ?_)
    refine goes_ Try.func32 (by kernel_rfl) rfl #[.agg #[.int .i64 ((rd_T39 aa ab).f0), .int .i64 ((rd_T39 aa ab).f1), .string ((rd_T39 aa ab).f2), .string ((rd_T39 aa ab).f3), .string ((rd_T39 aa ab).f4.f0), .string ((rd_T39 aa ab).f4.f1), .bool ((rd_T39 aa ab).f4.f2), .int .i64 ((rd_T39 aa ab).f5), .bool ((rd_T39 aa ab).f6)]] (by rfl) rfl rfl (by (try simp only [List.map_toArray, List.map_cons, List.map_nil]); first | done | rfl | (simp only [List.length_drop, List.length_take]; rfl)) ?_
    with_reducible refine (plan_Writes.calls ((rd_T39 aa ab).f0) ((rd_T39 aa ab).f1) ((rd_T39 aa ab).f2) ((rd_T39 aa ab).f3) ((rd_T39 aa ab).f4.f0) ((rd_T39 aa ab).f4.f1) ((rd_T39 aa ab).f4.f2) ((rd_T39 aa ab).f5) ((rd_T39 aa ab).f6) t200 _ A48.out).mono ?_
    rintro e w55 ⟨rfl, hb⟩
    refine ⟨_, rfl, ?_⟩
    have n0_ := mk0 (Kd.N_below (by (with_reducible repeat (first | apply Kd.N_alloc | apply Kd.N_drewN | apply Kd.N_drew)); exact ak.out) hb)
    have n1_ := mk0 (Kd.R_below (by (with_reducible repeat (first | apply Ra_ | apply Rn_ | apply Rd_)); exact ap.out) hb)
    have n2_ := mk0 (Kd.V_below (by (with_reducible repeat (first | apply Kd.V_alloc | apply Kd.V_drewN | apply Kd.V_drew)); exact ad.out) hb)
    have n3_ := mk0 (blk_below (g := ag) (o := .cells #[.slice (some ad194) aa.length c0_0, .slice A0_1 aj.length c0_1, .slice A0_2 ao.length c0_2] 26 (0, 0)) (by (with_reducible repeat (first | refine bN_ ?_ _ | refine bD_ ?_ | refine bA_ ?_ _)); exact ae.out) hb)
    have n4_ := mk0 (blk_below (g := af) (o := .cells #[.int .i64 ((rd_T39 aa ab).f0), .int .i64 ((rd_T39 aa ab).f1), .string ((rd_T39 aa ab).f2), .string ((rd_T39 aa ab).f3), .string ((rd_T39 aa ab).f4.f0), .string ((rd_T39 aa ab).f4.f1), .bool ((rd_T39 aa ab).f4.f2), .int .i64 ((rd_T39 aa ab).f5), .bool ((rd_T39 aa ab).f6)] 39 (0, 0)) (by (with_reducible repeat (first | refine bN_ ?_ _ | refine bD_ ?_ | refine bA_ ?_ _)); exact ac.out) hb)
    have n5_ := mk0 (bt_ (by repeat (first | (with_reducible first | exact HB.out | apply bL_ | apply pN_ | apply b1_ | refine bs_ ?_ GE179.out | refine bs_ ?_ GE195.out) | exact HB.out)) hb)
    clear ak
    clear ap
    clear ad
    clear ae
    clear ac
    clear HB
    have ak := n0_
    have ap := n1_
    have ad := n2_
    have ae := n3_
    have ac := n4_
    have HB := n5_
    clear n0_ n1_ n2_ n3_ n4_ n5_
    (try clear hb)
    (try clear hb2)
    (try clear hk)
    (try clear hi)
    refine hK.out _ _ ⟨(blk_cell ac.out 0).trans rfl, (blk_cell ac.out 1).trans rfl, (blk_cell ac.out 2).trans rfl, (blk_cell ac.out 3).trans rfl, (blk_cell ac.out 4).trans rfl, (blk_cell ac.out 5).trans rfl, (blk_cell ac.out 6).trans rfl, (blk_cell ac.out 7).trans rfl, (blk_cell ac.out 8).trans rfl⟩ (fun hHeld => ?_)
    clear hK K
    refine norm_ (a' := ?_) ?_ ?_
    rotate_left
    ·show Act.put _ (some 62) _ = _
     simp only [z_]
     rfl
    refine one_ (i := 3) (N := some 64) (bt 5 15) rfl rfl (by kernel_rfl) (by decide) (fun K hK => ?_)
    refine goes_ Try.func33 (by kernel_rfl) rfl #[.agg #[.int .i64 ((rd_T39 aa ab).f0), .int .i64 ((rd_T39 aa ab).f1), .string ((rd_T39 aa ab).f2), .string ((rd_T39 aa ab).f3), .string ((rd_T39 aa ab).f4.f0), .string ((rd_T39 aa ab).f4.f1), .bool ((rd_T39 aa ab).f4.f2), .int .i64 ((rd_T39 aa ab).f5), .bool ((rd_T39 aa ab).f6)]] (by rfl) rfl rfl (by (try simp only [List.map_toArray, List.map_cons, List.map_nil]); first | done | rfl | (simp only [List.length_drop, List.length_take]; rfl)) ?_
    with_reducible refine (quorumref12_Writes.calls ((rd_T39 aa ab).f0) ((rd_T39 aa ab).f1) ((rd_T39 aa ab).f2) ((rd_T39 aa ab).f3) ((rd_T39 aa ab).f4.f0) ((rd_T39 aa ab).f4.f1) ((rd_T39 aa ab).f4.f2) ((rd_T39 aa ab).f5) ((rd_T39 aa ab).f6) t201 _ A49.out).mono ?_
    rintro e w56 ⟨rfl, hb⟩
    refine ⟨_, rfl, ?_⟩
    have n0_ := mk0 (Kd.N_below (by (with_reducible repeat (first | apply Kd.N_alloc | apply Kd.N_drewN | apply Kd.N_drew)); exact ak.out) hb)
    have n1_ := mk0 (Kd.R_below (by (with_reducible repeat (first | apply Ra_ | apply Rn_ | apply Rd_)); exact ap.out) hb)
    have n2_ := mk0 (Kd.V_below (by (with_reducible repeat (first | apply Kd.V_alloc | apply Kd.V_drewN | apply Kd.V_drew)); exact ad.out) hb)
    have n3_ := mk0 (blk_below (g := ag) (o := .cells #[.slice (some ad194) aa.length c0_0, .slice A0_1 aj.length c0_1, .slice A0_2 ao.length c0_2] 26 (0, 0)) (by (with_reducible repeat (first | refine bN_ ?_ _ | refine bD_ ?_ | refine bA_ ?_ _)); exact ae.out) hb)
    have n4_ := mk0 (blk_below (g := af) (o := .cells #[.int .i64 ((rd_T39 aa ab).f0), .int .i64 ((rd_T39 aa ab).f1), .string ((rd_T39 aa ab).f2), .string ((rd_T39 aa ab).f3), .string ((rd_T39 aa ab).f4.f0), .string ((rd_T39 aa ab).f4.f1), .bool ((rd_T39 aa ab).f4.f2), .int .i64 ((rd_T39 aa ab).f5), .bool ((rd_T39 aa ab).f6)] 39 (0, 0)) (by (with_reducible repeat (first | refine bN_ ?_ _ | refine bD_ ?_ | refine bA_ ?_ _)); exact ac.out) hb)
    have n5_ := mk0 (bt_ (by repeat (first | (with_reducible first | exact HB.out | apply bL_ | apply pN_ | apply b1_ | refine bs_ ?_ GE179.out | refine bs_ ?_ GE195.out) | exact HB.out)) hb)
    clear ak
    clear ap
    clear ad
    clear ae
    clear ac
    clear HB
    have ak := n0_
    have ap := n1_
    have ad := n2_
    have ae := n3_
    have ac := n4_
    have HB := n5_
    clear n0_ n1_ n2_ n3_ n4_ n5_
    (try clear hb)
    (try clear hb2)
    (try clear hk)
    (try clear hi)
    refine hK.out _ _ ⟨(blk_cell ac.out 0).trans rfl, (blk_cell ac.out 1).trans rfl, (blk_cell ac.out 2).trans rfl, (blk_cell ac.out 3).trans rfl, (blk_cell ac.out 4).trans rfl, (blk_cell ac.out 5).trans rfl, (blk_cell ac.out 6).trans rfl, (blk_cell ac.out 7).trans rfl, (blk_cell ac.out 8).trans rfl⟩ (fun hHeld => ?_)
    clear hK K
    refine norm_ (a' := ?_) ?_ ?_
    rotate_left
    ·show Act.put _ (some 64) _ = _
     simp only [z_]
     rfl
    refine pure_ (i := 4) (N := some 65) (bt 5 31) rfl rfl (by kernel_rfl) (fun _ _ _ h => h) (Or.inl ⟨by rfl, by intro w'; go_simp; with_reducible rfl⟩) (by simp only [z_]; rfl) ?_
    refine done_ (by kernel_rfl) ?_
    try go_wp2
    go_loopg [9] k3 (fun kq v9 w' => ∃ (ah : Int), v9 = .int .i64 ah ∧ Aside0 (quorumlaw12_PlanLocks.l2 kq ai y190 ab ah aa aj ao ((rd_T39 aa ab).f0) ((rd_T39 aa ab).f1) ((rd_T39 aa ab).f2) ((rd_T39 aa ab).f3) ((rd_T39 aa ab).f4.f0) ((rd_T39 aa ab).f4.f1) ((rd_T39 aa ab).f4.f2) ((rd_T39 aa ab).f5) ((rd_T39 aa ab).f6) = some r) ∧ Aside0 (kq ≤ k3) ∧ Aside0 (Kd.N k31 31 w' w.heap.size (fun k_ => (P0_1_ k_ ∨ w.heap.size ≤ k_) ∧ some k_ ≠ (v191 : Value).ownBlock ∧ k_ ≠ ag ∧ k_ ≠ af) v185 ai) ∧ Aside0 (Kd.R (Kd.int .i64) 3 w' w.heap.size (fun k_ => (w.heap.size ≤ k_)) v191 y190) ∧ Aside0 (Kd.V k31 31 w' w.heap.size (fun k_ => (P0_1_ k_ ∨ w.heap.size ≤ k_) ∧ some k_ ≠ (v185 : Value).ownBlock ∧ some k_ ≠ (v191 : Value).ownBlock ∧ k_ ≠ ag ∧ k_ ≠ af) (.slice A0_1 aj.length c0_1) aj) ∧ Aside0 (w'.heap[ag]? = some (.cells #[(.slice (some ad194) aa.length c0_0), (.slice A0_1 aj.length c0_1), (.slice A0_2 ao.length c0_2)] 26 (0, 0))) ∧ Aside0 (w'.heap[af]? = some (.cells #[.int .i64 ((rd_T39 aa ab).f0), .int .i64 ((rd_T39 aa ab).f1), .string ((rd_T39 aa ab).f2), .string ((rd_T39 aa ab).f3), .string ((rd_T39 aa ab).f4.f0), .string ((rd_T39 aa ab).f4.f1), .bool ((rd_T39 aa ab).f4.f2), .int .i64 ((rd_T39 aa ab).f5), .bool ((rd_T39 aa ab).f6)] 39 (0, 0))) ∧ Aside0 (Below w.heap.size w w'))
    case atStart => exact ⟨(0), (by first | rfl | (simp; done) | (simp [*]; done)), H', ⟨Nat.le_refl _⟩, ⟨by (with_reducible repeat (first | apply Kd.N_alloc | apply Kd.N_drewN | apply Kd.N_drew)); exact ak.out⟩, ⟨by (with_reducible repeat (first | apply Ra_ | apply Rn_ | apply Rd_)); exact ap.out⟩, ⟨by (with_reducible repeat (first | apply Kd.V_alloc | apply Kd.V_drewN | apply Kd.V_drew)); exact ad.out⟩, ⟨by (with_reducible repeat (first | refine bN_ ?_ _ | refine bD_ ?_ | refine bA_ ?_ _)); exact ae.out⟩, ⟨by (with_reducible repeat (first | refine bN_ ?_ _ | refine bD_ ?_ | refine bA_ ?_ _)); exact ac.out⟩, ⟨by repeat (first | (with_reducible first | exact HB.out | apply bL_ | apply pN_ | apply b1_ | refine bs_ ?_ GE179.out | refine bs_ ?_ GE195.out) | exact HB.out)⟩⟩
    clear H'
    try clear c1
    try clear p1
    try clear q1
    try clear hx1
    try clear c2
    try clear p2
    try clear c3
    try clear c4
    try clear c5
    try clear p6
    try clear c7
    try clear c8
    try clear c15
    try clear c18
    try clear p19
    try clear q19
    try clear hx19
    try clear c21
    try clear c21b0
    try clear c24
    try clear c25
    try clear c25b0
    try clear c26
    try clear c26b0
    try clear c29
    try clear c31
    try clear c31b0
    try clear c32
    try clear c33
    try clear c34
    try clear c36
    try clear c41
    try clear c41b0
    try clear c41b1
    try clear c41b2
    try clear c42
    try clear c45
    try clear c50
    try clear c50b0
    try clear c50b1
    try clear c50b2
    try clear c51
    try clear c53
    try clear hcz10_0 hcz10_1 hcz10_2 hfz10_0 hfz10_1 hfz10_2
    try clear hcz14_0 hcz14_1 hcz14_2 hfz14_0 hfz14_1 hfz14_2
    try clear hcz18_0 hcz18_1 hcz18_2 hfz18_0 hfz18_1 hfz18_2
    try clear hcz22_0 hcz22_1 hcz22_2 hfz22_0 hfz22_1 hfz22_2
    try clear hcz23_0 hcz23_1 hcz23_2 hfz23_0 hfz23_1 hfz23_2
    try clear hcz27_0 hcz27_1 hcz27_2 hfz27_0 hfz27_1 hfz27_2
    try clear hcz30_0 hcz30_1 hcz30_2 hcz30_3 hcz30_4 hcz30_5 hcz30_6 hcz30_7 hcz30_8 hfz30_0 hfz30_1 hfz30_2 hfz30_3 hfz30_4 hfz30_5 hfz30_6 hfz30_7 hfz30_8
    try clear hcz37_0 hcz37_1 hcz37_2 hcz37_3 hcz37_4 hcz37_5 hcz37_6 hcz37_7 hcz37_8 hfz37_0 hfz37_1 hfz37_2 hfz37_3 hfz37_4 hfz37_5 hfz37_6 hfz37_7 hfz37_8
    try clear hcz43_0 hcz43_1 hcz43_2 hcz43_3 hcz43_4 hcz43_5 hcz43_6 hcz43_7 hcz43_8 hfz43_0 hfz43_1 hfz43_2 hfz43_3 hfz43_4 hfz43_5 hfz43_6 hfz43_7 hfz43_8
    try clear hcz46_0 hcz46_1 hcz46_2 hcz46_3 hcz46_4 hcz46_5 hcz46_6 hcz46_7 hcz46_8 hfz46_0 hfz46_1 hfz46_2 hfz46_3 hfz46_4 hfz46_5 hfz46_6 hfz46_7 hfz46_8
    try clear hcz5_0 hcz5_1 hcz5_2 hfz5_0 hfz5_1 hfz5_2
    try clear hx194_0 hx194_1 hx194_2 hx194_3 hx194_4 hx194_5 hx194_6 hx194_7 hx194_8
    try clear p1
    try clear p19
    try clear p194
    try clear p2
    try clear q1
    try clear q19
    try clear q194
    obtain ⟨ah, rfl, HA, HK4, ak, ap, ad, ae, ac, HB⟩ := hrel
    cases gk with
    | zero => exact absurd HA.out (by simp [quorumlaw12_PlanLocks.l2])
    | succ k4 =>
     have H := HA.out
     clear HA
     simp only [quorumlaw12_PlanLocks.l2] at H
     have HC57 := mk0 H
     clear H
     go_upto_region 18 with (fail)
     go_cut [73] (fun v73 wc => ∃ (kq : Nat) (x73_56 : Bool), v73 = .bool x73_56 ∧ Aside0 (quorumlaw12_PlanLocks.j5 kq ai y190 ab ah x73_56 aa aj ao ((rd_T39 aa ab).f0) ((rd_T39 aa ab).f1) ((rd_T39 aa ab).f2) ((rd_T39 aa ab).f3) ((rd_T39 aa ab).f4.f0) ((rd_T39 aa ab).f4.f1) ((rd_T39 aa ab).f4.f2) ((rd_T39 aa ab).f5) ((rd_T39 aa ab).f6) = some r) ∧ Aside0 (kq ≤ k4) ∧ Aside0 (Kd.N k31 31 wc w.heap.size (fun k_ => (P0_1_ k_ ∨ w.heap.size ≤ k_) ∧ some k_ ≠ (v191 : Value).ownBlock ∧ k_ ≠ ag ∧ k_ ≠ af) v185 ai) ∧ Aside0 (Kd.R (Kd.int .i64) 3 wc w.heap.size (fun k_ => (w.heap.size ≤ k_)) v191 y190) ∧ Aside0 (Kd.V k31 31 wc w.heap.size (fun k_ => (P0_1_ k_ ∨ w.heap.size ≤ k_) ∧ some k_ ≠ (v185 : Value).ownBlock ∧ some k_ ≠ (v191 : Value).ownBlock ∧ k_ ≠ ag ∧ k_ ≠ af) (.slice A0_1 aj.length c0_1) aj) ∧ Aside0 (wc.heap[ag]? = some (.cells #[(.slice (some ad194) aa.length c0_0), (.slice A0_1 aj.length c0_1), (.slice A0_2 ao.length c0_2)] 26 (0, 0))) ∧ Aside0 (wc.heap[af]? = some (.cells #[.int .i64 ((rd_T39 aa ab).f0), .int .i64 ((rd_T39 aa ab).f1), .string ((rd_T39 aa ab).f2), .string ((rd_T39 aa ab).f3), .string ((rd_T39 aa ab).f4.f0), .string ((rd_T39 aa ab).f4.f1), .bool ((rd_T39 aa ab).f4.f2), .int .i64 ((rd_T39 aa ab).f5), .bool ((rd_T39 aa ab).f6)] 39 (0, 0))) ∧ Aside0 (Below w.heap.size w wc))
     case first =>
      have H := HC57.out
      clear HC57
      by_cases c58 : ah < (ai.length : Int)
      ·rw [if_pos c58] at H
       have c58b0 : decide (ah < (ai.length : Int)) = true := decide_eq_true c58
       clear c58
       (first | rw [c58b0] | (simp only [i64_w, i32_w]; rw [c58b0]) | skip)
       have H' := mk0 H
       clear H
       obtain ⟨Ao59, co59, eo59⟩ := Kd.N_slice ak.out
       subst eo59
       go_wp2
       go_meet
       case rel => exact ⟨_, (decide (ah < 4)), (by first | rfl | (simp; done) | (simp [*]; done)), H', ⟨by have := HK1.out; have := HJ19.out; have := HK3.out; have := HK4.out; first | omega | exact Nat.le_refl _⟩, ⟨by (with_reducible repeat (first | apply Kd.N_alloc | apply Kd.N_drewN | apply Kd.N_drew)); exact ak.out⟩, ⟨by (with_reducible repeat (first | apply Ra_ | apply Rn_ | apply Rd_)); exact ap.out⟩, ⟨by (with_reducible repeat (first | apply Kd.V_alloc | apply Kd.V_drewN | apply Kd.V_drew)); exact ad.out⟩, ⟨by (with_reducible repeat (first | refine bN_ ?_ _ | refine bD_ ?_ | refine bA_ ?_ _)); exact ae.out⟩, ⟨by (with_reducible repeat (first | refine bN_ ?_ _ | refine bD_ ?_ | refine bA_ ?_ _)); exact ac.out⟩, ⟨by repeat (first | (with_reducible first | exact HB.out | apply bL_ | apply pN_ | apply b1_ | refine bs_ ?_ GE179.out | refine bs_ ?_ GE195.out) | exact HB.out)⟩⟩
      rw [if_neg c58] at H
      have c58b0 : decide (ah < (ai.length : Int)) = false := decide_eq_false c58
      clear c58
      (first | rw [c58b0] | (simp only [i64_w, i32_w]; rw [c58b0]) | skip)
      have H' := mk0 H
      clear H
      obtain ⟨Ao60, co60, eo60⟩ := Kd.N_slice ak.out
      subst eo60
      go_wp2
      go_meet
      case rel => exact ⟨_, (false), (by first | rfl | (simp; done) | (simp [*]; done)), H', ⟨by have := HK1.out; have := HJ19.out; have := HK3.out; have := HK4.out; first | omega | exact Nat.le_refl _⟩, ⟨by (with_reducible repeat (first | apply Kd.N_alloc | apply Kd.N_drewN | apply Kd.N_drew)); exact ak.out⟩, ⟨by (with_reducible repeat (first | apply Ra_ | apply Rn_ | apply Rd_)); exact ap.out⟩, ⟨by (with_reducible repeat (first | apply Kd.V_alloc | apply Kd.V_drewN | apply Kd.V_drew)); exact ad.out⟩, ⟨by (with_reducible repeat (first | refine bN_ ?_ _ | refine bD_ ?_ | refine bA_ ?_ _)); exact ae.out⟩, ⟨by (with_reducible repeat (first | refine bN_ ?_ _ | refine bD_ ?_ | refine bA_ ?_ _)); exact ac.out⟩, ⟨by repeat (first | (with_reducible first | exact HB.out | apply bL_ | apply pN_ | apply b1_ | refine bs_ ?_ GE179.out | refine bs_ ?_ GE195.out) | exact HB.out)⟩⟩
     clear HC57
     try clear c1
     try clear p1
     try clear q1
     try clear hx1
     try clear c2
     try clear p2
     try clear c3
     try clear c4
     try clear c5
     try clear p6
     try clear c7
     try clear c8
     try clear c15
     try clear c18
     try clear p19
     try clear q19
     try clear hx19
     try clear c21
     try clear c21b0
     try clear c24
     try clear c25
     try clear c25b0
     try clear c26
     try clear c26b0
     try clear c29
     try clear c31
     try clear c31b0
     try clear c32
     try clear c33
     try clear c34
     try clear c36
     try clear c41
     try clear c41b0
     try clear c41b1
     try clear c41b2
     try clear c42
     try clear c45
     try clear c50
     try clear c50b0
     try clear c50b1
     try clear c50b2
     try clear c51
     try clear c53
     try clear c58
     try clear c58b0
     try clear hcz10_0 hcz10_1 hcz10_2 hfz10_0 hfz10_1 hfz10_2
     try clear hcz14_0 hcz14_1 hcz14_2 hfz14_0 hfz14_1 hfz14_2
     try clear hcz18_0 hcz18_1 hcz18_2 hfz18_0 hfz18_1 hfz18_2
     try clear hcz22_0 hcz22_1 hcz22_2 hfz22_0 hfz22_1 hfz22_2
     try clear hcz23_0 hcz23_1 hcz23_2 hfz23_0 hfz23_1 hfz23_2
     try clear hcz27_0 hcz27_1 hcz27_2 hfz27_0 hfz27_1 hfz27_2
     try clear hcz30_0 hcz30_1 hcz30_2 hcz30_3 hcz30_4 hcz30_5 hcz30_6 hcz30_7 hcz30_8 hfz30_0 hfz30_1 hfz30_2 hfz30_3 hfz30_4 hfz30_5 hfz30_6 hfz30_7 hfz30_8
     try clear hcz37_0 hcz37_1 hcz37_2 hcz37_3 hcz37_4 hcz37_5 hcz37_6 hcz37_7 hcz37_8 hfz37_0 hfz37_1 hfz37_2 hfz37_3 hfz37_4 hfz37_5 hfz37_6 hfz37_7 hfz37_8
     try clear hcz43_0 hcz43_1 hcz43_2 hcz43_3 hcz43_4 hcz43_5 hcz43_6 hcz43_7 hcz43_8 hfz43_0 hfz43_1 hfz43_2 hfz43_3 hfz43_4 hfz43_5 hfz43_6 hfz43_7 hfz43_8
     try clear hcz46_0 hcz46_1 hcz46_2 hcz46_3 hcz46_4 hcz46_5 hcz46_6 hcz46_7 hcz46_8 hfz46_0 hfz46_1 hfz46_2 hfz46_3 hfz46_4 hfz46_5 hfz46_6 hfz46_7 hfz46_8
     try clear hcz5_0 hcz5_1 hcz5_2 hfz5_0 hfz5_1 hfz5_2
     try clear hx194_0 hx194_1 hx194_2 hx194_3 hx194_4 hx194_5 hx194_6 hx194_7 hx194_8
     try clear p1
     try clear p19
     try clear p194
     try clear p2
     try clear p6
     try clear q1
     try clear q19
     try clear q194
     obtain ⟨kq, x73_56, rfl, HA, HJ56, ak, ap, ad, ae, ac, HB⟩ := hcut
     cases kq with
     | zero => exact absurd HA.out (by simp [quorumlaw12_PlanLocks.j5])
     | succ kj56 =>
      have H := HA.out
      clear HA
      simp only [quorumlaw12_PlanLocks.j5] at H
      by_cases c61 : x73_56 = true
      rotate_left
      ·replace c61 := Bool.eq_false_iff.mpr c61
       subst c61
       have H1 : (quorumlaw12_PlanLocks.l0 kj56 ai y190 (wrap64 (ab + 1)) aa aj ao) = some r := by rw [if_neg (show ¬ (false = true) by decide)] at H; exact H
       clear H
       have H := H1
       clear H1
       have H' := mk0 H
       clear H
       go_wp2
       go_roundg kj56
       case measure => have := HK1.out; have := HJ19.out; have := HK3.out; have := HK4.out; have := HJ56.out; omega
       case rel => exact ⟨(wrap64 (ab + 1)), (by first | rfl | (simp; done) | (simp [*]; done)), H', ⟨by have := HK1.out; have := HJ19.out; have := HK3.out; have := HK4.out; have := HJ56.out; omega⟩, ⟨by (with_reducible repeat (first | apply Kd.N_alloc | apply Kd.N_drewN | apply Kd.N_drew)); exact Kd.N_mono ak.out (fun _ hk => ⟨hk.1, ⟨hk.2.1, hk.2.2.1⟩⟩)⟩, ⟨by (with_reducible repeat (first | apply Ra_ | apply Rn_ | apply Rd_)); exact ap.out⟩, ⟨by (with_reducible repeat (first | apply Kd.V_alloc | apply Kd.V_drewN | apply Kd.V_drew)); exact Kd.V_mono ad.out (fun _ hk => ⟨hk.1, ⟨hk.2.1, ⟨hk.2.2.1, hk.2.2.2.1⟩⟩⟩)⟩, ⟨by (with_reducible repeat (first | refine bN_ ?_ _ | refine bD_ ?_ | refine bA_ ?_ _)); exact ae.out⟩, ⟨by repeat (first | (with_reducible first | exact HB.out | apply bL_ | apply pN_ | apply b1_ | refine bs_ ?_ GE179.out | refine bs_ ?_ GE195.out) | exact HB.out)⟩⟩
      subst c61
      have H1 : (quorumlaw12_PlanLocks.l3 kj56 ai y190 ab ah 0 aa aj ao ((rd_T39 aa ab).f0) ((rd_T39 aa ab).f1) ((rd_T39 aa ab).f2) ((rd_T39 aa ab).f3) ((rd_T39 aa ab).f4.f0) ((rd_T39 aa ab).f4.f1) ((rd_T39 aa ab).f4.f2) ((rd_T39 aa ab).f5) ((rd_T39 aa ab).f6)) = some r := by rw [if_pos rfl] at H; exact H
      clear H
      have H := H1
      clear H1
      have H' := mk0 H
      clear H
      go_wp2
      go_loopg [10] kj56 (fun kq v10 w' => ∃ (x10_6 : Int), v10 = .int .i64 x10_6 ∧ Aside0 (quorumlaw12_PlanLocks.l3 kq ai y190 ab ah x10_6 aa aj ao ((rd_T39 aa ab).f0) ((rd_T39 aa ab).f1) ((rd_T39 aa ab).f2) ((rd_T39 aa ab).f3) ((rd_T39 aa ab).f4.f0) ((rd_T39 aa ab).f4.f1) ((rd_T39 aa ab).f4.f2) ((rd_T39 aa ab).f5) ((rd_T39 aa ab).f6) = some r) ∧ Aside0 (kq ≤ kj56) ∧ Aside0 (Kd.N k31 31 w' w.heap.size (fun k_ => (P0_1_ k_ ∨ w.heap.size ≤ k_) ∧ some k_ ≠ (v191 : Value).ownBlock ∧ k_ ≠ ag ∧ k_ ≠ af) v185 ai) ∧ Aside0 (Kd.R (Kd.int .i64) 3 w' w.heap.size (fun k_ => (w.heap.size ≤ k_)) v191 y190) ∧ Aside0 (Kd.V k31 31 w' w.heap.size (fun k_ => (P0_1_ k_ ∨ w.heap.size ≤ k_) ∧ some k_ ≠ (v185 : Value).ownBlock ∧ some k_ ≠ (v191 : Value).ownBlock ∧ k_ ≠ ag ∧ k_ ≠ af) (.slice A0_1 aj.length c0_1) aj) ∧ Aside0 (w'.heap[ag]? = some (.cells #[(.slice (some ad194) aa.length c0_0), (.slice A0_1 aj.length c0_1), (.slice A0_2 ao.length c0_2)] 26 (0, 0))) ∧ Aside0 (w'.heap[af]? = some (.cells #[.int .i64 ((rd_T39 aa ab).f0), .int .i64 ((rd_T39 aa ab).f1), .string ((rd_T39 aa ab).f2), .string ((rd_T39 aa ab).f3), .string ((rd_T39 aa ab).f4.f0), .string ((rd_T39 aa ab).f4.f1), .bool ((rd_T39 aa ab).f4.f2), .int .i64 ((rd_T39 aa ab).f5), .bool ((rd_T39 aa ab).f6)] 39 (0, 0))) ∧ Aside0 (Below w.heap.size w w'))
      case atStart => exact ⟨(0), (by first | rfl | (simp; done) | (simp [*]; done)), H', ⟨Nat.le_refl _⟩, ⟨by (with_reducible repeat (first | apply Kd.N_alloc | apply Kd.N_drewN | apply Kd.N_drew)); exact ak.out⟩, ⟨by (with_reducible repeat (first | apply Ra_ | apply Rn_ | apply Rd_)); exact ap.out⟩, ⟨by (with_reducible repeat (first | apply Kd.V_alloc | apply Kd.V_drewN | apply Kd.V_drew)); exact ad.out⟩, ⟨by (with_reducible repeat (first | refine bN_ ?_ _ | refine bD_ ?_ | refine bA_ ?_ _)); exact ae.out⟩, ⟨by (with_reducible repeat (first | refine bN_ ?_ _ | refine bD_ ?_ | refine bA_ ?_ _)); exact ac.out⟩, ⟨by repeat (first | (with_reducible first | exact HB.out | apply bL_ | apply pN_ | apply b1_ | refine bs_ ?_ GE179.out | refine bs_ ?_ GE195.out) | exact HB.out)⟩⟩
      clear H'
      try clear c1
      try clear p1
      try clear q1
      try clear hx1
      try clear c2
      try clear p2
      try clear c3
      try clear c4
      try clear c5
      try clear c6
      try clear p6
      try clear c7
      try clear c8
      try clear c15
      try clear c18
      try clear p19
      try clear q19
      try clear hx19
      try clear c21
      try clear c21b0
      try clear c24
      try clear c25
      try clear c25b0
      try clear c26
      try clear c26b0
      try clear c29
      try clear c31
      try clear c31b0
      try clear c32
      try clear c33
      try clear c34
      try clear c36
      try clear c41
      try clear c41b0
      try clear c41b1
      try clear c41b2
      try clear c42
      try clear c45
      try clear c50
      try clear c50b0
      try clear c50b1
      try clear c50b2
      try clear c51
      try clear c53
      try clear c58
      try clear c58b0
      try clear c61
      try clear hcz10_0 hcz10_1 hcz10_2 hfz10_0 hfz10_1 hfz10_2
      try clear hcz14_0 hcz14_1 hcz14_2 hfz14_0 hfz14_1 hfz14_2
      try clear hcz18_0 hcz18_1 hcz18_2 hfz18_0 hfz18_1 hfz18_2
      try clear hcz22_0 hcz22_1 hcz22_2 hfz22_0 hfz22_1 hfz22_2
      try clear hcz23_0 hcz23_1 hcz23_2 hfz23_0 hfz23_1 hfz23_2
      try clear hcz27_0 hcz27_1 hcz27_2 hfz27_0 hfz27_1 hfz27_2
      try clear hcz30_0 hcz30_1 hcz30_2 hcz30_3 hcz30_4 hcz30_5 hcz30_6 hcz30_7 hcz30_8 hfz30_0 hfz30_1 hfz30_2 hfz30_3 hfz30_4 hfz30_5 hfz30_6 hfz30_7 hfz30_8
      try clear hcz37_0 hcz37_1 hcz37_2 hcz37_3 hcz37_4 hcz37_5 hcz37_6 hcz37_7 hcz37_8 hfz37_0 hfz37_1 hfz37_2 hfz37_3 hfz37_4 hfz37_5 hfz37_6 hfz37_7 hfz37_8
      try clear hcz43_0 hcz43_1 hcz43_2 hcz43_3 hcz43_4 hcz43_5 hcz43_6 hcz43_7 hcz43_8 hfz43_0 hfz43_1 hfz43_2 hfz43_3 hfz43_4 hfz43_5 hfz43_6 hfz43_7 hfz43_8
      try clear hcz46_0 hcz46_1 hcz46_2 hcz46_3 hcz46_4 hcz46_5 hcz46_6 hcz46_7 hcz46_8 hfz46_0 hfz46_1 hfz46_2 hfz46_3 hfz46_4 hfz46_5 hfz46_6 hfz46_7 hfz46_8
      try clear hcz5_0 hcz5_1 hcz5_2 hfz5_0 hfz5_1 hfz5_2
      try clear hx194_0 hx194_1 hx194_2 hx194_3 hx194_4 hx194_5 hx194_6 hx194_7 hx194_8
      try clear p1
      try clear p19
      try clear p194
      try clear p2
      try clear p6
      try clear q1
      try clear q19
      try clear q194
      obtain ⟨x10_6, rfl, HA, HK6, ak, ap, ad, ae, ac, HB⟩ := hrel
      cases gk with
      | zero => exact absurd HA.out (by simp [quorumlaw12_PlanLocks.l3])
      | succ k6 =>
       have H := HA.out
       clear HA
       simp only [quorumlaw12_PlanLocks.l3] at H
       have HC62 := mk0 H
       clear H
       go_upto_region 21 with (fail)
       go_cut [83] (fun v83 wc => ∃ (kq : Nat) (x83_61 : Bool), v83 = .bool x83_61 ∧ Aside0 (quorumlaw12_PlanLocks.j7 kq ai y190 ab ah x10_6 x83_61 aa aj ao ((rd_T39 aa ab).f0) ((rd_T39 aa ab).f1) ((rd_T39 aa ab).f2) ((rd_T39 aa ab).f3) ((rd_T39 aa ab).f4.f0) ((rd_T39 aa ab).f4.f1) ((rd_T39 aa ab).f4.f2) ((rd_T39 aa ab).f5) ((rd_T39 aa ab).f6) = some r) ∧ Aside0 (kq ≤ k6) ∧ Aside0 (Kd.N k31 31 wc w.heap.size (fun k_ => (P0_1_ k_ ∨ w.heap.size ≤ k_) ∧ some k_ ≠ (v191 : Value).ownBlock ∧ k_ ≠ ag ∧ k_ ≠ af) v185 ai) ∧ Aside0 (Kd.R (Kd.int .i64) 3 wc w.heap.size (fun k_ => (w.heap.size ≤ k_)) v191 y190) ∧ Aside0 (Kd.V k31 31 wc w.heap.size (fun k_ => (P0_1_ k_ ∨ w.heap.size ≤ k_) ∧ some k_ ≠ (v185 : Value).ownBlock ∧ some k_ ≠ (v191 : Value).ownBlock ∧ k_ ≠ ag ∧ k_ ≠ af) (.slice A0_1 aj.length c0_1) aj) ∧ Aside0 (wc.heap[ag]? = some (.cells #[(.slice (some ad194) aa.length c0_0), (.slice A0_1 aj.length c0_1), (.slice A0_2 ao.length c0_2)] 26 (0, 0))) ∧ Aside0 (wc.heap[af]? = some (.cells #[.int .i64 ((rd_T39 aa ab).f0), .int .i64 ((rd_T39 aa ab).f1), .string ((rd_T39 aa ab).f2), .string ((rd_T39 aa ab).f3), .string ((rd_T39 aa ab).f4.f0), .string ((rd_T39 aa ab).f4.f1), .bool ((rd_T39 aa ab).f4.f2), .int .i64 ((rd_T39 aa ab).f5), .bool ((rd_T39 aa ab).f6)] 39 (0, 0))) ∧ Aside0 (Below w.heap.size w wc))
       case first =>
        have H := HC62.out
        clear HC62
        by_cases c63 : x10_6 < (y190.length : Int)
        ·rw [if_pos c63] at H
         have c63b0 : decide (x10_6 < (y190.length : Int)) = true := decide_eq_true c63
         clear c63
         (first | rw [c63b0] | (simp only [i64_w, i32_w]; rw [c63b0]) | skip)
         have H' := mk0 H
         clear H
         obtain ⟨Ao64, co64, eo64⟩ := Kd.R_slice ap.out
         subst eo64
         go_wp2
         go_meet
         case rel => exact ⟨_, (decide (x10_6 < 5)), (by first | rfl | (simp; done) | (simp [*]; done)), H', ⟨by have := HK1.out; have := HJ19.out; have := HK3.out; have := HK4.out; have := HJ56.out; have := HK6.out; first | omega | exact Nat.le_refl _⟩, ⟨by (with_reducible repeat (first | apply Kd.N_alloc | apply Kd.N_drewN | apply Kd.N_drew)); exact ak.out⟩, ⟨by (with_reducible repeat (first | apply Ra_ | apply Rn_ | apply Rd_)); exact ap.out⟩, ⟨by (with_reducible repeat (first | apply Kd.V_alloc | apply Kd.V_drewN | apply Kd.V_drew)); exact ad.out⟩, ⟨by (with_reducible repeat (first | refine bN_ ?_ _ | refine bD_ ?_ | refine bA_ ?_ _)); exact ae.out⟩, ⟨by (with_reducible repeat (first | refine bN_ ?_ _ | refine bD_ ?_ | refine bA_ ?_ _)); exact ac.out⟩, ⟨by repeat (first | (with_reducible first | exact HB.out | apply bL_ | apply pN_ | apply b1_ | refine bs_ ?_ GE179.out | refine bs_ ?_ GE195.out) | exact HB.out)⟩⟩
        rw [if_neg c63] at H
        have c63b0 : decide (x10_6 < (y190.length : Int)) = false := decide_eq_false c63
        clear c63
        (first | rw [c63b0] | (simp only [i64_w, i32_w]; rw [c63b0]) | skip)
        have H' := mk0 H
        clear H
        obtain ⟨Ao65, co65, eo65⟩ := Kd.R_slice ap.out
        subst eo65
        go_wp2
        go_meet
        case rel => exact ⟨_, (false), (by first | rfl | (simp; done) | (simp [*]; done)), H', ⟨by have := HK1.out; have := HJ19.out; have := HK3.out; have := HK4.out; have := HJ56.out; have := HK6.out; first | omega | exact Nat.le_refl _⟩, ⟨by (with_reducible repeat (first | apply Kd.N_alloc | apply Kd.N_drewN | apply Kd.N_drew)); exact ak.out⟩, ⟨by (with_reducible repeat (first | apply Ra_ | apply Rn_ | apply Rd_)); exact ap.out⟩, ⟨by (with_reducible repeat (first | apply Kd.V_alloc | apply Kd.V_drewN | apply Kd.V_drew)); exact ad.out⟩, ⟨by (with_reducible repeat (first | refine bN_ ?_ _ | refine bD_ ?_ | refine bA_ ?_ _)); exact ae.out⟩, ⟨by (with_reducible repeat (first | refine bN_ ?_ _ | refine bD_ ?_ | refine bA_ ?_ _)); exact ac.out⟩, ⟨by repeat (first | (with_reducible first | exact HB.out | apply bL_ | apply pN_ | apply b1_ | refine bs_ ?_ GE179.out | refine bs_ ?_ GE195.out) | exact HB.out)⟩⟩
       clear HC62
       try clear c1
       try clear p1
       try clear q1
       try clear hx1
       try clear c2
       try clear p2
       try clear c3
       try clear c4
       try clear c5
       try clear c6
       try clear p6
       try clear c7
       try clear c8
       try clear c15
       try clear c18
       try clear p19
       try clear q19
       try clear hx19
       try clear c21
       try clear c21b0
       try clear c24
       try clear c25
       try clear c25b0
       try clear c26
       try clear c26b0
       try clear c29
       try clear c31
       try clear c31b0
       try clear c32
       try clear c33
       try clear c34
       try clear c36
       try clear c41
       try clear c41b0
       try clear c41b1
       try clear c41b2
       try clear c42
       try clear c45
       try clear c50
       try clear c50b0
       try clear c50b1
       try clear c50b2
       try clear c51
       try clear c53
       try clear c58
       try clear c58b0
       try clear c61
       try clear c63
       try clear c63b0
       try clear hcz10_0 hcz10_1 hcz10_2 hfz10_0 hfz10_1 hfz10_2
       try clear hcz14_0 hcz14_1 hcz14_2 hfz14_0 hfz14_1 hfz14_2
       try clear hcz18_0 hcz18_1 hcz18_2 hfz18_0 hfz18_1 hfz18_2
       try clear hcz22_0 hcz22_1 hcz22_2 hfz22_0 hfz22_1 hfz22_2
       try clear hcz23_0 hcz23_1 hcz23_2 hfz23_0 hfz23_1 hfz23_2
       try clear hcz27_0 hcz27_1 hcz27_2 hfz27_0 hfz27_1 hfz27_2
       try clear hcz30_0 hcz30_1 hcz30_2 hcz30_3 hcz30_4 hcz30_5 hcz30_6 hcz30_7 hcz30_8 hfz30_0 hfz30_1 hfz30_2 hfz30_3 hfz30_4 hfz30_5 hfz30_6 hfz30_7 hfz30_8
       try clear hcz37_0 hcz37_1 hcz37_2 hcz37_3 hcz37_4 hcz37_5 hcz37_6 hcz37_7 hcz37_8 hfz37_0 hfz37_1 hfz37_2 hfz37_3 hfz37_4 hfz37_5 hfz37_6 hfz37_7 hfz37_8
       try clear hcz43_0 hcz43_1 hcz43_2 hcz43_3 hcz43_4 hcz43_5 hcz43_6 hcz43_7 hcz43_8 hfz43_0 hfz43_1 hfz43_2 hfz43_3 hfz43_4 hfz43_5 hfz43_6 hfz43_7 hfz43_8
       try clear hcz46_0 hcz46_1 hcz46_2 hcz46_3 hcz46_4 hcz46_5 hcz46_6 hcz46_7 hcz46_8 hfz46_0 hfz46_1 hfz46_2 hfz46_3 hfz46_4 hfz46_5 hfz46_6 hfz46_7 hfz46_8
       try clear hcz5_0 hcz5_1 hcz5_2 hfz5_0 hfz5_1 hfz5_2
       try clear hx194_0 hx194_1 hx194_2 hx194_3 hx194_4 hx194_5 hx194_6 hx194_7 hx194_8
       try clear p1
       try clear p19
       try clear p194
       try clear p2
       try clear p6
       try clear q1
       try clear q19
       try clear q194
       obtain ⟨kq, x83_61, rfl, HA, HJ61, ak, ap, ad, ae, ac, HB⟩ := hcut
       cases kq with
       | zero => exact absurd HA.out (by simp [quorumlaw12_PlanLocks.j7])
       | succ kj61 =>
        have H := HA.out
        clear HA
        simp only [quorumlaw12_PlanLocks.j7] at H
        by_cases c66 : x83_61 = true
        rotate_left
        ·replace c66 := Bool.eq_false_iff.mpr c66
         subst c66
         have H1 : (quorumlaw12_PlanLocks.l2 kj61 ai y190 ab (wrap64 (ah + 1)) aa aj ao ((rd_T39 aa ab).f0) ((rd_T39 aa ab).f1) ((rd_T39 aa ab).f2) ((rd_T39 aa ab).f3) ((rd_T39 aa ab).f4.f0) ((rd_T39 aa ab).f4.f1) ((rd_T39 aa ab).f4.f2) ((rd_T39 aa ab).f5) ((rd_T39 aa ab).f6)) = some r := by rw [if_neg (show ¬ (false = true) by decide)] at H; exact H
         clear H
         have H := H1
         clear H1
         have H' := mk0 H
         clear H
         go_wp2
         go_roundg kj61
         case measure => have := HK1.out; have := HJ19.out; have := HK3.out; have := HK4.out; have := HJ56.out; have := HK6.out; have := HJ61.out; omega
         case rel => exact ⟨(wrap64 (ah + 1)), (by first | rfl | (simp; done) | (simp [*]; done)), H', ⟨by have := HK1.out; have := HJ19.out; have := HK3.out; have := HK4.out; have := HJ56.out; have := HK6.out; have := HJ61.out; omega⟩, ⟨by (with_reducible repeat (first | apply Kd.N_alloc | apply Kd.N_drewN | apply Kd.N_drew)); exact ak.out⟩, ⟨by (with_reducible repeat (first | apply Ra_ | apply Rn_ | apply Rd_)); exact ap.out⟩, ⟨by (with_reducible repeat (first | apply Kd.V_alloc | apply Kd.V_drewN | apply Kd.V_drew)); exact ad.out⟩, ⟨by (with_reducible repeat (first | refine bN_ ?_ _ | refine bD_ ?_ | refine bA_ ?_ _)); exact ae.out⟩, ⟨by (with_reducible repeat (first | refine bN_ ?_ _ | refine bD_ ?_ | refine bA_ ?_ _)); exact ac.out⟩, ⟨by repeat (first | (with_reducible first | exact HB.out | apply bL_ | apply pN_ | apply b1_ | refine bs_ ?_ GE179.out | refine bs_ ?_ GE195.out) | exact HB.out)⟩⟩
        subst c66
        have H1 : (if 0 ≤ ah then (if ah < (ai.length : Int) then ((quorumref0_CopyPend.f kj61 ((rd_T31 ai ah).f0) ((rd_T31 ai ah).f1)).bind fun bt203 => (if 0 ≤ x10_6 then (if x10_6 < (y190.length : Int) then ((plan_Locks.f kj61 ((rd_T39 aa ab).f0) ((rd_T39 aa ab).f1) ((rd_T39 aa ab).f2) ((rd_T39 aa ab).f3) ((rd_T39 aa ab).f4.f0) ((rd_T39 aa ab).f4.f1) ((rd_T39 aa ab).f4.f2) ((rd_T39 aa ab).f5) ((rd_T39 aa ab).f6) bt203.1 bt203.2 (rd y190 x10_6)).bind fun bt211 => ((quorumref12_Op.f ((rd_T39 aa ab).f0) ((rd_T39 aa ab).f1) ((rd_T39 aa ab).f2) ((rd_T39 aa ab).f3) ((rd_T39 aa ab).f4.f0) ((rd_T39 aa ab).f4.f1) ((rd_T39 aa ab).f4.f2) ((rd_T39 aa ab).f5) ((rd_T39 aa ab).f6) 3).bind fun t215 => (if t215 = true then ((quorumref8_Pend.f kj61 ((rd_T31 ai ah).f0) ((rd_T31 ai ah).f1)).bind fun t217 => (if t217 = true then ((quorumref0_Num.f (rd y190 x10_6) 1073741824).bind fun t219 => (quorumlaw12_PlanLocks.j8 kj61 ai y190 ab ah x10_6 bt211.1 bt211.2 1 ([] : List (S42)) t219 aa aj ao ((rd_T39 aa ab).f0) ((rd_T39 aa ab).f1) ((rd_T39 aa ab).f2) ((rd_T39 aa ab).f3) ((rd_T39 aa ab).f4.f0) ((rd_T39 aa ab).f4.f1) ((rd_T39 aa ab).f4.f2) ((rd_T39 aa ab).f5) ((rd_T39 aa ab).f6) bt203.1 bt203.2)) else (quorumlaw12_PlanLocks.j8 kj61 ai y190 ab ah x10_6 bt211.1 bt211.2 1 ([] : List (S42)) false aa aj ao ((rd_T39 aa ab).f0) ((rd_T39 aa ab).f1) ((rd_T39 aa ab).f2) ((rd_T39 aa ab).f3) ((rd_T39 aa ab).f4.f0) ((rd_T39 aa ab).f4.f1) ((rd_T39 aa ab).f4.f2) ((rd_T39 aa ab).f5) ((rd_T39 aa ab).f6) bt203.1 bt203.2))) else (quorumlaw12_PlanLocks.j8 kj61 ai y190 ab ah x10_6 bt211.1 bt211.2 1 ([] : List (S42)) false aa aj ao ((rd_T39 aa ab).f0) ((rd_T39 aa ab).f1) ((rd_T39 aa ab).f2) ((rd_T39 aa ab).f3) ((rd_T39 aa ab).f4.f0) ((rd_T39 aa ab).f4.f1) ((rd_T39 aa ab).f4.f2) ((rd_T39 aa ab).f5) ((rd_T39 aa ab).f6) bt203.1 bt203.2)))) else (none)) else (none))) else (none)) else (none)) = some r := by rw [if_pos rfl] at H; exact H
        clear H
        have H := H1
        clear H1
        by_cases c67 : 0 ≤ ah
        rotate_left
        ·rw [if_neg c67] at H
         exact absurd H (by simp)
        rw [if_pos c67] at H
        have c67b0 : decide (0 ≤ ah) = true := decide_eq_true c67
        clear c67
        by_cases c68 : ah < (ai.length : Int)
        rotate_left
        ·rw [if_neg c68] at H
         exact absurd H (by simp)
        rw [if_pos c68] at H
        have c68b0 : decide (ah < (ai.length : Int)) = true := decide_eq_true c68
        clear c68
        replace H := Option.bind_eq_some_iff.mp H
        obtain ⟨⟨t203, t206⟩, A690, H⟩ := H
        replace H : (if 0 ≤ x10_6 then (if x10_6 < (y190.length : Int) then ((plan_Locks.f kj61 ((rd_T39 aa ab).f0) ((rd_T39 aa ab).f1) ((rd_T39 aa ab).f2) ((rd_T39 aa ab).f3) ((rd_T39 aa ab).f4.f0) ((rd_T39 aa ab).f4.f1) ((rd_T39 aa ab).f4.f2) ((rd_T39 aa ab).f5) ((rd_T39 aa ab).f6) t203 t206 (rd y190 x10_6)).bind fun bt211 => ((quorumref12_Op.f ((rd_T39 aa ab).f0) ((rd_T39 aa ab).f1) ((rd_T39 aa ab).f2) ((rd_T39 aa ab).f3) ((rd_T39 aa ab).f4.f0) ((rd_T39 aa ab).f4.f1) ((rd_T39 aa ab).f4.f2) ((rd_T39 aa ab).f5) ((rd_T39 aa ab).f6) 3).bind fun t215 => (if t215 = true then ((quorumref8_Pend.f kj61 ((rd_T31 ai ah).f0) ((rd_T31 ai ah).f1)).bind fun t217 => (if t217 = true then ((quorumref0_Num.f (rd y190 x10_6) 1073741824).bind fun t219 => (quorumlaw12_PlanLocks.j8 kj61 ai y190 ab ah x10_6 bt211.1 bt211.2 1 ([] : List (S42)) t219 aa aj ao ((rd_T39 aa ab).f0) ((rd_T39 aa ab).f1) ((rd_T39 aa ab).f2) ((rd_T39 aa ab).f3) ((rd_T39 aa ab).f4.f0) ((rd_T39 aa ab).f4.f1) ((rd_T39 aa ab).f4.f2) ((rd_T39 aa ab).f5) ((rd_T39 aa ab).f6) t203 t206)) else (quorumlaw12_PlanLocks.j8 kj61 ai y190 ab ah x10_6 bt211.1 bt211.2 1 ([] : List (S42)) false aa aj ao ((rd_T39 aa ab).f0) ((rd_T39 aa ab).f1) ((rd_T39 aa ab).f2) ((rd_T39 aa ab).f3) ((rd_T39 aa ab).f4.f0) ((rd_T39 aa ab).f4.f1) ((rd_T39 aa ab).f4.f2) ((rd_T39 aa ab).f5) ((rd_T39 aa ab).f6) t203 t206))) else (quorumlaw12_PlanLocks.j8 kj61 ai y190 ab ah x10_6 bt211.1 bt211.2 1 ([] : List (S42)) false aa aj ao ((rd_T39 aa ab).f0) ((rd_T39 aa ab).f1) ((rd_T39 aa ab).f2) ((rd_T39 aa ab).f3) ((rd_T39 aa ab).f4.f0) ((rd_T39 aa ab).f4.f1) ((rd_T39 aa ab).f4.f2) ((rd_T39 aa ab).f5) ((rd_T39 aa ab).f6) t203 t206)))) else (none)) else (none)) = some r := H
        have A69 := mk0 A690
        clear A690
        by_cases c70 : 0 ≤ x10_6
        rotate_left
        ·rw [if_neg c70] at H
         exact absurd H (by simp)
        rw [if_pos c70] at H
        have c70b0 : decide (0 ≤ x10_6) = true := decide_eq_true c70
        clear c70
        by_cases c71 : x10_6 < (y190.length : Int)
        rotate_left
        ·rw [if_neg c71] at H
         exact absurd H (by simp)
        rw [if_pos c71] at H
        have c71b0 : decide (x10_6 < (y190.length : Int)) = true := decide_eq_true c71
        clear c71
        replace H := Option.bind_eq_some_iff.mp H
        obtain ⟨⟨t211, t214⟩, A720, H⟩ := H
        replace H : ((quorumref12_Op.f ((rd_T39 aa ab).f0) ((rd_T39 aa ab).f1) ((rd_T39 aa ab).f2) ((rd_T39 aa ab).f3) ((rd_T39 aa ab).f4.f0) ((rd_T39 aa ab).f4.f1) ((rd_T39 aa ab).f4.f2) ((rd_T39 aa ab).f5) ((rd_T39 aa ab).f6) 3).bind fun t215 => (if t215 = true then ((quorumref8_Pend.f kj61 ((rd_T31 ai ah).f0) ((rd_T31 ai ah).f1)).bind fun t217 => (if t217 = true then ((quorumref0_Num.f (rd y190 x10_6) 1073741824).bind fun t219 => (quorumlaw12_PlanLocks.j8 kj61 ai y190 ab ah x10_6 t211 t214 1 ([] : List (S42)) t219 aa aj ao ((rd_T39 aa ab).f0) ((rd_T39 aa ab).f1) ((rd_T39 aa ab).f2) ((rd_T39 aa ab).f3) ((rd_T39 aa ab).f4.f0) ((rd_T39 aa ab).f4.f1) ((rd_T39 aa ab).f4.f2) ((rd_T39 aa ab).f5) ((rd_T39 aa ab).f6) t203 t206)) else (quorumlaw12_PlanLocks.j8 kj61 ai y190 ab ah x10_6 t211 t214 1 ([] : List (S42)) false aa aj ao ((rd_T39 aa ab).f0) ((rd_T39 aa ab).f1) ((rd_T39 aa ab).f2) ((rd_T39 aa ab).f3) ((rd_T39 aa ab).f4.f0) ((rd_T39 aa ab).f4.f1) ((rd_T39 aa ab).f4.f2) ((rd_T39 aa ab).f5) ((rd_T39 aa ab).f6) t203 t206))) else (quorumlaw12_PlanLocks.j8 kj61 ai y190 ab ah x10_6 t211 t214 1 ([] : List (S42)) false aa aj ao ((rd_T39 aa ab).f0) ((rd_T39 aa ab).f1) ((rd_T39 aa ab).f2) ((rd_T39 aa ab).f3) ((rd_T39 aa ab).f4.f0) ((rd_T39 aa ab).f4.f1) ((rd_T39 aa ab).f4.f2) ((rd_T39 aa ab).f5) ((rd_T39 aa ab).f6) t203 t206))) = some r := H
        have A72 := mk0 A720
        clear A720
        have HC73 := mk0 H
        clear H
        obtain ⟨Ao74, co74, eo74⟩ := Kd.N_slice ak.out
        subst eo74
        have p202 : 0 ≤ (ah : Int) := of_decide_eq_true (by first | (with_reducible assumption) | assumption)
        have q202 : ah < (ai.length : Int) := of_decide_eq_true (by first | (with_reducible assumption) | assumption)
        obtain ⟨ad202, A202_0, c202_0, A202_1, c202_1, e202, hx202_0, hx202_1, hl202_0, hi202_0, hl202_1, hi202_1⟩ := at_T31 (Kd.N_reads' ak.out).2.2 ah p202 q202
        cases e202
        obtain ⟨ce202, hce202, hMe202, hcc202⟩ := Kd.N_get ak.out z31 ah p202 (by first | exact q202 | exact of_decide_eq_true (by first | (with_reducible assumption) | assumption) | (have e_ := (Kd.N_reads' ak.out).1; omega))
        obtain ⟨ua202_0, uc202_0, ua202_1, uc202_1, rfl, ul202_0, ge202_0, ul202_1, ge202_1⟩ := k31_openF hMe202
        have hv202_0 := hcc202 0 _ rfl
        rw [Nat.add_zero] at hv202_0
        replace hv202_0 := Option.some.inj (hv202_0.symm.trans hx202_0)
        injection hv202_0 with hva_ hvn_ hvc_
        rw [hva_] at ge202_0
        rw [hvc_] at ul202_0
        have HL202_0 := mk0 (show Kd.V k44 44 _ w.heap.size _ _ ((rd_T31 ai ah).f0) from Kd.V_mk ul202_0 ge202_0)
        clear hva_ hvn_ hvc_ ge202_0 ul202_0
        have hv202_1 := hcc202 1 _ rfl
        rw [add_field _ _ 1 (by omega)] at hv202_1
        replace hv202_1 := Option.some.inj (hv202_1.symm.trans hx202_1)
        injection hv202_1 with hva_ hvn_ hvc_
        rw [hva_] at ge202_1
        rw [hvc_] at ul202_1
        have HL202_1 := mk0 (show Kd.V (Kd.int .i64) 3 _ w.heap.size _ _ ((rd_T31 ai ah).f1) from Kd.V_mk ul202_1 ge202_1)
        clear hva_ hvn_ hvc_ ge202_1 ul202_1
        clear hcc202 hce202
        have HR202_0 := mk0 hi202_0
        have HC202_0 := mk0 hl202_0
        clear hi202_0 hl202_0
        have HR202_1 := mk0 hi202_1
        have HC202_1 := mk0 hl202_1
        clear hi202_1 hl202_1
        replace p202 := eq_true p202
        replace q202 := eq_true q202
        try go_wp2_with (first | ((with_reducible refine gate_callee (f := 54) rfl ?_); refine goesL_ (some 90) rfl rfl Try.func54 (by kernel_rfl) rfl #[.agg #[.slice A202_0 ((rd_T31 ai ah).f0).length c202_0, .slice A202_1 ((rd_T31 ai ah).f1).length c202_1]] rfl (by (try simp only [List.map_toArray, List.map_cons, List.map_nil]); first | done | rfl | (simp only [List.length_drop, List.length_take]; rfl)) ?_; (with_reducible refine (quorumref0_CopyPend.calls kj61 _ _ ((rd_T31 ai ah).f0) _ _ ((rd_T31 ai ah).f1) t203 t206 _ ?side1 ?side2 ?side3 ?side4 A69.out).mono ?_); (case side1 => repeat (first | exact (by repeat (first | (with_reducible exact HR202_0.out) | (with_reducible refine Kd.C_alloc ?_ _) | (with_reducible refine Kd.C_drewN ?_ _) | (with_reducible refine Kd.C_drew ?_) | exact HR202_0.out)) | (with_reducible refine Kd.C_alloc ?_ _) | (with_reducible refine Kd.C_drewN ?_ _) | (with_reducible refine Kd.C_drew ?_))); (case side2 => exact HC202_0.out); (case side3 => repeat (first | exact (by repeat (first | (with_reducible exact HR202_1.out) | (with_reducible refine Kd.C_alloc ?_ _) | (with_reducible refine Kd.C_drewN ?_ _) | (with_reducible refine Kd.C_drew ?_) | exact HR202_1.out)) | (with_reducible refine Kd.C_alloc ?_ _) | (with_reducible refine Kd.C_drewN ?_ _) | (with_reducible refine Kd.C_drew ?_))); (case side4 => exact HC202_1.out); rintro e w75 ⟨v204, v207, rfl, ho0, ho1, hb⟩; refine ⟨_, rfl, ?_⟩; have n0_ := mk0 (Kd.N_mono (Kd.N_told (Kd.N_told (Kd.N_old (by (with_reducible repeat (first | apply Kd.N_alloc | apply Kd.N_drewN | apply Kd.N_drew)); exact ak.out) hb) (Kd.R_base ho0)) (Kd.R_base ho1)) (fun _ h_ => h_.1)); have n1_ := mk0 (Kd.R_elder' (by (with_reducible repeat (first | apply Ra_ | apply Rn_ | apply Rd_)); exact ap.out) (Kd.R_base ho1) hb); have n2_ := mk0 (Kd.V_mono (Kd.V_told (Kd.V_told (Kd.V_old (by (with_reducible repeat (first | apply Kd.V_alloc | apply Kd.V_drewN | apply Kd.V_drew)); exact ad.out) hb) (Kd.R_base ho0)) (Kd.R_base ho1)) (fun _ h_ => h_.1)); have n3_ := mk0 (Kd.V_mono (Kd.V_told (Kd.V_told (Kd.V_old (by (with_reducible repeat (first | apply Kd.V_alloc | apply Kd.V_drewN | apply Kd.V_drew)); exact HL202_0.out) hb) (Kd.R_base ho0)) (Kd.R_base ho1)) (fun _ h_ => h_.1)); have n4_ := mk0 (Kd.V_mono (Kd.V_told (Kd.V_told (Kd.V_old (by (with_reducible repeat (first | apply Kd.V_alloc | apply Kd.V_drewN | apply Kd.V_drew)); exact HL202_1.out) hb) (Kd.R_base ho0)) (Kd.R_base ho1)) (fun _ h_ => h_.1)); have n5_ := mk0 (Kd.R_lower (Kd.R_newM (M := fun k_ => (w.heap.size ≤ k_)) ho0 (bz_ (by repeat (first | (with_reducible first | exact HB.out | apply bL_ | apply pN_ | apply b1_ | refine bs_ ?_ GE179.out | refine bs_ ?_ GE195.out) | exact HB.out))) (fun k_ h_ => h_)) (bz_ (by repeat (first | (with_reducible first | exact HB.out | apply bL_ | apply pN_ | apply b1_ | refine bs_ ?_ GE179.out | refine bs_ ?_ GE195.out) | exact HB.out)))); have n6_ := mk0 (Kd.R_lower (Kd.R_new' (Kd.R_newM (M := fun k_ => (w.heap.size ≤ k_)) ho1 (bz_ (by repeat (first | (with_reducible first | exact HB.out | apply bL_ | apply pN_ | apply b1_ | refine bs_ ?_ GE179.out | refine bs_ ?_ GE195.out) | exact HB.out))) (fun k_ h_ => h_)) (Kd.R_lt (by (with_reducible repeat (first | apply Ra_ | apply Rn_ | apply Rd_)); exact ap.out))) (bz_ (by repeat (first | (with_reducible first | exact HB.out | apply bL_ | apply pN_ | apply b1_ | refine bs_ ?_ GE179.out | refine bs_ ?_ GE195.out) | exact HB.out)))); have n7_ := mk0 (blk_below (g := ag) (o := .cells #[.slice (some ad194) aa.length c0_0, .slice A0_1 aj.length c0_1, .slice A0_2 ao.length c0_2] 26 (0, 0)) (by (with_reducible repeat (first | refine bN_ ?_ _ | refine bD_ ?_ | refine bA_ ?_ _)); exact ae.out) hb); have n8_ := mk0 (blk_below (g := af) (o := .cells #[.int .i64 ((rd_T39 aa ab).f0), .int .i64 ((rd_T39 aa ab).f1), .string ((rd_T39 aa ab).f2), .string ((rd_T39 aa ab).f3), .string ((rd_T39 aa ab).f4.f0), .string ((rd_T39 aa ab).f4.f1), .bool ((rd_T39 aa ab).f4.f2), .int .i64 ((rd_T39 aa ab).f5), .bool ((rd_T39 aa ab).f6)] 39 (0, 0)) (by (with_reducible repeat (first | refine bN_ ?_ _ | refine bD_ ?_ | refine bA_ ?_ _)); exact ac.out) hb); have n9_ := mk0 (Kd.C_below (by (with_reducible repeat (first | refine Kd.C_drewN ?_ _ | refine Kd.C_drew ?_ | refine Kd.C_alloc ?_ _)); exact HR202_0.out) hb); have n10_ := mk0 (Kd.C_below (by (with_reducible repeat (first | refine Kd.C_drewN ?_ _ | refine Kd.C_drew ?_ | refine Kd.C_alloc ?_ _)); exact HR202_1.out) hb); have n11_ := mk0 (bt_ (by repeat (first | (with_reducible first | exact HB.out | apply bL_ | apply pN_ | apply b1_ | refine bs_ ?_ GE179.out | refine bs_ ?_ GE195.out) | exact HB.out)) hb); clear ak; clear ap; clear ad; clear HL202_0; clear HL202_1; clear ae; clear ac; clear HR202_0; clear HR202_1; clear HB; have ak := n0_; have ap := n1_; have ad := n2_; have HL202_0 := n3_; have HL202_1 := n4_; have HO205 := n5_; have HO208 := n6_; have ae := n7_; have ac := n8_; have HR202_0 := n9_; have HR202_1 := n10_; have HB := n11_; clear n0_ n1_ n2_ n3_ n4_ n5_ n6_ n7_ n8_ n9_ n10_ n11_; (try clear hb); (try clear hb2); (try clear hk); (try clear hi); (try clear ho0); (try clear ho1)) | ((with_reducible refine gate_dst (N := 11) rfl ?_); refine box_event ?hg (N := 11) ?hd (cs := #[.slice none 0 0, .slice none 0 0]) (t := 31) ?hr ?_; (case hd => rfl); (case hg => rfl); (case hr => first | (go_simp; done) | (go_simp; rfl)); intro gb209 hg w76 hbox hb; have n0_ := mk0 (Kd.N_below (Kd.N_elderB (by (with_reducible repeat (first | apply Kd.N_alloc | apply Kd.N_drewN | apply Kd.N_drew)); exact ak.out) gb209 (Nat.le_of_eq hg.symm)) hb); have n1_ := mk0 (Kd.R_below (by (with_reducible repeat (first | apply Ra_ | apply Rn_ | apply Rd_)); exact ap.out) hb); have n2_ := mk0 (Kd.V_below (Kd.V_elderB (by (with_reducible repeat (first | apply Kd.V_alloc | apply Kd.V_drewN | apply Kd.V_drew)); exact ad.out) gb209 (Nat.le_of_eq hg.symm)) hb); have n3_ := mk0 (Kd.V_below (Kd.V_elderB (by (with_reducible repeat (first | apply Kd.V_alloc | apply Kd.V_drewN | apply Kd.V_drew)); exact HL202_0.out) gb209 (Nat.le_of_eq hg.symm)) hb); have n4_ := mk0 (Kd.V_below (Kd.V_elderB (by (with_reducible repeat (first | apply Kd.V_alloc | apply Kd.V_drewN | apply Kd.V_drew)); exact HL202_1.out) gb209 (Nat.le_of_eq hg.symm)) hb); have n5_ := mk0 (Kd.R_below (by (with_reducible repeat (first | apply Ra_ | apply Rn_ | apply Rd_)); exact HO205.out) hb); have n6_ := mk0 (Kd.R_below (by (with_reducible repeat (first | apply Ra_ | apply Rn_ | apply Rd_)); exact HO208.out) hb); have n7_ := mk0 (blk_below (g := ag) (o := .cells #[.slice (some ad194) aa.length c0_0, .slice A0_1 aj.length c0_1, .slice A0_2 ao.length c0_2] 26 (0, 0)) (by (with_reducible repeat (first | refine bN_ ?_ _ | refine bD_ ?_ | refine bA_ ?_ _)); exact ae.out) hb); have n8_ := mk0 (blk_below (g := af) (o := .cells #[.int .i64 ((rd_T39 aa ab).f0), .int .i64 ((rd_T39 aa ab).f1), .string ((rd_T39 aa ab).f2), .string ((rd_T39 aa ab).f3), .string ((rd_T39 aa ab).f4.f0), .string ((rd_T39 aa ab).f4.f1), .bool ((rd_T39 aa ab).f4.f2), .int .i64 ((rd_T39 aa ab).f5), .bool ((rd_T39 aa ab).f6)] 39 (0, 0)) (by (with_reducible repeat (first | refine bN_ ?_ _ | refine bD_ ?_ | refine bA_ ?_ _)); exact ac.out) hb); have n9_ := mk0 (Kd.C_below (by (with_reducible repeat (first | refine Kd.C_drewN ?_ _ | refine Kd.C_drew ?_ | refine Kd.C_alloc ?_ _)); exact HR202_0.out) hb); have n10_ := mk0 (Kd.C_below (by (with_reducible repeat (first | refine Kd.C_drewN ?_ _ | refine Kd.C_drew ?_ | refine Kd.C_alloc ?_ _)); exact HR202_1.out) hb); have n11_ := mk0 (bt_ (by repeat (first | (with_reducible first | exact HB.out | apply bL_ | apply pN_ | apply b1_ | refine bs_ ?_ GE179.out | refine bs_ ?_ GE195.out) | exact HB.out)) hb); have n12_ := mk0 (hbox); have n13_ := mk0 ((by rw [hg]; exact (bz_ (by repeat (first | (with_reducible first | exact HB.out | apply bL_ | apply pN_ | apply b1_ | refine bs_ ?_ GE179.out | refine bs_ ?_ GE195.out) | exact HB.out))) : w.heap.size ≤ gb209)); have n14_ := mk0 ((by rw [hg]; exact (bz_ (by repeat (first | (with_reducible first | exact HB.out | apply bL_ | apply pN_ | apply b1_ | refine bs_ ?_ GE179.out | refine bs_ ?_ GE195.out) | exact HB.out))) : w.heap.size ≤ gb209)); have n15_ := mk0 ((by rw [hg]; exact Nat.ne_of_lt (blk_lt (g := ag) (o := .cells #[.slice (some ad194) aa.length c0_0, .slice A0_1 aj.length c0_1, .slice A0_2 ao.length c0_2] 26 (0, 0)) (by (with_reducible repeat (first | refine bN_ ?_ _ | refine bD_ ?_ | refine bA_ ?_ _)); exact ae.out)) : ag ≠ gb209)); have n16_ := mk0 ((by rw [hg]; exact Nat.ne_of_gt (blk_lt (g := ag) (o := .cells #[.slice (some ad194) aa.length c0_0, .slice A0_1 aj.length c0_1, .slice A0_2 ao.length c0_2] 26 (0, 0)) (by (with_reducible repeat (first | refine bN_ ?_ _ | refine bD_ ?_ | refine bA_ ?_ _)); exact ae.out)) : gb209 ≠ ag)); have n17_ := mk0 ((by rw [hg]; exact Nat.ne_of_lt (blk_lt (g := af) (o := .cells #[.int .i64 ((rd_T39 aa ab).f0), .int .i64 ((rd_T39 aa ab).f1), .string ((rd_T39 aa ab).f2), .string ((rd_T39 aa ab).f3), .string ((rd_T39 aa ab).f4.f0), .string ((rd_T39 aa ab).f4.f1), .bool ((rd_T39 aa ab).f4.f2), .int .i64 ((rd_T39 aa ab).f5), .bool ((rd_T39 aa ab).f6)] 39 (0, 0)) (by (with_reducible repeat (first | refine bN_ ?_ _ | refine bD_ ?_ | refine bA_ ?_ _)); exact ac.out)) : af ≠ gb209)); have n18_ := mk0 ((by rw [hg]; exact Nat.ne_of_gt (blk_lt (g := af) (o := .cells #[.int .i64 ((rd_T39 aa ab).f0), .int .i64 ((rd_T39 aa ab).f1), .string ((rd_T39 aa ab).f2), .string ((rd_T39 aa ab).f3), .string ((rd_T39 aa ab).f4.f0), .string ((rd_T39 aa ab).f4.f1), .bool ((rd_T39 aa ab).f4.f2), .int .i64 ((rd_T39 aa ab).f5), .bool ((rd_T39 aa ab).f6)] 39 (0, 0)) (by (with_reducible repeat (first | refine bN_ ?_ _ | refine bD_ ?_ | refine bA_ ?_ _)); exact ac.out)) : gb209 ≠ af)); clear ak; clear ap; clear ad; clear HL202_0; clear HL202_1; clear HO205; clear HO208; clear ae; clear ac; clear HR202_0; clear HR202_1; clear HB; have ak := n0_; have ap := n1_; have ad := n2_; have HL202_0 := n3_; have HL202_1 := n4_; have HO205 := n5_; have HO208 := n6_; have ae := n7_; have ac := n8_; have HR202_0 := n9_; have HR202_1 := n10_; have HB := n11_; have an := n12_; have GW209 := n13_; have GE209 := n14_; have NB179_209 := n15_; have NB209_179 := n16_; have NB195_209 := n17_; have NB209_195 := n18_; clear n0_ n1_ n2_ n3_ n4_ n5_ n6_ n7_ n8_ n9_ n10_ n11_ n12_ n13_ n14_ n15_ n16_ n17_ n18_; clear hb hbox hg; obtain ⟨Ao77, co77, eo77⟩ := Kd.R_slice HO205.out; subst eo77; have hnb78 := NB209_179.out; have hnc78 := NB179_209.out; have hnb79 := NB209_195.out; have hnc79 := NB195_209.out; have hcz80_0 : w76.cell? ⟨gb209, 0, none⟩ = some (.slice none 0 0) := (blk_cell an.out 0).trans rfl; have hcz80_1 : w76.cell? ⟨gb209, 1, none⟩ = some (.slice none 0 0) := (blk_cell an.out 1).trans rfl; have hfz80_0 := blk_frozen an.out 0; have hfz80_1 := blk_frozen an.out 1; obtain ⟨Ao81, co81, eo81⟩ := Kd.R_slice HO208.out; subst eo81))
        have n0_ : Aside0 (Kd.N k31 31 ((w76.setCell ⟨gb209, 0, none⟩ (.slice Ao77 t203.length co77)).setCell ⟨gb209, 1, none⟩ (.slice Ao81 t206.length co81)) w.heap.size (fun k_ => (P0_1_ k_ ∨ w.heap.size ≤ k_) ∧ some k_ ≠ (v191 : Value).ownBlock ∧ some k_ ≠ (.slice Ao77 t203.length co77 : Value).ownBlock ∧ some k_ ≠ (.slice Ao81 t206.length co81 : Value).ownBlock ∧ k_ ≠ ag ∧ k_ ≠ af ∧ k_ ≠ gb209) (.slice (some ad202) ai.length co74) ai) := ⟨by (with_reducible repeat (first | apply Kd.N_alloc | apply Kd.N_drewN | apply Kd.N_drew)); exact Kd.N_mono (Kd.N_far (p := ⟨gb209, 1, none⟩) (Kd.N_far (p := ⟨gb209, 0, none⟩) (Kd.N_mono ak.out (fun k_ hk => (⟨hk, hk.2⟩ : _ ∧ k_ ≠ gb209))) (fun _ hk => hk.2) (.slice Ao77 t203.length co77)) (fun _ hk => hk.2) (.slice Ao81 t206.length co81)) (fun _ hk => ⟨hk.1.1.1.1.1, ⟨hk.1.1.1.1.2.1, ⟨hk.1.1.1.2, ⟨hk.1.1.2, ⟨hk.1.1.1.1.2.2.1, ⟨hk.1.1.1.1.2.2.2, hk.1.2⟩⟩⟩⟩⟩⟩)⟩
        have n1_ : Aside0 (Kd.R (Kd.int .i64) 3 ((w76.setCell ⟨gb209, 0, none⟩ (.slice Ao77 t203.length co77)).setCell ⟨gb209, 1, none⟩ (.slice Ao81 t206.length co81)) w.heap.size (fun k_ => (w.heap.size ≤ k_) ∧ some k_ ≠ (.slice Ao81 t206.length co81 : Value).ownBlock) v191 y190) := ⟨by (with_reducible repeat (first | apply Ra_ | apply Rn_ | apply Rd_)); exact Kd.R_mono (Kd.R_far (p := ⟨gb209, 1, none⟩) (Kd.R_far (p := ⟨gb209, 0, none⟩) (Kd.R_types ap.out an.out (by decide)) (fun _ hk => hk.2) (.slice Ao77 t203.length co77)) (fun _ hk => hk.2) (.slice Ao81 t206.length co81)) (fun _ hk => ⟨hk.1.1, hk.1.2⟩)⟩
        have n2_ : Aside0 (Kd.V k31 31 ((w76.setCell ⟨gb209, 0, none⟩ (.slice Ao77 t203.length co77)).setCell ⟨gb209, 1, none⟩ (.slice Ao81 t206.length co81)) w.heap.size (fun k_ => (P0_1_ k_ ∨ w.heap.size ≤ k_) ∧ some k_ ≠ (.slice (some ad202) ai.length co74 : Value).ownBlock ∧ some k_ ≠ (v191 : Value).ownBlock ∧ some k_ ≠ (.slice Ao77 t203.length co77 : Value).ownBlock ∧ some k_ ≠ (.slice Ao81 t206.length co81 : Value).ownBlock ∧ k_ ≠ ag ∧ k_ ≠ af ∧ k_ ≠ gb209) (.slice A0_1 aj.length c0_1) aj) := ⟨by (with_reducible repeat (first | apply Kd.V_alloc | apply Kd.V_drewN | apply Kd.V_drew)); exact Kd.V_mono (Kd.V_far (p := ⟨gb209, 1, none⟩) (Kd.V_far (p := ⟨gb209, 0, none⟩) (Kd.V_mono ad.out (fun k_ hk => (⟨hk, hk.2⟩ : _ ∧ k_ ≠ gb209))) (fun _ hk => hk.2) (.slice Ao77 t203.length co77)) (fun _ hk => hk.2) (.slice Ao81 t206.length co81)) (fun _ hk => ⟨hk.1.1.1.1.1, ⟨hk.1.1.1.1.2.1, ⟨hk.1.1.1.1.2.2.1, ⟨hk.1.1.1.2, ⟨hk.1.1.2, ⟨hk.1.1.1.1.2.2.2.1, ⟨hk.1.1.1.1.2.2.2.2, hk.1.2⟩⟩⟩⟩⟩⟩⟩)⟩
        have n3_ : Aside0 (Kd.V k44 44 ((w76.setCell ⟨gb209, 0, none⟩ (.slice Ao77 t203.length co77)).setCell ⟨gb209, 1, none⟩ (.slice Ao81 t206.length co81)) w.heap.size (fun k_ => (P0_1_ k_ ∨ w.heap.size ≤ k_) ∧ some k_ ≠ (.slice (some ad202) ai.length co74 : Value).ownBlock ∧ some k_ ≠ (v191 : Value).ownBlock ∧ some k_ ≠ (.slice Ao77 t203.length co77 : Value).ownBlock ∧ some k_ ≠ (.slice Ao81 t206.length co81 : Value).ownBlock ∧ k_ ≠ ag ∧ k_ ≠ af ∧ k_ ≠ gb209) (.slice A202_0 ((rd_T31 ai ah).f0).length c202_0) ((rd_T31 ai ah).f0)) := ⟨by (with_reducible repeat (first | apply Kd.V_alloc | apply Kd.V_drewN | apply Kd.V_drew)); exact Kd.V_mono (Kd.V_far (p := ⟨gb209, 1, none⟩) (Kd.V_far (p := ⟨gb209, 0, none⟩) (Kd.V_mono HL202_0.out (fun k_ hk => (⟨hk, hk.2⟩ : _ ∧ k_ ≠ gb209))) (fun _ hk => hk.2) (.slice Ao77 t203.length co77)) (fun _ hk => hk.2) (.slice Ao81 t206.length co81)) (fun _ hk => ⟨hk.1.1.1.1.1.1, ⟨hk.1.1.1.1.2, ⟨hk.1.1.1.1.1.2.1, ⟨hk.1.1.1.2, ⟨hk.1.1.2, ⟨hk.1.1.1.1.1.2.2.1, ⟨hk.1.1.1.1.1.2.2.2, hk.1.2⟩⟩⟩⟩⟩⟩⟩)⟩
        have n4_ : Aside0 (Kd.V (Kd.int .i64) 3 ((w76.setCell ⟨gb209, 0, none⟩ (.slice Ao77 t203.length co77)).setCell ⟨gb209, 1, none⟩ (.slice Ao81 t206.length co81)) w.heap.size (fun k_ => (P0_1_ k_ ∨ w.heap.size ≤ k_) ∧ some k_ ≠ (.slice (some ad202) ai.length co74 : Value).ownBlock ∧ some k_ ≠ (v191 : Value).ownBlock ∧ some k_ ≠ (.slice Ao77 t203.length co77 : Value).ownBlock ∧ some k_ ≠ (.slice Ao81 t206.length co81 : Value).ownBlock ∧ k_ ≠ ag ∧ k_ ≠ af ∧ k_ ≠ gb209) (.slice A202_1 ((rd_T31 ai ah).f1).length c202_1) ((rd_T31 ai ah).f1)) := ⟨by (with_reducible repeat (first | apply Kd.V_alloc | apply Kd.V_drewN | apply Kd.V_drew)); exact Kd.V_mono (Kd.V_far (p := ⟨gb209, 1, none⟩) (Kd.V_far (p := ⟨gb209, 0, none⟩) (Kd.V_mono HL202_1.out (fun k_ hk => (⟨hk, hk.2⟩ : _ ∧ k_ ≠ gb209))) (fun _ hk => hk.2) (.slice Ao77 t203.length co77)) (fun _ hk => hk.2) (.slice Ao81 t206.length co81)) (fun _ hk => ⟨hk.1.1.1.1.1.1, ⟨hk.1.1.1.1.2, ⟨hk.1.1.1.1.1.2.1, ⟨hk.1.1.1.2, ⟨hk.1.1.2, ⟨hk.1.1.1.1.1.2.2.1, ⟨hk.1.1.1.1.1.2.2.2, hk.1.2⟩⟩⟩⟩⟩⟩⟩)⟩
        have n5_ : Aside0 (Kd.R k44 44 ((w76.setCell ⟨gb209, 0, none⟩ (.slice Ao77 t203.length co77)).setCell ⟨gb209, 1, none⟩ (.slice Ao81 t206.length co81)) w.heap.size (fun k_ => (w.heap.size ≤ k_)) (.slice Ao77 t203.length co77) t203) := ⟨by (with_reducible repeat (first | apply Ra_ | apply Rn_ | apply Rd_)); exact Kd.R_mono (Kd.R_far (p := ⟨gb209, 1, none⟩) (Kd.R_far (p := ⟨gb209, 0, none⟩) (Kd.R_types HO205.out an.out (by decide)) (fun _ hk => hk.2) (.slice Ao77 t203.length co77)) (fun _ hk => hk.2) (.slice Ao81 t206.length co81)) (fun _ hk => hk.1.1)⟩
        have n6_ : Aside0 (Kd.R (Kd.int .i64) 3 ((w76.setCell ⟨gb209, 0, none⟩ (.slice Ao77 t203.length co77)).setCell ⟨gb209, 1, none⟩ (.slice Ao81 t206.length co81)) w.heap.size (fun k_ => (w.heap.size ≤ k_) ∧ some k_ ≠ (v191 : Value).ownBlock) (.slice Ao81 t206.length co81) t206) := ⟨by (with_reducible repeat (first | apply Ra_ | apply Rn_ | apply Rd_)); exact Kd.R_mono (Kd.R_far (p := ⟨gb209, 1, none⟩) (Kd.R_far (p := ⟨gb209, 0, none⟩) (Kd.R_types HO208.out an.out (by decide)) (fun _ hk => hk.2) (.slice Ao77 t203.length co77)) (fun _ hk => hk.2) (.slice Ao81 t206.length co81)) (fun _ hk => ⟨hk.1.1.1, hk.1.2⟩)⟩
        have n7_ : Aside0 (((w76.setCell ⟨gb209, 0, none⟩ (.slice Ao77 t203.length co77)).setCell ⟨gb209, 1, none⟩ (.slice Ao81 t206.length co81)).heap[ag]? = some (.cells #[.slice (some ad194) aa.length c0_0, .slice A0_1 aj.length c0_1, .slice A0_2 ao.length c0_2] 26 (0, 0))) := ⟨by (with_reducible repeat (first | refine bN_ ?_ _ | refine bD_ ?_ | refine bA_ ?_ _)); refine blk_far ?_ NB179_209.out _; (with_reducible repeat (first | refine bN_ ?_ _ | refine bD_ ?_ | refine bA_ ?_ _)); refine blk_far ?_ NB179_209.out _; (with_reducible repeat (first | refine bN_ ?_ _ | refine bD_ ?_ | refine bA_ ?_ _)); exact ae.out⟩
        have n8_ : Aside0 (((w76.setCell ⟨gb209, 0, none⟩ (.slice Ao77 t203.length co77)).setCell ⟨gb209, 1, none⟩ (.slice Ao81 t206.length co81)).heap[af]? = some (.cells #[.int .i64 ((rd_T39 aa ab).f0), .int .i64 ((rd_T39 aa ab).f1), .string ((rd_T39 aa ab).f2), .string ((rd_T39 aa ab).f3), .string ((rd_T39 aa ab).f4.f0), .string ((rd_T39 aa ab).f4.f1), .bool ((rd_T39 aa ab).f4.f2), .int .i64 ((rd_T39 aa ab).f5), .bool ((rd_T39 aa ab).f6)] 39 (0, 0))) := ⟨by (with_reducible repeat (first | refine bN_ ?_ _ | refine bD_ ?_ | refine bA_ ?_ _)); refine blk_far ?_ NB195_209.out _; (with_reducible repeat (first | refine bN_ ?_ _ | refine bD_ ?_ | refine bA_ ?_ _)); refine blk_far ?_ NB195_209.out _; (with_reducible repeat (first | refine bN_ ?_ _ | refine bD_ ?_ | refine bA_ ?_ _)); exact ac.out⟩
        have n9_ : Aside0 (((w76.setCell ⟨gb209, 0, none⟩ (.slice Ao77 t203.length co77)).setCell ⟨gb209, 1, none⟩ (.slice Ao81 t206.length co81)).heap[gb209]? = some (.cells #[.slice Ao77 t203.length co77, .slice Ao81 t206.length co81] 31 (0, 0))) := ⟨by (with_reducible repeat (first | refine bN_ ?_ _ | refine bD_ ?_ | refine bA_ ?_ _)); refine blk_put (cs := #[.slice Ao77 t203.length co77, .slice none 0 0]) ?_ 1 _ rfl; (with_reducible repeat (first | refine bN_ ?_ _ | refine bD_ ?_ | refine bA_ ?_ _)); refine blk_put (cs := #[.slice none 0 0, .slice none 0 0]) ?_ 0 _ rfl; (with_reducible repeat (first | refine bN_ ?_ _ | refine bD_ ?_ | refine bA_ ?_ _)); exact an.out⟩
        have n10_ : Aside0 (Below w.heap.size w ((w76.setCell ⟨gb209, 0, none⟩ (.slice Ao77 t203.length co77)).setCell ⟨gb209, 1, none⟩ (.slice Ao81 t206.length co81))) := ⟨by repeat (first | (with_reducible first | exact HB.out | apply bL_ | apply pN_ | apply b1_ | refine bs_ ?_ GE179.out | refine bs_ ?_ GE195.out | refine bs_ ?_ GE209.out) | exact HB.out)⟩
        (try clear ak)
        (try clear ap)
        (try clear ad)
        (try clear HL202_0)
        (try clear HL202_1)
        (try clear HO205)
        (try clear HO208)
        (try clear ae)
        (try clear ac)
        (try clear an)
        (try clear HB)
        generalize ((w76.setCell ⟨gb209, 0, none⟩ (.slice Ao77 t203.length co77)).setCell ⟨gb209, 1, none⟩ (.slice Ao81 t206.length co81)) = w82 at n0_ n1_ n2_ n3_ n4_ n5_ n6_ n7_ n8_ n9_ n10_ ⊢
        have ak := n0_
        have ap := n1_
        have ad := n2_
        have HL202_0 := n3_
        have HL202_1 := n4_
        have HO205 := n5_
        have HO208 := n6_
        have ae := n7_
        have ac := n8_
        have an := n9_
        have HB := n10_
        clear n0_ n1_ n2_ n3_ n4_ n5_ n6_ n7_ n8_ n9_ n10_
        have n0_ := mk0 (Kd.N_drew ak.out)
        have n1_ := mk0 (Rd_ ap.out)
        have n2_ := mk0 (Kd.V_drew ad.out)
        have n3_ := mk0 (Kd.V_drew HL202_0.out)
        have n4_ := mk0 (Kd.V_drew HL202_1.out)
        have n5_ := mk0 (Rd_ HO205.out)
        have n6_ := mk0 (Rd_ HO208.out)
        have n7_ := mk0 (bD_ ae.out)
        have n8_ := mk0 (bD_ ac.out)
        have n9_ := mk0 (bD_ an.out)
        have n10_ := mk0 (b1_ HB.out)
        clear ak
        clear ap
        clear ad
        clear HL202_0
        clear HL202_1
        clear HO205
        clear HO208
        clear ae
        clear ac
        clear an
        clear HB
        have ak := n0_
        have ap := n1_
        have ad := n2_
        have HL202_0 := n3_
        have HL202_1 := n4_
        have HO205 := n5_
        have HO208 := n6_
        have ae := n7_
        have ac := n8_
        have an := n9_
        have HB := n10_
        clear n0_ n1_ n2_ n3_ n4_ n5_ n6_ n7_ n8_ n9_ n10_
        obtain ⟨Ao84, co84, eo84⟩ := Kd.R_slice ap.out
        (first | subst eo84 | (injection eo84 with f1_ f2_ f3_; have f4_ := f1_.symm; have f5_ := f3_.symm; clear f1_ f2_ f3_; subst f4_; subst f5_))
        have p210 : 0 ≤ (x10_6 : Int) := of_decide_eq_true (by first | (with_reducible assumption) | assumption)
        have q210 : x10_6 < (y190.length : Int) := of_decide_eq_true (by first | (with_reducible assumption) | assumption)
        obtain ⟨ad210, e210, hx210_0⟩ := Kd.at_int (Kd.R_reads' ap.out).2.2 x10_6 p210 q210
        cases e210
        replace p210 := eq_true p210
        replace q210 := eq_true q210
        refine start_ (n := 12) (S := fun w' => w'.cell? ⟨af, 0, none⟩ = some (.int .i64 ((rd_T39 aa ab).f0)) ∧ w'.cell? ⟨af, 1, none⟩ = some (.int .i64 ((rd_T39 aa ab).f1)) ∧ w'.cell? ⟨af, 2, none⟩ = some (.string ((rd_T39 aa ab).f2)) ∧ w'.cell? ⟨af, 3, none⟩ = some (.string ((rd_T39 aa ab).f3)) ∧ w'.cell? ⟨af, 4, none⟩ = some (.string ((rd_T39 aa ab).f4.f0)) ∧ w'.cell? ⟨af, 5, none⟩ = some (.string ((rd_T39 aa ab).f4.f1)) ∧ w'.cell? ⟨af, 6, none⟩ = some (.bool ((rd_T39 aa ab).f4.f2)) ∧ w'.cell? ⟨af, 7, none⟩ = some (.int .i64 ((rd_T39 aa ab).f5)) ∧ w'.cell? ⟨af, 8, none⟩ = some (.bool ((rd_T39 aa ab).f6)) ∧ w'.cell? ⟨gb209, 0, none⟩ = some (.slice Ao77 t203.length co77) ∧ w'.cell? ⟨gb209, 1, none⟩ = some (.slice Ao81 t206.length co81) ∧ w'.cell? (ad210.add (x10_6).toNat) = some (.int .i64 (rd y190 x10_6))) (ds := []) (bt 12 0) (by kernel_rfl) rfl rfl ⟨(blk_cell ac.out 0).trans rfl, (blk_cell ac.out 1).trans rfl, (blk_cell ac.out 2).trans rfl, (blk_cell ac.out 3).trans rfl, (blk_cell ac.out 4).trans rfl, (blk_cell ac.out 5).trans rfl, (blk_cell ac.out 6).trans rfl, (blk_cell ac.out 7).trans rfl, (blk_cell ac.out 8).trans rfl, (blk_cell an.out 0).trans rfl, (blk_cell an.out 1).trans rfl, hx210_0⟩ (fun hHeld => ?_); refine with_tabW quorumlaw12_PlanLocks.tab24 quorumlaw12_PlanLocks.bits24 (fun HT_ HW_ => ?_)
        generalize w82.drew = w83 at ak ap ad HL202_0 HL202_1 HO205 HO208 ae ac an HB hx210_0 hHeld ⊢
        refine p1 HT_.out 2 94 (bt 12 4) rfl rfl (by kernel_rfl) (fun _ _ _ h => h) (by rfl) (by intro w'; go_simp; with_reducible rfl) (by simp only [z_]; rfl) ?_
        refine p1 HT_.out 3 95 (bt 12 12) rfl rfl (by kernel_rfl) (fun _ _ _ h => h) (by rfl) (by intro w'; go_simp; with_reducible rfl) (by simp only [z_]; rfl) ?_
        refine p1 HT_.out 4 96 (bt 12 28) rfl rfl (by kernel_rfl) (fun _ _ _ h => h) (by rfl) (by intro w'; go_simp; with_reducible rfl) (by simp only [z_]; rfl) ?_
        refine t1 HT_.out HW_.out 0 92 (bt 12 29) rfl rfl (by kernel_rfl) (fun _ _ _ h => h) (by rfl) (by rintro w' ⟨s0, s1, s2, s3, s4, s5, s6, s7, s8, s9, s10, s11⟩; go_simp; with_reducible rfl) hHeld (by simp only [z_]; rfl) ?_
        refine t1 HT_.out HW_.out 1 93 (bt 12 31) rfl rfl (by kernel_rfl) (fun _ _ _ h => h) (by rfl) (by rintro w' ⟨s0, s1, s2, s3, s4, s5, s6, s7, s8, s9, s10, s11⟩; go_simp; with_reducible rfl) hHeld (by simp only [z_]; rfl) ?_
        refine t1 HT_.out HW_.out 5 97 (bt 12 63) rfl rfl (by kernel_rfl) (fun _ _ _ h => h) (by rfl) (by rintro w' ⟨s0, s1, s2, s3, s4, s5, s6, s7, s8, s9, s10, s11⟩; go_simp; with_reducible rfl) hHeld (by simp only [z_]; rfl) ?_
        refine one_ (i := 6) (N := some 98) (bt 12 127) rfl rfl (one_of HT_.out (by kernel_rfl)) (by decide) (fun K hK => ?_)
        refine goes_ Try.func17 (by kernel_rfl) rfl #[.agg #[.int .i64 ((rd_T39 aa ab).f0), .int .i64 ((rd_T39 aa ab).f1), .string ((rd_T39 aa ab).f2), .string ((rd_T39 aa ab).f3), .string ((rd_T39 aa ab).f4.f0), .string ((rd_T39 aa ab).f4.f1), .bool ((rd_T39 aa ab).f4.f2), .int .i64 ((rd_T39 aa ab).f5), .bool ((rd_T39 aa ab).f6)], .agg #[.slice Ao77 t203.length co77, .slice Ao81 t206.length co81], .int .i64 (rd y190 x10_6)] (by rfl) rfl rfl (by (try simp only [List.map_toArray, List.map_cons, List.map_nil]); first | done | rfl | (simp only [List.length_drop, List.length_take]; rfl)) ?_
        with_reducible refine (plan_Locks.calls kj61 ((rd_T39 aa ab).f0) ((rd_T39 aa ab).f1) ((rd_T39 aa ab).f2) ((rd_T39 aa ab).f3) ((rd_T39 aa ab).f4.f0) ((rd_T39 aa ab).f4.f1) ((rd_T39 aa ab).f4.f2) ((rd_T39 aa ab).f5) ((rd_T39 aa ab).f6) _ _ t203 _ _ t206 (rd y190 x10_6) t211 t214 _ ?side1 ?side2 ?side3 ?side4 A72.out).mono ?_
        (case side1 => repeat (first | exact (Kd.R_reads' HO205.out).2.2 | (with_reducible refine Kd.C_alloc ?_ _) | (with_reducible refine Kd.C_drewN ?_ _) | (with_reducible refine Kd.C_drew ?_)))
        (case side2 => exact (Kd.R_reads' HO205.out).2.1)
        (case side3 => repeat (first | exact (Kd.R_reads' HO208.out).2.2 | (with_reducible refine Kd.C_alloc ?_ _) | (with_reducible refine Kd.C_drewN ?_ _) | (with_reducible refine Kd.C_drew ?_)))
        (case side4 => exact (Kd.R_reads' HO208.out).2.1)
        rintro e w85 ⟨v212, rfl, ho0, hb⟩
        have HS11_ := (hb.cell (World.block_lt_of_cell? _ _ (hHeld.2.2.2.2.2.2.2.2.2.2.2))).trans (hHeld.2.2.2.2.2.2.2.2.2.2.2)
        refine ⟨_, rfl, ?_⟩
        have n0_ := mk0 (Kd.N_elder' (by (with_reducible repeat (first | apply Kd.N_alloc | apply Kd.N_drewN | apply Kd.N_drew)); exact ak.out) (Kd.R_base ho0) hb)
        have n1_ := mk0 (Kd.R_below (by (with_reducible repeat (first | apply Ra_ | apply Rn_ | apply Rd_)); exact ap.out) hb)
        have n2_ := mk0 (Kd.V_elder' (by (with_reducible repeat (first | apply Kd.V_alloc | apply Kd.V_drewN | apply Kd.V_drew)); exact ad.out) (Kd.R_base ho0) hb)
        have n3_ := mk0 (Kd.V_elder' (by (with_reducible repeat (first | apply Kd.V_alloc | apply Kd.V_drewN | apply Kd.V_drew)); exact HL202_0.out) (Kd.R_base ho0) hb)
        have n4_ := mk0 (Kd.V_elder' (by (with_reducible repeat (first | apply Kd.V_alloc | apply Kd.V_drewN | apply Kd.V_drew)); exact HL202_1.out) (Kd.R_base ho0) hb)
        have n5_ := mk0 (Kd.R_below (by (with_reducible repeat (first | apply Ra_ | apply Rn_ | apply Rd_)); exact HO205.out) hb)
        have n6_ := mk0 (Kd.R_below (by (with_reducible repeat (first | apply Ra_ | apply Rn_ | apply Rd_)); exact HO208.out) hb)
        have n7_ := mk0 (Kd.R_lower (Kd.R_newM (M := fun k_ => (w.heap.size ≤ k_)) ho0 (bz_ (by repeat (first | (with_reducible first | exact HB.out | apply bL_ | apply pN_ | apply b1_ | refine bs_ ?_ GE179.out | refine bs_ ?_ GE195.out | refine bs_ ?_ GE209.out) | exact HB.out))) (fun k_ h_ => h_)) (bz_ (by repeat (first | (with_reducible first | exact HB.out | apply bL_ | apply pN_ | apply b1_ | refine bs_ ?_ GE179.out | refine bs_ ?_ GE195.out | refine bs_ ?_ GE209.out) | exact HB.out))))
        have n8_ := mk0 (blk_below (g := ag) (o := .cells #[.slice (some ad194) aa.length c0_0, .slice A0_1 aj.length c0_1, .slice A0_2 ao.length c0_2] 26 (0, 0)) (by (with_reducible repeat (first | refine bN_ ?_ _ | refine bD_ ?_ | refine bA_ ?_ _)); exact ae.out) hb)
        have n9_ := mk0 (blk_below (g := af) (o := .cells #[.int .i64 ((rd_T39 aa ab).f0), .int .i64 ((rd_T39 aa ab).f1), .string ((rd_T39 aa ab).f2), .string ((rd_T39 aa ab).f3), .string ((rd_T39 aa ab).f4.f0), .string ((rd_T39 aa ab).f4.f1), .bool ((rd_T39 aa ab).f4.f2), .int .i64 ((rd_T39 aa ab).f5), .bool ((rd_T39 aa ab).f6)] 39 (0, 0)) (by (with_reducible repeat (first | refine bN_ ?_ _ | refine bD_ ?_ | refine bA_ ?_ _)); exact ac.out) hb)
        have n10_ := mk0 (blk_below (g := gb209) (o := .cells #[.slice Ao77 t203.length co77, .slice Ao81 t206.length co81] 31 (0, 0)) (by (with_reducible repeat (first | refine bN_ ?_ _ | refine bD_ ?_ | refine bA_ ?_ _)); exact an.out) hb)
        have n11_ := mk0 (bt_ (by repeat (first | (with_reducible first | exact HB.out | apply bL_ | apply pN_ | apply b1_ | refine bs_ ?_ GE179.out | refine bs_ ?_ GE195.out | refine bs_ ?_ GE209.out) | exact HB.out)) hb)
        clear ak
        clear ap
        clear ad
        clear HL202_0
        clear HL202_1
        clear HO205
        clear HO208
        clear ae
        clear ac
        clear an
        clear HB
        have ak := n0_
        have ap := n1_
        have ad := n2_
        have HL202_0 := n3_
        have HL202_1 := n4_
        have HO205 := n5_
        have HO208 := n6_
        have HO213 := n7_
        have ae := n8_
        have ac := n9_
        have an := n10_
        have HB := n11_
        clear n0_ n1_ n2_ n3_ n4_ n5_ n6_ n7_ n8_ n9_ n10_ n11_
        (try clear hb)
        (try clear hb2)
        (try clear hk)
        (try clear hi)
        (try clear ho0)
        refine hK.out _ _ ⟨(blk_cell ac.out 0).trans rfl, (blk_cell ac.out 1).trans rfl, (blk_cell ac.out 2).trans rfl, (blk_cell ac.out 3).trans rfl, (blk_cell ac.out 4).trans rfl, (blk_cell ac.out 5).trans rfl, (blk_cell ac.out 6).trans rfl, (blk_cell ac.out 7).trans rfl, (blk_cell ac.out 8).trans rfl, (blk_cell an.out 0).trans rfl, (blk_cell an.out 1).trans rfl, HS11_⟩ (fun hHeld => ?_)
        clear hK K
        refine norm_ (a' := ?_) ?_ ?_
        rotate_left
        ·show Act.put _ (some 98) _ = _
         simp only [z_]
         rfl
        refine p1 HT_.out 7 91 (bt 12 255) rfl rfl (by kernel_rfl) (fun _ _ _ h => h) (by rfl) (by intro w'; go_simp; with_reducible rfl) (by simp only [z_]; rfl) ?_
        refine p1 HT_.out 8 99 (bt 12 511) rfl rfl (by kernel_rfl) (fun _ _ _ h => h) (by rfl) (by intro w'; go_simp; with_reducible rfl) (by simp only [z_]; rfl) ?_
        refine p1 HT_.out 9 100 (bt 12 1023) rfl rfl (by kernel_rfl) (fun _ _ _ h => h) (by rfl) (by intro w'; go_simp; with_reducible rfl) (by simp only [z_]; rfl) ?_
        refine p1 HT_.out 10 12 (bt 12 2047) rfl rfl (by kernel_rfl) (fun _ _ _ h => h) (by rfl) (by intro w'; go_simp; with_reducible rfl) (by simp only [z_]; rfl) ?_
        refine p1 HT_.out 11 13 (bt 12 4095) rfl rfl (by kernel_rfl) (fun _ _ _ h => h) (by rfl) (by intro w'; go_simp; with_reducible rfl) (by simp only [z_]; rfl) ?_
        refine done_ (done_of HT_.out (by kernel_rfl)) ?_
        go_upto_region 27 with (fail)
        go_cut [116] (fun v116 wc => ∃ (kq : Nat) (x116_72 : Bool), v116 = .bool x116_72 ∧ Aside0 (quorumlaw12_PlanLocks.j8 kq ai y190 ab ah x10_6 t211 t214 1 ([] : List (S42)) x116_72 aa aj ao ((rd_T39 aa ab).f0) ((rd_T39 aa ab).f1) ((rd_T39 aa ab).f2) ((rd_T39 aa ab).f3) ((rd_T39 aa ab).f4.f0) ((rd_T39 aa ab).f4.f1) ((rd_T39 aa ab).f4.f2) ((rd_T39 aa ab).f5) ((rd_T39 aa ab).f6) t203 t206 = some r) ∧ Aside0 (kq ≤ kj61) ∧ Aside0 (Kd.N k31 31 wc w.heap.size (fun k_ => (P0_1_ k_ ∨ w.heap.size ≤ k_) ∧ some k_ ≠ ((.slice (some ad210) y190.length co84) : Value).ownBlock ∧ some k_ ≠ (v212 : Value).ownBlock ∧ some k_ ≠ ((.slice none 0 0) : Value).ownBlock ∧ some k_ ≠ ((.slice Ao77 t203.length co77) : Value).ownBlock ∧ some k_ ≠ ((.slice Ao81 t206.length co81) : Value).ownBlock ∧ k_ ≠ ag ∧ k_ ≠ af ∧ k_ ≠ gb209) (.slice (some ad202) ai.length co74) ai) ∧ Aside0 (Kd.R (Kd.int .i64) 3 wc w.heap.size (fun k_ => (w.heap.size ≤ k_) ∧ some k_ ≠ ((.slice Ao81 t206.length co81) : Value).ownBlock) (.slice (some ad210) y190.length co84) y190) ∧ Aside0 (Kd.R k42 42 wc w.heap.size (fun k_ => (w.heap.size ≤ k_) ∧ some k_ ≠ ((.slice none 0 0) : Value).ownBlock) v212 t211) ∧ Aside0 (Kd.R k42 42 wc w.heap.size (fun k_ => (w.heap.size ≤ k_) ∧ some k_ ≠ (v212 : Value).ownBlock) (.slice none 0 0) ([] : List (S42))) ∧ Aside0 (Kd.V k31 31 wc w.heap.size (fun k_ => (P0_1_ k_ ∨ w.heap.size ≤ k_) ∧ some k_ ≠ ((.slice (some ad202) ai.length co74) : Value).ownBlock ∧ some k_ ≠ ((.slice (some ad210) y190.length co84) : Value).ownBlock ∧ some k_ ≠ (v212 : Value).ownBlock ∧ some k_ ≠ ((.slice none 0 0) : Value).ownBlock ∧ some k_ ≠ ((.slice Ao77 t203.length co77) : Value).ownBlock ∧ some k_ ≠ ((.slice Ao81 t206.length co81) : Value).ownBlock ∧ k_ ≠ ag ∧ k_ ≠ af ∧ k_ ≠ gb209) (.slice A0_1 aj.length c0_1) aj) ∧ Aside0 (Kd.R k44 44 wc w.heap.size (fun k_ => (w.heap.size ≤ k_)) (.slice Ao77 t203.length co77) t203) ∧ Aside0 (Kd.R (Kd.int .i64) 3 wc w.heap.size (fun k_ => (w.heap.size ≤ k_) ∧ some k_ ≠ ((.slice (some ad210) y190.length co84) : Value).ownBlock) (.slice Ao81 t206.length co81) t206) ∧ Aside0 (wc.heap[ag]? = some (.cells #[(.slice (some ad194) aa.length c0_0), (.slice A0_1 aj.length c0_1), (.slice A0_2 ao.length c0_2)] 26 (0, 0))) ∧ Aside0 (wc.heap[af]? = some (.cells #[.int .i64 ((rd_T39 aa ab).f0), .int .i64 ((rd_T39 aa ab).f1), .string ((rd_T39 aa ab).f2), .string ((rd_T39 aa ab).f3), .string ((rd_T39 aa ab).f4.f0), .string ((rd_T39 aa ab).f4.f1), .bool ((rd_T39 aa ab).f4.f2), .int .i64 ((rd_T39 aa ab).f5), .bool ((rd_T39 aa ab).f6)] 39 (0, 0))) ∧ Aside0 (wc.heap[gb209]? = some (.cells #[(.slice Ao77 t203.length co77), (.slice Ao81 t206.length co81)] 31 (0, 0))) ∧ Aside0 (Below w.heap.size w wc))
        case first =>
         have H := HC73.out
         clear HC73
         replace H := Option.bind_eq_some_iff.mp H
         obtain ⟨t215, A860, H⟩ := H
         replace H : (if t215 = true then ((quorumref8_Pend.f kj61 ((rd_T31 ai ah).f0) ((rd_T31 ai ah).f1)).bind fun t217 => (if t217 = true then ((quorumref0_Num.f (rd y190 x10_6) 1073741824).bind fun t219 => (quorumlaw12_PlanLocks.j8 kj61 ai y190 ab ah x10_6 t211 t214 1 ([] : List (S42)) t219 aa aj ao ((rd_T39 aa ab).f0) ((rd_T39 aa ab).f1) ((rd_T39 aa ab).f2) ((rd_T39 aa ab).f3) ((rd_T39 aa ab).f4.f0) ((rd_T39 aa ab).f4.f1) ((rd_T39 aa ab).f4.f2) ((rd_T39 aa ab).f5) ((rd_T39 aa ab).f6) t203 t206)) else (quorumlaw12_PlanLocks.j8 kj61 ai y190 ab ah x10_6 t211 t214 1 ([] : List (S42)) false aa aj ao ((rd_T39 aa ab).f0) ((rd_T39 aa ab).f1) ((rd_T39 aa ab).f2) ((rd_T39 aa ab).f3) ((rd_T39 aa ab).f4.f0) ((rd_T39 aa ab).f4.f1) ((rd_T39 aa ab).f4.f2) ((rd_T39 aa ab).f5) ((rd_T39 aa ab).f6) t203 t206))) else (quorumlaw12_PlanLocks.j8 kj61 ai y190 ab ah x10_6 t211 t214 1 ([] : List (S42)) false aa aj ao ((rd_T39 aa ab).f0) ((rd_T39 aa ab).f1) ((rd_T39 aa ab).f2) ((rd_T39 aa ab).f3) ((rd_T39 aa ab).f4.f0) ((rd_T39 aa ab).f4.f1) ((rd_T39 aa ab).f4.f2) ((rd_T39 aa ab).f5) ((rd_T39 aa ab).f6) t203 t206)) = some r := H
         have A86 := mk0 A860
         clear A860
         by_cases c87 : t215 = true
         rotate_left
         ·replace c87 := Bool.eq_false_iff.mpr c87
          subst c87
          have H1 : (quorumlaw12_PlanLocks.j8 kj61 ai y190 ab ah x10_6 t211 t214 1 ([] : List (S42)) false aa aj ao ((rd_T39 aa ab).f0) ((rd_T39 aa ab).f1) ((rd_T39 aa ab).f2) ((rd_T39 aa ab).f3) ((rd_T39 aa ab).f4.f0) ((rd_T39 aa ab).f4.f1) ((rd_T39 aa ab).f4.f2) ((rd_T39 aa ab).f5) ((rd_T39 aa ab).f6) t203 t206) = some r := by rw [if_neg (show ¬ (false = true) by decide)] at H; exact H
          clear H
          have H := H1
          clear H1
          have H' := mk0 H
          clear H
          have hnb101 := NB195_179.out
          have hnc101 := NB179_195.out
          have hnb102 := NB195_209.out
          have hnc102 := NB209_195.out
          have hcz103_0 : w85.cell? ⟨af, 0, none⟩ = some (.int .i64 ((rd_T39 aa ab).f0)) := (blk_cell ac.out 0).trans rfl
          have hcz103_1 : w85.cell? ⟨af, 1, none⟩ = some (.int .i64 ((rd_T39 aa ab).f1)) := (blk_cell ac.out 1).trans rfl
          have hcz103_2 : w85.cell? ⟨af, 2, none⟩ = some (.string ((rd_T39 aa ab).f2)) := (blk_cell ac.out 2).trans rfl
          have hcz103_3 : w85.cell? ⟨af, 3, none⟩ = some (.string ((rd_T39 aa ab).f3)) := (blk_cell ac.out 3).trans rfl
          have hcz103_4 : w85.cell? ⟨af, 4, none⟩ = some (.string ((rd_T39 aa ab).f4.f0)) := (blk_cell ac.out 4).trans rfl
          have hcz103_5 : w85.cell? ⟨af, 5, none⟩ = some (.string ((rd_T39 aa ab).f4.f1)) := (blk_cell ac.out 5).trans rfl
          have hcz103_6 : w85.cell? ⟨af, 6, none⟩ = some (.bool ((rd_T39 aa ab).f4.f2)) := (blk_cell ac.out 6).trans rfl
          have hcz103_7 : w85.cell? ⟨af, 7, none⟩ = some (.int .i64 ((rd_T39 aa ab).f5)) := (blk_cell ac.out 7).trans rfl
          have hcz103_8 : w85.cell? ⟨af, 8, none⟩ = some (.bool ((rd_T39 aa ab).f6)) := (blk_cell ac.out 8).trans rfl
          have hfz103_0 := blk_frozen ac.out 0
          have hfz103_1 := blk_frozen ac.out 1
          have hfz103_2 := blk_frozen ac.out 2
          have hfz103_3 := blk_frozen ac.out 3
          have hfz103_4 := blk_frozen ac.out 4
          have hfz103_5 := blk_frozen ac.out 5
          have hfz103_6 := blk_frozen ac.out 6
          have hfz103_7 := blk_frozen ac.out 7
          have hfz103_8 := blk_frozen ac.out 8
          go_wp2_with (first | ((with_reducible refine gate_callee (f := 52) rfl ?_); refine goesL_ (some 102) rfl rfl Try.func52 (by kernel_rfl) rfl #[.agg #[.int .i64 ((rd_T39 aa ab).f0), .int .i64 ((rd_T39 aa ab).f1), .string ((rd_T39 aa ab).f2), .string ((rd_T39 aa ab).f3), .string ((rd_T39 aa ab).f4.f0), .string ((rd_T39 aa ab).f4.f1), .bool ((rd_T39 aa ab).f4.f2), .int .i64 ((rd_T39 aa ab).f5), .bool ((rd_T39 aa ab).f6)], .int .i64 3] rfl (by (try simp only [List.map_toArray, List.map_cons, List.map_nil]); first | done | rfl | (simp only [List.length_drop, List.length_take]; rfl)) ?_; (with_reducible refine (quorumref12_Op.calls ((rd_T39 aa ab).f0) ((rd_T39 aa ab).f1) ((rd_T39 aa ab).f2) ((rd_T39 aa ab).f3) ((rd_T39 aa ab).f4.f0) ((rd_T39 aa ab).f4.f1) ((rd_T39 aa ab).f4.f2) ((rd_T39 aa ab).f5) ((rd_T39 aa ab).f6) 3 false _ A86.out).mono ?_); rintro e w104 ⟨rfl, hb⟩; refine ⟨_, rfl, ?_⟩; have n0_ := mk0 (Kd.N_below (by (with_reducible repeat (first | apply Kd.N_alloc | apply Kd.N_drewN | apply Kd.N_drew)); exact ak.out) hb); have n1_ := mk0 (Kd.R_below (by (with_reducible repeat (first | apply Ra_ | apply Rn_ | apply Rd_)); exact ap.out) hb); have n2_ := mk0 (Kd.V_below (by (with_reducible repeat (first | apply Kd.V_alloc | apply Kd.V_drewN | apply Kd.V_drew)); exact ad.out) hb); have n3_ := mk0 (Kd.V_below (by (with_reducible repeat (first | apply Kd.V_alloc | apply Kd.V_drewN | apply Kd.V_drew)); exact HL202_0.out) hb); have n4_ := mk0 (Kd.V_below (by (with_reducible repeat (first | apply Kd.V_alloc | apply Kd.V_drewN | apply Kd.V_drew)); exact HL202_1.out) hb); have n5_ := mk0 (Kd.R_below (by (with_reducible repeat (first | apply Ra_ | apply Rn_ | apply Rd_)); exact HO205.out) hb); have n6_ := mk0 (Kd.R_below (by (with_reducible repeat (first | apply Ra_ | apply Rn_ | apply Rd_)); exact HO208.out) hb); have n7_ := mk0 (Kd.R_below (by (with_reducible repeat (first | apply Ra_ | apply Rn_ | apply Rd_)); exact HO213.out) hb); have n8_ := mk0 (blk_below (g := ag) (o := .cells #[.slice (some ad194) aa.length c0_0, .slice A0_1 aj.length c0_1, .slice A0_2 ao.length c0_2] 26 (0, 0)) (by (with_reducible repeat (first | refine bN_ ?_ _ | refine bD_ ?_ | refine bA_ ?_ _)); exact ae.out) hb); have n9_ := mk0 (blk_below (g := af) (o := .cells #[.int .i64 ((rd_T39 aa ab).f0), .int .i64 ((rd_T39 aa ab).f1), .string ((rd_T39 aa ab).f2), .string ((rd_T39 aa ab).f3), .string ((rd_T39 aa ab).f4.f0), .string ((rd_T39 aa ab).f4.f1), .bool ((rd_T39 aa ab).f4.f2), .int .i64 ((rd_T39 aa ab).f5), .bool ((rd_T39 aa ab).f6)] 39 (0, 0)) (by (with_reducible repeat (first | refine bN_ ?_ _ | refine bD_ ?_ | refine bA_ ?_ _)); exact ac.out) hb); have n10_ := mk0 (blk_below (g := gb209) (o := .cells #[.slice Ao77 t203.length co77, .slice Ao81 t206.length co81] 31 (0, 0)) (by (with_reducible repeat (first | refine bN_ ?_ _ | refine bD_ ?_ | refine bA_ ?_ _)); exact an.out) hb); have n11_ := mk0 (bt_ (by repeat (first | (with_reducible first | exact HB.out | apply bL_ | apply pN_ | apply b1_ | refine bs_ ?_ GE179.out | refine bs_ ?_ GE195.out | refine bs_ ?_ GE209.out) | exact HB.out)) hb); clear ak; clear ap; clear ad; clear HL202_0; clear HL202_1; clear HO205; clear HO208; clear HO213; clear ae; clear ac; clear an; clear HB; have ak := n0_; have ap := n1_; have ad := n2_; have HL202_0 := n3_; have HL202_1 := n4_; have HO205 := n5_; have HO208 := n6_; have HO213 := n7_; have ae := n8_; have ac := n9_; have an := n10_; have HB := n11_; clear n0_ n1_ n2_ n3_ n4_ n5_ n6_ n7_ n8_ n9_ n10_ n11_; (try clear hb); (try clear hb2); (try clear hk); (try clear hi)))
          go_meet
          case rel => exact ⟨_, (false), (by first | rfl | (simp; done) | (simp [*]; done)), H', ⟨by have := HK1.out; have := HJ19.out; have := HK3.out; have := HK4.out; have := HJ56.out; have := HK6.out; have := HJ61.out; first | omega | exact Nat.le_refl _⟩, ⟨by (with_reducible repeat (first | apply Kd.N_alloc | apply Kd.N_drewN | apply Kd.N_drew)); exact Kd.N_mono ak.out (fun _ hk => ⟨hk.1.1, ⟨hk.1.2.1, ⟨hk.2, ⟨(by simp [Value.ownBlock]), ⟨hk.1.2.2.1, ⟨hk.1.2.2.2.1, ⟨hk.1.2.2.2.2.1, ⟨hk.1.2.2.2.2.2.1, hk.1.2.2.2.2.2.2⟩⟩⟩⟩⟩⟩⟩⟩)⟩, ⟨by (with_reducible repeat (first | apply Ra_ | apply Rn_ | apply Rd_)); exact ap.out⟩, ⟨by (with_reducible repeat (first | apply Ra_ | apply Rn_ | apply Rd_)); exact Kd.R_mono HO213.out (fun _ hk => ⟨hk.1, (by simp [Value.ownBlock])⟩)⟩, ⟨by first | exact Kd.R_nil _ _ _ _ _ | exact Kd.N_nil _ _ _ _ _ | exact Kd.V_nil _ _ _ _ _ | exact Kd.Q_nil _ _ _ _ _ | exact Kd.S_nil _ _ _ _ _⟩, ⟨by (with_reducible repeat (first | apply Kd.V_alloc | apply Kd.V_drewN | apply Kd.V_drew)); exact Kd.V_mono ad.out (fun _ hk => ⟨hk.1.1, ⟨hk.1.2.1, ⟨hk.1.2.2.1, ⟨hk.2, ⟨(by simp [Value.ownBlock]), ⟨hk.1.2.2.2.1, ⟨hk.1.2.2.2.2.1, ⟨hk.1.2.2.2.2.2.1, ⟨hk.1.2.2.2.2.2.2.1, hk.1.2.2.2.2.2.2.2⟩⟩⟩⟩⟩⟩⟩⟩⟩)⟩, ⟨by (with_reducible repeat (first | apply Ra_ | apply Rn_ | apply Rd_)); exact HO205.out⟩, ⟨by (with_reducible repeat (first | apply Ra_ | apply Rn_ | apply Rd_)); exact HO208.out⟩, ⟨by (with_reducible repeat (first | refine bN_ ?_ _ | refine bD_ ?_ | refine bA_ ?_ _)); exact ae.out⟩, ⟨by (with_reducible repeat (first | refine bN_ ?_ _ | refine bD_ ?_ | refine bA_ ?_ _)); exact ac.out⟩, ⟨by (with_reducible repeat (first | refine bN_ ?_ _ | refine bD_ ?_ | refine bA_ ?_ _)); exact an.out⟩, ⟨by repeat (first | (with_reducible first | exact HB.out | apply bL_ | apply pN_ | apply b1_ | refine bs_ ?_ GE179.out | refine bs_ ?_ GE195.out | refine bs_ ?_ GE209.out) | exact HB.out)⟩⟩
         subst c87
         have H1 : ((quorumref8_Pend.f kj61 ((rd_T31 ai ah).f0) ((rd_T31 ai ah).f1)).bind fun t217 => (if t217 = true then ((quorumref0_Num.f (rd y190 x10_6) 1073741824).bind fun t219 => (quorumlaw12_PlanLocks.j8 kj61 ai y190 ab ah x10_6 t211 t214 1 ([] : List (S42)) t219 aa aj ao ((rd_T39 aa ab).f0) ((rd_T39 aa ab).f1) ((rd_T39 aa ab).f2) ((rd_T39 aa ab).f3) ((rd_T39 aa ab).f4.f0) ((rd_T39 aa ab).f4.f1) ((rd_T39 aa ab).f4.f2) ((rd_T39 aa ab).f5) ((rd_T39 aa ab).f6) t203 t206)) else (quorumlaw12_PlanLocks.j8 kj61 ai y190 ab ah x10_6 t211 t214 1 ([] : List (S42)) false aa aj ao ((rd_T39 aa ab).f0) ((rd_T39 aa ab).f1) ((rd_T39 aa ab).f2) ((rd_T39 aa ab).f3) ((rd_T39 aa ab).f4.f0) ((rd_T39 aa ab).f4.f1) ((rd_T39 aa ab).f4.f2) ((rd_T39 aa ab).f5) ((rd_T39 aa ab).f6) t203 t206))) = some r := by rw [if_pos rfl] at H; exact H
         clear H
         have H := H1
         clear H1
         replace H := Option.bind_eq_some_iff.mp H
         obtain ⟨t217, A880, H⟩ := H
         replace H : (if t217 = true then ((quorumref0_Num.f (rd y190 x10_6) 1073741824).bind fun t219 => (quorumlaw12_PlanLocks.j8 kj61 ai y190 ab ah x10_6 t211 t214 1 ([] : List (S42)) t219 aa aj ao ((rd_T39 aa ab).f0) ((rd_T39 aa ab).f1) ((rd_T39 aa ab).f2) ((rd_T39 aa ab).f3) ((rd_T39 aa ab).f4.f0) ((rd_T39 aa ab).f4.f1) ((rd_T39 aa ab).f4.f2) ((rd_T39 aa ab).f5) ((rd_T39 aa ab).f6) t203 t206)) else (quorumlaw12_PlanLocks.j8 kj61 ai y190 ab ah x10_6 t211 t214 1 ([] : List (S42)) false aa aj ao ((rd_T39 aa ab).f0) ((rd_T39 aa ab).f1) ((rd_T39 aa ab).f2) ((rd_T39 aa ab).f3) ((rd_T39 aa ab).f4.f0) ((rd_T39 aa ab).f4.f1) ((rd_T39 aa ab).f4.f2) ((rd_T39 aa ab).f5) ((rd_T39 aa ab).f6) t203 t206)) = some r := H
         have A88 := mk0 A880
         clear A880
         by_cases c89 : t217 = true
         rotate_left
         ·replace c89 := Bool.eq_false_iff.mpr c89
          subst c89
          have H1 : (quorumlaw12_PlanLocks.j8 kj61 ai y190 ab ah x10_6 t211 t214 1 ([] : List (S42)) false aa aj ao ((rd_T39 aa ab).f0) ((rd_T39 aa ab).f1) ((rd_T39 aa ab).f2) ((rd_T39 aa ab).f3) ((rd_T39 aa ab).f4.f0) ((rd_T39 aa ab).f4.f1) ((rd_T39 aa ab).f4.f2) ((rd_T39 aa ab).f5) ((rd_T39 aa ab).f6) t203 t206) = some r := by rw [if_neg (show ¬ (false = true) by decide)] at H; exact H
          clear H
          have H := H1
          clear H1
          have H' := mk0 H
          clear H
          have hnb96 := NB195_179.out
          have hnc96 := NB179_195.out
          have hnb97 := NB195_209.out
          have hnc97 := NB209_195.out
          have hcz98_0 : w85.cell? ⟨af, 0, none⟩ = some (.int .i64 ((rd_T39 aa ab).f0)) := (blk_cell ac.out 0).trans rfl
          have hcz98_1 : w85.cell? ⟨af, 1, none⟩ = some (.int .i64 ((rd_T39 aa ab).f1)) := (blk_cell ac.out 1).trans rfl
          have hcz98_2 : w85.cell? ⟨af, 2, none⟩ = some (.string ((rd_T39 aa ab).f2)) := (blk_cell ac.out 2).trans rfl
          have hcz98_3 : w85.cell? ⟨af, 3, none⟩ = some (.string ((rd_T39 aa ab).f3)) := (blk_cell ac.out 3).trans rfl
          have hcz98_4 : w85.cell? ⟨af, 4, none⟩ = some (.string ((rd_T39 aa ab).f4.f0)) := (blk_cell ac.out 4).trans rfl
          have hcz98_5 : w85.cell? ⟨af, 5, none⟩ = some (.string ((rd_T39 aa ab).f4.f1)) := (blk_cell ac.out 5).trans rfl
          have hcz98_6 : w85.cell? ⟨af, 6, none⟩ = some (.bool ((rd_T39 aa ab).f4.f2)) := (blk_cell ac.out 6).trans rfl
          have hcz98_7 : w85.cell? ⟨af, 7, none⟩ = some (.int .i64 ((rd_T39 aa ab).f5)) := (blk_cell ac.out 7).trans rfl
          have hcz98_8 : w85.cell? ⟨af, 8, none⟩ = some (.bool ((rd_T39 aa ab).f6)) := (blk_cell ac.out 8).trans rfl
          have hfz98_0 := blk_frozen ac.out 0
          have hfz98_1 := blk_frozen ac.out 1
          have hfz98_2 := blk_frozen ac.out 2
          have hfz98_3 := blk_frozen ac.out 3
          have hfz98_4 := blk_frozen ac.out 4
          have hfz98_5 := blk_frozen ac.out 5
          have hfz98_6 := blk_frozen ac.out 6
          have hfz98_7 := blk_frozen ac.out 7
          have hfz98_8 := blk_frozen ac.out 8
          go_wp2_with (first | ((with_reducible refine gate_callee (f := 52) rfl ?_); refine goesL_ (some 102) rfl rfl Try.func52 (by kernel_rfl) rfl #[.agg #[.int .i64 ((rd_T39 aa ab).f0), .int .i64 ((rd_T39 aa ab).f1), .string ((rd_T39 aa ab).f2), .string ((rd_T39 aa ab).f3), .string ((rd_T39 aa ab).f4.f0), .string ((rd_T39 aa ab).f4.f1), .bool ((rd_T39 aa ab).f4.f2), .int .i64 ((rd_T39 aa ab).f5), .bool ((rd_T39 aa ab).f6)], .int .i64 3] rfl (by (try simp only [List.map_toArray, List.map_cons, List.map_nil]); first | done | rfl | (simp only [List.length_drop, List.length_take]; rfl)) ?_; (with_reducible refine (quorumref12_Op.calls ((rd_T39 aa ab).f0) ((rd_T39 aa ab).f1) ((rd_T39 aa ab).f2) ((rd_T39 aa ab).f3) ((rd_T39 aa ab).f4.f0) ((rd_T39 aa ab).f4.f1) ((rd_T39 aa ab).f4.f2) ((rd_T39 aa ab).f5) ((rd_T39 aa ab).f6) 3 true _ A86.out).mono ?_); rintro e w99 ⟨rfl, hb⟩; refine ⟨_, rfl, ?_⟩; have n0_ := mk0 (Kd.N_below (by (with_reducible repeat (first | apply Kd.N_alloc | apply Kd.N_drewN | apply Kd.N_drew)); exact ak.out) hb); have n1_ := mk0 (Kd.R_below (by (with_reducible repeat (first | apply Ra_ | apply Rn_ | apply Rd_)); exact ap.out) hb); have n2_ := mk0 (Kd.V_below (by (with_reducible repeat (first | apply Kd.V_alloc | apply Kd.V_drewN | apply Kd.V_drew)); exact ad.out) hb); have n3_ := mk0 (Kd.V_below (by (with_reducible repeat (first | apply Kd.V_alloc | apply Kd.V_drewN | apply Kd.V_drew)); exact HL202_0.out) hb); have n4_ := mk0 (Kd.V_below (by (with_reducible repeat (first | apply Kd.V_alloc | apply Kd.V_drewN | apply Kd.V_drew)); exact HL202_1.out) hb); have n5_ := mk0 (Kd.R_below (by (with_reducible repeat (first | apply Ra_ | apply Rn_ | apply Rd_)); exact HO205.out) hb); have n6_ := mk0 (Kd.R_below (by (with_reducible repeat (first | apply Ra_ | apply Rn_ | apply Rd_)); exact HO208.out) hb); have n7_ := mk0 (Kd.R_below (by (with_reducible repeat (first | apply Ra_ | apply Rn_ | apply Rd_)); exact HO213.out) hb); have n8_ := mk0 (blk_below (g := ag) (o := .cells #[.slice (some ad194) aa.length c0_0, .slice A0_1 aj.length c0_1, .slice A0_2 ao.length c0_2] 26 (0, 0)) (by (with_reducible repeat (first | refine bN_ ?_ _ | refine bD_ ?_ | refine bA_ ?_ _)); exact ae.out) hb); have n9_ := mk0 (blk_below (g := af) (o := .cells #[.int .i64 ((rd_T39 aa ab).f0), .int .i64 ((rd_T39 aa ab).f1), .string ((rd_T39 aa ab).f2), .string ((rd_T39 aa ab).f3), .string ((rd_T39 aa ab).f4.f0), .string ((rd_T39 aa ab).f4.f1), .bool ((rd_T39 aa ab).f4.f2), .int .i64 ((rd_T39 aa ab).f5), .bool ((rd_T39 aa ab).f6)] 39 (0, 0)) (by (with_reducible repeat (first | refine bN_ ?_ _ | refine bD_ ?_ | refine bA_ ?_ _)); exact ac.out) hb); have n10_ := mk0 (blk_below (g := gb209) (o := .cells #[.slice Ao77 t203.length co77, .slice Ao81 t206.length co81] 31 (0, 0)) (by (with_reducible repeat (first | refine bN_ ?_ _ | refine bD_ ?_ | refine bA_ ?_ _)); exact an.out) hb); have n11_ := mk0 (bt_ (by repeat (first | (with_reducible first | exact HB.out | apply bL_ | apply pN_ | apply b1_ | refine bs_ ?_ GE179.out | refine bs_ ?_ GE195.out | refine bs_ ?_ GE209.out) | exact HB.out)) hb); clear ak; clear ap; clear ad; clear HL202_0; clear HL202_1; clear HO205; clear HO208; clear HO213; clear ae; clear ac; clear an; clear HB; have ak := n0_; have ap := n1_; have ad := n2_; have HL202_0 := n3_; have HL202_1 := n4_; have HO205 := n5_; have HO208 := n6_; have HO213 := n7_; have ae := n8_; have ac := n9_; have an := n10_; have HB := n11_; clear n0_ n1_ n2_ n3_ n4_ n5_ n6_ n7_ n8_ n9_ n10_ n11_; (try clear hb); (try clear hb2); (try clear hk); (try clear hi); have p216 : 0 ≤ (ah : Int) := of_decide_eq_true (by first | (with_reducible assumption) | assumption); have q216 : ah < (ai.length : Int) := of_decide_eq_true (by first | (with_reducible assumption) | assumption); obtain ⟨ad216, A216_0, c216_0, A216_1, c216_1, e216, hx216_0, hx216_1, hl216_0, hi216_0, hl216_1, hi216_1⟩ := at_T31 (Kd.N_reads' ak.out).2.2 ah p216 q216; obtain rfl : ad202 = ad216 := (by injection e216); obtain ⟨ce216, hce216, hMe216, hcc216⟩ := Kd.N_get ak.out z31 ah p216 (by first | exact q216 | exact of_decide_eq_true (by first | (with_reducible assumption) | assumption) | (have e_ := (Kd.N_reads' ak.out).1; omega)); obtain ⟨ua216_0, uc216_0, ua216_1, uc216_1, rfl, ul216_0, ge216_0, ul216_1, ge216_1⟩ := k31_openF hMe216; have hv216_0 := hcc216 0 _ rfl; rw [Nat.add_zero] at hv216_0; replace hv216_0 := Option.some.inj (hv216_0.symm.trans hx216_0); injection hv216_0 with hva_ hvn_ hvc_; rw [hva_] at ge216_0; rw [hvc_] at ul216_0; have HL216_0 := mk0 (show Kd.V k44 44 _ w.heap.size _ _ ((rd_T31 ai ah).f0) from Kd.V_mk ul216_0 ge216_0); clear hva_ hvn_ hvc_ ge216_0 ul216_0; have hv216_1 := hcc216 1 _ rfl; rw [add_field _ _ 1 (by omega)] at hv216_1; replace hv216_1 := Option.some.inj (hv216_1.symm.trans hx216_1); injection hv216_1 with hva_ hvn_ hvc_; rw [hva_] at ge216_1; rw [hvc_] at ul216_1; have HL216_1 := mk0 (show Kd.V (Kd.int .i64) 3 _ w.heap.size _ _ ((rd_T31 ai ah).f1) from Kd.V_mk ul216_1 ge216_1); clear hva_ hvn_ hvc_ ge216_1 ul216_1; clear hcc216 hce216; have HR216_0 := mk0 hi216_0; have HC216_0 := mk0 hl216_0; clear hi216_0 hl216_0; have HR216_1 := mk0 hi216_1; have HC216_1 := mk0 hl216_1; clear hi216_1 hl216_1; replace p216 := eq_true p216; replace q216 := eq_true q216) | (go_at_call 16; (with_reducible refine (quorumref8_Pend.calls kj61 _ _ ((rd_T31 ai ah).f0) _ _ ((rd_T31 ai ah).f1) false _ ?side1 ?side2 ?side3 ?side4 A88.out).mono ?_); (case side1 => repeat (first | exact (by repeat (first | (with_reducible exact HR216_0.out) | (with_reducible refine Kd.C_alloc ?_ _) | (with_reducible refine Kd.C_drewN ?_ _) | (with_reducible refine Kd.C_drew ?_) | exact HR216_0.out)) | (with_reducible refine Kd.C_alloc ?_ _) | (with_reducible refine Kd.C_drewN ?_ _) | (with_reducible refine Kd.C_drew ?_))); (case side2 => exact HC216_0.out); (case side3 => repeat (first | exact (by repeat (first | (with_reducible exact HR216_1.out) | (with_reducible refine Kd.C_alloc ?_ _) | (with_reducible refine Kd.C_drewN ?_ _) | (with_reducible refine Kd.C_drew ?_) | exact HR216_1.out)) | (with_reducible refine Kd.C_alloc ?_ _) | (with_reducible refine Kd.C_drewN ?_ _) | (with_reducible refine Kd.C_drew ?_))); (case side4 => exact HC216_1.out); rintro e w100 ⟨rfl, hb⟩; have n0_ := mk0 (Kd.N_below (by (with_reducible repeat (first | apply Kd.N_alloc | apply Kd.N_drewN | apply Kd.N_drew)); exact ak.out) hb); have n1_ := mk0 (Kd.R_below (by (with_reducible repeat (first | apply Ra_ | apply Rn_ | apply Rd_)); exact ap.out) hb); have n2_ := mk0 (Kd.V_below (by (with_reducible repeat (first | apply Kd.V_alloc | apply Kd.V_drewN | apply Kd.V_drew)); exact ad.out) hb); have n3_ := mk0 (Kd.V_below (by (with_reducible repeat (first | apply Kd.V_alloc | apply Kd.V_drewN | apply Kd.V_drew)); exact HL202_0.out) hb); have n4_ := mk0 (Kd.V_below (by (with_reducible repeat (first | apply Kd.V_alloc | apply Kd.V_drewN | apply Kd.V_drew)); exact HL202_1.out) hb); have n5_ := mk0 (Kd.R_below (by (with_reducible repeat (first | apply Ra_ | apply Rn_ | apply Rd_)); exact HO205.out) hb); have n6_ := mk0 (Kd.R_below (by (with_reducible repeat (first | apply Ra_ | apply Rn_ | apply Rd_)); exact HO208.out) hb); have n7_ := mk0 (Kd.R_below (by (with_reducible repeat (first | apply Ra_ | apply Rn_ | apply Rd_)); exact HO213.out) hb); have n8_ := mk0 (Kd.V_below (by (with_reducible repeat (first | apply Kd.V_alloc | apply Kd.V_drewN | apply Kd.V_drew)); exact HL216_0.out) hb); have n9_ := mk0 (Kd.V_below (by (with_reducible repeat (first | apply Kd.V_alloc | apply Kd.V_drewN | apply Kd.V_drew)); exact HL216_1.out) hb); have n10_ := mk0 (blk_below (g := ag) (o := .cells #[.slice (some ad194) aa.length c0_0, .slice A0_1 aj.length c0_1, .slice A0_2 ao.length c0_2] 26 (0, 0)) (by (with_reducible repeat (first | refine bN_ ?_ _ | refine bD_ ?_ | refine bA_ ?_ _)); exact ae.out) hb); have n11_ := mk0 (blk_below (g := af) (o := .cells #[.int .i64 ((rd_T39 aa ab).f0), .int .i64 ((rd_T39 aa ab).f1), .string ((rd_T39 aa ab).f2), .string ((rd_T39 aa ab).f3), .string ((rd_T39 aa ab).f4.f0), .string ((rd_T39 aa ab).f4.f1), .bool ((rd_T39 aa ab).f4.f2), .int .i64 ((rd_T39 aa ab).f5), .bool ((rd_T39 aa ab).f6)] 39 (0, 0)) (by (with_reducible repeat (first | refine bN_ ?_ _ | refine bD_ ?_ | refine bA_ ?_ _)); exact ac.out) hb); have n12_ := mk0 (blk_below (g := gb209) (o := .cells #[.slice Ao77 t203.length co77, .slice Ao81 t206.length co81] 31 (0, 0)) (by (with_reducible repeat (first | refine bN_ ?_ _ | refine bD_ ?_ | refine bA_ ?_ _)); exact an.out) hb); have n13_ := mk0 (Kd.C_below (by (with_reducible repeat (first | refine Kd.C_drewN ?_ _ | refine Kd.C_drew ?_ | refine Kd.C_alloc ?_ _)); exact HR216_0.out) hb); have n14_ := mk0 (Kd.C_below (by (with_reducible repeat (first | refine Kd.C_drewN ?_ _ | refine Kd.C_drew ?_ | refine Kd.C_alloc ?_ _)); exact HR216_1.out) hb); have n15_ := mk0 (bt_ (by repeat (first | (with_reducible first | exact HB.out | apply bL_ | apply pN_ | apply b1_ | refine bs_ ?_ GE179.out | refine bs_ ?_ GE195.out | refine bs_ ?_ GE209.out) | exact HB.out)) hb); clear ak; clear ap; clear ad; clear HL202_0; clear HL202_1; clear HO205; clear HO208; clear HO213; clear HL216_0; clear HL216_1; clear ae; clear ac; clear an; clear HR216_0; clear HR216_1; clear HB; have ak := n0_; have ap := n1_; have ad := n2_; have HL202_0 := n3_; have HL202_1 := n4_; have HO205 := n5_; have HO208 := n6_; have HO213 := n7_; have HL216_0 := n8_; have HL216_1 := n9_; have ae := n10_; have ac := n11_; have an := n12_; have HR216_0 := n13_; have HR216_1 := n14_; have HB := n15_; clear n0_ n1_ n2_ n3_ n4_ n5_ n6_ n7_ n8_ n9_ n10_ n11_ n12_ n13_ n14_ n15_; (try clear hb); (try clear hb2); (try clear hk); (try clear hi)))
          go_meet
          case rel => exact ⟨_, (false), (by first | rfl | (simp; done) | (simp [*]; done)), H', ⟨by have := HK1.out; have := HJ19.out; have := HK3.out; have := HK4.out; have := HJ56.out; have := HK6.out; have := HJ61.out; first | omega | exact Nat.le_refl _⟩, ⟨by (with_reducible repeat (first | apply Kd.N_alloc | apply Kd.N_drewN | apply Kd.N_drew)); exact Kd.N_mono ak.out (fun _ hk => ⟨hk.1.1, ⟨hk.1.2.1, ⟨hk.2, ⟨(by simp [Value.ownBlock]), ⟨hk.1.2.2.1, ⟨hk.1.2.2.2.1, ⟨hk.1.2.2.2.2.1, ⟨hk.1.2.2.2.2.2.1, hk.1.2.2.2.2.2.2⟩⟩⟩⟩⟩⟩⟩⟩)⟩, ⟨by (with_reducible repeat (first | apply Ra_ | apply Rn_ | apply Rd_)); exact ap.out⟩, ⟨by (with_reducible repeat (first | apply Ra_ | apply Rn_ | apply Rd_)); exact Kd.R_mono HO213.out (fun _ hk => ⟨hk.1, (by simp [Value.ownBlock])⟩)⟩, ⟨by first | exact Kd.R_nil _ _ _ _ _ | exact Kd.N_nil _ _ _ _ _ | exact Kd.V_nil _ _ _ _ _ | exact Kd.Q_nil _ _ _ _ _ | exact Kd.S_nil _ _ _ _ _⟩, ⟨by (with_reducible repeat (first | apply Kd.V_alloc | apply Kd.V_drewN | apply Kd.V_drew)); exact Kd.V_mono ad.out (fun _ hk => ⟨hk.1.1, ⟨hk.1.2.1, ⟨hk.1.2.2.1, ⟨hk.2, ⟨(by simp [Value.ownBlock]), ⟨hk.1.2.2.2.1, ⟨hk.1.2.2.2.2.1, ⟨hk.1.2.2.2.2.2.1, ⟨hk.1.2.2.2.2.2.2.1, hk.1.2.2.2.2.2.2.2⟩⟩⟩⟩⟩⟩⟩⟩⟩)⟩, ⟨by (with_reducible repeat (first | apply Ra_ | apply Rn_ | apply Rd_)); exact HO205.out⟩, ⟨by (with_reducible repeat (first | apply Ra_ | apply Rn_ | apply Rd_)); exact HO208.out⟩, ⟨by (with_reducible repeat (first | refine bN_ ?_ _ | refine bD_ ?_ | refine bA_ ?_ _)); exact ae.out⟩, ⟨by (with_reducible repeat (first | refine bN_ ?_ _ | refine bD_ ?_ | refine bA_ ?_ _)); exact ac.out⟩, ⟨by (with_reducible repeat (first | refine bN_ ?_ _ | refine bD_ ?_ | refine bA_ ?_ _)); exact an.out⟩, ⟨by repeat (first | (with_reducible first | exact HB.out | apply bL_ | apply pN_ | apply b1_ | refine bs_ ?_ GE179.out | refine bs_ ?_ GE195.out | refine bs_ ?_ GE209.out) | exact HB.out)⟩⟩
         subst c89
         have H1 : ((quorumref0_Num.f (rd y190 x10_6) 1073741824).bind fun t219 => (quorumlaw12_PlanLocks.j8 kj61 ai y190 ab ah x10_6 t211 t214 1 ([] : List (S42)) t219 aa aj ao ((rd_T39 aa ab).f0) ((rd_T39 aa ab).f1) ((rd_T39 aa ab).f2) ((rd_T39 aa ab).f3) ((rd_T39 aa ab).f4.f0) ((rd_T39 aa ab).f4.f1) ((rd_T39 aa ab).f4.f2) ((rd_T39 aa ab).f5) ((rd_T39 aa ab).f6) t203 t206)) = some r := by rw [if_pos rfl] at H; exact H
         clear H
         have H := H1
         clear H1
         replace H := Option.bind_eq_some_iff.mp H
         obtain ⟨t219, A900, H⟩ := H
         replace H : (quorumlaw12_PlanLocks.j8 kj61 ai y190 ab ah x10_6 t211 t214 1 ([] : List (S42)) t219 aa aj ao ((rd_T39 aa ab).f0) ((rd_T39 aa ab).f1) ((rd_T39 aa ab).f2) ((rd_T39 aa ab).f3) ((rd_T39 aa ab).f4.f0) ((rd_T39 aa ab).f4.f1) ((rd_T39 aa ab).f4.f2) ((rd_T39 aa ab).f5) ((rd_T39 aa ab).f6) t203 t206) = some r := H
         have A90 := mk0 A900
         clear A900
         have H' := mk0 H
         clear H
         have hnb91 := NB195_179.out
         have hnc91 := NB179_195.out
         have hnb92 := NB195_209.out
         have hnc92 := NB209_195.out
         have hcz93_0 : w85.cell? ⟨af, 0, none⟩ = some (.int .i64 ((rd_T39 aa ab).f0)) := (blk_cell ac.out 0).trans rfl
         have hcz93_1 : w85.cell? ⟨af, 1, none⟩ = some (.int .i64 ((rd_T39 aa ab).f1)) := (blk_cell ac.out 1).trans rfl
         have hcz93_2 : w85.cell? ⟨af, 2, none⟩ = some (.string ((rd_T39 aa ab).f2)) := (blk_cell ac.out 2).trans rfl
         have hcz93_3 : w85.cell? ⟨af, 3, none⟩ = some (.string ((rd_T39 aa ab).f3)) := (blk_cell ac.out 3).trans rfl
         have hcz93_4 : w85.cell? ⟨af, 4, none⟩ = some (.string ((rd_T39 aa ab).f4.f0)) := (blk_cell ac.out 4).trans rfl
         have hcz93_5 : w85.cell? ⟨af, 5, none⟩ = some (.string ((rd_T39 aa ab).f4.f1)) := (blk_cell ac.out 5).trans rfl
         have hcz93_6 : w85.cell? ⟨af, 6, none⟩ = some (.bool ((rd_T39 aa ab).f4.f2)) := (blk_cell ac.out 6).trans rfl
         have hcz93_7 : w85.cell? ⟨af, 7, none⟩ = some (.int .i64 ((rd_T39 aa ab).f5)) := (blk_cell ac.out 7).trans rfl
         have hcz93_8 : w85.cell? ⟨af, 8, none⟩ = some (.bool ((rd_T39 aa ab).f6)) := (blk_cell ac.out 8).trans rfl
         have hfz93_0 := blk_frozen ac.out 0
         have hfz93_1 := blk_frozen ac.out 1
         have hfz93_2 := blk_frozen ac.out 2
         have hfz93_3 := blk_frozen ac.out 3
         have hfz93_4 := blk_frozen ac.out 4
         have hfz93_5 := blk_frozen ac.out 5
         have hfz93_6 := blk_frozen ac.out 6
         have hfz93_7 := blk_frozen ac.out 7
         have hfz93_8 := blk_frozen ac.out 8
         go_wp2_with (first | ((with_reducible refine gate_callee (f := 52) rfl ?_); refine goesL_ (some 102) rfl rfl Try.func52 (by kernel_rfl) rfl #[.agg #[.int .i64 ((rd_T39 aa ab).f0), .int .i64 ((rd_T39 aa ab).f1), .string ((rd_T39 aa ab).f2), .string ((rd_T39 aa ab).f3), .string ((rd_T39 aa ab).f4.f0), .string ((rd_T39 aa ab).f4.f1), .bool ((rd_T39 aa ab).f4.f2), .int .i64 ((rd_T39 aa ab).f5), .bool ((rd_T39 aa ab).f6)], .int .i64 3] rfl (by (try simp only [List.map_toArray, List.map_cons, List.map_nil]); first | done | rfl | (simp only [List.length_drop, List.length_take]; rfl)) ?_; (with_reducible refine (quorumref12_Op.calls ((rd_T39 aa ab).f0) ((rd_T39 aa ab).f1) ((rd_T39 aa ab).f2) ((rd_T39 aa ab).f3) ((rd_T39 aa ab).f4.f0) ((rd_T39 aa ab).f4.f1) ((rd_T39 aa ab).f4.f2) ((rd_T39 aa ab).f5) ((rd_T39 aa ab).f6) 3 true _ A86.out).mono ?_); rintro e w94 ⟨rfl, hb⟩; refine ⟨_, rfl, ?_⟩; have n0_ := mk0 (Kd.N_below (by (with_reducible repeat (first | apply Kd.N_alloc | apply Kd.N_drewN | apply Kd.N_drew)); exact ak.out) hb); have n1_ := mk0 (Kd.R_below (by (with_reducible repeat (first | apply Ra_ | apply Rn_ | apply Rd_)); exact ap.out) hb); have n2_ := mk0 (Kd.V_below (by (with_reducible repeat (first | apply Kd.V_alloc | apply Kd.V_drewN | apply Kd.V_drew)); exact ad.out) hb); have n3_ := mk0 (Kd.V_below (by (with_reducible repeat (first | apply Kd.V_alloc | apply Kd.V_drewN | apply Kd.V_drew)); exact HL202_0.out) hb); have n4_ := mk0 (Kd.V_below (by (with_reducible repeat (first | apply Kd.V_alloc | apply Kd.V_drewN | apply Kd.V_drew)); exact HL202_1.out) hb); have n5_ := mk0 (Kd.R_below (by (with_reducible repeat (first | apply Ra_ | apply Rn_ | apply Rd_)); exact HO205.out) hb); have n6_ := mk0 (Kd.R_below (by (with_reducible repeat (first | apply Ra_ | apply Rn_ | apply Rd_)); exact HO208.out) hb); have n7_ := mk0 (Kd.R_below (by (with_reducible repeat (first | apply Ra_ | apply Rn_ | apply Rd_)); exact HO213.out) hb); have n8_ := mk0 (blk_below (g := ag) (o := .cells #[.slice (some ad194) aa.length c0_0, .slice A0_1 aj.length c0_1, .slice A0_2 ao.length c0_2] 26 (0, 0)) (by (with_reducible repeat (first | refine bN_ ?_ _ | refine bD_ ?_ | refine bA_ ?_ _)); exact ae.out) hb); have n9_ := mk0 (blk_below (g := af) (o := .cells #[.int .i64 ((rd_T39 aa ab).f0), .int .i64 ((rd_T39 aa ab).f1), .string ((rd_T39 aa ab).f2), .string ((rd_T39 aa ab).f3), .string ((rd_T39 aa ab).f4.f0), .string ((rd_T39 aa ab).f4.f1), .bool ((rd_T39 aa ab).f4.f2), .int .i64 ((rd_T39 aa ab).f5), .bool ((rd_T39 aa ab).f6)] 39 (0, 0)) (by (with_reducible repeat (first | refine bN_ ?_ _ | refine bD_ ?_ | refine bA_ ?_ _)); exact ac.out) hb); have n10_ := mk0 (blk_below (g := gb209) (o := .cells #[.slice Ao77 t203.length co77, .slice Ao81 t206.length co81] 31 (0, 0)) (by (with_reducible repeat (first | refine bN_ ?_ _ | refine bD_ ?_ | refine bA_ ?_ _)); exact an.out) hb); have n11_ := mk0 (bt_ (by repeat (first | (with_reducible first | exact HB.out | apply bL_ | apply pN_ | apply b1_ | refine bs_ ?_ GE179.out | refine bs_ ?_ GE195.out | refine bs_ ?_ GE209.out) | exact HB.out)) hb); clear ak; clear ap; clear ad; clear HL202_0; clear HL202_1; clear HO205; clear HO208; clear HO213; clear ae; clear ac; clear an; clear HB; have ak := n0_; have ap := n1_; have ad := n2_; have HL202_0 := n3_; have HL202_1 := n4_; have HO205 := n5_; have HO208 := n6_; have HO213 := n7_; have ae := n8_; have ac := n9_; have an := n10_; have HB := n11_; clear n0_ n1_ n2_ n3_ n4_ n5_ n6_ n7_ n8_ n9_ n10_ n11_; (try clear hb); (try clear hb2); (try clear hk); (try clear hi); have p216 : 0 ≤ (ah : Int) := of_decide_eq_true (by first | (with_reducible assumption) | assumption); have q216 : ah < (ai.length : Int) := of_decide_eq_true (by first | (with_reducible assumption) | assumption); obtain ⟨ad216, A216_0, c216_0, A216_1, c216_1, e216, hx216_0, hx216_1, hl216_0, hi216_0, hl216_1, hi216_1⟩ := at_T31 (Kd.N_reads' ak.out).2.2 ah p216 q216; obtain rfl : ad202 = ad216 := (by injection e216); obtain ⟨ce216, hce216, hMe216, hcc216⟩ := Kd.N_get ak.out z31 ah p216 (by first | exact q216 | exact of_decide_eq_true (by first | (with_reducible assumption) | assumption) | (have e_ := (Kd.N_reads' ak.out).1; omega)); obtain ⟨ua216_0, uc216_0, ua216_1, uc216_1, rfl, ul216_0, ge216_0, ul216_1, ge216_1⟩ := k31_openF hMe216; have hv216_0 := hcc216 0 _ rfl; rw [Nat.add_zero] at hv216_0; replace hv216_0 := Option.some.inj (hv216_0.symm.trans hx216_0); injection hv216_0 with hva_ hvn_ hvc_; rw [hva_] at ge216_0; rw [hvc_] at ul216_0; have HL216_0 := mk0 (show Kd.V k44 44 _ w.heap.size _ _ ((rd_T31 ai ah).f0) from Kd.V_mk ul216_0 ge216_0); clear hva_ hvn_ hvc_ ge216_0 ul216_0; have hv216_1 := hcc216 1 _ rfl; rw [add_field _ _ 1 (by omega)] at hv216_1; replace hv216_1 := Option.some.inj (hv216_1.symm.trans hx216_1); injection hv216_1 with hva_ hvn_ hvc_; rw [hva_] at ge216_1; rw [hvc_] at ul216_1; have HL216_1 := mk0 (show Kd.V (Kd.int .i64) 3 _ w.heap.size _ _ ((rd_T31 ai ah).f1) from Kd.V_mk ul216_1 ge216_1); clear hva_ hvn_ hvc_ ge216_1 ul216_1; clear hcc216 hce216; have HR216_0 := mk0 hi216_0; have HC216_0 := mk0 hl216_0; clear hi216_0 hl216_0; have HR216_1 := mk0 hi216_1; have HC216_1 := mk0 hl216_1; clear hi216_1 hl216_1; replace p216 := eq_true p216; replace q216 := eq_true q216) | (go_at_call 16; (with_reducible refine (quorumref8_Pend.calls kj61 _ _ ((rd_T31 ai ah).f0) _ _ ((rd_T31 ai ah).f1) true _ ?side1 ?side2 ?side3 ?side4 A88.out).mono ?_); (case side1 => repeat (first | exact (by repeat (first | (with_reducible exact HR216_0.out) | (with_reducible refine Kd.C_alloc ?_ _) | (with_reducible refine Kd.C_drewN ?_ _) | (with_reducible refine Kd.C_drew ?_) | exact HR216_0.out)) | (with_reducible refine Kd.C_alloc ?_ _) | (with_reducible refine Kd.C_drewN ?_ _) | (with_reducible refine Kd.C_drew ?_))); (case side2 => exact HC216_0.out); (case side3 => repeat (first | exact (by repeat (first | (with_reducible exact HR216_1.out) | (with_reducible refine Kd.C_alloc ?_ _) | (with_reducible refine Kd.C_drewN ?_ _) | (with_reducible refine Kd.C_drew ?_) | exact HR216_1.out)) | (with_reducible refine Kd.C_alloc ?_ _) | (with_reducible refine Kd.C_drewN ?_ _) | (with_reducible refine Kd.C_drew ?_))); (case side4 => exact HC216_1.out); rintro e w95 ⟨rfl, hb⟩; have n0_ := mk0 (Kd.N_below (by (with_reducible repeat (first | apply Kd.N_alloc | apply Kd.N_drewN | apply Kd.N_drew)); exact ak.out) hb); have n1_ := mk0 (Kd.R_below (by (with_reducible repeat (first | apply Ra_ | apply Rn_ | apply Rd_)); exact ap.out) hb); have n2_ := mk0 (Kd.V_below (by (with_reducible repeat (first | apply Kd.V_alloc | apply Kd.V_drewN | apply Kd.V_drew)); exact ad.out) hb); have n3_ := mk0 (Kd.V_below (by (with_reducible repeat (first | apply Kd.V_alloc | apply Kd.V_drewN | apply Kd.V_drew)); exact HL202_0.out) hb); have n4_ := mk0 (Kd.V_below (by (with_reducible repeat (first | apply Kd.V_alloc | apply Kd.V_drewN | apply Kd.V_drew)); exact HL202_1.out) hb); have n5_ := mk0 (Kd.R_below (by (with_reducible repeat (first | apply Ra_ | apply Rn_ | apply Rd_)); exact HO205.out) hb); have n6_ := mk0 (Kd.R_below (by (with_reducible repeat (first | apply Ra_ | apply Rn_ | apply Rd_)); exact HO208.out) hb); have n7_ := mk0 (Kd.R_below (by (with_reducible repeat (first | apply Ra_ | apply Rn_ | apply Rd_)); exact HO213.out) hb); have n8_ := mk0 (Kd.V_below (by (with_reducible repeat (first | apply Kd.V_alloc | apply Kd.V_drewN | apply Kd.V_drew)); exact HL216_0.out) hb); have n9_ := mk0 (Kd.V_below (by (with_reducible repeat (first | apply Kd.V_alloc | apply Kd.V_drewN | apply Kd.V_drew)); exact HL216_1.out) hb); have n10_ := mk0 (blk_below (g := ag) (o := .cells #[.slice (some ad194) aa.length c0_0, .slice A0_1 aj.length c0_1, .slice A0_2 ao.length c0_2] 26 (0, 0)) (by (with_reducible repeat (first | refine bN_ ?_ _ | refine bD_ ?_ | refine bA_ ?_ _)); exact ae.out) hb); have n11_ := mk0 (blk_below (g := af) (o := .cells #[.int .i64 ((rd_T39 aa ab).f0), .int .i64 ((rd_T39 aa ab).f1), .string ((rd_T39 aa ab).f2), .string ((rd_T39 aa ab).f3), .string ((rd_T39 aa ab).f4.f0), .string ((rd_T39 aa ab).f4.f1), .bool ((rd_T39 aa ab).f4.f2), .int .i64 ((rd_T39 aa ab).f5), .bool ((rd_T39 aa ab).f6)] 39 (0, 0)) (by (with_reducible repeat (first | refine bN_ ?_ _ | refine bD_ ?_ | refine bA_ ?_ _)); exact ac.out) hb); have n12_ := mk0 (blk_below (g := gb209) (o := .cells #[.slice Ao77 t203.length co77, .slice Ao81 t206.length co81] 31 (0, 0)) (by (with_reducible repeat (first | refine bN_ ?_ _ | refine bD_ ?_ | refine bA_ ?_ _)); exact an.out) hb); have n13_ := mk0 (Kd.C_below (by (with_reducible repeat (first | refine Kd.C_drewN ?_ _ | refine Kd.C_drew ?_ | refine Kd.C_alloc ?_ _)); exact HR216_0.out) hb); have n14_ := mk0 (Kd.C_below (by (with_reducible repeat (first | refine Kd.C_drewN ?_ _ | refine Kd.C_drew ?_ | refine Kd.C_alloc ?_ _)); exact HR216_1.out) hb); have n15_ := mk0 (bt_ (by repeat (first | (with_reducible first | exact HB.out | apply bL_ | apply pN_ | apply b1_ | refine bs_ ?_ GE179.out | refine bs_ ?_ GE195.out | refine bs_ ?_ GE209.out) | exact HB.out)) hb); clear ak; clear ap; clear ad; clear HL202_0; clear HL202_1; clear HO205; clear HO208; clear HO213; clear HL216_0; clear HL216_1; clear ae; clear ac; clear an; clear HR216_0; clear HR216_1; clear HB; have ak := n0_; have ap := n1_; have ad := n2_; have HL202_0 := n3_; have HL202_1 := n4_; have HO205 := n5_; have HO208 := n6_; have HO213 := n7_; have HL216_0 := n8_; have HL216_1 := n9_; have ae := n10_; have ac := n11_; have an := n12_; have HR216_0 := n13_; have HR216_1 := n14_; have HB := n15_; clear n0_ n1_ n2_ n3_ n4_ n5_ n6_ n7_ n8_ n9_ n10_ n11_ n12_ n13_ n14_ n15_; (try clear hb); (try clear hb2); (try clear hk); (try clear hi); have p218 : 0 ≤ (x10_6 : Int) := of_decide_eq_true (by first | (with_reducible assumption) | assumption); have q218 : x10_6 < (y190.length : Int) := of_decide_eq_true (by first | (with_reducible assumption) | assumption); obtain ⟨ad218, e218, hx218_0⟩ := Kd.at_int (Kd.R_reads' ap.out).2.2 x10_6 p218 q218; obtain rfl : ad210 = ad218 := (by injection e218); replace p218 := eq_true p218; replace q218 := eq_true q218) | (go_at_call 25; (with_reducible refine (quorumref0_Num.calls (rd y190 x10_6) 1073741824 t219 _ A90.out).mono ?_); rintro e w' ⟨rfl, ⟨nd, rfl⟩⟩))
         go_meet
         case rel => exact ⟨_, (t219), (by first | rfl | (simp; done) | (simp [*]; done)), H', ⟨by have := HK1.out; have := HJ19.out; have := HK3.out; have := HK4.out; have := HJ56.out; have := HK6.out; have := HJ61.out; first | omega | exact Nat.le_refl _⟩, ⟨by (with_reducible repeat (first | apply Kd.N_alloc | apply Kd.N_drewN | apply Kd.N_drew)); exact Kd.N_mono ak.out (fun _ hk => ⟨hk.1.1, ⟨hk.1.2.1, ⟨hk.2, ⟨(by simp [Value.ownBlock]), ⟨hk.1.2.2.1, ⟨hk.1.2.2.2.1, ⟨hk.1.2.2.2.2.1, ⟨hk.1.2.2.2.2.2.1, hk.1.2.2.2.2.2.2⟩⟩⟩⟩⟩⟩⟩⟩)⟩, ⟨by (with_reducible repeat (first | apply Ra_ | apply Rn_ | apply Rd_)); exact ap.out⟩, ⟨by (with_reducible repeat (first | apply Ra_ | apply Rn_ | apply Rd_)); exact Kd.R_mono HO213.out (fun _ hk => ⟨hk.1, (by simp [Value.ownBlock])⟩)⟩, ⟨by first | exact Kd.R_nil _ _ _ _ _ | exact Kd.N_nil _ _ _ _ _ | exact Kd.V_nil _ _ _ _ _ | exact Kd.Q_nil _ _ _ _ _ | exact Kd.S_nil _ _ _ _ _⟩, ⟨by (with_reducible repeat (first | apply Kd.V_alloc | apply Kd.V_drewN | apply Kd.V_drew)); exact Kd.V_mono ad.out (fun _ hk => ⟨hk.1.1, ⟨hk.1.2.1, ⟨hk.1.2.2.1, ⟨hk.2, ⟨(by simp [Value.ownBlock]), ⟨hk.1.2.2.2.1, ⟨hk.1.2.2.2.2.1, ⟨hk.1.2.2.2.2.2.1, ⟨hk.1.2.2.2.2.2.2.1, hk.1.2.2.2.2.2.2.2⟩⟩⟩⟩⟩⟩⟩⟩⟩)⟩, ⟨by (with_reducible repeat (first | apply Ra_ | apply Rn_ | apply Rd_)); exact HO205.out⟩, ⟨by (with_reducible repeat (first | apply Ra_ | apply Rn_ | apply Rd_)); exact HO208.out⟩, ⟨by (with_reducible repeat (first | refine bN_ ?_ _ | refine bD_ ?_ | refine bA_ ?_ _)); exact ae.out⟩, ⟨by (with_reducible repeat (first | refine bN_ ?_ _ | refine bD_ ?_ | refine bA_ ?_ _)); exact ac.out⟩, ⟨by (with_reducible repeat (first | refine bN_ ?_ _ | refine bD_ ?_ | refine bA_ ?_ _)); exact an.out⟩, ⟨by repeat (first | (with_reducible first | exact HB.out | apply bL_ | apply pN_ | apply b1_ | refine bs_ ?_ GE179.out | refine bs_ ?_ GE195.out | refine bs_ ?_ GE209.out) | exact HB.out)⟩⟩
        clear HC73
        try clear c1
        try clear p1
        try clear q1
        try clear hx1
        try clear c2
        try clear p2
        try clear q2
        try clear hx2
        try clear c3
        try clear c4
        try clear c5
        try clear c6
        try clear p6
        try clear c7
        try clear c8
        try clear c9
        try clear c10
        try clear c15
        try clear c17
        try clear c18
        try clear p19
        try clear q19
        try clear hx19
        try clear c20
        try clear p20
        try clear q20
        try clear hx20
        try clear c21
        try clear c21b0
        try clear p21
        try clear q21
        try clear hx21
        try clear c24
        try clear c25
        try clear c25b0
        try clear c26
        try clear c26b0
        try clear c29
        try clear c31
        try clear c31b0
        try clear c32
        try clear c33
        try clear c34
        try clear c36
        try clear c41
        try clear c41b0
        try clear c41b1
        try clear c41b2
        try clear c42
        try clear c45
        try clear c50
        try clear c50b0
        try clear c50b1
        try clear c50b2
        try clear c51
        try clear c52
        try clear c53
        try clear c54
        try clear c58
        try clear c58b0
        try clear c61
        try clear c63
        try clear c63b0
        try clear c66
        try clear c67
        try clear c67b0
        try clear c68
        try clear c68b0
        try clear c70
        try clear c70b0
        try clear c71
        try clear c71b0
        try clear c78
        try clear c79
        try clear c87
        try clear c89
        try clear c91
        try clear c92
        try clear c96
        try clear c97
        try clear c101
        try clear c102
        try clear hcz103_0 hcz103_1 hcz103_2 hcz103_3 hcz103_4 hcz103_5 hcz103_6 hcz103_7 hcz103_8 hfz103_0 hfz103_1 hfz103_2 hfz103_3 hfz103_4 hfz103_5 hfz103_6 hfz103_7 hfz103_8
        try clear hcz10_0 hcz10_1 hcz10_2 hfz10_0 hfz10_1 hfz10_2
        try clear hcz14_0 hcz14_1 hcz14_2 hfz14_0 hfz14_1 hfz14_2
        try clear hcz18_0 hcz18_1 hcz18_2 hfz18_0 hfz18_1 hfz18_2
        try clear hcz22_0 hcz22_1 hcz22_2 hfz22_0 hfz22_1 hfz22_2
        try clear hcz23_0 hcz23_1 hcz23_2 hfz23_0 hfz23_1 hfz23_2
        try clear hcz27_0 hcz27_1 hcz27_2 hfz27_0 hfz27_1 hfz27_2
        try clear hcz30_0 hcz30_1 hcz30_2 hcz30_3 hcz30_4 hcz30_5 hcz30_6 hcz30_7 hcz30_8 hfz30_0 hfz30_1 hfz30_2 hfz30_3 hfz30_4 hfz30_5 hfz30_6 hfz30_7 hfz30_8
        try clear hcz37_0 hcz37_1 hcz37_2 hcz37_3 hcz37_4 hcz37_5 hcz37_6 hcz37_7 hcz37_8 hfz37_0 hfz37_1 hfz37_2 hfz37_3 hfz37_4 hfz37_5 hfz37_6 hfz37_7 hfz37_8
        try clear hcz43_0 hcz43_1 hcz43_2 hcz43_3 hcz43_4 hcz43_5 hcz43_6 hcz43_7 hcz43_8 hfz43_0 hfz43_1 hfz43_2 hfz43_3 hfz43_4 hfz43_5 hfz43_6 hfz43_7 hfz43_8
        try clear hcz46_0 hcz46_1 hcz46_2 hcz46_3 hcz46_4 hcz46_5 hcz46_6 hcz46_7 hcz46_8 hfz46_0 hfz46_1 hfz46_2 hfz46_3 hfz46_4 hfz46_5 hfz46_6 hfz46_7 hfz46_8
        try clear hcz5_0 hcz5_1 hcz5_2 hfz5_0 hfz5_1 hfz5_2
        try clear hcz80_0 hcz80_1 hfz80_0 hfz80_1
        try clear hcz93_0 hcz93_1 hcz93_2 hcz93_3 hcz93_4 hcz93_5 hcz93_6 hcz93_7 hcz93_8 hfz93_0 hfz93_1 hfz93_2 hfz93_3 hfz93_4 hfz93_5 hfz93_6 hfz93_7 hfz93_8
        try clear hcz98_0 hcz98_1 hcz98_2 hcz98_3 hcz98_4 hcz98_5 hcz98_6 hcz98_7 hcz98_8 hfz98_0 hfz98_1 hfz98_2 hfz98_3 hfz98_4 hfz98_5 hfz98_6 hfz98_7 hfz98_8
        try clear hx194_0 hx194_1 hx194_2 hx194_3 hx194_4 hx194_5 hx194_6 hx194_7 hx194_8
        try clear hx202_0 hx202_1
        try clear hx210_0
        try clear hx216_0 hx216_1
        try clear hx218_0
        try clear p1
        try clear p19
        try clear p194
        try clear p2
        try clear p202
        try clear p210
        try clear p216
        try clear p218
        try clear p6
        try clear q1
        try clear q19
        try clear q194
        try clear q202
        try clear q210
        try clear q216
        try clear q218
        obtain ⟨kq, x116_72, rfl, HA, HJ72, ak, ap, HO_12, HO_15, ad, al, am, ae, ac, an, HB⟩ := hcut
        cases kq with
        | zero => exact absurd HA.out (by simp [quorumlaw12_PlanLocks.j8])
        | succ kj72 =>
         have H := HA.out
         clear HA
         simp only [quorumlaw12_PlanLocks.j8] at H
         have HC105 := mk0 H
         clear H
         go_upto_if 116 with (fail)
         go_cut [14, 15] (fun v14 v15 wc => ∃ (kq : Nat) (x14_104 : Int) (x15_104 : List (S42)), v14 = .int .i64 x14_104 ∧ Aside0 (quorumlaw12_PlanLocks.j9 kq ai y190 ab ah x10_6 t211 t214 x14_104 x15_104 aa aj ao ((rd_T39 aa ab).f0) ((rd_T39 aa ab).f1) ((rd_T39 aa ab).f2) ((rd_T39 aa ab).f3) ((rd_T39 aa ab).f4.f0) ((rd_T39 aa ab).f4.f1) ((rd_T39 aa ab).f4.f2) ((rd_T39 aa ab).f5) ((rd_T39 aa ab).f6) t203 t206 = some r) ∧ Aside0 (kq ≤ kj72) ∧ Aside0 (Kd.N k31 31 wc w.heap.size (fun k_ => (P0_1_ k_ ∨ w.heap.size ≤ k_) ∧ some k_ ≠ ((.slice (some ad210) y190.length co84) : Value).ownBlock ∧ some k_ ≠ (v212 : Value).ownBlock ∧ some k_ ≠ (v15 : Value).ownBlock ∧ some k_ ≠ ((.slice Ao77 t203.length co77) : Value).ownBlock ∧ some k_ ≠ ((.slice Ao81 t206.length co81) : Value).ownBlock ∧ k_ ≠ ag ∧ k_ ≠ af ∧ k_ ≠ gb209) (.slice (some ad202) ai.length co74) ai) ∧ Aside0 (Kd.R (Kd.int .i64) 3 wc w.heap.size (fun k_ => (w.heap.size ≤ k_) ∧ some k_ ≠ ((.slice Ao81 t206.length co81) : Value).ownBlock) (.slice (some ad210) y190.length co84) y190) ∧ Aside0 (Kd.R k42 42 wc w.heap.size (fun k_ => (w.heap.size ≤ k_) ∧ some k_ ≠ (v15 : Value).ownBlock) v212 t211) ∧ Aside0 (Kd.R k42 42 wc w.heap.size (fun k_ => (w.heap.size ≤ k_) ∧ some k_ ≠ (v212 : Value).ownBlock) v15 x15_104) ∧ Aside0 (Kd.V k31 31 wc w.heap.size (fun k_ => (P0_1_ k_ ∨ w.heap.size ≤ k_) ∧ some k_ ≠ ((.slice (some ad202) ai.length co74) : Value).ownBlock ∧ some k_ ≠ ((.slice (some ad210) y190.length co84) : Value).ownBlock ∧ some k_ ≠ (v212 : Value).ownBlock ∧ some k_ ≠ (v15 : Value).ownBlock ∧ some k_ ≠ ((.slice Ao77 t203.length co77) : Value).ownBlock ∧ some k_ ≠ ((.slice Ao81 t206.length co81) : Value).ownBlock ∧ k_ ≠ ag ∧ k_ ≠ af ∧ k_ ≠ gb209) (.slice A0_1 aj.length c0_1) aj) ∧ Aside0 (Kd.R k44 44 wc w.heap.size (fun k_ => (w.heap.size ≤ k_)) (.slice Ao77 t203.length co77) t203) ∧ Aside0 (Kd.R (Kd.int .i64) 3 wc w.heap.size (fun k_ => (w.heap.size ≤ k_) ∧ some k_ ≠ ((.slice (some ad210) y190.length co84) : Value).ownBlock) (.slice Ao81 t206.length co81) t206) ∧ Aside0 (wc.heap[ag]? = some (.cells #[(.slice (some ad194) aa.length c0_0), (.slice A0_1 aj.length c0_1), (.slice A0_2 ao.length c0_2)] 26 (0, 0))) ∧ Aside0 (wc.heap[af]? = some (.cells #[.int .i64 ((rd_T39 aa ab).f0), .int .i64 ((rd_T39 aa ab).f1), .string ((rd_T39 aa ab).f2), .string ((rd_T39 aa ab).f3), .string ((rd_T39 aa ab).f4.f0), .string ((rd_T39 aa ab).f4.f1), .bool ((rd_T39 aa ab).f4.f2), .int .i64 ((rd_T39 aa ab).f5), .bool ((rd_T39 aa ab).f6)] 39 (0, 0))) ∧ Aside0 (wc.heap[gb209]? = some (.cells #[(.slice Ao77 t203.length co77), (.slice Ao81 t206.length co81)] 31 (0, 0))) ∧ Aside0 (Below w.heap.size w wc))
         case first =>
          have H := HC105.out
          clear HC105
          by_cases c106 : x116_72 = true
          rotate_left
          ·replace c106 := Bool.eq_false_iff.mpr c106
           subst c106
           have H1 : (quorumlaw12_PlanLocks.j9 kj72 ai y190 ab ah x10_6 t211 t214 1 ([] : List (S42)) aa aj ao ((rd_T39 aa ab).f0) ((rd_T39 aa ab).f1) ((rd_T39 aa ab).f2) ((rd_T39 aa ab).f3) ((rd_T39 aa ab).f4.f0) ((rd_T39 aa ab).f4.f1) ((rd_T39 aa ab).f4.f2) ((rd_T39 aa ab).f5) ((rd_T39 aa ab).f6) t203 t206) = some r := by rw [if_neg (show ¬ (false = true) by decide)] at H; exact H
           clear H
           have H := H1
           clear H1
           have H' := mk0 H
           clear H
           go_wp2
           go_meet
           case rel => exact ⟨_, (1), (([] : List (S42))), (by first | rfl | (simp; done) | (simp [*]; done)), H', ⟨by have := HK1.out; have := HJ19.out; have := HK3.out; have := HK4.out; have := HJ56.out; have := HK6.out; have := HJ61.out; have := HJ72.out; first | omega | exact Nat.le_refl _⟩, ⟨by (with_reducible repeat (first | apply Kd.N_alloc | apply Kd.N_drewN | apply Kd.N_drew)); exact ak.out⟩, ⟨by (with_reducible repeat (first | apply Ra_ | apply Rn_ | apply Rd_)); exact ap.out⟩, ⟨by (with_reducible repeat (first | apply Ra_ | apply Rn_ | apply Rd_)); exact HO_12.out⟩, ⟨by (with_reducible repeat (first | apply Ra_ | apply Rn_ | apply Rd_)); exact HO_15.out⟩, ⟨by (with_reducible repeat (first | apply Kd.V_alloc | apply Kd.V_drewN | apply Kd.V_drew)); exact ad.out⟩, ⟨by (with_reducible repeat (first | apply Ra_ | apply Rn_ | apply Rd_)); exact al.out⟩, ⟨by (with_reducible repeat (first | apply Ra_ | apply Rn_ | apply Rd_)); exact am.out⟩, ⟨by (with_reducible repeat (first | refine bN_ ?_ _ | refine bD_ ?_ | refine bA_ ?_ _)); exact ae.out⟩, ⟨by (with_reducible repeat (first | refine bN_ ?_ _ | refine bD_ ?_ | refine bA_ ?_ _)); exact ac.out⟩, ⟨by (with_reducible repeat (first | refine bN_ ?_ _ | refine bD_ ?_ | refine bA_ ?_ _)); exact an.out⟩, ⟨by repeat (first | (with_reducible first | exact HB.out | apply bL_ | apply pN_ | apply b1_ | refine bs_ ?_ GE179.out | refine bs_ ?_ GE195.out | refine bs_ ?_ GE209.out) | exact HB.out)⟩⟩
          subst c106
          have H1 : (if 0 ≤ ah then (if ah < (ai.length : Int) then (if 0 ≤ x10_6 then (if x10_6 < (y190.length : Int) then ((quorumref12_Locks.f ((rd_T39 aa ab).f0) ((rd_T39 aa ab).f1) ((rd_T39 aa ab).f2) ((rd_T39 aa ab).f3) ((rd_T39 aa ab).f4.f0) ((rd_T39 aa ab).f4.f1) ((rd_T39 aa ab).f4.f2) ((rd_T39 aa ab).f5) ((rd_T39 aa ab).f6) ((rd_T31 ai ah).f0) ((rd_T31 ai ah).f1) (rd y190 x10_6)).bind fun t222 => (quorumlaw12_PlanLocks.j9 kj72 ai y190 ab ah x10_6 t211 t214 0 t222 aa aj ao ((rd_T39 aa ab).f0) ((rd_T39 aa ab).f1) ((rd_T39 aa ab).f2) ((rd_T39 aa ab).f3) ((rd_T39 aa ab).f4.f0) ((rd_T39 aa ab).f4.f1) ((rd_T39 aa ab).f4.f2) ((rd_T39 aa ab).f5) ((rd_T39 aa ab).f6) t203 t206)) else (none)) else (none)) else (none)) else (none)) = some r := by rw [if_pos rfl] at H; exact H
          clear H
          have H := H1
          clear H1
          by_cases c107 : 0 ≤ ah
          rotate_left
          ·rw [if_neg c107] at H
           exact absurd H (by simp)
          rw [if_pos c107] at H
          have c107b0 : decide (0 ≤ ah) = true := decide_eq_true c107
          clear c107
          (first | rw [c107b0] | (simp only [i64_w, i32_w]; rw [c107b0]) | skip)
          by_cases c108 : ah < (ai.length : Int)
          rotate_left
          ·rw [if_neg c108] at H
           exact absurd H (by simp)
          rw [if_pos c108] at H
          have c108b0 : decide (ah < (ai.length : Int)) = true := decide_eq_true c108
          clear c108
          by_cases c109 : 0 ≤ x10_6
          rotate_left
          ·rw [if_neg c109] at H
           exact absurd H (by simp)
          rw [if_pos c109] at H
          have c109b0 : decide (0 ≤ x10_6) = true := decide_eq_true c109
          clear c109
          by_cases c110 : x10_6 < (y190.length : Int)
          rotate_left
          ·rw [if_neg c110] at H
           exact absurd H (by simp)
          rw [if_pos c110] at H
          have c110b0 : decide (x10_6 < (y190.length : Int)) = true := decide_eq_true c110
          clear c110
          replace H := Option.bind_eq_some_iff.mp H
          obtain ⟨t222, A1110, H⟩ := H
          replace H : (quorumlaw12_PlanLocks.j9 kj72 ai y190 ab ah x10_6 t211 t214 0 t222 aa aj ao ((rd_T39 aa ab).f0) ((rd_T39 aa ab).f1) ((rd_T39 aa ab).f2) ((rd_T39 aa ab).f3) ((rd_T39 aa ab).f4.f0) ((rd_T39 aa ab).f4.f1) ((rd_T39 aa ab).f4.f2) ((rd_T39 aa ab).f5) ((rd_T39 aa ab).f6) t203 t206) = some r := H
          have A111 := mk0 A1110
          clear A1110
          have H' := mk0 H
          clear H
          try go_wp2
          have n0_ := mk0 (Kd.N_drew ak.out)
          have n1_ := mk0 (Rd_ ap.out)
          have n2_ := mk0 (Rd_ HO_12.out)
          have n3_ := mk0 (Rd_ HO_15.out)
          have n4_ := mk0 (Kd.V_drew ad.out)
          have n5_ := mk0 (Rd_ al.out)
          have n6_ := mk0 (Rd_ am.out)
          have n7_ := mk0 (bD_ ae.out)
          have n8_ := mk0 (bD_ ac.out)
          have n9_ := mk0 (bD_ an.out)
          have n10_ := mk0 (b1_ HB.out)
          clear ak
          clear ap
          clear HO_12
          clear HO_15
          clear ad
          clear al
          clear am
          clear ae
          clear ac
          clear an
          clear HB
          have ak := n0_
          have ap := n1_
          have HO_12 := n2_
          have HO_15 := n3_
          have ad := n4_
          have al := n5_
          have am := n6_
          have ae := n7_
          have ac := n8_
          have an := n9_
          have HB := n10_
          clear n0_ n1_ n2_ n3_ n4_ n5_ n6_ n7_ n8_ n9_ n10_
          have p220 : 0 ≤ (ah : Int) := of_decide_eq_true (by first | (with_reducible assumption) | assumption)
          have q220 : ah < (ai.length : Int) := of_decide_eq_true (by first | (with_reducible assumption) | assumption)
          obtain ⟨ad220, A220_0, c220_0, A220_1, c220_1, e220, hx220_0, hx220_1, hl220_0, hi220_0, hl220_1, hi220_1⟩ := at_T31 (Kd.N_reads' ak.out).2.2 ah p220 q220
          obtain rfl : ad202 = ad220 := (by injection e220)
          obtain ⟨ce220, hce220, hMe220, hcc220⟩ := Kd.N_get ak.out z31 ah p220 (by first | exact q220 | exact of_decide_eq_true (by first | (with_reducible assumption) | assumption) | (have e_ := (Kd.N_reads' ak.out).1; omega))
          obtain ⟨ua220_0, uc220_0, ua220_1, uc220_1, rfl, ul220_0, ge220_0, ul220_1, ge220_1⟩ := k31_openF hMe220
          have hv220_0 := hcc220 0 _ rfl
          rw [Nat.add_zero] at hv220_0
          replace hv220_0 := Option.some.inj (hv220_0.symm.trans hx220_0)
          injection hv220_0 with hva_ hvn_ hvc_
          rw [hva_] at ge220_0
          rw [hvc_] at ul220_0
          have HL220_0 := mk0 (show Kd.V k44 44 _ w.heap.size _ _ ((rd_T31 ai ah).f0) from Kd.V_mk ul220_0 ge220_0)
          clear hva_ hvn_ hvc_ ge220_0 ul220_0
          have hv220_1 := hcc220 1 _ rfl
          rw [add_field _ _ 1 (by omega)] at hv220_1
          replace hv220_1 := Option.some.inj (hv220_1.symm.trans hx220_1)
          injection hv220_1 with hva_ hvn_ hvc_
          rw [hva_] at ge220_1
          rw [hvc_] at ul220_1
          have HL220_1 := mk0 (show Kd.V (Kd.int .i64) 3 _ w.heap.size _ _ ((rd_T31 ai ah).f1) from Kd.V_mk ul220_1 ge220_1)
          clear hva_ hvn_ hvc_ ge220_1 ul220_1
          clear hcc220 hce220
          have HR220_0 := mk0 hi220_0
          have HC220_0 := mk0 hl220_0
          clear hi220_0 hl220_0
          have HR220_1 := mk0 hi220_1
          have HC220_1 := mk0 hl220_1
          clear hi220_1 hl220_1
          replace p220 := eq_true p220
          replace q220 := eq_true q220
          have p221 : 0 ≤ (x10_6 : Int) := of_decide_eq_true (by first | (with_reducible assumption) | assumption)
          have q221 : x10_6 < (y190.length : Int) := of_decide_eq_true (by first | (with_reducible assumption) | assumption)
          obtain ⟨ad221, e221, hx221_0⟩ := Kd.at_int (Kd.R_reads' ap.out).2.2 x10_6 p221 q221
          obtain rfl : ad210 = ad221 := (by injection e221)
          replace p221 := eq_true p221
          replace q221 := eq_true q221
          refine start_ (n := 12) (S := fun w' => w'.cell? ⟨af, 0, none⟩ = some (.int .i64 ((rd_T39 aa ab).f0)) ∧ w'.cell? ⟨af, 1, none⟩ = some (.int .i64 ((rd_T39 aa ab).f1)) ∧ w'.cell? ⟨af, 2, none⟩ = some (.string ((rd_T39 aa ab).f2)) ∧ w'.cell? ⟨af, 3, none⟩ = some (.string ((rd_T39 aa ab).f3)) ∧ w'.cell? ⟨af, 4, none⟩ = some (.string ((rd_T39 aa ab).f4.f0)) ∧ w'.cell? ⟨af, 5, none⟩ = some (.string ((rd_T39 aa ab).f4.f1)) ∧ w'.cell? ⟨af, 6, none⟩ = some (.bool ((rd_T39 aa ab).f4.f2)) ∧ w'.cell? ⟨af, 7, none⟩ = some (.int .i64 ((rd_T39 aa ab).f5)) ∧ w'.cell? ⟨af, 8, none⟩ = some (.bool ((rd_T39 aa ab).f6)) ∧ w'.cell? (ad202.add ((ah).toNat * 2)) = some (.slice A220_0 ((rd_T31 ai ah).f0).length c220_0) ∧ w'.cell? ⟨(ad202.add ((ah).toNat * 2)).block, (ad202.add ((ah).toNat * 2)).off + 1, none⟩ = some (.slice A220_1 ((rd_T31 ai ah).f1).length c220_1) ∧ w'.cell? (ad210.add (x10_6).toNat) = some (.int .i64 (rd y190 x10_6))) (ds := []) (bt 12 0) (by kernel_rfl) rfl rfl ⟨(blk_cell ac.out 0).trans rfl, (blk_cell ac.out 1).trans rfl, (blk_cell ac.out 2).trans rfl, (blk_cell ac.out 3).trans rfl, (blk_cell ac.out 4).trans rfl, (blk_cell ac.out 5).trans rfl, (blk_cell ac.out 6).trans rfl, (blk_cell ac.out 7).trans rfl, (blk_cell ac.out 8).trans rfl, hx220_0, hx220_1, hx221_0⟩ (fun hHeld => ?_); refine with_tabW quorumlaw12_PlanLocks.tab28 quorumlaw12_PlanLocks.bits28 (fun HT_ HW_ => ?_)
          generalize wc.drew = w112 at ak ap HO_12 HO_15 ad al am ae ac an HB HL220_0 HL220_1 HR220_0 HR220_1 hx220_0 hx220_1 hx221_0 hHeld ⊢
          refine p1 HT_.out 1 118 (bt 12 2) rfl rfl (by kernel_rfl) (fun _ _ _ h => h) (by rfl) (by intro w'; go_simp; with_reducible rfl) (by simp only [z_]; rfl) ?_
          refine p1 HT_.out 2 119 (bt 12 6) rfl rfl (by kernel_rfl) (fun _ _ _ h => h) (by rfl) (by intro w'; go_simp; with_reducible rfl) (by simp only [z_]; rfl) ?_
          refine p1 HT_.out 3 120 (bt 12 14) rfl rfl (by kernel_rfl) (fun _ _ _ h => h) (by rfl) (by intro w'; go_simp; with_reducible rfl) (by simp only [z_]; rfl) ?_
          refine p1 HT_.out 5 122 (bt 12 46) rfl rfl (by kernel_rfl) (fun _ _ _ h => h) (by rfl) (by intro w'; go_simp; with_reducible rfl) (by simp only [z_]; rfl) ?_
          refine p1 HT_.out 6 123 (bt 12 110) rfl rfl (by kernel_rfl) (fun _ _ _ h => h) (by rfl) (by intro w'; go_simp; with_reducible rfl) (by simp only [z_]; rfl) ?_
          refine p1 HT_.out 7 124 (bt 12 238) rfl rfl (by kernel_rfl) (fun _ _ _ h => h) (by rfl) (by intro w'; go_simp; with_reducible rfl) (by simp only [z_]; rfl) ?_
          refine t1 HT_.out HW_.out 0 117 (bt 12 239) rfl rfl (by kernel_rfl) (fun _ _ _ h => h) (by rfl) (by rintro w' ⟨s0, s1, s2, s3, s4, s5, s6, s7, s8, s9, s10, s11⟩; go_simp; with_reducible rfl) hHeld (by simp only [z_]; rfl) ?_
          refine t1 HT_.out HW_.out 4 121 (bt 12 255) rfl rfl (by kernel_rfl) (fun _ _ _ h => h) (by rfl) (by rintro w' ⟨s0, s1, s2, s3, s4, s5, s6, s7, s8, s9, s10, s11⟩; go_simp; with_reducible rfl) hHeld (by simp only [z_]; rfl) ?_
          refine t1 HT_.out HW_.out 8 125 (bt 12 511) rfl rfl (by kernel_rfl) (fun _ _ _ h => h) (by rfl) (by rintro w' ⟨s0, s1, s2, s3, s4, s5, s6, s7, s8, s9, s10, s11⟩; go_simp; with_reducible rfl) hHeld (by simp only [z_]; rfl) ?_
          refine one_ (i := 9) (N := some 126) (bt 12 1023) rfl rfl (one_of HT_.out (by kernel_rfl)) (by decide) (fun K hK => ?_)
          refine goes_ Try.func55 (by kernel_rfl) rfl #[.agg #[.int .i64 ((rd_T39 aa ab).f0), .int .i64 ((rd_T39 aa ab).f1), .string ((rd_T39 aa ab).f2), .string ((rd_T39 aa ab).f3), .string ((rd_T39 aa ab).f4.f0), .string ((rd_T39 aa ab).f4.f1), .bool ((rd_T39 aa ab).f4.f2), .int .i64 ((rd_T39 aa ab).f5), .bool ((rd_T39 aa ab).f6)], .agg #[.slice A220_0 ((rd_T31 ai ah).f0).length c220_0, .slice A220_1 ((rd_T31 ai ah).f1).length c220_1], .int .i64 (rd y190 x10_6)] (by rfl) rfl rfl (by (try simp only [List.map_toArray, List.map_cons, List.map_nil]); first | done | rfl | (simp only [List.length_drop, List.length_take]; rfl)) ?_
          with_reducible refine (quorumref12_Locks.calls ((rd_T39 aa ab).f0) ((rd_T39 aa ab).f1) ((rd_T39 aa ab).f2) ((rd_T39 aa ab).f3) ((rd_T39 aa ab).f4.f0) ((rd_T39 aa ab).f4.f1) ((rd_T39 aa ab).f4.f2) ((rd_T39 aa ab).f5) ((rd_T39 aa ab).f6) _ _ ((rd_T31 ai ah).f0) _ _ ((rd_T31 ai ah).f1) (rd y190 x10_6) t222 _ ?side1 ?side2 ?side3 ?side4 A111.out).mono ?_
          (case side1 => repeat (first | exact (by repeat (first | (with_reducible exact HR220_0.out) | (with_reducible refine Kd.C_alloc ?_ _) | (with_reducible refine Kd.C_drewN ?_ _) | (with_reducible refine Kd.C_drew ?_) | exact HR220_0.out)) | (with_reducible refine Kd.C_alloc ?_ _) | (with_reducible refine Kd.C_drewN ?_ _) | (with_reducible refine Kd.C_drew ?_)))
          (case side2 => exact HC220_0.out)
          (case side3 => repeat (first | exact (by repeat (first | (with_reducible exact HR220_1.out) | (with_reducible refine Kd.C_alloc ?_ _) | (with_reducible refine Kd.C_drewN ?_ _) | (with_reducible refine Kd.C_drew ?_) | exact HR220_1.out)) | (with_reducible refine Kd.C_alloc ?_ _) | (with_reducible refine Kd.C_drewN ?_ _) | (with_reducible refine Kd.C_drew ?_)))
          (case side4 => exact HC220_1.out)
          rintro e w113 ⟨v223, rfl, ho0, hb⟩
          have HS9_ := (hb.cell (World.block_lt_of_cell? _ _ (hHeld.2.2.2.2.2.2.2.2.2.1))).trans (hHeld.2.2.2.2.2.2.2.2.2.1)
          have HS10_ := (hb.cell (World.block_lt_of_cell? _ _ (hHeld.2.2.2.2.2.2.2.2.2.2.1))).trans (hHeld.2.2.2.2.2.2.2.2.2.2.1)
          have HS11_ := (hb.cell (World.block_lt_of_cell? _ _ (hHeld.2.2.2.2.2.2.2.2.2.2.2))).trans (hHeld.2.2.2.2.2.2.2.2.2.2.2)
          refine ⟨_, rfl, ?_⟩
          have n0_ := mk0 (Kd.N_elder' (by (with_reducible repeat (first | apply Kd.N_alloc | apply Kd.N_drewN | apply Kd.N_drew)); exact ak.out) (Kd.R_base ho0) hb)
          have n1_ := mk0 (Kd.R_below (by (with_reducible repeat (first | apply Ra_ | apply Rn_ | apply Rd_)); exact ap.out) hb)
          have n2_ := mk0 (Kd.R_elder' (by (with_reducible repeat (first | apply Ra_ | apply Rn_ | apply Rd_)); exact HO_12.out) (Kd.R_base ho0) hb)
          have n3_ := mk0 (Kd.R_elder' (by (with_reducible repeat (first | apply Ra_ | apply Rn_ | apply Rd_)); exact HO_15.out) (Kd.R_base ho0) hb)
          have n4_ := mk0 (Kd.V_elder' (by (with_reducible repeat (first | apply Kd.V_alloc | apply Kd.V_drewN | apply Kd.V_drew)); exact ad.out) (Kd.R_base ho0) hb)
          have n5_ := mk0 (Kd.R_below (by (with_reducible repeat (first | apply Ra_ | apply Rn_ | apply Rd_)); exact al.out) hb)
          have n6_ := mk0 (Kd.R_below (by (with_reducible repeat (first | apply Ra_ | apply Rn_ | apply Rd_)); exact am.out) hb)
          have n7_ := mk0 (Kd.V_elder' (by (with_reducible repeat (first | apply Kd.V_alloc | apply Kd.V_drewN | apply Kd.V_drew)); exact HL220_0.out) (Kd.R_base ho0) hb)
          have n8_ := mk0 (Kd.V_elder' (by (with_reducible repeat (first | apply Kd.V_alloc | apply Kd.V_drewN | apply Kd.V_drew)); exact HL220_1.out) (Kd.R_base ho0) hb)
          have n9_ := mk0 (Kd.R_lower (Kd.R_new' (Kd.R_new' (Kd.R_newM (M := fun k_ => (w.heap.size ≤ k_)) ho0 (bz_ (by repeat (first | (with_reducible first | exact HB.out | apply bL_ | apply pN_ | apply b1_ | refine bs_ ?_ GE179.out | refine bs_ ?_ GE195.out | refine bs_ ?_ GE209.out) | exact HB.out))) (fun k_ h_ => h_)) (Kd.R_lt (by (with_reducible repeat (first | apply Ra_ | apply Rn_ | apply Rd_)); exact HO_12.out))) (Kd.R_lt (by (with_reducible repeat (first | apply Ra_ | apply Rn_ | apply Rd_)); exact HO_15.out))) (bz_ (by repeat (first | (with_reducible first | exact HB.out | apply bL_ | apply pN_ | apply b1_ | refine bs_ ?_ GE179.out | refine bs_ ?_ GE195.out | refine bs_ ?_ GE209.out) | exact HB.out))))
          have n10_ := mk0 (blk_below (g := ag) (o := .cells #[.slice (some ad194) aa.length c0_0, .slice A0_1 aj.length c0_1, .slice A0_2 ao.length c0_2] 26 (0, 0)) (by (with_reducible repeat (first | refine bN_ ?_ _ | refine bD_ ?_ | refine bA_ ?_ _)); exact ae.out) hb)
          have n11_ := mk0 (blk_below (g := af) (o := .cells #[.int .i64 ((rd_T39 aa ab).f0), .int .i64 ((rd_T39 aa ab).f1), .string ((rd_T39 aa ab).f2), .string ((rd_T39 aa ab).f3), .string ((rd_T39 aa ab).f4.f0), .string ((rd_T39 aa ab).f4.f1), .bool ((rd_T39 aa ab).f4.f2), .int .i64 ((rd_T39 aa ab).f5), .bool ((rd_T39 aa ab).f6)] 39 (0, 0)) (by (with_reducible repeat (first | refine bN_ ?_ _ | refine bD_ ?_ | refine bA_ ?_ _)); exact ac.out) hb)
          have n12_ := mk0 (blk_below (g := gb209) (o := .cells #[.slice Ao77 t203.length co77, .slice Ao81 t206.length co81] 31 (0, 0)) (by (with_reducible repeat (first | refine bN_ ?_ _ | refine bD_ ?_ | refine bA_ ?_ _)); exact an.out) hb)
          have n13_ := mk0 (Kd.C_below (by (with_reducible repeat (first | refine Kd.C_drewN ?_ _ | refine Kd.C_drew ?_ | refine Kd.C_alloc ?_ _)); exact HR220_0.out) hb)
          have n14_ := mk0 (Kd.C_below (by (with_reducible repeat (first | refine Kd.C_drewN ?_ _ | refine Kd.C_drew ?_ | refine Kd.C_alloc ?_ _)); exact HR220_1.out) hb)
          have n15_ := mk0 (bt_ (by repeat (first | (with_reducible first | exact HB.out | apply bL_ | apply pN_ | apply b1_ | refine bs_ ?_ GE179.out | refine bs_ ?_ GE195.out | refine bs_ ?_ GE209.out) | exact HB.out)) hb)
          clear ak
          clear ap
          clear HO_12
          clear HO_15
          clear ad
          clear al
          clear am
          clear HL220_0
          clear HL220_1
          clear ae
          clear ac
          clear an
          clear HR220_0
          clear HR220_1
          clear HB
          have ak := n0_
          have ap := n1_
          have HO_12 := n2_
          have HO_15 := n3_
          have ad := n4_
          have al := n5_
          have am := n6_
          have HL220_0 := n7_
          have HL220_1 := n8_
          have HO224 := n9_
          have ae := n10_
          have ac := n11_
          have an := n12_
          have HR220_0 := n13_
          have HR220_1 := n14_
          have HB := n15_
          clear n0_ n1_ n2_ n3_ n4_ n5_ n6_ n7_ n8_ n9_ n10_ n11_ n12_ n13_ n14_ n15_
          (try clear hb)
          (try clear hb2)
          (try clear hk)
          (try clear hi)
          (try clear ho0)
          refine hK.out _ _ ⟨(blk_cell ac.out 0).trans rfl, (blk_cell ac.out 1).trans rfl, (blk_cell ac.out 2).trans rfl, (blk_cell ac.out 3).trans rfl, (blk_cell ac.out 4).trans rfl, (blk_cell ac.out 5).trans rfl, (blk_cell ac.out 6).trans rfl, (blk_cell ac.out 7).trans rfl, (blk_cell ac.out 8).trans rfl, HS9_, HS10_, HS11_⟩ (fun hHeld => ?_)
          clear hK K
          refine norm_ (a' := ?_) ?_ ?_
          rotate_left
          ·show Act.put _ (some 126) _ = _
           simp only [z_]
           rfl
          refine p1 HT_.out 10 14 (bt 12 2047) rfl rfl (by kernel_rfl) (fun _ _ _ h => h) (by rfl) (by intro w'; go_simp; with_reducible rfl) (by simp only [z_]; rfl) ?_
          refine p1 HT_.out 11 15 (bt 12 4095) rfl rfl (by kernel_rfl) (fun _ _ _ h => h) (by rfl) (by intro w'; go_simp; with_reducible rfl) (by simp only [z_]; rfl) ?_
          refine done_ (done_of HT_.out (by kernel_rfl)) ?_
          try go_wp2
          go_meet
          case rel => exact ⟨_, (0), (t222), (by first | rfl | (simp; done) | (simp [*]; done)), H', ⟨by have := HK1.out; have := HJ19.out; have := HK3.out; have := HK4.out; have := HJ56.out; have := HK6.out; have := HJ61.out; have := HJ72.out; first | omega | exact Nat.le_refl _⟩, ⟨by (with_reducible repeat (first | apply Kd.N_alloc | apply Kd.N_drewN | apply Kd.N_drew)); exact Kd.N_mono ak.out (fun _ hk => ⟨hk.1.1, ⟨hk.1.2.1, ⟨hk.1.2.2.1, ⟨hk.2, ⟨hk.1.2.2.2.2.1, ⟨hk.1.2.2.2.2.2.1, ⟨hk.1.2.2.2.2.2.2.1, ⟨hk.1.2.2.2.2.2.2.2.1, hk.1.2.2.2.2.2.2.2.2⟩⟩⟩⟩⟩⟩⟩⟩)⟩, ⟨by (with_reducible repeat (first | apply Ra_ | apply Rn_ | apply Rd_)); exact ap.out⟩, ⟨by (with_reducible repeat (first | apply Ra_ | apply Rn_ | apply Rd_)); exact Kd.R_mono HO_12.out (fun _ hk => ⟨hk.1.1, hk.2⟩)⟩, ⟨by (with_reducible repeat (first | apply Ra_ | apply Rn_ | apply Rd_)); exact Kd.R_mono HO224.out (fun _ hk => ⟨hk.1.1.1, hk.1.2⟩)⟩, ⟨by (with_reducible repeat (first | apply Kd.V_alloc | apply Kd.V_drewN | apply Kd.V_drew)); exact Kd.V_mono ad.out (fun _ hk => ⟨hk.1.1, ⟨hk.1.2.1, ⟨hk.1.2.2.1, ⟨hk.1.2.2.2.1, ⟨hk.2, ⟨hk.1.2.2.2.2.2.1, ⟨hk.1.2.2.2.2.2.2.1, ⟨hk.1.2.2.2.2.2.2.2.1, ⟨hk.1.2.2.2.2.2.2.2.2.1, hk.1.2.2.2.2.2.2.2.2.2⟩⟩⟩⟩⟩⟩⟩⟩⟩)⟩, ⟨by (with_reducible repeat (first | apply Ra_ | apply Rn_ | apply Rd_)); exact al.out⟩, ⟨by (with_reducible repeat (first | apply Ra_ | apply Rn_ | apply Rd_)); exact am.out⟩, ⟨by (with_reducible repeat (first | refine bN_ ?_ _ | refine bD_ ?_ | refine bA_ ?_ _)); exact ae.out⟩, ⟨by (with_reducible repeat (first | refine bN_ ?_ _ | refine bD_ ?_ | refine bA_ ?_ _)); exact ac.out⟩, ⟨by (with_reducible repeat (first | refine bN_ ?_ _ | refine bD_ ?_ | refine bA_ ?_ _)); exact an.out⟩, ⟨by repeat (first | (with_reducible first | exact HB.out | apply bL_ | apply pN_ | apply b1_ | refine bs_ ?_ GE179.out | refine bs_ ?_ GE195.out | refine bs_ ?_ GE209.out) | exact HB.out)⟩⟩
         clear HC105
         try clear c1
         try clear p1
         try clear q1
         try clear hx1
         try clear c2
         try clear p2
         try clear q2
         try clear hx2
         try clear c3
         try clear c4
         try clear c5
         try clear c6
         try clear p6
         try clear c7
         try clear c8
         try clear c9
         try clear c10
         try clear c11
         try clear c15
         try clear c17
         try clear c18
         try clear p19
         try clear q19
         try clear hx19
         try clear c20
         try clear p20
         try clear q20
         try clear hx20
         try clear c21
         try clear c21b0
         try clear p21
         try clear q21
         try clear hx21
         try clear c22
         try clear p22
         try clear q22
         try clear hx22
         try clear c24
         try clear c25
         try clear c25b0
         try clear c26
         try clear c26b0
         try clear c29
         try clear c31
         try clear c31b0
         try clear c32
         try clear c33
         try clear c34
         try clear c36
         try clear c41
         try clear c41b0
         try clear c41b1
         try clear c41b2
         try clear c42
         try clear c45
         try clear c50
         try clear c50b0
         try clear c50b1
         try clear c50b2
         try clear c51
         try clear c52
         try clear c53
         try clear c54
         try clear c55
         try clear c58
         try clear c58b0
         try clear c61
         try clear c63
         try clear c63b0
         try clear c66
         try clear c67
         try clear c67b0
         try clear c68
         try clear c68b0
         try clear c70
         try clear c70b0
         try clear c71
         try clear c71b0
         try clear c78
         try clear c79
         try clear c87
         try clear c89
         try clear c91
         try clear c92
         try clear c96
         try clear c97
         try clear c101
         try clear c102
         try clear c106
         try clear c107
         try clear c107b0
         try clear c108
         try clear c108b0
         try clear c109
         try clear c109b0
         try clear c110
         try clear c110b0
         try clear hcz103_0 hcz103_1 hcz103_2 hcz103_3 hcz103_4 hcz103_5 hcz103_6 hcz103_7 hcz103_8 hfz103_0 hfz103_1 hfz103_2 hfz103_3 hfz103_4 hfz103_5 hfz103_6 hfz103_7 hfz103_8
         try clear hcz10_0 hcz10_1 hcz10_2 hfz10_0 hfz10_1 hfz10_2
         try clear hcz14_0 hcz14_1 hcz14_2 hfz14_0 hfz14_1 hfz14_2
         try clear hcz18_0 hcz18_1 hcz18_2 hfz18_0 hfz18_1 hfz18_2
         try clear hcz22_0 hcz22_1 hcz22_2 hfz22_0 hfz22_1 hfz22_2
         try clear hcz23_0 hcz23_1 hcz23_2 hfz23_0 hfz23_1 hfz23_2
         try clear hcz27_0 hcz27_1 hcz27_2 hfz27_0 hfz27_1 hfz27_2
         try clear hcz30_0 hcz30_1 hcz30_2 hcz30_3 hcz30_4 hcz30_5 hcz30_6 hcz30_7 hcz30_8 hfz30_0 hfz30_1 hfz30_2 hfz30_3 hfz30_4 hfz30_5 hfz30_6 hfz30_7 hfz30_8
         try clear hcz37_0 hcz37_1 hcz37_2 hcz37_3 hcz37_4 hcz37_5 hcz37_6 hcz37_7 hcz37_8 hfz37_0 hfz37_1 hfz37_2 hfz37_3 hfz37_4 hfz37_5 hfz37_6 hfz37_7 hfz37_8
         try clear hcz43_0 hcz43_1 hcz43_2 hcz43_3 hcz43_4 hcz43_5 hcz43_6 hcz43_7 hcz43_8 hfz43_0 hfz43_1 hfz43_2 hfz43_3 hfz43_4 hfz43_5 hfz43_6 hfz43_7 hfz43_8
         try clear hcz46_0 hcz46_1 hcz46_2 hcz46_3 hcz46_4 hcz46_5 hcz46_6 hcz46_7 hcz46_8 hfz46_0 hfz46_1 hfz46_2 hfz46_3 hfz46_4 hfz46_5 hfz46_6 hfz46_7 hfz46_8
         try clear hcz5_0 hcz5_1 hcz5_2 hfz5_0 hfz5_1 hfz5_2
         try clear hcz80_0 hcz80_1 hfz80_0 hfz80_1
         try clear hcz93_0 hcz93_1 hcz93_2 hcz93_3 hcz93_4 hcz93_5 hcz93_6 hcz93_7 hcz93_8 hfz93_0 hfz93_1 hfz93_2 hfz93_3 hfz93_4 hfz93_5 hfz93_6 hfz93_7 hfz93_8
         try clear hcz98_0 hcz98_1 hcz98_2 hcz98_3 hcz98_4 hcz98_5 hcz98_6 hcz98_7 hcz98_8 hfz98_0 hfz98_1 hfz98_2 hfz98_3 hfz98_4 hfz98_5 hfz98_6 hfz98_7 hfz98_8
         try clear hx194_0 hx194_1 hx194_2 hx194_3 hx194_4 hx194_5 hx194_6 hx194_7 hx194_8
         try clear hx202_0 hx202_1
         try clear hx210_0
         try clear hx216_0 hx216_1
         try clear hx218_0
         try clear hx220_0 hx220_1
         try clear hx221_0
         try clear p1
         try clear p19
         try clear p194
         try clear p2
         try clear p20
         try clear p202
         try clear p21
         try clear p210
         try clear p216
         try clear p218
         try clear p220
         try clear p221
         try clear p6
         try clear q1
         try clear q19
         try clear q194
         try clear q2
         try clear q20
         try clear q202
         try clear q21
         try clear q210
         try clear q216
         try clear q218
         try clear q220
         try clear q221
         obtain ⟨kq, x14_104, x15_104, rfl, HA, HJ104, ak, ap, HO_12, HO_15, ad, al, am, ae, ac, an, HB⟩ := hcut
         cases kq with
         | zero => exact absurd HA.out (by simp [quorumlaw12_PlanLocks.j9])
         | succ kj104 =>
          have H := HA.out
          clear HA
          simp only [quorumlaw12_PlanLocks.j9] at H
          replace H := Option.bind_eq_some_iff.mp H
          obtain ⟨t225, A1140, H⟩ := H
          replace H : (if t225 = x14_104 then ((quorumref0_EqLocks.f kj104 t211 x15_104).bind fun t226 => (if t226 = true then (if 0 ≤ ah then (if ah < (ai.length : Int) then ((quorumref0_EqPend.f kj104 t203 t206 ((rd_T31 ai ah).f0) ((rd_T31 ai ah).f1)).bind fun t228 => (if t228 = true then ((quorumlaw0_Locks.f kj104 t211).bind fun t229 => (quorumlaw12_PlanLocks.l3 kj104 ai y190 ab ah (wrap64 (x10_6 + 1)) aa aj ao ((rd_T39 aa ab).f0) ((rd_T39 aa ab).f1) ((rd_T39 aa ab).f2) ((rd_T39 aa ab).f3) ((rd_T39 aa ab).f4.f0) ((rd_T39 aa ab).f4.f1) ((rd_T39 aa ab).f4.f2) ((rd_T39 aa ab).f5) ((rd_T39 aa ab).f6))) else (some false))) else (none)) else (none)) else (some false))) else (some false)) = some r := H
          have A114 := mk0 A1140
          clear A1140
          by_cases c115 : t225 = x14_104
          rotate_left
          ·rw [if_neg c115] at H
           have c115b0 : (t225 == x14_104) = false := beq_eq_false_iff_ne.mpr c115
           have c115b1 : (t225 != x14_104) = true := bne_iff_ne.mpr c115
           obtain rfl := Option.some.inj H
           try go_wp2
           have n0_ := mk0 (Kd.N_drew ak.out)
           have n1_ := mk0 (Rd_ ap.out)
           have n2_ := mk0 (Rd_ HO_12.out)
           have n3_ := mk0 (Rd_ HO_15.out)
           have n4_ := mk0 (Kd.V_drew ad.out)
           have n5_ := mk0 (Rd_ al.out)
           have n6_ := mk0 (Rd_ am.out)
           have n7_ := mk0 (bD_ ae.out)
           have n8_ := mk0 (bD_ ac.out)
           have n9_ := mk0 (bD_ an.out)
           have n10_ := mk0 (b1_ HB.out)
           clear ak
           clear ap
           clear HO_12
           clear HO_15
           clear ad
           clear al
           clear am
           clear ae
           clear ac
           clear an
           clear HB
           have ak := n0_
           have ap := n1_
           have HO_12 := n2_
           have HO_15 := n3_
           have ad := n4_
           have al := n5_
           have am := n6_
           have ae := n7_
           have ac := n8_
           have an := n9_
           have HB := n10_
           clear n0_ n1_ n2_ n3_ n4_ n5_ n6_ n7_ n8_ n9_ n10_
           refine start_ (n := 19) (S := fun w' => True) (ds := []) (bt 19 0) (by kernel_rfl) rfl rfl trivial (fun hHeld => ?_); refine with_tabW quorumlaw12_PlanLocks.tab29 quorumlaw12_PlanLocks.bits29 (fun HT_ HW_ => ?_)
           generalize wc.drew = w135 at ak ap HO_12 HO_15 ad al am ae ac an HB hHeld ⊢
           refine p1 HT_.out 0 127 (bt 19 1) rfl rfl (by kernel_rfl) (fun _ _ _ h => h) (by rfl) (by intro w'; go_simp; with_reducible rfl) (by simp only [z_]; rfl) ?_
           refine p1 HT_.out 2 129 (bt 19 5) rfl rfl (by kernel_rfl) (fun _ _ _ h => h) (by rfl) (by intro w'; go_simp; with_reducible rfl) (by simp only [z_]; rfl) ?_
           refine one_ (i := 1) (N := some 128) (bt 19 7) rfl rfl (one_of HT_.out (by kernel_rfl)) (by decide) (fun K hK => ?_)
           refine goes_ Try.func18 (by kernel_rfl) rfl #[.int .i64 t214] (by rfl) rfl rfl (by (try simp only [List.map_toArray, List.map_cons, List.map_nil]); first | done | rfl | (simp only [List.length_drop, List.length_take]; rfl)) ?_
           with_reducible refine (quorumlaw12_num.calls t214 t225 _ A114.out).mono ?_
           rintro e w' ⟨rfl, ⟨nd, rfl⟩⟩
           refine ⟨_, rfl, ?_⟩
           refine hK.out _ _ trivial (fun hHeld => ?_)
           clear hK K
           refine norm_ (a' := ?_) ?_ ?_
           rotate_left
           ·show Act.put _ (some 128) _ = _
            simp only [z_]
            rfl
           refine p1 HT_.out 3 130 (bt 19 15) rfl rfl (by kernel_rfl) (fun _ _ _ h => h) (by rfl) (by intro w'; go_simp; with_reducible rfl) (by simp only [z_]; rfl) ?_
           refine p1 HT_.out 4 131 (bt 19 31) rfl rfl (by kernel_rfl) (fun _ _ _ h => h) (by rfl) (by intro w'; go_simp; with_reducible rfl) (by simp only [z_]; rfl) ?_
           refine pure_ (i := 5) (N := some 132) (v := undef) (bt 19 63) rfl rfl (any_of HT_.out (by kernel_rfl)) (fun _ _ _ h => h) (Or.inr ⟨by rfl, rfl⟩) (by simp only [z_]; rfl) ?_
           refine pure_ (i := 6) (N := some 133) (v := undef) (bt 19 127) rfl rfl (any_of HT_.out (by kernel_rfl)) (fun _ _ _ h => h) (Or.inr ⟨by rfl, rfl⟩) (by simp only [z_]; rfl) ?_
           refine pure_ (i := 7) (N := some 134) (v := undef) (bt 19 255) rfl rfl (any_of HT_.out (by kernel_rfl)) (fun _ _ _ h => h) (Or.inr ⟨by rfl, rfl⟩) (by simp only [z_]; rfl) ?_
           refine pure_ (i := 8) (N := some 135) (v := undef) (bt 19 511) rfl rfl (any_of HT_.out (by kernel_rfl)) (fun _ _ _ h => h) (Or.inr ⟨by rfl, rfl⟩) (by simp only [z_]; rfl) ?_
           refine p1 HT_.out 9 136 (bt 19 1023) rfl rfl (by kernel_rfl) (fun _ _ _ h => h) (by rfl) (by intro w'; go_simp; with_reducible rfl) (by simp only [z_]; rfl) ?_
           refine p1 HT_.out 10 137 (bt 19 2047) rfl rfl (by kernel_rfl) (fun _ _ _ h => h) (by rfl) (by intro w'; go_simp; with_reducible rfl) (by simp only [z_]; rfl) ?_
           refine pure_ (i := 11) (N := some 138) (v := undef) (bt 19 4095) rfl rfl (any_of HT_.out (by kernel_rfl)) (fun _ _ _ h => h) (Or.inr ⟨by rfl, rfl⟩) (by simp only [z_]; rfl) ?_
           refine pure_ (i := 12) (N := some 139) (v := undef) (bt 19 8191) rfl rfl (any_of HT_.out (by kernel_rfl)) (fun _ _ _ h => h) (Or.inr ⟨by rfl, rfl⟩) (by simp only [z_]; rfl) ?_
           refine pure_ (i := 13) (N := some 140) (v := undef) (bt 19 16383) rfl rfl (any_of HT_.out (by kernel_rfl)) (fun _ _ _ h => h) (Or.inr ⟨by rfl, rfl⟩) (by simp only [z_]; rfl) ?_
           refine pure_ (i := 14) (N := some 141) (v := undef) (bt 19 32767) rfl rfl (any_of HT_.out (by kernel_rfl)) (fun _ _ _ h => h) (Or.inr ⟨by rfl, rfl⟩) (by simp only [z_]; rfl) ?_
           refine pure_ (i := 15) (N := some 142) (v := undef) (bt 19 65535) rfl rfl (any_of HT_.out (by kernel_rfl)) (fun _ _ _ h => h) (Or.inr ⟨by rfl, rfl⟩) (by simp only [z_]; rfl) ?_
           refine pure_ (i := 16) (N := some 143) (v := undef) (bt 19 131071) rfl rfl (any_of HT_.out (by kernel_rfl)) (fun _ _ _ h => h) (Or.inr ⟨by rfl, rfl⟩) (by simp only [z_]; rfl) ?_
           refine pure_ (i := 17) (N := some 144) (v := undef) (bt 19 262143) rfl rfl (any_of HT_.out (by kernel_rfl)) (fun _ _ _ h => h) (Or.inr ⟨by rfl, rfl⟩) (by simp only [z_]; rfl) ?_
           refine p1 HT_.out 18 145 (bt 19 524287) rfl rfl (by kernel_rfl) (fun _ _ _ h => h) (by rfl) (by intro w'; go_simp; with_reducible rfl) (by simp only [z_]; rfl) ?_
           refine done_ (done_of HT_.out (by kernel_rfl)) ?_
           try go_wp2
           go_ret
           exact ⟨by first | rfl | (simp [errW_none, errW_some] <;> rfl) | (simp [*, errW_none, errW_some] <;> rfl), by repeat (first | (with_reducible first | exact HB.out | apply bL_ | apply pN_ | apply b1_ | refine bs_ ?_ GE179.out | refine bs_ ?_ GE195.out | refine bs_ ?_ GE209.out) | exact HB.out)⟩
          rw [if_pos c115] at H
          have c115b0 : (t225 == x14_104) = true := beq_iff_eq.mpr c115
          have c115b1 : (t225 != x14_104) = false := bne_eq_false_iff_eq.mpr c115
          clear c115
          replace H := Option.bind_eq_some_iff.mp H
          obtain ⟨t226, A1160, H⟩ := H
          replace H : (if t226 = true then (if 0 ≤ ah then (if ah < (ai.length : Int) then ((quorumref0_EqPend.f kj104 t203 t206 ((rd_T31 ai ah).f0) ((rd_T31 ai ah).f1)).bind fun t228 => (if t228 = true then ((quorumlaw0_Locks.f kj104 t211).bind fun t229 => (quorumlaw12_PlanLocks.l3 kj104 ai y190 ab ah (wrap64 (x10_6 + 1)) aa aj ao ((rd_T39 aa ab).f0) ((rd_T39 aa ab).f1) ((rd_T39 aa ab).f2) ((rd_T39 aa ab).f3) ((rd_T39 aa ab).f4.f0) ((rd_T39 aa ab).f4.f1) ((rd_T39 aa ab).f4.f2) ((rd_T39 aa ab).f5) ((rd_T39 aa ab).f6))) else (some false))) else (none)) else (none)) else (some false)) = some r := H
          have A116 := mk0 A1160
          clear A1160
          by_cases c117 : t226 = true
          rotate_left
          ·replace c117 := Bool.eq_false_iff.mpr c117
           subst c117
           have H1 : (some false) = some r := by rw [if_neg (show ¬ (false = true) by decide)] at H; exact H
           clear H
           have H := H1
           clear H1
           obtain rfl := Option.some.inj H
           try go_wp2
           have n0_ := mk0 (Kd.N_drew ak.out)
           have n1_ := mk0 (Rd_ ap.out)
           have n2_ := mk0 (Rd_ HO_12.out)
           have n3_ := mk0 (Rd_ HO_15.out)
           have n4_ := mk0 (Kd.V_drew ad.out)
           have n5_ := mk0 (Rd_ al.out)
           have n6_ := mk0 (Rd_ am.out)
           have n7_ := mk0 (bD_ ae.out)
           have n8_ := mk0 (bD_ ac.out)
           have n9_ := mk0 (bD_ an.out)
           have n10_ := mk0 (b1_ HB.out)
           clear ak
           clear ap
           clear HO_12
           clear HO_15
           clear ad
           clear al
           clear am
           clear ae
           clear ac
           clear an
           clear HB
           have ak := n0_
           have ap := n1_
           have HO_12 := n2_
           have HO_15 := n3_
           have ad := n4_
           have al := n5_
           have am := n6_
           have ae := n7_
           have ac := n8_
           have an := n9_
           have HB := n10_
           clear n0_ n1_ n2_ n3_ n4_ n5_ n6_ n7_ n8_ n9_ n10_
           refine start_ (n := 19) (S := fun w' => True) (ds := []) (bt 19 0) (by kernel_rfl) rfl rfl trivial (fun hHeld => ?_); refine with_tabW quorumlaw12_PlanLocks.tab29 quorumlaw12_PlanLocks.bits29 (fun HT_ HW_ => ?_)
           generalize wc.drew = w132 at ak ap HO_12 HO_15 ad al am ae ac an HB hHeld ⊢
           refine p1 HT_.out 0 127 (bt 19 1) rfl rfl (by kernel_rfl) (fun _ _ _ h => h) (by rfl) (by intro w'; go_simp; with_reducible rfl) (by simp only [z_]; rfl) ?_
           refine p1 HT_.out 2 129 (bt 19 5) rfl rfl (by kernel_rfl) (fun _ _ _ h => h) (by rfl) (by intro w'; go_simp; with_reducible rfl) (by simp only [z_]; rfl) ?_
           refine one_ (i := 1) (N := some 128) (bt 19 7) rfl rfl (one_of HT_.out (by kernel_rfl)) (by decide) (fun K hK => ?_)
           refine goes_ Try.func18 (by kernel_rfl) rfl #[.int .i64 t214] (by rfl) rfl rfl (by (try simp only [List.map_toArray, List.map_cons, List.map_nil]); first | done | rfl | (simp only [List.length_drop, List.length_take]; rfl)) ?_
           with_reducible refine (quorumlaw12_num.calls t214 t225 _ A114.out).mono ?_
           rintro e w' ⟨rfl, ⟨nd, rfl⟩⟩
           refine ⟨_, rfl, ?_⟩
           obtain ⟨Ao133, co133, eo133⟩ := Kd.R_slice HO_12.out
           (first | subst eo133 | (injection eo133 with f1_ f2_ f3_; have f4_ := f1_.symm; have f5_ := f3_.symm; clear f1_ f2_ f3_; subst f4_; subst f5_))
           obtain ⟨Ao134, co134, eo134⟩ := Kd.R_slice HO_15.out
           (first | subst eo134 | (injection eo134 with f1_ f2_ f3_; have f4_ := f1_.symm; have f5_ := f3_.symm; clear f1_ f2_ f3_; subst f4_; subst f5_))
           refine hK.out _ _ trivial (fun hHeld => ?_)
           clear hK K
           refine norm_ (a' := ?_) ?_ ?_
           rotate_left
           ·show Act.put _ (some 128) _ = _
            simp only [z_]
            rfl
           refine p1 HT_.out 3 130 (bt 19 15) rfl rfl (by kernel_rfl) (fun _ _ _ h => h) (by rfl) (by intro w'; go_simp; with_reducible rfl) (by simp only [z_]; rfl) ?_
           refine p1 HT_.out 4 131 (bt 19 31) rfl rfl (by kernel_rfl) (fun _ _ _ h => h) (by rfl) (by intro w'; go_simp; with_reducible rfl) (by simp only [z_]; rfl) ?_
           refine p1 HT_.out 5 132 (bt 19 63) rfl rfl (by kernel_rfl) (fun _ _ _ h => h) (by rfl) (by intro w'; go_simp; with_reducible rfl) (by simp only [z_]; rfl) ?_
           refine p1 HT_.out 6 133 (bt 19 127) rfl rfl (by kernel_rfl) (fun _ _ _ h => h) (by rfl) (by intro w'; go_simp; with_reducible rfl) (by simp only [z_]; rfl) ?_
           refine one_ (i := 7) (N := some 134) (bt 19 255) rfl rfl (one_of HT_.out (by kernel_rfl)) (by decide) (fun K hK => ?_)
           refine goes_ Try.func56 (by kernel_rfl) rfl #[.slice Ao133 t211.length co133, .slice Ao134 x15_104.length co134] (by rfl) rfl rfl (by (try simp only [List.map_toArray, List.map_cons, List.map_nil]); first | done | rfl | (simp only [List.length_drop, List.length_take]; rfl)) ?_
           with_reducible refine (quorumref0_EqLocks.calls kj104 _ _ t211 _ _ x15_104 false _ ?side1 ?side2 ?side3 ?side4 A116.out).mono ?_
           (case side1 => repeat (first | exact (Kd.R_reads' HO_12.out).2.2 | (with_reducible refine Kd.C_alloc ?_ _) | (with_reducible refine Kd.C_drewN ?_ _) | (with_reducible refine Kd.C_drew ?_)))
           (case side2 => exact (Kd.R_reads' HO_12.out).2.1)
           (case side3 => repeat (first | exact (Kd.R_reads' HO_15.out).2.2 | (with_reducible refine Kd.C_alloc ?_ _) | (with_reducible refine Kd.C_drewN ?_ _) | (with_reducible refine Kd.C_drew ?_)))
           (case side4 => exact (Kd.R_reads' HO_15.out).2.1)
           rintro e w' ⟨rfl, ⟨nd, rfl⟩⟩
           refine ⟨_, rfl, ?_⟩
           refine hK.out _ _ trivial (fun hHeld => ?_)
           clear hK K
           refine norm_ (a' := ?_) ?_ ?_
           rotate_left
           ·show Act.put _ (some 134) _ = _
            simp only [z_]
            rfl
           refine p1 HT_.out 8 135 (bt 19 511) rfl rfl (by kernel_rfl) (fun _ _ _ h => h) (by rfl) (by intro w'; go_simp; with_reducible rfl) (by simp only [z_]; rfl) ?_
           refine p1 HT_.out 9 136 (bt 19 1023) rfl rfl (by kernel_rfl) (fun _ _ _ h => h) (by rfl) (by intro w'; go_simp; with_reducible rfl) (by simp only [z_]; rfl) ?_
           refine p1 HT_.out 10 137 (bt 19 2047) rfl rfl (by kernel_rfl) (fun _ _ _ h => h) (by rfl) (by intro w'; go_simp; with_reducible rfl) (by simp only [z_]; rfl) ?_
           refine pure_ (i := 11) (N := some 138) (v := undef) (bt 19 4095) rfl rfl (any_of HT_.out (by kernel_rfl)) (fun _ _ _ h => h) (Or.inr ⟨by rfl, rfl⟩) (by simp only [z_]; rfl) ?_
           refine pure_ (i := 12) (N := some 139) (v := undef) (bt 19 8191) rfl rfl (any_of HT_.out (by kernel_rfl)) (fun _ _ _ h => h) (Or.inr ⟨by rfl, rfl⟩) (by simp only [z_]; rfl) ?_
           refine pure_ (i := 13) (N := some 140) (v := undef) (bt 19 16383) rfl rfl (any_of HT_.out (by kernel_rfl)) (fun _ _ _ h => h) (Or.inr ⟨by rfl, rfl⟩) (by simp only [z_]; rfl) ?_
           refine pure_ (i := 14) (N := some 141) (v := undef) (bt 19 32767) rfl rfl (any_of HT_.out (by kernel_rfl)) (fun _ _ _ h => h) (Or.inr ⟨by rfl, rfl⟩) (by simp only [z_]; rfl) ?_
           refine pure_ (i := 15) (N := some 142) (v := undef) (bt 19 65535) rfl rfl (any_of HT_.out (by kernel_rfl)) (fun _ _ _ h => h) (Or.inr ⟨by rfl, rfl⟩) (by simp only [z_]; rfl) ?_
           refine pure_ (i := 16) (N := some 143) (v := undef) (bt 19 131071) rfl rfl (any_of HT_.out (by kernel_rfl)) (fun _ _ _ h => h) (Or.inr ⟨by rfl, rfl⟩) (by simp only [z_]; rfl) ?_
           refine pure_ (i := 17) (N := some 144) (v := undef) (bt 19 262143) rfl rfl (any_of HT_.out (by kernel_rfl)) (fun _ _ _ h => h) (Or.inr ⟨by rfl, rfl⟩) (by simp only [z_]; rfl) ?_
           refine p1 HT_.out 18 145 (bt 19 524287) rfl rfl (by kernel_rfl) (fun _ _ _ h => h) (by rfl) (by intro w'; go_simp; with_reducible rfl) (by simp only [z_]; rfl) ?_
           refine done_ (done_of HT_.out (by kernel_rfl)) ?_
           try go_wp2
           go_ret
           exact ⟨by first | rfl | (simp [errW_none, errW_some] <;> rfl) | (simp [*, errW_none, errW_some] <;> rfl), by repeat (first | (with_reducible first | exact HB.out | apply bL_ | apply pN_ | apply b1_ | refine bs_ ?_ GE179.out | refine bs_ ?_ GE195.out | refine bs_ ?_ GE209.out) | exact HB.out)⟩
          subst c117
          have H1 : (if 0 ≤ ah then (if ah < (ai.length : Int) then ((quorumref0_EqPend.f kj104 t203 t206 ((rd_T31 ai ah).f0) ((rd_T31 ai ah).f1)).bind fun t228 => (if t228 = true then ((quorumlaw0_Locks.f kj104 t211).bind fun t229 => (quorumlaw12_PlanLocks.l3 kj104 ai y190 ab ah (wrap64 (x10_6 + 1)) aa aj ao ((rd_T39 aa ab).f0) ((rd_T39 aa ab).f1) ((rd_T39 aa ab).f2) ((rd_T39 aa ab).f3) ((rd_T39 aa ab).f4.f0) ((rd_T39 aa ab).f4.f1) ((rd_T39 aa ab).f4.f2) ((rd_T39 aa ab).f5) ((rd_T39 aa ab).f6))) else (some false))) else (none)) else (none)) = some r := by rw [if_pos rfl] at H; exact H
          clear H
          have H := H1
          clear H1
          by_cases c118 : 0 ≤ ah
          rotate_left
          ·rw [if_neg c118] at H
           exact absurd H (by simp)
          rw [if_pos c118] at H
          have c118b0 : decide (0 ≤ ah) = true := decide_eq_true c118
          clear c118
          by_cases c119 : ah < (ai.length : Int)
          rotate_left
          ·rw [if_neg c119] at H
           exact absurd H (by simp)
          rw [if_pos c119] at H
          have c119b0 : decide (ah < (ai.length : Int)) = true := decide_eq_true c119
          clear c119
          replace H := Option.bind_eq_some_iff.mp H
          obtain ⟨t228, A1200, H⟩ := H
          replace H : (if t228 = true then ((quorumlaw0_Locks.f kj104 t211).bind fun t229 => (quorumlaw12_PlanLocks.l3 kj104 ai y190 ab ah (wrap64 (x10_6 + 1)) aa aj ao ((rd_T39 aa ab).f0) ((rd_T39 aa ab).f1) ((rd_T39 aa ab).f2) ((rd_T39 aa ab).f3) ((rd_T39 aa ab).f4.f0) ((rd_T39 aa ab).f4.f1) ((rd_T39 aa ab).f4.f2) ((rd_T39 aa ab).f5) ((rd_T39 aa ab).f6))) else (some false)) = some r := H
          have A120 := mk0 A1200
          clear A1200
          by_cases c121 : t228 = true
          rotate_left
          ·replace c121 := Bool.eq_false_iff.mpr c121
           subst c121
           have H1 : (some false) = some r := by rw [if_neg (show ¬ (false = true) by decide)] at H; exact H
           clear H
           have H := H1
           clear H1
           obtain rfl := Option.some.inj H
           try go_wp2
           have n0_ := mk0 (Kd.N_drew ak.out)
           have n1_ := mk0 (Rd_ ap.out)
           have n2_ := mk0 (Rd_ HO_12.out)
           have n3_ := mk0 (Rd_ HO_15.out)
           have n4_ := mk0 (Kd.V_drew ad.out)
           have n5_ := mk0 (Rd_ al.out)
           have n6_ := mk0 (Rd_ am.out)
           have n7_ := mk0 (bD_ ae.out)
           have n8_ := mk0 (bD_ ac.out)
           have n9_ := mk0 (bD_ an.out)
           have n10_ := mk0 (b1_ HB.out)
           clear ak
           clear ap
           clear HO_12
           clear HO_15
           clear ad
           clear al
           clear am
           clear ae
           clear ac
           clear an
           clear HB
           have ak := n0_
           have ap := n1_
           have HO_12 := n2_
           have HO_15 := n3_
           have ad := n4_
           have al := n5_
           have am := n6_
           have ae := n7_
           have ac := n8_
           have an := n9_
           have HB := n10_
           clear n0_ n1_ n2_ n3_ n4_ n5_ n6_ n7_ n8_ n9_ n10_
           have p227 : 0 ≤ (ah : Int) := of_decide_eq_true (by first | (with_reducible assumption) | assumption)
           have q227 : ah < (ai.length : Int) := of_decide_eq_true (by first | (with_reducible assumption) | assumption)
           obtain ⟨ad227, A227_0, c227_0, A227_1, c227_1, e227, hx227_0, hx227_1, hl227_0, hi227_0, hl227_1, hi227_1⟩ := at_T31 (Kd.N_reads' ak.out).2.2 ah p227 q227
           obtain rfl : ad202 = ad227 := (by injection e227)
           obtain ⟨ce227, hce227, hMe227, hcc227⟩ := Kd.N_get ak.out z31 ah p227 (by first | exact q227 | exact of_decide_eq_true (by first | (with_reducible assumption) | assumption) | (have e_ := (Kd.N_reads' ak.out).1; omega))
           obtain ⟨ua227_0, uc227_0, ua227_1, uc227_1, rfl, ul227_0, ge227_0, ul227_1, ge227_1⟩ := k31_openF hMe227
           have hv227_0 := hcc227 0 _ rfl
           rw [Nat.add_zero] at hv227_0
           replace hv227_0 := Option.some.inj (hv227_0.symm.trans hx227_0)
           injection hv227_0 with hva_ hvn_ hvc_
           rw [hva_] at ge227_0
           rw [hvc_] at ul227_0
           have HL227_0 := mk0 (show Kd.V k44 44 _ w.heap.size _ _ ((rd_T31 ai ah).f0) from Kd.V_mk ul227_0 ge227_0)
           clear hva_ hvn_ hvc_ ge227_0 ul227_0
           have hv227_1 := hcc227 1 _ rfl
           rw [add_field _ _ 1 (by omega)] at hv227_1
           replace hv227_1 := Option.some.inj (hv227_1.symm.trans hx227_1)
           injection hv227_1 with hva_ hvn_ hvc_
           rw [hva_] at ge227_1
           rw [hvc_] at ul227_1
           have HL227_1 := mk0 (show Kd.V (Kd.int .i64) 3 _ w.heap.size _ _ ((rd_T31 ai ah).f1) from Kd.V_mk ul227_1 ge227_1)
           clear hva_ hvn_ hvc_ ge227_1 ul227_1
           clear hcc227 hce227
           have HR227_0 := mk0 hi227_0
           have HC227_0 := mk0 hl227_0
           clear hi227_0 hl227_0
           have HR227_1 := mk0 hi227_1
           have HC227_1 := mk0 hl227_1
           clear hi227_1 hl227_1
           replace p227 := eq_true p227
           replace q227 := eq_true q227
           refine start_ (n := 19) (S := fun w' => w'.cell? ⟨gb209, 0, none⟩ = some (.slice Ao77 t203.length co77) ∧ w'.cell? ⟨gb209, 1, none⟩ = some (.slice Ao81 t206.length co81) ∧ w'.cell? (ad202.add ((ah).toNat * 2)) = some (.slice A227_0 ((rd_T31 ai ah).f0).length c227_0) ∧ w'.cell? ⟨(ad202.add ((ah).toNat * 2)).block, (ad202.add ((ah).toNat * 2)).off + 1, none⟩ = some (.slice A227_1 ((rd_T31 ai ah).f1).length c227_1)) (ds := []) (bt 19 0) (by kernel_rfl) rfl rfl ⟨(blk_cell an.out 0).trans rfl, (blk_cell an.out 1).trans rfl, hx227_0, hx227_1⟩ (fun hHeld => ?_); refine with_tabW quorumlaw12_PlanLocks.tab29 quorumlaw12_PlanLocks.bits29 (fun HT_ HW_ => ?_)
           generalize wc.drew = w128 at ak ap HO_12 HO_15 ad al am ae ac an HB HL227_0 HL227_1 HR227_0 HR227_1 hx227_0 hx227_1 hHeld ⊢
           refine p1 HT_.out 0 127 (bt 19 1) rfl rfl (by kernel_rfl) (fun _ _ _ h => h) (by rfl) (by intro w'; go_simp; with_reducible rfl) (by simp only [z_]; rfl) ?_
           refine p1 HT_.out 2 129 (bt 19 5) rfl rfl (by kernel_rfl) (fun _ _ _ h => h) (by rfl) (by intro w'; go_simp; with_reducible rfl) (by simp only [z_]; rfl) ?_
           refine one_ (i := 1) (N := some 128) (bt 19 7) rfl rfl (one_of HT_.out (by kernel_rfl)) (by decide) (fun K hK => ?_)
           refine goes_ Try.func18 (by kernel_rfl) rfl #[.int .i64 t214] (by rfl) rfl rfl (by (try simp only [List.map_toArray, List.map_cons, List.map_nil]); first | done | rfl | (simp only [List.length_drop, List.length_take]; rfl)) ?_
           with_reducible refine (quorumlaw12_num.calls t214 t225 _ A114.out).mono ?_
           rintro e w' ⟨rfl, ⟨nd, rfl⟩⟩
           refine ⟨_, rfl, ?_⟩
           obtain ⟨Ao129, co129, eo129⟩ := Kd.R_slice HO_12.out
           (first | subst eo129 | (injection eo129 with f1_ f2_ f3_; have f4_ := f1_.symm; have f5_ := f3_.symm; clear f1_ f2_ f3_; subst f4_; subst f5_))
           obtain ⟨Ao130, co130, eo130⟩ := Kd.R_slice HO_15.out
           (first | subst eo130 | (injection eo130 with f1_ f2_ f3_; have f4_ := f1_.symm; have f5_ := f3_.symm; clear f1_ f2_ f3_; subst f4_; subst f5_))
           refine hK.out _ _ ⟨(blk_cell an.out 0).trans rfl, (blk_cell an.out 1).trans rfl, hHeld.2.2.1, hHeld.2.2.2⟩ (fun hHeld => ?_)
           clear hK K
           refine norm_ (a' := ?_) ?_ ?_
           rotate_left
           ·show Act.put _ (some 128) _ = _
            simp only [z_]
            rfl
           refine p1 HT_.out 3 130 (bt 19 15) rfl rfl (by kernel_rfl) (fun _ _ _ h => h) (by rfl) (by intro w'; go_simp; with_reducible rfl) (by simp only [z_]; rfl) ?_
           refine p1 HT_.out 4 131 (bt 19 31) rfl rfl (by kernel_rfl) (fun _ _ _ h => h) (by rfl) (by intro w'; go_simp; with_reducible rfl) (by simp only [z_]; rfl) ?_
           refine p1 HT_.out 5 132 (bt 19 63) rfl rfl (by kernel_rfl) (fun _ _ _ h => h) (by rfl) (by intro w'; go_simp; with_reducible rfl) (by simp only [z_]; rfl) ?_
           refine p1 HT_.out 6 133 (bt 19 127) rfl rfl (by kernel_rfl) (fun _ _ _ h => h) (by rfl) (by intro w'; go_simp; with_reducible rfl) (by simp only [z_]; rfl) ?_
           refine one_ (i := 7) (N := some 134) (bt 19 255) rfl rfl (one_of HT_.out (by kernel_rfl)) (by decide) (fun K hK => ?_)
           refine goes_ Try.func56 (by kernel_rfl) rfl #[.slice Ao129 t211.length co129, .slice Ao130 x15_104.length co130] (by rfl) rfl rfl (by (try simp only [List.map_toArray, List.map_cons, List.map_nil]); first | done | rfl | (simp only [List.length_drop, List.length_take]; rfl)) ?_
           with_reducible refine (quorumref0_EqLocks.calls kj104 _ _ t211 _ _ x15_104 true _ ?side1 ?side2 ?side3 ?side4 A116.out).mono ?_
           (case side1 => repeat (first | exact (Kd.R_reads' HO_12.out).2.2 | (with_reducible refine Kd.C_alloc ?_ _) | (with_reducible refine Kd.C_drewN ?_ _) | (with_reducible refine Kd.C_drew ?_)))
           (case side2 => exact (Kd.R_reads' HO_12.out).2.1)
           (case side3 => repeat (first | exact (Kd.R_reads' HO_15.out).2.2 | (with_reducible refine Kd.C_alloc ?_ _) | (with_reducible refine Kd.C_drewN ?_ _) | (with_reducible refine Kd.C_drew ?_)))
           (case side4 => exact (Kd.R_reads' HO_15.out).2.1)
           rintro e w' ⟨rfl, ⟨nd, rfl⟩⟩
           refine ⟨_, rfl, ?_⟩
           refine hK.out _ _ ⟨(blk_cell an.out 0).trans rfl, (blk_cell an.out 1).trans rfl, hHeld.2.2.1, hHeld.2.2.2⟩ (fun hHeld => ?_)
           clear hK K
           refine norm_ (a' := ?_) ?_ ?_
           rotate_left
           ·show Act.put _ (some 134) _ = _
            simp only [z_]
            rfl
           refine p1 HT_.out 8 135 (bt 19 511) rfl rfl (by kernel_rfl) (fun _ _ _ h => h) (by rfl) (by intro w'; go_simp; with_reducible rfl) (by simp only [z_]; rfl) ?_
           refine p1 HT_.out 9 136 (bt 19 1023) rfl rfl (by kernel_rfl) (fun _ _ _ h => h) (by rfl) (by intro w'; go_simp; with_reducible rfl) (by simp only [z_]; rfl) ?_
           refine p1 HT_.out 10 137 (bt 19 2047) rfl rfl (by kernel_rfl) (fun _ _ _ h => h) (by rfl) (by intro w'; go_simp; with_reducible rfl) (by simp only [z_]; rfl) ?_
           refine p1 HT_.out 12 139 (bt 19 6143) rfl rfl (by kernel_rfl) (fun _ _ _ h => h) (by rfl) (by intro w'; go_simp; with_reducible rfl) (by simp only [z_]; rfl) ?_
           refine p1 HT_.out 13 140 (bt 19 14335) rfl rfl (by kernel_rfl) (fun _ _ _ h => h) (by rfl) (by intro w'; go_simp; with_reducible rfl) (by simp only [z_]; rfl) ?_
           refine p1 HT_.out 14 141 (bt 19 30719) rfl rfl (by kernel_rfl) (fun _ _ _ h => h) (by rfl) (by intro w'; go_simp; with_reducible rfl) (by simp only [z_]; rfl) ?_
           refine t1 HT_.out HW_.out 11 138 (bt 19 32767) rfl rfl (by kernel_rfl) (fun _ _ _ h => h) (by rfl) (by rintro w' ⟨s0, s1, s2, s3⟩; go_simp; with_reducible rfl) hHeld (by simp only [z_]; rfl) ?_
           refine t1 HT_.out HW_.out 15 142 (bt 19 65535) rfl rfl (by kernel_rfl) (fun _ _ _ h => h) (by rfl) (by rintro w' ⟨s0, s1, s2, s3⟩; go_simp; with_reducible rfl) hHeld (by simp only [z_]; rfl) ?_
           refine one_ (i := 16) (N := some 143) (bt 19 131071) rfl rfl (one_of HT_.out (by kernel_rfl)) (by decide) (fun K hK => ?_)
           refine goes_ Try.func57 (by kernel_rfl) rfl #[.agg #[.slice Ao77 t203.length co77, .slice Ao81 t206.length co81], .agg #[.slice A227_0 ((rd_T31 ai ah).f0).length c227_0, .slice A227_1 ((rd_T31 ai ah).f1).length c227_1]] (by rfl) rfl rfl (by (try simp only [List.map_toArray, List.map_cons, List.map_nil]); first | done | rfl | (simp only [List.length_drop, List.length_take]; rfl)) ?_
           with_reducible refine (quorumref0_EqPend.calls kj104 _ _ t203 _ _ t206 _ _ ((rd_T31 ai ah).f0) _ _ ((rd_T31 ai ah).f1) false _ ?side1 ?side2 ?side3 ?side4 ?side5 ?side6 ?side7 ?side8 A120.out).mono ?_
           (case side1 => repeat (first | exact (Kd.R_reads' al.out).2.2 | (with_reducible refine Kd.C_alloc ?_ _) | (with_reducible refine Kd.C_drewN ?_ _) | (with_reducible refine Kd.C_drew ?_)))
           (case side2 => exact (Kd.R_reads' al.out).2.1)
           (case side3 => repeat (first | exact (Kd.R_reads' am.out).2.2 | (with_reducible refine Kd.C_alloc ?_ _) | (with_reducible refine Kd.C_drewN ?_ _) | (with_reducible refine Kd.C_drew ?_)))
           (case side4 => exact (Kd.R_reads' am.out).2.1)
           (case side5 => repeat (first | exact (by repeat (first | (with_reducible exact HR227_0.out) | (with_reducible refine Kd.C_alloc ?_ _) | (with_reducible refine Kd.C_drewN ?_ _) | (with_reducible refine Kd.C_drew ?_) | exact HR227_0.out)) | (with_reducible refine Kd.C_alloc ?_ _) | (with_reducible refine Kd.C_drewN ?_ _) | (with_reducible refine Kd.C_drew ?_)))
           (case side6 => exact HC227_0.out)
           (case side7 => repeat (first | exact (by repeat (first | (with_reducible exact HR227_1.out) | (with_reducible refine Kd.C_alloc ?_ _) | (with_reducible refine Kd.C_drewN ?_ _) | (with_reducible refine Kd.C_drew ?_) | exact HR227_1.out)) | (with_reducible refine Kd.C_alloc ?_ _) | (with_reducible refine Kd.C_drewN ?_ _) | (with_reducible refine Kd.C_drew ?_)))
           (case side8 => exact HC227_1.out)
           rintro e w131 ⟨rfl, hb⟩
           have HS2_ := (hb.cell (World.block_lt_of_cell? _ _ (hHeld.2.2.1))).trans (hHeld.2.2.1)
           have HS3_ := (hb.cell (World.block_lt_of_cell? _ _ (hHeld.2.2.2))).trans (hHeld.2.2.2)
           refine ⟨_, rfl, ?_⟩
           have n0_ := mk0 (Kd.N_below (by (with_reducible repeat (first | apply Kd.N_alloc | apply Kd.N_drewN | apply Kd.N_drew)); exact ak.out) hb)
           have n1_ := mk0 (Kd.R_below (by (with_reducible repeat (first | apply Ra_ | apply Rn_ | apply Rd_)); exact ap.out) hb)
           have n2_ := mk0 (Kd.R_below (by (with_reducible repeat (first | apply Ra_ | apply Rn_ | apply Rd_)); exact HO_12.out) hb)
           have n3_ := mk0 (Kd.R_below (by (with_reducible repeat (first | apply Ra_ | apply Rn_ | apply Rd_)); exact HO_15.out) hb)
           have n4_ := mk0 (Kd.V_below (by (with_reducible repeat (first | apply Kd.V_alloc | apply Kd.V_drewN | apply Kd.V_drew)); exact ad.out) hb)
           have n5_ := mk0 (Kd.R_below (by (with_reducible repeat (first | apply Ra_ | apply Rn_ | apply Rd_)); exact al.out) hb)
           have n6_ := mk0 (Kd.R_below (by (with_reducible repeat (first | apply Ra_ | apply Rn_ | apply Rd_)); exact am.out) hb)
           have n7_ := mk0 (Kd.V_below (by (with_reducible repeat (first | apply Kd.V_alloc | apply Kd.V_drewN | apply Kd.V_drew)); exact HL227_0.out) hb)
           have n8_ := mk0 (Kd.V_below (by (with_reducible repeat (first | apply Kd.V_alloc | apply Kd.V_drewN | apply Kd.V_drew)); exact HL227_1.out) hb)
           have n9_ := mk0 (blk_below (g := ag) (o := .cells #[.slice (some ad194) aa.length c0_0, .slice A0_1 aj.length c0_1, .slice A0_2 ao.length c0_2] 26 (0, 0)) (by (with_reducible repeat (first | refine bN_ ?_ _ | refine bD_ ?_ | refine bA_ ?_ _)); exact ae.out) hb)
           have n10_ := mk0 (blk_below (g := af) (o := .cells #[.int .i64 ((rd_T39 aa ab).f0), .int .i64 ((rd_T39 aa ab).f1), .string ((rd_T39 aa ab).f2), .string ((rd_T39 aa ab).f3), .string ((rd_T39 aa ab).f4.f0), .string ((rd_T39 aa ab).f4.f1), .bool ((rd_T39 aa ab).f4.f2), .int .i64 ((rd_T39 aa ab).f5), .bool ((rd_T39 aa ab).f6)] 39 (0, 0)) (by (with_reducible repeat (first | refine bN_ ?_ _ | refine bD_ ?_ | refine bA_ ?_ _)); exact ac.out) hb)
           have n11_ := mk0 (blk_below (g := gb209) (o := .cells #[.slice Ao77 t203.length co77, .slice Ao81 t206.length co81] 31 (0, 0)) (by (with_reducible repeat (first | refine bN_ ?_ _ | refine bD_ ?_ | refine bA_ ?_ _)); exact an.out) hb)
           have n12_ := mk0 True.intro
           have n13_ := mk0 True.intro
           have n14_ := mk0 (bt_ (by repeat (first | (with_reducible first | exact HB.out | apply bL_ | apply pN_ | apply b1_ | refine bs_ ?_ GE179.out | refine bs_ ?_ GE195.out | refine bs_ ?_ GE209.out) | exact HB.out)) hb)
           clear ak
           clear ap
           clear HO_12
           clear HO_15
           clear ad
           clear al
           clear am
           clear HL227_0
           clear HL227_1
           clear ae
           clear ac
           clear an
           clear HR227_0
           clear HR227_1
           clear HB
           have ak := n0_
           have ap := n1_
           have HO_12 := n2_
           have HO_15 := n3_
           have ad := n4_
           have al := n5_
           have am := n6_
           have HL227_0 := n7_
           have HL227_1 := n8_
           have ae := n9_
           have ac := n10_
           have an := n11_
           have HR227_0 := n12_
           have HR227_1 := n13_
           have HB := n14_
           clear n0_ n1_ n2_ n3_ n4_ n5_ n6_ n7_ n8_ n9_ n10_ n11_ n12_ n13_ n14_
           (try clear hb)
           (try clear hb2)
           (try clear hk)
           (try clear hi)
           refine hK.out _ _ ⟨(blk_cell an.out 0).trans rfl, (blk_cell an.out 1).trans rfl, HS2_, HS3_⟩ (fun hHeld => ?_)
           clear hK K
           refine norm_ (a' := ?_) ?_ ?_
           rotate_left
           ·show Act.put _ (some 143) _ = _
            simp only [z_]
            rfl
           refine p1 HT_.out 17 144 (bt 19 262143) rfl rfl (by kernel_rfl) (fun _ _ _ h => h) (by rfl) (by intro w'; go_simp; with_reducible rfl) (by simp only [z_]; rfl) ?_
           refine p1 HT_.out 18 145 (bt 19 524287) rfl rfl (by kernel_rfl) (fun _ _ _ h => h) (by rfl) (by intro w'; go_simp; with_reducible rfl) (by simp only [z_]; rfl) ?_
           refine done_ (done_of HT_.out (by kernel_rfl)) ?_
           try go_wp2
           go_ret
           exact ⟨by first | rfl | (simp [errW_none, errW_some] <;> rfl) | (simp [*, errW_none, errW_some] <;> rfl), by repeat (first | (with_reducible first | exact HB.out | apply bL_ | apply pN_ | apply b1_ | refine bs_ ?_ GE179.out | refine bs_ ?_ GE195.out | refine bs_ ?_ GE209.out) | exact HB.out)⟩
          subst c121
          have H1 : ((quorumlaw0_Locks.f kj104 t211).bind fun t229 => (quorumlaw12_PlanLocks.l3 kj104 ai y190 ab ah (wrap64 (x10_6 + 1)) aa aj ao ((rd_T39 aa ab).f0) ((rd_T39 aa ab).f1) ((rd_T39 aa ab).f2) ((rd_T39 aa ab).f3) ((rd_T39 aa ab).f4.f0) ((rd_T39 aa ab).f4.f1) ((rd_T39 aa ab).f4.f2) ((rd_T39 aa ab).f5) ((rd_T39 aa ab).f6))) = some r := by rw [if_pos rfl] at H; exact H
          clear H
          have H := H1
          clear H1
          replace H := Option.bind_eq_some_iff.mp H
          obtain ⟨t229, A1220, H⟩ := H
          replace H : (quorumlaw12_PlanLocks.l3 kj104 ai y190 ab ah (wrap64 (x10_6 + 1)) aa aj ao ((rd_T39 aa ab).f0) ((rd_T39 aa ab).f1) ((rd_T39 aa ab).f2) ((rd_T39 aa ab).f3) ((rd_T39 aa ab).f4.f0) ((rd_T39 aa ab).f4.f1) ((rd_T39 aa ab).f4.f2) ((rd_T39 aa ab).f5) ((rd_T39 aa ab).f6)) = some r := H
          have A122 := mk0 A1220
          clear A1220
          have H' := mk0 H
          clear H
          try go_wp2
          have n0_ := mk0 (Kd.N_drew ak.out)
          have n1_ := mk0 (Rd_ ap.out)
          have n2_ := mk0 (Rd_ HO_12.out)
          have n3_ := mk0 (Rd_ HO_15.out)
          have n4_ := mk0 (Kd.V_drew ad.out)
          have n5_ := mk0 (Rd_ al.out)
          have n6_ := mk0 (Rd_ am.out)
          have n7_ := mk0 (bD_ ae.out)
          have n8_ := mk0 (bD_ ac.out)
          have n9_ := mk0 (bD_ an.out)
          have n10_ := mk0 (b1_ HB.out)
          clear ak
          clear ap
          clear HO_12
          clear HO_15
          clear ad
          clear al
          clear am
          clear ae
          clear ac
          clear an
          clear HB
          have ak := n0_
          have ap := n1_
          have HO_12 := n2_
          have HO_15 := n3_
          have ad := n4_
          have al := n5_
          have am := n6_
          have ae := n7_
          have ac := n8_
          have an := n9_
          have HB := n10_
          clear n0_ n1_ n2_ n3_ n4_ n5_ n6_ n7_ n8_ n9_ n10_
          have p227 : 0 ≤ (ah : Int) := of_decide_eq_true (by first | (with_reducible assumption) | assumption)
          have q227 : ah < (ai.length : Int) := of_decide_eq_true (by first | (with_reducible assumption) | assumption)
          obtain ⟨ad227, A227_0, c227_0, A227_1, c227_1, e227, hx227_0, hx227_1, hl227_0, hi227_0, hl227_1, hi227_1⟩ := at_T31 (Kd.N_reads' ak.out).2.2 ah p227 q227
          obtain rfl : ad202 = ad227 := (by injection e227)
          obtain ⟨ce227, hce227, hMe227, hcc227⟩ := Kd.N_get ak.out z31 ah p227 (by first | exact q227 | exact of_decide_eq_true (by first | (with_reducible assumption) | assumption) | (have e_ := (Kd.N_reads' ak.out).1; omega))
          obtain ⟨ua227_0, uc227_0, ua227_1, uc227_1, rfl, ul227_0, ge227_0, ul227_1, ge227_1⟩ := k31_openF hMe227
          have hv227_0 := hcc227 0 _ rfl
          rw [Nat.add_zero] at hv227_0
          replace hv227_0 := Option.some.inj (hv227_0.symm.trans hx227_0)
          injection hv227_0 with hva_ hvn_ hvc_
          rw [hva_] at ge227_0
          rw [hvc_] at ul227_0
          have HL227_0 := mk0 (show Kd.V k44 44 _ w.heap.size _ _ ((rd_T31 ai ah).f0) from Kd.V_mk ul227_0 ge227_0)
          clear hva_ hvn_ hvc_ ge227_0 ul227_0
          have hv227_1 := hcc227 1 _ rfl
          rw [add_field _ _ 1 (by omega)] at hv227_1
          replace hv227_1 := Option.some.inj (hv227_1.symm.trans hx227_1)
          injection hv227_1 with hva_ hvn_ hvc_
          rw [hva_] at ge227_1
          rw [hvc_] at ul227_1
          have HL227_1 := mk0 (show Kd.V (Kd.int .i64) 3 _ w.heap.size _ _ ((rd_T31 ai ah).f1) from Kd.V_mk ul227_1 ge227_1)
          clear hva_ hvn_ hvc_ ge227_1 ul227_1
          clear hcc227 hce227
          have HR227_0 := mk0 hi227_0
          have HC227_0 := mk0 hl227_0
          clear hi227_0 hl227_0
          have HR227_1 := mk0 hi227_1
          have HC227_1 := mk0 hl227_1
          clear hi227_1 hl227_1
          replace p227 := eq_true p227
          replace q227 := eq_true q227
          refine start_ (n := 19) (S := fun w' => w'.cell? ⟨gb209, 0, none⟩ = some (.slice Ao77 t203.length co77) ∧ w'.cell? ⟨gb209, 1, none⟩ = some (.slice Ao81 t206.length co81) ∧ w'.cell? (ad202.add ((ah).toNat * 2)) = some (.slice A227_0 ((rd_T31 ai ah).f0).length c227_0) ∧ w'.cell? ⟨(ad202.add ((ah).toNat * 2)).block, (ad202.add ((ah).toNat * 2)).off + 1, none⟩ = some (.slice A227_1 ((rd_T31 ai ah).f1).length c227_1)) (ds := []) (bt 19 0) (by kernel_rfl) rfl rfl ⟨(blk_cell an.out 0).trans rfl, (blk_cell an.out 1).trans rfl, hx227_0, hx227_1⟩ (fun hHeld => ?_); refine with_tabW quorumlaw12_PlanLocks.tab29 quorumlaw12_PlanLocks.bits29 (fun HT_ HW_ => ?_)
          generalize wc.drew = w123 at ak ap HO_12 HO_15 ad al am ae ac an HB HL227_0 HL227_1 HR227_0 HR227_1 hx227_0 hx227_1 hHeld ⊢
          refine p1 HT_.out 0 127 (bt 19 1) rfl rfl (by kernel_rfl) (fun _ _ _ h => h) (by rfl) (by intro w'; go_simp; with_reducible rfl) (by simp only [z_]; rfl) ?_
          refine p1 HT_.out 2 129 (bt 19 5) rfl rfl (by kernel_rfl) (fun _ _ _ h => h) (by rfl) (by intro w'; go_simp; with_reducible rfl) (by simp only [z_]; rfl) ?_
          refine one_ (i := 1) (N := some 128) (bt 19 7) rfl rfl (one_of HT_.out (by kernel_rfl)) (by decide) (fun K hK => ?_)
          refine goes_ Try.func18 (by kernel_rfl) rfl #[.int .i64 t214] (by rfl) rfl rfl (by (try simp only [List.map_toArray, List.map_cons, List.map_nil]); first | done | rfl | (simp only [List.length_drop, List.length_take]; rfl)) ?_
          with_reducible refine (quorumlaw12_num.calls t214 t225 _ A114.out).mono ?_
          rintro e w' ⟨rfl, ⟨nd, rfl⟩⟩
          refine ⟨_, rfl, ?_⟩
          obtain ⟨Ao124, co124, eo124⟩ := Kd.R_slice HO_12.out
          (first | subst eo124 | (injection eo124 with f1_ f2_ f3_; have f4_ := f1_.symm; have f5_ := f3_.symm; clear f1_ f2_ f3_; subst f4_; subst f5_))
          obtain ⟨Ao125, co125, eo125⟩ := Kd.R_slice HO_15.out
          (first | subst eo125 | (injection eo125 with f1_ f2_ f3_; have f4_ := f1_.symm; have f5_ := f3_.symm; clear f1_ f2_ f3_; subst f4_; subst f5_))
          refine hK.out _ _ ⟨(blk_cell an.out 0).trans rfl, (blk_cell an.out 1).trans rfl, hHeld.2.2.1, hHeld.2.2.2⟩ (fun hHeld => ?_)
          clear hK K
          refine norm_ (a' := ?_) ?_ ?_
          rotate_left
          ·show Act.put _ (some 128) _ = _
           simp only [z_]
           rfl
          refine p1 HT_.out 3 130 (bt 19 15) rfl rfl (by kernel_rfl) (fun _ _ _ h => h) (by rfl) (by intro w'; go_simp; with_reducible rfl) (by simp only [z_]; rfl) ?_
          refine p1 HT_.out 4 131 (bt 19 31) rfl rfl (by kernel_rfl) (fun _ _ _ h => h) (by rfl) (by intro w'; go_simp; with_reducible rfl) (by simp only [z_]; rfl) ?_
          refine p1 HT_.out 5 132 (bt 19 63) rfl rfl (by kernel_rfl) (fun _ _ _ h => h) (by rfl) (by intro w'; go_simp; with_reducible rfl) (by simp only [z_]; rfl) ?_
          refine p1 HT_.out 6 133 (bt 19 127) rfl rfl (by kernel_rfl) (fun _ _ _ h => h) (by rfl) (by intro w'; go_simp; with_reducible rfl) (by simp only [z_]; rfl) ?_
          refine one_ (i := 7) (N := some 134) (bt 19 255) rfl rfl (one_of HT_.out (by kernel_rfl)) (by decide) (fun K hK => ?_)
          refine goes_ Try.func56 (by kernel_rfl) rfl #[.slice Ao124 t211.length co124, .slice Ao125 x15_104.length co125] (by rfl) rfl rfl (by (try simp only [List.map_toArray, List.map_cons, List.map_nil]); first | done | rfl | (simp only [List.length_drop, List.length_take]; rfl)) ?_
          with_reducible refine (quorumref0_EqLocks.calls kj104 _ _ t211 _ _ x15_104 true _ ?side1 ?side2 ?side3 ?side4 A116.out).mono ?_
          (case side1 => repeat (first | exact (Kd.R_reads' HO_12.out).2.2 | (with_reducible refine Kd.C_alloc ?_ _) | (with_reducible refine Kd.C_drewN ?_ _) | (with_reducible refine Kd.C_drew ?_)))
          (case side2 => exact (Kd.R_reads' HO_12.out).2.1)
          (case side3 => repeat (first | exact (Kd.R_reads' HO_15.out).2.2 | (with_reducible refine Kd.C_alloc ?_ _) | (with_reducible refine Kd.C_drewN ?_ _) | (with_reducible refine Kd.C_drew ?_)))
          (case side4 => exact (Kd.R_reads' HO_15.out).2.1)
          rintro e w' ⟨rfl, ⟨nd, rfl⟩⟩
          refine ⟨_, rfl, ?_⟩
          refine hK.out _ _ ⟨(blk_cell an.out 0).trans rfl, (blk_cell an.out 1).trans rfl, hHeld.2.2.1, hHeld.2.2.2⟩ (fun hHeld => ?_)
          clear hK K
          refine norm_ (a' := ?_) ?_ ?_
          rotate_left
          ·show Act.put _ (some 134) _ = _
           simp only [z_]
           rfl
          refine p1 HT_.out 8 135 (bt 19 511) rfl rfl (by kernel_rfl) (fun _ _ _ h => h) (by rfl) (by intro w'; go_simp; with_reducible rfl) (by simp only [z_]; rfl) ?_
          refine p1 HT_.out 9 136 (bt 19 1023) rfl rfl (by kernel_rfl) (fun _ _ _ h => h) (by rfl) (by intro w'; go_simp; with_reducible rfl) (by simp only [z_]; rfl) ?_
          refine p1 HT_.out 10 137 (bt 19 2047) rfl rfl (by kernel_rfl) (fun _ _ _ h => h) (by rfl) (by intro w'; go_simp; with_reducible rfl) (by simp only [z_]; rfl) ?_
          refine p1 HT_.out 12 139 (bt 19 6143) rfl rfl (by kernel_rfl) (fun _ _ _ h => h) (by rfl) (by intro w'; go_simp; with_reducible rfl) (by simp only [z_]; rfl) ?_
          refine p1 HT_.out 13 140 (bt 19 14335) rfl rfl (by kernel_rfl) (fun _ _ _ h => h) (by rfl) (by intro w'; go_simp; with_reducible rfl) (by simp only [z_]; rfl) ?_
          refine p1 HT_.out 14 141 (bt 19 30719) rfl rfl (by kernel_rfl) (fun _ _ _ h => h) (by rfl) (by intro w'; go_simp; with_reducible rfl) (by simp only [z_]; rfl) ?_
          refine t1 HT_.out HW_.out 11 138 (bt 19 32767) rfl rfl (by kernel_rfl) (fun _ _ _ h => h) (by rfl) (by rintro w' ⟨s0, s1, s2, s3⟩; go_simp; with_reducible rfl) hHeld (by simp only [z_]; rfl) ?_
          refine t1 HT_.out HW_.out 15 142 (bt 19 65535) rfl rfl (by kernel_rfl) (fun _ _ _ h => h) (by rfl) (by rintro w' ⟨s0, s1, s2, s3⟩; go_simp; with_reducible rfl) hHeld (by simp only [z_]; rfl) ?_
          refine one_ (i := 16) (N := some 143) (bt 19 131071) rfl rfl (one_of HT_.out (by kernel_rfl)) (by decide) (fun K hK => ?_)
          refine goes_ Try.func57 (by kernel_rfl) rfl #[.agg #[.slice Ao77 t203.length co77, .slice Ao81 t206.length co81], .agg #[.slice A227_0 ((rd_T31 ai ah).f0).length c227_0, .slice A227_1 ((rd_T31 ai ah).f1).length c227_1]] (by rfl) rfl rfl (by (try simp only [List.map_toArray, List.map_cons, List.map_nil]); first | done | rfl | (simp only [List.length_drop, List.length_take]; rfl)) ?_
          with_reducible refine (quorumref0_EqPend.calls kj104 _ _ t203 _ _ t206 _ _ ((rd_T31 ai ah).f0) _ _ ((rd_T31 ai ah).f1) true _ ?side1 ?side2 ?side3 ?side4 ?side5 ?side6 ?side7 ?side8 A120.out).mono ?_
          (case side1 => repeat (first | exact (Kd.R_reads' al.out).2.2 | (with_reducible refine Kd.C_alloc ?_ _) | (with_reducible refine Kd.C_drewN ?_ _) | (with_reducible refine Kd.C_drew ?_)))
          (case side2 => exact (Kd.R_reads' al.out).2.1)
          (case side3 => repeat (first | exact (Kd.R_reads' am.out).2.2 | (with_reducible refine Kd.C_alloc ?_ _) | (with_reducible refine Kd.C_drewN ?_ _) | (with_reducible refine Kd.C_drew ?_)))
          (case side4 => exact (Kd.R_reads' am.out).2.1)
          (case side5 => repeat (first | exact (by repeat (first | (with_reducible exact HR227_0.out) | (with_reducible refine Kd.C_alloc ?_ _) | (with_reducible refine Kd.C_drewN ?_ _) | (with_reducible refine Kd.C_drew ?_) | exact HR227_0.out)) | (with_reducible refine Kd.C_alloc ?_ _) | (with_reducible refine Kd.C_drewN ?_ _) | (with_reducible refine Kd.C_drew ?_)))
          (case side6 => exact HC227_0.out)
          (case side7 => repeat (first | exact (by repeat (first | (with_reducible exact HR227_1.out) | (with_reducible refine Kd.C_alloc ?_ _) | (with_reducible refine Kd.C_drewN ?_ _) | (with_reducible refine Kd.C_drew ?_) | exact HR227_1.out)) | (with_reducible refine Kd.C_alloc ?_ _) | (with_reducible refine Kd.C_drewN ?_ _) | (with_reducible refine Kd.C_drew ?_)))
          (case side8 => exact HC227_1.out)
          rintro e w126 ⟨rfl, hb⟩
          have HS2_ := (hb.cell (World.block_lt_of_cell? _ _ (hHeld.2.2.1))).trans (hHeld.2.2.1)
          have HS3_ := (hb.cell (World.block_lt_of_cell? _ _ (hHeld.2.2.2))).trans (hHeld.2.2.2)
          refine ⟨_, rfl, ?_⟩
          have n0_ := mk0 (Kd.N_below (by (with_reducible repeat (first | apply Kd.N_alloc | apply Kd.N_drewN | apply Kd.N_drew)); exact ak.out) hb)
          have n1_ := mk0 (Kd.R_below (by (with_reducible repeat (first | apply Ra_ | apply Rn_ | apply Rd_)); exact ap.out) hb)
          have n2_ := mk0 (Kd.R_below (by (with_reducible repeat (first | apply Ra_ | apply Rn_ | apply Rd_)); exact HO_12.out) hb)
          have n3_ := mk0 (Kd.R_below (by (with_reducible repeat (first | apply Ra_ | apply Rn_ | apply Rd_)); exact HO_15.out) hb)
          have n4_ := mk0 (Kd.V_below (by (with_reducible repeat (first | apply Kd.V_alloc | apply Kd.V_drewN | apply Kd.V_drew)); exact ad.out) hb)
          have n5_ := mk0 (Kd.R_below (by (with_reducible repeat (first | apply Ra_ | apply Rn_ | apply Rd_)); exact al.out) hb)
          have n6_ := mk0 (Kd.R_below (by (with_reducible repeat (first | apply Ra_ | apply Rn_ | apply Rd_)); exact am.out) hb)
          have n7_ := mk0 (Kd.V_below (by (with_reducible repeat (first | apply Kd.V_alloc | apply Kd.V_drewN | apply Kd.V_drew)); exact HL227_0.out) hb)
          have n8_ := mk0 (Kd.V_below (by (with_reducible repeat (first | apply Kd.V_alloc | apply Kd.V_drewN | apply Kd.V_drew)); exact HL227_1.out) hb)
          have n9_ := mk0 (blk_below (g := ag) (o := .cells #[.slice (some ad194) aa.length c0_0, .slice A0_1 aj.length c0_1, .slice A0_2 ao.length c0_2] 26 (0, 0)) (by (with_reducible repeat (first | refine bN_ ?_ _ | refine bD_ ?_ | refine bA_ ?_ _)); exact ae.out) hb)
          have n10_ := mk0 (blk_below (g := af) (o := .cells #[.int .i64 ((rd_T39 aa ab).f0), .int .i64 ((rd_T39 aa ab).f1), .string ((rd_T39 aa ab).f2), .string ((rd_T39 aa ab).f3), .string ((rd_T39 aa ab).f4.f0), .string ((rd_T39 aa ab).f4.f1), .bool ((rd_T39 aa ab).f4.f2), .int .i64 ((rd_T39 aa ab).f5), .bool ((rd_T39 aa ab).f6)] 39 (0, 0)) (by (with_reducible repeat (first | refine bN_ ?_ _ | refine bD_ ?_ | refine bA_ ?_ _)); exact ac.out) hb)
          have n11_ := mk0 (blk_below (g := gb209) (o := .cells #[.slice Ao77 t203.length co77, .slice Ao81 t206.length co81] 31 (0, 0)) (by (with_reducible repeat (first | refine bN_ ?_ _ | refine bD_ ?_ | refine bA_ ?_ _)); exact an.out) hb)
          have n12_ := mk0 True.intro
          have n13_ := mk0 True.intro
          have n14_ := mk0 (bt_ (by repeat (first | (with_reducible first | exact HB.out | apply bL_ | apply pN_ | apply b1_ | refine bs_ ?_ GE179.out | refine bs_ ?_ GE195.out | refine bs_ ?_ GE209.out) | exact HB.out)) hb)
          clear ak
          clear ap
          clear HO_12
          clear HO_15
          clear ad
          clear al
          clear am
          clear HL227_0
          clear HL227_1
          clear ae
          clear ac
          clear an
          clear HR227_0
          clear HR227_1
          clear HB
          have ak := n0_
          have ap := n1_
          have HO_12 := n2_
          have HO_15 := n3_
          have ad := n4_
          have al := n5_
          have am := n6_
          have HL227_0 := n7_
          have HL227_1 := n8_
          have ae := n9_
          have ac := n10_
          have an := n11_
          have HR227_0 := n12_
          have HR227_1 := n13_
          have HB := n14_
          clear n0_ n1_ n2_ n3_ n4_ n5_ n6_ n7_ n8_ n9_ n10_ n11_ n12_ n13_ n14_
          (try clear hb)
          (try clear hb2)
          (try clear hk)
          (try clear hi)
          refine hK.out _ _ ⟨(blk_cell an.out 0).trans rfl, (blk_cell an.out 1).trans rfl, HS2_, HS3_⟩ (fun hHeld => ?_)
          clear hK K
          refine norm_ (a' := ?_) ?_ ?_
          rotate_left
          ·show Act.put _ (some 143) _ = _
           simp only [z_]
           rfl
          refine p1 HT_.out 17 144 (bt 19 262143) rfl rfl (by kernel_rfl) (fun _ _ _ h => h) (by rfl) (by intro w'; go_simp; with_reducible rfl) (by simp only [z_]; rfl) ?_
          refine p1 HT_.out 18 145 (bt 19 524287) rfl rfl (by kernel_rfl) (fun _ _ _ h => h) (by rfl) (by intro w'; go_simp; with_reducible rfl) (by simp only [z_]; rfl) ?_
          refine done_ (done_of HT_.out (by kernel_rfl)) ?_
          try go_wp2_with (first | ((with_reducible refine gate_callee (f := 58) rfl ?_); refine goesL_ (some 147) rfl rfl Try.func58 (by kernel_rfl) rfl #[.slice Ao124 t211.length co124] rfl (by (try simp only [List.map_toArray, List.map_cons, List.map_nil]); first | done | rfl | (simp only [List.length_drop, List.length_take]; rfl)) ?_; (with_reducible refine (quorumlaw0_Locks.calls kj104 (fun k_ => some k_ = (.slice Ao124 t211.length co124 : Value).ownBlock) (.slice Ao124 t211.length co124) t211 t229 w _ ?side1 ?side2 A122.out).mono ?_); (case side1 => repeat (first | (with_reducible first | exact HB.out | apply bL_ | apply pN_ | apply b1_ | refine bs_ ?_ GE179.out | refine bs_ ?_ GE195.out | refine bs_ ?_ GE209.out) | exact HB.out)); (case side2 => exact Kd.R_tight rfl HO_12.out); rintro e w127 ⟨rfl, hy0, hb, hkp⟩; refine ⟨_, rfl, ?_⟩; have n0_ := mk0 (Kd.N_mono (ok' := fun k_ => (P0_1_ k_ ∨ w.heap.size ≤ k_) ∧ some k_ ≠ (.slice (some ad210) y190.length co84 : Value).ownBlock ∧ some k_ ≠ (.slice Ao124 t211.length co124 : Value).ownBlock ∧ some k_ ≠ (.slice Ao125 x15_104.length co125 : Value).ownBlock ∧ some k_ ≠ (.slice Ao77 t203.length co77 : Value).ownBlock ∧ some k_ ≠ (.slice Ao81 t206.length co81 : Value).ownBlock ∧ k_ ≠ ag ∧ k_ ≠ af ∧ k_ ≠ gb209) (Kd.N_keptB (ak.out) hkp (fun k_ hk_ hs_ => (hk_.2.2.1) hs_)) (fun k_ hk_ => ⟨hk_.1.1, hk_.1.2.1, hk_.1.2.2.1, hk_.1.2.2.2.1, hk_.1.2.2.2.2.1, hk_.1.2.2.2.2.2.1, hk_.1.2.2.2.2.2.2.1, hk_.1.2.2.2.2.2.2.2.1, hk_.1.2.2.2.2.2.2.2.2⟩)); have n1_ := mk0 (Kd.R_mono (ok' := fun k_ => (w.heap.size ≤ k_) ∧ some k_ ≠ (.slice Ao81 t206.length co81 : Value).ownBlock) (Kd.R_keptB ((Kd.R_apart' ap.out (Kd.R_typed HO_12.out) (by decide))) hkp (fun k_ hk_ hs_ => (hk_.2) hs_)) (fun k_ hk_ => ⟨hk_.1.1.1, hk_.1.1.2⟩)); have n2_ := mk0 (Kd.R_reok rfl hy0 (fun k_ e_ => HO_12.out.1 k_ e_)); have n3_ := mk0 (Kd.R_mono (ok' := fun k_ => (w.heap.size ≤ k_) ∧ some k_ ≠ (.slice Ao124 t211.length co124 : Value).ownBlock) (Kd.R_keptB (HO_15.out) hkp (fun k_ hk_ hs_ => (hk_.2) hs_)) (fun k_ hk_ => ⟨hk_.1.1, hk_.1.2⟩)); have n4_ := mk0 (Kd.V_mono (ok' := fun k_ => (P0_1_ k_ ∨ w.heap.size ≤ k_) ∧ some k_ ≠ (.slice (some ad202) ai.length co74 : Value).ownBlock ∧ some k_ ≠ (.slice (some ad210) y190.length co84 : Value).ownBlock ∧ some k_ ≠ (.slice Ao124 t211.length co124 : Value).ownBlock ∧ some k_ ≠ (.slice Ao125 x15_104.length co125 : Value).ownBlock ∧ some k_ ≠ (.slice Ao77 t203.length co77 : Value).ownBlock ∧ some k_ ≠ (.slice Ao81 t206.length co81 : Value).ownBlock ∧ k_ ≠ ag ∧ k_ ≠ af ∧ k_ ≠ gb209) (Kd.V_keptB (ad.out) hkp (fun k_ hk_ hs_ => (hk_.2.2.2.1) hs_)) (fun k_ hk_ => ⟨hk_.1.1, hk_.1.2.1, hk_.1.2.2.1, hk_.1.2.2.2.1, hk_.1.2.2.2.2.1, hk_.1.2.2.2.2.2.1, hk_.1.2.2.2.2.2.2.1, hk_.1.2.2.2.2.2.2.2.1, hk_.1.2.2.2.2.2.2.2.2.1, hk_.1.2.2.2.2.2.2.2.2.2⟩)); have n5_ := mk0 (Kd.R_mono (ok' := fun k_ => (w.heap.size ≤ k_)) (Kd.R_keptB ((Kd.R_apart' al.out (Kd.R_typed HO_12.out) (by decide))) hkp (fun k_ hk_ hs_ => (hk_.2) hs_)) (fun k_ hk_ => hk_.1.1)); have n6_ := mk0 (Kd.R_mono (ok' := fun k_ => (w.heap.size ≤ k_) ∧ some k_ ≠ (.slice (some ad210) y190.length co84 : Value).ownBlock) (Kd.R_keptB ((Kd.R_apart' am.out (Kd.R_typed HO_12.out) (by decide))) hkp (fun k_ hk_ hs_ => (hk_.2) hs_)) (fun k_ hk_ => ⟨hk_.1.1.1, hk_.1.1.2⟩)); have n7_ := mk0 (blk_kept (by (with_reducible repeat (first | refine bN_ ?_ _ | refine bD_ ?_ | refine bA_ ?_ _)); exact ae.out) hkp (fun hs_ => (fun e_ => (Kd.R_ne HO_12.out ae.out (by decide)) e_) hs_)); have n8_ := mk0 (blk_kept (by (with_reducible repeat (first | refine bN_ ?_ _ | refine bD_ ?_ | refine bA_ ?_ _)); exact ac.out) hkp (fun hs_ => (fun e_ => (Kd.R_ne HO_12.out ac.out (by decide)) e_) hs_)); have n9_ := mk0 (blk_kept (by (with_reducible repeat (first | refine bN_ ?_ _ | refine bD_ ?_ | refine bA_ ?_ _)); exact an.out) hkp (fun hs_ => (fun e_ => (Kd.R_ne HO_12.out an.out (by decide)) e_) hs_)); have n10_ := mk0 (hb); clear ak; clear ap; clear HO_12; clear HO_15; clear ad; clear al; clear am; clear ae; clear ac; clear an; clear HB; clear HL227_0; clear HL227_1; have ak := n0_; have ap := n1_; have HO_12 := n2_; have HO_15 := n3_; have ad := n4_; have al := n5_; have am := n6_; have ae := n7_; have ac := n8_; have an := n9_; have HB := n10_; clear n0_ n1_ n2_ n3_ n4_ n5_ n6_ n7_ n8_ n9_ n10_; (try clear hb); (try clear hkp); (try clear hy0)))
          go_roundg kj104
          case measure => have := HK1.out; have := HJ19.out; have := HK3.out; have := HK4.out; have := HJ56.out; have := HK6.out; have := HJ61.out; have := HJ72.out; have := HJ104.out; omega
          case rel => exact ⟨(wrap64 (x10_6 + 1)), (by first | rfl | (simp; done) | (simp [*]; done)), H', ⟨by have := HK1.out; have := HJ19.out; have := HK3.out; have := HK4.out; have := HJ56.out; have := HK6.out; have := HJ61.out; have := HJ72.out; have := HJ104.out; omega⟩, ⟨by (with_reducible repeat (first | apply Kd.N_alloc | apply Kd.N_drewN | apply Kd.N_drew)); exact Kd.N_mono ak.out (fun _ hk => ⟨hk.1, ⟨hk.2.1, ⟨hk.2.2.2.2.2.2.1, hk.2.2.2.2.2.2.2.1⟩⟩⟩)⟩, ⟨by (with_reducible repeat (first | apply Ra_ | apply Rn_ | apply Rd_)); exact Kd.R_mono ap.out (fun _ hk => hk.1)⟩, ⟨by (with_reducible repeat (first | apply Kd.V_alloc | apply Kd.V_drewN | apply Kd.V_drew)); exact Kd.V_mono ad.out (fun _ hk => ⟨hk.1, ⟨hk.2.1, ⟨hk.2.2.1, ⟨hk.2.2.2.2.2.2.2.1, hk.2.2.2.2.2.2.2.2.1⟩⟩⟩⟩)⟩, ⟨by (with_reducible repeat (first | refine bN_ ?_ _ | refine bD_ ?_ | refine bA_ ?_ _)); exact ae.out⟩, ⟨by (with_reducible repeat (first | refine bN_ ?_ _ | refine bD_ ?_ | refine bA_ ?_ _)); exact ac.out⟩, ⟨by repeat (first | (with_reducible first | exact HB.out | apply bL_ | apply pN_ | apply b1_ | refine bs_ ?_ GE179.out | refine bs_ ?_ GE195.out | refine bs_ ?_ GE209.out) | exact HB.out)⟩⟩

end Go.Proofs.Ytlnplaajhalekaa.PLk
