-- PRINTED by print.py (a twelfth state) out of the translation. Not trusted: Lean checks it.
import Derived.Test.YtafiikiofalpnaaPPendx0
import Derived.Test.YtafiikiofalpnaaPPendx2
import Derived.Test.YtafiikiofalpnaaPPendx3
import Derived.Test.YtafiikiofalpnaaPPendx4
import Derived.Test.YtafiikiofalpnaaPPendx5
import Derived.Test.YtafiikiofalpnaaPPendx6
namespace Go.Proofs.Ytafiikiofalpnaa.PPend
open Go.RowKit Go.Proofs.YtafiikiofalpnaaW.PrintWords Go.Proofs.YtafiikiofalpnaaW.PrintLast Go.Proofs.YtafiikiofalpnaaW.PrintMore
attribute [local go_sem] max2_int min2_int max_two min_two max_three min_three max_four min_four   -- for this text's walks alone
set_option linter.unusedVariables false
set_option linter.unusedSimpArgs false

/-! ### quorumlaw10_PendBack: function 4 -/
set_option maxHeartbeats 8000000 in
set_option maxRecDepth 100000 in
theorem quorumlaw10_PendBack.calls (k : Nat) (A0_0 : Option Addr) (c0_0 : Nat) (l0_0 : List (S55)) (A0_1 : Option Addr) (c0_1 : Nat) (l0_1 : List Int) (A0_2 : Option Addr) (c0_2 : Nat) (l0_2 : List (S57)) (r : Bool) (w : World) (hr0_0 : Kd.C k55 w A0_0 l0_0.length l0_0) (hc0_0 : l0_0.length ≤ c0_0) (hr0_1 : Kd.C (Kd.int .i64) w A0_1 l0_1.length l0_1) (hc0_1 : l0_1.length ≤ c0_1) (hr0_2 : Kd.C k57 w A0_2 l0_2.length l0_2) (hc0_2 : l0_2.length ≤ c0_2) (h : quorumlaw10_PendBack.f k l0_0 l0_1 l0_2 = some r) :
  Calls Try.prog 4 #[.agg #[.slice A0_0 l0_0.length c0_0, .slice A0_1 l0_1.length c0_1, .slice A0_2 l0_2.length c0_2]] w fun e w' => e = .returned (.bool r) ∧ Below w.heap.size w w' := by
 have hu47 := Try.underlying47
 have hu44 := Try.underlying44
 have hu55 := Try.underlying55
 have HR0_0 := mk0 hr0_0
 have HC0_0 := mk0 hc0_0
 clear hr0_0 hc0_0
 have HR0_1 := mk0 hr0_1
 have HC0_1 := mk0 hc0_1
 clear hr0_1 hc0_1
 have HR0_2 := mk0 hr0_2
 have HC0_2 := mk0 hc0_2
 clear hr0_2 hc0_2
 have HB := mk0 (Below.refl w.heap.size w)
 have H : ((quorumlaw10_Heavy.f k l0_0 l0_1 l0_2).bind fun t237 => (if t237 = true then (quorumlaw10_PendBack.j0 k true l0_0 l0_1 l0_2) else ((quorumref8_Pend.f k l0_0 l0_1).bind fun t238 => (quorumlaw10_PendBack.j0 k (!t238) l0_0 l0_1 l0_2)))) = some r := h
 clear h
 have HC2 := mk0 H
 clear H
 go_enter Try.func4, Try.ntmps4
 go_upto_region 1 with (first | ((with_reducible refine gate_dst (N := 1) rfl ?_); (try (refine gate_guard (by rfl) ?_; dsimp only)); refine box_event ?hg (N := 1) ?hd (cs := #[.slice A0_0 l0_0.length c0_0, .slice A0_1 l0_1.length c0_1, .slice A0_2 l0_2.length c0_2]) (t := 47) ?hr ?_; (case hd => rfl); (case hg => rfl); (case hr => first | (go_simp; done) | (go_simp; rfl)); intro gb236 hg w3 hbox hb; have n0_ := mk0 (bt_ (by repeat (first | (with_reducible first | exact HB.out | apply bL_ | apply pN_ | apply b1_) | exact HB.out)) hb); have n1_ := mk0 (hbox); have n2_ := mk0 ((by rw [hg]; exact (bz_ (by repeat (first | (with_reducible first | exact HB.out | apply bL_ | apply pN_ | apply b1_) | exact HB.out))) : w.heap.size ≤ gb236)); have n3_ := mk0 ((by rw [hg]; exact (bz_ (by repeat (first | (with_reducible first | exact HB.out | apply bL_ | apply pN_ | apply b1_) | exact HB.out))) : w.heap.size ≤ gb236)); clear HB; have HB := n0_; have BK236 := n1_; have GW236 := n2_; have GE236 := n3_; clear n0_ n1_ n2_ n3_; clear hb hbox hg))
 (try simp only [Act.put, List.setIfInBounds_toArray, List.set_cons_zero, List.set_cons_succ])
 go_cut [21] (fun v21 wc => ∃ (kq : Nat) (x21_1 : Bool), v21 = .bool x21_1 ∧ Aside0 (quorumlaw10_PendBack.j0 kq x21_1 l0_0 l0_1 l0_2 = some r) ∧ Aside0 (kq ≤ k) ∧ Aside0 (wc.heap[gb236]? = some (.cells #[(.slice A0_0 l0_0.length c0_0), (.slice A0_1 l0_1.length c0_1), (.slice A0_2 l0_2.length c0_2)] 47 (0, 0))) ∧ Aside0 (Below w.heap.size w wc))
 case first =>
  have H := HC2.out
  clear HC2
  replace H := Option.bind_eq_some_iff.mp H
  obtain ⟨t237, A40, H⟩ := H
  replace H : (if t237 = true then (quorumlaw10_PendBack.j0 k true l0_0 l0_1 l0_2) else ((quorumref8_Pend.f k l0_0 l0_1).bind fun t238 => (quorumlaw10_PendBack.j0 k (!t238) l0_0 l0_1 l0_2))) = some r := H
  have A4 := mk0 A40
  clear A40
  by_cases c5 : t237 = true
  ·subst c5
   have H1 : (quorumlaw10_PendBack.j0 k true l0_0 l0_1 l0_2) = some r := by rw [if_pos rfl] at H; exact H
   clear H
   have H := H1
   clear H1
   have H' := mk0 H
   clear H
   have hcz6_0 : w3.cell? ⟨gb236, 0, none⟩ = some (.slice A0_0 l0_0.length c0_0) := (blk_cell BK236.out 0).trans rfl
   have hcz6_1 : w3.cell? ⟨gb236, 1, none⟩ = some (.slice A0_1 l0_1.length c0_1) := (blk_cell BK236.out 1).trans rfl
   have hcz6_2 : w3.cell? ⟨gb236, 2, none⟩ = some (.slice A0_2 l0_2.length c0_2) := (blk_cell BK236.out 2).trans rfl
   have hfz6_0 := blk_frozen BK236.out 0
   have hfz6_1 := blk_frozen BK236.out 1
   have hfz6_2 := blk_frozen BK236.out 2
   go_wp2_with (first | ((with_reducible refine gate_callee (f := 22) rfl ?_); refine goesL_ (some 15) rfl rfl Try.func22 (by kernel_rfl) rfl #[.agg #[.slice A0_0 l0_0.length c0_0, .slice A0_1 l0_1.length c0_1, .slice A0_2 l0_2.length c0_2]] rfl (by (try simp only [List.map_toArray, List.map_cons, List.map_nil]); first | done | rfl | (simp only [List.length_drop, List.length_take]; rfl)) ?_; (with_reducible refine (quorumlaw10_Heavy.calls k _ _ l0_0 _ _ l0_1 _ _ l0_2 true _ ?side1 ?side2 ?side3 ?side4 ?side5 ?side6 A4.out).mono ?_); (case side1 => repeat (first | exact (Kd.C_below HR0_0.out HB.out) | (with_reducible refine Kd.C_alloc ?_ _) | (with_reducible refine Kd.C_drewN ?_ _) | (with_reducible refine Kd.C_drew ?_))); (case side2 => exact HC0_0.out); (case side3 => repeat (first | exact (Kd.C_below HR0_1.out HB.out) | (with_reducible refine Kd.C_alloc ?_ _) | (with_reducible refine Kd.C_drewN ?_ _) | (with_reducible refine Kd.C_drew ?_))); (case side4 => exact HC0_1.out); (case side5 => repeat (first | exact (Kd.C_below HR0_2.out HB.out) | (with_reducible refine Kd.C_alloc ?_ _) | (with_reducible refine Kd.C_drewN ?_ _) | (with_reducible refine Kd.C_drew ?_))); (case side6 => exact HC0_2.out); rintro e w7 ⟨rfl, hb⟩; refine ⟨_, rfl, ?_⟩; have n0_ := mk0 (blk_below (g := gb236) (o := .cells #[.slice A0_0 l0_0.length c0_0, .slice A0_1 l0_1.length c0_1, .slice A0_2 l0_2.length c0_2] 47 (0, 0)) (by (with_reducible repeat (first | refine bN_ ?_ _ | refine bD_ ?_ | refine bA_ ?_ _)); exact BK236.out) hb); have n1_ := mk0 (bt_ (by repeat (first | (with_reducible first | exact HB.out | apply bL_ | apply pN_ | apply b1_ | refine bs_ ?_ GE236.out) | exact HB.out)) hb); clear BK236; clear HB; have BK236 := n0_; have HB := n1_; clear n0_ n1_; (try clear hb); (try clear hb2); (try clear hk); (try clear hi)))
   go_meet
   case rel => exact ⟨_, (true), (by first | rfl | (simp; done) | (simp [*]; done)), H', ⟨by first | omega | exact Nat.le_refl _⟩, ⟨by (with_reducible repeat (first | refine bN_ ?_ _ | refine bD_ ?_ | refine bA_ ?_ _)); exact BK236.out⟩, ⟨by repeat (first | (with_reducible first | exact HB.out | apply bL_ | apply pN_ | apply b1_ | refine bs_ ?_ GE236.out) | exact HB.out)⟩⟩
  ·replace c5 := Bool.eq_false_iff.mpr c5
   subst c5
   have H1 : ((quorumref8_Pend.f k l0_0 l0_1).bind fun t238 => (quorumlaw10_PendBack.j0 k (!t238) l0_0 l0_1 l0_2)) = some r := by rw [if_neg (show ¬ (false = true) by decide)] at H; exact H
   clear H
   have H := H1
   clear H1
   replace H := Option.bind_eq_some_iff.mp H
   obtain ⟨t238, A80, H⟩ := H
   replace H : (quorumlaw10_PendBack.j0 k (!t238) l0_0 l0_1 l0_2) = some r := H
   have A8 := mk0 A80
   clear A80
   have H' := mk0 H
   clear H
   have hcz9_0 : w3.cell? ⟨gb236, 0, none⟩ = some (.slice A0_0 l0_0.length c0_0) := (blk_cell BK236.out 0).trans rfl
   have hcz9_1 : w3.cell? ⟨gb236, 1, none⟩ = some (.slice A0_1 l0_1.length c0_1) := (blk_cell BK236.out 1).trans rfl
   have hcz9_2 : w3.cell? ⟨gb236, 2, none⟩ = some (.slice A0_2 l0_2.length c0_2) := (blk_cell BK236.out 2).trans rfl
   have hfz9_0 := blk_frozen BK236.out 0
   have hfz9_1 := blk_frozen BK236.out 1
   have hfz9_2 := blk_frozen BK236.out 2
   go_wp2_with (first | ((with_reducible refine gate_callee (f := 22) rfl ?_); refine goesL_ (some 15) rfl rfl Try.func22 (by kernel_rfl) rfl #[.agg #[.slice A0_0 l0_0.length c0_0, .slice A0_1 l0_1.length c0_1, .slice A0_2 l0_2.length c0_2]] rfl (by (try simp only [List.map_toArray, List.map_cons, List.map_nil]); first | done | rfl | (simp only [List.length_drop, List.length_take]; rfl)) ?_; (with_reducible refine (quorumlaw10_Heavy.calls k _ _ l0_0 _ _ l0_1 _ _ l0_2 false _ ?side1 ?side2 ?side3 ?side4 ?side5 ?side6 A4.out).mono ?_); (case side1 => repeat (first | exact (Kd.C_below HR0_0.out HB.out) | (with_reducible refine Kd.C_alloc ?_ _) | (with_reducible refine Kd.C_drewN ?_ _) | (with_reducible refine Kd.C_drew ?_))); (case side2 => exact HC0_0.out); (case side3 => repeat (first | exact (Kd.C_below HR0_1.out HB.out) | (with_reducible refine Kd.C_alloc ?_ _) | (with_reducible refine Kd.C_drewN ?_ _) | (with_reducible refine Kd.C_drew ?_))); (case side4 => exact HC0_1.out); (case side5 => repeat (first | exact (Kd.C_below HR0_2.out HB.out) | (with_reducible refine Kd.C_alloc ?_ _) | (with_reducible refine Kd.C_drewN ?_ _) | (with_reducible refine Kd.C_drew ?_))); (case side6 => exact HC0_2.out); rintro e w10 ⟨rfl, hb⟩; refine ⟨_, rfl, ?_⟩; have n0_ := mk0 (blk_below (g := gb236) (o := .cells #[.slice A0_0 l0_0.length c0_0, .slice A0_1 l0_1.length c0_1, .slice A0_2 l0_2.length c0_2] 47 (0, 0)) (by (with_reducible repeat (first | refine bN_ ?_ _ | refine bD_ ?_ | refine bA_ ?_ _)); exact BK236.out) hb); have n1_ := mk0 (bt_ (by repeat (first | (with_reducible first | exact HB.out | apply bL_ | apply pN_ | apply b1_ | refine bs_ ?_ GE236.out) | exact HB.out)) hb); clear BK236; clear HB; have BK236 := n0_; have HB := n1_; clear n0_ n1_; (try clear hb); (try clear hb2); (try clear hk); (try clear hi); have hcz11_0 : w10.cell? ⟨gb236, 0, none⟩ = some (.slice A0_0 l0_0.length c0_0) := (blk_cell BK236.out 0).trans rfl; have hcz11_1 : w10.cell? ⟨gb236, 1, none⟩ = some (.slice A0_1 l0_1.length c0_1) := (blk_cell BK236.out 1).trans rfl; have hcz11_2 : w10.cell? ⟨gb236, 2, none⟩ = some (.slice A0_2 l0_2.length c0_2) := (blk_cell BK236.out 2).trans rfl; have hfz11_0 := blk_frozen BK236.out 0; have hfz11_1 := blk_frozen BK236.out 1; have hfz11_2 := blk_frozen BK236.out 2) | (go_at_call 23; (with_reducible refine (quorumref8_Pend.calls k _ _ l0_0 _ _ l0_1 t238 _ ?side1 ?side2 ?side3 ?side4 A8.out).mono ?_); (case side1 => repeat (first | exact (Kd.C_below HR0_0.out HB.out) | (with_reducible refine Kd.C_alloc ?_ _) | (with_reducible refine Kd.C_drewN ?_ _) | (with_reducible refine Kd.C_drew ?_))); (case side2 => exact HC0_0.out); (case side3 => repeat (first | exact (Kd.C_below HR0_1.out HB.out) | (with_reducible refine Kd.C_alloc ?_ _) | (with_reducible refine Kd.C_drewN ?_ _) | (with_reducible refine Kd.C_drew ?_))); (case side4 => exact HC0_1.out); rintro e w12 ⟨rfl, hb⟩; have n0_ := mk0 (blk_below (g := gb236) (o := .cells #[.slice A0_0 l0_0.length c0_0, .slice A0_1 l0_1.length c0_1, .slice A0_2 l0_2.length c0_2] 47 (0, 0)) (by (with_reducible repeat (first | refine bN_ ?_ _ | refine bD_ ?_ | refine bA_ ?_ _)); exact BK236.out) hb); have n1_ := mk0 (bt_ (by repeat (first | (with_reducible first | exact HB.out | apply bL_ | apply pN_ | apply b1_ | refine bs_ ?_ GE236.out) | exact HB.out)) hb); clear BK236; clear HB; have BK236 := n0_; have HB := n1_; clear n0_ n1_; (try clear hb); (try clear hb2); (try clear hk); (try clear hi)))
   go_meet
   case rel => exact ⟨_, (!t238), (by first | rfl | (simp; done) | (simp [*]; done)), H', ⟨by first | omega | exact Nat.le_refl _⟩, ⟨by (with_reducible repeat (first | refine bN_ ?_ _ | refine bD_ ?_ | refine bA_ ?_ _)); exact BK236.out⟩, ⟨by repeat (first | (with_reducible first | exact HB.out | apply bL_ | apply pN_ | apply b1_ | refine bs_ ?_ GE236.out) | exact HB.out)⟩⟩
 case rest =>
  clear HC2
  try clear c2
  try clear p2
  try clear c4
  try clear c5
  try clear hcz11_0
  try clear hcz11_1
  try clear hcz11_2
  try clear hcz6_0
  try clear hcz6_1
  try clear hcz6_2
  try clear hcz9_0
  try clear hcz9_1
  try clear hcz9_2
  try clear hfz11_0
  try clear hfz11_1
  try clear hfz11_2
  try clear hfz6_0
  try clear hfz6_1
  try clear hfz6_2
  try clear hfz9_0
  try clear hfz9_1
  try clear hfz9_2
  obtain ⟨kq, x21_1, rfl, HA, HJ1, BK236, HB⟩ := hcut
  cases kq with
  | zero => exact absurd HA.out (by simp [quorumlaw10_PendBack.j0])
  | succ kj1 =>
   have H := HA.out
   clear HA
   simp only [quorumlaw10_PendBack.j0] at H
   by_cases c13 : x21_1 = true
   ·subst c13
    have H1 : (some true) = some r := by rw [if_pos rfl] at H; exact H
    clear H
    have H := H1
    clear H1
    obtain rfl := Option.some.inj H
    go_wp2
    go_ret
    exact ⟨by first | rfl | (simp [errW_none, errW_some] <;> rfl) | (simp [*, errW_none, errW_some] <;> rfl), by repeat (first | (with_reducible first | exact HB.out | apply bL_ | apply pN_ | apply b1_ | refine bs_ ?_ GE236.out) | exact HB.out)⟩
   ·replace c13 := Bool.eq_false_iff.mpr c13
    subst c13
    have H1 : ((pend_Save.f kj1 l0_0 l0_1).bind fun bt239 => ((quorumlaw10_num.f bt239.2.2.2).bind fun t248 => (if t248 = 0 then (quorumlaw10_PendBack.l0 kj1 bt239.2.2.1 0 l0_0 l0_1 l0_2 bt239.1 bt239.2.1 bt239.1 bt239.2.1) else (if (l0_1.length : Int) = 6 then ((quorumlaw10_wakes.f kj1).bind fun t249 => (some t249)) else (some false))))) = some r := by rw [if_neg (show ¬ (false = true) by decide)] at H; exact H
    clear H
    have H := H1
    clear H1
    replace H := Option.bind_eq_some_iff.mp H
    obtain ⟨⟨t239, t242, t245, t246⟩, A140, H⟩ := H
    replace H : ((quorumlaw10_num.f t246).bind fun t248 => (if t248 = 0 then (quorumlaw10_PendBack.l0 kj1 t245 0 l0_0 l0_1 l0_2 t239 t242 t239 t242) else (if (l0_1.length : Int) = 6 then ((quorumlaw10_wakes.f kj1).bind fun t249 => (some t249)) else (some false)))) = some r := H
    have A14 := mk0 A140
    clear A140
    replace H := Option.bind_eq_some_iff.mp H
    obtain ⟨t248, A150, H⟩ := H
    replace H : (if t248 = 0 then (quorumlaw10_PendBack.l0 kj1 t245 0 l0_0 l0_1 l0_2 t239 t242 t239 t242) else (if (l0_1.length : Int) = 6 then ((quorumlaw10_wakes.f kj1).bind fun t249 => (some t249)) else (some false))) = some r := H
    have A15 := mk0 A150
    clear A150
    by_cases c16 : t248 = 0
    ·rw [if_pos c16] at H
     have c16b0 : (t248 == 0) = true := beq_iff_eq.mpr c16
     have c16b1 : (t248 != 0) = false := bne_eq_false_iff_eq.mpr c16
     clear c16
     have H' := mk0 H
     clear H
     have hcz17_0 : wc.cell? ⟨gb236, 0, none⟩ = some (.slice A0_0 l0_0.length c0_0) := (blk_cell BK236.out 0).trans rfl
     have hcz17_1 : wc.cell? ⟨gb236, 1, none⟩ = some (.slice A0_1 l0_1.length c0_1) := (blk_cell BK236.out 1).trans rfl
     have hcz17_2 : wc.cell? ⟨gb236, 2, none⟩ = some (.slice A0_2 l0_2.length c0_2) := (blk_cell BK236.out 2).trans rfl
     have hfz17_0 := blk_frozen BK236.out 0
     have hfz17_1 := blk_frozen BK236.out 1
     have hfz17_2 := blk_frozen BK236.out 2
     go_wp2_with (first | ((with_reducible refine gate_callee (f := 24) rfl ?_); refine goesL_ (some 25) rfl rfl Try.func24 (by kernel_rfl) rfl #[.agg #[.slice A0_0 l0_0.length c0_0, .slice A0_1 l0_1.length c0_1]] rfl (by (try simp only [List.map_toArray, List.map_cons, List.map_nil]); first | done | rfl | (simp only [List.length_drop, List.length_take]; rfl)) ?_; (with_reducible refine (pend_Save.calls kj1 _ _ l0_0 _ _ l0_1 t239 t242 t245 t246 _ ?side1 ?side2 ?side3 ?side4 A14.out).mono ?_); (case side1 => repeat (first | exact (Kd.C_below HR0_0.out HB.out) | (with_reducible refine Kd.C_alloc ?_ _) | (with_reducible refine Kd.C_drewN ?_ _) | (with_reducible refine Kd.C_drew ?_))); (case side2 => exact HC0_0.out); (case side3 => repeat (first | exact (Kd.C_below HR0_1.out HB.out) | (with_reducible refine Kd.C_alloc ?_ _) | (with_reducible refine Kd.C_drewN ?_ _) | (with_reducible refine Kd.C_drew ?_))); (case side4 => exact HC0_1.out); rintro e w18 ⟨v240, v243, rfl, ho0, ho1, hb⟩; refine ⟨_, rfl, ?_⟩; have n0_ := mk0 (Kd.R_lower ho0 (bz_ (by repeat (first | (with_reducible first | exact HB.out | apply bL_ | apply pN_ | apply b1_ | refine bs_ ?_ GE236.out) | exact HB.out)))); have n1_ := mk0 (Kd.R_lower ho1 (bz_ (by repeat (first | (with_reducible first | exact HB.out | apply bL_ | apply pN_ | apply b1_ | refine bs_ ?_ GE236.out) | exact HB.out)))); have n2_ := mk0 (blk_below (g := gb236) (o := .cells #[.slice A0_0 l0_0.length c0_0, .slice A0_1 l0_1.length c0_1, .slice A0_2 l0_2.length c0_2] 47 (0, 0)) (by (with_reducible repeat (first | refine bN_ ?_ _ | refine bD_ ?_ | refine bA_ ?_ _)); exact BK236.out) hb); have n3_ := mk0 (bt_ (by repeat (first | (with_reducible first | exact HB.out | apply bL_ | apply pN_ | apply b1_ | refine bs_ ?_ GE236.out) | exact HB.out)) hb); clear BK236; clear HB; have HO241 := n0_; have HO244 := n1_; have BK236 := n2_; have HB := n3_; clear n0_ n1_ n2_ n3_; (try clear hb); (try clear hb2); (try clear hk); (try clear hi); (try clear ho0); (try clear ho1)) | ((with_reducible refine gate_dst (N := 3) rfl ?_); (try (refine gate_guard (by rfl) ?_; dsimp only)); refine box_event ?hg (N := 3) ?hd (cs := #[.slice none 0 0, .slice none 0 0]) (t := 44) ?hr ?_; (case hd => rfl); (case hg => rfl); (case hr => first | (go_simp; done) | (go_simp; rfl)); intro gb247 hg w19 hbox hb; have n0_ := mk0 (Kd.R_below (by (with_reducible repeat (first | apply Ra_ | apply Rn_ | apply Rd_)); exact HO241.out) hb); have n1_ := mk0 (Kd.R_below (by (with_reducible repeat (first | apply Ra_ | apply Rn_ | apply Rd_)); exact HO244.out) hb); have n2_ := mk0 (blk_below (g := gb236) (o := .cells #[.slice A0_0 l0_0.length c0_0, .slice A0_1 l0_1.length c0_1, .slice A0_2 l0_2.length c0_2] 47 (0, 0)) (by (with_reducible repeat (first | refine bN_ ?_ _ | refine bD_ ?_ | refine bA_ ?_ _)); exact BK236.out) hb); have n3_ := mk0 (bt_ (by repeat (first | (with_reducible first | exact HB.out | apply bL_ | apply pN_ | apply b1_ | refine bs_ ?_ GE236.out) | exact HB.out)) hb); have n4_ := mk0 (hbox); have n5_ := mk0 ((by rw [hg]; exact (bz_ (by repeat (first | (with_reducible first | exact HB.out | apply bL_ | apply pN_ | apply b1_ | refine bs_ ?_ GE236.out) | exact HB.out))) : w.heap.size ≤ gb247)); have n6_ := mk0 ((by rw [hg]; exact (bz_ (by repeat (first | (with_reducible first | exact HB.out | apply bL_ | apply pN_ | apply b1_ | refine bs_ ?_ GE236.out) | exact HB.out))) : w.heap.size ≤ gb247)); have n7_ := mk0 ((by rw [hg]; exact Nat.ne_of_lt (blk_lt (g := gb236) (o := .cells #[.slice A0_0 l0_0.length c0_0, .slice A0_1 l0_1.length c0_1, .slice A0_2 l0_2.length c0_2] 47 (0, 0)) (by (with_reducible repeat (first | refine bN_ ?_ _ | refine bD_ ?_ | refine bA_ ?_ _)); exact BK236.out)) : gb236 ≠ gb247)); have n8_ := mk0 ((by rw [hg]; exact Nat.ne_of_gt (blk_lt (g := gb236) (o := .cells #[.slice A0_0 l0_0.length c0_0, .slice A0_1 l0_1.length c0_1, .slice A0_2 l0_2.length c0_2] 47 (0, 0)) (by (with_reducible repeat (first | refine bN_ ?_ _ | refine bD_ ?_ | refine bA_ ?_ _)); exact BK236.out)) : gb247 ≠ gb236)); clear HO241; clear HO244; clear BK236; clear HB; have HO241 := n0_; have HO244 := n1_; have BK236 := n2_; have HB := n3_; have BK247 := n4_; have GW247 := n5_; have GE247 := n6_; have NB236_247 := n7_; have NB247_236 := n8_; clear n0_ n1_ n2_ n3_ n4_ n5_ n6_ n7_ n8_; clear hb hbox hg; obtain ⟨Ao20, co20, eo20⟩ := Kd.R_slice HO241.out; subst eo20; have hnb21 := NB247_236.out; have hnc21 := NB236_247.out; have hcz22_0 : w19.cell? ⟨gb247, 0, none⟩ = some (.slice none 0 0) := (blk_cell BK247.out 0).trans rfl; have hcz22_1 : w19.cell? ⟨gb247, 1, none⟩ = some (.slice none 0 0) := (blk_cell BK247.out 1).trans rfl; have hfz22_0 := blk_frozen BK247.out 0; have hfz22_1 := blk_frozen BK247.out 1; obtain ⟨Ao23, co23, eo23⟩ := Kd.R_slice HO244.out; subst eo23) | ((with_reducible refine gate_callee (f := 25) rfl ?_); refine goesL_ (some 30) rfl rfl Try.func25 (by kernel_rfl) rfl #[.int .i64 t246] rfl (by (try simp only [List.map_toArray, List.map_cons, List.map_nil]); first | done | rfl | (simp only [List.length_drop, List.length_take]; rfl)) ?_; (with_reducible refine (quorumlaw10_num.calls t246 t248 _ A15.out).mono ?_); rintro e w' ⟨rfl, ⟨nd, rfl⟩⟩; refine ⟨_, rfl, ?_⟩) | ((with_reducible refine gate_dst (N := 6) rfl ?_); (try (refine gate_guard (by rfl) ?_; dsimp only)); refine box_event ?hg (N := 6) ?hd (cs := #[.slice none 0 0, .slice none 0 0]) (t := 44) ?hr ?_; (case hd => rfl); (case hg => rfl); (case hr => first | (go_simp; done) | (go_simp; rfl)); intro gb250 hg w24 hbox hb; have n0_ := mk0 (Kd.R_below (by (with_reducible repeat (first | apply Ra_ | apply Rn_ | apply Rd_)); exact (Kd.R_mono (Kd.R_far (p := ⟨gb247, 1, none⟩) (Kd.R_far (p := ⟨gb247, 0, none⟩) (Kd.R_types HO241.out BK247.out (by decide)) (fun _ hk => hk.2) (.slice Ao20 t239.length co20)) (fun _ hk => hk.2) (.slice Ao23 t242.length co23)) (fun _ h_ => h_.1))) hb); have n1_ := mk0 (Kd.R_below (by (with_reducible repeat (first | apply Ra_ | apply Rn_ | apply Rd_)); exact (Kd.R_mono (Kd.R_far (p := ⟨gb247, 1, none⟩) (Kd.R_far (p := ⟨gb247, 0, none⟩) (Kd.R_types HO244.out BK247.out (by decide)) (fun _ hk => hk.2) (.slice Ao20 t239.length co20)) (fun _ hk => hk.2) (.slice Ao23 t242.length co23)) (fun _ h_ => h_.1))) hb); have n2_ := mk0 (blk_below (g := gb236) (o := .cells #[.slice A0_0 l0_0.length c0_0, .slice A0_1 l0_1.length c0_1, .slice A0_2 l0_2.length c0_2] 47 (0, 0)) (by (with_reducible repeat (first | refine bN_ ?_ _ | refine bD_ ?_ | refine bA_ ?_ _)); refine blk_far ?_ NB236_247.out _; (with_reducible repeat (first | refine bN_ ?_ _ | refine bD_ ?_ | refine bA_ ?_ _)); refine blk_far ?_ NB236_247.out _; (with_reducible repeat (first | refine bN_ ?_ _ | refine bD_ ?_ | refine bA_ ?_ _)); exact BK236.out) hb); have n3_ := mk0 (blk_below (g := gb247) (o := .cells #[.slice Ao20 t239.length co20, .slice Ao23 t242.length co23] 44 (0, 0)) (by (with_reducible repeat (first | refine bN_ ?_ _ | refine bD_ ?_ | refine bA_ ?_ _)); refine blk_put (cs := #[.slice Ao20 t239.length co20, .slice none 0 0]) ?_ 1 _ rfl; (with_reducible repeat (first | refine bN_ ?_ _ | refine bD_ ?_ | refine bA_ ?_ _)); refine blk_put (cs := #[.slice none 0 0, .slice none 0 0]) ?_ 0 _ rfl; (with_reducible repeat (first | refine bN_ ?_ _ | refine bD_ ?_ | refine bA_ ?_ _)); exact BK247.out) hb); have n4_ := mk0 (bt_ (by repeat (first | (with_reducible first | exact HB.out | apply bL_ | apply pN_ | apply b1_ | refine bs_ ?_ GE236.out | refine bs_ ?_ GE247.out) | exact HB.out)) hb); have n5_ := mk0 (hbox); have n6_ := mk0 ((by rw [hg]; exact (bz_ (by repeat (first | (with_reducible first | exact HB.out | apply bL_ | apply pN_ | apply b1_ | refine bs_ ?_ GE236.out | refine bs_ ?_ GE247.out) | exact HB.out))) : w.heap.size ≤ gb250)); have n7_ := mk0 ((by rw [hg]; exact (bz_ (by repeat (first | (with_reducible first | exact HB.out | apply bL_ | apply pN_ | apply b1_ | refine bs_ ?_ GE236.out | refine bs_ ?_ GE247.out) | exact HB.out))) : w.heap.size ≤ gb250)); have n8_ := mk0 ((by rw [hg]; exact Nat.ne_of_lt (blk_lt (g := gb236) (o := .cells #[.slice A0_0 l0_0.length c0_0, .slice A0_1 l0_1.length c0_1, .slice A0_2 l0_2.length c0_2] 47 (0, 0)) (by (with_reducible repeat (first | refine bN_ ?_ _ | refine bD_ ?_ | refine bA_ ?_ _)); refine blk_far ?_ NB236_247.out _; (with_reducible repeat (first | refine bN_ ?_ _ | refine bD_ ?_ | refine bA_ ?_ _)); refine blk_far ?_ NB236_247.out _; (with_reducible repeat (first | refine bN_ ?_ _ | refine bD_ ?_ | refine bA_ ?_ _)); exact BK236.out)) : gb236 ≠ gb250)); have n9_ := mk0 ((by rw [hg]; exact Nat.ne_of_gt (blk_lt (g := gb236) (o := .cells #[.slice A0_0 l0_0.length c0_0, .slice A0_1 l0_1.length c0_1, .slice A0_2 l0_2.length c0_2] 47 (0, 0)) (by (with_reducible repeat (first | refine bN_ ?_ _ | refine bD_ ?_ | refine bA_ ?_ _)); refine blk_far ?_ NB236_247.out _; (with_reducible repeat (first | refine bN_ ?_ _ | refine bD_ ?_ | refine bA_ ?_ _)); refine blk_far ?_ NB236_247.out _; (with_reducible repeat (first | refine bN_ ?_ _ | refine bD_ ?_ | refine bA_ ?_ _)); exact BK236.out)) : gb250 ≠ gb236)); have n10_ := mk0 ((by rw [hg]; exact Nat.ne_of_lt (blk_lt (g := gb247) (o := .cells #[.slice Ao20 t239.length co20, .slice Ao23 t242.length co23] 44 (0, 0)) (by (with_reducible repeat (first | refine bN_ ?_ _ | refine bD_ ?_ | refine bA_ ?_ _)); refine blk_put (cs := #[.slice Ao20 t239.length co20, .slice none 0 0]) ?_ 1 _ rfl; (with_reducible repeat (first | refine bN_ ?_ _ | refine bD_ ?_ | refine bA_ ?_ _)); refine blk_put (cs := #[.slice none 0 0, .slice none 0 0]) ?_ 0 _ rfl; (with_reducible repeat (first | refine bN_ ?_ _ | refine bD_ ?_ | refine bA_ ?_ _)); exact BK247.out)) : gb247 ≠ gb250)); have n11_ := mk0 ((by rw [hg]; exact Nat.ne_of_gt (blk_lt (g := gb247) (o := .cells #[.slice Ao20 t239.length co20, .slice Ao23 t242.length co23] 44 (0, 0)) (by (with_reducible repeat (first | refine bN_ ?_ _ | refine bD_ ?_ | refine bA_ ?_ _)); refine blk_put (cs := #[.slice Ao20 t239.length co20, .slice none 0 0]) ?_ 1 _ rfl; (with_reducible repeat (first | refine bN_ ?_ _ | refine bD_ ?_ | refine bA_ ?_ _)); refine blk_put (cs := #[.slice none 0 0, .slice none 0 0]) ?_ 0 _ rfl; (with_reducible repeat (first | refine bN_ ?_ _ | refine bD_ ?_ | refine bA_ ?_ _)); exact BK247.out)) : gb250 ≠ gb247)); clear HO241; clear HO244; clear BK236; clear BK247; clear HB; have HO241 := n0_; have HO244 := n1_; have BK236 := n2_; have BK247 := n3_; have HB := n4_; have BK250 := n5_; have GW250 := n6_; have GE250 := n7_; have NB236_250 := n8_; have NB250_236 := n9_; have NB247_250 := n10_; have NB250_247 := n11_; clear n0_ n1_ n2_ n3_ n4_ n5_ n6_ n7_ n8_ n9_ n10_ n11_; clear hb hbox hg; have hnb25 := NB250_236.out; have hnc25 := NB236_250.out; have hnb26 := NB250_247.out; have hnc26 := NB247_250.out; have hcz27_0 : w24.cell? ⟨gb250, 0, none⟩ = some (.slice none 0 0) := (blk_cell BK250.out 0).trans rfl; have hcz27_1 : w24.cell? ⟨gb250, 1, none⟩ = some (.slice none 0 0) := (blk_cell BK250.out 1).trans rfl; have hfz27_0 := blk_frozen BK250.out 0; have hfz27_1 := blk_frozen BK250.out 1))
     go_loopg [7] kj1 (fun kq v7 w' => ∃ (x7_2 : Int) (x251000_2 : List (S55)) (x251001_2 : List Int) (u251000 : Value) (u251001 : Value), v7 = .int .i64 x7_2 ∧ Aside0 (quorumlaw10_PendBack.l0 kq t245 x7_2 l0_0 l0_1 l0_2 t239 t242 x251000_2 x251001_2 = some r) ∧ Aside0 (kq ≤ kj1) ∧ Aside0 (Kd.R k55 55 w' w.heap.size (fun _ => True) (.slice Ao20 t239.length co20) t239) ∧ Aside0 (Kd.R (Kd.int .i64) 3 w' w.heap.size (fun _ => True) (.slice Ao23 t242.length co23) t242) ∧ Aside0 (Kd.R k55 55 w' w.heap.size (fun _ => True) u251000 x251000_2) ∧ Aside0 (Kd.R (Kd.int .i64) 3 w' w.heap.size (fun _ => True) u251001 x251001_2) ∧ Aside0 (w'.heap[gb236]? = some (.cells #[(.slice A0_0 l0_0.length c0_0), (.slice A0_1 l0_1.length c0_1), (.slice A0_2 l0_2.length c0_2)] 47 (0, 0))) ∧ Aside0 (w'.heap[gb247]? = some (.cells #[(.slice Ao20 t239.length co20), (.slice Ao23 t242.length co23)] 44 (0, 0))) ∧ Aside0 (w'.heap[gb250]? = some (.cells #[u251000, u251001] 44 (0, 0))) ∧ Aside0 (Below w.heap.size w w'))
     case atStart => exact ⟨(0), (t239), (t242), (.slice Ao20 t239.length co20), (.slice Ao23 t242.length co23), (by first | rfl | (simp; done) | (simp [*]; done)), H', ⟨Nat.le_refl _⟩, ⟨by (with_reducible repeat (first | apply Ra_ | apply Rn_ | apply Rd_)); exact Kd.R_mono (Kd.R_far (p := ⟨gb250, 1, none⟩) (Kd.R_far (p := ⟨gb250, 0, none⟩) (Kd.R_types HO241.out BK250.out (by decide)) (fun _ hk => hk.2) (.slice Ao20 t239.length co20)) (fun _ hk => hk.2) (.slice Ao23 t242.length co23)) (fun _ hk => trivial)⟩, ⟨by (with_reducible repeat (first | apply Ra_ | apply Rn_ | apply Rd_)); exact Kd.R_mono (Kd.R_far (p := ⟨gb250, 1, none⟩) (Kd.R_far (p := ⟨gb250, 0, none⟩) (Kd.R_types HO244.out BK250.out (by decide)) (fun _ hk => hk.2) (.slice Ao20 t239.length co20)) (fun _ hk => hk.2) (.slice Ao23 t242.length co23)) (fun _ hk => trivial)⟩, ⟨by (with_reducible repeat (first | apply Ra_ | apply Rn_ | apply Rd_)); exact Kd.R_mono (Kd.R_far (p := ⟨gb250, 1, none⟩) (Kd.R_far (p := ⟨gb250, 0, none⟩) (Kd.R_types HO241.out BK250.out (by decide)) (fun _ hk => hk.2) (.slice Ao20 t239.length co20)) (fun _ hk => hk.2) (.slice Ao23 t242.length co23)) (fun _ hk => trivial)⟩, ⟨by (with_reducible repeat (first | apply Ra_ | apply Rn_ | apply Rd_)); exact Kd.R_mono (Kd.R_far (p := ⟨gb250, 1, none⟩) (Kd.R_far (p := ⟨gb250, 0, none⟩) (Kd.R_types HO244.out BK250.out (by decide)) (fun _ hk => hk.2) (.slice Ao20 t239.length co20)) (fun _ hk => hk.2) (.slice Ao23 t242.length co23)) (fun _ hk => trivial)⟩, ⟨by (with_reducible repeat (first | refine bN_ ?_ _ | refine bD_ ?_ | refine bA_ ?_ _)); refine blk_far ?_ NB236_250.out _; (with_reducible repeat (first | refine bN_ ?_ _ | refine bD_ ?_ | refine bA_ ?_ _)); refine blk_far ?_ NB236_250.out _; (with_reducible repeat (first | refine bN_ ?_ _ | refine bD_ ?_ | refine bA_ ?_ _)); exact BK236.out⟩, ⟨by (with_reducible repeat (first | refine bN_ ?_ _ | refine bD_ ?_ | refine bA_ ?_ _)); refine blk_far ?_ NB247_250.out _; (with_reducible repeat (first | refine bN_ ?_ _ | refine bD_ ?_ | refine bA_ ?_ _)); refine blk_far ?_ NB247_250.out _; (with_reducible repeat (first | refine bN_ ?_ _ | refine bD_ ?_ | refine bA_ ?_ _)); exact BK247.out⟩, ⟨by (with_reducible repeat (first | refine bN_ ?_ _ | refine bD_ ?_ | refine bA_ ?_ _)); refine blk_put (cs := #[.slice Ao20 t239.length co20, .slice none 0 0]) ?_ 1 _ rfl; (with_reducible repeat (first | refine bN_ ?_ _ | refine bD_ ?_ | refine bA_ ?_ _)); refine blk_put (cs := #[.slice none 0 0, .slice none 0 0]) ?_ 0 _ rfl; (with_reducible repeat (first | refine bN_ ?_ _ | refine bD_ ?_ | refine bA_ ?_ _)); exact BK250.out⟩, ⟨by repeat (first | (with_reducible first | exact HB.out | apply bL_ | apply pN_ | apply b1_ | refine bs_ ?_ GE236.out | refine bs_ ?_ GE247.out | refine bs_ ?_ GE250.out) | exact HB.out)⟩⟩
     case round =>
      clear H'
      try clear c1
      try clear c2
      try clear p2
      try clear c4
      try clear c5
      try clear c13
      try clear c16
      try clear c16b0
      try clear c16b1
      try clear c21
      try clear c22
      try clear c24
      try clear c25
      try clear c26
      try clear hcz11_0
      try clear hcz11_1
      try clear hcz11_2
      try clear hcz17_0
      try clear hcz17_1
      try clear hcz17_2
      try clear hcz22_0
      try clear hcz22_1
      try clear hcz27_0
      try clear hcz27_1
      try clear hcz6_0
      try clear hcz6_1
      try clear hcz6_2
      try clear hcz9_0
      try clear hcz9_1
      try clear hcz9_2
      try clear hfz11_0
      try clear hfz11_1
      try clear hfz11_2
      try clear hfz17_0
      try clear hfz17_1
      try clear hfz17_2
      try clear hfz22_0
      try clear hfz22_1
      try clear hfz27_0
      try clear hfz27_1
      try clear hfz6_0
      try clear hfz6_1
      try clear hfz6_2
      try clear hfz9_0
      try clear hfz9_1
      try clear hfz9_2
      try clear p2
      obtain ⟨x7_2, x251000_2, x251001_2, u251000, u251001, rfl, HA, HK2, HO_248000, HO_248001, HO_251000, HO_251001, BK236, BK247, BK250, HB⟩ := hrel
      cases gk with
      | zero => exact absurd HA.out (by simp [quorumlaw10_PendBack.l0])
      | succ k2 =>
       have H := HA.out
       clear HA
       simp only [quorumlaw10_PendBack.l0] at H
       have HC28 := mk0 H
       clear H
       go_upto_region 8 with (fail)
       go_cut [49] (fun v49 wc => ∃ (kq : Nat) (x49_27 : Bool), v49 = .bool x49_27 ∧ Aside0 (quorumlaw10_PendBack.j2 kq t245 x7_2 x49_27 l0_0 l0_1 l0_2 t239 t242 x251000_2 x251001_2 = some r) ∧ Aside0 (kq ≤ k2) ∧ Aside0 (Kd.R k55 55 wc w.heap.size (fun _ => True) (.slice Ao20 t239.length co20) t239) ∧ Aside0 (Kd.R (Kd.int .i64) 3 wc w.heap.size (fun _ => True) (.slice Ao23 t242.length co23) t242) ∧ Aside0 (Kd.R k55 55 wc w.heap.size (fun _ => True) u251000 x251000_2) ∧ Aside0 (Kd.R (Kd.int .i64) 3 wc w.heap.size (fun _ => True) u251001 x251001_2) ∧ Aside0 (wc.heap[gb236]? = some (.cells #[(.slice A0_0 l0_0.length c0_0), (.slice A0_1 l0_1.length c0_1), (.slice A0_2 l0_2.length c0_2)] 47 (0, 0))) ∧ Aside0 (wc.heap[gb247]? = some (.cells #[(.slice Ao20 t239.length co20), (.slice Ao23 t242.length co23)] 44 (0, 0))) ∧ Aside0 (wc.heap[gb250]? = some (.cells #[u251000, u251001] 44 (0, 0))) ∧ Aside0 (Below w.heap.size w wc))
       case first =>
        have H := HC28.out
        clear HC28
        by_cases c29 : x7_2 < (l0_2.length : Int)
        ·rw [if_pos c29] at H
         have c29b0 : decide (x7_2 < (l0_2.length : Int)) = true := decide_eq_true c29
         clear c29
         (first | rw [c29b0] | (simp only [i64_w, i32_w]; rw [c29b0]) | skip)
         have H' := mk0 H
         clear H
         have hnb30 := NB236_247.out
         have hnc30 := NB247_236.out
         have hnb31 := NB236_250.out
         have hnc31 := NB250_236.out
         have hcz32_0 : wr.cell? ⟨gb236, 0, none⟩ = some (.slice A0_0 l0_0.length c0_0) := (blk_cell BK236.out 0).trans rfl
         have hcz32_1 : wr.cell? ⟨gb236, 1, none⟩ = some (.slice A0_1 l0_1.length c0_1) := (blk_cell BK236.out 1).trans rfl
         have hcz32_2 : wr.cell? ⟨gb236, 2, none⟩ = some (.slice A0_2 l0_2.length c0_2) := (blk_cell BK236.out 2).trans rfl
         have hfz32_0 := blk_frozen BK236.out 0
         have hfz32_1 := blk_frozen BK236.out 1
         have hfz32_2 := blk_frozen BK236.out 2
         go_wp2
         go_meet
         case rel => exact ⟨_, (decide (x7_2 < 20)), (by first | rfl | (simp; done) | (simp [*]; done)), H', ⟨by have := HJ1.out; have := HK2.out; first | omega | exact Nat.le_refl _⟩, ⟨by (with_reducible repeat (first | apply Ra_ | apply Rn_ | apply Rd_)); exact HO_248000.out⟩, ⟨by (with_reducible repeat (first | apply Ra_ | apply Rn_ | apply Rd_)); exact HO_248001.out⟩, ⟨by (with_reducible repeat (first | apply Ra_ | apply Rn_ | apply Rd_)); exact HO_251000.out⟩, ⟨by (with_reducible repeat (first | apply Ra_ | apply Rn_ | apply Rd_)); exact HO_251001.out⟩, ⟨by (with_reducible repeat (first | refine bN_ ?_ _ | refine bD_ ?_ | refine bA_ ?_ _)); exact BK236.out⟩, ⟨by (with_reducible repeat (first | refine bN_ ?_ _ | refine bD_ ?_ | refine bA_ ?_ _)); exact BK247.out⟩, ⟨by (with_reducible repeat (first | refine bN_ ?_ _ | refine bD_ ?_ | refine bA_ ?_ _)); exact BK250.out⟩, ⟨by repeat (first | (with_reducible first | exact HB.out | apply bL_ | apply pN_ | apply b1_ | refine bs_ ?_ GE236.out | refine bs_ ?_ GE247.out | refine bs_ ?_ GE250.out) | exact HB.out)⟩⟩
        ·rw [if_neg c29] at H
         have c29b0 : decide (x7_2 < (l0_2.length : Int)) = false := decide_eq_false c29
         clear c29
         (first | rw [c29b0] | (simp only [i64_w, i32_w]; rw [c29b0]) | skip)
         have H' := mk0 H
         clear H
         have hnb33 := NB236_247.out
         have hnc33 := NB247_236.out
         have hnb34 := NB236_250.out
         have hnc34 := NB250_236.out
         have hcz35_0 : wr.cell? ⟨gb236, 0, none⟩ = some (.slice A0_0 l0_0.length c0_0) := (blk_cell BK236.out 0).trans rfl
         have hcz35_1 : wr.cell? ⟨gb236, 1, none⟩ = some (.slice A0_1 l0_1.length c0_1) := (blk_cell BK236.out 1).trans rfl
         have hcz35_2 : wr.cell? ⟨gb236, 2, none⟩ = some (.slice A0_2 l0_2.length c0_2) := (blk_cell BK236.out 2).trans rfl
         have hfz35_0 := blk_frozen BK236.out 0
         have hfz35_1 := blk_frozen BK236.out 1
         have hfz35_2 := blk_frozen BK236.out 2
         go_wp2
         go_meet
         case rel => exact ⟨_, (false), (by first | rfl | (simp; done) | (simp [*]; done)), H', ⟨by have := HJ1.out; have := HK2.out; first | omega | exact Nat.le_refl _⟩, ⟨by (with_reducible repeat (first | apply Ra_ | apply Rn_ | apply Rd_)); exact HO_248000.out⟩, ⟨by (with_reducible repeat (first | apply Ra_ | apply Rn_ | apply Rd_)); exact HO_248001.out⟩, ⟨by (with_reducible repeat (first | apply Ra_ | apply Rn_ | apply Rd_)); exact HO_251000.out⟩, ⟨by (with_reducible repeat (first | apply Ra_ | apply Rn_ | apply Rd_)); exact HO_251001.out⟩, ⟨by (with_reducible repeat (first | refine bN_ ?_ _ | refine bD_ ?_ | refine bA_ ?_ _)); exact BK236.out⟩, ⟨by (with_reducible repeat (first | refine bN_ ?_ _ | refine bD_ ?_ | refine bA_ ?_ _)); exact BK247.out⟩, ⟨by (with_reducible repeat (first | refine bN_ ?_ _ | refine bD_ ?_ | refine bA_ ?_ _)); exact BK250.out⟩, ⟨by repeat (first | (with_reducible first | exact HB.out | apply bL_ | apply pN_ | apply b1_ | refine bs_ ?_ GE236.out | refine bs_ ?_ GE247.out | refine bs_ ?_ GE250.out) | exact HB.out)⟩⟩
       case rest =>
        clear HC28
        try clear c1
        try clear c2
        try clear p2
        try clear c3
        try clear c4
        try clear c5
        try clear c13
        try clear c16
        try clear c16b0
        try clear c16b1
        try clear c21
        try clear c22
        try clear c24
        try clear c25
        try clear c26
        try clear c29
        try clear c29b0
        try clear c30
        try clear c31
        try clear c33
        try clear c34
        try clear hcz11_0
        try clear hcz11_1
        try clear hcz11_2
        try clear hcz17_0
        try clear hcz17_1
        try clear hcz17_2
        try clear hcz22_0
        try clear hcz22_1
        try clear hcz27_0
        try clear hcz27_1
        try clear hcz32_0
        try clear hcz32_1
        try clear hcz32_2
        try clear hcz35_0
        try clear hcz35_1
        try clear hcz35_2
        try clear hcz6_0
        try clear hcz6_1
        try clear hcz6_2
        try clear hcz9_0
        try clear hcz9_1
        try clear hcz9_2
        try clear hfz11_0
        try clear hfz11_1
        try clear hfz11_2
        try clear hfz17_0
        try clear hfz17_1
        try clear hfz17_2
        try clear hfz22_0
        try clear hfz22_1
        try clear hfz27_0
        try clear hfz27_1
        try clear hfz32_0
        try clear hfz32_1
        try clear hfz32_2
        try clear hfz35_0
        try clear hfz35_1
        try clear hfz35_2
        try clear hfz6_0
        try clear hfz6_1
        try clear hfz6_2
        try clear hfz9_0
        try clear hfz9_1
        try clear hfz9_2
        try clear p2
        obtain ⟨kq, x49_27, rfl, HA, HJ27, HO_248000, HO_248001, HO_251000, HO_251001, BK236, BK247, BK250, HB⟩ := hcut
        cases kq with
        | zero => exact absurd HA.out (by simp [quorumlaw10_PendBack.j2])
        | succ kj27 =>
         have H := HA.out
         clear HA
         simp only [quorumlaw10_PendBack.j2] at H
         by_cases c36 : x49_27 = true
         ·subst c36
          have H1 : (if (Int.tmod x7_2 3) = 0 then (quorumlaw10_PendBack.j3 kj27 t245 x7_2 ((Int.tmod x7_2 3) == 0) l0_0 l0_1 l0_2 t239 t242 x251000_2 x251001_2) else (quorumlaw10_PendBack.j3 kj27 t245 x7_2 ((Int.tmod x7_2 3) == 1) l0_0 l0_1 l0_2 t239 t242 x251000_2 x251001_2)) = some r := by rw [if_pos rfl] at H; exact H
          clear H
          have H := H1
          clear H1
          have HC37 := mk0 H
          clear H
          go_upto_block 2 with (first | ((with_reducible refine gate_dst (N := 8) rfl ?_); (try (refine gate_guard (by rfl) ?_; dsimp only)); refine box_event ?hg (N := 8) ?hd (cs := #[.slice none 0 0, .slice none 0 0]) (t := 44) ?hr ?_; (case hd => rfl); (case hg => rfl); (case hr => first | (go_simp; done) | (go_simp; rfl)); intro gb252 hg w38 hbox hb; have n0_ := mk0 (Kd.R_below (by (with_reducible repeat (first | apply Ra_ | apply Rn_ | apply Rd_)); exact HO_248000.out) hb); have n1_ := mk0 (Kd.R_below (by (with_reducible repeat (first | apply Ra_ | apply Rn_ | apply Rd_)); exact HO_248001.out) hb); have n2_ := mk0 (Kd.R_below (by (with_reducible repeat (first | apply Ra_ | apply Rn_ | apply Rd_)); exact HO_251000.out) hb); have n3_ := mk0 (Kd.R_below (by (with_reducible repeat (first | apply Ra_ | apply Rn_ | apply Rd_)); exact HO_251001.out) hb); have n4_ := mk0 (blk_below (g := gb236) (o := .cells #[.slice A0_0 l0_0.length c0_0, .slice A0_1 l0_1.length c0_1, .slice A0_2 l0_2.length c0_2] 47 (0, 0)) (by (with_reducible repeat (first | refine bN_ ?_ _ | refine bD_ ?_ | refine bA_ ?_ _)); exact BK236.out) hb); have n5_ := mk0 (blk_below (g := gb247) (o := .cells #[.slice Ao20 t239.length co20, .slice Ao23 t242.length co23] 44 (0, 0)) (by (with_reducible repeat (first | refine bN_ ?_ _ | refine bD_ ?_ | refine bA_ ?_ _)); exact BK247.out) hb); have n6_ := mk0 (blk_below (g := gb250) (o := .cells #[u251000, u251001] 44 (0, 0)) (by (with_reducible repeat (first | refine bN_ ?_ _ | refine bD_ ?_ | refine bA_ ?_ _)); exact BK250.out) hb); have n7_ := mk0 (bt_ (by repeat (first | (with_reducible first | exact HB.out | apply bL_ | apply pN_ | apply b1_ | refine bs_ ?_ GE236.out | refine bs_ ?_ GE247.out | refine bs_ ?_ GE250.out) | exact HB.out)) hb); have n8_ := mk0 (hbox); have n9_ := mk0 ((by rw [hg]; exact (bz_ (by repeat (first | (with_reducible first | exact HB.out | apply bL_ | apply pN_ | apply b1_ | refine bs_ ?_ GE236.out | refine bs_ ?_ GE247.out | refine bs_ ?_ GE250.out) | exact HB.out))) : w.heap.size ≤ gb252)); have n10_ := mk0 ((by rw [hg]; exact (bz_ (by repeat (first | (with_reducible first | exact HB.out | apply bL_ | apply pN_ | apply b1_ | refine bs_ ?_ GE236.out | refine bs_ ?_ GE247.out | refine bs_ ?_ GE250.out) | exact HB.out))) : w.heap.size ≤ gb252)); have n11_ := mk0 ((by rw [hg]; exact Nat.ne_of_lt (blk_lt (g := gb236) (o := .cells #[.slice A0_0 l0_0.length c0_0, .slice A0_1 l0_1.length c0_1, .slice A0_2 l0_2.length c0_2] 47 (0, 0)) (by (with_reducible repeat (first | refine bN_ ?_ _ | refine bD_ ?_ | refine bA_ ?_ _)); exact BK236.out)) : gb236 ≠ gb252)); have n12_ := mk0 ((by rw [hg]; exact Nat.ne_of_gt (blk_lt (g := gb236) (o := .cells #[.slice A0_0 l0_0.length c0_0, .slice A0_1 l0_1.length c0_1, .slice A0_2 l0_2.length c0_2] 47 (0, 0)) (by (with_reducible repeat (first | refine bN_ ?_ _ | refine bD_ ?_ | refine bA_ ?_ _)); exact BK236.out)) : gb252 ≠ gb236)); have n13_ := mk0 ((by rw [hg]; exact Nat.ne_of_lt (blk_lt (g := gb247) (o := .cells #[.slice Ao20 t239.length co20, .slice Ao23 t242.length co23] 44 (0, 0)) (by (with_reducible repeat (first | refine bN_ ?_ _ | refine bD_ ?_ | refine bA_ ?_ _)); exact BK247.out)) : gb247 ≠ gb252)); have n14_ := mk0 ((by rw [hg]; exact Nat.ne_of_gt (blk_lt (g := gb247) (o := .cells #[.slice Ao20 t239.length co20, .slice Ao23 t242.length co23] 44 (0, 0)) (by (with_reducible repeat (first | refine bN_ ?_ _ | refine bD_ ?_ | refine bA_ ?_ _)); exact BK247.out)) : gb252 ≠ gb247)); have n15_ := mk0 ((by rw [hg]; exact Nat.ne_of_lt (blk_lt (g := gb250) (o := .cells #[u251000, u251001] 44 (0, 0)) (by (with_reducible repeat (first | refine bN_ ?_ _ | refine bD_ ?_ | refine bA_ ?_ _)); exact BK250.out)) : gb250 ≠ gb252)); have n16_ := mk0 ((by rw [hg]; exact Nat.ne_of_gt (blk_lt (g := gb250) (o := .cells #[u251000, u251001] 44 (0, 0)) (by (with_reducible repeat (first | refine bN_ ?_ _ | refine bD_ ?_ | refine bA_ ?_ _)); exact BK250.out)) : gb252 ≠ gb250)); clear HO_248000; clear HO_248001; clear HO_251000; clear HO_251001; clear BK236; clear BK247; clear BK250; clear HB; have HO_248000 := n0_; have HO_248001 := n1_; have HO_251000 := n2_; have HO_251001 := n3_; have BK236 := n4_; have BK247 := n5_; have BK250 := n6_; have HB := n7_; have BK252 := n8_; have GW252 := n9_; have GE252 := n10_; have NB236_252 := n11_; have NB252_236 := n12_; have NB247_252 := n13_; have NB252_247 := n14_; have NB250_252 := n15_; have NB252_250 := n16_; clear n0_ n1_ n2_ n3_ n4_ n5_ n6_ n7_ n8_ n9_ n10_ n11_ n12_ n13_ n14_ n15_ n16_; clear hb hbox hg))
          (try simp only [Act.put, List.setIfInBounds_toArray, List.set_cons_zero, List.set_cons_succ])
          go_cut [9] (fun v9 wc => ∃ (kq : Nat) (x9_36 : Int) (x253000_36 : List (S55)) (x253001_36 : List Int) (u253000 : Value) (u253001 : Value), v9 = .int .i64 x9_36 ∧ Aside0 (quorumlaw10_PendBack.j4 kq t245 x7_2 x9_36 l0_0 l0_1 l0_2 t239 t242 x251000_2 x251001_2 x253000_36 x253001_36 = some r) ∧ Aside0 (kq ≤ kj27) ∧ Aside0 (Kd.R k55 55 wc w.heap.size (fun k_ => some k_ ≠ (u253000 : Value).ownBlock) (.slice Ao20 t239.length co20) t239) ∧ Aside0 (Kd.R (Kd.int .i64) 3 wc w.heap.size (fun k_ => some k_ ≠ (u253001 : Value).ownBlock) (.slice Ao23 t242.length co23) t242) ∧ Aside0 (Kd.R k55 55 wc w.heap.size (fun k_ => some k_ ≠ (u253000 : Value).ownBlock) u251000 x251000_2) ∧ Aside0 (Kd.R (Kd.int .i64) 3 wc w.heap.size (fun k_ => some k_ ≠ (u253001 : Value).ownBlock) u251001 x251001_2) ∧ Aside0 (Kd.R k55 55 wc w.heap.size (fun k_ => some k_ ≠ ((.slice Ao20 t239.length co20) : Value).ownBlock ∧ some k_ ≠ (u251000 : Value).ownBlock) u253000 x253000_36) ∧ Aside0 (Kd.R (Kd.int .i64) 3 wc w.heap.size (fun k_ => some k_ ≠ ((.slice Ao23 t242.length co23) : Value).ownBlock ∧ some k_ ≠ (u251001 : Value).ownBlock) u253001 x253001_36) ∧ Aside0 (wc.heap[gb236]? = some (.cells #[(.slice A0_0 l0_0.length c0_0), (.slice A0_1 l0_1.length c0_1), (.slice A0_2 l0_2.length c0_2)] 47 (0, 0))) ∧ Aside0 (wc.heap[gb247]? = some (.cells #[(.slice Ao20 t239.length co20), (.slice Ao23 t242.length co23)] 44 (0, 0))) ∧ Aside0 (wc.heap[gb250]? = some (.cells #[u251000, u251001] 44 (0, 0))) ∧ Aside0 (wc.heap[gb252]? = some (.cells #[u253000, u253001] 44 (0, 0))) ∧ Aside0 (Below w.heap.size w wc))
          case first =>
           have H := HC37.out
           clear HC37
           have HC39 := mk0 H
           clear H
           go_upto_if 60 with (fail)
           go_cut [60] (fun v60 wc => ∃ (kq : Nat) (x60_38 : Bool), v60 = .bool x60_38 ∧ Aside0 (quorumlaw10_PendBack.j3 kq t245 x7_2 x60_38 l0_0 l0_1 l0_2 t239 t242 x251000_2 x251001_2 = some r) ∧ Aside0 (kq ≤ kj27) ∧ Aside0 (Kd.R k55 55 wc w.heap.size (fun _ => True) (.slice Ao20 t239.length co20) t239) ∧ Aside0 (Kd.R (Kd.int .i64) 3 wc w.heap.size (fun _ => True) (.slice Ao23 t242.length co23) t242) ∧ Aside0 (Kd.R k55 55 wc w.heap.size (fun _ => True) u251000 x251000_2) ∧ Aside0 (Kd.R (Kd.int .i64) 3 wc w.heap.size (fun _ => True) u251001 x251001_2) ∧ Aside0 (wc.heap[gb236]? = some (.cells #[(.slice A0_0 l0_0.length c0_0), (.slice A0_1 l0_1.length c0_1), (.slice A0_2 l0_2.length c0_2)] 47 (0, 0))) ∧ Aside0 (wc.heap[gb247]? = some (.cells #[(.slice Ao20 t239.length co20), (.slice Ao23 t242.length co23)] 44 (0, 0))) ∧ Aside0 (wc.heap[gb250]? = some (.cells #[u251000, u251001] 44 (0, 0))) ∧ Aside0 (wc.heap[gb252]? = some (.cells #[(.slice none 0 0), (.slice none 0 0)] 44 (0, 0))) ∧ Aside0 (Below w.heap.size w wc))
           case first =>
            have H := HC39.out
            clear HC39
            by_cases c40 : (Int.tmod x7_2 3) = 0
            ·rw [if_pos c40] at H
             have c40b0 : ((Int.tmod x7_2 3) == 0) = true := beq_iff_eq.mpr c40
             have c40b1 : ((Int.tmod x7_2 3) != 0) = false := bne_eq_false_iff_eq.mpr c40
             clear c40
             (first | rw [c40b0] | (simp only [i64_w, i32_w]; rw [c40b0]) | skip)
             have H' := mk0 H
             clear H
             go_wp2
             go_meet
             case rel => exact ⟨_, (((Int.tmod x7_2 3) == 0)), (by first | rfl | (simp; done) | (simp [*]; done)), H', ⟨by have := HJ1.out; have := HK2.out; have := HJ27.out; first | omega | exact Nat.le_refl _⟩, ⟨by (with_reducible repeat (first | apply Ra_ | apply Rn_ | apply Rd_)); exact HO_248000.out⟩, ⟨by (with_reducible repeat (first | apply Ra_ | apply Rn_ | apply Rd_)); exact HO_248001.out⟩, ⟨by (with_reducible repeat (first | apply Ra_ | apply Rn_ | apply Rd_)); exact HO_251000.out⟩, ⟨by (with_reducible repeat (first | apply Ra_ | apply Rn_ | apply Rd_)); exact HO_251001.out⟩, ⟨by (with_reducible repeat (first | refine bN_ ?_ _ | refine bD_ ?_ | refine bA_ ?_ _)); exact BK236.out⟩, ⟨by (with_reducible repeat (first | refine bN_ ?_ _ | refine bD_ ?_ | refine bA_ ?_ _)); exact BK247.out⟩, ⟨by (with_reducible repeat (first | refine bN_ ?_ _ | refine bD_ ?_ | refine bA_ ?_ _)); exact BK250.out⟩, ⟨by (with_reducible repeat (first | refine bN_ ?_ _ | refine bD_ ?_ | refine bA_ ?_ _)); exact BK252.out⟩, ⟨by repeat (first | (with_reducible first | exact HB.out | apply bL_ | apply pN_ | apply b1_ | refine bs_ ?_ GE236.out | refine bs_ ?_ GE247.out | refine bs_ ?_ GE250.out | refine bs_ ?_ GE252.out) | exact HB.out)⟩⟩
            ·rw [if_neg c40] at H
             have c40b0 : ((Int.tmod x7_2 3) == 0) = false := beq_eq_false_iff_ne.mpr c40
             have c40b1 : ((Int.tmod x7_2 3) != 0) = true := bne_iff_ne.mpr c40
             (first | rw [c40b0] | (simp only [i64_w, i32_w]; rw [c40b0]) | skip)
             have H' := mk0 H
             clear H
             go_wp2
             go_meet
             case rel => exact ⟨_, (((Int.tmod x7_2 3) == 1)), (by first | rfl | (simp; done) | (simp [*]; done)), H', ⟨by have := HJ1.out; have := HK2.out; have := HJ27.out; first | omega | exact Nat.le_refl _⟩, ⟨by (with_reducible repeat (first | apply Ra_ | apply Rn_ | apply Rd_)); exact HO_248000.out⟩, ⟨by (with_reducible repeat (first | apply Ra_ | apply Rn_ | apply Rd_)); exact HO_248001.out⟩, ⟨by (with_reducible repeat (first | apply Ra_ | apply Rn_ | apply Rd_)); exact HO_251000.out⟩, ⟨by (with_reducible repeat (first | apply Ra_ | apply Rn_ | apply Rd_)); exact HO_251001.out⟩, ⟨by (with_reducible repeat (first | refine bN_ ?_ _ | refine bD_ ?_ | refine bA_ ?_ _)); exact BK236.out⟩, ⟨by (with_reducible repeat (first | refine bN_ ?_ _ | refine bD_ ?_ | refine bA_ ?_ _)); exact BK247.out⟩, ⟨by (with_reducible repeat (first | refine bN_ ?_ _ | refine bD_ ?_ | refine bA_ ?_ _)); exact BK250.out⟩, ⟨by (with_reducible repeat (first | refine bN_ ?_ _ | refine bD_ ?_ | refine bA_ ?_ _)); exact BK252.out⟩, ⟨by repeat (first | (with_reducible first | exact HB.out | apply bL_ | apply pN_ | apply b1_ | refine bs_ ?_ GE236.out | refine bs_ ?_ GE247.out | refine bs_ ?_ GE250.out | refine bs_ ?_ GE252.out) | exact HB.out)⟩⟩
           case rest =>
            clear HC39
            try clear c1
            try clear c2
            try clear p2
            try clear c3
            try clear c4
            try clear c5
            try clear c13
            try clear c16
            try clear c16b0
            try clear c16b1
            try clear c21
            try clear c22
            try clear c24
            try clear c25
            try clear c26
            try clear c29
            try clear c29b0
            try clear c30
            try clear c31
            try clear c33
            try clear c34
            try clear c36
            try clear c40
            try clear c40b0
            try clear c40b1
            try clear hcz11_0
            try clear hcz11_1
            try clear hcz11_2
            try clear hcz17_0
            try clear hcz17_1
            try clear hcz17_2
            try clear hcz22_0
            try clear hcz22_1
            try clear hcz27_0
            try clear hcz27_1
            try clear hcz32_0
            try clear hcz32_1
            try clear hcz32_2
            try clear hcz35_0
            try clear hcz35_1
            try clear hcz35_2
            try clear hcz6_0
            try clear hcz6_1
            try clear hcz6_2
            try clear hcz9_0
            try clear hcz9_1
            try clear hcz9_2
            try clear hfz11_0
            try clear hfz11_1
            try clear hfz11_2
            try clear hfz17_0
            try clear hfz17_1
            try clear hfz17_2
            try clear hfz22_0
            try clear hfz22_1
            try clear hfz27_0
            try clear hfz27_1
            try clear hfz32_0
            try clear hfz32_1
            try clear hfz32_2
            try clear hfz35_0
            try clear hfz35_1
            try clear hfz35_2
            try clear hfz6_0
            try clear hfz6_1
            try clear hfz6_2
            try clear hfz9_0
            try clear hfz9_1
            try clear hfz9_2
            try clear p2
            obtain ⟨kq, x60_38, rfl, HA, HJ38, HO_248000, HO_248001, HO_251000, HO_251001, BK236, BK247, BK250, BK252, HB⟩ := hcut
            cases kq with
            | zero => exact absurd HA.out (by simp [quorumlaw10_PendBack.j3])
            | succ kj38 =>
             have H := HA.out
             clear HA
             simp only [quorumlaw10_PendBack.j3] at H
             by_cases c41 : x60_38 = true
             ·subst c41
              have H1 : (if 0 ≤ x7_2 then (if x7_2 < (l0_2.length : Int) then ((pend_Put.f kj38 x251000_2 x251001_2 ((rd_T57 l0_2 x7_2).f2.f0) ((rd_T57 l0_2 x7_2).f2.f1) ((rd_T57 l0_2 x7_2).f2.f2) ((rd_T57 l0_2 x7_2).f2.f3)).bind fun bt254 => (quorumlaw10_PendBack.j4 kj38 t245 x7_2 bt254.2.2 l0_0 l0_1 l0_2 t239 t242 x251000_2 x251001_2 bt254.1 bt254.2.1)) else (none)) else (none)) = some r := by rw [if_pos rfl] at H; exact H
              clear H
              have H := H1
              clear H1
              by_cases c42 : 0 ≤ x7_2
              ·rw [if_pos c42] at H
               have c42b0 : decide (0 ≤ x7_2) = true := decide_eq_true c42
               clear c42
               by_cases c43 : x7_2 < (l0_2.length : Int)
               ·rw [if_pos c43] at H
                have c43b0 : decide (x7_2 < (l0_2.length : Int)) = true := decide_eq_true c43
                clear c43
                replace H := Option.bind_eq_some_iff.mp H
                obtain ⟨⟨t254, t257, t260⟩, A440, H⟩ := H
                replace H : (quorumlaw10_PendBack.j4 kj38 t245 x7_2 t260 l0_0 l0_1 l0_2 t239 t242 x251000_2 x251001_2 t254 t257) = some r := H
                have A44 := mk0 A440
                clear A440
                have H' := mk0 H
                clear H
                try go_wp2
                have n0_ := mk0 (Rd_ HO_248000.out)
                have n1_ := mk0 (Rd_ HO_248001.out)
                have n2_ := mk0 (Rd_ HO_251000.out)
                have n3_ := mk0 (Rd_ HO_251001.out)
                have n4_ := mk0 (bD_ BK236.out)
                have n5_ := mk0 (bD_ BK247.out)
                have n6_ := mk0 (bD_ BK250.out)
                have n7_ := mk0 (bD_ BK252.out)
                have n8_ := mk0 (b1_ HB.out)
                clear HO_248000
                clear HO_248001
                clear HO_251000
                clear HO_251001
                clear BK236
                clear BK247
                clear BK250
                clear BK252
                clear HB
                have HO_248000 := n0_
                have HO_248001 := n1_
                have HO_251000 := n2_
                have HO_251001 := n3_
                have BK236 := n4_
                have BK247 := n5_
                have BK250 := n6_
                have BK252 := n7_
                have HB := n8_
                clear n0_ n1_ n2_ n3_ n4_ n5_ n6_ n7_ n8_
                have p253 : 0 ≤ (x7_2 : Int) := of_decide_eq_true (by first | (with_reducible assumption) | assumption)
                have q253 : x7_2 < (l0_2.length : Int) := of_decide_eq_true (by first | (with_reducible assumption) | assumption)
                obtain ⟨ad253, e253, hx253_0, hx253_1, hx253_2, hx253_3, hx253_4, hx253_5⟩ := at_T57 HR0_2.out x7_2 p253 q253
                have hw253_5 := hx253_5
                have hw253_4 := hx253_4
                have hw253_3 := hx253_3
                have hw253_2 := hx253_2
                have hw253_1 := hx253_1
                have hw253_0 := hx253_0
                cases e253
                replace hx253_0 := (HB.out.cell (World.block_lt_of_cell? w _ hx253_0)).trans hx253_0
                replace hx253_1 := (HB.out.cell (World.block_lt_of_cell? w _ hx253_1)).trans hx253_1
                replace hx253_2 := (HB.out.cell (World.block_lt_of_cell? w _ hx253_2)).trans hx253_2
                replace hx253_3 := (HB.out.cell (World.block_lt_of_cell? w _ hx253_3)).trans hx253_3
                replace hx253_4 := (HB.out.cell (World.block_lt_of_cell? w _ hx253_4)).trans hx253_4
                replace hx253_5 := (HB.out.cell (World.block_lt_of_cell? w _ hx253_5)).trans hx253_5
                replace p253 := eq_true p253
                replace q253 := eq_true q253
                obtain ⟨Ao46, co46, eo46⟩ := Kd.R_slice HO_251000.out
                (first | subst eo46 | (injection eo46 with f1_ f2_ f3_; have f4_ := f1_.symm; have f5_ := f3_.symm; clear f1_ f2_ f3_; subst f4_; subst f5_))
                obtain ⟨Ao47, co47, eo47⟩ := Kd.R_slice HO_251001.out
                (first | subst eo47 | (injection eo47 with f1_ f2_ f3_; have f4_ := f1_.symm; have f5_ := f3_.symm; clear f1_ f2_ f3_; subst f4_; subst f5_))
                refine start_ (n := 13) (S := fun w' => w'.cell? ⟨gb250, 0, none⟩ = some (.slice Ao46 x251000_2.length co46) ∧ w'.cell? ⟨gb250, 1, none⟩ = some (.slice Ao47 x251001_2.length co47) ∧ w'.cell? ⟨gb236, 0, none⟩ = some (.slice A0_0 l0_0.length c0_0) ∧ w'.cell? ⟨gb236, 1, none⟩ = some (.slice A0_1 l0_1.length c0_1) ∧ w'.cell? ⟨gb236, 2, none⟩ = some (.slice (some ad253) l0_2.length c0_2) ∧ w'.cell? (ad253.add ((x7_2).toNat * 6)) = some (.int .i64 ((rd_T57 l0_2 x7_2).f0)) ∧ w'.cell? ⟨(ad253.add ((x7_2).toNat * 6)).block, (ad253.add ((x7_2).toNat * 6)).off + 1, none⟩ = some (.int .i64 ((rd_T57 l0_2 x7_2).f1)) ∧ w'.cell? ⟨(ad253.add ((x7_2).toNat * 6)).block, (ad253.add ((x7_2).toNat * 6)).off + 2, none⟩ = some (.int .i64 ((rd_T57 l0_2 x7_2).f2.f0)) ∧ w'.cell? ⟨(ad253.add ((x7_2).toNat * 6)).block, (ad253.add ((x7_2).toNat * 6)).off + 3, none⟩ = some (.string ((rd_T57 l0_2 x7_2).f2.f1)) ∧ w'.cell? ⟨(ad253.add ((x7_2).toNat * 6)).block, (ad253.add ((x7_2).toNat * 6)).off + 4, none⟩ = some (.string ((rd_T57 l0_2 x7_2).f2.f2)) ∧ w'.cell? ⟨(ad253.add ((x7_2).toNat * 6)).block, (ad253.add ((x7_2).toNat * 6)).off + 5, none⟩ = some (.bool ((rd_T57 l0_2 x7_2).f2.f3))) (ds := []) #[false, false, false, false, false, false, false, false, false, false, false, false, false] (by kernel_rfl) rfl rfl ⟨(blk_cell BK250.out 0).trans rfl, (blk_cell BK250.out 1).trans rfl, (blk_cell BK236.out 0).trans rfl, (blk_cell BK236.out 1).trans rfl, (blk_cell BK236.out 2).trans rfl, ((HB.out.cell (World.block_lt_of_cell? w _ hw253_0)).trans hw253_0), ((HB.out.cell (World.block_lt_of_cell? w _ hw253_1)).trans hw253_1), ((HB.out.cell (World.block_lt_of_cell? w _ hw253_2)).trans hw253_2), ((HB.out.cell (World.block_lt_of_cell? w _ hw253_3)).trans hw253_3), ((HB.out.cell (World.block_lt_of_cell? w _ hw253_4)).trans hw253_4), ((HB.out.cell (World.block_lt_of_cell? w _ hw253_5)).trans hw253_5)⟩ (fun hHeld => ?_); refine with_tabW quorumlaw10_PendBack.tab16 quorumlaw10_PendBack.bits16 (fun HT_ HW_ => ?_)
                generalize wc.drew = w45 at HO_248000 HO_248001 HO_251000 HO_251001 BK236 BK247 BK250 BK252 HB hx253_0 hx253_1 hx253_2 hx253_3 hx253_4 hx253_5 hHeld ⊢
                refine pure_ (i := 1) (N := some 65) (v := ?_) (a' := ?_) #[false, true, false, false, false, false, false, false, false, false, false, false, false] rfl rfl (any_of HT_.out (by kernel_rfl)) (fun _ _ _ h => h) (Or.inl ⟨by rfl, ?_⟩) ?_ ?_
                rotate_left
                ·intro w'
                 go_simp
                 with_reducible rfl
                rotate_left
                ·simp only [Act.put, List.setIfInBounds_toArray, List.set_cons_zero, List.set_cons_succ, i64_w, i32_w]
                 rfl
                refine pure_ (i := 3) (N := some 67) (v := ?_) (a' := ?_) #[false, true, false, true, false, false, false, false, false, false, false, false, false] rfl rfl (any_of HT_.out (by kernel_rfl)) (fun _ _ _ h => h) (Or.inl ⟨by rfl, ?_⟩) ?_ ?_
                rotate_left
                ·intro w'
                 go_simp
                 with_reducible rfl
                rotate_left
                ·simp only [Act.put, List.setIfInBounds_toArray, List.set_cons_zero, List.set_cons_succ, i64_w, i32_w]
                 rfl
                refine take_ (i := 0) (N := some 64) (v := ?_) (a' := ?_) #[true, true, false, true, false, false, false, false, false, false, false, false, false] rfl rfl (take_ofW HT_.out HW_.out (by kernel_rfl)) (fun _ _ _ h => h) (Or.inl ⟨by rfl, ?_⟩) hHeld ?_ ?_
                rotate_left
                ·rintro w' ⟨s0, s1, s2, s3, s4, s5, s6, s7, s8, s9, s10⟩
                 go_simp
                 with_reducible rfl
                rotate_left
                ·simp only [Act.put, List.setIfInBounds_toArray, List.set_cons_zero, List.set_cons_succ, i64_w, i32_w]
                 rfl
                refine take_ (i := 2) (N := some 66) (v := ?_) (a' := ?_) #[true, true, true, true, false, false, false, false, false, false, false, false, false] rfl rfl (take_ofW HT_.out HW_.out (by kernel_rfl)) (fun _ _ _ h => h) (Or.inl ⟨by rfl, ?_⟩) hHeld ?_ ?_
                rotate_left
                ·rintro w' ⟨s0, s1, s2, s3, s4, s5, s6, s7, s8, s9, s10⟩
                 go_simp
                 with_reducible rfl
                rotate_left
                ·simp only [Act.put, List.setIfInBounds_toArray, List.set_cons_zero, List.set_cons_succ, i64_w, i32_w]
                 rfl
                refine pure_ (i := 4) (N := some 68) (v := ?_) (a' := ?_) #[true, true, true, true, true, false, false, false, false, false, false, false, false] rfl rfl (any_of HT_.out (by kernel_rfl)) (fun _ _ _ h => h) (Or.inl ⟨by rfl, ?_⟩) ?_ ?_
                rotate_left
                ·intro w'
                 go_simp
                 with_reducible rfl
                rotate_left
                ·simp only [Act.put, List.setIfInBounds_toArray, List.set_cons_zero, List.set_cons_succ, i64_w, i32_w]
                 rfl
                refine pure_ (i := 5) (N := some 69) (v := ?_) (a' := ?_) #[true, true, true, true, true, true, false, false, false, false, false, false, false] rfl rfl (any_of HT_.out (by kernel_rfl)) (fun _ _ _ h => h) (Or.inl ⟨by rfl, ?_⟩) ?_ ?_
                rotate_left
                ·intro w'
                 go_simp
                 with_reducible rfl
                rotate_left
                ·simp only [Act.put, List.setIfInBounds_toArray, List.set_cons_zero, List.set_cons_succ, i64_w, i32_w]
                 rfl
                refine take_ (i := 6) (N := some 70) (v := ?_) (a' := ?_) #[true, true, true, true, true, true, true, false, false, false, false, false, false] rfl rfl (take_ofW HT_.out HW_.out (by kernel_rfl)) (fun _ _ _ h => h) (Or.inl ⟨by rfl, ?_⟩) hHeld ?_ ?_
                rotate_left
                ·rintro w' ⟨s0, s1, s2, s3, s4, s5, s6, s7, s8, s9, s10⟩
                 go_simp
                 with_reducible rfl
                rotate_left
                ·simp only [Act.put, List.setIfInBounds_toArray, List.set_cons_zero, List.set_cons_succ, i64_w, i32_w]
                 rfl
                refine one_ (i := 7) (N := some 71) #[true, true, true, true, true, true, true, true, false, false, false, false, false] rfl rfl (one_of HT_.out (by kernel_rfl)) (by decide) (fun K hK => ?_)
                refine goes_ Try.func27 (by kernel_rfl) rfl #[.agg #[.slice Ao46 x251000_2.length co46, .slice Ao47 x251001_2.length co47], .agg #[.int .i64 ((rd_T57 l0_2 x7_2).f2.f0), .string ((rd_T57 l0_2 x7_2).f2.f1), .string ((rd_T57 l0_2 x7_2).f2.f2), .bool ((rd_T57 l0_2 x7_2).f2.f3)]] (by rfl) rfl rfl (by (try simp only [List.map_toArray, List.map_cons, List.map_nil]); first | done | rfl | (simp only [List.length_drop, List.length_take]; rfl)) ?_
                with_reducible refine (pend_Put.calls kj38 _ _ x251000_2 _ _ x251001_2 ((rd_T57 l0_2 x7_2).f2.f0) ((rd_T57 l0_2 x7_2).f2.f1) ((rd_T57 l0_2 x7_2).f2.f2) ((rd_T57 l0_2 x7_2).f2.f3) t254 t257 t260 _ ?side1 ?side2 ?side3 ?side4 A44.out).mono ?_
                (case side1 => repeat (first | exact (Kd.R_reads' HO_251000.out).2.2 | (with_reducible refine Kd.C_alloc ?_ _) | (with_reducible refine Kd.C_drewN ?_ _) | (with_reducible refine Kd.C_drew ?_)))
                (case side2 => exact (Kd.R_reads' HO_251000.out).2.1)
                (case side3 => repeat (first | exact (Kd.R_reads' HO_251001.out).2.2 | (with_reducible refine Kd.C_alloc ?_ _) | (with_reducible refine Kd.C_drewN ?_ _) | (with_reducible refine Kd.C_drew ?_)))
                (case side4 => exact (Kd.R_reads' HO_251001.out).2.1)
                rintro e w48 ⟨v255, v258, rfl, ho0, ho1, hb⟩
                refine ⟨_, rfl, ?_⟩
                have n0_ := mk0 (Kd.R_elder' (by (with_reducible repeat (first | apply Ra_ | apply Rn_ | apply Rd_)); exact HO_248000.out) (Kd.R_base ho0) hb)
                have n1_ := mk0 (Kd.R_elder' (by (with_reducible repeat (first | apply Ra_ | apply Rn_ | apply Rd_)); exact HO_248001.out) (Kd.R_base ho1) hb)
                have n2_ := mk0 (Kd.R_elder' (by (with_reducible repeat (first | apply Ra_ | apply Rn_ | apply Rd_)); exact HO_251000.out) (Kd.R_base ho0) hb)
                have n3_ := mk0 (Kd.R_elder' (by (with_reducible repeat (first | apply Ra_ | apply Rn_ | apply Rd_)); exact HO_251001.out) (Kd.R_base ho1) hb)
                have n4_ := mk0 (Kd.R_lower (Kd.R_new' (Kd.R_new' ho0 (Kd.R_lt (by (with_reducible repeat (first | apply Ra_ | apply Rn_ | apply Rd_)); exact HO_248000.out))) (Kd.R_lt (by (with_reducible repeat (first | apply Ra_ | apply Rn_ | apply Rd_)); exact HO_251000.out))) (bz_ (by repeat (first | (with_reducible first | exact HB.out | apply bL_ | apply pN_ | apply b1_ | refine bs_ ?_ GE236.out | refine bs_ ?_ GE247.out | refine bs_ ?_ GE250.out | refine bs_ ?_ GE252.out) | exact HB.out))))
                have n5_ := mk0 (Kd.R_lower (Kd.R_new' (Kd.R_new' ho1 (Kd.R_lt (by (with_reducible repeat (first | apply Ra_ | apply Rn_ | apply Rd_)); exact HO_248001.out))) (Kd.R_lt (by (with_reducible repeat (first | apply Ra_ | apply Rn_ | apply Rd_)); exact HO_251001.out))) (bz_ (by repeat (first | (with_reducible first | exact HB.out | apply bL_ | apply pN_ | apply b1_ | refine bs_ ?_ GE236.out | refine bs_ ?_ GE247.out | refine bs_ ?_ GE250.out | refine bs_ ?_ GE252.out) | exact HB.out))))
                have n6_ := mk0 (blk_below (g := gb236) (o := .cells #[.slice A0_0 l0_0.length c0_0, .slice A0_1 l0_1.length c0_1, .slice (some ad253) l0_2.length c0_2] 47 (0, 0)) (by (with_reducible repeat (first | refine bN_ ?_ _ | refine bD_ ?_ | refine bA_ ?_ _)); exact BK236.out) hb)
                have n7_ := mk0 (blk_below (g := gb247) (o := .cells #[.slice Ao20 t239.length co20, .slice Ao23 t242.length co23] 44 (0, 0)) (by (with_reducible repeat (first | refine bN_ ?_ _ | refine bD_ ?_ | refine bA_ ?_ _)); exact BK247.out) hb)
                have n8_ := mk0 (blk_below (g := gb250) (o := .cells #[.slice Ao46 x251000_2.length co46, .slice Ao47 x251001_2.length co47] 44 (0, 0)) (by (with_reducible repeat (first | refine bN_ ?_ _ | refine bD_ ?_ | refine bA_ ?_ _)); exact BK250.out) hb)
                have n9_ := mk0 (blk_below (g := gb252) (o := .cells #[.slice none 0 0, .slice none 0 0] 44 (0, 0)) (by (with_reducible repeat (first | refine bN_ ?_ _ | refine bD_ ?_ | refine bA_ ?_ _)); exact BK252.out) hb)
                have n10_ := mk0 (bt_ (by repeat (first | (with_reducible first | exact HB.out | apply bL_ | apply pN_ | apply b1_ | refine bs_ ?_ GE236.out | refine bs_ ?_ GE247.out | refine bs_ ?_ GE250.out | refine bs_ ?_ GE252.out) | exact HB.out)) hb)
                clear HO_248000
                clear HO_248001
                clear HO_251000
                clear HO_251001
                clear BK236
                clear BK247
                clear BK250
                clear BK252
                clear HB
                have HO_248000 := n0_
                have HO_248001 := n1_
                have HO_251000 := n2_
                have HO_251001 := n3_
                have HO256 := n4_
                have HO259 := n5_
                have BK236 := n6_
                have BK247 := n7_
                have BK250 := n8_
                have BK252 := n9_
                have HB := n10_
                clear n0_ n1_ n2_ n3_ n4_ n5_ n6_ n7_ n8_ n9_ n10_
                (try clear hb)
                (try clear hb2)
                (try clear hk)
                (try clear hi)
                (try clear ho0)
                (try clear ho1)
                obtain ⟨Ao49, co49, eo49⟩ := Kd.R_slice HO256.out
                (first | subst eo49 | (injection eo49 with f1_ f2_ f3_; have f4_ := f1_.symm; have f5_ := f3_.symm; clear f1_ f2_ f3_; subst f4_; subst f5_))
                obtain ⟨Ao51, co51, eo51⟩ := Kd.R_slice HO259.out
                (first | subst eo51 | (injection eo51 with f1_ f2_ f3_; have f4_ := f1_.symm; have f5_ := f3_.symm; clear f1_ f2_ f3_; subst f4_; subst f5_))
                refine hK.out _ _ ⟨(blk_cell BK250.out 0).trans rfl, (blk_cell BK250.out 1).trans rfl, (blk_cell BK236.out 0).trans rfl, (blk_cell BK236.out 1).trans rfl, (blk_cell BK236.out 2).trans rfl, ((HB.out.cell (World.block_lt_of_cell? w _ hw253_0)).trans hw253_0), ((HB.out.cell (World.block_lt_of_cell? w _ hw253_1)).trans hw253_1), ((HB.out.cell (World.block_lt_of_cell? w _ hw253_2)).trans hw253_2), ((HB.out.cell (World.block_lt_of_cell? w _ hw253_3)).trans hw253_3), ((HB.out.cell (World.block_lt_of_cell? w _ hw253_4)).trans hw253_4), ((HB.out.cell (World.block_lt_of_cell? w _ hw253_5)).trans hw253_5)⟩ (fun hHeld => ?_)
                clear hK K
                refine norm_ (a' := ?_) ?_ ?_
                rotate_left
                ·show Act.put _ (some 71) _ = _
                 simp only [Act.put, List.setIfInBounds_toArray, List.set_cons_zero, List.set_cons_succ, i64_w, i32_w]
                 rfl
                refine pure_ (i := 8) (N := some 63) (v := ?_) (a' := ?_) #[true, true, true, true, true, true, true, true, true, false, false, false, false] rfl rfl (any_of HT_.out (by kernel_rfl)) (fun _ _ _ h => h) (Or.inl ⟨by rfl, ?_⟩) ?_ ?_
                rotate_left
                ·intro w'
                 go_simp
                 with_reducible rfl
                rotate_left
                ·simp only [Act.put, List.setIfInBounds_toArray, List.set_cons_zero, List.set_cons_succ, i64_w, i32_w]
                 rfl
                refine pure_ (i := 9) (N := some 72) (v := ?_) (a' := ?_) #[true, true, true, true, true, true, true, true, true, true, false, false, false] rfl rfl (any_of HT_.out (by kernel_rfl)) (fun _ _ _ h => h) (Or.inl ⟨by rfl, ?_⟩) ?_ ?_
                rotate_left
                ·intro w'
                 go_simp
                 with_reducible rfl
                rotate_left
                ·simp only [Act.put, List.setIfInBounds_toArray, List.set_cons_zero, List.set_cons_succ, i64_w, i32_w]
                 rfl
                refine pure_ (i := 10) (N := some 73) (v := ?_) (a' := ?_) #[true, true, true, true, true, true, true, true, true, true, true, false, false] rfl rfl (any_of HT_.out (by kernel_rfl)) (fun _ _ _ h => h) (Or.inl ⟨by rfl, ?_⟩) ?_ ?_
                rotate_left
                ·intro w'
                 go_simp
                 with_reducible rfl
                rotate_left
                ·simp only [Act.put, List.setIfInBounds_toArray, List.set_cons_zero, List.set_cons_succ, i64_w, i32_w]
                 rfl
                refine one_ (i := 11) (N := none) #[true, true, true, true, true, true, true, true, true, true, true, true, false] rfl rfl (one_of HT_.out (by kernel_rfl)) (by decide) (fun K hK => ?_)
                have hs50 : w48.cell? ⟨gb252, 0, none⟩ = some (.slice none 0 0) := (blk_cell BK252.out 0).trans rfl
                have hfs50 := blk_frozen BK252.out 0
                have hns50_0 := NB236_252.out
                have hns50_1 := NB247_252.out
                have hns50_2 := NB250_252.out
                have hms50_0 := NB252_236.out
                have hms50_1 := NB252_247.out
                have hms50_2 := NB252_250.out
                have hs52 : w48.cell? ⟨gb252, 1, none⟩ = some (.slice none 0 0) := (blk_cell BK252.out 1).trans rfl
                have hfs52 := blk_frozen BK252.out 1
                have hns52_0 := NB236_252.out
                have hns52_1 := NB247_252.out
                have hns52_2 := NB250_252.out
                have hms52_0 := NB252_236.out
                have hms52_1 := NB252_247.out
                have hms52_2 := NB252_250.out
                refine skip_ (w1 := ?_) (by rfl) rfl ?_ ?_
                rotate_left
                ·go_simp
                 rfl
                refine hK.out _ _ ⟨((cell_far (p := ⟨gb252, _, none⟩) NB250_252.out _).trans (((cell_far (p := ⟨gb252, _, none⟩) NB250_252.out _).trans (hHeld.1)))), ((cell_far (p := ⟨gb252, _, none⟩) NB250_252.out _).trans (((cell_far (p := ⟨gb252, _, none⟩) NB250_252.out _).trans (hHeld.2.1)))), ((cell_far (p := ⟨gb252, _, none⟩) NB236_252.out _).trans (((cell_far (p := ⟨gb252, _, none⟩) NB236_252.out _).trans (hHeld.2.2.1)))), ((cell_far (p := ⟨gb252, _, none⟩) NB236_252.out _).trans (((cell_far (p := ⟨gb252, _, none⟩) NB236_252.out _).trans (hHeld.2.2.2.1)))), ((cell_far (p := ⟨gb252, _, none⟩) NB236_252.out _).trans (((cell_far (p := ⟨gb252, _, none⟩) NB236_252.out _).trans (hHeld.2.2.2.2.1)))), ((cell_far (p := ⟨gb252, _, none⟩) (by first | exact Nat.ne_of_lt (Nat.lt_of_lt_of_le (by have := World.block_lt_of_cell? _ _ hw253_0; first | rwa [add_block] at this | exact this) GW252.out) | (rw [add_block]; exact Nat.ne_of_lt (Nat.lt_of_lt_of_le (by have := World.block_lt_of_cell? _ _ hw253_0; first | rwa [add_block] at this | exact this) GW252.out)) | (show (Addr.add _ _).block ≠ _; rw [add_block]; exact Nat.ne_of_lt (Nat.lt_of_lt_of_le (by have := World.block_lt_of_cell? _ _ hw253_0; first | rwa [add_block] at this | exact this) GW252.out)) | (dsimp only; exact Nat.ne_of_lt (Nat.lt_of_lt_of_le (by have := World.block_lt_of_cell? _ _ hw253_0; first | rwa [add_block] at this | exact this) GW252.out))) _).trans (((cell_far (p := ⟨gb252, _, none⟩) (by first | exact Nat.ne_of_lt (Nat.lt_of_lt_of_le (by have := World.block_lt_of_cell? _ _ hw253_0; first | rwa [add_block] at this | exact this) GW252.out) | (rw [add_block]; exact Nat.ne_of_lt (Nat.lt_of_lt_of_le (by have := World.block_lt_of_cell? _ _ hw253_0; first | rwa [add_block] at this | exact this) GW252.out)) | (show (Addr.add _ _).block ≠ _; rw [add_block]; exact Nat.ne_of_lt (Nat.lt_of_lt_of_le (by have := World.block_lt_of_cell? _ _ hw253_0; first | rwa [add_block] at this | exact this) GW252.out)) | (dsimp only; exact Nat.ne_of_lt (Nat.lt_of_lt_of_le (by have := World.block_lt_of_cell? _ _ hw253_0; first | rwa [add_block] at this | exact this) GW252.out))) _).trans (hHeld.2.2.2.2.2.1)))), ((cell_far (p := ⟨gb252, _, none⟩) (by first | exact Nat.ne_of_lt (Nat.lt_of_lt_of_le (by have := World.block_lt_of_cell? _ _ hw253_1; first | rwa [add_block] at this | exact this) GW252.out) | (rw [add_block]; exact Nat.ne_of_lt (Nat.lt_of_lt_of_le (by have := World.block_lt_of_cell? _ _ hw253_1; first | rwa [add_block] at this | exact this) GW252.out)) | (show (Addr.add _ _).block ≠ _; rw [add_block]; exact Nat.ne_of_lt (Nat.lt_of_lt_of_le (by have := World.block_lt_of_cell? _ _ hw253_1; first | rwa [add_block] at this | exact this) GW252.out)) | (dsimp only; exact Nat.ne_of_lt (Nat.lt_of_lt_of_le (by have := World.block_lt_of_cell? _ _ hw253_1; first | rwa [add_block] at this | exact this) GW252.out))) _).trans (((cell_far (p := ⟨gb252, _, none⟩) (by first | exact Nat.ne_of_lt (Nat.lt_of_lt_of_le (by have := World.block_lt_of_cell? _ _ hw253_1; first | rwa [add_block] at this | exact this) GW252.out) | (rw [add_block]; exact Nat.ne_of_lt (Nat.lt_of_lt_of_le (by have := World.block_lt_of_cell? _ _ hw253_1; first | rwa [add_block] at this | exact this) GW252.out)) | (show (Addr.add _ _).block ≠ _; rw [add_block]; exact Nat.ne_of_lt (Nat.lt_of_lt_of_le (by have := World.block_lt_of_cell? _ _ hw253_1; first | rwa [add_block] at this | exact this) GW252.out)) | (dsimp only; exact Nat.ne_of_lt (Nat.lt_of_lt_of_le (by have := World.block_lt_of_cell? _ _ hw253_1; first | rwa [add_block] at this | exact this) GW252.out))) _).trans (hHeld.2.2.2.2.2.2.1)))), ((cell_far (p := ⟨gb252, _, none⟩) (by first | exact Nat.ne_of_lt (Nat.lt_of_lt_of_le (by have := World.block_lt_of_cell? _ _ hw253_2; first | rwa [add_block] at this | exact this) GW252.out) | (rw [add_block]; exact Nat.ne_of_lt (Nat.lt_of_lt_of_le (by have := World.block_lt_of_cell? _ _ hw253_2; first | rwa [add_block] at this | exact this) GW252.out)) | (show (Addr.add _ _).block ≠ _; rw [add_block]; exact Nat.ne_of_lt (Nat.lt_of_lt_of_le (by have := World.block_lt_of_cell? _ _ hw253_2; first | rwa [add_block] at this | exact this) GW252.out)) | (dsimp only; exact Nat.ne_of_lt (Nat.lt_of_lt_of_le (by have := World.block_lt_of_cell? _ _ hw253_2; first | rwa [add_block] at this | exact this) GW252.out))) _).trans (((cell_far (p := ⟨gb252, _, none⟩) (by first | exact Nat.ne_of_lt (Nat.lt_of_lt_of_le (by have := World.block_lt_of_cell? _ _ hw253_2; first | rwa [add_block] at this | exact this) GW252.out) | (rw [add_block]; exact Nat.ne_of_lt (Nat.lt_of_lt_of_le (by have := World.block_lt_of_cell? _ _ hw253_2; first | rwa [add_block] at this | exact this) GW252.out)) | (show (Addr.add _ _).block ≠ _; rw [add_block]; exact Nat.ne_of_lt (Nat.lt_of_lt_of_le (by have := World.block_lt_of_cell? _ _ hw253_2; first | rwa [add_block] at this | exact this) GW252.out)) | (dsimp only; exact Nat.ne_of_lt (Nat.lt_of_lt_of_le (by have := World.block_lt_of_cell? _ _ hw253_2; first | rwa [add_block] at this | exact this) GW252.out))) _).trans (hHeld.2.2.2.2.2.2.2.1)))), ((cell_far (p := ⟨gb252, _, none⟩) (by first | exact Nat.ne_of_lt (Nat.lt_of_lt_of_le (by have := World.block_lt_of_cell? _ _ hw253_3; first | rwa [add_block] at this | exact this) GW252.out) | (rw [add_block]; exact Nat.ne_of_lt (Nat.lt_of_lt_of_le (by have := World.block_lt_of_cell? _ _ hw253_3; first | rwa [add_block] at this | exact this) GW252.out)) | (show (Addr.add _ _).block ≠ _; rw [add_block]; exact Nat.ne_of_lt (Nat.lt_of_lt_of_le (by have := World.block_lt_of_cell? _ _ hw253_3; first | rwa [add_block] at this | exact this) GW252.out)) | (dsimp only; exact Nat.ne_of_lt (Nat.lt_of_lt_of_le (by have := World.block_lt_of_cell? _ _ hw253_3; first | rwa [add_block] at this | exact this) GW252.out))) _).trans (((cell_far (p := ⟨gb252, _, none⟩) (by first | exact Nat.ne_of_lt (Nat.lt_of_lt_of_le (by have := World.block_lt_of_cell? _ _ hw253_3; first | rwa [add_block] at this | exact this) GW252.out) | (rw [add_block]; exact Nat.ne_of_lt (Nat.lt_of_lt_of_le (by have := World.block_lt_of_cell? _ _ hw253_3; first | rwa [add_block] at this | exact this) GW252.out)) | (show (Addr.add _ _).block ≠ _; rw [add_block]; exact Nat.ne_of_lt (Nat.lt_of_lt_of_le (by have := World.block_lt_of_cell? _ _ hw253_3; first | rwa [add_block] at this | exact this) GW252.out)) | (dsimp only; exact Nat.ne_of_lt (Nat.lt_of_lt_of_le (by have := World.block_lt_of_cell? _ _ hw253_3; first | rwa [add_block] at this | exact this) GW252.out))) _).trans (hHeld.2.2.2.2.2.2.2.2.1)))), ((cell_far (p := ⟨gb252, _, none⟩) (by first | exact Nat.ne_of_lt (Nat.lt_of_lt_of_le (by have := World.block_lt_of_cell? _ _ hw253_4; first | rwa [add_block] at this | exact this) GW252.out) | (rw [add_block]; exact Nat.ne_of_lt (Nat.lt_of_lt_of_le (by have := World.block_lt_of_cell? _ _ hw253_4; first | rwa [add_block] at this | exact this) GW252.out)) | (show (Addr.add _ _).block ≠ _; rw [add_block]; exact Nat.ne_of_lt (Nat.lt_of_lt_of_le (by have := World.block_lt_of_cell? _ _ hw253_4; first | rwa [add_block] at this | exact this) GW252.out)) | (dsimp only; exact Nat.ne_of_lt (Nat.lt_of_lt_of_le (by have := World.block_lt_of_cell? _ _ hw253_4; first | rwa [add_block] at this | exact this) GW252.out))) _).trans (((cell_far (p := ⟨gb252, _, none⟩) (by first | exact Nat.ne_of_lt (Nat.lt_of_lt_of_le (by have := World.block_lt_of_cell? _ _ hw253_4; first | rwa [add_block] at this | exact this) GW252.out) | (rw [add_block]; exact Nat.ne_of_lt (Nat.lt_of_lt_of_le (by have := World.block_lt_of_cell? _ _ hw253_4; first | rwa [add_block] at this | exact this) GW252.out)) | (show (Addr.add _ _).block ≠ _; rw [add_block]; exact Nat.ne_of_lt (Nat.lt_of_lt_of_le (by have := World.block_lt_of_cell? _ _ hw253_4; first | rwa [add_block] at this | exact this) GW252.out)) | (dsimp only; exact Nat.ne_of_lt (Nat.lt_of_lt_of_le (by have := World.block_lt_of_cell? _ _ hw253_4; first | rwa [add_block] at this | exact this) GW252.out))) _).trans (hHeld.2.2.2.2.2.2.2.2.2.1)))), ((cell_far (p := ⟨gb252, _, none⟩) (by first | exact Nat.ne_of_lt (Nat.lt_of_lt_of_le (by have := World.block_lt_of_cell? _ _ hw253_5; first | rwa [add_block] at this | exact this) GW252.out) | (rw [add_block]; exact Nat.ne_of_lt (Nat.lt_of_lt_of_le (by have := World.block_lt_of_cell? _ _ hw253_5; first | rwa [add_block] at this | exact this) GW252.out)) | (show (Addr.add _ _).block ≠ _; rw [add_block]; exact Nat.ne_of_lt (Nat.lt_of_lt_of_le (by have := World.block_lt_of_cell? _ _ hw253_5; first | rwa [add_block] at this | exact this) GW252.out)) | (dsimp only; exact Nat.ne_of_lt (Nat.lt_of_lt_of_le (by have := World.block_lt_of_cell? _ _ hw253_5; first | rwa [add_block] at this | exact this) GW252.out))) _).trans (((cell_far (p := ⟨gb252, _, none⟩) (by first | exact Nat.ne_of_lt (Nat.lt_of_lt_of_le (by have := World.block_lt_of_cell? _ _ hw253_5; first | rwa [add_block] at this | exact this) GW252.out) | (rw [add_block]; exact Nat.ne_of_lt (Nat.lt_of_lt_of_le (by have := World.block_lt_of_cell? _ _ hw253_5; first | rwa [add_block] at this | exact this) GW252.out)) | (show (Addr.add _ _).block ≠ _; rw [add_block]; exact Nat.ne_of_lt (Nat.lt_of_lt_of_le (by have := World.block_lt_of_cell? _ _ hw253_5; first | rwa [add_block] at this | exact this) GW252.out)) | (dsimp only; exact Nat.ne_of_lt (Nat.lt_of_lt_of_le (by have := World.block_lt_of_cell? _ _ hw253_5; first | rwa [add_block] at this | exact this) GW252.out))) _).trans (hHeld.2.2.2.2.2.2.2.2.2.2))))⟩ (fun hHeld => ?_)
                clear hK K
                refine pure_ (i := 12) (N := some 9) (v := ?_) (a' := ?_) #[true, true, true, true, true, true, true, true, true, true, true, true, true] rfl rfl (any_of HT_.out (by kernel_rfl)) (fun _ _ _ h => h) (Or.inl ⟨by rfl, ?_⟩) ?_ ?_
                rotate_left
                ·intro w'
                 go_simp
                 with_reducible rfl
                rotate_left
                ·simp only [Act.put, List.setIfInBounds_toArray, List.set_cons_zero, List.set_cons_succ, i64_w, i32_w]
                 rfl
                refine done_ (done_of HT_.out (by kernel_rfl)) ?_
                try go_wp2
                go_meet
                case rel => exact ⟨_, (t260), (t254), (t257), (.slice Ao49 t254.length co49), (.slice Ao51 t257.length co51), (by first | rfl | (simp; done) | (simp [*]; done)), H', ⟨by have := HJ1.out; have := HK2.out; have := HJ27.out; have := HJ38.out; first | omega | exact Nat.le_refl _⟩, ⟨by (with_reducible repeat (first | apply Ra_ | apply Rn_ | apply Rd_)); exact Kd.R_mono (Kd.R_far (p := ⟨gb252, 1, none⟩) (Kd.R_far (p := ⟨gb252, 0, none⟩) (Kd.R_types HO_248000.out BK252.out (by decide)) (fun _ hk => hk.2) (.slice Ao49 t254.length co49)) (fun _ hk => hk.2) (.slice Ao51 t257.length co51)) (fun _ hk => hk.1.2)⟩, ⟨by (with_reducible repeat (first | apply Ra_ | apply Rn_ | apply Rd_)); exact Kd.R_mono (Kd.R_far (p := ⟨gb252, 1, none⟩) (Kd.R_far (p := ⟨gb252, 0, none⟩) (Kd.R_types HO_248001.out BK252.out (by decide)) (fun _ hk => hk.2) (.slice Ao49 t254.length co49)) (fun _ hk => hk.2) (.slice Ao51 t257.length co51)) (fun _ hk => hk.1.2)⟩, ⟨by (with_reducible repeat (first | apply Ra_ | apply Rn_ | apply Rd_)); exact Kd.R_mono (Kd.R_far (p := ⟨gb252, 1, none⟩) (Kd.R_far (p := ⟨gb252, 0, none⟩) (Kd.R_types HO_251000.out BK252.out (by decide)) (fun _ hk => hk.2) (.slice Ao49 t254.length co49)) (fun _ hk => hk.2) (.slice Ao51 t257.length co51)) (fun _ hk => hk.1.2)⟩, ⟨by (with_reducible repeat (first | apply Ra_ | apply Rn_ | apply Rd_)); exact Kd.R_mono (Kd.R_far (p := ⟨gb252, 1, none⟩) (Kd.R_far (p := ⟨gb252, 0, none⟩) (Kd.R_types HO_251001.out BK252.out (by decide)) (fun _ hk => hk.2) (.slice Ao49 t254.length co49)) (fun _ hk => hk.2) (.slice Ao51 t257.length co51)) (fun _ hk => hk.1.2)⟩, ⟨by (with_reducible repeat (first | apply Ra_ | apply Rn_ | apply Rd_)); exact Kd.R_mono (Kd.R_far (p := ⟨gb252, 1, none⟩) (Kd.R_far (p := ⟨gb252, 0, none⟩) (Kd.R_types HO256.out BK252.out (by decide)) (fun _ hk => hk.2) (.slice Ao49 t254.length co49)) (fun _ hk => hk.2) (.slice Ao51 t257.length co51)) (fun _ hk => ⟨hk.1.1.2, hk.1.2⟩)⟩, ⟨by (with_reducible repeat (first | apply Ra_ | apply Rn_ | apply Rd_)); exact Kd.R_mono (Kd.R_far (p := ⟨gb252, 1, none⟩) (Kd.R_far (p := ⟨gb252, 0, none⟩) (Kd.R_types HO259.out BK252.out (by decide)) (fun _ hk => hk.2) (.slice Ao49 t254.length co49)) (fun _ hk => hk.2) (.slice Ao51 t257.length co51)) (fun _ hk => ⟨hk.1.1.2, hk.1.2⟩)⟩, ⟨by (with_reducible repeat (first | refine bN_ ?_ _ | refine bD_ ?_ | refine bA_ ?_ _)); refine blk_far ?_ NB236_252.out _; (with_reducible repeat (first | refine bN_ ?_ _ | refine bD_ ?_ | refine bA_ ?_ _)); refine blk_far ?_ NB236_252.out _; (with_reducible repeat (first | refine bN_ ?_ _ | refine bD_ ?_ | refine bA_ ?_ _)); exact BK236.out⟩, ⟨by (with_reducible repeat (first | refine bN_ ?_ _ | refine bD_ ?_ | refine bA_ ?_ _)); refine blk_far ?_ NB247_252.out _; (with_reducible repeat (first | refine bN_ ?_ _ | refine bD_ ?_ | refine bA_ ?_ _)); refine blk_far ?_ NB247_252.out _; (with_reducible repeat (first | refine bN_ ?_ _ | refine bD_ ?_ | refine bA_ ?_ _)); exact BK247.out⟩, ⟨by (with_reducible repeat (first | refine bN_ ?_ _ | refine bD_ ?_ | refine bA_ ?_ _)); refine blk_far ?_ NB250_252.out _; (with_reducible repeat (first | refine bN_ ?_ _ | refine bD_ ?_ | refine bA_ ?_ _)); refine blk_far ?_ NB250_252.out _; (with_reducible repeat (first | refine bN_ ?_ _ | refine bD_ ?_ | refine bA_ ?_ _)); exact BK250.out⟩, ⟨by (with_reducible repeat (first | refine bN_ ?_ _ | refine bD_ ?_ | refine bA_ ?_ _)); refine blk_put (cs := #[.slice Ao49 t254.length co49, .slice none 0 0]) ?_ 1 _ rfl; (with_reducible repeat (first | refine bN_ ?_ _ | refine bD_ ?_ | refine bA_ ?_ _)); refine blk_put (cs := #[.slice none 0 0, .slice none 0 0]) ?_ 0 _ rfl; (with_reducible repeat (first | refine bN_ ?_ _ | refine bD_ ?_ | refine bA_ ?_ _)); exact BK252.out⟩, ⟨by repeat (first | (with_reducible first | exact HB.out | apply bL_ | apply pN_ | apply b1_ | refine bs_ ?_ GE236.out | refine bs_ ?_ GE247.out | refine bs_ ?_ GE250.out | refine bs_ ?_ GE252.out) | exact HB.out)⟩⟩
               ·rw [if_neg c43] at H
                exact absurd H (by simp)
              ·rw [if_neg c42] at H
               exact absurd H (by simp)
             ·replace c41 := Bool.eq_false_iff.mpr c41
              subst c41
              have H1 : ((pend_Save.f kj38 x251000_2 x251001_2).bind fun bt261 => (quorumlaw10_PendBack.j4 kj38 t245 x7_2 bt261.2.2.2 l0_0 l0_1 l0_2 t239 t242 x251000_2 x251001_2 bt261.1 bt261.2.1)) = some r := by rw [if_neg (show ¬ (false = true) by decide)] at H; exact H
              clear H
              have H := H1
              clear H1
              replace H := Option.bind_eq_some_iff.mp H
              obtain ⟨⟨t261, t264, t267, t268⟩, A530, H⟩ := H
              replace H : (quorumlaw10_PendBack.j4 kj38 t245 x7_2 t268 l0_0 l0_1 l0_2 t239 t242 x251000_2 x251001_2 t261 t264) = some r := H
              have A53 := mk0 A530
              clear A530
              have H' := mk0 H
              clear H
              have hnb54 := NB250_236.out
              have hnc54 := NB236_250.out
              have hnb55 := NB250_247.out
              have hnc55 := NB247_250.out
              have hnb56 := NB250_252.out
              have hnc56 := NB252_250.out
              have hcz57_0 : wc.cell? ⟨gb250, 0, none⟩ = some (u251000) := (blk_cell BK250.out 0).trans rfl
              have hcz57_1 : wc.cell? ⟨gb250, 1, none⟩ = some (u251001) := (blk_cell BK250.out 1).trans rfl
              have hfz57_0 := blk_frozen BK250.out 0
              have hfz57_1 := blk_frozen BK250.out 1
              obtain ⟨Ao58, co58, eo58⟩ := Kd.R_slice HO_251000.out
              subst eo58
              obtain ⟨Ao59, co59, eo59⟩ := Kd.R_slice HO_251001.out
              subst eo59
              go_wp2_with (first | ((with_reducible refine gate_callee (f := 24) rfl ?_); refine goesL_ (some 56) rfl rfl Try.func24 (by kernel_rfl) rfl #[.agg #[.slice Ao58 x251000_2.length co58, .slice Ao59 x251001_2.length co59]] rfl (by (try simp only [List.map_toArray, List.map_cons, List.map_nil]); first | done | rfl | (simp only [List.length_drop, List.length_take]; rfl)) ?_; (with_reducible refine (pend_Save.calls kj38 _ _ x251000_2 _ _ x251001_2 t261 t264 t267 t268 _ ?side1 ?side2 ?side3 ?side4 A53.out).mono ?_); (case side1 => repeat (first | exact (Kd.R_reads' HO_251000.out).2.2 | (with_reducible refine Kd.C_alloc ?_ _) | (with_reducible refine Kd.C_drewN ?_ _) | (with_reducible refine Kd.C_drew ?_))); (case side2 => exact (Kd.R_reads' HO_251000.out).2.1); (case side3 => repeat (first | exact (Kd.R_reads' HO_251001.out).2.2 | (with_reducible refine Kd.C_alloc ?_ _) | (with_reducible refine Kd.C_drewN ?_ _) | (with_reducible refine Kd.C_drew ?_))); (case side4 => exact (Kd.R_reads' HO_251001.out).2.1); rintro e w60 ⟨v262, v265, rfl, ho0, ho1, hb⟩; refine ⟨_, rfl, ?_⟩; have n0_ := mk0 (Kd.R_elder' (by (with_reducible repeat (first | apply Ra_ | apply Rn_ | apply Rd_)); exact HO_248000.out) (Kd.R_base ho0) hb); have n1_ := mk0 (Kd.R_elder' (by (with_reducible repeat (first | apply Ra_ | apply Rn_ | apply Rd_)); exact HO_248001.out) (Kd.R_base ho1) hb); have n2_ := mk0 (Kd.R_elder' (by (with_reducible repeat (first | apply Ra_ | apply Rn_ | apply Rd_)); exact HO_251000.out) (Kd.R_base ho0) hb); have n3_ := mk0 (Kd.R_elder' (by (with_reducible repeat (first | apply Ra_ | apply Rn_ | apply Rd_)); exact HO_251001.out) (Kd.R_base ho1) hb); have n4_ := mk0 (Kd.R_lower (Kd.R_new' (Kd.R_new' ho0 (Kd.R_lt (by (with_reducible repeat (first | apply Ra_ | apply Rn_ | apply Rd_)); exact HO_248000.out))) (Kd.R_lt (by (with_reducible repeat (first | apply Ra_ | apply Rn_ | apply Rd_)); exact HO_251000.out))) (bz_ (by repeat (first | (with_reducible first | exact HB.out | apply bL_ | apply pN_ | apply b1_ | refine bs_ ?_ GE236.out | refine bs_ ?_ GE247.out | refine bs_ ?_ GE250.out | refine bs_ ?_ GE252.out) | exact HB.out)))); have n5_ := mk0 (Kd.R_lower (Kd.R_new' (Kd.R_new' ho1 (Kd.R_lt (by (with_reducible repeat (first | apply Ra_ | apply Rn_ | apply Rd_)); exact HO_248001.out))) (Kd.R_lt (by (with_reducible repeat (first | apply Ra_ | apply Rn_ | apply Rd_)); exact HO_251001.out))) (bz_ (by repeat (first | (with_reducible first | exact HB.out | apply bL_ | apply pN_ | apply b1_ | refine bs_ ?_ GE236.out | refine bs_ ?_ GE247.out | refine bs_ ?_ GE250.out | refine bs_ ?_ GE252.out) | exact HB.out)))); have n6_ := mk0 (blk_below (g := gb236) (o := .cells #[.slice A0_0 l0_0.length c0_0, .slice A0_1 l0_1.length c0_1, .slice A0_2 l0_2.length c0_2] 47 (0, 0)) (by (with_reducible repeat (first | refine bN_ ?_ _ | refine bD_ ?_ | refine bA_ ?_ _)); exact BK236.out) hb); have n7_ := mk0 (blk_below (g := gb247) (o := .cells #[.slice Ao20 t239.length co20, .slice Ao23 t242.length co23] 44 (0, 0)) (by (with_reducible repeat (first | refine bN_ ?_ _ | refine bD_ ?_ | refine bA_ ?_ _)); exact BK247.out) hb); have n8_ := mk0 (blk_below (g := gb250) (o := .cells #[.slice Ao58 x251000_2.length co58, .slice Ao59 x251001_2.length co59] 44 (0, 0)) (by (with_reducible repeat (first | refine bN_ ?_ _ | refine bD_ ?_ | refine bA_ ?_ _)); exact BK250.out) hb); have n9_ := mk0 (blk_below (g := gb252) (o := .cells #[.slice none 0 0, .slice none 0 0] 44 (0, 0)) (by (with_reducible repeat (first | refine bN_ ?_ _ | refine bD_ ?_ | refine bA_ ?_ _)); exact BK252.out) hb); have n10_ := mk0 (bt_ (by repeat (first | (with_reducible first | exact HB.out | apply bL_ | apply pN_ | apply b1_ | refine bs_ ?_ GE236.out | refine bs_ ?_ GE247.out | refine bs_ ?_ GE250.out | refine bs_ ?_ GE252.out) | exact HB.out)) hb); clear HO_248000; clear HO_248001; clear HO_251000; clear HO_251001; clear BK236; clear BK247; clear BK250; clear BK252; clear HB; have HO_248000 := n0_; have HO_248001 := n1_; have HO_251000 := n2_; have HO_251001 := n3_; have HO263 := n4_; have HO266 := n5_; have BK236 := n6_; have BK247 := n7_; have BK250 := n8_; have BK252 := n9_; have HB := n10_; clear n0_ n1_ n2_ n3_ n4_ n5_ n6_ n7_ n8_ n9_ n10_; (try clear hb); (try clear hb2); (try clear hk); (try clear hi); (try clear ho0); (try clear ho1); obtain ⟨Ao61, co61, eo61⟩ := Kd.R_slice HO263.out; subst eo61; have hnb62 := NB252_236.out; have hnc62 := NB236_252.out; have hnb63 := NB252_247.out; have hnc63 := NB247_252.out; have hcz64_0 : w60.cell? ⟨gb252, 0, none⟩ = some (.slice none 0 0) := (blk_cell BK252.out 0).trans rfl; have hcz64_1 : w60.cell? ⟨gb252, 1, none⟩ = some (.slice none 0 0) := (blk_cell BK252.out 1).trans rfl; have hfz64_0 := blk_frozen BK252.out 0; have hfz64_1 := blk_frozen BK252.out 1; obtain ⟨Ao65, co65, eo65⟩ := Kd.R_slice HO266.out; subst eo65))
              go_meet
              case rel => exact ⟨_, (t268), (t261), (t264), (.slice Ao61 t261.length co61), (.slice Ao65 t264.length co65), (by first | rfl | (simp; done) | (simp [*]; done)), H', ⟨by have := HJ1.out; have := HK2.out; have := HJ27.out; have := HJ38.out; first | omega | exact Nat.le_refl _⟩, ⟨by (with_reducible repeat (first | apply Ra_ | apply Rn_ | apply Rd_)); exact Kd.R_mono (Kd.R_far (p := ⟨gb252, 1, none⟩) (Kd.R_far (p := ⟨gb252, 0, none⟩) (Kd.R_types HO_248000.out BK252.out (by decide)) (fun _ hk => hk.2) (.slice Ao61 t261.length co61)) (fun _ hk => hk.2) (.slice Ao65 t264.length co65)) (fun _ hk => hk.1.2)⟩, ⟨by (with_reducible repeat (first | apply Ra_ | apply Rn_ | apply Rd_)); exact Kd.R_mono (Kd.R_far (p := ⟨gb252, 1, none⟩) (Kd.R_far (p := ⟨gb252, 0, none⟩) (Kd.R_types HO_248001.out BK252.out (by decide)) (fun _ hk => hk.2) (.slice Ao61 t261.length co61)) (fun _ hk => hk.2) (.slice Ao65 t264.length co65)) (fun _ hk => hk.1.2)⟩, ⟨by (with_reducible repeat (first | apply Ra_ | apply Rn_ | apply Rd_)); exact Kd.R_mono (Kd.R_far (p := ⟨gb252, 1, none⟩) (Kd.R_far (p := ⟨gb252, 0, none⟩) (Kd.R_types HO_251000.out BK252.out (by decide)) (fun _ hk => hk.2) (.slice Ao61 t261.length co61)) (fun _ hk => hk.2) (.slice Ao65 t264.length co65)) (fun _ hk => hk.1.2)⟩, ⟨by (with_reducible repeat (first | apply Ra_ | apply Rn_ | apply Rd_)); exact Kd.R_mono (Kd.R_far (p := ⟨gb252, 1, none⟩) (Kd.R_far (p := ⟨gb252, 0, none⟩) (Kd.R_types HO_251001.out BK252.out (by decide)) (fun _ hk => hk.2) (.slice Ao61 t261.length co61)) (fun _ hk => hk.2) (.slice Ao65 t264.length co65)) (fun _ hk => hk.1.2)⟩, ⟨by (with_reducible repeat (first | apply Ra_ | apply Rn_ | apply Rd_)); exact Kd.R_mono (Kd.R_far (p := ⟨gb252, 1, none⟩) (Kd.R_far (p := ⟨gb252, 0, none⟩) (Kd.R_types HO263.out BK252.out (by decide)) (fun _ hk => hk.2) (.slice Ao61 t261.length co61)) (fun _ hk => hk.2) (.slice Ao65 t264.length co65)) (fun _ hk => ⟨hk.1.1.2, hk.1.2⟩)⟩, ⟨by (with_reducible repeat (first | apply Ra_ | apply Rn_ | apply Rd_)); exact Kd.R_mono (Kd.R_far (p := ⟨gb252, 1, none⟩) (Kd.R_far (p := ⟨gb252, 0, none⟩) (Kd.R_types HO266.out BK252.out (by decide)) (fun _ hk => hk.2) (.slice Ao61 t261.length co61)) (fun _ hk => hk.2) (.slice Ao65 t264.length co65)) (fun _ hk => ⟨hk.1.1.2, hk.1.2⟩)⟩, ⟨by (with_reducible repeat (first | refine bN_ ?_ _ | refine bD_ ?_ | refine bA_ ?_ _)); refine blk_far ?_ NB236_252.out _; (with_reducible repeat (first | refine bN_ ?_ _ | refine bD_ ?_ | refine bA_ ?_ _)); refine blk_far ?_ NB236_252.out _; (with_reducible repeat (first | refine bN_ ?_ _ | refine bD_ ?_ | refine bA_ ?_ _)); exact BK236.out⟩, ⟨by (with_reducible repeat (first | refine bN_ ?_ _ | refine bD_ ?_ | refine bA_ ?_ _)); refine blk_far ?_ NB247_252.out _; (with_reducible repeat (first | refine bN_ ?_ _ | refine bD_ ?_ | refine bA_ ?_ _)); refine blk_far ?_ NB247_252.out _; (with_reducible repeat (first | refine bN_ ?_ _ | refine bD_ ?_ | refine bA_ ?_ _)); exact BK247.out⟩, ⟨by (with_reducible repeat (first | refine bN_ ?_ _ | refine bD_ ?_ | refine bA_ ?_ _)); refine blk_far ?_ NB250_252.out _; (with_reducible repeat (first | refine bN_ ?_ _ | refine bD_ ?_ | refine bA_ ?_ _)); refine blk_far ?_ NB250_252.out _; (with_reducible repeat (first | refine bN_ ?_ _ | refine bD_ ?_ | refine bA_ ?_ _)); exact BK250.out⟩, ⟨by (with_reducible repeat (first | refine bN_ ?_ _ | refine bD_ ?_ | refine bA_ ?_ _)); refine blk_put (cs := #[.slice Ao61 t261.length co61, .slice none 0 0]) ?_ 1 _ rfl; (with_reducible repeat (first | refine bN_ ?_ _ | refine bD_ ?_ | refine bA_ ?_ _)); refine blk_put (cs := #[.slice none 0 0, .slice none 0 0]) ?_ 0 _ rfl; (with_reducible repeat (first | refine bN_ ?_ _ | refine bD_ ?_ | refine bA_ ?_ _)); exact BK252.out⟩, ⟨by repeat (first | (with_reducible first | exact HB.out | apply bL_ | apply pN_ | apply b1_ | refine bs_ ?_ GE236.out | refine bs_ ?_ GE247.out | refine bs_ ?_ GE250.out | refine bs_ ?_ GE252.out) | exact HB.out)⟩⟩
          case rest =>
           clear HC37
           try clear c1
           try clear c2
           try clear p2
           try clear q2
           try clear hx2
           try clear c3
           try clear c4
           try clear c5
           try clear c6
           try clear c13
           try clear c16
           try clear c16b0
           try clear c16b1
           try clear c21
           try clear c22
           try clear c24
           try clear c25
           try clear p25
           try clear q25
           try clear hx25
           try clear c26
           try clear c27
           try clear c29
           try clear c29b0
           try clear c30
           try clear c31
           try clear c33
           try clear c34
           try clear c36
           try clear c40
           try clear c40b0
           try clear c40b1
           try clear c41
           try clear c42
           try clear c42b0
           try clear c43
           try clear c43b0
           try clear c54
           try clear c55
           try clear c56
           try clear c62
           try clear c63
           try clear hcz11_0
           try clear hcz11_1
           try clear hcz11_2
           try clear hcz17_0
           try clear hcz17_1
           try clear hcz17_2
           try clear hcz22_0
           try clear hcz22_1
           try clear hcz27_0
           try clear hcz27_1
           try clear hcz32_0
           try clear hcz32_1
           try clear hcz32_2
           try clear hcz35_0
           try clear hcz35_1
           try clear hcz35_2
           try clear hcz57_0
           try clear hcz57_1
           try clear hcz64_0
           try clear hcz64_1
           try clear hcz6_0
           try clear hcz6_1
           try clear hcz6_2
           try clear hcz9_0
           try clear hcz9_1
           try clear hcz9_2
           try clear hfz11_0
           try clear hfz11_1
           try clear hfz11_2
           try clear hfz17_0
           try clear hfz17_1
           try clear hfz17_2
           try clear hfz22_0
           try clear hfz22_1
           try clear hfz27_0
           try clear hfz27_1
           try clear hfz32_0
           try clear hfz32_1
           try clear hfz32_2
           try clear hfz35_0
           try clear hfz35_1
           try clear hfz35_2
           try clear hfz57_0
           try clear hfz57_1
           try clear hfz64_0
           try clear hfz64_1
           try clear hfz6_0
           try clear hfz6_1
           try clear hfz6_2
           try clear hfz9_0
           try clear hfz9_1
           try clear hfz9_2
           try clear hx253_0
           try clear hx253_1
           try clear hx253_2
           try clear hx253_3
           try clear hx253_4
           try clear hx253_5
           try clear p2
           try clear p253
           try clear q253
           obtain ⟨kq, x9_36, x253000_36, x253001_36, u253000, u253001, rfl, HA, HJ36, HO_248000, HO_248001, HO_251000, HO_251001, HO_253000, HO_253001, BK236, BK247, BK250, BK252, HB⟩ := hcut
           cases kq with
           | zero => exact absurd HA.out (by simp [quorumlaw10_PendBack.j4])
           | succ kj36 =>
            have H := HA.out
            clear HA
            simp only [quorumlaw10_PendBack.j4] at H
            replace H := Option.bind_eq_some_iff.mp H
            obtain ⟨t269, A660, H⟩ := H
            replace H : (if t269 = 0 then (if 0 ≤ x7_2 then (if x7_2 < (l0_2.length : Int) then (if (Go.bits .and .i64 ((rd_T57 l0_2 x7_2).f1) 3) = 0 then (quorumlaw10_PendBack.j5 kj36 t245 x7_2 (decide ((x253001_36.length : Int) > (wrap64 (t245 + 1)))) l0_0 l0_1 l0_2 t239 t242 x253000_36 x253001_36) else (quorumlaw10_PendBack.j5 kj36 t245 x7_2 false l0_0 l0_1 l0_2 t239 t242 x253000_36 x253001_36)) else (none)) else (none)) else (quorumlaw10_PendBack.l0 kj36 t245 (wrap64 (x7_2 + 1)) l0_0 l0_1 l0_2 t239 t242 x251000_2 x251001_2)) = some r := H
            have A66 := mk0 A660
            clear A660
            by_cases c67 : t269 = 0
            ·rw [if_pos c67] at H
             have c67b0 : (t269 == 0) = true := beq_iff_eq.mpr c67
             have c67b1 : (t269 != 0) = false := bne_eq_false_iff_eq.mpr c67
             clear c67
             have HC68 := mk0 H
             clear H
             go_upto_region 18 with (first | ((with_reducible refine gate_callee (f := 25) rfl ?_); refine goesL_ (some 75) rfl rfl Try.func25 (by kernel_rfl) rfl #[.int .i64 x9_36] rfl (by (try simp only [List.map_toArray, List.map_cons, List.map_nil]); first | done | rfl | (simp only [List.length_drop, List.length_take]; rfl)) ?_; (with_reducible refine (quorumlaw10_num.calls x9_36 t269 _ A66.out).mono ?_); rintro e w' ⟨rfl, ⟨nd, rfl⟩⟩; refine ⟨_, rfl, ?_⟩))
             (try simp only [Act.put, List.setIfInBounds_toArray, List.set_cons_zero, List.set_cons_succ])
             go_cut [92] (fun v92 wc => ∃ (kq : Nat) (x92_67 : Bool), v92 = .bool x92_67 ∧ Aside0 (quorumlaw10_PendBack.j5 kq t245 x7_2 x92_67 l0_0 l0_1 l0_2 t239 t242 x253000_36 x253001_36 = some r) ∧ Aside0 (kq ≤ kj36) ∧ Aside0 (Kd.R k55 55 wc w.heap.size (fun k_ => some k_ ≠ (u253000 : Value).ownBlock) (.slice Ao20 t239.length co20) t239) ∧ Aside0 (Kd.R (Kd.int .i64) 3 wc w.heap.size (fun k_ => some k_ ≠ (u253001 : Value).ownBlock) (.slice Ao23 t242.length co23) t242) ∧ Aside0 (Kd.R k55 55 wc w.heap.size (fun k_ => some k_ ≠ (u253000 : Value).ownBlock) u251000 x251000_2) ∧ Aside0 (Kd.R (Kd.int .i64) 3 wc w.heap.size (fun k_ => some k_ ≠ (u253001 : Value).ownBlock) u251001 x251001_2) ∧ Aside0 (Kd.R k55 55 wc w.heap.size (fun k_ => some k_ ≠ ((.slice Ao20 t239.length co20) : Value).ownBlock ∧ some k_ ≠ (u251000 : Value).ownBlock) u253000 x253000_36) ∧ Aside0 (Kd.R (Kd.int .i64) 3 wc w.heap.size (fun k_ => some k_ ≠ ((.slice Ao23 t242.length co23) : Value).ownBlock ∧ some k_ ≠ (u251001 : Value).ownBlock) u253001 x253001_36) ∧ Aside0 (wc.heap[gb236]? = some (.cells #[(.slice A0_0 l0_0.length c0_0), (.slice A0_1 l0_1.length c0_1), (.slice A0_2 l0_2.length c0_2)] 47 (0, 0))) ∧ Aside0 (wc.heap[gb247]? = some (.cells #[(.slice Ao20 t239.length co20), (.slice Ao23 t242.length co23)] 44 (0, 0))) ∧ Aside0 (wc.heap[gb250]? = some (.cells #[u251000, u251001] 44 (0, 0))) ∧ Aside0 (wc.heap[gb252]? = some (.cells #[u253000, u253001] 44 (0, 0))) ∧ Aside0 (Below w.heap.size w wc))
             case first =>
              have H := HC68.out
              clear HC68
              by_cases c69 : 0 ≤ x7_2
              ·rw [if_pos c69] at H
               have c69b0 : decide (0 ≤ x7_2) = true := decide_eq_true c69
               clear c69
               (first | rw [c69b0] | (simp only [i64_w, i32_w]; rw [c69b0]) | skip)
               by_cases c70 : x7_2 < (l0_2.length : Int)
               ·rw [if_pos c70] at H
                have c70b0 : decide (x7_2 < (l0_2.length : Int)) = true := decide_eq_true c70
                clear c70
                by_cases c71 : (Go.bits .and .i64 ((rd_T57 l0_2 x7_2).f1) 3) = 0
                ·rw [if_pos c71] at H
                 have c71b0 : ((Go.bits .and .i64 ((rd_T57 l0_2 x7_2).f1) 3) == 0) = true := beq_iff_eq.mpr c71
                 have c71b1 : ((Go.bits .and .i64 ((rd_T57 l0_2 x7_2).f1) 3) != 0) = false := bne_eq_false_iff_eq.mpr c71
                 clear c71
                 have H' := mk0 H
                 clear H
                 have hnb72 := NB236_247.out
                 have hnc72 := NB247_236.out
                 have hnb73 := NB236_250.out
                 have hnc73 := NB250_236.out
                 have hnb74 := NB236_252.out
                 have hnc74 := NB252_236.out
                 have hcz75_0 : wc.cell? ⟨gb236, 0, none⟩ = some (.slice A0_0 l0_0.length c0_0) := (blk_cell BK236.out 0).trans rfl
                 have hcz75_1 : wc.cell? ⟨gb236, 1, none⟩ = some (.slice A0_1 l0_1.length c0_1) := (blk_cell BK236.out 1).trans rfl
                 have hcz75_2 : wc.cell? ⟨gb236, 2, none⟩ = some (.slice A0_2 l0_2.length c0_2) := (blk_cell BK236.out 2).trans rfl
                 have hfz75_0 := blk_frozen BK236.out 0
                 have hfz75_1 := blk_frozen BK236.out 1
                 have hfz75_2 := blk_frozen BK236.out 2
                 have p270 : 0 ≤ (x7_2 : Int) := of_decide_eq_true (by first | (with_reducible assumption) | assumption)
                 have q270 : x7_2 < (l0_2.length : Int) := of_decide_eq_true (by first | (with_reducible assumption) | assumption)
                 obtain ⟨ad270, e270, hx270_0, hx270_1, hx270_2, hx270_3, hx270_4, hx270_5⟩ := at_T57 HR0_2.out x7_2 p270 q270
                 cases e270
                 replace hx270_0 := (HB.out.cell (World.block_lt_of_cell? w _ hx270_0)).trans hx270_0
                 replace hx270_1 := (HB.out.cell (World.block_lt_of_cell? w _ hx270_1)).trans hx270_1
                 replace hx270_2 := (HB.out.cell (World.block_lt_of_cell? w _ hx270_2)).trans hx270_2
                 replace hx270_3 := (HB.out.cell (World.block_lt_of_cell? w _ hx270_3)).trans hx270_3
                 replace hx270_4 := (HB.out.cell (World.block_lt_of_cell? w _ hx270_4)).trans hx270_4
                 replace hx270_5 := (HB.out.cell (World.block_lt_of_cell? w _ hx270_5)).trans hx270_5
                 replace p270 := eq_true p270
                 replace q270 := eq_true q270
                 have hnb76 := NB252_247.out
                 have hnc76 := NB247_252.out
                 have hnb77 := NB252_250.out
                 have hnc77 := NB250_252.out
                 have hcz78_0 : wc.cell? ⟨gb252, 0, none⟩ = some (u253000) := (blk_cell BK252.out 0).trans rfl
                 have hcz78_1 : wc.cell? ⟨gb252, 1, none⟩ = some (u253001) := (blk_cell BK252.out 1).trans rfl
                 have hfz78_0 := blk_frozen BK252.out 0
                 have hfz78_1 := blk_frozen BK252.out 1
                 obtain ⟨Ao79, co79, eo79⟩ := Kd.R_slice HO_253001.out
                 subst eo79
                 go_wp2
                 go_meet
                 case rel => exact ⟨_, (decide ((x253001_36.length : Int) > (wrap64 (t245 + 1)))), (by first | rfl | (simp; done) | (simp [*]; done)), H', ⟨by have := HJ1.out; have := HK2.out; have := HJ27.out; have := HJ36.out; first | omega | exact Nat.le_refl _⟩, ⟨by (with_reducible repeat (first | apply Ra_ | apply Rn_ | apply Rd_)); exact HO_248000.out⟩, ⟨by (with_reducible repeat (first | apply Ra_ | apply Rn_ | apply Rd_)); exact HO_248001.out⟩, ⟨by (with_reducible repeat (first | apply Ra_ | apply Rn_ | apply Rd_)); exact HO_251000.out⟩, ⟨by (with_reducible repeat (first | apply Ra_ | apply Rn_ | apply Rd_)); exact HO_251001.out⟩, ⟨by (with_reducible repeat (first | apply Ra_ | apply Rn_ | apply Rd_)); exact HO_253000.out⟩, ⟨by (with_reducible repeat (first | apply Ra_ | apply Rn_ | apply Rd_)); exact HO_253001.out⟩, ⟨by (with_reducible repeat (first | refine bN_ ?_ _ | refine bD_ ?_ | refine bA_ ?_ _)); exact BK236.out⟩, ⟨by (with_reducible repeat (first | refine bN_ ?_ _ | refine bD_ ?_ | refine bA_ ?_ _)); exact BK247.out⟩, ⟨by (with_reducible repeat (first | refine bN_ ?_ _ | refine bD_ ?_ | refine bA_ ?_ _)); exact BK250.out⟩, ⟨by (with_reducible repeat (first | refine bN_ ?_ _ | refine bD_ ?_ | refine bA_ ?_ _)); exact BK252.out⟩, ⟨by repeat (first | (with_reducible first | exact HB.out | apply bL_ | apply pN_ | apply b1_ | refine bs_ ?_ GE236.out | refine bs_ ?_ GE247.out | refine bs_ ?_ GE250.out | refine bs_ ?_ GE252.out) | exact HB.out)⟩⟩
                ·rw [if_neg c71] at H
                 have c71b0 : ((Go.bits .and .i64 ((rd_T57 l0_2 x7_2).f1) 3) == 0) = false := beq_eq_false_iff_ne.mpr c71
                 have c71b1 : ((Go.bits .and .i64 ((rd_T57 l0_2 x7_2).f1) 3) != 0) = true := bne_iff_ne.mpr c71
                 have H' := mk0 H
                 clear H
                 have hnb80 := NB236_247.out
                 have hnc80 := NB247_236.out
                 have hnb81 := NB236_250.out
                 have hnc81 := NB250_236.out
                 have hnb82 := NB236_252.out
                 have hnc82 := NB252_236.out
                 have hcz83_0 : wc.cell? ⟨gb236, 0, none⟩ = some (.slice A0_0 l0_0.length c0_0) := (blk_cell BK236.out 0).trans rfl
                 have hcz83_1 : wc.cell? ⟨gb236, 1, none⟩ = some (.slice A0_1 l0_1.length c0_1) := (blk_cell BK236.out 1).trans rfl
                 have hcz83_2 : wc.cell? ⟨gb236, 2, none⟩ = some (.slice A0_2 l0_2.length c0_2) := (blk_cell BK236.out 2).trans rfl
                 have hfz83_0 := blk_frozen BK236.out 0
                 have hfz83_1 := blk_frozen BK236.out 1
                 have hfz83_2 := blk_frozen BK236.out 2
                 have p270 : 0 ≤ (x7_2 : Int) := of_decide_eq_true (by first | (with_reducible assumption) | assumption)
                 have q270 : x7_2 < (l0_2.length : Int) := of_decide_eq_true (by first | (with_reducible assumption) | assumption)
                 obtain ⟨ad270, e270, hx270_0, hx270_1, hx270_2, hx270_3, hx270_4, hx270_5⟩ := at_T57 HR0_2.out x7_2 p270 q270
                 cases e270
                 replace hx270_0 := (HB.out.cell (World.block_lt_of_cell? w _ hx270_0)).trans hx270_0
                 replace hx270_1 := (HB.out.cell (World.block_lt_of_cell? w _ hx270_1)).trans hx270_1
                 replace hx270_2 := (HB.out.cell (World.block_lt_of_cell? w _ hx270_2)).trans hx270_2
                 replace hx270_3 := (HB.out.cell (World.block_lt_of_cell? w _ hx270_3)).trans hx270_3
                 replace hx270_4 := (HB.out.cell (World.block_lt_of_cell? w _ hx270_4)).trans hx270_4
                 replace hx270_5 := (HB.out.cell (World.block_lt_of_cell? w _ hx270_5)).trans hx270_5
                 replace p270 := eq_true p270
                 replace q270 := eq_true q270
                 go_wp2
                 go_meet
                 case rel => exact ⟨_, (false), (by first | rfl | (simp; done) | (simp [*]; done)), H', ⟨by have := HJ1.out; have := HK2.out; have := HJ27.out; have := HJ36.out; first | omega | exact Nat.le_refl _⟩, ⟨by (with_reducible repeat (first | apply Ra_ | apply Rn_ | apply Rd_)); exact HO_248000.out⟩, ⟨by (with_reducible repeat (first | apply Ra_ | apply Rn_ | apply Rd_)); exact HO_248001.out⟩, ⟨by (with_reducible repeat (first | apply Ra_ | apply Rn_ | apply Rd_)); exact HO_251000.out⟩, ⟨by (with_reducible repeat (first | apply Ra_ | apply Rn_ | apply Rd_)); exact HO_251001.out⟩, ⟨by (with_reducible repeat (first | apply Ra_ | apply Rn_ | apply Rd_)); exact HO_253000.out⟩, ⟨by (with_reducible repeat (first | apply Ra_ | apply Rn_ | apply Rd_)); exact HO_253001.out⟩, ⟨by (with_reducible repeat (first | refine bN_ ?_ _ | refine bD_ ?_ | refine bA_ ?_ _)); exact BK236.out⟩, ⟨by (with_reducible repeat (first | refine bN_ ?_ _ | refine bD_ ?_ | refine bA_ ?_ _)); exact BK247.out⟩, ⟨by (with_reducible repeat (first | refine bN_ ?_ _ | refine bD_ ?_ | refine bA_ ?_ _)); exact BK250.out⟩, ⟨by (with_reducible repeat (first | refine bN_ ?_ _ | refine bD_ ?_ | refine bA_ ?_ _)); exact BK252.out⟩, ⟨by repeat (first | (with_reducible first | exact HB.out | apply bL_ | apply pN_ | apply b1_ | refine bs_ ?_ GE236.out | refine bs_ ?_ GE247.out | refine bs_ ?_ GE250.out | refine bs_ ?_ GE252.out) | exact HB.out)⟩⟩
               ·rw [if_neg c70] at H
                exact absurd H (by simp)
              ·rw [if_neg c69] at H
               exact absurd H (by simp)
             case rest =>
              clear HC68
              try clear c1
              try clear c2
              try clear p2
              try clear q2
              try clear hx2
              try clear c3
              try clear c4
              try clear c5
              try clear c6
              try clear p6
              try clear c7
              try clear c8
              try clear c13
              try clear c16
              try clear c16b0
              try clear c16b1
              try clear c21
              try clear c22
              try clear c24
              try clear c25
              try clear p25
              try clear q25
              try clear hx25
              try clear c26
              try clear c27
              try clear p27
              try clear q27
              try clear hx27
              try clear c29
              try clear c29b0
              try clear c30
              try clear c31
              try clear c33
              try clear c34
              try clear c36
              try clear c40
              try clear c40b0
              try clear c40b1
              try clear c41
              try clear c42
              try clear c42b0
              try clear c43
              try clear c43b0
              try clear c54
              try clear c55
              try clear c56
              try clear c62
              try clear c63
              try clear p64
              try clear c67
              try clear c67b0
              try clear c67b1
              try clear c69
              try clear c69b0
              try clear c70
              try clear c70b0
              try clear c71
              try clear c71b0
              try clear c71b1
              try clear c72
              try clear c73
              try clear c74
              try clear c76
              try clear c77
              try clear c80
              try clear c81
              try clear c82
              try clear hcz11_0
              try clear hcz11_1
              try clear hcz11_2
              try clear hcz17_0
              try clear hcz17_1
              try clear hcz17_2
              try clear hcz22_0
              try clear hcz22_1
              try clear hcz27_0
              try clear hcz27_1
              try clear hcz32_0
              try clear hcz32_1
              try clear hcz32_2
              try clear hcz35_0
              try clear hcz35_1
              try clear hcz35_2
              try clear hcz57_0
              try clear hcz57_1
              try clear hcz64_0
              try clear hcz64_1
              try clear hcz6_0
              try clear hcz6_1
              try clear hcz6_2
              try clear hcz75_0
              try clear hcz75_1
              try clear hcz75_2
              try clear hcz78_0
              try clear hcz78_1
              try clear hcz83_0
              try clear hcz83_1
              try clear hcz83_2
              try clear hcz9_0
              try clear hcz9_1
              try clear hcz9_2
              try clear hfz11_0
              try clear hfz11_1
              try clear hfz11_2
              try clear hfz17_0
              try clear hfz17_1
              try clear hfz17_2
              try clear hfz22_0
              try clear hfz22_1
              try clear hfz27_0
              try clear hfz27_1
              try clear hfz32_0
              try clear hfz32_1
              try clear hfz32_2
              try clear hfz35_0
              try clear hfz35_1
              try clear hfz35_2
              try clear hfz57_0
              try clear hfz57_1
              try clear hfz64_0
              try clear hfz64_1
              try clear hfz6_0
              try clear hfz6_1
              try clear hfz6_2
              try clear hfz75_0
              try clear hfz75_1
              try clear hfz75_2
              try clear hfz78_0
              try clear hfz78_1
              try clear hfz83_0
              try clear hfz83_1
              try clear hfz83_2
              try clear hfz9_0
              try clear hfz9_1
              try clear hfz9_2
              try clear hx253_0
              try clear hx253_1
              try clear hx253_2
              try clear hx253_3
              try clear hx253_4
              try clear hx253_5
              try clear hx270_0
              try clear hx270_1
              try clear hx270_2
              try clear hx270_3
              try clear hx270_4
              try clear hx270_5
              try clear p2
              try clear p25
              try clear p253
              try clear p270
              try clear q2
              try clear q25
              try clear q253
              try clear q270
              obtain ⟨kq, x92_67, rfl, HA, HJ67, HO_248000, HO_248001, HO_251000, HO_251001, HO_253000, HO_253001, BK236, BK247, BK250, BK252, HB⟩ := hcut
              cases kq with
              | zero => exact absurd HA.out (by simp [quorumlaw10_PendBack.j5])
              | succ kj67 =>
               have H := HA.out
               clear HA
               simp only [quorumlaw10_PendBack.j5] at H
               have HC84 := mk0 H
               clear H
               go_upto_if 92 with (fail)
               go_cut [] (fun wc => ∃ (kq : Nat) (x253000_83 : List (S55)) (x253001_83 : List Int) (u253000 : Value) (u253001 : Value), Aside0 (quorumlaw10_PendBack.j6 kq t245 x7_2 l0_0 l0_1 l0_2 t239 t242 x253000_83 x253001_83 = some r) ∧ Aside0 (kq ≤ kj67) ∧ Aside0 (Kd.R k55 55 wc w.heap.size (fun k_ => some k_ ≠ (u253000 : Value).ownBlock) (.slice Ao20 t239.length co20) t239) ∧ Aside0 (Kd.R (Kd.int .i64) 3 wc w.heap.size (fun k_ => some k_ ≠ (u253001 : Value).ownBlock) (.slice Ao23 t242.length co23) t242) ∧ Aside0 (Kd.R k55 55 wc w.heap.size (fun k_ => some k_ ≠ (u253000 : Value).ownBlock) u251000 x251000_2) ∧ Aside0 (Kd.R (Kd.int .i64) 3 wc w.heap.size (fun k_ => some k_ ≠ (u253001 : Value).ownBlock) u251001 x251001_2) ∧ Aside0 (Kd.R k55 55 wc w.heap.size (fun k_ => some k_ ≠ ((.slice Ao20 t239.length co20) : Value).ownBlock ∧ some k_ ≠ (u251000 : Value).ownBlock) u253000 x253000_83) ∧ Aside0 (Kd.R (Kd.int .i64) 3 wc w.heap.size (fun k_ => some k_ ≠ ((.slice Ao23 t242.length co23) : Value).ownBlock ∧ some k_ ≠ (u251001 : Value).ownBlock) u253001 x253001_83) ∧ Aside0 (wc.heap[gb236]? = some (.cells #[(.slice A0_0 l0_0.length c0_0), (.slice A0_1 l0_1.length c0_1), (.slice A0_2 l0_2.length c0_2)] 47 (0, 0))) ∧ Aside0 (wc.heap[gb247]? = some (.cells #[(.slice Ao20 t239.length co20), (.slice Ao23 t242.length co23)] 44 (0, 0))) ∧ Aside0 (wc.heap[gb250]? = some (.cells #[u251000, u251001] 44 (0, 0))) ∧ Aside0 (wc.heap[gb252]? = some (.cells #[u253000, u253001] 44 (0, 0))) ∧ Aside0 (Below w.heap.size w wc))
               case first =>
                have H := HC84.out
                clear HC84
                by_cases c85 : x92_67 = true
                ·subst c85
                 have H1 : ((pend_Release.f kj67 x253000_36 x253001_36 (wrap64 ((x253001_36.length : Int) - 1))).bind fun bt271 => ((quorumlaw10_num.f bt271.2.2).bind fun t279 => (if t279 = 0 then ((quorumref0_EqWrites.f kj67 bt271.1 x253000_36).bind fun t280 => (if t280 = true then (quorumlaw10_PendBack.j6 kj67 t245 x7_2 l0_0 l0_1 l0_2 t239 t242 bt271.1 bt271.2.1) else (some false))) else (some false)))) = some r := by rw [if_pos rfl] at H; exact H
                 clear H
                 have H := H1
                 clear H1
                 replace H := Option.bind_eq_some_iff.mp H
                 obtain ⟨⟨t271, t274, t277⟩, A860, H⟩ := H
                 replace H : ((quorumlaw10_num.f t277).bind fun t279 => (if t279 = 0 then ((quorumref0_EqWrites.f kj67 t271 x253000_36).bind fun t280 => (if t280 = true then (quorumlaw10_PendBack.j6 kj67 t245 x7_2 l0_0 l0_1 l0_2 t239 t242 t271 t274) else (some false))) else (some false))) = some r := H
                 have A86 := mk0 A860
                 clear A860
                 replace H := Option.bind_eq_some_iff.mp H
                 obtain ⟨t279, A870, H⟩ := H
                 replace H : (if t279 = 0 then ((quorumref0_EqWrites.f kj67 t271 x253000_36).bind fun t280 => (if t280 = true then (quorumlaw10_PendBack.j6 kj67 t245 x7_2 l0_0 l0_1 l0_2 t239 t242 t271 t274) else (some false))) else (some false)) = some r := H
                 have A87 := mk0 A870
                 clear A870
                 by_cases c88 : t279 = 0
                 ·rw [if_pos c88] at H
                  have c88b0 : (t279 == 0) = true := beq_iff_eq.mpr c88
                  have c88b1 : (t279 != 0) = false := bne_eq_false_iff_eq.mpr c88
                  clear c88
                  (first | rw [c88b0] | (simp only [i64_w, i32_w]; rw [c88b0]) | skip)
                  replace H := Option.bind_eq_some_iff.mp H
                  obtain ⟨t280, A890, H⟩ := H
                  replace H : (if t280 = true then (quorumlaw10_PendBack.j6 kj67 t245 x7_2 l0_0 l0_1 l0_2 t239 t242 t271 t274) else (some false)) = some r := H
                  have A89 := mk0 A890
                  clear A890
                  by_cases c90 : t280 = true
                  ·subst c90
                   have H1 : (quorumlaw10_PendBack.j6 kj67 t245 x7_2 l0_0 l0_1 l0_2 t239 t242 t271 t274) = some r := by rw [if_pos rfl] at H; exact H
                   clear H
                   have H := H1
                   clear H1
                   have H' := mk0 H
                   clear H
                   have hnb91 := NB252_236.out
                   have hnc91 := NB236_252.out
                   have hnb92 := NB252_247.out
                   have hnc92 := NB247_252.out
                   have hnb93 := NB252_250.out
                   have hnc93 := NB250_252.out
                   have hcz94_0 : wc.cell? ⟨gb252, 0, none⟩ = some (u253000) := (blk_cell BK252.out 0).trans rfl
                   have hcz94_1 : wc.cell? ⟨gb252, 1, none⟩ = some (u253001) := (blk_cell BK252.out 1).trans rfl
                   have hfz94_0 := blk_frozen BK252.out 0
                   have hfz94_1 := blk_frozen BK252.out 1
                   obtain ⟨Ao95, co95, eo95⟩ := Kd.R_slice HO_253001.out
                   subst eo95
                   obtain ⟨Ao96, co96, eo96⟩ := Kd.R_slice HO_253000.out
                   subst eo96
                   go_wp2_with (first | ((with_reducible refine gate_callee (f := 28) rfl ?_); refine goesL_ (some 99) rfl rfl Try.func28 (by kernel_rfl) rfl #[.agg #[.slice Ao96 x253000_36.length co96, .slice Ao95 x253001_36.length co95], .int .i64 (wrap64 ((x253001_36.length : Int) - 1))] rfl (by (try simp only [List.map_toArray, List.map_cons, List.map_nil]); first | done | rfl | (simp only [List.length_drop, List.length_take]; rfl)) ?_; (with_reducible refine (pend_Release.calls kj67 _ _ x253000_36 _ _ x253001_36 (wrap64 ((x253001_36.length : Int) - 1)) t271 t274 t277 _ ?side1 ?side2 ?side3 ?side4 A86.out).mono ?_); (case side1 => repeat (first | exact (Kd.R_reads' HO_253000.out).2.2 | (with_reducible refine Kd.C_alloc ?_ _) | (with_reducible refine Kd.C_drewN ?_ _) | (with_reducible refine Kd.C_drew ?_))); (case side2 => exact (Kd.R_reads' HO_253000.out).2.1); (case side3 => repeat (first | exact (Kd.R_reads' HO_253001.out).2.2 | (with_reducible refine Kd.C_alloc ?_ _) | (with_reducible refine Kd.C_drewN ?_ _) | (with_reducible refine Kd.C_drew ?_))); (case side4 => exact (Kd.R_reads' HO_253001.out).2.1); rintro e w97 ⟨v272, v275, rfl, ho0, ho1, hb⟩; refine ⟨_, rfl, ?_⟩; have n0_ := mk0 (Kd.R_elder' (by (with_reducible repeat (first | apply Ra_ | apply Rn_ | apply Rd_)); exact HO_248000.out) (Kd.R_base ho0) hb); have n1_ := mk0 (Kd.R_elder' (by (with_reducible repeat (first | apply Ra_ | apply Rn_ | apply Rd_)); exact HO_248001.out) (Kd.R_base ho1) hb); have n2_ := mk0 (Kd.R_elder' (by (with_reducible repeat (first | apply Ra_ | apply Rn_ | apply Rd_)); exact HO_251000.out) (Kd.R_base ho0) hb); have n3_ := mk0 (Kd.R_elder' (by (with_reducible repeat (first | apply Ra_ | apply Rn_ | apply Rd_)); exact HO_251001.out) (Kd.R_base ho1) hb); have n4_ := mk0 (Kd.R_elder' (by (with_reducible repeat (first | apply Ra_ | apply Rn_ | apply Rd_)); exact HO_253000.out) (Kd.R_base ho0) hb); have n5_ := mk0 (Kd.R_elder' (by (with_reducible repeat (first | apply Ra_ | apply Rn_ | apply Rd_)); exact HO_253001.out) (Kd.R_base ho1) hb); have n6_ := mk0 (Kd.R_lower (Kd.R_new' (Kd.R_new' (Kd.R_new' ho0 (Kd.R_lt (by (with_reducible repeat (first | apply Ra_ | apply Rn_ | apply Rd_)); exact HO_248000.out))) (Kd.R_lt (by (with_reducible repeat (first | apply Ra_ | apply Rn_ | apply Rd_)); exact HO_251000.out))) (Kd.R_lt (by (with_reducible repeat (first | apply Ra_ | apply Rn_ | apply Rd_)); exact HO_253000.out))) (bz_ (by repeat (first | (with_reducible first | exact HB.out | apply bL_ | apply pN_ | apply b1_ | refine bs_ ?_ GE236.out | refine bs_ ?_ GE247.out | refine bs_ ?_ GE250.out | refine bs_ ?_ GE252.out) | exact HB.out)))); have n7_ := mk0 (Kd.R_lower (Kd.R_new' (Kd.R_new' (Kd.R_new' ho1 (Kd.R_lt (by (with_reducible repeat (first | apply Ra_ | apply Rn_ | apply Rd_)); exact HO_248001.out))) (Kd.R_lt (by (with_reducible repeat (first | apply Ra_ | apply Rn_ | apply Rd_)); exact HO_251001.out))) (Kd.R_lt (by (with_reducible repeat (first | apply Ra_ | apply Rn_ | apply Rd_)); exact HO_253001.out))) (bz_ (by repeat (first | (with_reducible first | exact HB.out | apply bL_ | apply pN_ | apply b1_ | refine bs_ ?_ GE236.out | refine bs_ ?_ GE247.out | refine bs_ ?_ GE250.out | refine bs_ ?_ GE252.out) | exact HB.out)))); have n8_ := mk0 (blk_below (g := gb236) (o := .cells #[.slice A0_0 l0_0.length c0_0, .slice A0_1 l0_1.length c0_1, .slice A0_2 l0_2.length c0_2] 47 (0, 0)) (by (with_reducible repeat (first | refine bN_ ?_ _ | refine bD_ ?_ | refine bA_ ?_ _)); exact BK236.out) hb); have n9_ := mk0 (blk_below (g := gb247) (o := .cells #[.slice Ao20 t239.length co20, .slice Ao23 t242.length co23] 44 (0, 0)) (by (with_reducible repeat (first | refine bN_ ?_ _ | refine bD_ ?_ | refine bA_ ?_ _)); exact BK247.out) hb); have n10_ := mk0 (blk_below (g := gb250) (o := .cells #[u251000, u251001] 44 (0, 0)) (by (with_reducible repeat (first | refine bN_ ?_ _ | refine bD_ ?_ | refine bA_ ?_ _)); exact BK250.out) hb); have n11_ := mk0 (blk_below (g := gb252) (o := .cells #[.slice Ao96 x253000_36.length co96, .slice Ao95 x253001_36.length co95] 44 (0, 0)) (by (with_reducible repeat (first | refine bN_ ?_ _ | refine bD_ ?_ | refine bA_ ?_ _)); exact BK252.out) hb); have n12_ := mk0 (bt_ (by repeat (first | (with_reducible first | exact HB.out | apply bL_ | apply pN_ | apply b1_ | refine bs_ ?_ GE236.out | refine bs_ ?_ GE247.out | refine bs_ ?_ GE250.out | refine bs_ ?_ GE252.out) | exact HB.out)) hb); clear HO_248000; clear HO_248001; clear HO_251000; clear HO_251001; clear HO_253000; clear HO_253001; clear BK236; clear BK247; clear BK250; clear BK252; clear HB; have HO_248000 := n0_; have HO_248001 := n1_; have HO_251000 := n2_; have HO_251001 := n3_; have HO_253000 := n4_; have HO_253001 := n5_; have HO273 := n6_; have HO276 := n7_; have BK236 := n8_; have BK247 := n9_; have BK250 := n10_; have BK252 := n11_; have HB := n12_; clear n0_ n1_ n2_ n3_ n4_ n5_ n6_ n7_ n8_ n9_ n10_ n11_ n12_; (try clear hb); (try clear hb2); (try clear hk); (try clear hi); (try clear ho0); (try clear ho1)) | ((with_reducible refine gate_dst (N := 10) rfl ?_); (try (refine gate_guard (by rfl) ?_; dsimp only)); refine box_event ?hg (N := 10) ?hd (cs := #[.slice none 0 0, .slice none 0 0]) (t := 44) ?hr ?_; (case hd => rfl); (case hg => rfl); (case hr => first | (go_simp; done) | (go_simp; rfl)); intro gb278 hg w98 hbox hb; have n0_ := mk0 (Kd.R_below (by (with_reducible repeat (first | apply Ra_ | apply Rn_ | apply Rd_)); exact HO_248000.out) hb); have n1_ := mk0 (Kd.R_below (by (with_reducible repeat (first | apply Ra_ | apply Rn_ | apply Rd_)); exact HO_248001.out) hb); have n2_ := mk0 (Kd.R_below (by (with_reducible repeat (first | apply Ra_ | apply Rn_ | apply Rd_)); exact HO_251000.out) hb); have n3_ := mk0 (Kd.R_below (by (with_reducible repeat (first | apply Ra_ | apply Rn_ | apply Rd_)); exact HO_251001.out) hb); have n4_ := mk0 (Kd.R_below (by (with_reducible repeat (first | apply Ra_ | apply Rn_ | apply Rd_)); exact HO_253000.out) hb); have n5_ := mk0 (Kd.R_below (by (with_reducible repeat (first | apply Ra_ | apply Rn_ | apply Rd_)); exact HO_253001.out) hb); have n6_ := mk0 (Kd.R_below (by (with_reducible repeat (first | apply Ra_ | apply Rn_ | apply Rd_)); exact HO273.out) hb); have n7_ := mk0 (Kd.R_below (by (with_reducible repeat (first | apply Ra_ | apply Rn_ | apply Rd_)); exact HO276.out) hb); have n8_ := mk0 (blk_below (g := gb236) (o := .cells #[.slice A0_0 l0_0.length c0_0, .slice A0_1 l0_1.length c0_1, .slice A0_2 l0_2.length c0_2] 47 (0, 0)) (by (with_reducible repeat (first | refine bN_ ?_ _ | refine bD_ ?_ | refine bA_ ?_ _)); exact BK236.out) hb); have n9_ := mk0 (blk_below (g := gb247) (o := .cells #[.slice Ao20 t239.length co20, .slice Ao23 t242.length co23] 44 (0, 0)) (by (with_reducible repeat (first | refine bN_ ?_ _ | refine bD_ ?_ | refine bA_ ?_ _)); exact BK247.out) hb); have n10_ := mk0 (blk_below (g := gb250) (o := .cells #[u251000, u251001] 44 (0, 0)) (by (with_reducible repeat (first | refine bN_ ?_ _ | refine bD_ ?_ | refine bA_ ?_ _)); exact BK250.out) hb); have n11_ := mk0 (blk_below (g := gb252) (o := .cells #[.slice Ao96 x253000_36.length co96, .slice Ao95 x253001_36.length co95] 44 (0, 0)) (by (with_reducible repeat (first | refine bN_ ?_ _ | refine bD_ ?_ | refine bA_ ?_ _)); exact BK252.out) hb); have n12_ := mk0 (bt_ (by repeat (first | (with_reducible first | exact HB.out | apply bL_ | apply pN_ | apply b1_ | refine bs_ ?_ GE236.out | refine bs_ ?_ GE247.out | refine bs_ ?_ GE250.out | refine bs_ ?_ GE252.out) | exact HB.out)) hb); have n13_ := mk0 (hbox); have n14_ := mk0 ((by rw [hg]; exact (bz_ (by repeat (first | (with_reducible first | exact HB.out | apply bL_ | apply pN_ | apply b1_ | refine bs_ ?_ GE236.out | refine bs_ ?_ GE247.out | refine bs_ ?_ GE250.out | refine bs_ ?_ GE252.out) | exact HB.out))) : w.heap.size ≤ gb278)); have n15_ := mk0 ((by rw [hg]; exact (bz_ (by repeat (first | (with_reducible first | exact HB.out | apply bL_ | apply pN_ | apply b1_ | refine bs_ ?_ GE236.out | refine bs_ ?_ GE247.out | refine bs_ ?_ GE250.out | refine bs_ ?_ GE252.out) | exact HB.out))) : w.heap.size ≤ gb278)); have n16_ := mk0 ((by rw [hg]; exact Nat.ne_of_lt (blk_lt (g := gb236) (o := .cells #[.slice A0_0 l0_0.length c0_0, .slice A0_1 l0_1.length c0_1, .slice A0_2 l0_2.length c0_2] 47 (0, 0)) (by (with_reducible repeat (first | refine bN_ ?_ _ | refine bD_ ?_ | refine bA_ ?_ _)); exact BK236.out)) : gb236 ≠ gb278)); have n17_ := mk0 ((by rw [hg]; exact Nat.ne_of_gt (blk_lt (g := gb236) (o := .cells #[.slice A0_0 l0_0.length c0_0, .slice A0_1 l0_1.length c0_1, .slice A0_2 l0_2.length c0_2] 47 (0, 0)) (by (with_reducible repeat (first | refine bN_ ?_ _ | refine bD_ ?_ | refine bA_ ?_ _)); exact BK236.out)) : gb278 ≠ gb236)); have n18_ := mk0 ((by rw [hg]; exact Nat.ne_of_lt (blk_lt (g := gb247) (o := .cells #[.slice Ao20 t239.length co20, .slice Ao23 t242.length co23] 44 (0, 0)) (by (with_reducible repeat (first | refine bN_ ?_ _ | refine bD_ ?_ | refine bA_ ?_ _)); exact BK247.out)) : gb247 ≠ gb278)); have n19_ := mk0 ((by rw [hg]; exact Nat.ne_of_gt (blk_lt (g := gb247) (o := .cells #[.slice Ao20 t239.length co20, .slice Ao23 t242.length co23] 44 (0, 0)) (by (with_reducible repeat (first | refine bN_ ?_ _ | refine bD_ ?_ | refine bA_ ?_ _)); exact BK247.out)) : gb278 ≠ gb247)); have n20_ := mk0 ((by rw [hg]; exact Nat.ne_of_lt (blk_lt (g := gb250) (o := .cells #[u251000, u251001] 44 (0, 0)) (by (with_reducible repeat (first | refine bN_ ?_ _ | refine bD_ ?_ | refine bA_ ?_ _)); exact BK250.out)) : gb250 ≠ gb278)); have n21_ := mk0 ((by rw [hg]; exact Nat.ne_of_gt (blk_lt (g := gb250) (o := .cells #[u251000, u251001] 44 (0, 0)) (by (with_reducible repeat (first | refine bN_ ?_ _ | refine bD_ ?_ | refine bA_ ?_ _)); exact BK250.out)) : gb278 ≠ gb250)); have n22_ := mk0 ((by rw [hg]; exact Nat.ne_of_lt (blk_lt (g := gb252) (o := .cells #[.slice Ao96 x253000_36.length co96, .slice Ao95 x253001_36.length co95] 44 (0, 0)) (by (with_reducible repeat (first | refine bN_ ?_ _ | refine bD_ ?_ | refine bA_ ?_ _)); exact BK252.out)) : gb252 ≠ gb278)); have n23_ := mk0 ((by rw [hg]; exact Nat.ne_of_gt (blk_lt (g := gb252) (o := .cells #[.slice Ao96 x253000_36.length co96, .slice Ao95 x253001_36.length co95] 44 (0, 0)) (by (with_reducible repeat (first | refine bN_ ?_ _ | refine bD_ ?_ | refine bA_ ?_ _)); exact BK252.out)) : gb278 ≠ gb252)); clear HO_248000; clear HO_248001; clear HO_251000; clear HO_251001; clear HO_253000; clear HO_253001; clear HO273; clear HO276; clear BK236; clear BK247; clear BK250; clear BK252; clear HB; have HO_248000 := n0_; have HO_248001 := n1_; have HO_251000 := n2_; have HO_251001 := n3_; have HO_253000 := n4_; have HO_253001 := n5_; have HO273 := n6_; have HO276 := n7_; have BK236 := n8_; have BK247 := n9_; have BK250 := n10_; have BK252 := n11_; have HB := n12_; have BK278 := n13_; have GW278 := n14_; have GE278 := n15_; have NB236_278 := n16_; have NB278_236 := n17_; have NB247_278 := n18_; have NB278_247 := n19_; have NB250_278 := n20_; have NB278_250 := n21_; have NB252_278 := n22_; have NB278_252 := n23_; clear n0_ n1_ n2_ n3_ n4_ n5_ n6_ n7_ n8_ n9_ n10_ n11_ n12_ n13_ n14_ n15_ n16_ n17_ n18_ n19_ n20_ n21_ n22_ n23_; clear hb hbox hg; obtain ⟨Ao99, co99, eo99⟩ := Kd.R_slice HO273.out; subst eo99; have hnb100 := NB278_236.out; have hnc100 := NB236_278.out; have hnb101 := NB278_247.out; have hnc101 := NB247_278.out; have hnb102 := NB278_250.out; have hnc102 := NB250_278.out; have hnb103 := NB278_252.out; have hnc103 := NB252_278.out; have hcz104_0 : w98.cell? ⟨gb278, 0, none⟩ = some (.slice none 0 0) := (blk_cell BK278.out 0).trans rfl; have hcz104_1 : w98.cell? ⟨gb278, 1, none⟩ = some (.slice none 0 0) := (blk_cell BK278.out 1).trans rfl; have hfz104_0 := blk_frozen BK278.out 0; have hfz104_1 := blk_frozen BK278.out 1; obtain ⟨Ao105, co105, eo105⟩ := Kd.R_slice HO276.out; subst eo105) | ((with_reducible refine gate_callee (f := 25) rfl ?_); refine goesL_ (some 103) rfl rfl Try.func25 (by kernel_rfl) rfl #[.int .i64 t277] rfl (by (try simp only [List.map_toArray, List.map_cons, List.map_nil]); first | done | rfl | (simp only [List.length_drop, List.length_take]; rfl)) ?_; (with_reducible refine (quorumlaw10_num.calls t277 t279 _ A87.out).mono ?_); rintro e w' ⟨rfl, ⟨nd, rfl⟩⟩; refine ⟨_, rfl, ?_⟩; have hcz106_0 : w98.cell? ⟨gb252, 0, none⟩ = some (.slice Ao96 x253000_36.length co96) := (blk_cell BK252.out 0).trans rfl; have hcz106_1 : w98.cell? ⟨gb252, 1, none⟩ = some (.slice Ao95 x253001_36.length co95) := (blk_cell BK252.out 1).trans rfl; have hfz106_0 := blk_frozen BK252.out 0; have hfz106_1 := blk_frozen BK252.out 1) | (go_at_call 29; (with_reducible refine (quorumref0_EqWrites.calls kj67 _ _ t271 _ _ x253000_36 true _ ?side1 ?side2 ?side3 ?side4 A89.out).mono ?_); (case side1 => refine (Kd.R_reads' (e := 55) (base := w.heap.size) (ok := fun k_ => (((True ∧ some k_ ≠ (.slice Ao20 t239.length co20 : Value).ownBlock) ∧ some k_ ≠ (u251000 : Value).ownBlock) ∧ some k_ ≠ (.slice Ao96 x253000_36.length co96 : Value).ownBlock)) (n := t271.length) (c := co99) ?_).2.2; exact (by (with_reducible repeat (first | apply Ra_ | apply Rn_ | apply Rd_)); exact (Kd.R_mono (Kd.R_far (p := ⟨gb278, 1, none⟩) (Kd.R_far (p := ⟨gb278, 0, none⟩) (Kd.R_types HO273.out BK278.out (by decide)) (fun _ hk => hk.2) (.slice Ao99 t271.length co99)) (fun _ hk => hk.2) (.slice Ao105 t274.length co105)) (fun _ h_ => h_.1)))); (case side2 => exact (Kd.R_reads' HO273.out).2.1); (case side3 => refine (Kd.R_reads' (e := 55) (base := w.heap.size) (ok := fun k_ => ((some k_ ≠ (.slice Ao20 t239.length co20 : Value).ownBlock ∧ some k_ ≠ (u251000 : Value).ownBlock) ∧ some k_ ≠ (.slice Ao99 t271.length co99 : Value).ownBlock)) (n := x253000_36.length) (c := co96) ?_).2.2; exact (by (with_reducible repeat (first | apply Ra_ | apply Rn_ | apply Rd_)); exact (Kd.R_mono (Kd.R_far (p := ⟨gb278, 1, none⟩) (Kd.R_far (p := ⟨gb278, 0, none⟩) (Kd.R_types HO_253000.out BK278.out (by decide)) (fun _ hk => hk.2) (.slice Ao99 t271.length co99)) (fun _ hk => hk.2) (.slice Ao105 t274.length co105)) (fun _ h_ => h_.1)))); (case side4 => exact (Kd.R_reads' HO_253000.out).2.1); rintro e w' ⟨rfl, ⟨nd, rfl⟩⟩))
                   go_meet
                   case rel => exact ⟨_, (t271), (t274), (.slice Ao99 t271.length co99), (.slice Ao105 t274.length co105), H', ⟨by have := HJ1.out; have := HK2.out; have := HJ27.out; have := HJ36.out; have := HJ67.out; first | omega | exact Nat.le_refl _⟩, ⟨by (with_reducible repeat (first | apply Ra_ | apply Rn_ | apply Rd_)); exact Kd.R_mono (Kd.R_far (p := ⟨gb252, 1, none⟩) (Kd.R_far (p := ⟨gb252, 0, none⟩) (Kd.R_far (p := ⟨gb278, 1, none⟩) (Kd.R_far (p := ⟨gb278, 0, none⟩) (Kd.R_types (Kd.R_types HO_248000.out BK278.out (by decide)) BK252.out (by decide)) (fun _ hk => hk.1.2) (.slice Ao99 t271.length co99)) (fun _ hk => hk.1.2) (.slice Ao105 t274.length co105)) (fun _ hk => hk.2) (.slice Ao99 t271.length co99)) (fun _ hk => hk.2) (.slice Ao105 t274.length co105)) (fun _ hk => hk.1.1.2)⟩, ⟨by (with_reducible repeat (first | apply Ra_ | apply Rn_ | apply Rd_)); exact Kd.R_mono (Kd.R_far (p := ⟨gb252, 1, none⟩) (Kd.R_far (p := ⟨gb252, 0, none⟩) (Kd.R_far (p := ⟨gb278, 1, none⟩) (Kd.R_far (p := ⟨gb278, 0, none⟩) (Kd.R_types (Kd.R_types HO_248001.out BK278.out (by decide)) BK252.out (by decide)) (fun _ hk => hk.1.2) (.slice Ao99 t271.length co99)) (fun _ hk => hk.1.2) (.slice Ao105 t274.length co105)) (fun _ hk => hk.2) (.slice Ao99 t271.length co99)) (fun _ hk => hk.2) (.slice Ao105 t274.length co105)) (fun _ hk => hk.1.1.2)⟩, ⟨by (with_reducible repeat (first | apply Ra_ | apply Rn_ | apply Rd_)); exact Kd.R_mono (Kd.R_far (p := ⟨gb252, 1, none⟩) (Kd.R_far (p := ⟨gb252, 0, none⟩) (Kd.R_far (p := ⟨gb278, 1, none⟩) (Kd.R_far (p := ⟨gb278, 0, none⟩) (Kd.R_types (Kd.R_types HO_251000.out BK278.out (by decide)) BK252.out (by decide)) (fun _ hk => hk.1.2) (.slice Ao99 t271.length co99)) (fun _ hk => hk.1.2) (.slice Ao105 t274.length co105)) (fun _ hk => hk.2) (.slice Ao99 t271.length co99)) (fun _ hk => hk.2) (.slice Ao105 t274.length co105)) (fun _ hk => hk.1.1.2)⟩, ⟨by (with_reducible repeat (first | apply Ra_ | apply Rn_ | apply Rd_)); exact Kd.R_mono (Kd.R_far (p := ⟨gb252, 1, none⟩) (Kd.R_far (p := ⟨gb252, 0, none⟩) (Kd.R_far (p := ⟨gb278, 1, none⟩) (Kd.R_far (p := ⟨gb278, 0, none⟩) (Kd.R_types (Kd.R_types HO_251001.out BK278.out (by decide)) BK252.out (by decide)) (fun _ hk => hk.1.2) (.slice Ao99 t271.length co99)) (fun _ hk => hk.1.2) (.slice Ao105 t274.length co105)) (fun _ hk => hk.2) (.slice Ao99 t271.length co99)) (fun _ hk => hk.2) (.slice Ao105 t274.length co105)) (fun _ hk => hk.1.1.2)⟩, ⟨by (with_reducible repeat (first | apply Ra_ | apply Rn_ | apply Rd_)); exact Kd.R_mono (Kd.R_far (p := ⟨gb252, 1, none⟩) (Kd.R_far (p := ⟨gb252, 0, none⟩) (Kd.R_far (p := ⟨gb278, 1, none⟩) (Kd.R_far (p := ⟨gb278, 0, none⟩) (Kd.R_types (Kd.R_types HO273.out BK278.out (by decide)) BK252.out (by decide)) (fun _ hk => hk.1.2) (.slice Ao99 t271.length co99)) (fun _ hk => hk.1.2) (.slice Ao105 t274.length co105)) (fun _ hk => hk.2) (.slice Ao99 t271.length co99)) (fun _ hk => hk.2) (.slice Ao105 t274.length co105)) (fun _ hk => ⟨hk.1.1.1.1.2, hk.1.1.1.2⟩)⟩, ⟨by (with_reducible repeat (first | apply Ra_ | apply Rn_ | apply Rd_)); exact Kd.R_mono (Kd.R_far (p := ⟨gb252, 1, none⟩) (Kd.R_far (p := ⟨gb252, 0, none⟩) (Kd.R_far (p := ⟨gb278, 1, none⟩) (Kd.R_far (p := ⟨gb278, 0, none⟩) (Kd.R_types (Kd.R_types HO276.out BK278.out (by decide)) BK252.out (by decide)) (fun _ hk => hk.1.2) (.slice Ao99 t271.length co99)) (fun _ hk => hk.1.2) (.slice Ao105 t274.length co105)) (fun _ hk => hk.2) (.slice Ao99 t271.length co99)) (fun _ hk => hk.2) (.slice Ao105 t274.length co105)) (fun _ hk => ⟨hk.1.1.1.1.2, hk.1.1.1.2⟩)⟩, ⟨by (with_reducible repeat (first | refine bN_ ?_ _ | refine bD_ ?_ | refine bA_ ?_ _)); refine blk_far ?_ NB236_252.out _; (with_reducible repeat (first | refine bN_ ?_ _ | refine bD_ ?_ | refine bA_ ?_ _)); refine blk_far ?_ NB236_252.out _; (with_reducible repeat (first | refine bN_ ?_ _ | refine bD_ ?_ | refine bA_ ?_ _)); refine blk_far ?_ NB236_278.out _; (with_reducible repeat (first | refine bN_ ?_ _ | refine bD_ ?_ | refine bA_ ?_ _)); refine blk_far ?_ NB236_278.out _; (with_reducible repeat (first | refine bN_ ?_ _ | refine bD_ ?_ | refine bA_ ?_ _)); exact BK236.out⟩, ⟨by (with_reducible repeat (first | refine bN_ ?_ _ | refine bD_ ?_ | refine bA_ ?_ _)); refine blk_far ?_ NB247_252.out _; (with_reducible repeat (first | refine bN_ ?_ _ | refine bD_ ?_ | refine bA_ ?_ _)); refine blk_far ?_ NB247_252.out _; (with_reducible repeat (first | refine bN_ ?_ _ | refine bD_ ?_ | refine bA_ ?_ _)); refine blk_far ?_ NB247_278.out _; (with_reducible repeat (first | refine bN_ ?_ _ | refine bD_ ?_ | refine bA_ ?_ _)); refine blk_far ?_ NB247_278.out _; (with_reducible repeat (first | refine bN_ ?_ _ | refine bD_ ?_ | refine bA_ ?_ _)); exact BK247.out⟩, ⟨by (with_reducible repeat (first | refine bN_ ?_ _ | refine bD_ ?_ | refine bA_ ?_ _)); refine blk_far ?_ NB250_252.out _; (with_reducible repeat (first | refine bN_ ?_ _ | refine bD_ ?_ | refine bA_ ?_ _)); refine blk_far ?_ NB250_252.out _; (with_reducible repeat (first | refine bN_ ?_ _ | refine bD_ ?_ | refine bA_ ?_ _)); refine blk_far ?_ NB250_278.out _; (with_reducible repeat (first | refine bN_ ?_ _ | refine bD_ ?_ | refine bA_ ?_ _)); refine blk_far ?_ NB250_278.out _; (with_reducible repeat (first | refine bN_ ?_ _ | refine bD_ ?_ | refine bA_ ?_ _)); exact BK250.out⟩, ⟨by (with_reducible repeat (first | refine bN_ ?_ _ | refine bD_ ?_ | refine bA_ ?_ _)); refine blk_put (cs := #[.slice Ao99 t271.length co99, .slice Ao95 x253001_36.length co95]) ?_ 1 _ rfl; (with_reducible repeat (first | refine bN_ ?_ _ | refine bD_ ?_ | refine bA_ ?_ _)); refine blk_put (cs := #[.slice Ao96 x253000_36.length co96, .slice Ao95 x253001_36.length co95]) ?_ 0 _ rfl; (with_reducible repeat (first | refine bN_ ?_ _ | refine bD_ ?_ | refine bA_ ?_ _)); refine blk_far ?_ NB252_278.out _; (with_reducible repeat (first | refine bN_ ?_ _ | refine bD_ ?_ | refine bA_ ?_ _)); refine blk_far ?_ NB252_278.out _; (with_reducible repeat (first | refine bN_ ?_ _ | refine bD_ ?_ | refine bA_ ?_ _)); exact BK252.out⟩, ⟨by repeat (first | (with_reducible first | exact HB.out | apply bL_ | apply pN_ | apply b1_ | refine bs_ ?_ GE236.out | refine bs_ ?_ GE247.out | refine bs_ ?_ GE250.out | refine bs_ ?_ GE252.out | refine bs_ ?_ GE278.out) | exact HB.out)⟩⟩
                  ·replace c90 := Bool.eq_false_iff.mpr c90
                   subst c90
                   have H1 : (some false) = some r := by rw [if_neg (show ¬ (false = true) by decide)] at H; exact H
                   clear H
                   have H := H1
                   clear H1
                   obtain rfl := Option.some.inj H
                   have hnb107 := NB252_236.out
                   have hnc107 := NB236_252.out
                   have hnb108 := NB252_247.out
                   have hnc108 := NB247_252.out
                   have hnb109 := NB252_250.out
                   have hnc109 := NB250_252.out
                   have hcz110_0 : wc.cell? ⟨gb252, 0, none⟩ = some (u253000) := (blk_cell BK252.out 0).trans rfl
                   have hcz110_1 : wc.cell? ⟨gb252, 1, none⟩ = some (u253001) := (blk_cell BK252.out 1).trans rfl
                   have hfz110_0 := blk_frozen BK252.out 0
                   have hfz110_1 := blk_frozen BK252.out 1
                   obtain ⟨Ao111, co111, eo111⟩ := Kd.R_slice HO_253001.out
                   subst eo111
                   obtain ⟨Ao112, co112, eo112⟩ := Kd.R_slice HO_253000.out
                   subst eo112
                   go_wp2_with (first | ((with_reducible refine gate_callee (f := 28) rfl ?_); refine goesL_ (some 99) rfl rfl Try.func28 (by kernel_rfl) rfl #[.agg #[.slice Ao112 x253000_36.length co112, .slice Ao111 x253001_36.length co111], .int .i64 (wrap64 ((x253001_36.length : Int) - 1))] rfl (by (try simp only [List.map_toArray, List.map_cons, List.map_nil]); first | done | rfl | (simp only [List.length_drop, List.length_take]; rfl)) ?_; (with_reducible refine (pend_Release.calls kj67 _ _ x253000_36 _ _ x253001_36 (wrap64 ((x253001_36.length : Int) - 1)) t271 t274 t277 _ ?side1 ?side2 ?side3 ?side4 A86.out).mono ?_); (case side1 => repeat (first | exact (Kd.R_reads' HO_253000.out).2.2 | (with_reducible refine Kd.C_alloc ?_ _) | (with_reducible refine Kd.C_drewN ?_ _) | (with_reducible refine Kd.C_drew ?_))); (case side2 => exact (Kd.R_reads' HO_253000.out).2.1); (case side3 => repeat (first | exact (Kd.R_reads' HO_253001.out).2.2 | (with_reducible refine Kd.C_alloc ?_ _) | (with_reducible refine Kd.C_drewN ?_ _) | (with_reducible refine Kd.C_drew ?_))); (case side4 => exact (Kd.R_reads' HO_253001.out).2.1); rintro e w113 ⟨v272, v275, rfl, ho0, ho1, hb⟩; refine ⟨_, rfl, ?_⟩; have n0_ := mk0 (Kd.R_elder' (by (with_reducible repeat (first | apply Ra_ | apply Rn_ | apply Rd_)); exact HO_248000.out) (Kd.R_base ho0) hb); have n1_ := mk0 (Kd.R_elder' (by (with_reducible repeat (first | apply Ra_ | apply Rn_ | apply Rd_)); exact HO_248001.out) (Kd.R_base ho1) hb); have n2_ := mk0 (Kd.R_elder' (by (with_reducible repeat (first | apply Ra_ | apply Rn_ | apply Rd_)); exact HO_251000.out) (Kd.R_base ho0) hb); have n3_ := mk0 (Kd.R_elder' (by (with_reducible repeat (first | apply Ra_ | apply Rn_ | apply Rd_)); exact HO_251001.out) (Kd.R_base ho1) hb); have n4_ := mk0 (Kd.R_elder' (by (with_reducible repeat (first | apply Ra_ | apply Rn_ | apply Rd_)); exact HO_253000.out) (Kd.R_base ho0) hb); have n5_ := mk0 (Kd.R_elder' (by (with_reducible repeat (first | apply Ra_ | apply Rn_ | apply Rd_)); exact HO_253001.out) (Kd.R_base ho1) hb); have n6_ := mk0 (Kd.R_lower (Kd.R_new' (Kd.R_new' (Kd.R_new' ho0 (Kd.R_lt (by (with_reducible repeat (first | apply Ra_ | apply Rn_ | apply Rd_)); exact HO_248000.out))) (Kd.R_lt (by (with_reducible repeat (first | apply Ra_ | apply Rn_ | apply Rd_)); exact HO_251000.out))) (Kd.R_lt (by (with_reducible repeat (first | apply Ra_ | apply Rn_ | apply Rd_)); exact HO_253000.out))) (bz_ (by repeat (first | (with_reducible first | exact HB.out | apply bL_ | apply pN_ | apply b1_ | refine bs_ ?_ GE236.out | refine bs_ ?_ GE247.out | refine bs_ ?_ GE250.out | refine bs_ ?_ GE252.out) | exact HB.out)))); have n7_ := mk0 (Kd.R_lower (Kd.R_new' (Kd.R_new' (Kd.R_new' ho1 (Kd.R_lt (by (with_reducible repeat (first | apply Ra_ | apply Rn_ | apply Rd_)); exact HO_248001.out))) (Kd.R_lt (by (with_reducible repeat (first | apply Ra_ | apply Rn_ | apply Rd_)); exact HO_251001.out))) (Kd.R_lt (by (with_reducible repeat (first | apply Ra_ | apply Rn_ | apply Rd_)); exact HO_253001.out))) (bz_ (by repeat (first | (with_reducible first | exact HB.out | apply bL_ | apply pN_ | apply b1_ | refine bs_ ?_ GE236.out | refine bs_ ?_ GE247.out | refine bs_ ?_ GE250.out | refine bs_ ?_ GE252.out) | exact HB.out)))); have n8_ := mk0 (blk_below (g := gb236) (o := .cells #[.slice A0_0 l0_0.length c0_0, .slice A0_1 l0_1.length c0_1, .slice A0_2 l0_2.length c0_2] 47 (0, 0)) (by (with_reducible repeat (first | refine bN_ ?_ _ | refine bD_ ?_ | refine bA_ ?_ _)); exact BK236.out) hb); have n9_ := mk0 (blk_below (g := gb247) (o := .cells #[.slice Ao20 t239.length co20, .slice Ao23 t242.length co23] 44 (0, 0)) (by (with_reducible repeat (first | refine bN_ ?_ _ | refine bD_ ?_ | refine bA_ ?_ _)); exact BK247.out) hb); have n10_ := mk0 (blk_below (g := gb250) (o := .cells #[u251000, u251001] 44 (0, 0)) (by (with_reducible repeat (first | refine bN_ ?_ _ | refine bD_ ?_ | refine bA_ ?_ _)); exact BK250.out) hb); have n11_ := mk0 (blk_below (g := gb252) (o := .cells #[.slice Ao112 x253000_36.length co112, .slice Ao111 x253001_36.length co111] 44 (0, 0)) (by (with_reducible repeat (first | refine bN_ ?_ _ | refine bD_ ?_ | refine bA_ ?_ _)); exact BK252.out) hb); have n12_ := mk0 (bt_ (by repeat (first | (with_reducible first | exact HB.out | apply bL_ | apply pN_ | apply b1_ | refine bs_ ?_ GE236.out | refine bs_ ?_ GE247.out | refine bs_ ?_ GE250.out | refine bs_ ?_ GE252.out) | exact HB.out)) hb); clear HO_248000; clear HO_248001; clear HO_251000; clear HO_251001; clear HO_253000; clear HO_253001; clear BK236; clear BK247; clear BK250; clear BK252; clear HB; have HO_248000 := n0_; have HO_248001 := n1_; have HO_251000 := n2_; have HO_251001 := n3_; have HO_253000 := n4_; have HO_253001 := n5_; have HO273 := n6_; have HO276 := n7_; have BK236 := n8_; have BK247 := n9_; have BK250 := n10_; have BK252 := n11_; have HB := n12_; clear n0_ n1_ n2_ n3_ n4_ n5_ n6_ n7_ n8_ n9_ n10_ n11_ n12_; (try clear hb); (try clear hb2); (try clear hk); (try clear hi); (try clear ho0); (try clear ho1)) | ((with_reducible refine gate_dst (N := 10) rfl ?_); (try (refine gate_guard (by rfl) ?_; dsimp only)); refine box_event ?hg (N := 10) ?hd (cs := #[.slice none 0 0, .slice none 0 0]) (t := 44) ?hr ?_; (case hd => rfl); (case hg => rfl); (case hr => first | (go_simp; done) | (go_simp; rfl)); intro gb278 hg w114 hbox hb; have n0_ := mk0 (Kd.R_below (by (with_reducible repeat (first | apply Ra_ | apply Rn_ | apply Rd_)); exact HO_248000.out) hb); have n1_ := mk0 (Kd.R_below (by (with_reducible repeat (first | apply Ra_ | apply Rn_ | apply Rd_)); exact HO_248001.out) hb); have n2_ := mk0 (Kd.R_below (by (with_reducible repeat (first | apply Ra_ | apply Rn_ | apply Rd_)); exact HO_251000.out) hb); have n3_ := mk0 (Kd.R_below (by (with_reducible repeat (first | apply Ra_ | apply Rn_ | apply Rd_)); exact HO_251001.out) hb); have n4_ := mk0 (Kd.R_below (by (with_reducible repeat (first | apply Ra_ | apply Rn_ | apply Rd_)); exact HO_253000.out) hb); have n5_ := mk0 (Kd.R_below (by (with_reducible repeat (first | apply Ra_ | apply Rn_ | apply Rd_)); exact HO_253001.out) hb); have n6_ := mk0 (Kd.R_below (by (with_reducible repeat (first | apply Ra_ | apply Rn_ | apply Rd_)); exact HO273.out) hb); have n7_ := mk0 (Kd.R_below (by (with_reducible repeat (first | apply Ra_ | apply Rn_ | apply Rd_)); exact HO276.out) hb); have n8_ := mk0 (blk_below (g := gb236) (o := .cells #[.slice A0_0 l0_0.length c0_0, .slice A0_1 l0_1.length c0_1, .slice A0_2 l0_2.length c0_2] 47 (0, 0)) (by (with_reducible repeat (first | refine bN_ ?_ _ | refine bD_ ?_ | refine bA_ ?_ _)); exact BK236.out) hb); have n9_ := mk0 (blk_below (g := gb247) (o := .cells #[.slice Ao20 t239.length co20, .slice Ao23 t242.length co23] 44 (0, 0)) (by (with_reducible repeat (first | refine bN_ ?_ _ | refine bD_ ?_ | refine bA_ ?_ _)); exact BK247.out) hb); have n10_ := mk0 (blk_below (g := gb250) (o := .cells #[u251000, u251001] 44 (0, 0)) (by (with_reducible repeat (first | refine bN_ ?_ _ | refine bD_ ?_ | refine bA_ ?_ _)); exact BK250.out) hb); have n11_ := mk0 (blk_below (g := gb252) (o := .cells #[.slice Ao112 x253000_36.length co112, .slice Ao111 x253001_36.length co111] 44 (0, 0)) (by (with_reducible repeat (first | refine bN_ ?_ _ | refine bD_ ?_ | refine bA_ ?_ _)); exact BK252.out) hb); have n12_ := mk0 (bt_ (by repeat (first | (with_reducible first | exact HB.out | apply bL_ | apply pN_ | apply b1_ | refine bs_ ?_ GE236.out | refine bs_ ?_ GE247.out | refine bs_ ?_ GE250.out | refine bs_ ?_ GE252.out) | exact HB.out)) hb); have n13_ := mk0 (hbox); have n14_ := mk0 ((by rw [hg]; exact (bz_ (by repeat (first | (with_reducible first | exact HB.out | apply bL_ | apply pN_ | apply b1_ | refine bs_ ?_ GE236.out | refine bs_ ?_ GE247.out | refine bs_ ?_ GE250.out | refine bs_ ?_ GE252.out) | exact HB.out))) : w.heap.size ≤ gb278)); have n15_ := mk0 ((by rw [hg]; exact (bz_ (by repeat (first | (with_reducible first | exact HB.out | apply bL_ | apply pN_ | apply b1_ | refine bs_ ?_ GE236.out | refine bs_ ?_ GE247.out | refine bs_ ?_ GE250.out | refine bs_ ?_ GE252.out) | exact HB.out))) : w.heap.size ≤ gb278)); have n16_ := mk0 ((by rw [hg]; exact Nat.ne_of_lt (blk_lt (g := gb236) (o := .cells #[.slice A0_0 l0_0.length c0_0, .slice A0_1 l0_1.length c0_1, .slice A0_2 l0_2.length c0_2] 47 (0, 0)) (by (with_reducible repeat (first | refine bN_ ?_ _ | refine bD_ ?_ | refine bA_ ?_ _)); exact BK236.out)) : gb236 ≠ gb278)); have n17_ := mk0 ((by rw [hg]; exact Nat.ne_of_gt (blk_lt (g := gb236) (o := .cells #[.slice A0_0 l0_0.length c0_0, .slice A0_1 l0_1.length c0_1, .slice A0_2 l0_2.length c0_2] 47 (0, 0)) (by (with_reducible repeat (first | refine bN_ ?_ _ | refine bD_ ?_ | refine bA_ ?_ _)); exact BK236.out)) : gb278 ≠ gb236)); have n18_ := mk0 ((by rw [hg]; exact Nat.ne_of_lt (blk_lt (g := gb247) (o := .cells #[.slice Ao20 t239.length co20, .slice Ao23 t242.length co23] 44 (0, 0)) (by (with_reducible repeat (first | refine bN_ ?_ _ | refine bD_ ?_ | refine bA_ ?_ _)); exact BK247.out)) : gb247 ≠ gb278)); have n19_ := mk0 ((by rw [hg]; exact Nat.ne_of_gt (blk_lt (g := gb247) (o := .cells #[.slice Ao20 t239.length co20, .slice Ao23 t242.length co23] 44 (0, 0)) (by (with_reducible repeat (first | refine bN_ ?_ _ | refine bD_ ?_ | refine bA_ ?_ _)); exact BK247.out)) : gb278 ≠ gb247)); have n20_ := mk0 ((by rw [hg]; exact Nat.ne_of_lt (blk_lt (g := gb250) (o := .cells #[u251000, u251001] 44 (0, 0)) (by (with_reducible repeat (first | refine bN_ ?_ _ | refine bD_ ?_ | refine bA_ ?_ _)); exact BK250.out)) : gb250 ≠ gb278)); have n21_ := mk0 ((by rw [hg]; exact Nat.ne_of_gt (blk_lt (g := gb250) (o := .cells #[u251000, u251001] 44 (0, 0)) (by (with_reducible repeat (first | refine bN_ ?_ _ | refine bD_ ?_ | refine bA_ ?_ _)); exact BK250.out)) : gb278 ≠ gb250)); have n22_ := mk0 ((by rw [hg]; exact Nat.ne_of_lt (blk_lt (g := gb252) (o := .cells #[.slice Ao112 x253000_36.length co112, .slice Ao111 x253001_36.length co111] 44 (0, 0)) (by (with_reducible repeat (first | refine bN_ ?_ _ | refine bD_ ?_ | refine bA_ ?_ _)); exact BK252.out)) : gb252 ≠ gb278)); have n23_ := mk0 ((by rw [hg]; exact Nat.ne_of_gt (blk_lt (g := gb252) (o := .cells #[.slice Ao112 x253000_36.length co112, .slice Ao111 x253001_36.length co111] 44 (0, 0)) (by (with_reducible repeat (first | refine bN_ ?_ _ | refine bD_ ?_ | refine bA_ ?_ _)); exact BK252.out)) : gb278 ≠ gb252)); clear HO_248000; clear HO_248001; clear HO_251000; clear HO_251001; clear HO_253000; clear HO_253001; clear HO273; clear HO276; clear BK236; clear BK247; clear BK250; clear BK252; clear HB; have HO_248000 := n0_; have HO_248001 := n1_; have HO_251000 := n2_; have HO_251001 := n3_; have HO_253000 := n4_; have HO_253001 := n5_; have HO273 := n6_; have HO276 := n7_; have BK236 := n8_; have BK247 := n9_; have BK250 := n10_; have BK252 := n11_; have HB := n12_; have BK278 := n13_; have GW278 := n14_; have GE278 := n15_; have NB236_278 := n16_; have NB278_236 := n17_; have NB247_278 := n18_; have NB278_247 := n19_; have NB250_278 := n20_; have NB278_250 := n21_; have NB252_278 := n22_; have NB278_252 := n23_; clear n0_ n1_ n2_ n3_ n4_ n5_ n6_ n7_ n8_ n9_ n10_ n11_ n12_ n13_ n14_ n15_ n16_ n17_ n18_ n19_ n20_ n21_ n22_ n23_; clear hb hbox hg; obtain ⟨Ao115, co115, eo115⟩ := Kd.R_slice HO273.out; subst eo115; have hnb116 := NB278_236.out; have hnc116 := NB236_278.out; have hnb117 := NB278_247.out; have hnc117 := NB247_278.out; have hnb118 := NB278_250.out; have hnc118 := NB250_278.out; have hnb119 := NB278_252.out; have hnc119 := NB252_278.out; have hcz120_0 : w114.cell? ⟨gb278, 0, none⟩ = some (.slice none 0 0) := (blk_cell BK278.out 0).trans rfl; have hcz120_1 : w114.cell? ⟨gb278, 1, none⟩ = some (.slice none 0 0) := (blk_cell BK278.out 1).trans rfl; have hfz120_0 := blk_frozen BK278.out 0; have hfz120_1 := blk_frozen BK278.out 1; obtain ⟨Ao121, co121, eo121⟩ := Kd.R_slice HO276.out; subst eo121) | ((with_reducible refine gate_callee (f := 25) rfl ?_); refine goesL_ (some 103) rfl rfl Try.func25 (by kernel_rfl) rfl #[.int .i64 t277] rfl (by (try simp only [List.map_toArray, List.map_cons, List.map_nil]); first | done | rfl | (simp only [List.length_drop, List.length_take]; rfl)) ?_; (with_reducible refine (quorumlaw10_num.calls t277 t279 _ A87.out).mono ?_); rintro e w' ⟨rfl, ⟨nd, rfl⟩⟩; refine ⟨_, rfl, ?_⟩; have hcz122_0 : w114.cell? ⟨gb252, 0, none⟩ = some (.slice Ao112 x253000_36.length co112) := (blk_cell BK252.out 0).trans rfl; have hcz122_1 : w114.cell? ⟨gb252, 1, none⟩ = some (.slice Ao111 x253001_36.length co111) := (blk_cell BK252.out 1).trans rfl; have hfz122_0 := blk_frozen BK252.out 0; have hfz122_1 := blk_frozen BK252.out 1) | (go_at_call 29; (with_reducible refine (quorumref0_EqWrites.calls kj67 _ _ t271 _ _ x253000_36 false _ ?side1 ?side2 ?side3 ?side4 A89.out).mono ?_); (case side1 => refine (Kd.R_reads' (e := 55) (base := w.heap.size) (ok := fun k_ => (((True ∧ some k_ ≠ (.slice Ao20 t239.length co20 : Value).ownBlock) ∧ some k_ ≠ (u251000 : Value).ownBlock) ∧ some k_ ≠ (.slice Ao112 x253000_36.length co112 : Value).ownBlock)) (n := t271.length) (c := co115) ?_).2.2; exact (by (with_reducible repeat (first | apply Ra_ | apply Rn_ | apply Rd_)); exact (Kd.R_mono (Kd.R_far (p := ⟨gb278, 1, none⟩) (Kd.R_far (p := ⟨gb278, 0, none⟩) (Kd.R_types HO273.out BK278.out (by decide)) (fun _ hk => hk.2) (.slice Ao115 t271.length co115)) (fun _ hk => hk.2) (.slice Ao121 t274.length co121)) (fun _ h_ => h_.1)))); (case side2 => exact (Kd.R_reads' HO273.out).2.1); (case side3 => refine (Kd.R_reads' (e := 55) (base := w.heap.size) (ok := fun k_ => ((some k_ ≠ (.slice Ao20 t239.length co20 : Value).ownBlock ∧ some k_ ≠ (u251000 : Value).ownBlock) ∧ some k_ ≠ (.slice Ao115 t271.length co115 : Value).ownBlock)) (n := x253000_36.length) (c := co112) ?_).2.2; exact (by (with_reducible repeat (first | apply Ra_ | apply Rn_ | apply Rd_)); exact (Kd.R_mono (Kd.R_far (p := ⟨gb278, 1, none⟩) (Kd.R_far (p := ⟨gb278, 0, none⟩) (Kd.R_types HO_253000.out BK278.out (by decide)) (fun _ hk => hk.2) (.slice Ao115 t271.length co115)) (fun _ hk => hk.2) (.slice Ao121 t274.length co121)) (fun _ h_ => h_.1)))); (case side4 => exact (Kd.R_reads' HO_253000.out).2.1); rintro e w' ⟨rfl, ⟨nd, rfl⟩⟩))
                   go_ret
                   exact ⟨by first | rfl | (simp [errW_none, errW_some] <;> rfl) | (simp [*, errW_none, errW_some] <;> rfl), by repeat (first | (with_reducible first | exact HB.out | apply bL_ | apply pN_ | apply b1_ | refine bs_ ?_ GE236.out | refine bs_ ?_ GE247.out | refine bs_ ?_ GE250.out | refine bs_ ?_ GE252.out | refine bs_ ?_ GE278.out) | exact HB.out)⟩
                 ·rw [if_neg c88] at H
                  have c88b0 : (t279 == 0) = false := beq_eq_false_iff_ne.mpr c88
                  have c88b1 : (t279 != 0) = true := bne_iff_ne.mpr c88
                  (first | rw [c88b0] | (simp only [i64_w, i32_w]; rw [c88b0]) | skip)
                  obtain rfl := Option.some.inj H
                  have hnb123 := NB252_236.out
                  have hnc123 := NB236_252.out
                  have hnb124 := NB252_247.out
                  have hnc124 := NB247_252.out
                  have hnb125 := NB252_250.out
                  have hnc125 := NB250_252.out
                  have hcz126_0 : wc.cell? ⟨gb252, 0, none⟩ = some (u253000) := (blk_cell BK252.out 0).trans rfl
                  have hcz126_1 : wc.cell? ⟨gb252, 1, none⟩ = some (u253001) := (blk_cell BK252.out 1).trans rfl
                  have hfz126_0 := blk_frozen BK252.out 0
                  have hfz126_1 := blk_frozen BK252.out 1
                  obtain ⟨Ao127, co127, eo127⟩ := Kd.R_slice HO_253001.out
                  subst eo127
                  obtain ⟨Ao128, co128, eo128⟩ := Kd.R_slice HO_253000.out
                  subst eo128
                  go_wp2_with (first | ((with_reducible refine gate_callee (f := 28) rfl ?_); refine goesL_ (some 99) rfl rfl Try.func28 (by kernel_rfl) rfl #[.agg #[.slice Ao128 x253000_36.length co128, .slice Ao127 x253001_36.length co127], .int .i64 (wrap64 ((x253001_36.length : Int) - 1))] rfl (by (try simp only [List.map_toArray, List.map_cons, List.map_nil]); first | done | rfl | (simp only [List.length_drop, List.length_take]; rfl)) ?_; (with_reducible refine (pend_Release.calls kj67 _ _ x253000_36 _ _ x253001_36 (wrap64 ((x253001_36.length : Int) - 1)) t271 t274 t277 _ ?side1 ?side2 ?side3 ?side4 A86.out).mono ?_); (case side1 => repeat (first | exact (Kd.R_reads' HO_253000.out).2.2 | (with_reducible refine Kd.C_alloc ?_ _) | (with_reducible refine Kd.C_drewN ?_ _) | (with_reducible refine Kd.C_drew ?_))); (case side2 => exact (Kd.R_reads' HO_253000.out).2.1); (case side3 => repeat (first | exact (Kd.R_reads' HO_253001.out).2.2 | (with_reducible refine Kd.C_alloc ?_ _) | (with_reducible refine Kd.C_drewN ?_ _) | (with_reducible refine Kd.C_drew ?_))); (case side4 => exact (Kd.R_reads' HO_253001.out).2.1); rintro e w129 ⟨v272, v275, rfl, ho0, ho1, hb⟩; refine ⟨_, rfl, ?_⟩; have n0_ := mk0 (Kd.R_elder' (by (with_reducible repeat (first | apply Ra_ | apply Rn_ | apply Rd_)); exact HO_248000.out) (Kd.R_base ho0) hb); have n1_ := mk0 (Kd.R_elder' (by (with_reducible repeat (first | apply Ra_ | apply Rn_ | apply Rd_)); exact HO_248001.out) (Kd.R_base ho1) hb); have n2_ := mk0 (Kd.R_elder' (by (with_reducible repeat (first | apply Ra_ | apply Rn_ | apply Rd_)); exact HO_251000.out) (Kd.R_base ho0) hb); have n3_ := mk0 (Kd.R_elder' (by (with_reducible repeat (first | apply Ra_ | apply Rn_ | apply Rd_)); exact HO_251001.out) (Kd.R_base ho1) hb); have n4_ := mk0 (Kd.R_elder' (by (with_reducible repeat (first | apply Ra_ | apply Rn_ | apply Rd_)); exact HO_253000.out) (Kd.R_base ho0) hb); have n5_ := mk0 (Kd.R_elder' (by (with_reducible repeat (first | apply Ra_ | apply Rn_ | apply Rd_)); exact HO_253001.out) (Kd.R_base ho1) hb); have n6_ := mk0 (Kd.R_lower (Kd.R_new' (Kd.R_new' (Kd.R_new' ho0 (Kd.R_lt (by (with_reducible repeat (first | apply Ra_ | apply Rn_ | apply Rd_)); exact HO_248000.out))) (Kd.R_lt (by (with_reducible repeat (first | apply Ra_ | apply Rn_ | apply Rd_)); exact HO_251000.out))) (Kd.R_lt (by (with_reducible repeat (first | apply Ra_ | apply Rn_ | apply Rd_)); exact HO_253000.out))) (bz_ (by repeat (first | (with_reducible first | exact HB.out | apply bL_ | apply pN_ | apply b1_ | refine bs_ ?_ GE236.out | refine bs_ ?_ GE247.out | refine bs_ ?_ GE250.out | refine bs_ ?_ GE252.out) | exact HB.out)))); have n7_ := mk0 (Kd.R_lower (Kd.R_new' (Kd.R_new' (Kd.R_new' ho1 (Kd.R_lt (by (with_reducible repeat (first | apply Ra_ | apply Rn_ | apply Rd_)); exact HO_248001.out))) (Kd.R_lt (by (with_reducible repeat (first | apply Ra_ | apply Rn_ | apply Rd_)); exact HO_251001.out))) (Kd.R_lt (by (with_reducible repeat (first | apply Ra_ | apply Rn_ | apply Rd_)); exact HO_253001.out))) (bz_ (by repeat (first | (with_reducible first | exact HB.out | apply bL_ | apply pN_ | apply b1_ | refine bs_ ?_ GE236.out | refine bs_ ?_ GE247.out | refine bs_ ?_ GE250.out | refine bs_ ?_ GE252.out) | exact HB.out)))); have n8_ := mk0 (blk_below (g := gb236) (o := .cells #[.slice A0_0 l0_0.length c0_0, .slice A0_1 l0_1.length c0_1, .slice A0_2 l0_2.length c0_2] 47 (0, 0)) (by (with_reducible repeat (first | refine bN_ ?_ _ | refine bD_ ?_ | refine bA_ ?_ _)); exact BK236.out) hb); have n9_ := mk0 (blk_below (g := gb247) (o := .cells #[.slice Ao20 t239.length co20, .slice Ao23 t242.length co23] 44 (0, 0)) (by (with_reducible repeat (first | refine bN_ ?_ _ | refine bD_ ?_ | refine bA_ ?_ _)); exact BK247.out) hb); have n10_ := mk0 (blk_below (g := gb250) (o := .cells #[u251000, u251001] 44 (0, 0)) (by (with_reducible repeat (first | refine bN_ ?_ _ | refine bD_ ?_ | refine bA_ ?_ _)); exact BK250.out) hb); have n11_ := mk0 (blk_below (g := gb252) (o := .cells #[.slice Ao128 x253000_36.length co128, .slice Ao127 x253001_36.length co127] 44 (0, 0)) (by (with_reducible repeat (first | refine bN_ ?_ _ | refine bD_ ?_ | refine bA_ ?_ _)); exact BK252.out) hb); have n12_ := mk0 (bt_ (by repeat (first | (with_reducible first | exact HB.out | apply bL_ | apply pN_ | apply b1_ | refine bs_ ?_ GE236.out | refine bs_ ?_ GE247.out | refine bs_ ?_ GE250.out | refine bs_ ?_ GE252.out) | exact HB.out)) hb); clear HO_248000; clear HO_248001; clear HO_251000; clear HO_251001; clear HO_253000; clear HO_253001; clear BK236; clear BK247; clear BK250; clear BK252; clear HB; have HO_248000 := n0_; have HO_248001 := n1_; have HO_251000 := n2_; have HO_251001 := n3_; have HO_253000 := n4_; have HO_253001 := n5_; have HO273 := n6_; have HO276 := n7_; have BK236 := n8_; have BK247 := n9_; have BK250 := n10_; have BK252 := n11_; have HB := n12_; clear n0_ n1_ n2_ n3_ n4_ n5_ n6_ n7_ n8_ n9_ n10_ n11_ n12_; (try clear hb); (try clear hb2); (try clear hk); (try clear hi); (try clear ho0); (try clear ho1)) | ((with_reducible refine gate_dst (N := 10) rfl ?_); (try (refine gate_guard (by rfl) ?_; dsimp only)); refine box_event ?hg (N := 10) ?hd (cs := #[.slice none 0 0, .slice none 0 0]) (t := 44) ?hr ?_; (case hd => rfl); (case hg => rfl); (case hr => first | (go_simp; done) | (go_simp; rfl)); intro gb278 hg w130 hbox hb; have n0_ := mk0 (Kd.R_below (by (with_reducible repeat (first | apply Ra_ | apply Rn_ | apply Rd_)); exact HO_248000.out) hb); have n1_ := mk0 (Kd.R_below (by (with_reducible repeat (first | apply Ra_ | apply Rn_ | apply Rd_)); exact HO_248001.out) hb); have n2_ := mk0 (Kd.R_below (by (with_reducible repeat (first | apply Ra_ | apply Rn_ | apply Rd_)); exact HO_251000.out) hb); have n3_ := mk0 (Kd.R_below (by (with_reducible repeat (first | apply Ra_ | apply Rn_ | apply Rd_)); exact HO_251001.out) hb); have n4_ := mk0 (Kd.R_below (by (with_reducible repeat (first | apply Ra_ | apply Rn_ | apply Rd_)); exact HO_253000.out) hb); have n5_ := mk0 (Kd.R_below (by (with_reducible repeat (first | apply Ra_ | apply Rn_ | apply Rd_)); exact HO_253001.out) hb); have n6_ := mk0 (Kd.R_below (by (with_reducible repeat (first | apply Ra_ | apply Rn_ | apply Rd_)); exact HO273.out) hb); have n7_ := mk0 (Kd.R_below (by (with_reducible repeat (first | apply Ra_ | apply Rn_ | apply Rd_)); exact HO276.out) hb); have n8_ := mk0 (blk_below (g := gb236) (o := .cells #[.slice A0_0 l0_0.length c0_0, .slice A0_1 l0_1.length c0_1, .slice A0_2 l0_2.length c0_2] 47 (0, 0)) (by (with_reducible repeat (first | refine bN_ ?_ _ | refine bD_ ?_ | refine bA_ ?_ _)); exact BK236.out) hb); have n9_ := mk0 (blk_below (g := gb247) (o := .cells #[.slice Ao20 t239.length co20, .slice Ao23 t242.length co23] 44 (0, 0)) (by (with_reducible repeat (first | refine bN_ ?_ _ | refine bD_ ?_ | refine bA_ ?_ _)); exact BK247.out) hb); have n10_ := mk0 (blk_below (g := gb250) (o := .cells #[u251000, u251001] 44 (0, 0)) (by (with_reducible repeat (first | refine bN_ ?_ _ | refine bD_ ?_ | refine bA_ ?_ _)); exact BK250.out) hb); have n11_ := mk0 (blk_below (g := gb252) (o := .cells #[.slice Ao128 x253000_36.length co128, .slice Ao127 x253001_36.length co127] 44 (0, 0)) (by (with_reducible repeat (first | refine bN_ ?_ _ | refine bD_ ?_ | refine bA_ ?_ _)); exact BK252.out) hb); have n12_ := mk0 (bt_ (by repeat (first | (with_reducible first | exact HB.out | apply bL_ | apply pN_ | apply b1_ | refine bs_ ?_ GE236.out | refine bs_ ?_ GE247.out | refine bs_ ?_ GE250.out | refine bs_ ?_ GE252.out) | exact HB.out)) hb); have n13_ := mk0 (hbox); have n14_ := mk0 ((by rw [hg]; exact (bz_ (by repeat (first | (with_reducible first | exact HB.out | apply bL_ | apply pN_ | apply b1_ | refine bs_ ?_ GE236.out | refine bs_ ?_ GE247.out | refine bs_ ?_ GE250.out | refine bs_ ?_ GE252.out) | exact HB.out))) : w.heap.size ≤ gb278)); have n15_ := mk0 ((by rw [hg]; exact (bz_ (by repeat (first | (with_reducible first | exact HB.out | apply bL_ | apply pN_ | apply b1_ | refine bs_ ?_ GE236.out | refine bs_ ?_ GE247.out | refine bs_ ?_ GE250.out | refine bs_ ?_ GE252.out) | exact HB.out))) : w.heap.size ≤ gb278)); have n16_ := mk0 ((by rw [hg]; exact Nat.ne_of_lt (blk_lt (g := gb236) (o := .cells #[.slice A0_0 l0_0.length c0_0, .slice A0_1 l0_1.length c0_1, .slice A0_2 l0_2.length c0_2] 47 (0, 0)) (by (with_reducible repeat (first | refine bN_ ?_ _ | refine bD_ ?_ | refine bA_ ?_ _)); exact BK236.out)) : gb236 ≠ gb278)); have n17_ := mk0 ((by rw [hg]; exact Nat.ne_of_gt (blk_lt (g := gb236) (o := .cells #[.slice A0_0 l0_0.length c0_0, .slice A0_1 l0_1.length c0_1, .slice A0_2 l0_2.length c0_2] 47 (0, 0)) (by (with_reducible repeat (first | refine bN_ ?_ _ | refine bD_ ?_ | refine bA_ ?_ _)); exact BK236.out)) : gb278 ≠ gb236)); have n18_ := mk0 ((by rw [hg]; exact Nat.ne_of_lt (blk_lt (g := gb247) (o := .cells #[.slice Ao20 t239.length co20, .slice Ao23 t242.length co23] 44 (0, 0)) (by (with_reducible repeat (first | refine bN_ ?_ _ | refine bD_ ?_ | refine bA_ ?_ _)); exact BK247.out)) : gb247 ≠ gb278)); have n19_ := mk0 ((by rw [hg]; exact Nat.ne_of_gt (blk_lt (g := gb247) (o := .cells #[.slice Ao20 t239.length co20, .slice Ao23 t242.length co23] 44 (0, 0)) (by (with_reducible repeat (first | refine bN_ ?_ _ | refine bD_ ?_ | refine bA_ ?_ _)); exact BK247.out)) : gb278 ≠ gb247)); have n20_ := mk0 ((by rw [hg]; exact Nat.ne_of_lt (blk_lt (g := gb250) (o := .cells #[u251000, u251001] 44 (0, 0)) (by (with_reducible repeat (first | refine bN_ ?_ _ | refine bD_ ?_ | refine bA_ ?_ _)); exact BK250.out)) : gb250 ≠ gb278)); have n21_ := mk0 ((by rw [hg]; exact Nat.ne_of_gt (blk_lt (g := gb250) (o := .cells #[u251000, u251001] 44 (0, 0)) (by (with_reducible repeat (first | refine bN_ ?_ _ | refine bD_ ?_ | refine bA_ ?_ _)); exact BK250.out)) : gb278 ≠ gb250)); have n22_ := mk0 ((by rw [hg]; exact Nat.ne_of_lt (blk_lt (g := gb252) (o := .cells #[.slice Ao128 x253000_36.length co128, .slice Ao127 x253001_36.length co127] 44 (0, 0)) (by (with_reducible repeat (first | refine bN_ ?_ _ | refine bD_ ?_ | refine bA_ ?_ _)); exact BK252.out)) : gb252 ≠ gb278)); have n23_ := mk0 ((by rw [hg]; exact Nat.ne_of_gt (blk_lt (g := gb252) (o := .cells #[.slice Ao128 x253000_36.length co128, .slice Ao127 x253001_36.length co127] 44 (0, 0)) (by (with_reducible repeat (first | refine bN_ ?_ _ | refine bD_ ?_ | refine bA_ ?_ _)); exact BK252.out)) : gb278 ≠ gb252)); clear HO_248000; clear HO_248001; clear HO_251000; clear HO_251001; clear HO_253000; clear HO_253001; clear HO273; clear HO276; clear BK236; clear BK247; clear BK250; clear BK252; clear HB; have HO_248000 := n0_; have HO_248001 := n1_; have HO_251000 := n2_; have HO_251001 := n3_; have HO_253000 := n4_; have HO_253001 := n5_; have HO273 := n6_; have HO276 := n7_; have BK236 := n8_; have BK247 := n9_; have BK250 := n10_; have BK252 := n11_; have HB := n12_; have BK278 := n13_; have GW278 := n14_; have GE278 := n15_; have NB236_278 := n16_; have NB278_236 := n17_; have NB247_278 := n18_; have NB278_247 := n19_; have NB250_278 := n20_; have NB278_250 := n21_; have NB252_278 := n22_; have NB278_252 := n23_; clear n0_ n1_ n2_ n3_ n4_ n5_ n6_ n7_ n8_ n9_ n10_ n11_ n12_ n13_ n14_ n15_ n16_ n17_ n18_ n19_ n20_ n21_ n22_ n23_; clear hb hbox hg; obtain ⟨Ao131, co131, eo131⟩ := Kd.R_slice HO273.out; subst eo131; have hnb132 := NB278_236.out; have hnc132 := NB236_278.out; have hnb133 := NB278_247.out; have hnc133 := NB247_278.out; have hnb134 := NB278_250.out; have hnc134 := NB250_278.out; have hnb135 := NB278_252.out; have hnc135 := NB252_278.out; have hcz136_0 : w130.cell? ⟨gb278, 0, none⟩ = some (.slice none 0 0) := (blk_cell BK278.out 0).trans rfl; have hcz136_1 : w130.cell? ⟨gb278, 1, none⟩ = some (.slice none 0 0) := (blk_cell BK278.out 1).trans rfl; have hfz136_0 := blk_frozen BK278.out 0; have hfz136_1 := blk_frozen BK278.out 1; obtain ⟨Ao137, co137, eo137⟩ := Kd.R_slice HO276.out; subst eo137) | ((with_reducible refine gate_callee (f := 25) rfl ?_); refine goesL_ (some 103) rfl rfl Try.func25 (by kernel_rfl) rfl #[.int .i64 t277] rfl (by (try simp only [List.map_toArray, List.map_cons, List.map_nil]); first | done | rfl | (simp only [List.length_drop, List.length_take]; rfl)) ?_; (with_reducible refine (quorumlaw10_num.calls t277 t279 _ A87.out).mono ?_); rintro e w' ⟨rfl, ⟨nd, rfl⟩⟩; refine ⟨_, rfl, ?_⟩))
                  go_ret
                  exact ⟨by first | rfl | (simp [errW_none, errW_some] <;> rfl) | (simp [*, errW_none, errW_some] <;> rfl), by repeat (first | (with_reducible first | exact HB.out | apply bL_ | apply pN_ | apply b1_ | refine bs_ ?_ GE236.out | refine bs_ ?_ GE247.out | refine bs_ ?_ GE250.out | refine bs_ ?_ GE252.out | refine bs_ ?_ GE278.out) | exact HB.out)⟩
                ·replace c85 := Bool.eq_false_iff.mpr c85
                 subst c85
                 have H1 : (quorumlaw10_PendBack.j6 kj67 t245 x7_2 l0_0 l0_1 l0_2 t239 t242 x253000_36 x253001_36) = some r := by rw [if_neg (show ¬ (false = true) by decide)] at H; exact H
                 clear H
                 have H := H1
                 clear H1
                 have H' := mk0 H
                 clear H
                 go_wp2
                 go_meet
                 case rel => exact ⟨_, (x253000_36), (x253001_36), (u253000), (u253001), H', ⟨by have := HJ1.out; have := HK2.out; have := HJ27.out; have := HJ36.out; have := HJ67.out; first | omega | exact Nat.le_refl _⟩, ⟨by (with_reducible repeat (first | apply Ra_ | apply Rn_ | apply Rd_)); exact HO_248000.out⟩, ⟨by (with_reducible repeat (first | apply Ra_ | apply Rn_ | apply Rd_)); exact HO_248001.out⟩, ⟨by (with_reducible repeat (first | apply Ra_ | apply Rn_ | apply Rd_)); exact HO_251000.out⟩, ⟨by (with_reducible repeat (first | apply Ra_ | apply Rn_ | apply Rd_)); exact HO_251001.out⟩, ⟨by (with_reducible repeat (first | apply Ra_ | apply Rn_ | apply Rd_)); exact HO_253000.out⟩, ⟨by (with_reducible repeat (first | apply Ra_ | apply Rn_ | apply Rd_)); exact HO_253001.out⟩, ⟨by (with_reducible repeat (first | refine bN_ ?_ _ | refine bD_ ?_ | refine bA_ ?_ _)); exact BK236.out⟩, ⟨by (with_reducible repeat (first | refine bN_ ?_ _ | refine bD_ ?_ | refine bA_ ?_ _)); exact BK247.out⟩, ⟨by (with_reducible repeat (first | refine bN_ ?_ _ | refine bD_ ?_ | refine bA_ ?_ _)); exact BK250.out⟩, ⟨by (with_reducible repeat (first | refine bN_ ?_ _ | refine bD_ ?_ | refine bA_ ?_ _)); exact BK252.out⟩, ⟨by repeat (first | (with_reducible first | exact HB.out | apply bL_ | apply pN_ | apply b1_ | refine bs_ ?_ GE236.out | refine bs_ ?_ GE247.out | refine bs_ ?_ GE250.out | refine bs_ ?_ GE252.out) | exact HB.out)⟩⟩
               case rest =>
                clear HC84
                try clear c1
                try clear c2
                try clear p2
                try clear q2
                try clear hx2
                try clear c3
                try clear c4
                try clear c5
                try clear c6
                try clear p6
                try clear c7
                try clear c8
                try clear c9
                try clear c10
                try clear c11
                try clear c12
                try clear c13
                try clear c16
                try clear c16b0
                try clear c16b1
                try clear c21
                try clear c22
                try clear c24
                try clear c25
                try clear p25
                try clear q25
                try clear hx25
                try clear c26
                try clear c27
                try clear p27
                try clear q27
                try clear hx27
                try clear c28
                try clear c29
                try clear c29b0
                try clear c30
                try clear c31
                try clear c33
                try clear c34
                try clear c36
                try clear c40
                try clear c40b0
                try clear c40b1
                try clear c41
                try clear c42
                try clear c42b0
                try clear c43
                try clear c43b0
                try clear c54
                try clear c55
                try clear c56
                try clear c62
                try clear c63
                try clear p64
                try clear c67
                try clear c67b0
                try clear c67b1
                try clear c69
                try clear c69b0
                try clear c70
                try clear c70b0
                try clear c71
                try clear c71b0
                try clear c71b1
                try clear c72
                try clear c73
                try clear c74
                try clear c76
                try clear c77
                try clear c80
                try clear c81
                try clear c82
                try clear c85
                try clear c88
                try clear c88b0
                try clear c88b1
                try clear c90
                try clear c91
                try clear c92
                try clear c93
                try clear c100
                try clear c101
                try clear c102
                try clear c103
                try clear c107
                try clear c108
                try clear c109
                try clear c116
                try clear c117
                try clear c118
                try clear c119
                try clear c123
                try clear c124
                try clear c125
                try clear c132
                try clear c133
                try clear c134
                try clear c135
                try clear hcz104_0
                try clear hcz104_1
                try clear hcz106_0
                try clear hcz106_1
                try clear hcz110_0
                try clear hcz110_1
                try clear hcz11_0
                try clear hcz11_1
                try clear hcz11_2
                try clear hcz120_0
                try clear hcz120_1
                try clear hcz122_0
                try clear hcz122_1
                try clear hcz126_0
                try clear hcz126_1
                try clear hcz136_0
                try clear hcz136_1
                try clear hcz17_0
                try clear hcz17_1
                try clear hcz17_2
                try clear hcz22_0
                try clear hcz22_1
                try clear hcz27_0
                try clear hcz27_1
                try clear hcz32_0
                try clear hcz32_1
                try clear hcz32_2
                try clear hcz35_0
                try clear hcz35_1
                try clear hcz35_2
                try clear hcz57_0
                try clear hcz57_1
                try clear hcz64_0
                try clear hcz64_1
                try clear hcz6_0
                try clear hcz6_1
                try clear hcz6_2
                try clear hcz75_0
                try clear hcz75_1
                try clear hcz75_2
                try clear hcz78_0
                try clear hcz78_1
                try clear hcz83_0
                try clear hcz83_1
                try clear hcz83_2
                try clear hcz94_0
                try clear hcz94_1
                try clear hcz9_0
                try clear hcz9_1
                try clear hcz9_2
                try clear hfz104_0
                try clear hfz104_1
                try clear hfz106_0
                try clear hfz106_1
                try clear hfz110_0
                try clear hfz110_1
                try clear hfz11_0
                try clear hfz11_1
                try clear hfz11_2
                try clear hfz120_0
                try clear hfz120_1
                try clear hfz122_0
                try clear hfz122_1
                try clear hfz126_0
                try clear hfz126_1
                try clear hfz136_0
                try clear hfz136_1
                try clear hfz17_0
                try clear hfz17_1
                try clear hfz17_2
                try clear hfz22_0
                try clear hfz22_1
                try clear hfz27_0
                try clear hfz27_1
                try clear hfz32_0
                try clear hfz32_1
                try clear hfz32_2
                try clear hfz35_0
                try clear hfz35_1
                try clear hfz35_2
                try clear hfz57_0
                try clear hfz57_1
                try clear hfz64_0
                try clear hfz64_1
                try clear hfz6_0
                try clear hfz6_1
                try clear hfz6_2
                try clear hfz75_0
                try clear hfz75_1
                try clear hfz75_2
                try clear hfz78_0
                try clear hfz78_1
                try clear hfz83_0
                try clear hfz83_1
                try clear hfz83_2
                try clear hfz94_0
                try clear hfz94_1
                try clear hfz9_0
                try clear hfz9_1
                try clear hfz9_2
                try clear hx253_0
                try clear hx253_1
                try clear hx253_2
                try clear hx253_3
                try clear hx253_4
                try clear hx253_5
                try clear hx270_0
                try clear hx270_1
                try clear hx270_2
                try clear hx270_3
                try clear hx270_4
                try clear hx270_5
                try clear p2
                try clear p25
                try clear p253
                try clear p27
                try clear p270
                try clear p6
                try clear p64
                try clear q2
                try clear q25
                try clear q253
                try clear q27
                try clear q270
                obtain ⟨kq, x253000_83, x253001_83, u253000, u253001, HA, HJ83, HO_248000, HO_248001, HO_251000, HO_251001, HO_253000, HO_253001, BK236, BK247, BK250, BK252, HB⟩ := hcut
                cases kq with
                | zero => exact absurd HA.out (by simp [quorumlaw10_PendBack.j6])
                | succ kj83 =>
                 have H := HA.out
                 clear HA
                 simp only [quorumlaw10_PendBack.j6] at H
                 replace H := Option.bind_eq_some_iff.mp H
                 obtain ⟨⟨t281, t284, t287⟩, A1380, H⟩ := H
                 replace H : ((quorumlaw10_num.f t287).bind fun t289 => (if t289 = 0 then ((quorumref0_EqPend.f kj83 t281 t284 t239 t242).bind fun t290 => (if t290 = true then (quorumlaw10_PendBack.l0 kj83 t245 (wrap64 (x7_2 + 1)) l0_0 l0_1 l0_2 t239 t242 x253000_83 x253001_83) else (some false))) else (some false))) = some r := H
                 have A138 := mk0 A1380
                 clear A1380
                 replace H := Option.bind_eq_some_iff.mp H
                 obtain ⟨t289, A1390, H⟩ := H
                 replace H : (if t289 = 0 then ((quorumref0_EqPend.f kj83 t281 t284 t239 t242).bind fun t290 => (if t290 = true then (quorumlaw10_PendBack.l0 kj83 t245 (wrap64 (x7_2 + 1)) l0_0 l0_1 l0_2 t239 t242 x253000_83 x253001_83) else (some false))) else (some false)) = some r := H
                 have A139 := mk0 A1390
                 clear A1390
                 by_cases c140 : t289 = 0
                 ·rw [if_pos c140] at H
                  have c140b0 : (t289 == 0) = true := beq_iff_eq.mpr c140
                  have c140b1 : (t289 != 0) = false := bne_eq_false_iff_eq.mpr c140
                  clear c140
                  replace H := Option.bind_eq_some_iff.mp H
                  obtain ⟨t290, A1410, H⟩ := H
                  replace H : (if t290 = true then (quorumlaw10_PendBack.l0 kj83 t245 (wrap64 (x7_2 + 1)) l0_0 l0_1 l0_2 t239 t242 x253000_83 x253001_83) else (some false)) = some r := H
                  have A141 := mk0 A1410
                  clear A1410
                  by_cases c142 : t290 = true
                  ·subst c142
                   have H1 : (quorumlaw10_PendBack.l0 kj83 t245 (wrap64 (x7_2 + 1)) l0_0 l0_1 l0_2 t239 t242 x253000_83 x253001_83) = some r := by rw [if_pos rfl] at H; exact H
                   clear H
                   have H := H1
                   clear H1
                   have H' := mk0 H
                   clear H
                   have hnb143 := NB252_236.out
                   have hnc143 := NB236_252.out
                   have hnb144 := NB252_247.out
                   have hnc144 := NB247_252.out
                   have hnb145 := NB252_250.out
                   have hnc145 := NB250_252.out
                   have hcz146_0 : wc.cell? ⟨gb252, 0, none⟩ = some (u253000) := (blk_cell BK252.out 0).trans rfl
                   have hcz146_1 : wc.cell? ⟨gb252, 1, none⟩ = some (u253001) := (blk_cell BK252.out 1).trans rfl
                   have hfz146_0 := blk_frozen BK252.out 0
                   have hfz146_1 := blk_frozen BK252.out 1
                   obtain ⟨Ao147, co147, eo147⟩ := Kd.R_slice HO_253000.out
                   subst eo147
                   have hnb148 := NB250_236.out
                   have hnc148 := NB236_250.out
                   have hnb149 := NB250_247.out
                   have hnc149 := NB247_250.out
                   have hcz150_0 : wc.cell? ⟨gb250, 0, none⟩ = some (u251000) := (blk_cell BK250.out 0).trans rfl
                   have hcz150_1 : wc.cell? ⟨gb250, 1, none⟩ = some (u251001) := (blk_cell BK250.out 1).trans rfl
                   have hfz150_0 := blk_frozen BK250.out 0
                   have hfz150_1 := blk_frozen BK250.out 1
                   obtain ⟨Ao151, co151, eo151⟩ := Kd.R_slice HO_253001.out
                   subst eo151
                   go_wp2_with (first | ((with_reducible refine gate_callee (f := 30) rfl ?_); refine goesL_ (some 118) rfl rfl Try.func30 (by kernel_rfl) rfl #[.agg #[.slice Ao147 x253000_83.length co147, .slice Ao151 x253001_83.length co151], .int .i64 t245] rfl (by (try simp only [List.map_toArray, List.map_cons, List.map_nil]); first | done | rfl | (simp only [List.length_drop, List.length_take]; rfl)) ?_; (with_reducible refine (pend_Return.calls kj83 _ _ x253000_83 _ _ x253001_83 t245 t281 t284 t287 _ ?side1 ?side2 ?side3 ?side4 A138.out).mono ?_); (case side1 => refine (Kd.R_reads' (e := 55) (base := w.heap.size) (ok := fun k_ => (some k_ ≠ (.slice Ao20 t239.length co20 : Value).ownBlock ∧ some k_ ≠ (u251000 : Value).ownBlock)) (n := x253000_83.length) (c := co147) ?_).2.2; exact (by (with_reducible repeat (first | apply Ra_ | apply Rn_ | apply Rd_)); exact (Kd.R_mono (Kd.R_far (p := ⟨gb250, 1, none⟩) (Kd.R_far (p := ⟨gb250, 0, none⟩) (Kd.R_types HO_253000.out BK250.out (by decide)) (fun _ hk => hk.2) (.slice Ao147 x253000_83.length co147)) (fun _ hk => hk.2) (.slice Ao151 x253001_83.length co151)) (fun _ h_ => h_.1)))); (case side2 => exact (Kd.R_reads' HO_253000.out).2.1); (case side3 => refine (Kd.R_reads' (e := 3) (base := w.heap.size) (ok := fun k_ => (some k_ ≠ (.slice Ao23 t242.length co23 : Value).ownBlock ∧ some k_ ≠ (u251001 : Value).ownBlock)) (n := x253001_83.length) (c := co151) ?_).2.2; exact (by (with_reducible repeat (first | apply Ra_ | apply Rn_ | apply Rd_)); exact (Kd.R_mono (Kd.R_far (p := ⟨gb250, 1, none⟩) (Kd.R_far (p := ⟨gb250, 0, none⟩) (Kd.R_types HO_253001.out BK250.out (by decide)) (fun _ hk => hk.2) (.slice Ao147 x253000_83.length co147)) (fun _ hk => hk.2) (.slice Ao151 x253001_83.length co151)) (fun _ h_ => h_.1)))); (case side4 => exact (Kd.R_reads' HO_253001.out).2.1); rintro e w152 ⟨v282, v285, rfl, ho0, ho1, hb⟩; refine ⟨_, rfl, ?_⟩; have n0_ := mk0 (Kd.R_elder' (by (with_reducible repeat (first | apply Ra_ | apply Rn_ | apply Rd_)); exact (Kd.R_mono (Kd.R_far (p := ⟨gb250, 1, none⟩) (Kd.R_far (p := ⟨gb250, 0, none⟩) (Kd.R_types HO_248000.out BK250.out (by decide)) (fun _ hk => hk.2) (.slice Ao147 x253000_83.length co147)) (fun _ hk => hk.2) (.slice Ao151 x253001_83.length co151)) (fun _ h_ => h_.1))) (Kd.R_base ho0) hb); have n1_ := mk0 (Kd.R_elder' (by (with_reducible repeat (first | apply Ra_ | apply Rn_ | apply Rd_)); exact (Kd.R_mono (Kd.R_far (p := ⟨gb250, 1, none⟩) (Kd.R_far (p := ⟨gb250, 0, none⟩) (Kd.R_types HO_248001.out BK250.out (by decide)) (fun _ hk => hk.2) (.slice Ao147 x253000_83.length co147)) (fun _ hk => hk.2) (.slice Ao151 x253001_83.length co151)) (fun _ h_ => h_.1))) (Kd.R_base ho1) hb); have n2_ := mk0 (Kd.R_elder' (by (with_reducible repeat (first | apply Ra_ | apply Rn_ | apply Rd_)); exact (Kd.R_mono (Kd.R_far (p := ⟨gb250, 1, none⟩) (Kd.R_far (p := ⟨gb250, 0, none⟩) (Kd.R_types HO_251000.out BK250.out (by decide)) (fun _ hk => hk.2) (.slice Ao147 x253000_83.length co147)) (fun _ hk => hk.2) (.slice Ao151 x253001_83.length co151)) (fun _ h_ => h_.1))) (Kd.R_base ho0) hb); have n3_ := mk0 (Kd.R_elder' (by (with_reducible repeat (first | apply Ra_ | apply Rn_ | apply Rd_)); exact (Kd.R_mono (Kd.R_far (p := ⟨gb250, 1, none⟩) (Kd.R_far (p := ⟨gb250, 0, none⟩) (Kd.R_types HO_251001.out BK250.out (by decide)) (fun _ hk => hk.2) (.slice Ao147 x253000_83.length co147)) (fun _ hk => hk.2) (.slice Ao151 x253001_83.length co151)) (fun _ h_ => h_.1))) (Kd.R_base ho1) hb); have n4_ := mk0 (Kd.R_elder' (by (with_reducible repeat (first | apply Ra_ | apply Rn_ | apply Rd_)); exact (Kd.R_mono (Kd.R_far (p := ⟨gb250, 1, none⟩) (Kd.R_far (p := ⟨gb250, 0, none⟩) (Kd.R_types HO_253000.out BK250.out (by decide)) (fun _ hk => hk.2) (.slice Ao147 x253000_83.length co147)) (fun _ hk => hk.2) (.slice Ao151 x253001_83.length co151)) (fun _ h_ => h_.1))) (Kd.R_base ho0) hb); have n5_ := mk0 (Kd.R_elder' (by (with_reducible repeat (first | apply Ra_ | apply Rn_ | apply Rd_)); exact (Kd.R_mono (Kd.R_far (p := ⟨gb250, 1, none⟩) (Kd.R_far (p := ⟨gb250, 0, none⟩) (Kd.R_types HO_253001.out BK250.out (by decide)) (fun _ hk => hk.2) (.slice Ao147 x253000_83.length co147)) (fun _ hk => hk.2) (.slice Ao151 x253001_83.length co151)) (fun _ h_ => h_.1))) (Kd.R_base ho1) hb); have n6_ := mk0 (Kd.R_lower (Kd.R_new' (Kd.R_new' (Kd.R_new' ho0 (Kd.R_lt (by (with_reducible repeat (first | apply Ra_ | apply Rn_ | apply Rd_)); exact (Kd.R_mono (Kd.R_far (p := ⟨gb250, 1, none⟩) (Kd.R_far (p := ⟨gb250, 0, none⟩) (Kd.R_types HO_248000.out BK250.out (by decide)) (fun _ hk => hk.2) (.slice Ao147 x253000_83.length co147)) (fun _ hk => hk.2) (.slice Ao151 x253001_83.length co151)) (fun _ h_ => h_.1))))) (Kd.R_lt (by (with_reducible repeat (first | apply Ra_ | apply Rn_ | apply Rd_)); exact (Kd.R_mono (Kd.R_far (p := ⟨gb250, 1, none⟩) (Kd.R_far (p := ⟨gb250, 0, none⟩) (Kd.R_types HO_251000.out BK250.out (by decide)) (fun _ hk => hk.2) (.slice Ao147 x253000_83.length co147)) (fun _ hk => hk.2) (.slice Ao151 x253001_83.length co151)) (fun _ h_ => h_.1))))) (Kd.R_lt (by (with_reducible repeat (first | apply Ra_ | apply Rn_ | apply Rd_)); exact (Kd.R_mono (Kd.R_far (p := ⟨gb250, 1, none⟩) (Kd.R_far (p := ⟨gb250, 0, none⟩) (Kd.R_types HO_253000.out BK250.out (by decide)) (fun _ hk => hk.2) (.slice Ao147 x253000_83.length co147)) (fun _ hk => hk.2) (.slice Ao151 x253001_83.length co151)) (fun _ h_ => h_.1))))) (bz_ (by repeat (first | (with_reducible first | exact HB.out | apply bL_ | apply pN_ | apply b1_ | refine bs_ ?_ GE236.out | refine bs_ ?_ GE247.out | refine bs_ ?_ GE250.out | refine bs_ ?_ GE252.out) | exact HB.out)))); have n7_ := mk0 (Kd.R_lower (Kd.R_new' (Kd.R_new' (Kd.R_new' ho1 (Kd.R_lt (by (with_reducible repeat (first | apply Ra_ | apply Rn_ | apply Rd_)); exact (Kd.R_mono (Kd.R_far (p := ⟨gb250, 1, none⟩) (Kd.R_far (p := ⟨gb250, 0, none⟩) (Kd.R_types HO_248001.out BK250.out (by decide)) (fun _ hk => hk.2) (.slice Ao147 x253000_83.length co147)) (fun _ hk => hk.2) (.slice Ao151 x253001_83.length co151)) (fun _ h_ => h_.1))))) (Kd.R_lt (by (with_reducible repeat (first | apply Ra_ | apply Rn_ | apply Rd_)); exact (Kd.R_mono (Kd.R_far (p := ⟨gb250, 1, none⟩) (Kd.R_far (p := ⟨gb250, 0, none⟩) (Kd.R_types HO_251001.out BK250.out (by decide)) (fun _ hk => hk.2) (.slice Ao147 x253000_83.length co147)) (fun _ hk => hk.2) (.slice Ao151 x253001_83.length co151)) (fun _ h_ => h_.1))))) (Kd.R_lt (by (with_reducible repeat (first | apply Ra_ | apply Rn_ | apply Rd_)); exact (Kd.R_mono (Kd.R_far (p := ⟨gb250, 1, none⟩) (Kd.R_far (p := ⟨gb250, 0, none⟩) (Kd.R_types HO_253001.out BK250.out (by decide)) (fun _ hk => hk.2) (.slice Ao147 x253000_83.length co147)) (fun _ hk => hk.2) (.slice Ao151 x253001_83.length co151)) (fun _ h_ => h_.1))))) (bz_ (by repeat (first | (with_reducible first | exact HB.out | apply bL_ | apply pN_ | apply b1_ | refine bs_ ?_ GE236.out | refine bs_ ?_ GE247.out | refine bs_ ?_ GE250.out | refine bs_ ?_ GE252.out) | exact HB.out)))); have n8_ := mk0 (blk_below (g := gb236) (o := .cells #[.slice A0_0 l0_0.length c0_0, .slice A0_1 l0_1.length c0_1, .slice A0_2 l0_2.length c0_2] 47 (0, 0)) (by (with_reducible repeat (first | refine bN_ ?_ _ | refine bD_ ?_ | refine bA_ ?_ _)); refine blk_far ?_ NB236_250.out _; (with_reducible repeat (first | refine bN_ ?_ _ | refine bD_ ?_ | refine bA_ ?_ _)); refine blk_far ?_ NB236_250.out _; (with_reducible repeat (first | refine bN_ ?_ _ | refine bD_ ?_ | refine bA_ ?_ _)); exact BK236.out) hb); have n9_ := mk0 (blk_below (g := gb247) (o := .cells #[.slice Ao20 t239.length co20, .slice Ao23 t242.length co23] 44 (0, 0)) (by (with_reducible repeat (first | refine bN_ ?_ _ | refine bD_ ?_ | refine bA_ ?_ _)); refine blk_far ?_ NB247_250.out _; (with_reducible repeat (first | refine bN_ ?_ _ | refine bD_ ?_ | refine bA_ ?_ _)); refine blk_far ?_ NB247_250.out _; (with_reducible repeat (first | refine bN_ ?_ _ | refine bD_ ?_ | refine bA_ ?_ _)); exact BK247.out) hb); have n10_ := mk0 (blk_below (g := gb250) (o := .cells #[.slice Ao147 x253000_83.length co147, .slice Ao151 x253001_83.length co151] 44 (0, 0)) (by (with_reducible repeat (first | refine bN_ ?_ _ | refine bD_ ?_ | refine bA_ ?_ _)); refine blk_put (cs := #[.slice Ao147 x253000_83.length co147, u251001]) ?_ 1 _ rfl; (with_reducible repeat (first | refine bN_ ?_ _ | refine bD_ ?_ | refine bA_ ?_ _)); refine blk_put (cs := #[u251000, u251001]) ?_ 0 _ rfl; (with_reducible repeat (first | refine bN_ ?_ _ | refine bD_ ?_ | refine bA_ ?_ _)); exact BK250.out) hb); have n11_ := mk0 (blk_below (g := gb252) (o := .cells #[.slice Ao147 x253000_83.length co147, .slice Ao151 x253001_83.length co151] 44 (0, 0)) (by (with_reducible repeat (first | refine bN_ ?_ _ | refine bD_ ?_ | refine bA_ ?_ _)); refine blk_far ?_ NB252_250.out _; (with_reducible repeat (first | refine bN_ ?_ _ | refine bD_ ?_ | refine bA_ ?_ _)); refine blk_far ?_ NB252_250.out _; (with_reducible repeat (first | refine bN_ ?_ _ | refine bD_ ?_ | refine bA_ ?_ _)); exact BK252.out) hb); have n12_ := mk0 (bt_ (by repeat (first | (with_reducible first | exact HB.out | apply bL_ | apply pN_ | apply b1_ | refine bs_ ?_ GE236.out | refine bs_ ?_ GE247.out | refine bs_ ?_ GE250.out | refine bs_ ?_ GE252.out) | exact HB.out)) hb); clear HO_248000; clear HO_248001; clear HO_251000; clear HO_251001; clear HO_253000; clear HO_253001; clear BK236; clear BK247; clear BK250; clear BK252; clear HB; have HO_248000 := n0_; have HO_248001 := n1_; have HO_251000 := n2_; have HO_251001 := n3_; have HO_253000 := n4_; have HO_253001 := n5_; have HO283 := n6_; have HO286 := n7_; have BK236 := n8_; have BK247 := n9_; have BK250 := n10_; have BK252 := n11_; have HB := n12_; clear n0_ n1_ n2_ n3_ n4_ n5_ n6_ n7_ n8_ n9_ n10_ n11_ n12_; (try clear hb); (try clear hb2); (try clear hk); (try clear hi); (try clear ho0); (try clear ho1)) | ((with_reducible refine gate_dst (N := 12) rfl ?_); (try (refine gate_guard (by rfl) ?_; dsimp only)); refine box_event ?hg (N := 12) ?hd (cs := #[.slice none 0 0, .slice none 0 0]) (t := 44) ?hr ?_; (case hd => rfl); (case hg => rfl); (case hr => first | (go_simp; done) | (go_simp; rfl)); intro gb288 hg w153 hbox hb; have n0_ := mk0 (Kd.R_below (by (with_reducible repeat (first | apply Ra_ | apply Rn_ | apply Rd_)); exact HO_248000.out) hb); have n1_ := mk0 (Kd.R_below (by (with_reducible repeat (first | apply Ra_ | apply Rn_ | apply Rd_)); exact HO_248001.out) hb); have n2_ := mk0 (Kd.R_below (by (with_reducible repeat (first | apply Ra_ | apply Rn_ | apply Rd_)); exact HO_251000.out) hb); have n3_ := mk0 (Kd.R_below (by (with_reducible repeat (first | apply Ra_ | apply Rn_ | apply Rd_)); exact HO_251001.out) hb); have n4_ := mk0 (Kd.R_below (by (with_reducible repeat (first | apply Ra_ | apply Rn_ | apply Rd_)); exact HO_253000.out) hb); have n5_ := mk0 (Kd.R_below (by (with_reducible repeat (first | apply Ra_ | apply Rn_ | apply Rd_)); exact HO_253001.out) hb); have n6_ := mk0 (Kd.R_below (by (with_reducible repeat (first | apply Ra_ | apply Rn_ | apply Rd_)); exact HO283.out) hb); have n7_ := mk0 (Kd.R_below (by (with_reducible repeat (first | apply Ra_ | apply Rn_ | apply Rd_)); exact HO286.out) hb); have n8_ := mk0 (blk_below (g := gb236) (o := .cells #[.slice A0_0 l0_0.length c0_0, .slice A0_1 l0_1.length c0_1, .slice A0_2 l0_2.length c0_2] 47 (0, 0)) (by (with_reducible repeat (first | refine bN_ ?_ _ | refine bD_ ?_ | refine bA_ ?_ _)); exact BK236.out) hb); have n9_ := mk0 (blk_below (g := gb247) (o := .cells #[.slice Ao20 t239.length co20, .slice Ao23 t242.length co23] 44 (0, 0)) (by (with_reducible repeat (first | refine bN_ ?_ _ | refine bD_ ?_ | refine bA_ ?_ _)); exact BK247.out) hb); have n10_ := mk0 (blk_below (g := gb250) (o := .cells #[.slice Ao147 x253000_83.length co147, .slice Ao151 x253001_83.length co151] 44 (0, 0)) (by (with_reducible repeat (first | refine bN_ ?_ _ | refine bD_ ?_ | refine bA_ ?_ _)); exact BK250.out) hb); have n11_ := mk0 (blk_below (g := gb252) (o := .cells #[.slice Ao147 x253000_83.length co147, .slice Ao151 x253001_83.length co151] 44 (0, 0)) (by (with_reducible repeat (first | refine bN_ ?_ _ | refine bD_ ?_ | refine bA_ ?_ _)); exact BK252.out) hb); have n12_ := mk0 (bt_ (by repeat (first | (with_reducible first | exact HB.out | apply bL_ | apply pN_ | apply b1_ | refine bs_ ?_ GE236.out | refine bs_ ?_ GE247.out | refine bs_ ?_ GE250.out | refine bs_ ?_ GE252.out) | exact HB.out)) hb); have n13_ := mk0 (hbox); have n14_ := mk0 ((by rw [hg]; exact (bz_ (by repeat (first | (with_reducible first | exact HB.out | apply bL_ | apply pN_ | apply b1_ | refine bs_ ?_ GE236.out | refine bs_ ?_ GE247.out | refine bs_ ?_ GE250.out | refine bs_ ?_ GE252.out) | exact HB.out))) : w.heap.size ≤ gb288)); have n15_ := mk0 ((by rw [hg]; exact (bz_ (by repeat (first | (with_reducible first | exact HB.out | apply bL_ | apply pN_ | apply b1_ | refine bs_ ?_ GE236.out | refine bs_ ?_ GE247.out | refine bs_ ?_ GE250.out | refine bs_ ?_ GE252.out) | exact HB.out))) : w.heap.size ≤ gb288)); have n16_ := mk0 ((by rw [hg]; exact Nat.ne_of_lt (blk_lt (g := gb236) (o := .cells #[.slice A0_0 l0_0.length c0_0, .slice A0_1 l0_1.length c0_1, .slice A0_2 l0_2.length c0_2] 47 (0, 0)) (by (with_reducible repeat (first | refine bN_ ?_ _ | refine bD_ ?_ | refine bA_ ?_ _)); exact BK236.out)) : gb236 ≠ gb288)); have n17_ := mk0 ((by rw [hg]; exact Nat.ne_of_gt (blk_lt (g := gb236) (o := .cells #[.slice A0_0 l0_0.length c0_0, .slice A0_1 l0_1.length c0_1, .slice A0_2 l0_2.length c0_2] 47 (0, 0)) (by (with_reducible repeat (first | refine bN_ ?_ _ | refine bD_ ?_ | refine bA_ ?_ _)); exact BK236.out)) : gb288 ≠ gb236)); have n18_ := mk0 ((by rw [hg]; exact Nat.ne_of_lt (blk_lt (g := gb247) (o := .cells #[.slice Ao20 t239.length co20, .slice Ao23 t242.length co23] 44 (0, 0)) (by (with_reducible repeat (first | refine bN_ ?_ _ | refine bD_ ?_ | refine bA_ ?_ _)); exact BK247.out)) : gb247 ≠ gb288)); have n19_ := mk0 ((by rw [hg]; exact Nat.ne_of_gt (blk_lt (g := gb247) (o := .cells #[.slice Ao20 t239.length co20, .slice Ao23 t242.length co23] 44 (0, 0)) (by (with_reducible repeat (first | refine bN_ ?_ _ | refine bD_ ?_ | refine bA_ ?_ _)); exact BK247.out)) : gb288 ≠ gb247)); have n20_ := mk0 ((by rw [hg]; exact Nat.ne_of_lt (blk_lt (g := gb250) (o := .cells #[.slice Ao147 x253000_83.length co147, .slice Ao151 x253001_83.length co151] 44 (0, 0)) (by (with_reducible repeat (first | refine bN_ ?_ _ | refine bD_ ?_ | refine bA_ ?_ _)); exact BK250.out)) : gb250 ≠ gb288)); have n21_ := mk0 ((by rw [hg]; exact Nat.ne_of_gt (blk_lt (g := gb250) (o := .cells #[.slice Ao147 x253000_83.length co147, .slice Ao151 x253001_83.length co151] 44 (0, 0)) (by (with_reducible repeat (first | refine bN_ ?_ _ | refine bD_ ?_ | refine bA_ ?_ _)); exact BK250.out)) : gb288 ≠ gb250)); have n22_ := mk0 ((by rw [hg]; exact Nat.ne_of_lt (blk_lt (g := gb252) (o := .cells #[.slice Ao147 x253000_83.length co147, .slice Ao151 x253001_83.length co151] 44 (0, 0)) (by (with_reducible repeat (first | refine bN_ ?_ _ | refine bD_ ?_ | refine bA_ ?_ _)); exact BK252.out)) : gb252 ≠ gb288)); have n23_ := mk0 ((by rw [hg]; exact Nat.ne_of_gt (blk_lt (g := gb252) (o := .cells #[.slice Ao147 x253000_83.length co147, .slice Ao151 x253001_83.length co151] 44 (0, 0)) (by (with_reducible repeat (first | refine bN_ ?_ _ | refine bD_ ?_ | refine bA_ ?_ _)); exact BK252.out)) : gb288 ≠ gb252)); clear HO_248000; clear HO_248001; clear HO_251000; clear HO_251001; clear HO_253000; clear HO_253001; clear HO283; clear HO286; clear BK236; clear BK247; clear BK250; clear BK252; clear HB; have HO_248000 := n0_; have HO_248001 := n1_; have HO_251000 := n2_; have HO_251001 := n3_; have HO_253000 := n4_; have HO_253001 := n5_; have HO283 := n6_; have HO286 := n7_; have BK236 := n8_; have BK247 := n9_; have BK250 := n10_; have BK252 := n11_; have HB := n12_; have BK288 := n13_; have GW288 := n14_; have GE288 := n15_; have NB236_288 := n16_; have NB288_236 := n17_; have NB247_288 := n18_; have NB288_247 := n19_; have NB250_288 := n20_; have NB288_250 := n21_; have NB252_288 := n22_; have NB288_252 := n23_; clear n0_ n1_ n2_ n3_ n4_ n5_ n6_ n7_ n8_ n9_ n10_ n11_ n12_ n13_ n14_ n15_ n16_ n17_ n18_ n19_ n20_ n21_ n22_ n23_; clear hb hbox hg; obtain ⟨Ao154, co154, eo154⟩ := Kd.R_slice HO283.out; subst eo154; have hnb155 := NB288_236.out; have hnc155 := NB236_288.out; have hnb156 := NB288_247.out; have hnc156 := NB247_288.out; have hnb157 := NB288_250.out; have hnc157 := NB250_288.out; have hnb158 := NB288_252.out; have hnc158 := NB252_288.out; have hcz159_0 : w153.cell? ⟨gb288, 0, none⟩ = some (.slice none 0 0) := (blk_cell BK288.out 0).trans rfl; have hcz159_1 : w153.cell? ⟨gb288, 1, none⟩ = some (.slice none 0 0) := (blk_cell BK288.out 1).trans rfl; have hfz159_0 := blk_frozen BK288.out 0; have hfz159_1 := blk_frozen BK288.out 1; obtain ⟨Ao160, co160, eo160⟩ := Kd.R_slice HO286.out; subst eo160) | ((with_reducible refine gate_callee (f := 25) rfl ?_); refine goesL_ (some 122) rfl rfl Try.func25 (by kernel_rfl) rfl #[.int .i64 t287] rfl (by (try simp only [List.map_toArray, List.map_cons, List.map_nil]); first | done | rfl | (simp only [List.length_drop, List.length_take]; rfl)) ?_; (with_reducible refine (quorumlaw10_num.calls t287 t289 _ A139.out).mono ?_); rintro e w' ⟨rfl, ⟨nd, rfl⟩⟩; refine ⟨_, rfl, ?_⟩; have hnb161 := NB247_236.out; have hnc161 := NB236_247.out; have hcz162_0 : w153.cell? ⟨gb247, 0, none⟩ = some (.slice Ao20 t239.length co20) := (blk_cell BK247.out 0).trans rfl; have hcz162_1 : w153.cell? ⟨gb247, 1, none⟩ = some (.slice Ao23 t242.length co23) := (blk_cell BK247.out 1).trans rfl; have hfz162_0 := blk_frozen BK247.out 0; have hfz162_1 := blk_frozen BK247.out 1) | (go_at_call 31; (with_reducible refine (quorumref0_EqPend.calls kj83 _ _ t281 _ _ t284 _ _ t239 _ _ t242 true _ ?side1 ?side2 ?side3 ?side4 ?side5 ?side6 ?side7 ?side8 A141.out).mono ?_); (case side1 => refine (Kd.R_reads' (e := 55) (base := w.heap.size) (ok := fun k_ => (((True ∧ some k_ ≠ (.slice Ao20 t239.length co20 : Value).ownBlock) ∧ some k_ ≠ (u251000 : Value).ownBlock) ∧ some k_ ≠ (.slice Ao147 x253000_83.length co147 : Value).ownBlock)) (n := t281.length) (c := co154) ?_).2.2; exact (by (with_reducible repeat (first | apply Ra_ | apply Rn_ | apply Rd_)); exact (Kd.R_mono (Kd.R_far (p := ⟨gb288, 1, none⟩) (Kd.R_far (p := ⟨gb288, 0, none⟩) (Kd.R_types HO283.out BK288.out (by decide)) (fun _ hk => hk.2) (.slice Ao154 t281.length co154)) (fun _ hk => hk.2) (.slice Ao160 t284.length co160)) (fun _ h_ => h_.1)))); (case side2 => exact (Kd.R_reads' HO283.out).2.1); (case side3 => refine (Kd.R_reads' (e := 3) (base := w.heap.size) (ok := fun k_ => (((True ∧ some k_ ≠ (.slice Ao23 t242.length co23 : Value).ownBlock) ∧ some k_ ≠ (u251001 : Value).ownBlock) ∧ some k_ ≠ (.slice Ao151 x253001_83.length co151 : Value).ownBlock)) (n := t284.length) (c := co160) ?_).2.2; exact (by (with_reducible repeat (first | apply Ra_ | apply Rn_ | apply Rd_)); exact (Kd.R_mono (Kd.R_far (p := ⟨gb288, 1, none⟩) (Kd.R_far (p := ⟨gb288, 0, none⟩) (Kd.R_types HO286.out BK288.out (by decide)) (fun _ hk => hk.2) (.slice Ao154 t281.length co154)) (fun _ hk => hk.2) (.slice Ao160 t284.length co160)) (fun _ h_ => h_.1)))); (case side4 => exact (Kd.R_reads' HO286.out).2.1); (case side5 => refine (Kd.R_reads' (e := 55) (base := w.heap.size) (ok := fun k_ => (some k_ ≠ (.slice Ao147 x253000_83.length co147 : Value).ownBlock ∧ some k_ ≠ (.slice Ao154 t281.length co154 : Value).ownBlock)) (n := t239.length) (c := co20) ?_).2.2; exact (by (with_reducible repeat (first | apply Ra_ | apply Rn_ | apply Rd_)); exact (Kd.R_mono (Kd.R_far (p := ⟨gb288, 1, none⟩) (Kd.R_far (p := ⟨gb288, 0, none⟩) (Kd.R_types HO_248000.out BK288.out (by decide)) (fun _ hk => hk.2) (.slice Ao154 t281.length co154)) (fun _ hk => hk.2) (.slice Ao160 t284.length co160)) (fun _ h_ => h_.1)))); (case side6 => exact (Kd.R_reads' HO_248000.out).2.1); (case side7 => refine (Kd.R_reads' (e := 3) (base := w.heap.size) (ok := fun k_ => (some k_ ≠ (.slice Ao151 x253001_83.length co151 : Value).ownBlock ∧ some k_ ≠ (.slice Ao160 t284.length co160 : Value).ownBlock)) (n := t242.length) (c := co23) ?_).2.2; exact (by (with_reducible repeat (first | apply Ra_ | apply Rn_ | apply Rd_)); exact (Kd.R_mono (Kd.R_far (p := ⟨gb288, 1, none⟩) (Kd.R_far (p := ⟨gb288, 0, none⟩) (Kd.R_types HO_248001.out BK288.out (by decide)) (fun _ hk => hk.2) (.slice Ao154 t281.length co154)) (fun _ hk => hk.2) (.slice Ao160 t284.length co160)) (fun _ h_ => h_.1)))); (case side8 => exact (Kd.R_reads' HO_248001.out).2.1); rintro e w163 ⟨rfl, hb⟩; have n0_ := mk0 (Kd.R_below (by (with_reducible repeat (first | apply Ra_ | apply Rn_ | apply Rd_)); exact (Kd.R_mono (Kd.R_far (p := ⟨gb288, 1, none⟩) (Kd.R_far (p := ⟨gb288, 0, none⟩) (Kd.R_types HO_248000.out BK288.out (by decide)) (fun _ hk => hk.2) (.slice Ao154 t281.length co154)) (fun _ hk => hk.2) (.slice Ao160 t284.length co160)) (fun _ h_ => h_.1))) hb); have n1_ := mk0 (Kd.R_below (by (with_reducible repeat (first | apply Ra_ | apply Rn_ | apply Rd_)); exact (Kd.R_mono (Kd.R_far (p := ⟨gb288, 1, none⟩) (Kd.R_far (p := ⟨gb288, 0, none⟩) (Kd.R_types HO_248001.out BK288.out (by decide)) (fun _ hk => hk.2) (.slice Ao154 t281.length co154)) (fun _ hk => hk.2) (.slice Ao160 t284.length co160)) (fun _ h_ => h_.1))) hb); have n2_ := mk0 (Kd.R_below (by (with_reducible repeat (first | apply Ra_ | apply Rn_ | apply Rd_)); exact (Kd.R_mono (Kd.R_far (p := ⟨gb288, 1, none⟩) (Kd.R_far (p := ⟨gb288, 0, none⟩) (Kd.R_types HO_251000.out BK288.out (by decide)) (fun _ hk => hk.2) (.slice Ao154 t281.length co154)) (fun _ hk => hk.2) (.slice Ao160 t284.length co160)) (fun _ h_ => h_.1))) hb); have n3_ := mk0 (Kd.R_below (by (with_reducible repeat (first | apply Ra_ | apply Rn_ | apply Rd_)); exact (Kd.R_mono (Kd.R_far (p := ⟨gb288, 1, none⟩) (Kd.R_far (p := ⟨gb288, 0, none⟩) (Kd.R_types HO_251001.out BK288.out (by decide)) (fun _ hk => hk.2) (.slice Ao154 t281.length co154)) (fun _ hk => hk.2) (.slice Ao160 t284.length co160)) (fun _ h_ => h_.1))) hb); have n4_ := mk0 (Kd.R_below (by (with_reducible repeat (first | apply Ra_ | apply Rn_ | apply Rd_)); exact (Kd.R_mono (Kd.R_far (p := ⟨gb288, 1, none⟩) (Kd.R_far (p := ⟨gb288, 0, none⟩) (Kd.R_types HO_253000.out BK288.out (by decide)) (fun _ hk => hk.2) (.slice Ao154 t281.length co154)) (fun _ hk => hk.2) (.slice Ao160 t284.length co160)) (fun _ h_ => h_.1))) hb); have n5_ := mk0 (Kd.R_below (by (with_reducible repeat (first | apply Ra_ | apply Rn_ | apply Rd_)); exact (Kd.R_mono (Kd.R_far (p := ⟨gb288, 1, none⟩) (Kd.R_far (p := ⟨gb288, 0, none⟩) (Kd.R_types HO_253001.out BK288.out (by decide)) (fun _ hk => hk.2) (.slice Ao154 t281.length co154)) (fun _ hk => hk.2) (.slice Ao160 t284.length co160)) (fun _ h_ => h_.1))) hb); have n6_ := mk0 (Kd.R_below (by (with_reducible repeat (first | apply Ra_ | apply Rn_ | apply Rd_)); exact (Kd.R_mono (Kd.R_far (p := ⟨gb288, 1, none⟩) (Kd.R_far (p := ⟨gb288, 0, none⟩) (Kd.R_types HO283.out BK288.out (by decide)) (fun _ hk => hk.2) (.slice Ao154 t281.length co154)) (fun _ hk => hk.2) (.slice Ao160 t284.length co160)) (fun _ h_ => h_.1))) hb); have n7_ := mk0 (Kd.R_below (by (with_reducible repeat (first | apply Ra_ | apply Rn_ | apply Rd_)); exact (Kd.R_mono (Kd.R_far (p := ⟨gb288, 1, none⟩) (Kd.R_far (p := ⟨gb288, 0, none⟩) (Kd.R_types HO286.out BK288.out (by decide)) (fun _ hk => hk.2) (.slice Ao154 t281.length co154)) (fun _ hk => hk.2) (.slice Ao160 t284.length co160)) (fun _ h_ => h_.1))) hb); have n8_ := mk0 (blk_below (g := gb236) (o := .cells #[.slice A0_0 l0_0.length c0_0, .slice A0_1 l0_1.length c0_1, .slice A0_2 l0_2.length c0_2] 47 (0, 0)) (by (with_reducible repeat (first | refine bN_ ?_ _ | refine bD_ ?_ | refine bA_ ?_ _)); refine blk_far ?_ NB236_288.out _; (with_reducible repeat (first | refine bN_ ?_ _ | refine bD_ ?_ | refine bA_ ?_ _)); refine blk_far ?_ NB236_288.out _; (with_reducible repeat (first | refine bN_ ?_ _ | refine bD_ ?_ | refine bA_ ?_ _)); exact BK236.out) hb); have n9_ := mk0 (blk_below (g := gb247) (o := .cells #[.slice Ao20 t239.length co20, .slice Ao23 t242.length co23] 44 (0, 0)) (by (with_reducible repeat (first | refine bN_ ?_ _ | refine bD_ ?_ | refine bA_ ?_ _)); refine blk_far ?_ NB247_288.out _; (with_reducible repeat (first | refine bN_ ?_ _ | refine bD_ ?_ | refine bA_ ?_ _)); refine blk_far ?_ NB247_288.out _; (with_reducible repeat (first | refine bN_ ?_ _ | refine bD_ ?_ | refine bA_ ?_ _)); exact BK247.out) hb); have n10_ := mk0 (blk_below (g := gb250) (o := .cells #[.slice Ao147 x253000_83.length co147, .slice Ao151 x253001_83.length co151] 44 (0, 0)) (by (with_reducible repeat (first | refine bN_ ?_ _ | refine bD_ ?_ | refine bA_ ?_ _)); refine blk_far ?_ NB250_288.out _; (with_reducible repeat (first | refine bN_ ?_ _ | refine bD_ ?_ | refine bA_ ?_ _)); refine blk_far ?_ NB250_288.out _; (with_reducible repeat (first | refine bN_ ?_ _ | refine bD_ ?_ | refine bA_ ?_ _)); exact BK250.out) hb); have n11_ := mk0 (blk_below (g := gb252) (o := .cells #[.slice Ao147 x253000_83.length co147, .slice Ao151 x253001_83.length co151] 44 (0, 0)) (by (with_reducible repeat (first | refine bN_ ?_ _ | refine bD_ ?_ | refine bA_ ?_ _)); refine blk_far ?_ NB252_288.out _; (with_reducible repeat (first | refine bN_ ?_ _ | refine bD_ ?_ | refine bA_ ?_ _)); refine blk_far ?_ NB252_288.out _; (with_reducible repeat (first | refine bN_ ?_ _ | refine bD_ ?_ | refine bA_ ?_ _)); exact BK252.out) hb); have n12_ := mk0 (blk_below (g := gb288) (o := .cells #[.slice Ao154 t281.length co154, .slice Ao160 t284.length co160] 44 (0, 0)) (by (with_reducible repeat (first | refine bN_ ?_ _ | refine bD_ ?_ | refine bA_ ?_ _)); refine blk_put (cs := #[.slice Ao154 t281.length co154, .slice none 0 0]) ?_ 1 _ rfl; (with_reducible repeat (first | refine bN_ ?_ _ | refine bD_ ?_ | refine bA_ ?_ _)); refine blk_put (cs := #[.slice none 0 0, .slice none 0 0]) ?_ 0 _ rfl; (with_reducible repeat (first | refine bN_ ?_ _ | refine bD_ ?_ | refine bA_ ?_ _)); exact BK288.out) hb); have n13_ := mk0 (bt_ (by repeat (first | (with_reducible first | exact HB.out | apply bL_ | apply pN_ | apply b1_ | refine bs_ ?_ GE236.out | refine bs_ ?_ GE247.out | refine bs_ ?_ GE250.out | refine bs_ ?_ GE252.out | refine bs_ ?_ GE288.out) | exact HB.out)) hb); clear HO_248000; clear HO_248001; clear HO_251000; clear HO_251001; clear HO_253000; clear HO_253001; clear HO283; clear HO286; clear BK236; clear BK247; clear BK250; clear BK252; clear BK288; clear HB; have HO_248000 := n0_; have HO_248001 := n1_; have HO_251000 := n2_; have HO_251001 := n3_; have HO_253000 := n4_; have HO_253001 := n5_; have HO283 := n6_; have HO286 := n7_; have BK236 := n8_; have BK247 := n9_; have BK250 := n10_; have BK252 := n11_; have BK288 := n12_; have HB := n13_; clear n0_ n1_ n2_ n3_ n4_ n5_ n6_ n7_ n8_ n9_ n10_ n11_ n12_ n13_; (try clear hb); (try clear hb2); (try clear hk); (try clear hi)))
                   go_roundg kj83
                   case measure => have := HJ1.out; have := HK2.out; have := HJ27.out; have := HJ36.out; have := HJ67.out; have := HJ83.out; omega
                   case rel => exact ⟨(wrap64 (x7_2 + 1)), (x253000_83), (x253001_83), (.slice Ao147 x253000_83.length co147), (.slice Ao151 x253001_83.length co151), (by first | rfl | (simp; done) | (simp [*]; done)), H', ⟨by have := HJ1.out; have := HK2.out; have := HJ27.out; have := HJ36.out; have := HJ67.out; have := HJ83.out; omega⟩, ⟨by (with_reducible repeat (first | apply Ra_ | apply Rn_ | apply Rd_)); exact Kd.R_mono HO_248000.out (fun _ hk => trivial)⟩, ⟨by (with_reducible repeat (first | apply Ra_ | apply Rn_ | apply Rd_)); exact Kd.R_mono HO_248001.out (fun _ hk => trivial)⟩, ⟨by (with_reducible repeat (first | apply Ra_ | apply Rn_ | apply Rd_)); exact Kd.R_mono HO_253000.out (fun _ hk => trivial)⟩, ⟨by (with_reducible repeat (first | apply Ra_ | apply Rn_ | apply Rd_)); exact Kd.R_mono HO_253001.out (fun _ hk => trivial)⟩, ⟨by (with_reducible repeat (first | refine bN_ ?_ _ | refine bD_ ?_ | refine bA_ ?_ _)); exact BK236.out⟩, ⟨by (with_reducible repeat (first | refine bN_ ?_ _ | refine bD_ ?_ | refine bA_ ?_ _)); exact BK247.out⟩, ⟨by (with_reducible repeat (first | refine bN_ ?_ _ | refine bD_ ?_ | refine bA_ ?_ _)); exact BK250.out⟩, ⟨by repeat (first | (with_reducible first | exact HB.out | apply bL_ | apply pN_ | apply b1_ | refine bs_ ?_ GE236.out | refine bs_ ?_ GE247.out | refine bs_ ?_ GE250.out | refine bs_ ?_ GE252.out | refine bs_ ?_ GE288.out) | exact HB.out)⟩⟩
                  ·replace c142 := Bool.eq_false_iff.mpr c142
                   subst c142
                   have H1 : (some false) = some r := by rw [if_neg (show ¬ (false = true) by decide)] at H; exact H
                   clear H
                   have H := H1
                   clear H1
                   obtain rfl := Option.some.inj H
                   have hnb164 := NB252_236.out
                   have hnc164 := NB236_252.out
                   have hnb165 := NB252_247.out
                   have hnc165 := NB247_252.out
                   have hnb166 := NB252_250.out
                   have hnc166 := NB250_252.out
                   have hcz167_0 : wc.cell? ⟨gb252, 0, none⟩ = some (u253000) := (blk_cell BK252.out 0).trans rfl
                   have hcz167_1 : wc.cell? ⟨gb252, 1, none⟩ = some (u253001) := (blk_cell BK252.out 1).trans rfl
                   have hfz167_0 := blk_frozen BK252.out 0
                   have hfz167_1 := blk_frozen BK252.out 1
                   obtain ⟨Ao168, co168, eo168⟩ := Kd.R_slice HO_253000.out
                   subst eo168
                   have hnb169 := NB250_236.out
                   have hnc169 := NB236_250.out
                   have hnb170 := NB250_247.out
                   have hnc170 := NB247_250.out
                   have hcz171_0 : wc.cell? ⟨gb250, 0, none⟩ = some (u251000) := (blk_cell BK250.out 0).trans rfl
                   have hcz171_1 : wc.cell? ⟨gb250, 1, none⟩ = some (u251001) := (blk_cell BK250.out 1).trans rfl
                   have hfz171_0 := blk_frozen BK250.out 0
                   have hfz171_1 := blk_frozen BK250.out 1
                   obtain ⟨Ao172, co172, eo172⟩ := Kd.R_slice HO_253001.out
                   subst eo172
                   go_wp2_with (first | ((with_reducible refine gate_callee (f := 30) rfl ?_); refine goesL_ (some 118) rfl rfl Try.func30 (by kernel_rfl) rfl #[.agg #[.slice Ao168 x253000_83.length co168, .slice Ao172 x253001_83.length co172], .int .i64 t245] rfl (by (try simp only [List.map_toArray, List.map_cons, List.map_nil]); first | done | rfl | (simp only [List.length_drop, List.length_take]; rfl)) ?_; (with_reducible refine (pend_Return.calls kj83 _ _ x253000_83 _ _ x253001_83 t245 t281 t284 t287 _ ?side1 ?side2 ?side3 ?side4 A138.out).mono ?_); (case side1 => refine (Kd.R_reads' (e := 55) (base := w.heap.size) (ok := fun k_ => (some k_ ≠ (.slice Ao20 t239.length co20 : Value).ownBlock ∧ some k_ ≠ (u251000 : Value).ownBlock)) (n := x253000_83.length) (c := co168) ?_).2.2; exact (by (with_reducible repeat (first | apply Ra_ | apply Rn_ | apply Rd_)); exact (Kd.R_mono (Kd.R_far (p := ⟨gb250, 1, none⟩) (Kd.R_far (p := ⟨gb250, 0, none⟩) (Kd.R_types HO_253000.out BK250.out (by decide)) (fun _ hk => hk.2) (.slice Ao168 x253000_83.length co168)) (fun _ hk => hk.2) (.slice Ao172 x253001_83.length co172)) (fun _ h_ => h_.1)))); (case side2 => exact (Kd.R_reads' HO_253000.out).2.1); (case side3 => refine (Kd.R_reads' (e := 3) (base := w.heap.size) (ok := fun k_ => (some k_ ≠ (.slice Ao23 t242.length co23 : Value).ownBlock ∧ some k_ ≠ (u251001 : Value).ownBlock)) (n := x253001_83.length) (c := co172) ?_).2.2; exact (by (with_reducible repeat (first | apply Ra_ | apply Rn_ | apply Rd_)); exact (Kd.R_mono (Kd.R_far (p := ⟨gb250, 1, none⟩) (Kd.R_far (p := ⟨gb250, 0, none⟩) (Kd.R_types HO_253001.out BK250.out (by decide)) (fun _ hk => hk.2) (.slice Ao168 x253000_83.length co168)) (fun _ hk => hk.2) (.slice Ao172 x253001_83.length co172)) (fun _ h_ => h_.1)))); (case side4 => exact (Kd.R_reads' HO_253001.out).2.1); rintro e w173 ⟨v282, v285, rfl, ho0, ho1, hb⟩; refine ⟨_, rfl, ?_⟩; have n0_ := mk0 (Kd.R_elder' (by (with_reducible repeat (first | apply Ra_ | apply Rn_ | apply Rd_)); exact (Kd.R_mono (Kd.R_far (p := ⟨gb250, 1, none⟩) (Kd.R_far (p := ⟨gb250, 0, none⟩) (Kd.R_types HO_248000.out BK250.out (by decide)) (fun _ hk => hk.2) (.slice Ao168 x253000_83.length co168)) (fun _ hk => hk.2) (.slice Ao172 x253001_83.length co172)) (fun _ h_ => h_.1))) (Kd.R_base ho0) hb); have n1_ := mk0 (Kd.R_elder' (by (with_reducible repeat (first | apply Ra_ | apply Rn_ | apply Rd_)); exact (Kd.R_mono (Kd.R_far (p := ⟨gb250, 1, none⟩) (Kd.R_far (p := ⟨gb250, 0, none⟩) (Kd.R_types HO_248001.out BK250.out (by decide)) (fun _ hk => hk.2) (.slice Ao168 x253000_83.length co168)) (fun _ hk => hk.2) (.slice Ao172 x253001_83.length co172)) (fun _ h_ => h_.1))) (Kd.R_base ho1) hb); have n2_ := mk0 (Kd.R_elder' (by (with_reducible repeat (first | apply Ra_ | apply Rn_ | apply Rd_)); exact (Kd.R_mono (Kd.R_far (p := ⟨gb250, 1, none⟩) (Kd.R_far (p := ⟨gb250, 0, none⟩) (Kd.R_types HO_251000.out BK250.out (by decide)) (fun _ hk => hk.2) (.slice Ao168 x253000_83.length co168)) (fun _ hk => hk.2) (.slice Ao172 x253001_83.length co172)) (fun _ h_ => h_.1))) (Kd.R_base ho0) hb); have n3_ := mk0 (Kd.R_elder' (by (with_reducible repeat (first | apply Ra_ | apply Rn_ | apply Rd_)); exact (Kd.R_mono (Kd.R_far (p := ⟨gb250, 1, none⟩) (Kd.R_far (p := ⟨gb250, 0, none⟩) (Kd.R_types HO_251001.out BK250.out (by decide)) (fun _ hk => hk.2) (.slice Ao168 x253000_83.length co168)) (fun _ hk => hk.2) (.slice Ao172 x253001_83.length co172)) (fun _ h_ => h_.1))) (Kd.R_base ho1) hb); have n4_ := mk0 (Kd.R_elder' (by (with_reducible repeat (first | apply Ra_ | apply Rn_ | apply Rd_)); exact (Kd.R_mono (Kd.R_far (p := ⟨gb250, 1, none⟩) (Kd.R_far (p := ⟨gb250, 0, none⟩) (Kd.R_types HO_253000.out BK250.out (by decide)) (fun _ hk => hk.2) (.slice Ao168 x253000_83.length co168)) (fun _ hk => hk.2) (.slice Ao172 x253001_83.length co172)) (fun _ h_ => h_.1))) (Kd.R_base ho0) hb); have n5_ := mk0 (Kd.R_elder' (by (with_reducible repeat (first | apply Ra_ | apply Rn_ | apply Rd_)); exact (Kd.R_mono (Kd.R_far (p := ⟨gb250, 1, none⟩) (Kd.R_far (p := ⟨gb250, 0, none⟩) (Kd.R_types HO_253001.out BK250.out (by decide)) (fun _ hk => hk.2) (.slice Ao168 x253000_83.length co168)) (fun _ hk => hk.2) (.slice Ao172 x253001_83.length co172)) (fun _ h_ => h_.1))) (Kd.R_base ho1) hb); have n6_ := mk0 (Kd.R_lower (Kd.R_new' (Kd.R_new' (Kd.R_new' ho0 (Kd.R_lt (by (with_reducible repeat (first | apply Ra_ | apply Rn_ | apply Rd_)); exact (Kd.R_mono (Kd.R_far (p := ⟨gb250, 1, none⟩) (Kd.R_far (p := ⟨gb250, 0, none⟩) (Kd.R_types HO_248000.out BK250.out (by decide)) (fun _ hk => hk.2) (.slice Ao168 x253000_83.length co168)) (fun _ hk => hk.2) (.slice Ao172 x253001_83.length co172)) (fun _ h_ => h_.1))))) (Kd.R_lt (by (with_reducible repeat (first | apply Ra_ | apply Rn_ | apply Rd_)); exact (Kd.R_mono (Kd.R_far (p := ⟨gb250, 1, none⟩) (Kd.R_far (p := ⟨gb250, 0, none⟩) (Kd.R_types HO_251000.out BK250.out (by decide)) (fun _ hk => hk.2) (.slice Ao168 x253000_83.length co168)) (fun _ hk => hk.2) (.slice Ao172 x253001_83.length co172)) (fun _ h_ => h_.1))))) (Kd.R_lt (by (with_reducible repeat (first | apply Ra_ | apply Rn_ | apply Rd_)); exact (Kd.R_mono (Kd.R_far (p := ⟨gb250, 1, none⟩) (Kd.R_far (p := ⟨gb250, 0, none⟩) (Kd.R_types HO_253000.out BK250.out (by decide)) (fun _ hk => hk.2) (.slice Ao168 x253000_83.length co168)) (fun _ hk => hk.2) (.slice Ao172 x253001_83.length co172)) (fun _ h_ => h_.1))))) (bz_ (by repeat (first | (with_reducible first | exact HB.out | apply bL_ | apply pN_ | apply b1_ | refine bs_ ?_ GE236.out | refine bs_ ?_ GE247.out | refine bs_ ?_ GE250.out | refine bs_ ?_ GE252.out) | exact HB.out)))); have n7_ := mk0 (Kd.R_lower (Kd.R_new' (Kd.R_new' (Kd.R_new' ho1 (Kd.R_lt (by (with_reducible repeat (first | apply Ra_ | apply Rn_ | apply Rd_)); exact (Kd.R_mono (Kd.R_far (p := ⟨gb250, 1, none⟩) (Kd.R_far (p := ⟨gb250, 0, none⟩) (Kd.R_types HO_248001.out BK250.out (by decide)) (fun _ hk => hk.2) (.slice Ao168 x253000_83.length co168)) (fun _ hk => hk.2) (.slice Ao172 x253001_83.length co172)) (fun _ h_ => h_.1))))) (Kd.R_lt (by (with_reducible repeat (first | apply Ra_ | apply Rn_ | apply Rd_)); exact (Kd.R_mono (Kd.R_far (p := ⟨gb250, 1, none⟩) (Kd.R_far (p := ⟨gb250, 0, none⟩) (Kd.R_types HO_251001.out BK250.out (by decide)) (fun _ hk => hk.2) (.slice Ao168 x253000_83.length co168)) (fun _ hk => hk.2) (.slice Ao172 x253001_83.length co172)) (fun _ h_ => h_.1))))) (Kd.R_lt (by (with_reducible repeat (first | apply Ra_ | apply Rn_ | apply Rd_)); exact (Kd.R_mono (Kd.R_far (p := ⟨gb250, 1, none⟩) (Kd.R_far (p := ⟨gb250, 0, none⟩) (Kd.R_types HO_253001.out BK250.out (by decide)) (fun _ hk => hk.2) (.slice Ao168 x253000_83.length co168)) (fun _ hk => hk.2) (.slice Ao172 x253001_83.length co172)) (fun _ h_ => h_.1))))) (bz_ (by repeat (first | (with_reducible first | exact HB.out | apply bL_ | apply pN_ | apply b1_ | refine bs_ ?_ GE236.out | refine bs_ ?_ GE247.out | refine bs_ ?_ GE250.out | refine bs_ ?_ GE252.out) | exact HB.out)))); have n8_ := mk0 (blk_below (g := gb236) (o := .cells #[.slice A0_0 l0_0.length c0_0, .slice A0_1 l0_1.length c0_1, .slice A0_2 l0_2.length c0_2] 47 (0, 0)) (by (with_reducible repeat (first | refine bN_ ?_ _ | refine bD_ ?_ | refine bA_ ?_ _)); refine blk_far ?_ NB236_250.out _; (with_reducible repeat (first | refine bN_ ?_ _ | refine bD_ ?_ | refine bA_ ?_ _)); refine blk_far ?_ NB236_250.out _; (with_reducible repeat (first | refine bN_ ?_ _ | refine bD_ ?_ | refine bA_ ?_ _)); exact BK236.out) hb); have n9_ := mk0 (blk_below (g := gb247) (o := .cells #[.slice Ao20 t239.length co20, .slice Ao23 t242.length co23] 44 (0, 0)) (by (with_reducible repeat (first | refine bN_ ?_ _ | refine bD_ ?_ | refine bA_ ?_ _)); refine blk_far ?_ NB247_250.out _; (with_reducible repeat (first | refine bN_ ?_ _ | refine bD_ ?_ | refine bA_ ?_ _)); refine blk_far ?_ NB247_250.out _; (with_reducible repeat (first | refine bN_ ?_ _ | refine bD_ ?_ | refine bA_ ?_ _)); exact BK247.out) hb); have n10_ := mk0 (blk_below (g := gb250) (o := .cells #[.slice Ao168 x253000_83.length co168, .slice Ao172 x253001_83.length co172] 44 (0, 0)) (by (with_reducible repeat (first | refine bN_ ?_ _ | refine bD_ ?_ | refine bA_ ?_ _)); refine blk_put (cs := #[.slice Ao168 x253000_83.length co168, u251001]) ?_ 1 _ rfl; (with_reducible repeat (first | refine bN_ ?_ _ | refine bD_ ?_ | refine bA_ ?_ _)); refine blk_put (cs := #[u251000, u251001]) ?_ 0 _ rfl; (with_reducible repeat (first | refine bN_ ?_ _ | refine bD_ ?_ | refine bA_ ?_ _)); exact BK250.out) hb); have n11_ := mk0 (blk_below (g := gb252) (o := .cells #[.slice Ao168 x253000_83.length co168, .slice Ao172 x253001_83.length co172] 44 (0, 0)) (by (with_reducible repeat (first | refine bN_ ?_ _ | refine bD_ ?_ | refine bA_ ?_ _)); refine blk_far ?_ NB252_250.out _; (with_reducible repeat (first | refine bN_ ?_ _ | refine bD_ ?_ | refine bA_ ?_ _)); refine blk_far ?_ NB252_250.out _; (with_reducible repeat (first | refine bN_ ?_ _ | refine bD_ ?_ | refine bA_ ?_ _)); exact BK252.out) hb); have n12_ := mk0 (bt_ (by repeat (first | (with_reducible first | exact HB.out | apply bL_ | apply pN_ | apply b1_ | refine bs_ ?_ GE236.out | refine bs_ ?_ GE247.out | refine bs_ ?_ GE250.out | refine bs_ ?_ GE252.out) | exact HB.out)) hb); clear HO_248000; clear HO_248001; clear HO_251000; clear HO_251001; clear HO_253000; clear HO_253001; clear BK236; clear BK247; clear BK250; clear BK252; clear HB; have HO_248000 := n0_; have HO_248001 := n1_; have HO_251000 := n2_; have HO_251001 := n3_; have HO_253000 := n4_; have HO_253001 := n5_; have HO283 := n6_; have HO286 := n7_; have BK236 := n8_; have BK247 := n9_; have BK250 := n10_; have BK252 := n11_; have HB := n12_; clear n0_ n1_ n2_ n3_ n4_ n5_ n6_ n7_ n8_ n9_ n10_ n11_ n12_; (try clear hb); (try clear hb2); (try clear hk); (try clear hi); (try clear ho0); (try clear ho1)) | ((with_reducible refine gate_dst (N := 12) rfl ?_); (try (refine gate_guard (by rfl) ?_; dsimp only)); refine box_event ?hg (N := 12) ?hd (cs := #[.slice none 0 0, .slice none 0 0]) (t := 44) ?hr ?_; (case hd => rfl); (case hg => rfl); (case hr => first | (go_simp; done) | (go_simp; rfl)); intro gb288 hg w174 hbox hb; have n0_ := mk0 (Kd.R_below (by (with_reducible repeat (first | apply Ra_ | apply Rn_ | apply Rd_)); exact HO_248000.out) hb); have n1_ := mk0 (Kd.R_below (by (with_reducible repeat (first | apply Ra_ | apply Rn_ | apply Rd_)); exact HO_248001.out) hb); have n2_ := mk0 (Kd.R_below (by (with_reducible repeat (first | apply Ra_ | apply Rn_ | apply Rd_)); exact HO_251000.out) hb); have n3_ := mk0 (Kd.R_below (by (with_reducible repeat (first | apply Ra_ | apply Rn_ | apply Rd_)); exact HO_251001.out) hb); have n4_ := mk0 (Kd.R_below (by (with_reducible repeat (first | apply Ra_ | apply Rn_ | apply Rd_)); exact HO_253000.out) hb); have n5_ := mk0 (Kd.R_below (by (with_reducible repeat (first | apply Ra_ | apply Rn_ | apply Rd_)); exact HO_253001.out) hb); have n6_ := mk0 (Kd.R_below (by (with_reducible repeat (first | apply Ra_ | apply Rn_ | apply Rd_)); exact HO283.out) hb); have n7_ := mk0 (Kd.R_below (by (with_reducible repeat (first | apply Ra_ | apply Rn_ | apply Rd_)); exact HO286.out) hb); have n8_ := mk0 (blk_below (g := gb236) (o := .cells #[.slice A0_0 l0_0.length c0_0, .slice A0_1 l0_1.length c0_1, .slice A0_2 l0_2.length c0_2] 47 (0, 0)) (by (with_reducible repeat (first | refine bN_ ?_ _ | refine bD_ ?_ | refine bA_ ?_ _)); exact BK236.out) hb); have n9_ := mk0 (blk_below (g := gb247) (o := .cells #[.slice Ao20 t239.length co20, .slice Ao23 t242.length co23] 44 (0, 0)) (by (with_reducible repeat (first | refine bN_ ?_ _ | refine bD_ ?_ | refine bA_ ?_ _)); exact BK247.out) hb); have n10_ := mk0 (blk_below (g := gb250) (o := .cells #[.slice Ao168 x253000_83.length co168, .slice Ao172 x253001_83.length co172] 44 (0, 0)) (by (with_reducible repeat (first | refine bN_ ?_ _ | refine bD_ ?_ | refine bA_ ?_ _)); exact BK250.out) hb); have n11_ := mk0 (blk_below (g := gb252) (o := .cells #[.slice Ao168 x253000_83.length co168, .slice Ao172 x253001_83.length co172] 44 (0, 0)) (by (with_reducible repeat (first | refine bN_ ?_ _ | refine bD_ ?_ | refine bA_ ?_ _)); exact BK252.out) hb); have n12_ := mk0 (bt_ (by repeat (first | (with_reducible first | exact HB.out | apply bL_ | apply pN_ | apply b1_ | refine bs_ ?_ GE236.out | refine bs_ ?_ GE247.out | refine bs_ ?_ GE250.out | refine bs_ ?_ GE252.out) | exact HB.out)) hb); have n13_ := mk0 (hbox); have n14_ := mk0 ((by rw [hg]; exact (bz_ (by repeat (first | (with_reducible first | exact HB.out | apply bL_ | apply pN_ | apply b1_ | refine bs_ ?_ GE236.out | refine bs_ ?_ GE247.out | refine bs_ ?_ GE250.out | refine bs_ ?_ GE252.out) | exact HB.out))) : w.heap.size ≤ gb288)); have n15_ := mk0 ((by rw [hg]; exact (bz_ (by repeat (first | (with_reducible first | exact HB.out | apply bL_ | apply pN_ | apply b1_ | refine bs_ ?_ GE236.out | refine bs_ ?_ GE247.out | refine bs_ ?_ GE250.out | refine bs_ ?_ GE252.out) | exact HB.out))) : w.heap.size ≤ gb288)); have n16_ := mk0 ((by rw [hg]; exact Nat.ne_of_lt (blk_lt (g := gb236) (o := .cells #[.slice A0_0 l0_0.length c0_0, .slice A0_1 l0_1.length c0_1, .slice A0_2 l0_2.length c0_2] 47 (0, 0)) (by (with_reducible repeat (first | refine bN_ ?_ _ | refine bD_ ?_ | refine bA_ ?_ _)); exact BK236.out)) : gb236 ≠ gb288)); have n17_ := mk0 ((by rw [hg]; exact Nat.ne_of_gt (blk_lt (g := gb236) (o := .cells #[.slice A0_0 l0_0.length c0_0, .slice A0_1 l0_1.length c0_1, .slice A0_2 l0_2.length c0_2] 47 (0, 0)) (by (with_reducible repeat (first | refine bN_ ?_ _ | refine bD_ ?_ | refine bA_ ?_ _)); exact BK236.out)) : gb288 ≠ gb236)); have n18_ := mk0 ((by rw [hg]; exact Nat.ne_of_lt (blk_lt (g := gb247) (o := .cells #[.slice Ao20 t239.length co20, .slice Ao23 t242.length co23] 44 (0, 0)) (by (with_reducible repeat (first | refine bN_ ?_ _ | refine bD_ ?_ | refine bA_ ?_ _)); exact BK247.out)) : gb247 ≠ gb288)); have n19_ := mk0 ((by rw [hg]; exact Nat.ne_of_gt (blk_lt (g := gb247) (o := .cells #[.slice Ao20 t239.length co20, .slice Ao23 t242.length co23] 44 (0, 0)) (by (with_reducible repeat (first | refine bN_ ?_ _ | refine bD_ ?_ | refine bA_ ?_ _)); exact BK247.out)) : gb288 ≠ gb247)); have n20_ := mk0 ((by rw [hg]; exact Nat.ne_of_lt (blk_lt (g := gb250) (o := .cells #[.slice Ao168 x253000_83.length co168, .slice Ao172 x253001_83.length co172] 44 (0, 0)) (by (with_reducible repeat (first | refine bN_ ?_ _ | refine bD_ ?_ | refine bA_ ?_ _)); exact BK250.out)) : gb250 ≠ gb288)); have n21_ := mk0 ((by rw [hg]; exact Nat.ne_of_gt (blk_lt (g := gb250) (o := .cells #[.slice Ao168 x253000_83.length co168, .slice Ao172 x253001_83.length co172] 44 (0, 0)) (by (with_reducible repeat (first | refine bN_ ?_ _ | refine bD_ ?_ | refine bA_ ?_ _)); exact BK250.out)) : gb288 ≠ gb250)); have n22_ := mk0 ((by rw [hg]; exact Nat.ne_of_lt (blk_lt (g := gb252) (o := .cells #[.slice Ao168 x253000_83.length co168, .slice Ao172 x253001_83.length co172] 44 (0, 0)) (by (with_reducible repeat (first | refine bN_ ?_ _ | refine bD_ ?_ | refine bA_ ?_ _)); exact BK252.out)) : gb252 ≠ gb288)); have n23_ := mk0 ((by rw [hg]; exact Nat.ne_of_gt (blk_lt (g := gb252) (o := .cells #[.slice Ao168 x253000_83.length co168, .slice Ao172 x253001_83.length co172] 44 (0, 0)) (by (with_reducible repeat (first | refine bN_ ?_ _ | refine bD_ ?_ | refine bA_ ?_ _)); exact BK252.out)) : gb288 ≠ gb252)); clear HO_248000; clear HO_248001; clear HO_251000; clear HO_251001; clear HO_253000; clear HO_253001; clear HO283; clear HO286; clear BK236; clear BK247; clear BK250; clear BK252; clear HB; have HO_248000 := n0_; have HO_248001 := n1_; have HO_251000 := n2_; have HO_251001 := n3_; have HO_253000 := n4_; have HO_253001 := n5_; have HO283 := n6_; have HO286 := n7_; have BK236 := n8_; have BK247 := n9_; have BK250 := n10_; have BK252 := n11_; have HB := n12_; have BK288 := n13_; have GW288 := n14_; have GE288 := n15_; have NB236_288 := n16_; have NB288_236 := n17_; have NB247_288 := n18_; have NB288_247 := n19_; have NB250_288 := n20_; have NB288_250 := n21_; have NB252_288 := n22_; have NB288_252 := n23_; clear n0_ n1_ n2_ n3_ n4_ n5_ n6_ n7_ n8_ n9_ n10_ n11_ n12_ n13_ n14_ n15_ n16_ n17_ n18_ n19_ n20_ n21_ n22_ n23_; clear hb hbox hg; obtain ⟨Ao175, co175, eo175⟩ := Kd.R_slice HO283.out; subst eo175; have hnb176 := NB288_236.out; have hnc176 := NB236_288.out; have hnb177 := NB288_247.out; have hnc177 := NB247_288.out; have hnb178 := NB288_250.out; have hnc178 := NB250_288.out; have hnb179 := NB288_252.out; have hnc179 := NB252_288.out; have hcz180_0 : w174.cell? ⟨gb288, 0, none⟩ = some (.slice none 0 0) := (blk_cell BK288.out 0).trans rfl; have hcz180_1 : w174.cell? ⟨gb288, 1, none⟩ = some (.slice none 0 0) := (blk_cell BK288.out 1).trans rfl; have hfz180_0 := blk_frozen BK288.out 0; have hfz180_1 := blk_frozen BK288.out 1; obtain ⟨Ao181, co181, eo181⟩ := Kd.R_slice HO286.out; subst eo181) | ((with_reducible refine gate_callee (f := 25) rfl ?_); refine goesL_ (some 122) rfl rfl Try.func25 (by kernel_rfl) rfl #[.int .i64 t287] rfl (by (try simp only [List.map_toArray, List.map_cons, List.map_nil]); first | done | rfl | (simp only [List.length_drop, List.length_take]; rfl)) ?_; (with_reducible refine (quorumlaw10_num.calls t287 t289 _ A139.out).mono ?_); rintro e w' ⟨rfl, ⟨nd, rfl⟩⟩; refine ⟨_, rfl, ?_⟩; have hnb182 := NB247_236.out; have hnc182 := NB236_247.out; have hcz183_0 : w174.cell? ⟨gb247, 0, none⟩ = some (.slice Ao20 t239.length co20) := (blk_cell BK247.out 0).trans rfl; have hcz183_1 : w174.cell? ⟨gb247, 1, none⟩ = some (.slice Ao23 t242.length co23) := (blk_cell BK247.out 1).trans rfl; have hfz183_0 := blk_frozen BK247.out 0; have hfz183_1 := blk_frozen BK247.out 1) | (go_at_call 31; (with_reducible refine (quorumref0_EqPend.calls kj83 _ _ t281 _ _ t284 _ _ t239 _ _ t242 false _ ?side1 ?side2 ?side3 ?side4 ?side5 ?side6 ?side7 ?side8 A141.out).mono ?_); (case side1 => refine (Kd.R_reads' (e := 55) (base := w.heap.size) (ok := fun k_ => (((True ∧ some k_ ≠ (.slice Ao20 t239.length co20 : Value).ownBlock) ∧ some k_ ≠ (u251000 : Value).ownBlock) ∧ some k_ ≠ (.slice Ao168 x253000_83.length co168 : Value).ownBlock)) (n := t281.length) (c := co175) ?_).2.2; exact (by (with_reducible repeat (first | apply Ra_ | apply Rn_ | apply Rd_)); exact (Kd.R_mono (Kd.R_far (p := ⟨gb288, 1, none⟩) (Kd.R_far (p := ⟨gb288, 0, none⟩) (Kd.R_types HO283.out BK288.out (by decide)) (fun _ hk => hk.2) (.slice Ao175 t281.length co175)) (fun _ hk => hk.2) (.slice Ao181 t284.length co181)) (fun _ h_ => h_.1)))); (case side2 => exact (Kd.R_reads' HO283.out).2.1); (case side3 => refine (Kd.R_reads' (e := 3) (base := w.heap.size) (ok := fun k_ => (((True ∧ some k_ ≠ (.slice Ao23 t242.length co23 : Value).ownBlock) ∧ some k_ ≠ (u251001 : Value).ownBlock) ∧ some k_ ≠ (.slice Ao172 x253001_83.length co172 : Value).ownBlock)) (n := t284.length) (c := co181) ?_).2.2; exact (by (with_reducible repeat (first | apply Ra_ | apply Rn_ | apply Rd_)); exact (Kd.R_mono (Kd.R_far (p := ⟨gb288, 1, none⟩) (Kd.R_far (p := ⟨gb288, 0, none⟩) (Kd.R_types HO286.out BK288.out (by decide)) (fun _ hk => hk.2) (.slice Ao175 t281.length co175)) (fun _ hk => hk.2) (.slice Ao181 t284.length co181)) (fun _ h_ => h_.1)))); (case side4 => exact (Kd.R_reads' HO286.out).2.1); (case side5 => refine (Kd.R_reads' (e := 55) (base := w.heap.size) (ok := fun k_ => (some k_ ≠ (.slice Ao168 x253000_83.length co168 : Value).ownBlock ∧ some k_ ≠ (.slice Ao175 t281.length co175 : Value).ownBlock)) (n := t239.length) (c := co20) ?_).2.2; exact (by (with_reducible repeat (first | apply Ra_ | apply Rn_ | apply Rd_)); exact (Kd.R_mono (Kd.R_far (p := ⟨gb288, 1, none⟩) (Kd.R_far (p := ⟨gb288, 0, none⟩) (Kd.R_types HO_248000.out BK288.out (by decide)) (fun _ hk => hk.2) (.slice Ao175 t281.length co175)) (fun _ hk => hk.2) (.slice Ao181 t284.length co181)) (fun _ h_ => h_.1)))); (case side6 => exact (Kd.R_reads' HO_248000.out).2.1); (case side7 => refine (Kd.R_reads' (e := 3) (base := w.heap.size) (ok := fun k_ => (some k_ ≠ (.slice Ao172 x253001_83.length co172 : Value).ownBlock ∧ some k_ ≠ (.slice Ao181 t284.length co181 : Value).ownBlock)) (n := t242.length) (c := co23) ?_).2.2; exact (by (with_reducible repeat (first | apply Ra_ | apply Rn_ | apply Rd_)); exact (Kd.R_mono (Kd.R_far (p := ⟨gb288, 1, none⟩) (Kd.R_far (p := ⟨gb288, 0, none⟩) (Kd.R_types HO_248001.out BK288.out (by decide)) (fun _ hk => hk.2) (.slice Ao175 t281.length co175)) (fun _ hk => hk.2) (.slice Ao181 t284.length co181)) (fun _ h_ => h_.1)))); (case side8 => exact (Kd.R_reads' HO_248001.out).2.1); rintro e w184 ⟨rfl, hb⟩; have n0_ := mk0 (Kd.R_below (by (with_reducible repeat (first | apply Ra_ | apply Rn_ | apply Rd_)); exact (Kd.R_mono (Kd.R_far (p := ⟨gb288, 1, none⟩) (Kd.R_far (p := ⟨gb288, 0, none⟩) (Kd.R_types HO_248000.out BK288.out (by decide)) (fun _ hk => hk.2) (.slice Ao175 t281.length co175)) (fun _ hk => hk.2) (.slice Ao181 t284.length co181)) (fun _ h_ => h_.1))) hb); have n1_ := mk0 (Kd.R_below (by (with_reducible repeat (first | apply Ra_ | apply Rn_ | apply Rd_)); exact (Kd.R_mono (Kd.R_far (p := ⟨gb288, 1, none⟩) (Kd.R_far (p := ⟨gb288, 0, none⟩) (Kd.R_types HO_248001.out BK288.out (by decide)) (fun _ hk => hk.2) (.slice Ao175 t281.length co175)) (fun _ hk => hk.2) (.slice Ao181 t284.length co181)) (fun _ h_ => h_.1))) hb); have n2_ := mk0 (Kd.R_below (by (with_reducible repeat (first | apply Ra_ | apply Rn_ | apply Rd_)); exact (Kd.R_mono (Kd.R_far (p := ⟨gb288, 1, none⟩) (Kd.R_far (p := ⟨gb288, 0, none⟩) (Kd.R_types HO_251000.out BK288.out (by decide)) (fun _ hk => hk.2) (.slice Ao175 t281.length co175)) (fun _ hk => hk.2) (.slice Ao181 t284.length co181)) (fun _ h_ => h_.1))) hb); have n3_ := mk0 (Kd.R_below (by (with_reducible repeat (first | apply Ra_ | apply Rn_ | apply Rd_)); exact (Kd.R_mono (Kd.R_far (p := ⟨gb288, 1, none⟩) (Kd.R_far (p := ⟨gb288, 0, none⟩) (Kd.R_types HO_251001.out BK288.out (by decide)) (fun _ hk => hk.2) (.slice Ao175 t281.length co175)) (fun _ hk => hk.2) (.slice Ao181 t284.length co181)) (fun _ h_ => h_.1))) hb); have n4_ := mk0 (Kd.R_below (by (with_reducible repeat (first | apply Ra_ | apply Rn_ | apply Rd_)); exact (Kd.R_mono (Kd.R_far (p := ⟨gb288, 1, none⟩) (Kd.R_far (p := ⟨gb288, 0, none⟩) (Kd.R_types HO_253000.out BK288.out (by decide)) (fun _ hk => hk.2) (.slice Ao175 t281.length co175)) (fun _ hk => hk.2) (.slice Ao181 t284.length co181)) (fun _ h_ => h_.1))) hb); have n5_ := mk0 (Kd.R_below (by (with_reducible repeat (first | apply Ra_ | apply Rn_ | apply Rd_)); exact (Kd.R_mono (Kd.R_far (p := ⟨gb288, 1, none⟩) (Kd.R_far (p := ⟨gb288, 0, none⟩) (Kd.R_types HO_253001.out BK288.out (by decide)) (fun _ hk => hk.2) (.slice Ao175 t281.length co175)) (fun _ hk => hk.2) (.slice Ao181 t284.length co181)) (fun _ h_ => h_.1))) hb); have n6_ := mk0 (Kd.R_below (by (with_reducible repeat (first | apply Ra_ | apply Rn_ | apply Rd_)); exact (Kd.R_mono (Kd.R_far (p := ⟨gb288, 1, none⟩) (Kd.R_far (p := ⟨gb288, 0, none⟩) (Kd.R_types HO283.out BK288.out (by decide)) (fun _ hk => hk.2) (.slice Ao175 t281.length co175)) (fun _ hk => hk.2) (.slice Ao181 t284.length co181)) (fun _ h_ => h_.1))) hb); have n7_ := mk0 (Kd.R_below (by (with_reducible repeat (first | apply Ra_ | apply Rn_ | apply Rd_)); exact (Kd.R_mono (Kd.R_far (p := ⟨gb288, 1, none⟩) (Kd.R_far (p := ⟨gb288, 0, none⟩) (Kd.R_types HO286.out BK288.out (by decide)) (fun _ hk => hk.2) (.slice Ao175 t281.length co175)) (fun _ hk => hk.2) (.slice Ao181 t284.length co181)) (fun _ h_ => h_.1))) hb); have n8_ := mk0 (blk_below (g := gb236) (o := .cells #[.slice A0_0 l0_0.length c0_0, .slice A0_1 l0_1.length c0_1, .slice A0_2 l0_2.length c0_2] 47 (0, 0)) (by (with_reducible repeat (first | refine bN_ ?_ _ | refine bD_ ?_ | refine bA_ ?_ _)); refine blk_far ?_ NB236_288.out _; (with_reducible repeat (first | refine bN_ ?_ _ | refine bD_ ?_ | refine bA_ ?_ _)); refine blk_far ?_ NB236_288.out _; (with_reducible repeat (first | refine bN_ ?_ _ | refine bD_ ?_ | refine bA_ ?_ _)); exact BK236.out) hb); have n9_ := mk0 (blk_below (g := gb247) (o := .cells #[.slice Ao20 t239.length co20, .slice Ao23 t242.length co23] 44 (0, 0)) (by (with_reducible repeat (first | refine bN_ ?_ _ | refine bD_ ?_ | refine bA_ ?_ _)); refine blk_far ?_ NB247_288.out _; (with_reducible repeat (first | refine bN_ ?_ _ | refine bD_ ?_ | refine bA_ ?_ _)); refine blk_far ?_ NB247_288.out _; (with_reducible repeat (first | refine bN_ ?_ _ | refine bD_ ?_ | refine bA_ ?_ _)); exact BK247.out) hb); have n10_ := mk0 (blk_below (g := gb250) (o := .cells #[.slice Ao168 x253000_83.length co168, .slice Ao172 x253001_83.length co172] 44 (0, 0)) (by (with_reducible repeat (first | refine bN_ ?_ _ | refine bD_ ?_ | refine bA_ ?_ _)); refine blk_far ?_ NB250_288.out _; (with_reducible repeat (first | refine bN_ ?_ _ | refine bD_ ?_ | refine bA_ ?_ _)); refine blk_far ?_ NB250_288.out _; (with_reducible repeat (first | refine bN_ ?_ _ | refine bD_ ?_ | refine bA_ ?_ _)); exact BK250.out) hb); have n11_ := mk0 (blk_below (g := gb252) (o := .cells #[.slice Ao168 x253000_83.length co168, .slice Ao172 x253001_83.length co172] 44 (0, 0)) (by (with_reducible repeat (first | refine bN_ ?_ _ | refine bD_ ?_ | refine bA_ ?_ _)); refine blk_far ?_ NB252_288.out _; (with_reducible repeat (first | refine bN_ ?_ _ | refine bD_ ?_ | refine bA_ ?_ _)); refine blk_far ?_ NB252_288.out _; (with_reducible repeat (first | refine bN_ ?_ _ | refine bD_ ?_ | refine bA_ ?_ _)); exact BK252.out) hb); have n12_ := mk0 (blk_below (g := gb288) (o := .cells #[.slice Ao175 t281.length co175, .slice Ao181 t284.length co181] 44 (0, 0)) (by (with_reducible repeat (first | refine bN_ ?_ _ | refine bD_ ?_ | refine bA_ ?_ _)); refine blk_put (cs := #[.slice Ao175 t281.length co175, .slice none 0 0]) ?_ 1 _ rfl; (with_reducible repeat (first | refine bN_ ?_ _ | refine bD_ ?_ | refine bA_ ?_ _)); refine blk_put (cs := #[.slice none 0 0, .slice none 0 0]) ?_ 0 _ rfl; (with_reducible repeat (first | refine bN_ ?_ _ | refine bD_ ?_ | refine bA_ ?_ _)); exact BK288.out) hb); have n13_ := mk0 (bt_ (by repeat (first | (with_reducible first | exact HB.out | apply bL_ | apply pN_ | apply b1_ | refine bs_ ?_ GE236.out | refine bs_ ?_ GE247.out | refine bs_ ?_ GE250.out | refine bs_ ?_ GE252.out | refine bs_ ?_ GE288.out) | exact HB.out)) hb); clear HO_248000; clear HO_248001; clear HO_251000; clear HO_251001; clear HO_253000; clear HO_253001; clear HO283; clear HO286; clear BK236; clear BK247; clear BK250; clear BK252; clear BK288; clear HB; have HO_248000 := n0_; have HO_248001 := n1_; have HO_251000 := n2_; have HO_251001 := n3_; have HO_253000 := n4_; have HO_253001 := n5_; have HO283 := n6_; have HO286 := n7_; have BK236 := n8_; have BK247 := n9_; have BK250 := n10_; have BK252 := n11_; have BK288 := n12_; have HB := n13_; clear n0_ n1_ n2_ n3_ n4_ n5_ n6_ n7_ n8_ n9_ n10_ n11_ n12_ n13_; (try clear hb); (try clear hb2); (try clear hk); (try clear hi)))
                   go_ret
                   exact ⟨by first | rfl | (simp [errW_none, errW_some] <;> rfl) | (simp [*, errW_none, errW_some] <;> rfl), by repeat (first | (with_reducible first | exact HB.out | apply bL_ | apply pN_ | apply b1_ | refine bs_ ?_ GE236.out | refine bs_ ?_ GE247.out | refine bs_ ?_ GE250.out | refine bs_ ?_ GE252.out | refine bs_ ?_ GE288.out) | exact HB.out)⟩
                 ·rw [if_neg c140] at H
                  have c140b0 : (t289 == 0) = false := beq_eq_false_iff_ne.mpr c140
                  have c140b1 : (t289 != 0) = true := bne_iff_ne.mpr c140
                  obtain rfl := Option.some.inj H
                  have hnb185 := NB252_236.out
                  have hnc185 := NB236_252.out
                  have hnb186 := NB252_247.out
                  have hnc186 := NB247_252.out
                  have hnb187 := NB252_250.out
                  have hnc187 := NB250_252.out
                  have hcz188_0 : wc.cell? ⟨gb252, 0, none⟩ = some (u253000) := (blk_cell BK252.out 0).trans rfl
                  have hcz188_1 : wc.cell? ⟨gb252, 1, none⟩ = some (u253001) := (blk_cell BK252.out 1).trans rfl
                  have hfz188_0 := blk_frozen BK252.out 0
                  have hfz188_1 := blk_frozen BK252.out 1
                  obtain ⟨Ao189, co189, eo189⟩ := Kd.R_slice HO_253000.out
                  subst eo189
                  have hnb190 := NB250_236.out
                  have hnc190 := NB236_250.out
                  have hnb191 := NB250_247.out
                  have hnc191 := NB247_250.out
                  have hcz192_0 : wc.cell? ⟨gb250, 0, none⟩ = some (u251000) := (blk_cell BK250.out 0).trans rfl
                  have hcz192_1 : wc.cell? ⟨gb250, 1, none⟩ = some (u251001) := (blk_cell BK250.out 1).trans rfl
                  have hfz192_0 := blk_frozen BK250.out 0
                  have hfz192_1 := blk_frozen BK250.out 1
                  obtain ⟨Ao193, co193, eo193⟩ := Kd.R_slice HO_253001.out
                  subst eo193
                  go_wp2_with (first | ((with_reducible refine gate_callee (f := 30) rfl ?_); refine goesL_ (some 118) rfl rfl Try.func30 (by kernel_rfl) rfl #[.agg #[.slice Ao189 x253000_83.length co189, .slice Ao193 x253001_83.length co193], .int .i64 t245] rfl (by (try simp only [List.map_toArray, List.map_cons, List.map_nil]); first | done | rfl | (simp only [List.length_drop, List.length_take]; rfl)) ?_; (with_reducible refine (pend_Return.calls kj83 _ _ x253000_83 _ _ x253001_83 t245 t281 t284 t287 _ ?side1 ?side2 ?side3 ?side4 A138.out).mono ?_); (case side1 => refine (Kd.R_reads' (e := 55) (base := w.heap.size) (ok := fun k_ => (some k_ ≠ (.slice Ao20 t239.length co20 : Value).ownBlock ∧ some k_ ≠ (u251000 : Value).ownBlock)) (n := x253000_83.length) (c := co189) ?_).2.2; exact (by (with_reducible repeat (first | apply Ra_ | apply Rn_ | apply Rd_)); exact (Kd.R_mono (Kd.R_far (p := ⟨gb250, 1, none⟩) (Kd.R_far (p := ⟨gb250, 0, none⟩) (Kd.R_types HO_253000.out BK250.out (by decide)) (fun _ hk => hk.2) (.slice Ao189 x253000_83.length co189)) (fun _ hk => hk.2) (.slice Ao193 x253001_83.length co193)) (fun _ h_ => h_.1)))); (case side2 => exact (Kd.R_reads' HO_253000.out).2.1); (case side3 => refine (Kd.R_reads' (e := 3) (base := w.heap.size) (ok := fun k_ => (some k_ ≠ (.slice Ao23 t242.length co23 : Value).ownBlock ∧ some k_ ≠ (u251001 : Value).ownBlock)) (n := x253001_83.length) (c := co193) ?_).2.2; exact (by (with_reducible repeat (first | apply Ra_ | apply Rn_ | apply Rd_)); exact (Kd.R_mono (Kd.R_far (p := ⟨gb250, 1, none⟩) (Kd.R_far (p := ⟨gb250, 0, none⟩) (Kd.R_types HO_253001.out BK250.out (by decide)) (fun _ hk => hk.2) (.slice Ao189 x253000_83.length co189)) (fun _ hk => hk.2) (.slice Ao193 x253001_83.length co193)) (fun _ h_ => h_.1)))); (case side4 => exact (Kd.R_reads' HO_253001.out).2.1); rintro e w194 ⟨v282, v285, rfl, ho0, ho1, hb⟩; refine ⟨_, rfl, ?_⟩; have n0_ := mk0 (Kd.R_elder' (by (with_reducible repeat (first | apply Ra_ | apply Rn_ | apply Rd_)); exact (Kd.R_mono (Kd.R_far (p := ⟨gb250, 1, none⟩) (Kd.R_far (p := ⟨gb250, 0, none⟩) (Kd.R_types HO_248000.out BK250.out (by decide)) (fun _ hk => hk.2) (.slice Ao189 x253000_83.length co189)) (fun _ hk => hk.2) (.slice Ao193 x253001_83.length co193)) (fun _ h_ => h_.1))) (Kd.R_base ho0) hb); have n1_ := mk0 (Kd.R_elder' (by (with_reducible repeat (first | apply Ra_ | apply Rn_ | apply Rd_)); exact (Kd.R_mono (Kd.R_far (p := ⟨gb250, 1, none⟩) (Kd.R_far (p := ⟨gb250, 0, none⟩) (Kd.R_types HO_248001.out BK250.out (by decide)) (fun _ hk => hk.2) (.slice Ao189 x253000_83.length co189)) (fun _ hk => hk.2) (.slice Ao193 x253001_83.length co193)) (fun _ h_ => h_.1))) (Kd.R_base ho1) hb); have n2_ := mk0 (Kd.R_elder' (by (with_reducible repeat (first | apply Ra_ | apply Rn_ | apply Rd_)); exact (Kd.R_mono (Kd.R_far (p := ⟨gb250, 1, none⟩) (Kd.R_far (p := ⟨gb250, 0, none⟩) (Kd.R_types HO_251000.out BK250.out (by decide)) (fun _ hk => hk.2) (.slice Ao189 x253000_83.length co189)) (fun _ hk => hk.2) (.slice Ao193 x253001_83.length co193)) (fun _ h_ => h_.1))) (Kd.R_base ho0) hb); have n3_ := mk0 (Kd.R_elder' (by (with_reducible repeat (first | apply Ra_ | apply Rn_ | apply Rd_)); exact (Kd.R_mono (Kd.R_far (p := ⟨gb250, 1, none⟩) (Kd.R_far (p := ⟨gb250, 0, none⟩) (Kd.R_types HO_251001.out BK250.out (by decide)) (fun _ hk => hk.2) (.slice Ao189 x253000_83.length co189)) (fun _ hk => hk.2) (.slice Ao193 x253001_83.length co193)) (fun _ h_ => h_.1))) (Kd.R_base ho1) hb); have n4_ := mk0 (Kd.R_elder' (by (with_reducible repeat (first | apply Ra_ | apply Rn_ | apply Rd_)); exact (Kd.R_mono (Kd.R_far (p := ⟨gb250, 1, none⟩) (Kd.R_far (p := ⟨gb250, 0, none⟩) (Kd.R_types HO_253000.out BK250.out (by decide)) (fun _ hk => hk.2) (.slice Ao189 x253000_83.length co189)) (fun _ hk => hk.2) (.slice Ao193 x253001_83.length co193)) (fun _ h_ => h_.1))) (Kd.R_base ho0) hb); have n5_ := mk0 (Kd.R_elder' (by (with_reducible repeat (first | apply Ra_ | apply Rn_ | apply Rd_)); exact (Kd.R_mono (Kd.R_far (p := ⟨gb250, 1, none⟩) (Kd.R_far (p := ⟨gb250, 0, none⟩) (Kd.R_types HO_253001.out BK250.out (by decide)) (fun _ hk => hk.2) (.slice Ao189 x253000_83.length co189)) (fun _ hk => hk.2) (.slice Ao193 x253001_83.length co193)) (fun _ h_ => h_.1))) (Kd.R_base ho1) hb); have n6_ := mk0 (Kd.R_lower (Kd.R_new' (Kd.R_new' (Kd.R_new' ho0 (Kd.R_lt (by (with_reducible repeat (first | apply Ra_ | apply Rn_ | apply Rd_)); exact (Kd.R_mono (Kd.R_far (p := ⟨gb250, 1, none⟩) (Kd.R_far (p := ⟨gb250, 0, none⟩) (Kd.R_types HO_248000.out BK250.out (by decide)) (fun _ hk => hk.2) (.slice Ao189 x253000_83.length co189)) (fun _ hk => hk.2) (.slice Ao193 x253001_83.length co193)) (fun _ h_ => h_.1))))) (Kd.R_lt (by (with_reducible repeat (first | apply Ra_ | apply Rn_ | apply Rd_)); exact (Kd.R_mono (Kd.R_far (p := ⟨gb250, 1, none⟩) (Kd.R_far (p := ⟨gb250, 0, none⟩) (Kd.R_types HO_251000.out BK250.out (by decide)) (fun _ hk => hk.2) (.slice Ao189 x253000_83.length co189)) (fun _ hk => hk.2) (.slice Ao193 x253001_83.length co193)) (fun _ h_ => h_.1))))) (Kd.R_lt (by (with_reducible repeat (first | apply Ra_ | apply Rn_ | apply Rd_)); exact (Kd.R_mono (Kd.R_far (p := ⟨gb250, 1, none⟩) (Kd.R_far (p := ⟨gb250, 0, none⟩) (Kd.R_types HO_253000.out BK250.out (by decide)) (fun _ hk => hk.2) (.slice Ao189 x253000_83.length co189)) (fun _ hk => hk.2) (.slice Ao193 x253001_83.length co193)) (fun _ h_ => h_.1))))) (bz_ (by repeat (first | (with_reducible first | exact HB.out | apply bL_ | apply pN_ | apply b1_ | refine bs_ ?_ GE236.out | refine bs_ ?_ GE247.out | refine bs_ ?_ GE250.out | refine bs_ ?_ GE252.out) | exact HB.out)))); have n7_ := mk0 (Kd.R_lower (Kd.R_new' (Kd.R_new' (Kd.R_new' ho1 (Kd.R_lt (by (with_reducible repeat (first | apply Ra_ | apply Rn_ | apply Rd_)); exact (Kd.R_mono (Kd.R_far (p := ⟨gb250, 1, none⟩) (Kd.R_far (p := ⟨gb250, 0, none⟩) (Kd.R_types HO_248001.out BK250.out (by decide)) (fun _ hk => hk.2) (.slice Ao189 x253000_83.length co189)) (fun _ hk => hk.2) (.slice Ao193 x253001_83.length co193)) (fun _ h_ => h_.1))))) (Kd.R_lt (by (with_reducible repeat (first | apply Ra_ | apply Rn_ | apply Rd_)); exact (Kd.R_mono (Kd.R_far (p := ⟨gb250, 1, none⟩) (Kd.R_far (p := ⟨gb250, 0, none⟩) (Kd.R_types HO_251001.out BK250.out (by decide)) (fun _ hk => hk.2) (.slice Ao189 x253000_83.length co189)) (fun _ hk => hk.2) (.slice Ao193 x253001_83.length co193)) (fun _ h_ => h_.1))))) (Kd.R_lt (by (with_reducible repeat (first | apply Ra_ | apply Rn_ | apply Rd_)); exact (Kd.R_mono (Kd.R_far (p := ⟨gb250, 1, none⟩) (Kd.R_far (p := ⟨gb250, 0, none⟩) (Kd.R_types HO_253001.out BK250.out (by decide)) (fun _ hk => hk.2) (.slice Ao189 x253000_83.length co189)) (fun _ hk => hk.2) (.slice Ao193 x253001_83.length co193)) (fun _ h_ => h_.1))))) (bz_ (by repeat (first | (with_reducible first | exact HB.out | apply bL_ | apply pN_ | apply b1_ | refine bs_ ?_ GE236.out | refine bs_ ?_ GE247.out | refine bs_ ?_ GE250.out | refine bs_ ?_ GE252.out) | exact HB.out)))); have n8_ := mk0 (blk_below (g := gb236) (o := .cells #[.slice A0_0 l0_0.length c0_0, .slice A0_1 l0_1.length c0_1, .slice A0_2 l0_2.length c0_2] 47 (0, 0)) (by (with_reducible repeat (first | refine bN_ ?_ _ | refine bD_ ?_ | refine bA_ ?_ _)); refine blk_far ?_ NB236_250.out _; (with_reducible repeat (first | refine bN_ ?_ _ | refine bD_ ?_ | refine bA_ ?_ _)); refine blk_far ?_ NB236_250.out _; (with_reducible repeat (first | refine bN_ ?_ _ | refine bD_ ?_ | refine bA_ ?_ _)); exact BK236.out) hb); have n9_ := mk0 (blk_below (g := gb247) (o := .cells #[.slice Ao20 t239.length co20, .slice Ao23 t242.length co23] 44 (0, 0)) (by (with_reducible repeat (first | refine bN_ ?_ _ | refine bD_ ?_ | refine bA_ ?_ _)); refine blk_far ?_ NB247_250.out _; (with_reducible repeat (first | refine bN_ ?_ _ | refine bD_ ?_ | refine bA_ ?_ _)); refine blk_far ?_ NB247_250.out _; (with_reducible repeat (first | refine bN_ ?_ _ | refine bD_ ?_ | refine bA_ ?_ _)); exact BK247.out) hb); have n10_ := mk0 (blk_below (g := gb250) (o := .cells #[.slice Ao189 x253000_83.length co189, .slice Ao193 x253001_83.length co193] 44 (0, 0)) (by (with_reducible repeat (first | refine bN_ ?_ _ | refine bD_ ?_ | refine bA_ ?_ _)); refine blk_put (cs := #[.slice Ao189 x253000_83.length co189, u251001]) ?_ 1 _ rfl; (with_reducible repeat (first | refine bN_ ?_ _ | refine bD_ ?_ | refine bA_ ?_ _)); refine blk_put (cs := #[u251000, u251001]) ?_ 0 _ rfl; (with_reducible repeat (first | refine bN_ ?_ _ | refine bD_ ?_ | refine bA_ ?_ _)); exact BK250.out) hb); have n11_ := mk0 (blk_below (g := gb252) (o := .cells #[.slice Ao189 x253000_83.length co189, .slice Ao193 x253001_83.length co193] 44 (0, 0)) (by (with_reducible repeat (first | refine bN_ ?_ _ | refine bD_ ?_ | refine bA_ ?_ _)); refine blk_far ?_ NB252_250.out _; (with_reducible repeat (first | refine bN_ ?_ _ | refine bD_ ?_ | refine bA_ ?_ _)); refine blk_far ?_ NB252_250.out _; (with_reducible repeat (first | refine bN_ ?_ _ | refine bD_ ?_ | refine bA_ ?_ _)); exact BK252.out) hb); have n12_ := mk0 (bt_ (by repeat (first | (with_reducible first | exact HB.out | apply bL_ | apply pN_ | apply b1_ | refine bs_ ?_ GE236.out | refine bs_ ?_ GE247.out | refine bs_ ?_ GE250.out | refine bs_ ?_ GE252.out) | exact HB.out)) hb); clear HO_248000; clear HO_248001; clear HO_251000; clear HO_251001; clear HO_253000; clear HO_253001; clear BK236; clear BK247; clear BK250; clear BK252; clear HB; have HO_248000 := n0_; have HO_248001 := n1_; have HO_251000 := n2_; have HO_251001 := n3_; have HO_253000 := n4_; have HO_253001 := n5_; have HO283 := n6_; have HO286 := n7_; have BK236 := n8_; have BK247 := n9_; have BK250 := n10_; have BK252 := n11_; have HB := n12_; clear n0_ n1_ n2_ n3_ n4_ n5_ n6_ n7_ n8_ n9_ n10_ n11_ n12_; (try clear hb); (try clear hb2); (try clear hk); (try clear hi); (try clear ho0); (try clear ho1)) | ((with_reducible refine gate_dst (N := 12) rfl ?_); (try (refine gate_guard (by rfl) ?_; dsimp only)); refine box_event ?hg (N := 12) ?hd (cs := #[.slice none 0 0, .slice none 0 0]) (t := 44) ?hr ?_; (case hd => rfl); (case hg => rfl); (case hr => first | (go_simp; done) | (go_simp; rfl)); intro gb288 hg w195 hbox hb; have n0_ := mk0 (Kd.R_below (by (with_reducible repeat (first | apply Ra_ | apply Rn_ | apply Rd_)); exact HO_248000.out) hb); have n1_ := mk0 (Kd.R_below (by (with_reducible repeat (first | apply Ra_ | apply Rn_ | apply Rd_)); exact HO_248001.out) hb); have n2_ := mk0 (Kd.R_below (by (with_reducible repeat (first | apply Ra_ | apply Rn_ | apply Rd_)); exact HO_251000.out) hb); have n3_ := mk0 (Kd.R_below (by (with_reducible repeat (first | apply Ra_ | apply Rn_ | apply Rd_)); exact HO_251001.out) hb); have n4_ := mk0 (Kd.R_below (by (with_reducible repeat (first | apply Ra_ | apply Rn_ | apply Rd_)); exact HO_253000.out) hb); have n5_ := mk0 (Kd.R_below (by (with_reducible repeat (first | apply Ra_ | apply Rn_ | apply Rd_)); exact HO_253001.out) hb); have n6_ := mk0 (Kd.R_below (by (with_reducible repeat (first | apply Ra_ | apply Rn_ | apply Rd_)); exact HO283.out) hb); have n7_ := mk0 (Kd.R_below (by (with_reducible repeat (first | apply Ra_ | apply Rn_ | apply Rd_)); exact HO286.out) hb); have n8_ := mk0 (blk_below (g := gb236) (o := .cells #[.slice A0_0 l0_0.length c0_0, .slice A0_1 l0_1.length c0_1, .slice A0_2 l0_2.length c0_2] 47 (0, 0)) (by (with_reducible repeat (first | refine bN_ ?_ _ | refine bD_ ?_ | refine bA_ ?_ _)); exact BK236.out) hb); have n9_ := mk0 (blk_below (g := gb247) (o := .cells #[.slice Ao20 t239.length co20, .slice Ao23 t242.length co23] 44 (0, 0)) (by (with_reducible repeat (first | refine bN_ ?_ _ | refine bD_ ?_ | refine bA_ ?_ _)); exact BK247.out) hb); have n10_ := mk0 (blk_below (g := gb250) (o := .cells #[.slice Ao189 x253000_83.length co189, .slice Ao193 x253001_83.length co193] 44 (0, 0)) (by (with_reducible repeat (first | refine bN_ ?_ _ | refine bD_ ?_ | refine bA_ ?_ _)); exact BK250.out) hb); have n11_ := mk0 (blk_below (g := gb252) (o := .cells #[.slice Ao189 x253000_83.length co189, .slice Ao193 x253001_83.length co193] 44 (0, 0)) (by (with_reducible repeat (first | refine bN_ ?_ _ | refine bD_ ?_ | refine bA_ ?_ _)); exact BK252.out) hb); have n12_ := mk0 (bt_ (by repeat (first | (with_reducible first | exact HB.out | apply bL_ | apply pN_ | apply b1_ | refine bs_ ?_ GE236.out | refine bs_ ?_ GE247.out | refine bs_ ?_ GE250.out | refine bs_ ?_ GE252.out) | exact HB.out)) hb); have n13_ := mk0 (hbox); have n14_ := mk0 ((by rw [hg]; exact (bz_ (by repeat (first | (with_reducible first | exact HB.out | apply bL_ | apply pN_ | apply b1_ | refine bs_ ?_ GE236.out | refine bs_ ?_ GE247.out | refine bs_ ?_ GE250.out | refine bs_ ?_ GE252.out) | exact HB.out))) : w.heap.size ≤ gb288)); have n15_ := mk0 ((by rw [hg]; exact (bz_ (by repeat (first | (with_reducible first | exact HB.out | apply bL_ | apply pN_ | apply b1_ | refine bs_ ?_ GE236.out | refine bs_ ?_ GE247.out | refine bs_ ?_ GE250.out | refine bs_ ?_ GE252.out) | exact HB.out))) : w.heap.size ≤ gb288)); have n16_ := mk0 ((by rw [hg]; exact Nat.ne_of_lt (blk_lt (g := gb236) (o := .cells #[.slice A0_0 l0_0.length c0_0, .slice A0_1 l0_1.length c0_1, .slice A0_2 l0_2.length c0_2] 47 (0, 0)) (by (with_reducible repeat (first | refine bN_ ?_ _ | refine bD_ ?_ | refine bA_ ?_ _)); exact BK236.out)) : gb236 ≠ gb288)); have n17_ := mk0 ((by rw [hg]; exact Nat.ne_of_gt (blk_lt (g := gb236) (o := .cells #[.slice A0_0 l0_0.length c0_0, .slice A0_1 l0_1.length c0_1, .slice A0_2 l0_2.length c0_2] 47 (0, 0)) (by (with_reducible repeat (first | refine bN_ ?_ _ | refine bD_ ?_ | refine bA_ ?_ _)); exact BK236.out)) : gb288 ≠ gb236)); have n18_ := mk0 ((by rw [hg]; exact Nat.ne_of_lt (blk_lt (g := gb247) (o := .cells #[.slice Ao20 t239.length co20, .slice Ao23 t242.length co23] 44 (0, 0)) (by (with_reducible repeat (first | refine bN_ ?_ _ | refine bD_ ?_ | refine bA_ ?_ _)); exact BK247.out)) : gb247 ≠ gb288)); have n19_ := mk0 ((by rw [hg]; exact Nat.ne_of_gt (blk_lt (g := gb247) (o := .cells #[.slice Ao20 t239.length co20, .slice Ao23 t242.length co23] 44 (0, 0)) (by (with_reducible repeat (first | refine bN_ ?_ _ | refine bD_ ?_ | refine bA_ ?_ _)); exact BK247.out)) : gb288 ≠ gb247)); have n20_ := mk0 ((by rw [hg]; exact Nat.ne_of_lt (blk_lt (g := gb250) (o := .cells #[.slice Ao189 x253000_83.length co189, .slice Ao193 x253001_83.length co193] 44 (0, 0)) (by (with_reducible repeat (first | refine bN_ ?_ _ | refine bD_ ?_ | refine bA_ ?_ _)); exact BK250.out)) : gb250 ≠ gb288)); have n21_ := mk0 ((by rw [hg]; exact Nat.ne_of_gt (blk_lt (g := gb250) (o := .cells #[.slice Ao189 x253000_83.length co189, .slice Ao193 x253001_83.length co193] 44 (0, 0)) (by (with_reducible repeat (first | refine bN_ ?_ _ | refine bD_ ?_ | refine bA_ ?_ _)); exact BK250.out)) : gb288 ≠ gb250)); have n22_ := mk0 ((by rw [hg]; exact Nat.ne_of_lt (blk_lt (g := gb252) (o := .cells #[.slice Ao189 x253000_83.length co189, .slice Ao193 x253001_83.length co193] 44 (0, 0)) (by (with_reducible repeat (first | refine bN_ ?_ _ | refine bD_ ?_ | refine bA_ ?_ _)); exact BK252.out)) : gb252 ≠ gb288)); have n23_ := mk0 ((by rw [hg]; exact Nat.ne_of_gt (blk_lt (g := gb252) (o := .cells #[.slice Ao189 x253000_83.length co189, .slice Ao193 x253001_83.length co193] 44 (0, 0)) (by (with_reducible repeat (first | refine bN_ ?_ _ | refine bD_ ?_ | refine bA_ ?_ _)); exact BK252.out)) : gb288 ≠ gb252)); clear HO_248000; clear HO_248001; clear HO_251000; clear HO_251001; clear HO_253000; clear HO_253001; clear HO283; clear HO286; clear BK236; clear BK247; clear BK250; clear BK252; clear HB; have HO_248000 := n0_; have HO_248001 := n1_; have HO_251000 := n2_; have HO_251001 := n3_; have HO_253000 := n4_; have HO_253001 := n5_; have HO283 := n6_; have HO286 := n7_; have BK236 := n8_; have BK247 := n9_; have BK250 := n10_; have BK252 := n11_; have HB := n12_; have BK288 := n13_; have GW288 := n14_; have GE288 := n15_; have NB236_288 := n16_; have NB288_236 := n17_; have NB247_288 := n18_; have NB288_247 := n19_; have NB250_288 := n20_; have NB288_250 := n21_; have NB252_288 := n22_; have NB288_252 := n23_; clear n0_ n1_ n2_ n3_ n4_ n5_ n6_ n7_ n8_ n9_ n10_ n11_ n12_ n13_ n14_ n15_ n16_ n17_ n18_ n19_ n20_ n21_ n22_ n23_; clear hb hbox hg; obtain ⟨Ao196, co196, eo196⟩ := Kd.R_slice HO283.out; subst eo196; have hnb197 := NB288_236.out; have hnc197 := NB236_288.out; have hnb198 := NB288_247.out; have hnc198 := NB247_288.out; have hnb199 := NB288_250.out; have hnc199 := NB250_288.out; have hnb200 := NB288_252.out; have hnc200 := NB252_288.out; have hcz201_0 : w195.cell? ⟨gb288, 0, none⟩ = some (.slice none 0 0) := (blk_cell BK288.out 0).trans rfl; have hcz201_1 : w195.cell? ⟨gb288, 1, none⟩ = some (.slice none 0 0) := (blk_cell BK288.out 1).trans rfl; have hfz201_0 := blk_frozen BK288.out 0; have hfz201_1 := blk_frozen BK288.out 1; obtain ⟨Ao202, co202, eo202⟩ := Kd.R_slice HO286.out; subst eo202) | ((with_reducible refine gate_callee (f := 25) rfl ?_); refine goesL_ (some 122) rfl rfl Try.func25 (by kernel_rfl) rfl #[.int .i64 t287] rfl (by (try simp only [List.map_toArray, List.map_cons, List.map_nil]); first | done | rfl | (simp only [List.length_drop, List.length_take]; rfl)) ?_; (with_reducible refine (quorumlaw10_num.calls t287 t289 _ A139.out).mono ?_); rintro e w' ⟨rfl, ⟨nd, rfl⟩⟩; refine ⟨_, rfl, ?_⟩))
                  go_ret
                  exact ⟨by first | rfl | (simp [errW_none, errW_some] <;> rfl) | (simp [*, errW_none, errW_some] <;> rfl), by repeat (first | (with_reducible first | exact HB.out | apply bL_ | apply pN_ | apply b1_ | refine bs_ ?_ GE236.out | refine bs_ ?_ GE247.out | refine bs_ ?_ GE250.out | refine bs_ ?_ GE252.out | refine bs_ ?_ GE288.out) | exact HB.out)⟩
            ·rw [if_neg c67] at H
             have c67b0 : (t269 == 0) = false := beq_eq_false_iff_ne.mpr c67
             have c67b1 : (t269 != 0) = true := bne_iff_ne.mpr c67
             have H' := mk0 H
             clear H
             go_wp2_with (first | ((with_reducible refine gate_callee (f := 25) rfl ?_); refine goesL_ (some 75) rfl rfl Try.func25 (by kernel_rfl) rfl #[.int .i64 x9_36] rfl (by (try simp only [List.map_toArray, List.map_cons, List.map_nil]); first | done | rfl | (simp only [List.length_drop, List.length_take]; rfl)) ?_; (with_reducible refine (quorumlaw10_num.calls x9_36 t269 _ A66.out).mono ?_); rintro e w' ⟨rfl, ⟨nd, rfl⟩⟩; refine ⟨_, rfl, ?_⟩))
             go_roundg kj36
             case measure => have := HJ1.out; have := HK2.out; have := HJ27.out; have := HJ36.out; omega
             case rel => exact ⟨(wrap64 (x7_2 + 1)), (x251000_2), (x251001_2), (u251000), (u251001), (by first | rfl | (simp; done) | (simp [*]; done)), H', ⟨by have := HJ1.out; have := HK2.out; have := HJ27.out; have := HJ36.out; omega⟩, ⟨by (with_reducible repeat (first | apply Ra_ | apply Rn_ | apply Rd_)); exact Kd.R_mono HO_248000.out (fun _ hk => trivial)⟩, ⟨by (with_reducible repeat (first | apply Ra_ | apply Rn_ | apply Rd_)); exact Kd.R_mono HO_248001.out (fun _ hk => trivial)⟩, ⟨by (with_reducible repeat (first | apply Ra_ | apply Rn_ | apply Rd_)); exact Kd.R_mono HO_251000.out (fun _ hk => trivial)⟩, ⟨by (with_reducible repeat (first | apply Ra_ | apply Rn_ | apply Rd_)); exact Kd.R_mono HO_251001.out (fun _ hk => trivial)⟩, ⟨by (with_reducible repeat (first | refine bN_ ?_ _ | refine bD_ ?_ | refine bA_ ?_ _)); exact BK236.out⟩, ⟨by (with_reducible repeat (first | refine bN_ ?_ _ | refine bD_ ?_ | refine bA_ ?_ _)); exact BK247.out⟩, ⟨by (with_reducible repeat (first | refine bN_ ?_ _ | refine bD_ ?_ | refine bA_ ?_ _)); exact BK250.out⟩, ⟨by repeat (first | (with_reducible first | exact HB.out | apply bL_ | apply pN_ | apply b1_ | refine bs_ ?_ GE236.out | refine bs_ ?_ GE247.out | refine bs_ ?_ GE250.out | refine bs_ ?_ GE252.out) | exact HB.out)⟩⟩
         ·replace c36 := Bool.eq_false_iff.mpr c36
          subst c36
          have H1 : ((quorumlaw10_wakes.f kj27).bind fun t251 => (some t251)) = some r := by rw [if_neg (show ¬ (false = true) by decide)] at H; exact H
          clear H
          have H := H1
          clear H1
          replace H := Option.bind_eq_some_iff.mp H
          obtain ⟨t251, A2030, H⟩ := H
          replace H : (some t251) = some r := H
          have A203 := mk0 A2030
          clear A2030
          obtain rfl := Option.some.inj H
          go_wp2_with (first | ((with_reducible refine gate_callee (f := 26) rfl ?_); refine goesL_ (some 130) rfl rfl Try.func26 (by kernel_rfl) rfl #[] rfl (by (try simp only [List.map_toArray, List.map_cons, List.map_nil]); first | done | rfl | (simp only [List.length_drop, List.length_take]; rfl)) ?_; (with_reducible refine (quorumlaw10_wakes.calls kj27  t251 _ A203.out).mono ?_); rintro e w204 ⟨rfl, hb⟩; refine ⟨_, rfl, ?_⟩; have n0_ := mk0 (Kd.R_below (by (with_reducible repeat (first | apply Ra_ | apply Rn_ | apply Rd_)); exact HO_248000.out) hb); have n1_ := mk0 (Kd.R_below (by (with_reducible repeat (first | apply Ra_ | apply Rn_ | apply Rd_)); exact HO_248001.out) hb); have n2_ := mk0 (Kd.R_below (by (with_reducible repeat (first | apply Ra_ | apply Rn_ | apply Rd_)); exact HO_251000.out) hb); have n3_ := mk0 (Kd.R_below (by (with_reducible repeat (first | apply Ra_ | apply Rn_ | apply Rd_)); exact HO_251001.out) hb); have n4_ := mk0 (blk_below (g := gb236) (o := .cells #[.slice A0_0 l0_0.length c0_0, .slice A0_1 l0_1.length c0_1, .slice A0_2 l0_2.length c0_2] 47 (0, 0)) (by (with_reducible repeat (first | refine bN_ ?_ _ | refine bD_ ?_ | refine bA_ ?_ _)); exact BK236.out) hb); have n5_ := mk0 (blk_below (g := gb247) (o := .cells #[.slice Ao20 t239.length co20, .slice Ao23 t242.length co23] 44 (0, 0)) (by (with_reducible repeat (first | refine bN_ ?_ _ | refine bD_ ?_ | refine bA_ ?_ _)); exact BK247.out) hb); have n6_ := mk0 (blk_below (g := gb250) (o := .cells #[u251000, u251001] 44 (0, 0)) (by (with_reducible repeat (first | refine bN_ ?_ _ | refine bD_ ?_ | refine bA_ ?_ _)); exact BK250.out) hb); have n7_ := mk0 (bt_ (by repeat (first | (with_reducible first | exact HB.out | apply bL_ | apply pN_ | apply b1_ | refine bs_ ?_ GE236.out | refine bs_ ?_ GE247.out | refine bs_ ?_ GE250.out) | exact HB.out)) hb); clear HO_248000; clear HO_248001; clear HO_251000; clear HO_251001; clear BK236; clear BK247; clear BK250; clear HB; have HO_248000 := n0_; have HO_248001 := n1_; have HO_251000 := n2_; have HO_251001 := n3_; have BK236 := n4_; have BK247 := n5_; have BK250 := n6_; have HB := n7_; clear n0_ n1_ n2_ n3_ n4_ n5_ n6_ n7_; (try clear hb); (try clear hb2); (try clear hk); (try clear hi)))
          go_ret
          exact ⟨by first | rfl | (simp [errW_none, errW_some] <;> rfl) | (simp [*, errW_none, errW_some] <;> rfl), by repeat (first | (with_reducible first | exact HB.out | apply bL_ | apply pN_ | apply b1_ | refine bs_ ?_ GE236.out | refine bs_ ?_ GE247.out | refine bs_ ?_ GE250.out) | exact HB.out)⟩
    ·rw [if_neg c16] at H
     have c16b0 : (t248 == 0) = false := beq_eq_false_iff_ne.mpr c16
     have c16b1 : (t248 != 0) = true := bne_iff_ne.mpr c16
     by_cases c205 : (l0_1.length : Int) = 6
     ·rw [if_pos c205] at H
      have c205b0 : ((l0_1.length : Int) == 6) = true := beq_iff_eq.mpr c205
      have c205b1 : ((l0_1.length : Int) != 6) = false := bne_eq_false_iff_eq.mpr c205
      clear c205
      replace H := Option.bind_eq_some_iff.mp H
      obtain ⟨t249, A2060, H⟩ := H
      replace H : (some t249) = some r := H
      have A206 := mk0 A2060
      clear A2060
      obtain rfl := Option.some.inj H
      have hcz207_0 : wc.cell? ⟨gb236, 0, none⟩ = some (.slice A0_0 l0_0.length c0_0) := (blk_cell BK236.out 0).trans rfl
      have hcz207_1 : wc.cell? ⟨gb236, 1, none⟩ = some (.slice A0_1 l0_1.length c0_1) := (blk_cell BK236.out 1).trans rfl
      have hcz207_2 : wc.cell? ⟨gb236, 2, none⟩ = some (.slice A0_2 l0_2.length c0_2) := (blk_cell BK236.out 2).trans rfl
      have hfz207_0 := blk_frozen BK236.out 0
      have hfz207_1 := blk_frozen BK236.out 1
      have hfz207_2 := blk_frozen BK236.out 2
      go_wp2_with (first | ((with_reducible refine gate_callee (f := 24) rfl ?_); refine goesL_ (some 25) rfl rfl Try.func24 (by kernel_rfl) rfl #[.agg #[.slice A0_0 l0_0.length c0_0, .slice A0_1 l0_1.length c0_1]] rfl (by (try simp only [List.map_toArray, List.map_cons, List.map_nil]); first | done | rfl | (simp only [List.length_drop, List.length_take]; rfl)) ?_; (with_reducible refine (pend_Save.calls kj1 _ _ l0_0 _ _ l0_1 t239 t242 t245 t246 _ ?side1 ?side2 ?side3 ?side4 A14.out).mono ?_); (case side1 => repeat (first | exact (Kd.C_below HR0_0.out HB.out) | (with_reducible refine Kd.C_alloc ?_ _) | (with_reducible refine Kd.C_drewN ?_ _) | (with_reducible refine Kd.C_drew ?_))); (case side2 => exact HC0_0.out); (case side3 => repeat (first | exact (Kd.C_below HR0_1.out HB.out) | (with_reducible refine Kd.C_alloc ?_ _) | (with_reducible refine Kd.C_drewN ?_ _) | (with_reducible refine Kd.C_drew ?_))); (case side4 => exact HC0_1.out); rintro e w208 ⟨v240, v243, rfl, ho0, ho1, hb⟩; refine ⟨_, rfl, ?_⟩; have n0_ := mk0 (Kd.R_lower ho0 (bz_ (by repeat (first | (with_reducible first | exact HB.out | apply bL_ | apply pN_ | apply b1_ | refine bs_ ?_ GE236.out) | exact HB.out)))); have n1_ := mk0 (Kd.R_lower ho1 (bz_ (by repeat (first | (with_reducible first | exact HB.out | apply bL_ | apply pN_ | apply b1_ | refine bs_ ?_ GE236.out) | exact HB.out)))); have n2_ := mk0 (blk_below (g := gb236) (o := .cells #[.slice A0_0 l0_0.length c0_0, .slice A0_1 l0_1.length c0_1, .slice A0_2 l0_2.length c0_2] 47 (0, 0)) (by (with_reducible repeat (first | refine bN_ ?_ _ | refine bD_ ?_ | refine bA_ ?_ _)); exact BK236.out) hb); have n3_ := mk0 (bt_ (by repeat (first | (with_reducible first | exact HB.out | apply bL_ | apply pN_ | apply b1_ | refine bs_ ?_ GE236.out) | exact HB.out)) hb); clear BK236; clear HB; have HO241 := n0_; have HO244 := n1_; have BK236 := n2_; have HB := n3_; clear n0_ n1_ n2_ n3_; (try clear hb); (try clear hb2); (try clear hk); (try clear hi); (try clear ho0); (try clear ho1)) | ((with_reducible refine gate_dst (N := 3) rfl ?_); (try (refine gate_guard (by rfl) ?_; dsimp only)); refine box_event ?hg (N := 3) ?hd (cs := #[.slice none 0 0, .slice none 0 0]) (t := 44) ?hr ?_; (case hd => rfl); (case hg => rfl); (case hr => first | (go_simp; done) | (go_simp; rfl)); intro gb247 hg w209 hbox hb; have n0_ := mk0 (Kd.R_below (by (with_reducible repeat (first | apply Ra_ | apply Rn_ | apply Rd_)); exact HO241.out) hb); have n1_ := mk0 (Kd.R_below (by (with_reducible repeat (first | apply Ra_ | apply Rn_ | apply Rd_)); exact HO244.out) hb); have n2_ := mk0 (blk_below (g := gb236) (o := .cells #[.slice A0_0 l0_0.length c0_0, .slice A0_1 l0_1.length c0_1, .slice A0_2 l0_2.length c0_2] 47 (0, 0)) (by (with_reducible repeat (first | refine bN_ ?_ _ | refine bD_ ?_ | refine bA_ ?_ _)); exact BK236.out) hb); have n3_ := mk0 (bt_ (by repeat (first | (with_reducible first | exact HB.out | apply bL_ | apply pN_ | apply b1_ | refine bs_ ?_ GE236.out) | exact HB.out)) hb); have n4_ := mk0 (hbox); have n5_ := mk0 ((by rw [hg]; exact (bz_ (by repeat (first | (with_reducible first | exact HB.out | apply bL_ | apply pN_ | apply b1_ | refine bs_ ?_ GE236.out) | exact HB.out))) : w.heap.size ≤ gb247)); have n6_ := mk0 ((by rw [hg]; exact (bz_ (by repeat (first | (with_reducible first | exact HB.out | apply bL_ | apply pN_ | apply b1_ | refine bs_ ?_ GE236.out) | exact HB.out))) : w.heap.size ≤ gb247)); have n7_ := mk0 ((by rw [hg]; exact Nat.ne_of_lt (blk_lt (g := gb236) (o := .cells #[.slice A0_0 l0_0.length c0_0, .slice A0_1 l0_1.length c0_1, .slice A0_2 l0_2.length c0_2] 47 (0, 0)) (by (with_reducible repeat (first | refine bN_ ?_ _ | refine bD_ ?_ | refine bA_ ?_ _)); exact BK236.out)) : gb236 ≠ gb247)); have n8_ := mk0 ((by rw [hg]; exact Nat.ne_of_gt (blk_lt (g := gb236) (o := .cells #[.slice A0_0 l0_0.length c0_0, .slice A0_1 l0_1.length c0_1, .slice A0_2 l0_2.length c0_2] 47 (0, 0)) (by (with_reducible repeat (first | refine bN_ ?_ _ | refine bD_ ?_ | refine bA_ ?_ _)); exact BK236.out)) : gb247 ≠ gb236)); clear HO241; clear HO244; clear BK236; clear HB; have HO241 := n0_; have HO244 := n1_; have BK236 := n2_; have HB := n3_; have BK247 := n4_; have GW247 := n5_; have GE247 := n6_; have NB236_247 := n7_; have NB247_236 := n8_; clear n0_ n1_ n2_ n3_ n4_ n5_ n6_ n7_ n8_; clear hb hbox hg; obtain ⟨Ao210, co210, eo210⟩ := Kd.R_slice HO241.out; subst eo210; have hnb211 := NB247_236.out; have hnc211 := NB236_247.out; have hcz212_0 : w209.cell? ⟨gb247, 0, none⟩ = some (.slice none 0 0) := (blk_cell BK247.out 0).trans rfl; have hcz212_1 : w209.cell? ⟨gb247, 1, none⟩ = some (.slice none 0 0) := (blk_cell BK247.out 1).trans rfl; have hfz212_0 := blk_frozen BK247.out 0; have hfz212_1 := blk_frozen BK247.out 1; obtain ⟨Ao213, co213, eo213⟩ := Kd.R_slice HO244.out; subst eo213) | ((with_reducible refine gate_callee (f := 25) rfl ?_); refine goesL_ (some 30) rfl rfl Try.func25 (by kernel_rfl) rfl #[.int .i64 t246] rfl (by (try simp only [List.map_toArray, List.map_cons, List.map_nil]); first | done | rfl | (simp only [List.length_drop, List.length_take]; rfl)) ?_; (with_reducible refine (quorumlaw10_num.calls t246 t248 _ A15.out).mono ?_); rintro e w' ⟨rfl, ⟨nd, rfl⟩⟩; refine ⟨_, rfl, ?_⟩; have hcz214_0 : w209.cell? ⟨gb236, 0, none⟩ = some (.slice A0_0 l0_0.length c0_0) := (blk_cell BK236.out 0).trans rfl; have hcz214_1 : w209.cell? ⟨gb236, 1, none⟩ = some (.slice A0_1 l0_1.length c0_1) := (blk_cell BK236.out 1).trans rfl; have hcz214_2 : w209.cell? ⟨gb236, 2, none⟩ = some (.slice A0_2 l0_2.length c0_2) := (blk_cell BK236.out 2).trans rfl; have hfz214_0 := blk_frozen BK236.out 0; have hfz214_1 := blk_frozen BK236.out 1; have hfz214_2 := blk_frozen BK236.out 2) | (go_at_call 26; (with_reducible refine (quorumlaw10_wakes.calls kj1  t249 _ A206.out).mono ?_); rintro e w215 ⟨rfl, hb⟩; have n0_ := mk0 (Kd.R_below (by (with_reducible repeat (first | apply Ra_ | apply Rn_ | apply Rd_)); exact (Kd.R_mono (Kd.R_far (p := ⟨gb247, 1, none⟩) (Kd.R_far (p := ⟨gb247, 0, none⟩) (Kd.R_types HO241.out BK247.out (by decide)) (fun _ hk => hk.2) (.slice Ao210 t239.length co210)) (fun _ hk => hk.2) (.slice Ao213 t242.length co213)) (fun _ h_ => h_.1))) hb); have n1_ := mk0 (Kd.R_below (by (with_reducible repeat (first | apply Ra_ | apply Rn_ | apply Rd_)); exact (Kd.R_mono (Kd.R_far (p := ⟨gb247, 1, none⟩) (Kd.R_far (p := ⟨gb247, 0, none⟩) (Kd.R_types HO244.out BK247.out (by decide)) (fun _ hk => hk.2) (.slice Ao210 t239.length co210)) (fun _ hk => hk.2) (.slice Ao213 t242.length co213)) (fun _ h_ => h_.1))) hb); have n2_ := mk0 (blk_below (g := gb236) (o := .cells #[.slice A0_0 l0_0.length c0_0, .slice A0_1 l0_1.length c0_1, .slice A0_2 l0_2.length c0_2] 47 (0, 0)) (by (with_reducible repeat (first | refine bN_ ?_ _ | refine bD_ ?_ | refine bA_ ?_ _)); refine blk_far ?_ NB236_247.out _; (with_reducible repeat (first | refine bN_ ?_ _ | refine bD_ ?_ | refine bA_ ?_ _)); refine blk_far ?_ NB236_247.out _; (with_reducible repeat (first | refine bN_ ?_ _ | refine bD_ ?_ | refine bA_ ?_ _)); exact BK236.out) hb); have n3_ := mk0 (blk_below (g := gb247) (o := .cells #[.slice Ao210 t239.length co210, .slice Ao213 t242.length co213] 44 (0, 0)) (by (with_reducible repeat (first | refine bN_ ?_ _ | refine bD_ ?_ | refine bA_ ?_ _)); refine blk_put (cs := #[.slice Ao210 t239.length co210, .slice none 0 0]) ?_ 1 _ rfl; (with_reducible repeat (first | refine bN_ ?_ _ | refine bD_ ?_ | refine bA_ ?_ _)); refine blk_put (cs := #[.slice none 0 0, .slice none 0 0]) ?_ 0 _ rfl; (with_reducible repeat (first | refine bN_ ?_ _ | refine bD_ ?_ | refine bA_ ?_ _)); exact BK247.out) hb); have n4_ := mk0 (bt_ (by repeat (first | (with_reducible first | exact HB.out | apply bL_ | apply pN_ | apply b1_ | refine bs_ ?_ GE236.out | refine bs_ ?_ GE247.out) | exact HB.out)) hb); clear HO241; clear HO244; clear BK236; clear BK247; clear HB; have HO241 := n0_; have HO244 := n1_; have BK236 := n2_; have BK247 := n3_; have HB := n4_; clear n0_ n1_ n2_ n3_ n4_; (try clear hb); (try clear hb2); (try clear hk); (try clear hi)))
      go_ret
      exact ⟨by first | rfl | (simp [errW_none, errW_some] <;> rfl) | (simp [*, errW_none, errW_some] <;> rfl), by repeat (first | (with_reducible first | exact HB.out | apply bL_ | apply pN_ | apply b1_ | refine bs_ ?_ GE236.out | refine bs_ ?_ GE247.out) | exact HB.out)⟩
     ·rw [if_neg c205] at H
      have c205b0 : ((l0_1.length : Int) == 6) = false := beq_eq_false_iff_ne.mpr c205
      have c205b1 : ((l0_1.length : Int) != 6) = true := bne_iff_ne.mpr c205
      obtain rfl := Option.some.inj H
      have hcz216_0 : wc.cell? ⟨gb236, 0, none⟩ = some (.slice A0_0 l0_0.length c0_0) := (blk_cell BK236.out 0).trans rfl
      have hcz216_1 : wc.cell? ⟨gb236, 1, none⟩ = some (.slice A0_1 l0_1.length c0_1) := (blk_cell BK236.out 1).trans rfl
      have hcz216_2 : wc.cell? ⟨gb236, 2, none⟩ = some (.slice A0_2 l0_2.length c0_2) := (blk_cell BK236.out 2).trans rfl
      have hfz216_0 := blk_frozen BK236.out 0
      have hfz216_1 := blk_frozen BK236.out 1
      have hfz216_2 := blk_frozen BK236.out 2
      go_wp2_with (first | ((with_reducible refine gate_callee (f := 24) rfl ?_); refine goesL_ (some 25) rfl rfl Try.func24 (by kernel_rfl) rfl #[.agg #[.slice A0_0 l0_0.length c0_0, .slice A0_1 l0_1.length c0_1]] rfl (by (try simp only [List.map_toArray, List.map_cons, List.map_nil]); first | done | rfl | (simp only [List.length_drop, List.length_take]; rfl)) ?_; (with_reducible refine (pend_Save.calls kj1 _ _ l0_0 _ _ l0_1 t239 t242 t245 t246 _ ?side1 ?side2 ?side3 ?side4 A14.out).mono ?_); (case side1 => repeat (first | exact (Kd.C_below HR0_0.out HB.out) | (with_reducible refine Kd.C_alloc ?_ _) | (with_reducible refine Kd.C_drewN ?_ _) | (with_reducible refine Kd.C_drew ?_))); (case side2 => exact HC0_0.out); (case side3 => repeat (first | exact (Kd.C_below HR0_1.out HB.out) | (with_reducible refine Kd.C_alloc ?_ _) | (with_reducible refine Kd.C_drewN ?_ _) | (with_reducible refine Kd.C_drew ?_))); (case side4 => exact HC0_1.out); rintro e w217 ⟨v240, v243, rfl, ho0, ho1, hb⟩; refine ⟨_, rfl, ?_⟩; have n0_ := mk0 (Kd.R_lower ho0 (bz_ (by repeat (first | (with_reducible first | exact HB.out | apply bL_ | apply pN_ | apply b1_ | refine bs_ ?_ GE236.out) | exact HB.out)))); have n1_ := mk0 (Kd.R_lower ho1 (bz_ (by repeat (first | (with_reducible first | exact HB.out | apply bL_ | apply pN_ | apply b1_ | refine bs_ ?_ GE236.out) | exact HB.out)))); have n2_ := mk0 (blk_below (g := gb236) (o := .cells #[.slice A0_0 l0_0.length c0_0, .slice A0_1 l0_1.length c0_1, .slice A0_2 l0_2.length c0_2] 47 (0, 0)) (by (with_reducible repeat (first | refine bN_ ?_ _ | refine bD_ ?_ | refine bA_ ?_ _)); exact BK236.out) hb); have n3_ := mk0 (bt_ (by repeat (first | (with_reducible first | exact HB.out | apply bL_ | apply pN_ | apply b1_ | refine bs_ ?_ GE236.out) | exact HB.out)) hb); clear BK236; clear HB; have HO241 := n0_; have HO244 := n1_; have BK236 := n2_; have HB := n3_; clear n0_ n1_ n2_ n3_; (try clear hb); (try clear hb2); (try clear hk); (try clear hi); (try clear ho0); (try clear ho1)) | ((with_reducible refine gate_dst (N := 3) rfl ?_); (try (refine gate_guard (by rfl) ?_; dsimp only)); refine box_event ?hg (N := 3) ?hd (cs := #[.slice none 0 0, .slice none 0 0]) (t := 44) ?hr ?_; (case hd => rfl); (case hg => rfl); (case hr => first | (go_simp; done) | (go_simp; rfl)); intro gb247 hg w218 hbox hb; have n0_ := mk0 (Kd.R_below (by (with_reducible repeat (first | apply Ra_ | apply Rn_ | apply Rd_)); exact HO241.out) hb); have n1_ := mk0 (Kd.R_below (by (with_reducible repeat (first | apply Ra_ | apply Rn_ | apply Rd_)); exact HO244.out) hb); have n2_ := mk0 (blk_below (g := gb236) (o := .cells #[.slice A0_0 l0_0.length c0_0, .slice A0_1 l0_1.length c0_1, .slice A0_2 l0_2.length c0_2] 47 (0, 0)) (by (with_reducible repeat (first | refine bN_ ?_ _ | refine bD_ ?_ | refine bA_ ?_ _)); exact BK236.out) hb); have n3_ := mk0 (bt_ (by repeat (first | (with_reducible first | exact HB.out | apply bL_ | apply pN_ | apply b1_ | refine bs_ ?_ GE236.out) | exact HB.out)) hb); have n4_ := mk0 (hbox); have n5_ := mk0 ((by rw [hg]; exact (bz_ (by repeat (first | (with_reducible first | exact HB.out | apply bL_ | apply pN_ | apply b1_ | refine bs_ ?_ GE236.out) | exact HB.out))) : w.heap.size ≤ gb247)); have n6_ := mk0 ((by rw [hg]; exact (bz_ (by repeat (first | (with_reducible first | exact HB.out | apply bL_ | apply pN_ | apply b1_ | refine bs_ ?_ GE236.out) | exact HB.out))) : w.heap.size ≤ gb247)); have n7_ := mk0 ((by rw [hg]; exact Nat.ne_of_lt (blk_lt (g := gb236) (o := .cells #[.slice A0_0 l0_0.length c0_0, .slice A0_1 l0_1.length c0_1, .slice A0_2 l0_2.length c0_2] 47 (0, 0)) (by (with_reducible repeat (first | refine bN_ ?_ _ | refine bD_ ?_ | refine bA_ ?_ _)); exact BK236.out)) : gb236 ≠ gb247)); have n8_ := mk0 ((by rw [hg]; exact Nat.ne_of_gt (blk_lt (g := gb236) (o := .cells #[.slice A0_0 l0_0.length c0_0, .slice A0_1 l0_1.length c0_1, .slice A0_2 l0_2.length c0_2] 47 (0, 0)) (by (with_reducible repeat (first | refine bN_ ?_ _ | refine bD_ ?_ | refine bA_ ?_ _)); exact BK236.out)) : gb247 ≠ gb236)); clear HO241; clear HO244; clear BK236; clear HB; have HO241 := n0_; have HO244 := n1_; have BK236 := n2_; have HB := n3_; have BK247 := n4_; have GW247 := n5_; have GE247 := n6_; have NB236_247 := n7_; have NB247_236 := n8_; clear n0_ n1_ n2_ n3_ n4_ n5_ n6_ n7_ n8_; clear hb hbox hg; obtain ⟨Ao219, co219, eo219⟩ := Kd.R_slice HO241.out; subst eo219; have hnb220 := NB247_236.out; have hnc220 := NB236_247.out; have hcz221_0 : w218.cell? ⟨gb247, 0, none⟩ = some (.slice none 0 0) := (blk_cell BK247.out 0).trans rfl; have hcz221_1 : w218.cell? ⟨gb247, 1, none⟩ = some (.slice none 0 0) := (blk_cell BK247.out 1).trans rfl; have hfz221_0 := blk_frozen BK247.out 0; have hfz221_1 := blk_frozen BK247.out 1; obtain ⟨Ao222, co222, eo222⟩ := Kd.R_slice HO244.out; subst eo222) | ((with_reducible refine gate_callee (f := 25) rfl ?_); refine goesL_ (some 30) rfl rfl Try.func25 (by kernel_rfl) rfl #[.int .i64 t246] rfl (by (try simp only [List.map_toArray, List.map_cons, List.map_nil]); first | done | rfl | (simp only [List.length_drop, List.length_take]; rfl)) ?_; (with_reducible refine (quorumlaw10_num.calls t246 t248 _ A15.out).mono ?_); rintro e w' ⟨rfl, ⟨nd, rfl⟩⟩; refine ⟨_, rfl, ?_⟩; have hcz223_0 : w218.cell? ⟨gb236, 0, none⟩ = some (.slice A0_0 l0_0.length c0_0) := (blk_cell BK236.out 0).trans rfl; have hcz223_1 : w218.cell? ⟨gb236, 1, none⟩ = some (.slice A0_1 l0_1.length c0_1) := (blk_cell BK236.out 1).trans rfl; have hcz223_2 : w218.cell? ⟨gb236, 2, none⟩ = some (.slice A0_2 l0_2.length c0_2) := (blk_cell BK236.out 2).trans rfl; have hfz223_0 := blk_frozen BK236.out 0; have hfz223_1 := blk_frozen BK236.out 1; have hfz223_2 := blk_frozen BK236.out 2))
      go_ret
      exact ⟨by first | rfl | (simp [errW_none, errW_some] <;> rfl) | (simp [*, errW_none, errW_some] <;> rfl), by repeat (first | (with_reducible first | exact HB.out | apply bL_ | apply pN_ | apply b1_ | refine bs_ ?_ GE236.out | refine bs_ ?_ GE247.out) | exact HB.out)⟩

end Go.Proofs.Ytafiikiofalpnaa.PPend
