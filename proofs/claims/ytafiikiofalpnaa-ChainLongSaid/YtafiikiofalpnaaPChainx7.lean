-- PRINTED by print.py (a twelfth state) out of the translation. Not trusted: Lean checks it.
import Derived.Test.YtafiikiofalpnaaPChainx0
import Derived.Test.YtafiikiofalpnaaPChainx4
import Derived.Test.YtafiikiofalpnaaPChainx5
namespace Go.Proofs.Ytafiikiofalpnaa.PChain
open Go.RowKit Go.Proofs.YtafiikiofalpnaaW.PrintWords Go.Proofs.YtafiikiofalpnaaW.PrintLast Go.Proofs.YtafiikiofalpnaaW.PrintMore
attribute [local go_sem] max2_int min2_int max_two min_two max_three min_three max_four min_four   -- for this text's walks alone
set_option linter.unusedVariables false
set_option linter.unusedSimpArgs false

/-! ### quorumlaw8_ChainLong: function 7 -/
mutual
def quorumlaw8_ChainLong.l0 : Nat → Int → Int → ByteArray → List (S37) → Option (Bool)
 | 0, _, _, _, _ => none
 | k + 1, x3, x6, x266000, x266001 => if x6 < x3 then ((chain_Add.f k x266000 x266001 (wrap64 (1 + (wrap64 (3 * x6)))) (strOfNums (([(wrap64 (97 + x6)) % 256] : List Int))) false).bind fun bt270 => ((chain_Add.f k x266000 x266001 (wrap64 (1 + (wrap64 (3 * (wrap64 (x6 - 1)))))) (⟨#[120]⟩ : ByteArray) false).bind fun bt276 => ((quorumlaw8_num.f bt270.2.2).bind fun t282 => (if t282 = 0 then ((quorumlaw8_num.f bt276.2.2).bind fun t283 => (if t283 = 1 then (quorumlaw8_ChainLong.l0 k x3 (wrap64 (x6 + 1)) bt270.1 bt270.2.1) else (some false))) else (some false))))) else (quorumlaw8_ChainLong.l1 k x3 1 x266000 x266001)
def quorumlaw8_ChainLong.l1 : Nat → Int → Int → ByteArray → List (S37) → Option (Bool)
 | 0, _, _, _, _ => none
 | k + 1, x3, x11, x266000, x266001 => if x11 < x3 then (quorumlaw8_ChainLong.l2 k x3 x11 0 x266000 x266001) else ((chain_Purge.f k x266000 x266001 (wrap64 (3 * x3))).bind fun bt290 => ((chain_Count.f k bt290.1 bt290.2.1).bind fun bt296 => ((quorumlaw8_num.f bt290.2.2).bind fun t298 => (if t298 = 0 then ((quorumlaw8_num.f bt296.2).bind fun t299 => (if t299 = 0 then (if bt296.1 = 1 then ((quorumlaw8_wakes.f k).bind fun t300 => (some t300)) else (some false)) else (some false))) else (some false)))))
def quorumlaw8_ChainLong.l2 : Nat → Int → Int → Int → ByteArray → List (S37) → Option (Bool)
 | 0, _, _, _, _, _ => none
 | k + 1, x3, x11, x12, x266000, x266001 => if x12 < 3 then ((chain_At.f k x266000 x266001 (wrap64 ((wrap64 (1 + (wrap64 (3 * x11)))) + x12))).bind fun bt284 => ((quorumlaw8_num.f bt284.2.2.2).bind fun t289 => (if t289 = 0 then (if bt284.1 = (wrap64 (1 + (wrap64 (3 * x11)))) then (quorumlaw8_ChainLong.l2 k x3 x11 (wrap64 (x12 + 1)) x266000 x266001) else (some false)) else (some false)))) else (quorumlaw8_ChainLong.l1 k x3 (wrap64 (x11 + 1)) x266000 x266001)
end
def quorumlaw8_ChainLong.f (k : Nat) (l0_0 : List (S31)) (l0_1 : List (S37)) (l0_2 : List Int) (l0_3 : List ByteArray) : Option (Bool) := (chain_New.f k (⟨#[107]⟩ : ByteArray) 1 (⟨#[118]⟩ : ByteArray) false).bind fun bt260 => ((quorumlaw8_num.f bt260.2.2).bind fun t266 => (if t266 = 0 then (quorumlaw8_ChainLong.l0 k (2 + ((l0_2.length : Int) % 20)) 1 bt260.1 bt260.2.1) else (some false)))
theorem quorumlaw8_ChainLong.mono_l : ∀ k, (∀ y0 y1 y2 y3, LeO (quorumlaw8_ChainLong.l0 k y0 y1 y2 y3) (quorumlaw8_ChainLong.l0 (k + 1) y0 y1 y2 y3)) ∧ (∀ y0 y1 y2 y3, LeO (quorumlaw8_ChainLong.l1 k y0 y1 y2 y3) (quorumlaw8_ChainLong.l1 (k + 1) y0 y1 y2 y3)) ∧ (∀ y0 y1 y2 y3 y4, LeO (quorumlaw8_ChainLong.l2 k y0 y1 y2 y3 y4) (quorumlaw8_ChainLong.l2 (k + 1) y0 y1 y2 y3 y4))
 | 0 => ⟨fun _ _ _ _ r h => by simp [quorumlaw8_ChainLong.l0] at h, fun _ _ _ _ r h => by simp [quorumlaw8_ChainLong.l1] at h, fun _ _ _ _ _ r h => by simp [quorumlaw8_ChainLong.l2] at h⟩
 | k + 1 => by
  obtain ⟨ih0, ih1, ih2⟩ := quorumlaw8_ChainLong.mono_l k
  refine ⟨?_, ?_, ?_⟩
  ·intro y0 y1 y2 y3
   unfold quorumlaw8_ChainLong.l0
   repeat' first
   | (with_reducible exact ih0 _ _ _ _)
   | (with_reducible exact ih1 _ _ _ _)
   | (with_reducible exact ih2 _ _ _ _ _)
   | (with_reducible exact chain_Add.mono _ _ _ _ _ _)
   | (with_reducible exact chain_At.mono _ _ _ _)
   | (with_reducible exact chain_Count.mono _ _ _)
   | (with_reducible exact chain_New.mono _ _ _ _ _)
   | (with_reducible exact chain_Purge.mono _ _ _ _)
   | (with_reducible exact quorumlaw8_wakes.mono _)
   | (with_reducible exact LeO.refl _)
   | (with_reducible exact LeO.none _)
   | (with_reducible refine LeO.ite ?_ ?_)
   | (with_reducible refine LeO.bind ?_ (fun _ => ?_))
   | exact ih0 _ _ _ _
   | exact ih1 _ _ _ _
   | exact ih2 _ _ _ _ _
   | exact chain_Add.mono _ _ _ _ _ _
   | exact chain_At.mono _ _ _ _
   | exact chain_Count.mono _ _ _
   | exact chain_New.mono _ _ _ _ _
   | exact chain_Purge.mono _ _ _ _
   | exact quorumlaw8_wakes.mono _
   | exact LeO.none _
   | refine LeO.ite ?_ ?_
   | refine LeO.bind ?_ (fun _ => ?_)
  ·intro y0 y1 y2 y3
   unfold quorumlaw8_ChainLong.l1
   repeat' first
   | (with_reducible exact ih0 _ _ _ _)
   | (with_reducible exact ih1 _ _ _ _)
   | (with_reducible exact ih2 _ _ _ _ _)
   | (with_reducible exact chain_Add.mono _ _ _ _ _ _)
   | (with_reducible exact chain_At.mono _ _ _ _)
   | (with_reducible exact chain_Count.mono _ _ _)
   | (with_reducible exact chain_New.mono _ _ _ _ _)
   | (with_reducible exact chain_Purge.mono _ _ _ _)
   | (with_reducible exact quorumlaw8_wakes.mono _)
   | (with_reducible exact LeO.refl _)
   | (with_reducible exact LeO.none _)
   | (with_reducible refine LeO.ite ?_ ?_)
   | (with_reducible refine LeO.bind ?_ (fun _ => ?_))
   | exact ih0 _ _ _ _
   | exact ih1 _ _ _ _
   | exact ih2 _ _ _ _ _
   | exact chain_Add.mono _ _ _ _ _ _
   | exact chain_At.mono _ _ _ _
   | exact chain_Count.mono _ _ _
   | exact chain_New.mono _ _ _ _ _
   | exact chain_Purge.mono _ _ _ _
   | exact quorumlaw8_wakes.mono _
   | exact LeO.none _
   | refine LeO.ite ?_ ?_
   | refine LeO.bind ?_ (fun _ => ?_)
  ·intro y0 y1 y2 y3 y4
   unfold quorumlaw8_ChainLong.l2
   repeat' first
   | (with_reducible exact ih0 _ _ _ _)
   | (with_reducible exact ih1 _ _ _ _)
   | (with_reducible exact ih2 _ _ _ _ _)
   | (with_reducible exact chain_Add.mono _ _ _ _ _ _)
   | (with_reducible exact chain_At.mono _ _ _ _)
   | (with_reducible exact chain_Count.mono _ _ _)
   | (with_reducible exact chain_New.mono _ _ _ _ _)
   | (with_reducible exact chain_Purge.mono _ _ _ _)
   | (with_reducible exact quorumlaw8_wakes.mono _)
   | (with_reducible exact LeO.refl _)
   | (with_reducible exact LeO.none _)
   | (with_reducible refine LeO.ite ?_ ?_)
   | (with_reducible refine LeO.bind ?_ (fun _ => ?_))
   | exact ih0 _ _ _ _
   | exact ih1 _ _ _ _
   | exact ih2 _ _ _ _ _
   | exact chain_Add.mono _ _ _ _ _ _
   | exact chain_At.mono _ _ _ _
   | exact chain_Count.mono _ _ _
   | exact chain_New.mono _ _ _ _ _
   | exact chain_Purge.mono _ _ _ _
   | exact quorumlaw8_wakes.mono _
   | exact LeO.none _
   | refine LeO.ite ?_ ?_
   | refine LeO.bind ?_ (fun _ => ?_)
theorem quorumlaw8_ChainLong.mono : ∀ a0 a1 a2 a3 k, LeO (quorumlaw8_ChainLong.f k a0 a1 a2 a3) (quorumlaw8_ChainLong.f (k + 1) a0 a1 a2 a3) := by
 intro a0 a1 a2 a3 k
 obtain ⟨ih0, ih1, ih2⟩ := quorumlaw8_ChainLong.mono_l k
 unfold quorumlaw8_ChainLong.f
 repeat' first
   | (with_reducible exact ih0 _ _ _ _)
   | (with_reducible exact ih1 _ _ _ _)
   | (with_reducible exact ih2 _ _ _ _ _)
   | (with_reducible exact chain_Add.mono _ _ _ _ _ _)
   | (with_reducible exact chain_At.mono _ _ _ _)
   | (with_reducible exact chain_Count.mono _ _ _)
   | (with_reducible exact chain_New.mono _ _ _ _ _)
   | (with_reducible exact chain_Purge.mono _ _ _ _)
   | (with_reducible exact quorumlaw8_wakes.mono _)
   | (with_reducible exact LeO.refl _)
   | (with_reducible exact LeO.none _)
   | (with_reducible refine LeO.ite ?_ ?_)
   | (with_reducible refine LeO.bind ?_ (fun _ => ?_))
   | exact ih0 _ _ _ _
   | exact ih1 _ _ _ _
   | exact ih2 _ _ _ _ _
   | exact chain_Add.mono _ _ _ _ _ _
   | exact chain_At.mono _ _ _ _
   | exact chain_Count.mono _ _ _
   | exact chain_New.mono _ _ _ _ _
   | exact chain_Purge.mono _ _ _ _
   | exact quorumlaw8_wakes.mono _
   | exact LeO.none _
   | refine LeO.ite ?_ ?_
   | refine LeO.bind ?_ (fun _ => ?_)
set_option maxHeartbeats 8000000 in
set_option maxRecDepth 100000 in
theorem quorumlaw8_ChainLong.calls (k : Nat) (A0_0 : Option Addr) (c0_0 : Nat) (l0_0 : List (S31)) (A0_1 : Option Addr) (c0_1 : Nat) (l0_1 : List (S37)) (A0_2 : Option Addr) (c0_2 : Nat) (l0_2 : List Int) (A0_3 : Option Addr) (c0_3 : Nat) (l0_3 : List ByteArray) (r : Bool) (w : World) (hr0_0 : Kd.C k31 w A0_0 l0_0.length l0_0) (hc0_0 : l0_0.length ≤ c0_0) (hr0_1 : Kd.C k37 w A0_1 l0_1.length l0_1) (hc0_1 : l0_1.length ≤ c0_1) (hr0_2 : Kd.C (Kd.int .i64) w A0_2 l0_2.length l0_2) (hc0_2 : l0_2.length ≤ c0_2) (hr0_3 : Kd.C Kd.string w A0_3 l0_3.length l0_3) (hc0_3 : l0_3.length ≤ c0_3) (h : quorumlaw8_ChainLong.f k l0_0 l0_1 l0_2 l0_3 = some r) :
  Calls Try.prog 7 #[.agg #[.slice A0_0 l0_0.length c0_0, .slice A0_1 l0_1.length c0_1, .slice A0_2 l0_2.length c0_2, .slice A0_3 l0_3.length c0_3]] w fun e w' => e = .returned (.bool r) ∧ Below w.heap.size w w' := by
 have hu27 := Try.underlying27
 have hu37 := Try.underlying37
 have hu31 := Try.underlying31
 have HR0_0 := mk0 hr0_0
 have HC0_0 := mk0 hc0_0
 clear hr0_0 hc0_0
 have HR0_1 := mk0 hr0_1
 have HC0_1 := mk0 hc0_1
 clear hr0_1 hc0_1
 have HR0_2 := mk0 hr0_2
 have HC0_2 := mk0 hc0_2
 clear hr0_2 hc0_2
 have HR0_3 := mk0 hr0_3
 have HC0_3 := mk0 hc0_3
 clear hr0_3 hc0_3
 have HB := mk0 (Below.refl w.heap.size w)
 have H : ((chain_New.f k (⟨#[107]⟩ : ByteArray) 1 (⟨#[118]⟩ : ByteArray) false).bind fun bt260 => ((quorumlaw8_num.f bt260.2.2).bind fun t266 => (if t266 = 0 then (quorumlaw8_ChainLong.l0 k (2 + ((l0_2.length : Int) % 20)) 1 bt260.1 bt260.2.1) else (some false)))) = some r := h
 clear h
 replace H := Option.bind_eq_some_iff.mp H
 obtain ⟨⟨t260, t261, t264⟩, A20, H⟩ := H
 replace H : ((quorumlaw8_num.f t264).bind fun t266 => (if t266 = 0 then (quorumlaw8_ChainLong.l0 k (2 + ((l0_2.length : Int) % 20)) 1 t260 t261) else (some false))) = some r := H
 have A2 := mk0 A20
 clear A20
 replace H := Option.bind_eq_some_iff.mp H
 obtain ⟨t266, A30, H⟩ := H
 replace H : (if t266 = 0 then (quorumlaw8_ChainLong.l0 k (2 + ((l0_2.length : Int) % 20)) 1 t260 t261) else (some false)) = some r := H
 have A3 := mk0 A30
 clear A30
 by_cases c4 : t266 = 0
 focus
  rw [if_pos c4] at H
  have c4b0 : (t266 == 0) = true := beq_iff_eq.mpr c4
  have c4b1 : (t266 != 0) = false := bne_eq_false_iff_eq.mpr c4
  clear c4
  have H' := mk0 H
  clear H
  go_enter Try.func7, Try.ntmps7
 rotate_left 1
 focus
  rw [if_neg c4] at H
  have c4b0 : (t266 == 0) = false := beq_eq_false_iff_ne.mpr c4
  have c4b1 : (t266 != 0) = true := bne_iff_ne.mpr c4
  obtain rfl := Option.some.inj H
  go_enter Try.func7, Try.ntmps7
 rotate_right 1
 all_goals go_wp2_with (first | ((with_reducible refine gate_dst (N := 1) rfl ?_); refine box_event ?hg (N := 1) ?hd (cs := #[.slice A0_0 l0_0.length c0_0, .slice A0_1 l0_1.length c0_1, .slice A0_2 l0_2.length c0_2, .slice A0_3 l0_3.length c0_3]) (t := 27) ?hr ?_; (case hd => rfl); (case hg => rfl); (case hr => first | (go_simp; done) | (go_simp; rfl)); intro gb259 hg w160 hbox hb; have n0_ := mk0 (bt_ (by repeat (first | (with_reducible first | exact HB.out | apply bL_ | apply pN_ | apply b1_) | exact HB.out)) hb); have n1_ := mk0 (hbox); have n2_ := mk0 ((by rw [hg]; exact (bz_ (by repeat (first | (with_reducible first | exact HB.out | apply bL_ | apply pN_ | apply b1_) | exact HB.out))) : w.heap.size ≤ gb259)); have n3_ := mk0 ((by rw [hg]; exact (bz_ (by repeat (first | (with_reducible first | exact HB.out | apply bL_ | apply pN_ | apply b1_) | exact HB.out))) : w.heap.size ≤ gb259)); clear HB; have HB := n0_; have BK259 := n1_; have GW259 := n2_; have GE259 := n3_; clear n0_ n1_ n2_ n3_; clear hb hbox hg; have hcz161_0 : w160.cell? ⟨gb259, 0, none⟩ = some (.slice A0_0 l0_0.length c0_0) := (blk_cell BK259.out 0).trans rfl; have hcz161_1 : w160.cell? ⟨gb259, 1, none⟩ = some (.slice A0_1 l0_1.length c0_1) := (blk_cell BK259.out 1).trans rfl; have hcz161_2 : w160.cell? ⟨gb259, 2, none⟩ = some (.slice A0_2 l0_2.length c0_2) := (blk_cell BK259.out 2).trans rfl; have hcz161_3 : w160.cell? ⟨gb259, 3, none⟩ = some (.slice A0_3 l0_3.length c0_3) := (blk_cell BK259.out 3).trans rfl; have hfz161_0 := blk_frozen BK259.out 0; have hfz161_1 := blk_frozen BK259.out 1; have hfz161_2 := blk_frozen BK259.out 2; have hfz161_3 := blk_frozen BK259.out 3) | ((with_reducible refine gate_callee (f := 41) rfl ?_); refine goesL_ (some 26) rfl rfl Try.func41 (by kernel_rfl) rfl #[.string (⟨#[107]⟩ : ByteArray), .agg #[.int .i64 1, .string (⟨#[118]⟩ : ByteArray), .bool false]] rfl (by (try simp only [List.map_toArray, List.map_cons, List.map_nil]); first | done | rfl | (simp only [List.length_drop, List.length_take]; rfl)) ?_; (with_reducible refine (chain_New.calls k (⟨#[107]⟩ : ByteArray) 1 (⟨#[118]⟩ : ByteArray) false t260 t261 t264 _ A2.out).mono ?_); rintro e w162 ⟨v262, rfl, ho0, hb⟩; refine ⟨_, rfl, ?_⟩; have n0_ := mk0 (Kd.R_lower ho0 (bz_ (by repeat (first | (with_reducible first | exact HB.out | apply bL_ | apply pN_ | apply b1_ | refine bs_ ?_ GE259.out) | exact HB.out)))); have n1_ := mk0 (blk_below (g := gb259) (o := .cells #[.slice A0_0 l0_0.length c0_0, .slice A0_1 l0_1.length c0_1, .slice A0_2 l0_2.length c0_2, .slice A0_3 l0_3.length c0_3] 27 (0, 0)) (by (with_reducible repeat (first | refine bN_ ?_ _ | refine bD_ ?_ | refine bA_ ?_ _)); exact BK259.out) hb); have n2_ := mk0 (bt_ (by repeat (first | (with_reducible first | exact HB.out | apply bL_ | apply pN_ | apply b1_ | refine bs_ ?_ GE259.out) | exact HB.out)) hb); clear BK259; clear HB; have HO263 := n0_; have BK259 := n1_; have HB := n2_; clear n0_ n1_ n2_; (try clear hb); (try clear hb2); (try clear hk); (try clear hi); (try clear ho0)) | ((with_reducible refine gate_dst (N := 4) rfl ?_); refine box_event ?hg (N := 4) ?hd (cs := #[.string (⟨#[]⟩ : ByteArray), .slice none 0 0]) (t := 31) ?hr ?_; (case hd => rfl); (case hg => rfl); (case hr => first | (go_simp; done) | (go_simp; rfl)); intro gb265 hg w163 hbox hb; have n0_ := mk0 (Kd.R_below (by (with_reducible repeat (first | apply Ra_ | apply Rn_ | apply Rd_)); exact HO263.out) hb); have n1_ := mk0 (blk_below (g := gb259) (o := .cells #[.slice A0_0 l0_0.length c0_0, .slice A0_1 l0_1.length c0_1, .slice A0_2 l0_2.length c0_2, .slice A0_3 l0_3.length c0_3] 27 (0, 0)) (by (with_reducible repeat (first | refine bN_ ?_ _ | refine bD_ ?_ | refine bA_ ?_ _)); exact BK259.out) hb); have n2_ := mk0 (bt_ (by repeat (first | (with_reducible first | exact HB.out | apply bL_ | apply pN_ | apply b1_ | refine bs_ ?_ GE259.out) | exact HB.out)) hb); have n3_ := mk0 (hbox); have n4_ := mk0 ((by rw [hg]; exact (bz_ (by repeat (first | (with_reducible first | exact HB.out | apply bL_ | apply pN_ | apply b1_ | refine bs_ ?_ GE259.out) | exact HB.out))) : w.heap.size ≤ gb265)); have n5_ := mk0 ((by rw [hg]; exact (bz_ (by repeat (first | (with_reducible first | exact HB.out | apply bL_ | apply pN_ | apply b1_ | refine bs_ ?_ GE259.out) | exact HB.out))) : w.heap.size ≤ gb265)); have n6_ := mk0 ((by rw [hg]; exact Nat.ne_of_lt (blk_lt (g := gb259) (o := .cells #[.slice A0_0 l0_0.length c0_0, .slice A0_1 l0_1.length c0_1, .slice A0_2 l0_2.length c0_2, .slice A0_3 l0_3.length c0_3] 27 (0, 0)) (by (with_reducible repeat (first | refine bN_ ?_ _ | refine bD_ ?_ | refine bA_ ?_ _)); exact BK259.out)) : gb259 ≠ gb265)); have n7_ := mk0 ((by rw [hg]; exact Nat.ne_of_gt (blk_lt (g := gb259) (o := .cells #[.slice A0_0 l0_0.length c0_0, .slice A0_1 l0_1.length c0_1, .slice A0_2 l0_2.length c0_2, .slice A0_3 l0_3.length c0_3] 27 (0, 0)) (by (with_reducible repeat (first | refine bN_ ?_ _ | refine bD_ ?_ | refine bA_ ?_ _)); exact BK259.out)) : gb265 ≠ gb259)); clear HO263; clear BK259; clear HB; have HO263 := n0_; have BK259 := n1_; have HB := n2_; have BK265 := n3_; have GW265 := n4_; have GE265 := n5_; have NB259_265 := n6_; have NB265_259 := n7_; clear n0_ n1_ n2_ n3_ n4_ n5_ n6_ n7_; clear hb hbox hg; have hnb164 := NB265_259.out; have hnc164 := NB259_265.out; have hcz165_0 : w163.cell? ⟨gb265, 0, none⟩ = some (.string (⟨#[]⟩ : ByteArray)) := (blk_cell BK265.out 0).trans rfl; have hcz165_1 : w163.cell? ⟨gb265, 1, none⟩ = some (.slice none 0 0) := (blk_cell BK265.out 1).trans rfl; have hfz165_0 := blk_frozen BK265.out 0; have hfz165_1 := blk_frozen BK265.out 1; obtain ⟨Ao166, co166, eo166⟩ := Kd.R_slice HO263.out; subst eo166) | ((with_reducible refine gate_callee (f := 18) rfl ?_); refine goesL_ (some 30) rfl rfl Try.func18 (by kernel_rfl) rfl #[.int .i64 t264] rfl (by (try simp only [List.map_toArray, List.map_cons, List.map_nil]); first | done | rfl | (simp only [List.length_drop, List.length_take]; rfl)) ?_; (with_reducible refine (quorumlaw8_num.calls t264 t266 _ A3.out).mono ?_); rintro e w' ⟨rfl, ⟨nd, rfl⟩⟩; refine ⟨_, rfl, ?_⟩))
 ·go_loopg [6] k (fun kq v6 w' => ∃ (x6_1 : Int) (x266000_1 : ByteArray) (x266001_1 : List (S37)) (u266001 : Value), v6 = .int .i64 x6_1 ∧ Aside0 (quorumlaw8_ChainLong.l0 kq (2 + ((l0_2.length : Int) % 20)) x6_1 x266000_1 x266001_1 = some r) ∧ Aside0 (kq ≤ k) ∧ Aside0 (Kd.R k37 37 w' w.heap.size (fun _ => True) u266001 x266001_1) ∧ Aside0 (w'.heap[gb259]? = some (.cells #[(.slice A0_0 l0_0.length c0_0), (.slice A0_1 l0_1.length c0_1), (.slice A0_2 l0_2.length c0_2), (.slice A0_3 l0_3.length c0_3)] 27 (0, 0))) ∧ Aside0 (w'.heap[gb265]? = some (.cells #[.string x266000_1, u266001] 31 (0, 0))) ∧ Aside0 (Below w.heap.size w w'))
  case atStart => exact ⟨(1), (t260), (t261), (.slice Ao166 t261.length co166), (by first | rfl | (simp; done) | (simp [*]; done)), H', ⟨Nat.le_refl _⟩, ⟨by (with_reducible repeat (first | apply Ra_ | apply Rn_ | apply Rd_)); exact Kd.R_mono (Kd.R_far (p := ⟨gb265, 1, none⟩) (Kd.R_far (p := ⟨gb265, 0, none⟩) (Kd.R_types HO263.out BK265.out (by decide)) (fun _ hk => hk.2) (.string t260)) (fun _ hk => hk.2) (.slice Ao166 t261.length co166)) (fun _ hk => trivial)⟩, ⟨by (with_reducible repeat (first | refine bN_ ?_ _ | refine bD_ ?_ | refine bA_ ?_ _)); refine blk_far ?_ NB259_265.out _; (with_reducible repeat (first | refine bN_ ?_ _ | refine bD_ ?_ | refine bA_ ?_ _)); refine blk_far ?_ NB259_265.out _; (with_reducible repeat (first | refine bN_ ?_ _ | refine bD_ ?_ | refine bA_ ?_ _)); exact BK259.out⟩, ⟨by (with_reducible repeat (first | refine bN_ ?_ _ | refine bD_ ?_ | refine bA_ ?_ _)); refine blk_put (cs := #[.string t260, .slice none 0 0]) ?_ 1 _ rfl; (with_reducible repeat (first | refine bN_ ?_ _ | refine bD_ ?_ | refine bA_ ?_ _)); refine blk_put (cs := #[.string (⟨#[]⟩ : ByteArray), .slice none 0 0]) ?_ 0 _ rfl; (with_reducible repeat (first | refine bN_ ?_ _ | refine bD_ ?_ | refine bA_ ?_ _)); exact BK265.out⟩, ⟨by repeat (first | (with_reducible first | exact HB.out | apply bL_ | apply pN_ | apply b1_ | refine bs_ ?_ GE259.out | refine bs_ ?_ GE265.out) | exact HB.out)⟩⟩
  case round =>
   clear H'
   try clear c1
   try clear p2
   try clear c4
   try clear c4b0
   try clear c4b1
   try clear c7
   try clear c9
   try clear hcz165_0
   try clear hcz165_1
   try clear hcz161_0
   try clear hcz161_1
   try clear hcz161_2
   try clear hcz161_3
   try clear hfz165_0
   try clear hfz165_1
   try clear hfz161_0
   try clear hfz161_1
   try clear hfz161_2
   try clear hfz161_3
   obtain ⟨x6_1, x266000_1, x266001_1, u266001, rfl, HA, HK1, HO_266001, BK259, BK265, HB⟩ := hrel
   cases gk with
   | zero => exact absurd HA.out (by simp [quorumlaw8_ChainLong.l0])
   | succ k1 =>
    have H := HA.out
    clear HA
    simp only [quorumlaw8_ChainLong.l0] at H
    by_cases c12 : x6_1 < (2 + ((l0_2.length : Int) % 20))
    focus
     rw [if_pos c12] at H
     have c12b0 : decide (x6_1 < (2 + ((l0_2.length : Int) % 20))) = true := decide_eq_true c12
     clear c12
     obtain ⟨y267, hy267⟩ : ∃ y_ : List Int, y_ = (([(wrap64 (97 + x6_1)) % 256] : List Int)) := ⟨_, rfl⟩
     replace H : ((chain_Add.f k1 x266000_1 x266001_1 (wrap64 (1 + (wrap64 (3 * x6_1)))) (strOfNums y267) false).bind fun bt270 => ((chain_Add.f k1 x266000_1 x266001_1 (wrap64 (1 + (wrap64 (3 * (wrap64 (x6_1 - 1)))))) (⟨#[120]⟩ : ByteArray) false).bind fun bt276 => ((quorumlaw8_num.f bt270.2.2).bind fun t282 => (if t282 = 0 then ((quorumlaw8_num.f bt276.2.2).bind fun t283 => (if t283 = 1 then (quorumlaw8_ChainLong.l0 k1 (2 + ((l0_2.length : Int) % 20)) (wrap64 (x6_1 + 1)) bt270.1 bt270.2.1) else (some false))) else (some false))))) = some r := by first | (rw [hy267]; with_reducible exact H) | (have H2_ := (Option.bind_some _ _).symm.trans H; rw [hy267]; with_reducible exact H2_) | (have H2_ := (Option.bind_some _ _).symm.trans H; with_reducible exact H2_) | with_reducible exact H | (rw [hy267]; exact H) | exact H
     have Ny267 := mk0 hy267
     clear hy267
     replace H := Option.bind_eq_some_iff.mp H
     obtain ⟨⟨t270, t271, t274⟩, A130, H⟩ := H
     replace H : ((chain_Add.f k1 x266000_1 x266001_1 (wrap64 (1 + (wrap64 (3 * (wrap64 (x6_1 - 1)))))) (⟨#[120]⟩ : ByteArray) false).bind fun bt276 => ((quorumlaw8_num.f t274).bind fun t282 => (if t282 = 0 then ((quorumlaw8_num.f bt276.2.2).bind fun t283 => (if t283 = 1 then (quorumlaw8_ChainLong.l0 k1 (2 + ((l0_2.length : Int) % 20)) (wrap64 (x6_1 + 1)) t270 t271) else (some false))) else (some false)))) = some r := H
     have A13 := mk0 A130
     clear A130
     replace H := Option.bind_eq_some_iff.mp H
     obtain ⟨⟨t276, t277, t280⟩, A140, H⟩ := H
     replace H : ((quorumlaw8_num.f t274).bind fun t282 => (if t282 = 0 then ((quorumlaw8_num.f t280).bind fun t283 => (if t283 = 1 then (quorumlaw8_ChainLong.l0 k1 (2 + ((l0_2.length : Int) % 20)) (wrap64 (x6_1 + 1)) t270 t271) else (some false))) else (some false))) = some r := H
     have A14 := mk0 A140
     clear A140
     replace H := Option.bind_eq_some_iff.mp H
     obtain ⟨t282, A150, H⟩ := H
     replace H : (if t282 = 0 then ((quorumlaw8_num.f t280).bind fun t283 => (if t283 = 1 then (quorumlaw8_ChainLong.l0 k1 (2 + ((l0_2.length : Int) % 20)) (wrap64 (x6_1 + 1)) t270 t271) else (some false))) else (some false)) = some r := H
     have A15 := mk0 A150
     clear A150
     by_cases c16 : t282 = 0
     focus
      rw [if_pos c16] at H
      have c16b0 : (t282 == 0) = true := beq_iff_eq.mpr c16
      have c16b1 : (t282 != 0) = false := bne_eq_false_iff_eq.mpr c16
      clear c16
      replace H := Option.bind_eq_some_iff.mp H
      obtain ⟨t283, A170, H⟩ := H
      replace H : (if t283 = 1 then (quorumlaw8_ChainLong.l0 k1 (2 + ((l0_2.length : Int) % 20)) (wrap64 (x6_1 + 1)) t270 t271) else (some false)) = some r := H
      have A17 := mk0 A170
      clear A170
      by_cases c18 : t283 = 1
      focus
       rw [if_pos c18] at H
       have c18b0 : (t283 == 1) = true := beq_iff_eq.mpr c18
       have c18b1 : (t283 != 1) = false := bne_eq_false_iff_eq.mpr c18
       clear c18
       have H' := mk0 H
       clear H
       have hnb19 := NB265_259.out
       have hnc19 := NB259_265.out
       have hcz20_0 : wr.cell? ⟨gb265, 0, none⟩ = some (.string x266000_1) := (blk_cell BK265.out 0).trans rfl
       have hcz20_1 : wr.cell? ⟨gb265, 1, none⟩ = some (u266001) := (blk_cell BK265.out 1).trans rfl
       have hfz20_0 := blk_frozen BK265.out 0
       have hfz20_1 := blk_frozen BK265.out 1
      rotate_left 1
      focus
       rw [if_neg c18] at H
       have c18b0 : (t283 == 1) = false := beq_eq_false_iff_ne.mpr c18
       have c18b1 : (t283 != 1) = true := bne_iff_ne.mpr c18
       obtain rfl := Option.some.inj H
       have hnb41 := NB265_259.out
       have hnc41 := NB259_265.out
       have hcz42_0 : wr.cell? ⟨gb265, 0, none⟩ = some (.string x266000_1) := (blk_cell BK265.out 0).trans rfl
       have hcz42_1 : wr.cell? ⟨gb265, 1, none⟩ = some (u266001) := (blk_cell BK265.out 1).trans rfl
       have hfz42_0 := blk_frozen BK265.out 0
       have hfz42_1 := blk_frozen BK265.out 1
      rotate_right 1
     rotate_left 2
     focus
      rw [if_neg c16] at H
      have c16b0 : (t282 == 0) = false := beq_eq_false_iff_ne.mpr c16
      have c16b1 : (t282 != 0) = true := bne_iff_ne.mpr c16
      obtain rfl := Option.some.inj H
      have hnb61 := NB265_259.out
      have hnc61 := NB259_265.out
      have hcz62_0 : wr.cell? ⟨gb265, 0, none⟩ = some (.string x266000_1) := (blk_cell BK265.out 0).trans rfl
      have hcz62_1 : wr.cell? ⟨gb265, 1, none⟩ = some (u266001) := (blk_cell BK265.out 1).trans rfl
      have hfz62_0 := blk_frozen BK265.out 0
      have hfz62_1 := blk_frozen BK265.out 1
     rotate_right 2
    rotate_left 3
    ·rw [if_neg c12] at H
     have c12b0 : decide (x6_1 < (2 + ((l0_2.length : Int) % 20))) = false := decide_eq_false c12
     clear c12
     have H' := mk0 H
     clear H
     go_wp2
     go_loopg [11] k1 (fun kq v11 w' => ∃ (x11_2 : Int), v11 = .int .i64 x11_2 ∧ Aside0 (quorumlaw8_ChainLong.l1 kq (2 + ((l0_2.length : Int) % 20)) x11_2 x266000_1 x266001_1 = some r) ∧ Aside0 (kq ≤ k1) ∧ Aside0 (Kd.R k37 37 w' w.heap.size (fun _ => True) u266001 x266001_1) ∧ Aside0 (w'.heap[gb259]? = some (.cells #[(.slice A0_0 l0_0.length c0_0), (.slice A0_1 l0_1.length c0_1), (.slice A0_2 l0_2.length c0_2), (.slice A0_3 l0_3.length c0_3)] 27 (0, 0))) ∧ Aside0 (w'.heap[gb265]? = some (.cells #[.string x266000_1, u266001] 31 (0, 0))) ∧ Aside0 (Below w.heap.size w w'))
     case atStart => exact ⟨(1), (by first | rfl | (simp; done) | (simp [*]; done)), H', ⟨Nat.le_refl _⟩, ⟨by (with_reducible repeat (first | apply Ra_ | apply Rn_ | apply Rd_)); exact HO_266001.out⟩, ⟨by (with_reducible repeat (first | refine bN_ ?_ _ | refine bD_ ?_ | refine bA_ ?_ _)); exact BK259.out⟩, ⟨by (with_reducible repeat (first | refine bN_ ?_ _ | refine bD_ ?_ | refine bA_ ?_ _)); exact BK265.out⟩, ⟨by repeat (first | (with_reducible first | exact HB.out | apply bL_ | apply pN_ | apply b1_ | refine bs_ ?_ GE259.out | refine bs_ ?_ GE265.out) | exact HB.out)⟩⟩
     case round =>
      clear H'
      try clear c1
      try clear c2
      try clear p2
      try clear hcv2
      try clear c3
      try clear c4
      try clear c4b0
      try clear c4b1
      try clear hcv4
      try clear c5
      try clear c6
      try clear p6
      try clear hcv6
      try clear c7
      try clear c9
      try clear c12
      try clear c12b0
      try clear c16
      try clear c16b0
      try clear c16b1
      try clear c18
      try clear c18b0
      try clear c18b1
      try clear c19
      try clear hcv23
      try clear c27
      try clear c28
      try clear c34
      try clear c35
      try clear c36
      try clear c39
      try clear c41
      try clear hcv45
      try clear c49
      try clear c50
      try clear c56
      try clear c57
      try clear c58
      try clear c61
      try clear p64
      try clear hcv65
      try clear c69
      try clear c70
      try clear c76
      try clear c77
      try clear c78
      try clear hcz165_0
      try clear hcz165_1
      try clear hcz20_0
      try clear hcz20_1
      try clear hcz29_0
      try clear hcz29_1
      try clear hcz31_0
      try clear hcz31_1
      try clear hcz37_0
      try clear hcz37_1
      try clear hcz39_0
      try clear hcz39_1
      try clear hcz40_0
      try clear hcz40_1
      try clear hcz42_0
      try clear hcz42_1
      try clear hcz51_0
      try clear hcz51_1
      try clear hcz53_0
      try clear hcz53_1
      try clear hcz59_0
      try clear hcz59_1
      try clear hcz62_0
      try clear hcz62_1
      try clear hcz161_0
      try clear hcz161_1
      try clear hcz161_2
      try clear hcz161_3
      try clear hcz71_0
      try clear hcz71_1
      try clear hcz73_0
      try clear hcz73_1
      try clear hcz79_0
      try clear hcz79_1
      try clear hfz165_0
      try clear hfz165_1
      try clear hfz20_0
      try clear hfz20_1
      try clear hfz29_0
      try clear hfz29_1
      try clear hfz31_0
      try clear hfz31_1
      try clear hfz37_0
      try clear hfz37_1
      try clear hfz39_0
      try clear hfz39_1
      try clear hfz40_0
      try clear hfz40_1
      try clear hfz42_0
      try clear hfz42_1
      try clear hfz51_0
      try clear hfz51_1
      try clear hfz53_0
      try clear hfz53_1
      try clear hfz59_0
      try clear hfz59_1
      try clear hfz62_0
      try clear hfz62_1
      try clear hfz161_0
      try clear hfz161_1
      try clear hfz161_2
      try clear hfz161_3
      try clear hfz71_0
      try clear hfz71_1
      try clear hfz73_0
      try clear hfz73_1
      try clear hfz79_0
      try clear hfz79_1
      try clear p2
      obtain ⟨x11_2, rfl, HA, HK2, HO_266001, BK259, BK265, HB⟩ := hrel
      cases gk with
      | zero => exact absurd HA.out (by simp [quorumlaw8_ChainLong.l1])
      | succ k2 =>
       have H := HA.out
       clear HA
       simp only [quorumlaw8_ChainLong.l1] at H
       rw [show wrap64 (3 * (2 + ((l0_2.length : Int) % 20))) = 3 * (2 + ((l0_2.length : Int) % 20)) from by unfold wrap64; omega] at H
       by_cases c81 : x11_2 < (2 + ((l0_2.length : Int) % 20))
       ·rw [if_pos c81] at H
        have c81b0 : decide (x11_2 < (2 + ((l0_2.length : Int) % 20))) = true := decide_eq_true c81
        clear c81
        have H' := mk0 H
        clear H
        go_wp2
        go_loopg [12] k2 (fun kq v12 w' => ∃ (x12_3 : Int), v12 = .int .i64 x12_3 ∧ Aside0 (quorumlaw8_ChainLong.l2 kq (2 + ((l0_2.length : Int) % 20)) x11_2 x12_3 x266000_1 x266001_1 = some r) ∧ Aside0 (kq ≤ k2) ∧ Aside0 (Kd.R k37 37 w' w.heap.size (fun _ => True) u266001 x266001_1) ∧ Aside0 (w'.heap[gb259]? = some (.cells #[(.slice A0_0 l0_0.length c0_0), (.slice A0_1 l0_1.length c0_1), (.slice A0_2 l0_2.length c0_2), (.slice A0_3 l0_3.length c0_3)] 27 (0, 0))) ∧ Aside0 (w'.heap[gb265]? = some (.cells #[.string x266000_1, u266001] 31 (0, 0))) ∧ Aside0 (Below w.heap.size w w'))
        case atStart => exact ⟨(0), (by first | rfl | (simp; done) | (simp [*]; done)), H', ⟨Nat.le_refl _⟩, ⟨by (with_reducible repeat (first | apply Ra_ | apply Rn_ | apply Rd_)); exact HO_266001.out⟩, ⟨by (with_reducible repeat (first | refine bN_ ?_ _ | refine bD_ ?_ | refine bA_ ?_ _)); exact BK259.out⟩, ⟨by (with_reducible repeat (first | refine bN_ ?_ _ | refine bD_ ?_ | refine bA_ ?_ _)); exact BK265.out⟩, ⟨by repeat (first | (with_reducible first | exact HB.out | apply bL_ | apply pN_ | apply b1_ | refine bs_ ?_ GE259.out | refine bs_ ?_ GE265.out) | exact HB.out)⟩⟩
        case round =>
         clear H'
         try clear c1
         try clear c2
         try clear p2
         try clear hcv2
         try clear c3
         try clear c4
         try clear c4b0
         try clear c4b1
         try clear hcv4
         try clear c5
         try clear c6
         try clear p6
         try clear hcv6
         try clear c7
         try clear c8
         try clear c9
         try clear c12
         try clear c12b0
         try clear c16
         try clear c16b0
         try clear c16b1
         try clear c18
         try clear c18b0
         try clear c18b1
         try clear c19
         try clear hcv23
         try clear c27
         try clear c28
         try clear c34
         try clear c35
         try clear c36
         try clear c39
         try clear c41
         try clear hcv45
         try clear c49
         try clear c50
         try clear c56
         try clear c57
         try clear c58
         try clear c61
         try clear p64
         try clear hcv65
         try clear c69
         try clear c70
         try clear c76
         try clear c77
         try clear c78
         try clear c81
         try clear c81b0
         try clear hcz165_0
         try clear hcz165_1
         try clear hcz20_0
         try clear hcz20_1
         try clear hcz29_0
         try clear hcz29_1
         try clear hcz31_0
         try clear hcz31_1
         try clear hcz37_0
         try clear hcz37_1
         try clear hcz39_0
         try clear hcz39_1
         try clear hcz40_0
         try clear hcz40_1
         try clear hcz42_0
         try clear hcz42_1
         try clear hcz51_0
         try clear hcz51_1
         try clear hcz53_0
         try clear hcz53_1
         try clear hcz59_0
         try clear hcz59_1
         try clear hcz62_0
         try clear hcz62_1
         try clear hcz161_0
         try clear hcz161_1
         try clear hcz161_2
         try clear hcz161_3
         try clear hcz71_0
         try clear hcz71_1
         try clear hcz73_0
         try clear hcz73_1
         try clear hcz79_0
         try clear hcz79_1
         try clear hfz165_0
         try clear hfz165_1
         try clear hfz20_0
         try clear hfz20_1
         try clear hfz29_0
         try clear hfz29_1
         try clear hfz31_0
         try clear hfz31_1
         try clear hfz37_0
         try clear hfz37_1
         try clear hfz39_0
         try clear hfz39_1
         try clear hfz40_0
         try clear hfz40_1
         try clear hfz42_0
         try clear hfz42_1
         try clear hfz51_0
         try clear hfz51_1
         try clear hfz53_0
         try clear hfz53_1
         try clear hfz59_0
         try clear hfz59_1
         try clear hfz62_0
         try clear hfz62_1
         try clear hfz161_0
         try clear hfz161_1
         try clear hfz161_2
         try clear hfz161_3
         try clear hfz71_0
         try clear hfz71_1
         try clear hfz73_0
         try clear hfz73_1
         try clear hfz79_0
         try clear hfz79_1
         try clear p2
         try clear p6
         try clear p64
         obtain ⟨x12_3, rfl, HA, HK3, HO_266001, BK259, BK265, HB⟩ := hrel
         cases gk with
         | zero => exact absurd HA.out (by simp [quorumlaw8_ChainLong.l2])
         | succ k3 =>
          have H := HA.out
          clear HA
          simp only [quorumlaw8_ChainLong.l2] at H
          by_cases c82 : x12_3 < 3
          focus
           rw [if_pos c82] at H
           have c82b0 : decide (x12_3 < 3) = true := decide_eq_true c82
           clear c82
           replace H := Option.bind_eq_some_iff.mp H
           obtain ⟨⟨t284, t285, t286, t287⟩, A830, H⟩ := H
           replace H : ((quorumlaw8_num.f t287).bind fun t289 => (if t289 = 0 then (if t284 = (wrap64 (1 + (wrap64 (3 * x11_2)))) then (quorumlaw8_ChainLong.l2 k3 (2 + ((l0_2.length : Int) % 20)) x11_2 (wrap64 (x12_3 + 1)) x266000_1 x266001_1) else (some false)) else (some false))) = some r := H
           have A83 := mk0 A830
           clear A830
           replace H := Option.bind_eq_some_iff.mp H
           obtain ⟨t289, A840, H⟩ := H
           replace H : (if t289 = 0 then (if t284 = (wrap64 (1 + (wrap64 (3 * x11_2)))) then (quorumlaw8_ChainLong.l2 k3 (2 + ((l0_2.length : Int) % 20)) x11_2 (wrap64 (x12_3 + 1)) x266000_1 x266001_1) else (some false)) else (some false)) = some r := H
           have A84 := mk0 A840
           clear A840
           by_cases c85 : t289 = 0
           focus
            rw [if_pos c85] at H
            have c85b0 : (t289 == 0) = true := beq_iff_eq.mpr c85
            have c85b1 : (t289 != 0) = false := bne_eq_false_iff_eq.mpr c85
            clear c85
            by_cases c86 : t284 = (wrap64 (1 + (wrap64 (3 * x11_2))))
            focus
             rw [if_pos c86] at H
             have c86b0 : (t284 == (wrap64 (1 + (wrap64 (3 * x11_2))))) = true := beq_iff_eq.mpr c86
             have c86b1 : (t284 != (wrap64 (1 + (wrap64 (3 * x11_2))))) = false := bne_eq_false_iff_eq.mpr c86
             clear c86
             have H' := mk0 H
             clear H
             have hnb87 := NB265_259.out
             have hnc87 := NB259_265.out
             have hcz88_0 : wr.cell? ⟨gb265, 0, none⟩ = some (.string x266000_1) := (blk_cell BK265.out 0).trans rfl
             have hcz88_1 : wr.cell? ⟨gb265, 1, none⟩ = some (u266001) := (blk_cell BK265.out 1).trans rfl
             have hfz88_0 := blk_frozen BK265.out 0
             have hfz88_1 := blk_frozen BK265.out 1
             obtain ⟨Ao105, co105, eo89⟩ := Kd.R_slice HO_266001.out
             subst eo89
            rotate_left 1
            focus
             rw [if_neg c86] at H
             have c86b0 : (t284 == (wrap64 (1 + (wrap64 (3 * x11_2))))) = false := beq_eq_false_iff_ne.mpr c86
             have c86b1 : (t284 != (wrap64 (1 + (wrap64 (3 * x11_2))))) = true := bne_iff_ne.mpr c86
             obtain rfl := Option.some.inj H
             have hnb95 := NB265_259.out
             have hnc95 := NB259_265.out
             have hcz96_0 : wr.cell? ⟨gb265, 0, none⟩ = some (.string x266000_1) := (blk_cell BK265.out 0).trans rfl
             have hcz96_1 : wr.cell? ⟨gb265, 1, none⟩ = some (u266001) := (blk_cell BK265.out 1).trans rfl
             have hfz96_0 := blk_frozen BK265.out 0
             have hfz96_1 := blk_frozen BK265.out 1
             obtain ⟨Ao105, co105, eo97⟩ := Kd.R_slice HO_266001.out
             subst eo97
            rotate_right 1
           rotate_left 2
           focus
            rw [if_neg c85] at H
            have c85b0 : (t289 == 0) = false := beq_eq_false_iff_ne.mpr c85
            have c85b1 : (t289 != 0) = true := bne_iff_ne.mpr c85
            obtain rfl := Option.some.inj H
            have hnb103 := NB265_259.out
            have hnc103 := NB259_265.out
            have hcz104_0 : wr.cell? ⟨gb265, 0, none⟩ = some (.string x266000_1) := (blk_cell BK265.out 0).trans rfl
            have hcz104_1 : wr.cell? ⟨gb265, 1, none⟩ = some (u266001) := (blk_cell BK265.out 1).trans rfl
            have hfz104_0 := blk_frozen BK265.out 0
            have hfz104_1 := blk_frozen BK265.out 1
            obtain ⟨Ao105, co105, eo105⟩ := Kd.R_slice HO_266001.out
            subst eo105
           rotate_right 2
          rotate_left 3
          ·rw [if_neg c82] at H
           have c82b0 : decide (x12_3 < 3) = false := decide_eq_false c82
           clear c82
           have H' := mk0 H
           clear H
           go_wp2
           go_roundg k3
           case measure => have := HK1.out; have := HK2.out; have := HK3.out; omega
           case rel => exact ⟨(wrap64 (x11_2 + 1)), (by first | rfl | (simp; done) | (simp [*]; done)), H', ⟨by have := HK1.out; have := HK2.out; have := HK3.out; omega⟩, ⟨by (with_reducible repeat (first | apply Ra_ | apply Rn_ | apply Rd_)); exact HO_266001.out⟩, ⟨by (with_reducible repeat (first | refine bN_ ?_ _ | refine bD_ ?_ | refine bA_ ?_ _)); exact BK259.out⟩, ⟨by (with_reducible repeat (first | refine bN_ ?_ _ | refine bD_ ?_ | refine bA_ ?_ _)); exact BK265.out⟩, ⟨by repeat (first | (with_reducible first | exact HB.out | apply bL_ | apply pN_ | apply b1_ | refine bs_ ?_ GE259.out | refine bs_ ?_ GE265.out) | exact HB.out)⟩⟩
          all_goals go_wp2_with (first | ((with_reducible refine gate_callee (f := 19) rfl ?_); refine goesL_ (some 86) rfl rfl Try.func19 (by kernel_rfl) rfl #[.agg #[.string x266000_1, .slice Ao105 x266001_1.length co105], .int .i64 (wrap64 ((wrap64 (1 + (wrap64 (3 * x11_2)))) + x12_3))] rfl (by (try simp only [List.map_toArray, List.map_cons, List.map_nil]); first | done | rfl | (simp only [List.length_drop, List.length_take]; rfl)) ?_; (with_reducible refine (chain_At.calls k3 x266000_1 _ _ x266001_1 (wrap64 ((wrap64 (1 + (wrap64 (3 * x11_2)))) + x12_3)) t284 t285 t286 t287 _ ?side1 ?side2 A83.out).mono ?_); (case side1 => repeat (first | exact (Kd.R_reads' HO_266001.out).2.2 | (with_reducible refine Kd.C_alloc ?_ _) | (with_reducible refine Kd.C_drewN ?_ _) | (with_reducible refine Kd.C_drew ?_))); (case side2 => exact (Kd.R_reads' HO_266001.out).2.1); rintro e w106 ⟨rfl, hb⟩; refine ⟨_, rfl, ?_⟩; have n0_ := mk0 (Kd.R_below (by (with_reducible repeat (first | apply Ra_ | apply Rn_ | apply Rd_)); exact HO_266001.out) hb); have n1_ := mk0 (blk_below (g := gb259) (o := .cells #[.slice A0_0 l0_0.length c0_0, .slice A0_1 l0_1.length c0_1, .slice A0_2 l0_2.length c0_2, .slice A0_3 l0_3.length c0_3] 27 (0, 0)) (by (with_reducible repeat (first | refine bN_ ?_ _ | refine bD_ ?_ | refine bA_ ?_ _)); exact BK259.out) hb); have n2_ := mk0 (blk_below (g := gb265) (o := .cells #[.string x266000_1, .slice Ao105 x266001_1.length co105] 31 (0, 0)) (by (with_reducible repeat (first | refine bN_ ?_ _ | refine bD_ ?_ | refine bA_ ?_ _)); exact BK265.out) hb); have n3_ := mk0 (bt_ (by repeat (first | (with_reducible first | exact HB.out | apply bL_ | apply pN_ | apply b1_ | refine bs_ ?_ GE259.out | refine bs_ ?_ GE265.out) | exact HB.out)) hb); clear HO_266001; clear BK259; clear BK265; clear HB; have HO_266001 := n0_; have BK259 := n1_; have BK265 := n2_; have HB := n3_; clear n0_ n1_ n2_ n3_; (try clear hb); (try clear hb2); (try clear hk); (try clear hi)) | ((with_reducible refine gate_dst (N := 13) rfl ?_); refine box_event ?hg (N := 13) ?hd (cs := #[.int .i64 0, .string (⟨#[]⟩ : ByteArray), .bool false]) (t := 37) ?hr ?_; (case hd => rfl); (case hg => rfl); (case hr => first | (go_simp; done) | (go_simp; rfl)); intro gb288 hg w107 hbox hb; have n0_ := mk0 (Kd.R_below (Kd.R_elderB (by (with_reducible repeat (first | apply Ra_ | apply Rn_ | apply Rd_)); exact HO_266001.out) gb288 (Nat.le_of_eq hg.symm)) hb); have n1_ := mk0 (blk_below (g := gb259) (o := .cells #[.slice A0_0 l0_0.length c0_0, .slice A0_1 l0_1.length c0_1, .slice A0_2 l0_2.length c0_2, .slice A0_3 l0_3.length c0_3] 27 (0, 0)) (by (with_reducible repeat (first | refine bN_ ?_ _ | refine bD_ ?_ | refine bA_ ?_ _)); exact BK259.out) hb); have n2_ := mk0 (blk_below (g := gb265) (o := .cells #[.string x266000_1, .slice Ao105 x266001_1.length co105] 31 (0, 0)) (by (with_reducible repeat (first | refine bN_ ?_ _ | refine bD_ ?_ | refine bA_ ?_ _)); exact BK265.out) hb); have n3_ := mk0 (bt_ (by repeat (first | (with_reducible first | exact HB.out | apply bL_ | apply pN_ | apply b1_ | refine bs_ ?_ GE259.out | refine bs_ ?_ GE265.out) | exact HB.out)) hb); have n4_ := mk0 (hbox); have n5_ := mk0 ((by rw [hg]; exact (bz_ (by repeat (first | (with_reducible first | exact HB.out | apply bL_ | apply pN_ | apply b1_ | refine bs_ ?_ GE259.out | refine bs_ ?_ GE265.out) | exact HB.out))) : w.heap.size ≤ gb288)); have n6_ := mk0 ((by rw [hg]; exact (bz_ (by repeat (first | (with_reducible first | exact HB.out | apply bL_ | apply pN_ | apply b1_ | refine bs_ ?_ GE259.out | refine bs_ ?_ GE265.out) | exact HB.out))) : w.heap.size ≤ gb288)); have n7_ := mk0 ((by rw [hg]; exact Nat.ne_of_lt (blk_lt (g := gb259) (o := .cells #[.slice A0_0 l0_0.length c0_0, .slice A0_1 l0_1.length c0_1, .slice A0_2 l0_2.length c0_2, .slice A0_3 l0_3.length c0_3] 27 (0, 0)) (by (with_reducible repeat (first | refine bN_ ?_ _ | refine bD_ ?_ | refine bA_ ?_ _)); exact BK259.out)) : gb259 ≠ gb288)); have n8_ := mk0 ((by rw [hg]; exact Nat.ne_of_gt (blk_lt (g := gb259) (o := .cells #[.slice A0_0 l0_0.length c0_0, .slice A0_1 l0_1.length c0_1, .slice A0_2 l0_2.length c0_2, .slice A0_3 l0_3.length c0_3] 27 (0, 0)) (by (with_reducible repeat (first | refine bN_ ?_ _ | refine bD_ ?_ | refine bA_ ?_ _)); exact BK259.out)) : gb288 ≠ gb259)); have n9_ := mk0 ((by rw [hg]; exact Nat.ne_of_lt (blk_lt (g := gb265) (o := .cells #[.string x266000_1, .slice Ao105 x266001_1.length co105] 31 (0, 0)) (by (with_reducible repeat (first | refine bN_ ?_ _ | refine bD_ ?_ | refine bA_ ?_ _)); exact BK265.out)) : gb265 ≠ gb288)); have n10_ := mk0 ((by rw [hg]; exact Nat.ne_of_gt (blk_lt (g := gb265) (o := .cells #[.string x266000_1, .slice Ao105 x266001_1.length co105] 31 (0, 0)) (by (with_reducible repeat (first | refine bN_ ?_ _ | refine bD_ ?_ | refine bA_ ?_ _)); exact BK265.out)) : gb288 ≠ gb265)); clear HO_266001; clear BK259; clear BK265; clear HB; have HO_266001 := n0_; have BK259 := n1_; have BK265 := n2_; have HB := n3_; have BK288 := n4_; have GW288 := n5_; have GE288 := n6_; have NB259_288 := n7_; have NB288_259 := n8_; have NB265_288 := n9_; have NB288_265 := n10_; clear n0_ n1_ n2_ n3_ n4_ n5_ n6_ n7_ n8_ n9_ n10_; clear hb hbox hg; have hnb108 := NB288_259.out; have hnc108 := NB259_288.out; have hnb109 := NB288_265.out; have hnc109 := NB265_288.out; have hcz110_0 : w107.cell? ⟨gb288, 0, none⟩ = some (.int .i64 0) := (blk_cell BK288.out 0).trans rfl; have hcz110_1 : w107.cell? ⟨gb288, 1, none⟩ = some (.string (⟨#[]⟩ : ByteArray)) := (blk_cell BK288.out 1).trans rfl; have hcz110_2 : w107.cell? ⟨gb288, 2, none⟩ = some (.bool false) := (blk_cell BK288.out 2).trans rfl; have hfz110_0 := blk_frozen BK288.out 0; have hfz110_1 := blk_frozen BK288.out 1; have hfz110_2 := blk_frozen BK288.out 2) | ((with_reducible refine gate_callee (f := 18) rfl ?_); refine goesL_ (some 90) rfl rfl Try.func18 (by kernel_rfl) rfl #[.int .i64 t287] rfl (by (try simp only [List.map_toArray, List.map_cons, List.map_nil]); first | done | rfl | (simp only [List.length_drop, List.length_take]; rfl)) ?_; (with_reducible refine (quorumlaw8_num.calls t287 t289 _ A84.out).mono ?_); rintro e w' ⟨rfl, ⟨nd, rfl⟩⟩; refine ⟨_, rfl, ?_⟩))
          ·go_roundg k3
           case measure => have := HK1.out; have := HK2.out; have := HK3.out; omega
           case rel => exact ⟨(wrap64 (x12_3 + 1)), (by first | rfl | (simp; done) | (simp [*]; done)), H', ⟨by have := HK1.out; have := HK2.out; have := HK3.out; omega⟩, ⟨by (with_reducible repeat (first | apply Ra_ | apply Rn_ | apply Rd_)); exact Kd.R_mono (Kd.R_far (p := ⟨gb288, 2, none⟩) (Kd.R_far (p := ⟨gb288, 1, none⟩) (Kd.R_far (p := ⟨gb288, 0, none⟩) (Kd.R_mono HO_266001.out (fun k_ hk => (⟨hk, hk.2⟩ : _ ∧ k_ ≠ gb288))) (fun _ hk => hk.2) (.int .i64 t284)) (fun _ hk => hk.2) (.string t285)) (fun _ hk => hk.2) (.bool t286)) (fun _ hk => trivial)⟩, ⟨by (with_reducible repeat (first | refine bN_ ?_ _ | refine bD_ ?_ | refine bA_ ?_ _)); refine blk_far ?_ NB259_288.out _; (with_reducible repeat (first | refine bN_ ?_ _ | refine bD_ ?_ | refine bA_ ?_ _)); refine blk_far ?_ NB259_288.out _; (with_reducible repeat (first | refine bN_ ?_ _ | refine bD_ ?_ | refine bA_ ?_ _)); refine blk_far ?_ NB259_288.out _; (with_reducible repeat (first | refine bN_ ?_ _ | refine bD_ ?_ | refine bA_ ?_ _)); exact BK259.out⟩, ⟨by (with_reducible repeat (first | refine bN_ ?_ _ | refine bD_ ?_ | refine bA_ ?_ _)); refine blk_far ?_ NB265_288.out _; (with_reducible repeat (first | refine bN_ ?_ _ | refine bD_ ?_ | refine bA_ ?_ _)); refine blk_far ?_ NB265_288.out _; (with_reducible repeat (first | refine bN_ ?_ _ | refine bD_ ?_ | refine bA_ ?_ _)); refine blk_far ?_ NB265_288.out _; (with_reducible repeat (first | refine bN_ ?_ _ | refine bD_ ?_ | refine bA_ ?_ _)); exact BK265.out⟩, ⟨by repeat (first | (with_reducible first | exact HB.out | apply bL_ | apply pN_ | apply b1_ | refine bs_ ?_ GE259.out | refine bs_ ?_ GE265.out | refine bs_ ?_ GE288.out) | exact HB.out)⟩⟩
          ·go_ret
           exact ⟨by first | rfl | (simp [errW_none, errW_some] <;> rfl) | (simp [*, errW_none, errW_some] <;> rfl), by repeat (first | (with_reducible first | exact HB.out | apply bL_ | apply pN_ | apply b1_ | refine bs_ ?_ GE259.out | refine bs_ ?_ GE265.out | refine bs_ ?_ GE288.out) | exact HB.out)⟩
          ·go_ret
           exact ⟨by first | rfl | (simp [errW_none, errW_some] <;> rfl) | (simp [*, errW_none, errW_some] <;> rfl), by repeat (first | (with_reducible first | exact HB.out | apply bL_ | apply pN_ | apply b1_ | refine bs_ ?_ GE259.out | refine bs_ ?_ GE265.out | refine bs_ ?_ GE288.out) | exact HB.out)⟩
       focus
        rw [if_neg c81] at H
        have c81b0 : decide (x11_2 < (2 + ((l0_2.length : Int) % 20))) = false := decide_eq_false c81
        clear c81
        replace H := Option.bind_eq_some_iff.mp H
        obtain ⟨⟨t290, t291, t294⟩, A1110, H⟩ := H
        replace H : ((chain_Count.f k2 t290 t291).bind fun bt296 => ((quorumlaw8_num.f t294).bind fun t298 => (if t298 = 0 then ((quorumlaw8_num.f bt296.2).bind fun t299 => (if t299 = 0 then (if bt296.1 = 1 then ((quorumlaw8_wakes.f k2).bind fun t300 => (some t300)) else (some false)) else (some false))) else (some false)))) = some r := H
        have A111 := mk0 A1110
        clear A1110
        replace H := Option.bind_eq_some_iff.mp H
        obtain ⟨⟨t296, t297⟩, A1120, H⟩ := H
        replace H : ((quorumlaw8_num.f t294).bind fun t298 => (if t298 = 0 then ((quorumlaw8_num.f t297).bind fun t299 => (if t299 = 0 then (if t296 = 1 then ((quorumlaw8_wakes.f k2).bind fun t300 => (some t300)) else (some false)) else (some false))) else (some false))) = some r := H
        have A112 := mk0 A1120
        clear A1120
        replace H := Option.bind_eq_some_iff.mp H
        obtain ⟨t298, A1130, H⟩ := H
        replace H : (if t298 = 0 then ((quorumlaw8_num.f t297).bind fun t299 => (if t299 = 0 then (if t296 = 1 then ((quorumlaw8_wakes.f k2).bind fun t300 => (some t300)) else (some false)) else (some false))) else (some false)) = some r := H
        have A113 := mk0 A1130
        clear A1130
        by_cases c114 : t298 = 0
        focus
         rw [if_pos c114] at H
         have c114b0 : (t298 == 0) = true := beq_iff_eq.mpr c114
         have c114b1 : (t298 != 0) = false := bne_eq_false_iff_eq.mpr c114
         clear c114
         replace H := Option.bind_eq_some_iff.mp H
         obtain ⟨t299, A1150, H⟩ := H
         replace H : (if t299 = 0 then (if t296 = 1 then ((quorumlaw8_wakes.f k2).bind fun t300 => (some t300)) else (some false)) else (some false)) = some r := H
         have A115 := mk0 A1150
         clear A1150
         by_cases c116 : t299 = 0
         focus
          rw [if_pos c116] at H
          have c116b0 : (t299 == 0) = true := beq_iff_eq.mpr c116
          have c116b1 : (t299 != 0) = false := bne_eq_false_iff_eq.mpr c116
          clear c116
          by_cases c117 : t296 = 1
          focus
           rw [if_pos c117] at H
           have c117b0 : (t296 == 1) = true := beq_iff_eq.mpr c117
           have c117b1 : (t296 != 1) = false := bne_eq_false_iff_eq.mpr c117
           clear c117
           replace H := Option.bind_eq_some_iff.mp H
           obtain ⟨t300, A1180, H⟩ := H
           replace H : (some t300) = some r := H
           have A118 := mk0 A1180
           clear A1180
           obtain rfl := Option.some.inj H
           have hnb119 := NB265_259.out
           have hnc119 := NB259_265.out
           have hcz120_0 : wr.cell? ⟨gb265, 0, none⟩ = some (.string x266000_1) := (blk_cell BK265.out 0).trans rfl
           have hcz120_1 : wr.cell? ⟨gb265, 1, none⟩ = some (u266001) := (blk_cell BK265.out 1).trans rfl
           have hfz120_0 := blk_frozen BK265.out 0
           have hfz120_1 := blk_frozen BK265.out 1
           obtain ⟨Ao121, co121, eo121⟩ := Kd.R_slice HO_266001.out
           subst eo121
          rotate_left 1
          focus
           rw [if_neg c117] at H
           have c117b0 : (t296 == 1) = false := beq_eq_false_iff_ne.mpr c117
           have c117b1 : (t296 != 1) = true := bne_iff_ne.mpr c117
           obtain rfl := Option.some.inj H
           have hnb130 := NB265_259.out
           have hnc130 := NB259_265.out
           have hcz131_0 : wr.cell? ⟨gb265, 0, none⟩ = some (.string x266000_1) := (blk_cell BK265.out 0).trans rfl
           have hcz131_1 : wr.cell? ⟨gb265, 1, none⟩ = some (u266001) := (blk_cell BK265.out 1).trans rfl
           have hfz131_0 := blk_frozen BK265.out 0
           have hfz131_1 := blk_frozen BK265.out 1
           obtain ⟨Ao121, co121, eo132⟩ := Kd.R_slice HO_266001.out
           subst eo132
          rotate_right 1
         rotate_left 2
         focus
          rw [if_neg c116] at H
          have c116b0 : (t299 == 0) = false := beq_eq_false_iff_ne.mpr c116
          have c116b1 : (t299 != 0) = true := bne_iff_ne.mpr c116
          obtain rfl := Option.some.inj H
          have hnb140 := NB265_259.out
          have hnc140 := NB259_265.out
          have hcz141_0 : wr.cell? ⟨gb265, 0, none⟩ = some (.string x266000_1) := (blk_cell BK265.out 0).trans rfl
          have hcz141_1 : wr.cell? ⟨gb265, 1, none⟩ = some (u266001) := (blk_cell BK265.out 1).trans rfl
          have hfz141_0 := blk_frozen BK265.out 0
          have hfz141_1 := blk_frozen BK265.out 1
          obtain ⟨Ao121, co121, eo142⟩ := Kd.R_slice HO_266001.out
          subst eo142
         rotate_right 2
        rotate_left 3
        focus
         rw [if_neg c114] at H
         have c114b0 : (t298 == 0) = false := beq_eq_false_iff_ne.mpr c114
         have c114b1 : (t298 != 0) = true := bne_iff_ne.mpr c114
         obtain rfl := Option.some.inj H
         have hnb150 := NB265_259.out
         have hnc150 := NB259_265.out
         have hcz151_0 : wr.cell? ⟨gb265, 0, none⟩ = some (.string x266000_1) := (blk_cell BK265.out 0).trans rfl
         have hcz151_1 : wr.cell? ⟨gb265, 1, none⟩ = some (u266001) := (blk_cell BK265.out 1).trans rfl
         have hfz151_0 := blk_frozen BK265.out 0
         have hfz151_1 := blk_frozen BK265.out 1
         obtain ⟨Ao121, co121, eo152⟩ := Kd.R_slice HO_266001.out
         subst eo152
        rotate_right 3
       all_goals go_wp2_with (first | ((with_reducible refine gate_callee (f := 17) rfl ?_); refine goesL_ (some 104) rfl rfl Try.func17 (by kernel_rfl) rfl #[.agg #[.string x266000_1, .slice Ao121 x266001_1.length co121], .int .i64 (3 * (2 + ((l0_2.length : Int) % 20)))] rfl (by (try simp only [List.map_toArray, List.map_cons, List.map_nil]); first | done | rfl | (simp only [List.length_drop, List.length_take]; rfl)) ?_; (with_reducible refine (chain_Purge.calls k2 x266000_1 _ _ x266001_1 (3 * (2 + ((l0_2.length : Int) % 20))) t290 t291 t294 _ ?side1 ?side2 A111.out).mono ?_); (case side1 => repeat (first | exact (Kd.R_reads' HO_266001.out).2.2 | (with_reducible refine Kd.C_alloc ?_ _) | (with_reducible refine Kd.C_drewN ?_ _) | (with_reducible refine Kd.C_drew ?_))); (case side2 => exact (Kd.R_reads' HO_266001.out).2.1); rintro e w122 ⟨v292, rfl, ho0, hb⟩; refine ⟨_, rfl, ?_⟩; have n0_ := mk0 (Kd.R_elder' (by (with_reducible repeat (first | apply Ra_ | apply Rn_ | apply Rd_)); exact HO_266001.out) (Kd.R_base ho0) hb); have n1_ := mk0 (Kd.R_lower (Kd.R_new' ho0 (Kd.R_lt (by (with_reducible repeat (first | apply Ra_ | apply Rn_ | apply Rd_)); exact HO_266001.out))) (bz_ (by repeat (first | (with_reducible first | exact HB.out | apply bL_ | apply pN_ | apply b1_ | refine bs_ ?_ GE259.out | refine bs_ ?_ GE265.out) | exact HB.out)))); have n2_ := mk0 (blk_below (g := gb259) (o := .cells #[.slice A0_0 l0_0.length c0_0, .slice A0_1 l0_1.length c0_1, .slice A0_2 l0_2.length c0_2, .slice A0_3 l0_3.length c0_3] 27 (0, 0)) (by (with_reducible repeat (first | refine bN_ ?_ _ | refine bD_ ?_ | refine bA_ ?_ _)); exact BK259.out) hb); have n3_ := mk0 (blk_below (g := gb265) (o := .cells #[.string x266000_1, .slice Ao121 x266001_1.length co121] 31 (0, 0)) (by (with_reducible repeat (first | refine bN_ ?_ _ | refine bD_ ?_ | refine bA_ ?_ _)); exact BK265.out) hb); have n4_ := mk0 (bt_ (by repeat (first | (with_reducible first | exact HB.out | apply bL_ | apply pN_ | apply b1_ | refine bs_ ?_ GE259.out | refine bs_ ?_ GE265.out) | exact HB.out)) hb); clear HO_266001; clear BK259; clear BK265; clear HB; have HO_266001 := n0_; have HO293 := n1_; have BK259 := n2_; have BK265 := n3_; have HB := n4_; clear n0_ n1_ n2_ n3_ n4_; (try clear hb); (try clear hb2); (try clear hk); (try clear hi); (try clear ho0)) | ((with_reducible refine gate_dst (N := 15) rfl ?_); refine box_event ?hg (N := 15) ?hd (cs := #[.string (⟨#[]⟩ : ByteArray), .slice none 0 0]) (t := 31) ?hr ?_; (case hd => rfl); (case hg => rfl); (case hr => first | (go_simp; done) | (go_simp; rfl)); intro gb295 hg w123 hbox hb; have n0_ := mk0 (Kd.R_below (by (with_reducible repeat (first | apply Ra_ | apply Rn_ | apply Rd_)); exact HO_266001.out) hb); have n1_ := mk0 (Kd.R_below (by (with_reducible repeat (first | apply Ra_ | apply Rn_ | apply Rd_)); exact HO293.out) hb); have n2_ := mk0 (blk_below (g := gb259) (o := .cells #[.slice A0_0 l0_0.length c0_0, .slice A0_1 l0_1.length c0_1, .slice A0_2 l0_2.length c0_2, .slice A0_3 l0_3.length c0_3] 27 (0, 0)) (by (with_reducible repeat (first | refine bN_ ?_ _ | refine bD_ ?_ | refine bA_ ?_ _)); exact BK259.out) hb); have n3_ := mk0 (blk_below (g := gb265) (o := .cells #[.string x266000_1, .slice Ao121 x266001_1.length co121] 31 (0, 0)) (by (with_reducible repeat (first | refine bN_ ?_ _ | refine bD_ ?_ | refine bA_ ?_ _)); exact BK265.out) hb); have n4_ := mk0 (bt_ (by repeat (first | (with_reducible first | exact HB.out | apply bL_ | apply pN_ | apply b1_ | refine bs_ ?_ GE259.out | refine bs_ ?_ GE265.out) | exact HB.out)) hb); have n5_ := mk0 (hbox); have n6_ := mk0 ((by rw [hg]; exact (bz_ (by repeat (first | (with_reducible first | exact HB.out | apply bL_ | apply pN_ | apply b1_ | refine bs_ ?_ GE259.out | refine bs_ ?_ GE265.out) | exact HB.out))) : w.heap.size ≤ gb295)); have n7_ := mk0 ((by rw [hg]; exact (bz_ (by repeat (first | (with_reducible first | exact HB.out | apply bL_ | apply pN_ | apply b1_ | refine bs_ ?_ GE259.out | refine bs_ ?_ GE265.out) | exact HB.out))) : w.heap.size ≤ gb295)); have n8_ := mk0 ((by rw [hg]; exact Nat.ne_of_lt (blk_lt (g := gb259) (o := .cells #[.slice A0_0 l0_0.length c0_0, .slice A0_1 l0_1.length c0_1, .slice A0_2 l0_2.length c0_2, .slice A0_3 l0_3.length c0_3] 27 (0, 0)) (by (with_reducible repeat (first | refine bN_ ?_ _ | refine bD_ ?_ | refine bA_ ?_ _)); exact BK259.out)) : gb259 ≠ gb295)); have n9_ := mk0 ((by rw [hg]; exact Nat.ne_of_gt (blk_lt (g := gb259) (o := .cells #[.slice A0_0 l0_0.length c0_0, .slice A0_1 l0_1.length c0_1, .slice A0_2 l0_2.length c0_2, .slice A0_3 l0_3.length c0_3] 27 (0, 0)) (by (with_reducible repeat (first | refine bN_ ?_ _ | refine bD_ ?_ | refine bA_ ?_ _)); exact BK259.out)) : gb295 ≠ gb259)); have n10_ := mk0 ((by rw [hg]; exact Nat.ne_of_lt (blk_lt (g := gb265) (o := .cells #[.string x266000_1, .slice Ao121 x266001_1.length co121] 31 (0, 0)) (by (with_reducible repeat (first | refine bN_ ?_ _ | refine bD_ ?_ | refine bA_ ?_ _)); exact BK265.out)) : gb265 ≠ gb295)); have n11_ := mk0 ((by rw [hg]; exact Nat.ne_of_gt (blk_lt (g := gb265) (o := .cells #[.string x266000_1, .slice Ao121 x266001_1.length co121] 31 (0, 0)) (by (with_reducible repeat (first | refine bN_ ?_ _ | refine bD_ ?_ | refine bA_ ?_ _)); exact BK265.out)) : gb295 ≠ gb265)); clear HO_266001; clear HO293; clear BK259; clear BK265; clear HB; have HO_266001 := n0_; have HO293 := n1_; have BK259 := n2_; have BK265 := n3_; have HB := n4_; have BK295 := n5_; have GW295 := n6_; have GE295 := n7_; have NB259_295 := n8_; have NB295_259 := n9_; have NB265_295 := n10_; have NB295_265 := n11_; clear n0_ n1_ n2_ n3_ n4_ n5_ n6_ n7_ n8_ n9_ n10_ n11_; clear hb hbox hg; have hnb124 := NB295_259.out; have hnc124 := NB259_295.out; have hnb125 := NB295_265.out; have hnc125 := NB265_295.out; have hcz126_0 : w123.cell? ⟨gb295, 0, none⟩ = some (.string (⟨#[]⟩ : ByteArray)) := (blk_cell BK295.out 0).trans rfl; have hcz126_1 : w123.cell? ⟨gb295, 1, none⟩ = some (.slice none 0 0) := (blk_cell BK295.out 1).trans rfl; have hfz126_0 := blk_frozen BK295.out 0; have hfz126_1 := blk_frozen BK295.out 1; obtain ⟨Ao127, co127, eo127⟩ := Kd.R_slice HO293.out; subst eo127) | ((with_reducible refine gate_callee (f := 40) rfl ?_); refine goesL_ (some 109) rfl rfl Try.func40 (by kernel_rfl) rfl #[.agg #[.string t290, .slice Ao127 t291.length co127]] rfl (by (try simp only [List.map_toArray, List.map_cons, List.map_nil]); first | done | rfl | (simp only [List.length_drop, List.length_take]; rfl)) ?_; (with_reducible refine (chain_Count.calls k2 t290 _ _ t291 t296 t297 _ ?side1 ?side2 A112.out).mono ?_); (case side1 => refine (Kd.R_reads' (e := 37) (base := w.heap.size) (ok := fun k_ => (True ∧ some k_ ≠ (.slice Ao121 x266001_1.length co121 : Value).ownBlock)) (n := t291.length) (c := co127) ?_).2.2; exact (by (with_reducible repeat (first | apply Ra_ | apply Rn_ | apply Rd_)); exact (Kd.R_mono (Kd.R_far (p := ⟨gb295, 1, none⟩) (Kd.R_far (p := ⟨gb295, 0, none⟩) (Kd.R_types HO293.out BK295.out (by decide)) (fun _ hk => hk.2) (.string t290)) (fun _ hk => hk.2) (.slice Ao127 t291.length co127)) (fun _ h_ => h_.1)))); (case side2 => exact (Kd.R_reads' HO293.out).2.1); rintro e w128 ⟨rfl, hb⟩; refine ⟨_, rfl, ?_⟩; have n0_ := mk0 (Kd.R_below (by (with_reducible repeat (first | apply Ra_ | apply Rn_ | apply Rd_)); exact (Kd.R_mono (Kd.R_far (p := ⟨gb295, 1, none⟩) (Kd.R_far (p := ⟨gb295, 0, none⟩) (Kd.R_types HO_266001.out BK295.out (by decide)) (fun _ hk => hk.2) (.string t290)) (fun _ hk => hk.2) (.slice Ao127 t291.length co127)) (fun _ h_ => h_.1))) hb); have n1_ := mk0 (Kd.R_below (by (with_reducible repeat (first | apply Ra_ | apply Rn_ | apply Rd_)); exact (Kd.R_mono (Kd.R_far (p := ⟨gb295, 1, none⟩) (Kd.R_far (p := ⟨gb295, 0, none⟩) (Kd.R_types HO293.out BK295.out (by decide)) (fun _ hk => hk.2) (.string t290)) (fun _ hk => hk.2) (.slice Ao127 t291.length co127)) (fun _ h_ => h_.1))) hb); have n2_ := mk0 (blk_below (g := gb259) (o := .cells #[.slice A0_0 l0_0.length c0_0, .slice A0_1 l0_1.length c0_1, .slice A0_2 l0_2.length c0_2, .slice A0_3 l0_3.length c0_3] 27 (0, 0)) (by (with_reducible repeat (first | refine bN_ ?_ _ | refine bD_ ?_ | refine bA_ ?_ _)); refine blk_far ?_ NB259_295.out _; (with_reducible repeat (first | refine bN_ ?_ _ | refine bD_ ?_ | refine bA_ ?_ _)); refine blk_far ?_ NB259_295.out _; (with_reducible repeat (first | refine bN_ ?_ _ | refine bD_ ?_ | refine bA_ ?_ _)); exact BK259.out) hb); have n3_ := mk0 (blk_below (g := gb265) (o := .cells #[.string x266000_1, .slice Ao121 x266001_1.length co121] 31 (0, 0)) (by (with_reducible repeat (first | refine bN_ ?_ _ | refine bD_ ?_ | refine bA_ ?_ _)); refine blk_far ?_ NB265_295.out _; (with_reducible repeat (first | refine bN_ ?_ _ | refine bD_ ?_ | refine bA_ ?_ _)); refine blk_far ?_ NB265_295.out _; (with_reducible repeat (first | refine bN_ ?_ _ | refine bD_ ?_ | refine bA_ ?_ _)); exact BK265.out) hb); have n4_ := mk0 (blk_below (g := gb295) (o := .cells #[.string t290, .slice Ao127 t291.length co127] 31 (0, 0)) (by (with_reducible repeat (first | refine bN_ ?_ _ | refine bD_ ?_ | refine bA_ ?_ _)); refine blk_put (cs := #[.string t290, .slice none 0 0]) ?_ 1 _ rfl; (with_reducible repeat (first | refine bN_ ?_ _ | refine bD_ ?_ | refine bA_ ?_ _)); refine blk_put (cs := #[.string (⟨#[]⟩ : ByteArray), .slice none 0 0]) ?_ 0 _ rfl; (with_reducible repeat (first | refine bN_ ?_ _ | refine bD_ ?_ | refine bA_ ?_ _)); exact BK295.out) hb); have n5_ := mk0 (bt_ (by repeat (first | (with_reducible first | exact HB.out | apply bL_ | apply pN_ | apply b1_ | refine bs_ ?_ GE259.out | refine bs_ ?_ GE265.out | refine bs_ ?_ GE295.out) | exact HB.out)) hb); clear HO_266001; clear HO293; clear BK259; clear BK265; clear BK295; clear HB; have HO_266001 := n0_; have HO293 := n1_; have BK259 := n2_; have BK265 := n3_; have BK295 := n4_; have HB := n5_; clear n0_ n1_ n2_ n3_ n4_ n5_; (try clear hb); (try clear hb2); (try clear hk); (try clear hi)) | ((with_reducible refine gate_callee (f := 18) rfl ?_); refine goesL_ (some 113) rfl rfl Try.func18 (by kernel_rfl) rfl #[.int .i64 t294] rfl (by (try simp only [List.map_toArray, List.map_cons, List.map_nil]); first | done | rfl | (simp only [List.length_drop, List.length_take]; rfl)) ?_; (with_reducible refine (quorumlaw8_num.calls t294 t298 _ A113.out).mono ?_); rintro e w' ⟨rfl, ⟨nd, rfl⟩⟩; refine ⟨_, rfl, ?_⟩) | (go_at_call 18; (with_reducible refine (quorumlaw8_num.calls t297 t299 _ A115.out).mono ?_); rintro e w' ⟨rfl, ⟨nd, rfl⟩⟩) | (go_at_call 21; (with_reducible refine (quorumlaw8_wakes.calls k2  t300 _ A118.out).mono ?_); rintro e w129 ⟨rfl, hb⟩; have n0_ := mk0 (Kd.R_below (by (with_reducible repeat (first | apply Ra_ | apply Rn_ | apply Rd_)); exact HO_266001.out) hb); have n1_ := mk0 (Kd.R_below (by (with_reducible repeat (first | apply Ra_ | apply Rn_ | apply Rd_)); exact HO293.out) hb); have n2_ := mk0 (blk_below (g := gb259) (o := .cells #[.slice A0_0 l0_0.length c0_0, .slice A0_1 l0_1.length c0_1, .slice A0_2 l0_2.length c0_2, .slice A0_3 l0_3.length c0_3] 27 (0, 0)) (by (with_reducible repeat (first | refine bN_ ?_ _ | refine bD_ ?_ | refine bA_ ?_ _)); exact BK259.out) hb); have n3_ := mk0 (blk_below (g := gb265) (o := .cells #[.string x266000_1, .slice Ao121 x266001_1.length co121] 31 (0, 0)) (by (with_reducible repeat (first | refine bN_ ?_ _ | refine bD_ ?_ | refine bA_ ?_ _)); exact BK265.out) hb); have n4_ := mk0 (blk_below (g := gb295) (o := .cells #[.string t290, .slice Ao127 t291.length co127] 31 (0, 0)) (by (with_reducible repeat (first | refine bN_ ?_ _ | refine bD_ ?_ | refine bA_ ?_ _)); exact BK295.out) hb); have n5_ := mk0 (bt_ (by repeat (first | (with_reducible first | exact HB.out | apply bL_ | apply pN_ | apply b1_ | refine bs_ ?_ GE259.out | refine bs_ ?_ GE265.out | refine bs_ ?_ GE295.out) | exact HB.out)) hb); clear HO_266001; clear HO293; clear BK259; clear BK265; clear BK295; clear HB; have HO_266001 := n0_; have HO293 := n1_; have BK259 := n2_; have BK265 := n3_; have BK295 := n4_; have HB := n5_; clear n0_ n1_ n2_ n3_ n4_ n5_; (try clear hb); (try clear hb2); (try clear hk); (try clear hi)) | ((with_reducible refine gate_callee (f := 18) rfl ?_); refine goesL_ (some 113) rfl rfl Try.func18 (by kernel_rfl) rfl #[.int .i64 t294] rfl (by (try simp only [List.map_toArray, List.map_cons, List.map_nil]); first | done | rfl | (simp only [List.length_drop, List.length_take]; rfl)) ?_; (with_reducible refine (quorumlaw8_num.calls t294 t298 _ A113.out).mono ?_); rintro e w' ⟨rfl, ⟨nd, rfl⟩⟩; refine ⟨_, rfl, ?_⟩) | (go_at_call 18; (with_reducible refine (quorumlaw8_num.calls t297 t299 _ A115.out).mono ?_); rintro e w' ⟨rfl, ⟨nd, rfl⟩⟩) | ((with_reducible refine gate_callee (f := 18) rfl ?_); refine goesL_ (some 113) rfl rfl Try.func18 (by kernel_rfl) rfl #[.int .i64 t294] rfl (by (try simp only [List.map_toArray, List.map_cons, List.map_nil]); first | done | rfl | (simp only [List.length_drop, List.length_take]; rfl)) ?_; (with_reducible refine (quorumlaw8_num.calls t294 t298 _ A113.out).mono ?_); rintro e w' ⟨rfl, ⟨nd, rfl⟩⟩; refine ⟨_, rfl, ?_⟩))
       ·go_ret
        exact ⟨by first | rfl | (simp [errW_none, errW_some] <;> rfl) | (simp [*, errW_none, errW_some] <;> rfl), by repeat (first | (with_reducible first | exact HB.out | apply bL_ | apply pN_ | apply b1_ | refine bs_ ?_ GE259.out | refine bs_ ?_ GE265.out | refine bs_ ?_ GE295.out) | exact HB.out)⟩
       ·go_ret
        exact ⟨by first | rfl | (simp [errW_none, errW_some] <;> rfl) | (simp [*, errW_none, errW_some] <;> rfl), by repeat (first | (with_reducible first | exact HB.out | apply bL_ | apply pN_ | apply b1_ | refine bs_ ?_ GE259.out | refine bs_ ?_ GE265.out | refine bs_ ?_ GE295.out) | exact HB.out)⟩
       ·go_ret
        exact ⟨by first | rfl | (simp [errW_none, errW_some] <;> rfl) | (simp [*, errW_none, errW_some] <;> rfl), by repeat (first | (with_reducible first | exact HB.out | apply bL_ | apply pN_ | apply b1_ | refine bs_ ?_ GE259.out | refine bs_ ?_ GE265.out | refine bs_ ?_ GE295.out) | exact HB.out)⟩
       ·go_ret
        exact ⟨by first | rfl | (simp [errW_none, errW_some] <;> rfl) | (simp [*, errW_none, errW_some] <;> rfl), by repeat (first | (with_reducible first | exact HB.out | apply bL_ | apply pN_ | apply b1_ | refine bs_ ?_ GE259.out | refine bs_ ?_ GE265.out | refine bs_ ?_ GE295.out) | exact HB.out)⟩
    all_goals go_wp2_with (first | ((with_reducible refine gate_dst (N := 45) rfl ?_); refine Kd.R_lit (Kd.int .u8) _ 5 ?hg (N := 45) ?hd (xs := ([(wrap64 (97 + x6_1)) % 256] : List Int)) (inner := [.int .u8 ((wrap64 (97 + x6_1)) % 256)]) (ok := fun _ => True) (okp := fun _ => True) ?hr ?hp (fun _ hk => hk) trivial (Below.refl _ _) (Nat.le_refl _) (by simp) ?_; (case hd => rfl); (case hg => rfl); (case hr => first | (go_simp; done) | (go_simp; rfl)); (case hp => exact (Reps.one (show Kd.M (Kd.int .u8) _ _ _ ((wrap64 (97 + x6_1)) % 256) [.int .u8 ((wrap64 (97 + x6_1)) % 256)] from rfl) (Reps.none _ _))); intro v268 w21 ho22 hb hg_ hnew_; clear hg_ hnew_; (first | rw [← Ny267.out] at ho22 | (simp only [Int.reduceToNat] at ho22; rw [← Ny267.out] at ho22)); have n0_ := mk0 (Kd.R_below (by (with_reducible repeat (first | apply Ra_ | apply Rn_ | apply Rd_)); exact HO_266001.out) hb); have n1_ := mk0 (Kd.R_lower ho22 (bz_ (by repeat (first | (with_reducible first | exact HB.out | apply bL_ | apply pN_ | apply b1_ | refine bs_ ?_ GE259.out | refine bs_ ?_ GE265.out) | exact HB.out)))); have n2_ := mk0 (blk_below (g := gb259) (o := .cells #[.slice A0_0 l0_0.length c0_0, .slice A0_1 l0_1.length c0_1, .slice A0_2 l0_2.length c0_2, .slice A0_3 l0_3.length c0_3] 27 (0, 0)) (by (with_reducible repeat (first | refine bN_ ?_ _ | refine bD_ ?_ | refine bA_ ?_ _)); exact BK259.out) hb); have n3_ := mk0 (blk_below (g := gb265) (o := .cells #[.string x266000_1, u266001] 31 (0, 0)) (by (with_reducible repeat (first | refine bN_ ?_ _ | refine bD_ ?_ | refine bA_ ?_ _)); exact BK265.out) hb); have n4_ := mk0 (bt_ (by repeat (first | (with_reducible first | exact HB.out | apply bL_ | apply pN_ | apply b1_ | refine bs_ ?_ GE259.out | refine bs_ ?_ GE265.out) | exact HB.out)) hb); clear HO_266001; clear BK259; clear BK265; clear HB; have HO_266001 := n0_; have HO269 := n1_; have BK259 := n2_; have BK265 := n3_; have HB := n4_; clear n0_ n1_ n2_ n3_ n4_; clear hb ho22; have hcv23 := own_string (P := Try.prog) Try.underlying80 Try.underlying5 Try.underlying9 (Kd.own_of_R HO269.out); obtain ⟨Ao24, co24, eo24⟩ := Kd.R_slice HO_266001.out; subst eo24) | ((with_reducible refine gate_callee (f := 39) rfl ?_); refine goesL_ (some 48) rfl rfl Try.func39 (by kernel_rfl) rfl #[.agg #[.string x266000_1, .slice Ao24 x266001_1.length co24], .agg #[.int .i64 (wrap64 (1 + (wrap64 (3 * x6_1)))), .string (strOfNums y267), .bool false]] rfl (by (try simp only [List.map_toArray, List.map_cons, List.map_nil]); first | done | rfl | (simp only [List.length_drop, List.length_take]; rfl)) ?_; (with_reducible refine (chain_Add.calls k1 x266000_1 _ _ x266001_1 (wrap64 (1 + (wrap64 (3 * x6_1)))) (strOfNums y267) false t270 t271 t274 _ ?side1 ?side2 A13.out).mono ?_); (case side1 => repeat (first | exact (Kd.R_reads' HO_266001.out).2.2 | (with_reducible refine Kd.C_alloc ?_ _) | (with_reducible refine Kd.C_drewN ?_ _) | (with_reducible refine Kd.C_drew ?_))); (case side2 => exact (Kd.R_reads' HO_266001.out).2.1); rintro e w25 ⟨v272, rfl, ho0, hb⟩; refine ⟨_, rfl, ?_⟩; have n0_ := mk0 (Kd.R_elder' (by (with_reducible repeat (first | apply Ra_ | apply Rn_ | apply Rd_)); exact HO_266001.out) (Kd.R_base ho0) hb); have n1_ := mk0 (Kd.R_below (by (with_reducible repeat (first | apply Ra_ | apply Rn_ | apply Rd_)); exact HO269.out) hb); have n2_ := mk0 (Kd.R_lower (Kd.R_new' ho0 (Kd.R_lt (by (with_reducible repeat (first | apply Ra_ | apply Rn_ | apply Rd_)); exact HO_266001.out))) (bz_ (by repeat (first | (with_reducible first | exact HB.out | apply bL_ | apply pN_ | apply b1_ | refine bs_ ?_ GE259.out | refine bs_ ?_ GE265.out) | exact HB.out)))); have n3_ := mk0 (blk_below (g := gb259) (o := .cells #[.slice A0_0 l0_0.length c0_0, .slice A0_1 l0_1.length c0_1, .slice A0_2 l0_2.length c0_2, .slice A0_3 l0_3.length c0_3] 27 (0, 0)) (by (with_reducible repeat (first | refine bN_ ?_ _ | refine bD_ ?_ | refine bA_ ?_ _)); exact BK259.out) hb); have n4_ := mk0 (blk_below (g := gb265) (o := .cells #[.string x266000_1, .slice Ao24 x266001_1.length co24] 31 (0, 0)) (by (with_reducible repeat (first | refine bN_ ?_ _ | refine bD_ ?_ | refine bA_ ?_ _)); exact BK265.out) hb); have n5_ := mk0 (bt_ (by repeat (first | (with_reducible first | exact HB.out | apply bL_ | apply pN_ | apply b1_ | refine bs_ ?_ GE259.out | refine bs_ ?_ GE265.out) | exact HB.out)) hb); clear HO_266001; clear HO269; clear BK259; clear BK265; clear HB; have HO_266001 := n0_; have HO269 := n1_; have HO273 := n2_; have BK259 := n3_; have BK265 := n4_; have HB := n5_; clear n0_ n1_ n2_ n3_ n4_ n5_; (try clear hb); (try clear hb2); (try clear hk); (try clear hi); (try clear ho0)) | ((with_reducible refine gate_dst (N := 7) rfl ?_); refine box_event ?hg (N := 7) ?hd (cs := #[.string (⟨#[]⟩ : ByteArray), .slice none 0 0]) (t := 31) ?hr ?_; (case hd => rfl); (case hg => rfl); (case hr => first | (go_simp; done) | (go_simp; rfl)); intro gb275 hg w26 hbox hb; have n0_ := mk0 (Kd.R_below (by (with_reducible repeat (first | apply Ra_ | apply Rn_ | apply Rd_)); exact HO_266001.out) hb); have n1_ := mk0 (Kd.R_below (by (with_reducible repeat (first | apply Ra_ | apply Rn_ | apply Rd_)); exact HO269.out) hb); have n2_ := mk0 (Kd.R_below (by (with_reducible repeat (first | apply Ra_ | apply Rn_ | apply Rd_)); exact HO273.out) hb); have n3_ := mk0 (blk_below (g := gb259) (o := .cells #[.slice A0_0 l0_0.length c0_0, .slice A0_1 l0_1.length c0_1, .slice A0_2 l0_2.length c0_2, .slice A0_3 l0_3.length c0_3] 27 (0, 0)) (by (with_reducible repeat (first | refine bN_ ?_ _ | refine bD_ ?_ | refine bA_ ?_ _)); exact BK259.out) hb); have n4_ := mk0 (blk_below (g := gb265) (o := .cells #[.string x266000_1, .slice Ao24 x266001_1.length co24] 31 (0, 0)) (by (with_reducible repeat (first | refine bN_ ?_ _ | refine bD_ ?_ | refine bA_ ?_ _)); exact BK265.out) hb); have n5_ := mk0 (bt_ (by repeat (first | (with_reducible first | exact HB.out | apply bL_ | apply pN_ | apply b1_ | refine bs_ ?_ GE259.out | refine bs_ ?_ GE265.out) | exact HB.out)) hb); have n6_ := mk0 (hbox); have n7_ := mk0 ((by rw [hg]; exact (bz_ (by repeat (first | (with_reducible first | exact HB.out | apply bL_ | apply pN_ | apply b1_ | refine bs_ ?_ GE259.out | refine bs_ ?_ GE265.out) | exact HB.out))) : w.heap.size ≤ gb275)); have n8_ := mk0 ((by rw [hg]; exact (bz_ (by repeat (first | (with_reducible first | exact HB.out | apply bL_ | apply pN_ | apply b1_ | refine bs_ ?_ GE259.out | refine bs_ ?_ GE265.out) | exact HB.out))) : w.heap.size ≤ gb275)); have n9_ := mk0 ((by rw [hg]; exact Nat.ne_of_lt (blk_lt (g := gb259) (o := .cells #[.slice A0_0 l0_0.length c0_0, .slice A0_1 l0_1.length c0_1, .slice A0_2 l0_2.length c0_2, .slice A0_3 l0_3.length c0_3] 27 (0, 0)) (by (with_reducible repeat (first | refine bN_ ?_ _ | refine bD_ ?_ | refine bA_ ?_ _)); exact BK259.out)) : gb259 ≠ gb275)); have n10_ := mk0 ((by rw [hg]; exact Nat.ne_of_gt (blk_lt (g := gb259) (o := .cells #[.slice A0_0 l0_0.length c0_0, .slice A0_1 l0_1.length c0_1, .slice A0_2 l0_2.length c0_2, .slice A0_3 l0_3.length c0_3] 27 (0, 0)) (by (with_reducible repeat (first | refine bN_ ?_ _ | refine bD_ ?_ | refine bA_ ?_ _)); exact BK259.out)) : gb275 ≠ gb259)); have n11_ := mk0 ((by rw [hg]; exact Nat.ne_of_lt (blk_lt (g := gb265) (o := .cells #[.string x266000_1, .slice Ao24 x266001_1.length co24] 31 (0, 0)) (by (with_reducible repeat (first | refine bN_ ?_ _ | refine bD_ ?_ | refine bA_ ?_ _)); exact BK265.out)) : gb265 ≠ gb275)); have n12_ := mk0 ((by rw [hg]; exact Nat.ne_of_gt (blk_lt (g := gb265) (o := .cells #[.string x266000_1, .slice Ao24 x266001_1.length co24] 31 (0, 0)) (by (with_reducible repeat (first | refine bN_ ?_ _ | refine bD_ ?_ | refine bA_ ?_ _)); exact BK265.out)) : gb275 ≠ gb265)); clear HO_266001; clear HO269; clear HO273; clear BK259; clear BK265; clear HB; have HO_266001 := n0_; have HO269 := n1_; have HO273 := n2_; have BK259 := n3_; have BK265 := n4_; have HB := n5_; have BK275 := n6_; have GW275 := n7_; have GE275 := n8_; have NB259_275 := n9_; have NB275_259 := n10_; have NB265_275 := n11_; have NB275_265 := n12_; clear n0_ n1_ n2_ n3_ n4_ n5_ n6_ n7_ n8_ n9_ n10_ n11_ n12_; clear hb hbox hg; have hnb27 := NB275_259.out; have hnc27 := NB259_275.out; have hnb28 := NB275_265.out; have hnc28 := NB265_275.out; have hcz29_0 : w26.cell? ⟨gb275, 0, none⟩ = some (.string (⟨#[]⟩ : ByteArray)) := (blk_cell BK275.out 0).trans rfl; have hcz29_1 : w26.cell? ⟨gb275, 1, none⟩ = some (.slice none 0 0) := (blk_cell BK275.out 1).trans rfl; have hfz29_0 := blk_frozen BK275.out 0; have hfz29_1 := blk_frozen BK275.out 1; obtain ⟨Ao30, co30, eo30⟩ := Kd.R_slice HO273.out; subst eo30; have hcz31_0 : w26.cell? ⟨gb265, 0, none⟩ = some (.string x266000_1) := (blk_cell BK265.out 0).trans rfl; have hcz31_1 : w26.cell? ⟨gb265, 1, none⟩ = some (.slice Ao24 x266001_1.length co24) := (blk_cell BK265.out 1).trans rfl; have hfz31_0 := blk_frozen BK265.out 0; have hfz31_1 := blk_frozen BK265.out 1) | ((with_reducible refine gate_callee (f := 39) rfl ?_); refine goesL_ (some 58) rfl rfl Try.func39 (by kernel_rfl) rfl #[.agg #[.string x266000_1, .slice Ao24 x266001_1.length co24], .agg #[.int .i64 (wrap64 (1 + (wrap64 (3 * (wrap64 (x6_1 - 1)))))), .string (⟨#[120]⟩ : ByteArray), .bool false]] rfl (by (try simp only [List.map_toArray, List.map_cons, List.map_nil]); first | done | rfl | (simp only [List.length_drop, List.length_take]; rfl)) ?_; (with_reducible refine (chain_Add.calls k1 x266000_1 _ _ x266001_1 (wrap64 (1 + (wrap64 (3 * (wrap64 (x6_1 - 1)))))) (⟨#[120]⟩ : ByteArray) false t276 t277 t280 _ ?side1 ?side2 A14.out).mono ?_); (case side1 => refine (Kd.R_reads' (e := 37) (base := w.heap.size) (ok := fun k_ => (True ∧ some k_ ≠ (.slice Ao30 t271.length co30 : Value).ownBlock)) (n := x266001_1.length) (c := co24) ?_).2.2; exact (by (with_reducible repeat (first | apply Ra_ | apply Rn_ | apply Rd_)); exact (Kd.R_mono (Kd.R_far (p := ⟨gb275, 1, none⟩) (Kd.R_far (p := ⟨gb275, 0, none⟩) (Kd.R_types HO_266001.out BK275.out (by decide)) (fun _ hk => hk.2) (.string t270)) (fun _ hk => hk.2) (.slice Ao30 t271.length co30)) (fun _ h_ => h_.1)))); (case side2 => exact (Kd.R_reads' HO_266001.out).2.1); rintro e w32 ⟨v278, rfl, ho0, hb⟩; refine ⟨_, rfl, ?_⟩; have n0_ := mk0 (Kd.R_elder' (by (with_reducible repeat (first | apply Ra_ | apply Rn_ | apply Rd_)); exact (Kd.R_mono (Kd.R_far (p := ⟨gb275, 1, none⟩) (Kd.R_far (p := ⟨gb275, 0, none⟩) (Kd.R_types HO_266001.out BK275.out (by decide)) (fun _ hk => hk.2) (.string t270)) (fun _ hk => hk.2) (.slice Ao30 t271.length co30)) (fun _ h_ => h_.1))) (Kd.R_base ho0) hb); have n1_ := mk0 (Kd.R_below (by (with_reducible repeat (first | apply Ra_ | apply Rn_ | apply Rd_)); exact (Kd.R_mono (Kd.R_far (p := ⟨gb275, 1, none⟩) (Kd.R_far (p := ⟨gb275, 0, none⟩) (Kd.R_types HO269.out BK275.out (by decide)) (fun _ hk => hk.2) (.string t270)) (fun _ hk => hk.2) (.slice Ao30 t271.length co30)) (fun _ h_ => h_.1))) hb); have n2_ := mk0 (Kd.R_elder' (by (with_reducible repeat (first | apply Ra_ | apply Rn_ | apply Rd_)); exact (Kd.R_mono (Kd.R_far (p := ⟨gb275, 1, none⟩) (Kd.R_far (p := ⟨gb275, 0, none⟩) (Kd.R_types HO273.out BK275.out (by decide)) (fun _ hk => hk.2) (.string t270)) (fun _ hk => hk.2) (.slice Ao30 t271.length co30)) (fun _ h_ => h_.1))) (Kd.R_base ho0) hb); have n3_ := mk0 (Kd.R_lower (Kd.R_new' (Kd.R_new' ho0 (Kd.R_lt (by (with_reducible repeat (first | apply Ra_ | apply Rn_ | apply Rd_)); exact (Kd.R_mono (Kd.R_far (p := ⟨gb275, 1, none⟩) (Kd.R_far (p := ⟨gb275, 0, none⟩) (Kd.R_types HO_266001.out BK275.out (by decide)) (fun _ hk => hk.2) (.string t270)) (fun _ hk => hk.2) (.slice Ao30 t271.length co30)) (fun _ h_ => h_.1))))) (Kd.R_lt (by (with_reducible repeat (first | apply Ra_ | apply Rn_ | apply Rd_)); exact (Kd.R_mono (Kd.R_far (p := ⟨gb275, 1, none⟩) (Kd.R_far (p := ⟨gb275, 0, none⟩) (Kd.R_types HO273.out BK275.out (by decide)) (fun _ hk => hk.2) (.string t270)) (fun _ hk => hk.2) (.slice Ao30 t271.length co30)) (fun _ h_ => h_.1))))) (bz_ (by repeat (first | (with_reducible first | exact HB.out | apply bL_ | apply pN_ | apply b1_ | refine bs_ ?_ GE259.out | refine bs_ ?_ GE265.out | refine bs_ ?_ GE275.out) | exact HB.out)))); have n4_ := mk0 (blk_below (g := gb259) (o := .cells #[.slice A0_0 l0_0.length c0_0, .slice A0_1 l0_1.length c0_1, .slice A0_2 l0_2.length c0_2, .slice A0_3 l0_3.length c0_3] 27 (0, 0)) (by (with_reducible repeat (first | refine bN_ ?_ _ | refine bD_ ?_ | refine bA_ ?_ _)); refine blk_far ?_ NB259_275.out _; (with_reducible repeat (first | refine bN_ ?_ _ | refine bD_ ?_ | refine bA_ ?_ _)); refine blk_far ?_ NB259_275.out _; (with_reducible repeat (first | refine bN_ ?_ _ | refine bD_ ?_ | refine bA_ ?_ _)); exact BK259.out) hb); have n5_ := mk0 (blk_below (g := gb265) (o := .cells #[.string x266000_1, .slice Ao24 x266001_1.length co24] 31 (0, 0)) (by (with_reducible repeat (first | refine bN_ ?_ _ | refine bD_ ?_ | refine bA_ ?_ _)); refine blk_far ?_ NB265_275.out _; (with_reducible repeat (first | refine bN_ ?_ _ | refine bD_ ?_ | refine bA_ ?_ _)); refine blk_far ?_ NB265_275.out _; (with_reducible repeat (first | refine bN_ ?_ _ | refine bD_ ?_ | refine bA_ ?_ _)); exact BK265.out) hb); have n6_ := mk0 (blk_below (g := gb275) (o := .cells #[.string t270, .slice Ao30 t271.length co30] 31 (0, 0)) (by (with_reducible repeat (first | refine bN_ ?_ _ | refine bD_ ?_ | refine bA_ ?_ _)); refine blk_put (cs := #[.string t270, .slice none 0 0]) ?_ 1 _ rfl; (with_reducible repeat (first | refine bN_ ?_ _ | refine bD_ ?_ | refine bA_ ?_ _)); refine blk_put (cs := #[.string (⟨#[]⟩ : ByteArray), .slice none 0 0]) ?_ 0 _ rfl; (with_reducible repeat (first | refine bN_ ?_ _ | refine bD_ ?_ | refine bA_ ?_ _)); exact BK275.out) hb); have n7_ := mk0 (bt_ (by repeat (first | (with_reducible first | exact HB.out | apply bL_ | apply pN_ | apply b1_ | refine bs_ ?_ GE259.out | refine bs_ ?_ GE265.out | refine bs_ ?_ GE275.out) | exact HB.out)) hb); clear HO_266001; clear HO269; clear HO273; clear BK259; clear BK265; clear BK275; clear HB; have HO_266001 := n0_; have HO269 := n1_; have HO273 := n2_; have HO279 := n3_; have BK259 := n4_; have BK265 := n5_; have BK275 := n6_; have HB := n7_; clear n0_ n1_ n2_ n3_ n4_ n5_ n6_ n7_; (try clear hb); (try clear hb2); (try clear hk); (try clear hi); (try clear ho0)) | ((with_reducible refine gate_dst (N := 9) rfl ?_); refine box_event ?hg (N := 9) ?hd (cs := #[.string (⟨#[]⟩ : ByteArray), .slice none 0 0]) (t := 31) ?hr ?_; (case hd => rfl); (case hg => rfl); (case hr => first | (go_simp; done) | (go_simp; rfl)); intro gb281 hg w33 hbox hb; have n0_ := mk0 (Kd.R_below (by (with_reducible repeat (first | apply Ra_ | apply Rn_ | apply Rd_)); exact HO_266001.out) hb); have n1_ := mk0 (Kd.R_below (by (with_reducible repeat (first | apply Ra_ | apply Rn_ | apply Rd_)); exact HO269.out) hb); have n2_ := mk0 (Kd.R_below (by (with_reducible repeat (first | apply Ra_ | apply Rn_ | apply Rd_)); exact HO273.out) hb); have n3_ := mk0 (Kd.R_below (by (with_reducible repeat (first | apply Ra_ | apply Rn_ | apply Rd_)); exact HO279.out) hb); have n4_ := mk0 (blk_below (g := gb259) (o := .cells #[.slice A0_0 l0_0.length c0_0, .slice A0_1 l0_1.length c0_1, .slice A0_2 l0_2.length c0_2, .slice A0_3 l0_3.length c0_3] 27 (0, 0)) (by (with_reducible repeat (first | refine bN_ ?_ _ | refine bD_ ?_ | refine bA_ ?_ _)); exact BK259.out) hb); have n5_ := mk0 (blk_below (g := gb265) (o := .cells #[.string x266000_1, .slice Ao24 x266001_1.length co24] 31 (0, 0)) (by (with_reducible repeat (first | refine bN_ ?_ _ | refine bD_ ?_ | refine bA_ ?_ _)); exact BK265.out) hb); have n6_ := mk0 (blk_below (g := gb275) (o := .cells #[.string t270, .slice Ao30 t271.length co30] 31 (0, 0)) (by (with_reducible repeat (first | refine bN_ ?_ _ | refine bD_ ?_ | refine bA_ ?_ _)); exact BK275.out) hb); have n7_ := mk0 (bt_ (by repeat (first | (with_reducible first | exact HB.out | apply bL_ | apply pN_ | apply b1_ | refine bs_ ?_ GE259.out | refine bs_ ?_ GE265.out | refine bs_ ?_ GE275.out) | exact HB.out)) hb); have n8_ := mk0 (hbox); have n9_ := mk0 ((by rw [hg]; exact (bz_ (by repeat (first | (with_reducible first | exact HB.out | apply bL_ | apply pN_ | apply b1_ | refine bs_ ?_ GE259.out | refine bs_ ?_ GE265.out | refine bs_ ?_ GE275.out) | exact HB.out))) : w.heap.size ≤ gb281)); have n10_ := mk0 ((by rw [hg]; exact (bz_ (by repeat (first | (with_reducible first | exact HB.out | apply bL_ | apply pN_ | apply b1_ | refine bs_ ?_ GE259.out | refine bs_ ?_ GE265.out | refine bs_ ?_ GE275.out) | exact HB.out))) : w.heap.size ≤ gb281)); have n11_ := mk0 ((by rw [hg]; exact Nat.ne_of_lt (blk_lt (g := gb259) (o := .cells #[.slice A0_0 l0_0.length c0_0, .slice A0_1 l0_1.length c0_1, .slice A0_2 l0_2.length c0_2, .slice A0_3 l0_3.length c0_3] 27 (0, 0)) (by (with_reducible repeat (first | refine bN_ ?_ _ | refine bD_ ?_ | refine bA_ ?_ _)); exact BK259.out)) : gb259 ≠ gb281)); have n12_ := mk0 ((by rw [hg]; exact Nat.ne_of_gt (blk_lt (g := gb259) (o := .cells #[.slice A0_0 l0_0.length c0_0, .slice A0_1 l0_1.length c0_1, .slice A0_2 l0_2.length c0_2, .slice A0_3 l0_3.length c0_3] 27 (0, 0)) (by (with_reducible repeat (first | refine bN_ ?_ _ | refine bD_ ?_ | refine bA_ ?_ _)); exact BK259.out)) : gb281 ≠ gb259)); have n13_ := mk0 ((by rw [hg]; exact Nat.ne_of_lt (blk_lt (g := gb265) (o := .cells #[.string x266000_1, .slice Ao24 x266001_1.length co24] 31 (0, 0)) (by (with_reducible repeat (first | refine bN_ ?_ _ | refine bD_ ?_ | refine bA_ ?_ _)); exact BK265.out)) : gb265 ≠ gb281)); have n14_ := mk0 ((by rw [hg]; exact Nat.ne_of_gt (blk_lt (g := gb265) (o := .cells #[.string x266000_1, .slice Ao24 x266001_1.length co24] 31 (0, 0)) (by (with_reducible repeat (first | refine bN_ ?_ _ | refine bD_ ?_ | refine bA_ ?_ _)); exact BK265.out)) : gb281 ≠ gb265)); have n15_ := mk0 ((by rw [hg]; exact Nat.ne_of_lt (blk_lt (g := gb275) (o := .cells #[.string t270, .slice Ao30 t271.length co30] 31 (0, 0)) (by (with_reducible repeat (first | refine bN_ ?_ _ | refine bD_ ?_ | refine bA_ ?_ _)); exact BK275.out)) : gb275 ≠ gb281)); have n16_ := mk0 ((by rw [hg]; exact Nat.ne_of_gt (blk_lt (g := gb275) (o := .cells #[.string t270, .slice Ao30 t271.length co30] 31 (0, 0)) (by (with_reducible repeat (first | refine bN_ ?_ _ | refine bD_ ?_ | refine bA_ ?_ _)); exact BK275.out)) : gb281 ≠ gb275)); clear HO_266001; clear HO269; clear HO273; clear HO279; clear BK259; clear BK265; clear BK275; clear HB; have HO_266001 := n0_; have HO269 := n1_; have HO273 := n2_; have HO279 := n3_; have BK259 := n4_; have BK265 := n5_; have BK275 := n6_; have HB := n7_; have BK281 := n8_; have GW281 := n9_; have GE281 := n10_; have NB259_281 := n11_; have NB281_259 := n12_; have NB265_281 := n13_; have NB281_265 := n14_; have NB275_281 := n15_; have NB281_275 := n16_; clear n0_ n1_ n2_ n3_ n4_ n5_ n6_ n7_ n8_ n9_ n10_ n11_ n12_ n13_ n14_ n15_ n16_; clear hb hbox hg; have hnb34 := NB281_259.out; have hnc34 := NB259_281.out; have hnb35 := NB281_265.out; have hnc35 := NB265_281.out; have hnb36 := NB281_275.out; have hnc36 := NB275_281.out; have hcz37_0 : w33.cell? ⟨gb281, 0, none⟩ = some (.string (⟨#[]⟩ : ByteArray)) := (blk_cell BK281.out 0).trans rfl; have hcz37_1 : w33.cell? ⟨gb281, 1, none⟩ = some (.slice none 0 0) := (blk_cell BK281.out 1).trans rfl; have hfz37_0 := blk_frozen BK281.out 0; have hfz37_1 := blk_frozen BK281.out 1; obtain ⟨Ao38, co38, eo38⟩ := Kd.R_slice HO279.out; subst eo38) | ((with_reducible refine gate_callee (f := 18) rfl ?_); refine goesL_ (some 62) rfl rfl Try.func18 (by kernel_rfl) rfl #[.int .i64 t274] rfl (by (try simp only [List.map_toArray, List.map_cons, List.map_nil]); first | done | rfl | (simp only [List.length_drop, List.length_take]; rfl)) ?_; (with_reducible refine (quorumlaw8_num.calls t274 t282 _ A15.out).mono ?_); rintro e w' ⟨rfl, ⟨nd, rfl⟩⟩; refine ⟨_, rfl, ?_⟩) | (go_at_call 18; (with_reducible refine (quorumlaw8_num.calls t280 t283 _ A17.out).mono ?_); rintro e w' ⟨rfl, ⟨nd, rfl⟩⟩; have hcz39_0 : w33.cell? ⟨gb275, 0, none⟩ = some (.string t270) := (blk_cell BK275.out 0).trans rfl; have hcz39_1 : w33.cell? ⟨gb275, 1, none⟩ = some (.slice Ao30 t271.length co30) := (blk_cell BK275.out 1).trans rfl; have hfz39_0 := blk_frozen BK275.out 0; have hfz39_1 := blk_frozen BK275.out 1; have hcz40_0 : w33.cell? ⟨gb265, 0, none⟩ = some (.string x266000_1) := (blk_cell BK265.out 0).trans rfl; have hcz40_1 : w33.cell? ⟨gb265, 1, none⟩ = some (.slice Ao24 x266001_1.length co24) := (blk_cell BK265.out 1).trans rfl; have hfz40_0 := blk_frozen BK265.out 0; have hfz40_1 := blk_frozen BK265.out 1) | ((with_reducible refine gate_callee (f := 18) rfl ?_); refine goesL_ (some 62) rfl rfl Try.func18 (by kernel_rfl) rfl #[.int .i64 t274] rfl (by (try simp only [List.map_toArray, List.map_cons, List.map_nil]); first | done | rfl | (simp only [List.length_drop, List.length_take]; rfl)) ?_; (with_reducible refine (quorumlaw8_num.calls t274 t282 _ A15.out).mono ?_); rintro e w' ⟨rfl, ⟨nd, rfl⟩⟩; refine ⟨_, rfl, ?_⟩) | (go_at_call 18; (with_reducible refine (quorumlaw8_num.calls t280 t283 _ A17.out).mono ?_); rintro e w' ⟨rfl, ⟨nd, rfl⟩⟩) | ((with_reducible refine gate_callee (f := 18) rfl ?_); refine goesL_ (some 62) rfl rfl Try.func18 (by kernel_rfl) rfl #[.int .i64 t274] rfl (by (try simp only [List.map_toArray, List.map_cons, List.map_nil]); first | done | rfl | (simp only [List.length_drop, List.length_take]; rfl)) ?_; (with_reducible refine (quorumlaw8_num.calls t274 t282 _ A15.out).mono ?_); rintro e w' ⟨rfl, ⟨nd, rfl⟩⟩; refine ⟨_, rfl, ?_⟩))
    ·go_roundg k1
     case measure => have := HK1.out; omega
     case rel => exact ⟨(wrap64 (x6_1 + 1)), (t270), (t271), (.slice Ao30 t271.length co30), (by first | rfl | (simp; done) | (simp [*]; done)), H', ⟨by have := HK1.out; omega⟩, ⟨by (with_reducible repeat (first | apply Ra_ | apply Rn_ | apply Rd_)); exact Kd.R_mono (Kd.R_far (p := ⟨gb265, 1, none⟩) (Kd.R_far (p := ⟨gb265, 0, none⟩) (Kd.R_far (p := ⟨gb281, 1, none⟩) (Kd.R_far (p := ⟨gb281, 0, none⟩) (Kd.R_types (Kd.R_types HO273.out BK281.out (by decide)) BK265.out (by decide)) (fun _ hk => hk.1.2) (.string t276)) (fun _ hk => hk.1.2) (.slice Ao38 t277.length co38)) (fun _ hk => hk.2) (.string t270)) (fun _ hk => hk.2) (.slice Ao30 t271.length co30)) (fun _ hk => trivial)⟩, ⟨by (with_reducible repeat (first | refine bN_ ?_ _ | refine bD_ ?_ | refine bA_ ?_ _)); refine blk_far ?_ NB259_265.out _; (with_reducible repeat (first | refine bN_ ?_ _ | refine bD_ ?_ | refine bA_ ?_ _)); refine blk_far ?_ NB259_265.out _; (with_reducible repeat (first | refine bN_ ?_ _ | refine bD_ ?_ | refine bA_ ?_ _)); refine blk_far ?_ NB259_281.out _; (with_reducible repeat (first | refine bN_ ?_ _ | refine bD_ ?_ | refine bA_ ?_ _)); refine blk_far ?_ NB259_281.out _; (with_reducible repeat (first | refine bN_ ?_ _ | refine bD_ ?_ | refine bA_ ?_ _)); exact BK259.out⟩, ⟨by (with_reducible repeat (first | refine bN_ ?_ _ | refine bD_ ?_ | refine bA_ ?_ _)); refine blk_put (cs := #[.string t270, .slice Ao24 x266001_1.length co24]) ?_ 1 _ rfl; (with_reducible repeat (first | refine bN_ ?_ _ | refine bD_ ?_ | refine bA_ ?_ _)); refine blk_put (cs := #[.string x266000_1, .slice Ao24 x266001_1.length co24]) ?_ 0 _ rfl; (with_reducible repeat (first | refine bN_ ?_ _ | refine bD_ ?_ | refine bA_ ?_ _)); refine blk_far ?_ NB265_281.out _; (with_reducible repeat (first | refine bN_ ?_ _ | refine bD_ ?_ | refine bA_ ?_ _)); refine blk_far ?_ NB265_281.out _; (with_reducible repeat (first | refine bN_ ?_ _ | refine bD_ ?_ | refine bA_ ?_ _)); exact BK265.out⟩, ⟨by repeat (first | (with_reducible first | exact HB.out | apply bL_ | apply pN_ | apply b1_ | refine bs_ ?_ GE259.out | refine bs_ ?_ GE265.out | refine bs_ ?_ GE275.out | refine bs_ ?_ GE281.out) | exact HB.out)⟩⟩
    ·go_ret
     exact ⟨by first | rfl | (simp [errW_none, errW_some] <;> rfl) | (simp [*, errW_none, errW_some] <;> rfl), by repeat (first | (with_reducible first | exact HB.out | apply bL_ | apply pN_ | apply b1_ | refine bs_ ?_ GE259.out | refine bs_ ?_ GE265.out | refine bs_ ?_ GE275.out | refine bs_ ?_ GE281.out) | exact HB.out)⟩
    ·go_ret
     exact ⟨by first | rfl | (simp [errW_none, errW_some] <;> rfl) | (simp [*, errW_none, errW_some] <;> rfl), by repeat (first | (with_reducible first | exact HB.out | apply bL_ | apply pN_ | apply b1_ | refine bs_ ?_ GE259.out | refine bs_ ?_ GE265.out | refine bs_ ?_ GE275.out | refine bs_ ?_ GE281.out) | exact HB.out)⟩
 ·go_ret
  exact ⟨by first | rfl | (simp [errW_none, errW_some] <;> rfl) | (simp [*, errW_none, errW_some] <;> rfl), by repeat (first | (with_reducible first | exact HB.out | apply bL_ | apply pN_ | apply b1_ | refine bs_ ?_ GE259.out | refine bs_ ?_ GE265.out) | exact HB.out)⟩

/-! ### quorumref0_Between: function 90 -/
def quorumref0_Between.f (a0 : Int) (a1 : Int) (a2 : Int) : Option (Bool) := if a0 ≥ a1 then (some (decide (a0 ≤ a2))) else (some false)
set_option maxHeartbeats 8000000 in
set_option maxRecDepth 100000 in
theorem quorumref0_Between.calls (a0 : Int) (a1 : Int) (a2 : Int) (r : Bool) (w : World) (h : quorumref0_Between.f a0 a1 a2 = some r) :
  Calls Try.prog 90 #[.int .i64 a0, .int .i64 a1, .int .i64 a2] w fun e w' => e = .returned (.bool r) ∧ Drawn0 w w' := by
 have H : (if a0 ≥ a1 then (some (decide (a0 ≤ a2))) else (some false)) = some r := h
 clear h
 by_cases c4 : a0 ≥ a1
 ·rw [if_pos c4] at H
  have c4b0 : decide (a1 ≤ a0) = true := decide_eq_true c4
  clear c4
  obtain rfl := Option.some.inj H
  go_enter Try.func90, Try.ntmps90
  go_wp2
  go_ret
  exact ⟨by first | rfl | (simp; done) | (simp [*]; done), by repeat (first | exact Drawn0.refl _ | apply Drawn0.step)⟩
 ·rw [if_neg c4] at H
  have c4b0 : decide (a1 ≤ a0) = false := decide_eq_false c4
  clear c4
  obtain rfl := Option.some.inj H
  go_enter Try.func90, Try.ntmps90
  go_wp2
  go_ret
  exact ⟨by first | rfl | (simp; done) | (simp [*]; done), by repeat (first | exact Drawn0.refl _ | apply Drawn0.step)⟩

/-! ### quorumref1_Key: function 47 -/
def quorumref1_Key.f (a0 : ByteArray) : Option (Bool) := (quorumref0_Between.f (a0.size : Int) 1 12).bind fun t301 => (some t301)
set_option maxHeartbeats 8000000 in
set_option maxRecDepth 100000 in
theorem quorumref1_Key.calls (a0 : ByteArray) (r : Bool) (w : World) (h : quorumref1_Key.f a0 = some r) :
  Calls Try.prog 47 #[.string a0] w fun e w' => e = .returned (.bool r) ∧ Drawn0 w w' := by
 have H : ((quorumref0_Between.f (a0.size : Int) 1 12).bind fun t301 => (some t301)) = some r := h
 clear h
 replace H := Option.bind_eq_some_iff.mp H
 obtain ⟨t301, A20, H⟩ := H
 replace H : (some t301) = some r := H
 have A2 := mk0 A20
 clear A20
 obtain rfl := Option.some.inj H
 go_enter Try.func47, Try.ntmps47
 go_wp2_with (first | ((with_reducible refine gate_callee (f := 90) rfl ?_); refine goesL_ (some 5) rfl rfl Try.func90 (by kernel_rfl) rfl #[.int .i64 (a0.size : Int), .int .i64 1, .int .i64 12] rfl (by (try simp only [List.map_toArray, List.map_cons, List.map_nil]); first | done | rfl | (simp only [List.length_drop, List.length_take]; rfl)) ?_; (with_reducible refine (quorumref0_Between.calls (a0.size : Int) 1 12 t301 _ A2.out).mono ?_); rintro e w' ⟨rfl, ⟨nd, rfl⟩⟩; refine ⟨_, rfl, ?_⟩))
 go_ret
 exact ⟨by first | rfl | (simp; done) | (simp [*]; done), by repeat (first | exact Drawn0.refl _ | apply Drawn0.step)⟩

/-! ### quorumref1_Value: function 91 -/
def quorumref1_Value.f (a0 : ByteArray) : Option (Bool) := some (decide ((a0.size : Int) ≤ 20))
set_option maxHeartbeats 8000000 in
set_option maxRecDepth 100000 in
theorem quorumref1_Value.calls (a0 : ByteArray) (r : Bool) (w : World) (h : quorumref1_Value.f a0 = some r) :
  Calls Try.prog 91 #[.string a0] w fun e w' => e = .returned (.bool r) ∧ Drawn0 w w' := by
 have H : (some (decide ((a0.size : Int) ≤ 20))) = some r := h
 clear h
 obtain rfl := Option.some.inj H
 go_enter Try.func91, Try.ntmps91
 go_wp2
 go_ret
 exact ⟨by first | rfl | (simp; done) | (simp [*]; done), by repeat (first | exact Drawn0.refl _ | apply Drawn0.step)⟩

/-! ### quorumref8_Version: function 48 -/
def quorumref8_Version.f (a0_0 : Int) (a0_1 : ByteArray) (a0_2 : Bool) : Option (Bool) := (quorumref0_Between.f a0_0 1 1073741824).bind fun t303 => (if t303 = true then ((quorumref1_Value.f a0_1).bind fun t304 => (if t304 = true then (if a0_2 = true then (some (a0_1.toList == ([] : List UInt8))) else (some true)) else (some false))) else (some false))
set_option maxHeartbeats 8000000 in
set_option maxRecDepth 100000 in
theorem quorumref8_Version.calls (a0_0 : Int) (a0_1 : ByteArray) (a0_2 : Bool) (r : Bool) (w : World) (h : quorumref8_Version.f a0_0 a0_1 a0_2 = some r) :
  Calls Try.prog 48 #[.agg #[.int .i64 a0_0, .string a0_1, .bool a0_2]] w fun e w' => e = .returned (.bool r) ∧ Below w.heap.size w w' := by
 have hu37 := Try.underlying37
 have HB := mk0 (Below.refl w.heap.size w)
 have H : ((quorumref0_Between.f a0_0 1 1073741824).bind fun t303 => (if t303 = true then ((quorumref1_Value.f a0_1).bind fun t304 => (if t304 = true then (if a0_2 = true then (some (a0_1.toList == ([] : List UInt8))) else (some true)) else (some false))) else (some false))) = some r := h
 clear h
 replace H := Option.bind_eq_some_iff.mp H
 obtain ⟨t303, A20, H⟩ := H
 replace H : (if t303 = true then ((quorumref1_Value.f a0_1).bind fun t304 => (if t304 = true then (if a0_2 = true then (some (a0_1.toList == ([] : List UInt8))) else (some true)) else (some false))) else (some false)) = some r := H
 have A2 := mk0 A20
 clear A20
 by_cases c3 : t303 = true
 ·subst c3
  have H1 : ((quorumref1_Value.f a0_1).bind fun t304 => (if t304 = true then (if a0_2 = true then (some (a0_1.toList == ([] : List UInt8))) else (some true)) else (some false))) = some r := by rw [if_pos rfl] at H; exact H
  clear H
  have H := H1
  clear H1
  replace H := Option.bind_eq_some_iff.mp H
  obtain ⟨t304, A40, H⟩ := H
  replace H : (if t304 = true then (if a0_2 = true then (some (a0_1.toList == ([] : List UInt8))) else (some true)) else (some false)) = some r := H
  have A4 := mk0 A40
  clear A40
  by_cases c5 : t304 = true
  ·subst c5
   have H1 : (if a0_2 = true then (some (a0_1.toList == ([] : List UInt8))) else (some true)) = some r := by rw [if_pos rfl] at H; exact H
   clear H
   have H := H1
   clear H1
   by_cases c6 : a0_2 = true
   ·subst c6
    have H1 : (some (a0_1.toList == ([] : List UInt8))) = some r := by rw [if_pos rfl] at H; exact H
    clear H
    have H := H1
    clear H1
    obtain rfl := Option.some.inj H
    go_enter Try.func48, Try.ntmps48
    go_wp2_with (first | ((with_reducible refine gate_dst (N := 1) rfl ?_); refine box_event ?hg (N := 1) ?hd (cs := #[.int .i64 a0_0, .string a0_1, .bool true]) (t := 37) ?hr ?_; (case hd => rfl); (case hg => rfl); (case hr => first | (go_simp; done) | (go_simp; rfl)); intro gb302 hg w7 hbox hb; have n0_ := mk0 (bt_ (by repeat (first | (with_reducible first | exact HB.out | apply bL_ | apply pN_ | apply b1_) | exact HB.out)) hb); have n1_ := mk0 (hbox); have n2_ := mk0 ((by rw [hg]; exact (bz_ (by repeat (first | (with_reducible first | exact HB.out | apply bL_ | apply pN_ | apply b1_) | exact HB.out))) : w.heap.size ≤ gb302)); have n3_ := mk0 ((by rw [hg]; exact (bz_ (by repeat (first | (with_reducible first | exact HB.out | apply bL_ | apply pN_ | apply b1_) | exact HB.out))) : w.heap.size ≤ gb302)); clear HB; have HB := n0_; have BK302 := n1_; have GW302 := n2_; have GE302 := n3_; clear n0_ n1_ n2_ n3_; clear hb hbox hg; have hcz8_0 : w7.cell? ⟨gb302, 0, none⟩ = some (.int .i64 a0_0) := (blk_cell BK302.out 0).trans rfl; have hcz8_1 : w7.cell? ⟨gb302, 1, none⟩ = some (.string a0_1) := (blk_cell BK302.out 1).trans rfl; have hcz8_2 : w7.cell? ⟨gb302, 2, none⟩ = some (.bool true) := (blk_cell BK302.out 2).trans rfl; have hfz8_0 := blk_frozen BK302.out 0; have hfz8_1 := blk_frozen BK302.out 1; have hfz8_2 := blk_frozen BK302.out 2) | ((with_reducible refine gate_callee (f := 90) rfl ?_); refine goesL_ (some 5) rfl rfl Try.func90 (by kernel_rfl) rfl #[.int .i64 a0_0, .int .i64 1, .int .i64 1073741824] rfl (by (try simp only [List.map_toArray, List.map_cons, List.map_nil]); first | done | rfl | (simp only [List.length_drop, List.length_take]; rfl)) ?_; (with_reducible refine (quorumref0_Between.calls a0_0 1 1073741824 true _ A2.out).mono ?_); rintro e w' ⟨rfl, ⟨nd, rfl⟩⟩; refine ⟨_, rfl, ?_⟩) | (go_at_call 91; (with_reducible refine (quorumref1_Value.calls a0_1 true _ A4.out).mono ?_); rintro e w' ⟨rfl, ⟨nd, rfl⟩⟩))
    go_ret
    exact ⟨by first | rfl | (simp [errW_none, errW_some] <;> rfl) | (simp [*, errW_none, errW_some] <;> rfl), by repeat (first | (with_reducible first | exact HB.out | apply bL_ | apply pN_ | apply b1_ | refine bs_ ?_ GE302.out) | exact HB.out)⟩
   ·replace c6 := Bool.eq_false_iff.mpr c6
    subst c6
    have H1 : (some true) = some r := by rw [if_neg (show ¬ (false = true) by decide)] at H; exact H
    clear H
    have H := H1
    clear H1
    obtain rfl := Option.some.inj H
    go_enter Try.func48, Try.ntmps48
    go_wp2_with (first | ((with_reducible refine gate_dst (N := 1) rfl ?_); refine box_event ?hg (N := 1) ?hd (cs := #[.int .i64 a0_0, .string a0_1, .bool false]) (t := 37) ?hr ?_; (case hd => rfl); (case hg => rfl); (case hr => first | (go_simp; done) | (go_simp; rfl)); intro gb302 hg w9 hbox hb; have n0_ := mk0 (bt_ (by repeat (first | (with_reducible first | exact HB.out | apply bL_ | apply pN_ | apply b1_) | exact HB.out)) hb); have n1_ := mk0 (hbox); have n2_ := mk0 ((by rw [hg]; exact (bz_ (by repeat (first | (with_reducible first | exact HB.out | apply bL_ | apply pN_ | apply b1_) | exact HB.out))) : w.heap.size ≤ gb302)); have n3_ := mk0 ((by rw [hg]; exact (bz_ (by repeat (first | (with_reducible first | exact HB.out | apply bL_ | apply pN_ | apply b1_) | exact HB.out))) : w.heap.size ≤ gb302)); clear HB; have HB := n0_; have BK302 := n1_; have GW302 := n2_; have GE302 := n3_; clear n0_ n1_ n2_ n3_; clear hb hbox hg; have hcz10_0 : w9.cell? ⟨gb302, 0, none⟩ = some (.int .i64 a0_0) := (blk_cell BK302.out 0).trans rfl; have hcz10_1 : w9.cell? ⟨gb302, 1, none⟩ = some (.string a0_1) := (blk_cell BK302.out 1).trans rfl; have hcz10_2 : w9.cell? ⟨gb302, 2, none⟩ = some (.bool false) := (blk_cell BK302.out 2).trans rfl; have hfz10_0 := blk_frozen BK302.out 0; have hfz10_1 := blk_frozen BK302.out 1; have hfz10_2 := blk_frozen BK302.out 2) | ((with_reducible refine gate_callee (f := 90) rfl ?_); refine goesL_ (some 5) rfl rfl Try.func90 (by kernel_rfl) rfl #[.int .i64 a0_0, .int .i64 1, .int .i64 1073741824] rfl (by (try simp only [List.map_toArray, List.map_cons, List.map_nil]); first | done | rfl | (simp only [List.length_drop, List.length_take]; rfl)) ?_; (with_reducible refine (quorumref0_Between.calls a0_0 1 1073741824 true _ A2.out).mono ?_); rintro e w' ⟨rfl, ⟨nd, rfl⟩⟩; refine ⟨_, rfl, ?_⟩) | (go_at_call 91; (with_reducible refine (quorumref1_Value.calls a0_1 true _ A4.out).mono ?_); rintro e w' ⟨rfl, ⟨nd, rfl⟩⟩))
    go_ret
    exact ⟨by first | rfl | (simp [errW_none, errW_some] <;> rfl) | (simp [*, errW_none, errW_some] <;> rfl), by repeat (first | (with_reducible first | exact HB.out | apply bL_ | apply pN_ | apply b1_ | refine bs_ ?_ GE302.out) | exact HB.out)⟩
  ·replace c5 := Bool.eq_false_iff.mpr c5
   subst c5
   have H1 : (some false) = some r := by rw [if_neg (show ¬ (false = true) by decide)] at H; exact H
   clear H
   have H := H1
   clear H1
   obtain rfl := Option.some.inj H
   go_enter Try.func48, Try.ntmps48
   go_wp2_with (first | ((with_reducible refine gate_dst (N := 1) rfl ?_); refine box_event ?hg (N := 1) ?hd (cs := #[.int .i64 a0_0, .string a0_1, .bool a0_2]) (t := 37) ?hr ?_; (case hd => rfl); (case hg => rfl); (case hr => first | (go_simp; done) | (go_simp; rfl)); intro gb302 hg w11 hbox hb; have n0_ := mk0 (bt_ (by repeat (first | (with_reducible first | exact HB.out | apply bL_ | apply pN_ | apply b1_) | exact HB.out)) hb); have n1_ := mk0 (hbox); have n2_ := mk0 ((by rw [hg]; exact (bz_ (by repeat (first | (with_reducible first | exact HB.out | apply bL_ | apply pN_ | apply b1_) | exact HB.out))) : w.heap.size ≤ gb302)); have n3_ := mk0 ((by rw [hg]; exact (bz_ (by repeat (first | (with_reducible first | exact HB.out | apply bL_ | apply pN_ | apply b1_) | exact HB.out))) : w.heap.size ≤ gb302)); clear HB; have HB := n0_; have BK302 := n1_; have GW302 := n2_; have GE302 := n3_; clear n0_ n1_ n2_ n3_; clear hb hbox hg; have hcz12_0 : w11.cell? ⟨gb302, 0, none⟩ = some (.int .i64 a0_0) := (blk_cell BK302.out 0).trans rfl; have hcz12_1 : w11.cell? ⟨gb302, 1, none⟩ = some (.string a0_1) := (blk_cell BK302.out 1).trans rfl; have hcz12_2 : w11.cell? ⟨gb302, 2, none⟩ = some (.bool a0_2) := (blk_cell BK302.out 2).trans rfl; have hfz12_0 := blk_frozen BK302.out 0; have hfz12_1 := blk_frozen BK302.out 1; have hfz12_2 := blk_frozen BK302.out 2) | ((with_reducible refine gate_callee (f := 90) rfl ?_); refine goesL_ (some 5) rfl rfl Try.func90 (by kernel_rfl) rfl #[.int .i64 a0_0, .int .i64 1, .int .i64 1073741824] rfl (by (try simp only [List.map_toArray, List.map_cons, List.map_nil]); first | done | rfl | (simp only [List.length_drop, List.length_take]; rfl)) ?_; (with_reducible refine (quorumref0_Between.calls a0_0 1 1073741824 true _ A2.out).mono ?_); rintro e w' ⟨rfl, ⟨nd, rfl⟩⟩; refine ⟨_, rfl, ?_⟩) | (go_at_call 91; (with_reducible refine (quorumref1_Value.calls a0_1 false _ A4.out).mono ?_); rintro e w' ⟨rfl, ⟨nd, rfl⟩⟩))
   go_ret
   exact ⟨by first | rfl | (simp [errW_none, errW_some] <;> rfl) | (simp [*, errW_none, errW_some] <;> rfl), by repeat (first | (with_reducible first | exact HB.out | apply bL_ | apply pN_ | apply b1_ | refine bs_ ?_ GE302.out) | exact HB.out)⟩
 ·replace c3 := Bool.eq_false_iff.mpr c3
  subst c3
  have H1 : (some false) = some r := by rw [if_neg (show ¬ (false = true) by decide)] at H; exact H
  clear H
  have H := H1
  clear H1
  obtain rfl := Option.some.inj H
  go_enter Try.func48, Try.ntmps48
  go_wp2_with (first | ((with_reducible refine gate_dst (N := 1) rfl ?_); refine box_event ?hg (N := 1) ?hd (cs := #[.int .i64 a0_0, .string a0_1, .bool a0_2]) (t := 37) ?hr ?_; (case hd => rfl); (case hg => rfl); (case hr => first | (go_simp; done) | (go_simp; rfl)); intro gb302 hg w13 hbox hb; have n0_ := mk0 (bt_ (by repeat (first | (with_reducible first | exact HB.out | apply bL_ | apply pN_ | apply b1_) | exact HB.out)) hb); have n1_ := mk0 (hbox); have n2_ := mk0 ((by rw [hg]; exact (bz_ (by repeat (first | (with_reducible first | exact HB.out | apply bL_ | apply pN_ | apply b1_) | exact HB.out))) : w.heap.size ≤ gb302)); have n3_ := mk0 ((by rw [hg]; exact (bz_ (by repeat (first | (with_reducible first | exact HB.out | apply bL_ | apply pN_ | apply b1_) | exact HB.out))) : w.heap.size ≤ gb302)); clear HB; have HB := n0_; have BK302 := n1_; have GW302 := n2_; have GE302 := n3_; clear n0_ n1_ n2_ n3_; clear hb hbox hg; have hcz14_0 : w13.cell? ⟨gb302, 0, none⟩ = some (.int .i64 a0_0) := (blk_cell BK302.out 0).trans rfl; have hcz14_1 : w13.cell? ⟨gb302, 1, none⟩ = some (.string a0_1) := (blk_cell BK302.out 1).trans rfl; have hcz14_2 : w13.cell? ⟨gb302, 2, none⟩ = some (.bool a0_2) := (blk_cell BK302.out 2).trans rfl; have hfz14_0 := blk_frozen BK302.out 0; have hfz14_1 := blk_frozen BK302.out 1; have hfz14_2 := blk_frozen BK302.out 2) | ((with_reducible refine gate_callee (f := 90) rfl ?_); refine goesL_ (some 5) rfl rfl Try.func90 (by kernel_rfl) rfl #[.int .i64 a0_0, .int .i64 1, .int .i64 1073741824] rfl (by (try simp only [List.map_toArray, List.map_cons, List.map_nil]); first | done | rfl | (simp only [List.length_drop, List.length_take]; rfl)) ?_; (with_reducible refine (quorumref0_Between.calls a0_0 1 1073741824 false _ A2.out).mono ?_); rintro e w' ⟨rfl, ⟨nd, rfl⟩⟩; refine ⟨_, rfl, ?_⟩))
  go_ret
  exact ⟨by first | rfl | (simp [errW_none, errW_some] <;> rfl) | (simp [*, errW_none, errW_some] <;> rfl), by repeat (first | (with_reducible first | exact HB.out | apply bL_ | apply pN_ | apply b1_ | refine bs_ ?_ GE302.out) | exact HB.out)⟩

end Go.Proofs.Ytafiikiofalpnaa.PChain
