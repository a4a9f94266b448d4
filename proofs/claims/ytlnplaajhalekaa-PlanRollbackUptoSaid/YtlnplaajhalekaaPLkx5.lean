-- PRINTED by print.py (a twelfth state) out of the translation. Not trusted: Lean checks it.
import Derived.Shelf.SlSorted.Search
import Derived.Test.YtlnplaajhalekaaPLkx0
import Derived.Test.YtlnplaajhalekaaPLkx4
namespace Go.Proofs.Ytlnplaajhalekaa.PLk
open Go.RowKit Go.Proofs.YtlnplaajhalekaaW.PrintWords Go.Proofs.YtlnplaajhalekaaW.PrintLast Go.Proofs.YtlnplaajhalekaaW.PrintMore
attribute [local go_sem] max2_int min2_int max_two min_two max_three min_three max_four min_four   -- for this text's walks alone
set_option linter.unusedVariables false
set_option linter.unusedSimpArgs false

/-! ### quorumref8_Pend: function 16 -/
mutual
def quorumref8_Pend.j0 : Nat → Bool → List (S44) → List Int → Option (Bool)
 | 0, _, _, _ => none
 | k + 1, x14, x118000, x118001 => if x14 = true then (some false) else (quorumref8_Pend.l0 k 0 x118000 x118001)
def quorumref8_Pend.l0 : Nat → Int → List (S44) → List Int → Option (Bool)
 | 0, _, _, _ => none
 | k + 1, x3, x118000, x118001 => if x3 < (x118000.length : Int) then (if 0 ≤ x3 then ((quorumref8_Write.f ((rd_T44 x118000 x3).f0) ((rd_T44 x118000 x3).f1) ((rd_T44 x118000 x3).f2) ((rd_T44 x118000 x3).f3)).bind fun t119 => (if t119 = true then (quorumref8_Pend.l0 k (wrap64 (x3 + 1)) x118000 x118001) else (some false))) else (none)) else (quorumref8_Pend.l1 k 0 x118000 x118001)
def quorumref8_Pend.l1 : Nat → Int → List (S44) → List Int → Option (Bool)
 | 0, _, _, _ => none
 | k + 1, x4, x118000, x118001 => if x4 < (x118001.length : Int) then (if 0 ≤ x4 then ((quorumref0_Num.f (rd x118001 x4) (x118000.length : Int)).bind fun t121 => (if t121 = true then (if x4 > 0 then (if 0 ≤ (wrap64 (x4 - 1)) then (if (wrap64 (x4 - 1)) < (x118001.length : Int) then (if (rd x118001 (wrap64 (x4 - 1))) > (rd x118001 x4) then (some false) else (quorumref8_Pend.l1 k (wrap64 (x4 + 1)) x118000 x118001)) else (none)) else (none)) else (quorumref8_Pend.l1 k (wrap64 (x4 + 1)) x118000 x118001)) else (some false))) else (none)) else (some true)
end
def quorumref8_Pend.f (k : Nat) (l0_0 : List (S44)) (l0_1 : List Int) : Option (Bool) := if (l0_0.length : Int) > 12 then (quorumref8_Pend.j0 k true l0_0 l0_1) else (quorumref8_Pend.j0 k (decide ((l0_1.length : Int) > 6)) l0_0 l0_1)
theorem quorumref8_Pend.mono_l : ∀ k, (∀ y0 y1 y2, LeO (quorumref8_Pend.j0 k y0 y1 y2) (quorumref8_Pend.j0 (k + 1) y0 y1 y2)) ∧ (∀ y0 y1 y2, LeO (quorumref8_Pend.l0 k y0 y1 y2) (quorumref8_Pend.l0 (k + 1) y0 y1 y2)) ∧ (∀ y0 y1 y2, LeO (quorumref8_Pend.l1 k y0 y1 y2) (quorumref8_Pend.l1 (k + 1) y0 y1 y2))
 | 0 => ⟨fun _ _ _ r h => by simp [quorumref8_Pend.j0] at h, fun _ _ _ r h => by simp [quorumref8_Pend.l0] at h, fun _ _ _ r h => by simp [quorumref8_Pend.l1] at h⟩
 | k + 1 => by
  obtain ⟨ih0, ih1, ih2⟩ := quorumref8_Pend.mono_l k
  refine ⟨?_, ?_, ?_⟩
  ·intro y0 y1 y2
   unfold quorumref8_Pend.j0
   repeat' first
   | (with_reducible exact ih0 _ _ _)
   | (with_reducible exact ih1 _ _ _)
   | (with_reducible exact ih2 _ _ _)
   | (with_reducible exact LeO.refl _)
   | (with_reducible exact LeO.none _)
   | (with_reducible refine LeO.ite ?_ ?_)
   | (with_reducible refine LeO.bind ?_ (fun _ => ?_))
   | exact ih0 _ _ _
   | exact ih1 _ _ _
   | exact ih2 _ _ _
   | exact LeO.none _
   | refine LeO.ite ?_ ?_
   | refine LeO.bind ?_ (fun _ => ?_)
  ·intro y0 y1 y2
   unfold quorumref8_Pend.l0
   repeat' first
   | (with_reducible exact ih0 _ _ _)
   | (with_reducible exact ih1 _ _ _)
   | (with_reducible exact ih2 _ _ _)
   | (with_reducible exact LeO.refl _)
   | (with_reducible exact LeO.none _)
   | (with_reducible refine LeO.ite ?_ ?_)
   | (with_reducible refine LeO.bind ?_ (fun _ => ?_))
   | exact ih0 _ _ _
   | exact ih1 _ _ _
   | exact ih2 _ _ _
   | exact LeO.none _
   | refine LeO.ite ?_ ?_
   | refine LeO.bind ?_ (fun _ => ?_)
  ·intro y0 y1 y2
   unfold quorumref8_Pend.l1
   repeat' first
   | (with_reducible exact ih0 _ _ _)
   | (with_reducible exact ih1 _ _ _)
   | (with_reducible exact ih2 _ _ _)
   | (with_reducible exact LeO.refl _)
   | (with_reducible exact LeO.none _)
   | (with_reducible refine LeO.ite ?_ ?_)
   | (with_reducible refine LeO.bind ?_ (fun _ => ?_))
   | exact ih0 _ _ _
   | exact ih1 _ _ _
   | exact ih2 _ _ _
   | exact LeO.none _
   | refine LeO.ite ?_ ?_
   | refine LeO.bind ?_ (fun _ => ?_)
theorem quorumref8_Pend.mono : ∀ a0 a1 k, LeO (quorumref8_Pend.f k a0 a1) (quorumref8_Pend.f (k + 1) a0 a1) := by
 intro a0 a1 k
 obtain ⟨ih0, ih1, ih2⟩ := quorumref8_Pend.mono_l k
 unfold quorumref8_Pend.f
 repeat' first
   | (with_reducible exact ih0 _ _ _)
   | (with_reducible exact ih1 _ _ _)
   | (with_reducible exact ih2 _ _ _)
   | (with_reducible exact LeO.refl _)
   | (with_reducible exact LeO.none _)
   | (with_reducible refine LeO.ite ?_ ?_)
   | (with_reducible refine LeO.bind ?_ (fun _ => ?_))
   | exact ih0 _ _ _
   | exact ih1 _ _ _
   | exact ih2 _ _ _
   | exact LeO.none _
   | refine LeO.ite ?_ ?_
   | refine LeO.bind ?_ (fun _ => ?_)
set_option maxHeartbeats 8000000 in
set_option maxRecDepth 100000 in
theorem quorumref8_Pend.calls (k : Nat) (A0_0 : Option Addr) (c0_0 : Nat) (l0_0 : List (S44)) (A0_1 : Option Addr) (c0_1 : Nat) (l0_1 : List Int) (r : Bool) (w : World) (hr0_0 : Kd.C k44 w A0_0 l0_0.length l0_0) (hc0_0 : l0_0.length ≤ c0_0) (hr0_1 : Kd.C (Kd.int .i64) w A0_1 l0_1.length l0_1) (hc0_1 : l0_1.length ≤ c0_1) (h : quorumref8_Pend.f k l0_0 l0_1 = some r) :
  Calls Try.prog 16 #[.agg #[.slice A0_0 l0_0.length c0_0, .slice A0_1 l0_1.length c0_1]] w fun e w' => e = .returned (.bool r) ∧ Below w.heap.size w w' := by
 have hu31 := Try.underlying31
 have hu44 := Try.underlying44
 have HR0_0 := mk0 hr0_0
 have HC0_0 := mk0 hc0_0
 clear hr0_0 hc0_0
 have HR0_1 := mk0 hr0_1
 have HC0_1 := mk0 hc0_1
 clear hr0_1 hc0_1
 have HB := mk0 (Below.refl w.heap.size w)
 have H : (if (l0_0.length : Int) > 12 then (quorumref8_Pend.j0 k true l0_0 l0_1) else (quorumref8_Pend.j0 k (decide ((l0_1.length : Int) > 6)) l0_0 l0_1)) = some r := h
 clear h
 have HC2 := mk0 H
 clear H
 go_enter Try.func16, Try.ntmps16
 go_upto_region 1 with (first | ((with_reducible refine gate_dst (N := 1) rfl ?_); (try (refine gate_guard (by rfl) ?_; dsimp only)); refine box_event ?hg (N := 1) ?hd (cs := #[.slice A0_0 l0_0.length c0_0, .slice A0_1 l0_1.length c0_1]) (t := 31) ?hr ?_; (case hd => rfl); (case hg => rfl); (case hr => first | (go_simp; done) | (go_simp; rfl)); intro gb117 hg w3 hbox hb; have n0_ := mk0 (bt_ (by repeat (first | (with_reducible first | exact HB.out | apply bL_ | apply pN_ | apply b1_) | exact HB.out)) hb); have n1_ := mk0 (hbox); have n2_ := mk0 ((by rw [hg]; exact (bz_ (by repeat (first | (with_reducible first | exact HB.out | apply bL_ | apply pN_ | apply b1_) | exact HB.out))) : w.heap.size ≤ gb117)); have n3_ := mk0 ((by rw [hg]; exact (bz_ (by repeat (first | (with_reducible first | exact HB.out | apply bL_ | apply pN_ | apply b1_) | exact HB.out))) : w.heap.size ≤ gb117)); clear HB; have HB := n0_; have BK117 := n1_; have GW117 := n2_; have GE117 := n3_; clear n0_ n1_ n2_ n3_; clear hb hbox hg))
 repeat (go_quiet (first | ((with_reducible refine gate_dst (N := 1) rfl ?_); (try (refine gate_guard (by rfl) ?_; dsimp only)); refine box_event ?hg (N := 1) ?hd (cs := #[.slice A0_0 l0_0.length c0_0, .slice A0_1 l0_1.length c0_1]) (t := 31) ?hr ?_; (case hd => rfl); (case hg => rfl); (case hr => first | (go_simp; done) | (go_simp; rfl)); intro gb117 hg w3 hbox hb; have n0_ := mk0 (bt_ (by repeat (first | (with_reducible first | exact HB.out | apply bL_ | apply pN_ | apply b1_) | exact HB.out)) hb); have n1_ := mk0 (hbox); have n2_ := mk0 ((by rw [hg]; exact (bz_ (by repeat (first | (with_reducible first | exact HB.out | apply bL_ | apply pN_ | apply b1_) | exact HB.out))) : w.heap.size ≤ gb117)); have n3_ := mk0 ((by rw [hg]; exact (bz_ (by repeat (first | (with_reducible first | exact HB.out | apply bL_ | apply pN_ | apply b1_) | exact HB.out))) : w.heap.size ≤ gb117)); clear HB; have HB := n0_; have BK117 := n1_; have GW117 := n2_; have GE117 := n3_; clear n0_ n1_ n2_ n3_; clear hb hbox hg)); go_upto_region 1 with (first | ((with_reducible refine gate_dst (N := 1) rfl ?_); (try (refine gate_guard (by rfl) ?_; dsimp only)); refine box_event ?hg (N := 1) ?hd (cs := #[.slice A0_0 l0_0.length c0_0, .slice A0_1 l0_1.length c0_1]) (t := 31) ?hr ?_; (case hd => rfl); (case hg => rfl); (case hr => first | (go_simp; done) | (go_simp; rfl)); intro gb117 hg w3 hbox hb; have n0_ := mk0 (bt_ (by repeat (first | (with_reducible first | exact HB.out | apply bL_ | apply pN_ | apply b1_) | exact HB.out)) hb); have n1_ := mk0 (hbox); have n2_ := mk0 ((by rw [hg]; exact (bz_ (by repeat (first | (with_reducible first | exact HB.out | apply bL_ | apply pN_ | apply b1_) | exact HB.out))) : w.heap.size ≤ gb117)); have n3_ := mk0 ((by rw [hg]; exact (bz_ (by repeat (first | (with_reducible first | exact HB.out | apply bL_ | apply pN_ | apply b1_) | exact HB.out))) : w.heap.size ≤ gb117)); clear HB; have HB := n0_; have BK117 := n1_; have GW117 := n2_; have GE117 := n3_; clear n0_ n1_ n2_ n3_; clear hb hbox hg)))
 (try simp only [Act.put, List.setIfInBounds_toArray, List.set_cons_zero, List.set_cons_succ])
 go_cut [14] (fun v14 wc => ∃ (kq : Nat) (x14_1 : Bool), v14 = .bool x14_1 ∧ Aside0 (quorumref8_Pend.j0 kq x14_1 l0_0 l0_1 = some r) ∧ Aside0 (kq ≤ k) ∧ Aside0 (wc.heap[gb117]? = some (.cells #[(.slice A0_0 l0_0.length c0_0), (.slice A0_1 l0_1.length c0_1)] 31 (0, 0))) ∧ Aside0 (Below w.heap.size w wc))
 case first =>
  have H := HC2.out
  clear HC2
  by_cases c4 : (l0_0.length : Int) > 12
  ·rw [if_pos c4] at H
   have c4b0 : decide (12 < (l0_0.length : Int)) = true := decide_eq_true c4
   have c4b1 : decide (12 < l0_0.length) = true := decide_eq_true (by omega)
   clear c4
   (first | rw [c4b0] | (simp only [i64_w, i32_w]; rw [c4b0]) | skip)
   have H' := mk0 H
   clear H
   have hcz5_0 : w3.cell? ⟨gb117, 0, none⟩ = some (.slice A0_0 l0_0.length c0_0) := (blk_cell BK117.out 0).trans rfl
   have hcz5_1 : w3.cell? ⟨gb117, 1, none⟩ = some (.slice A0_1 l0_1.length c0_1) := (blk_cell BK117.out 1).trans rfl
   have hfz5_0 := blk_frozen BK117.out 0
   have hfz5_1 := blk_frozen BK117.out 1
   go_wp2
   repeat (go_quiet (fail); try go_wp2)
   go_meet
   case rel => exact ⟨_, (true), (by first | rfl | (simp; done) | (simp [*]; done)), H', ⟨by first | omega | exact Nat.le_refl _⟩, ⟨by (with_reducible repeat (first | refine bN_ ?_ _ | refine bD_ ?_ | refine bA_ ?_ _)); exact BK117.out⟩, ⟨by repeat (first | (with_reducible first | exact HB.out | apply bL_ | apply pN_ | apply b1_ | refine bs_ ?_ GE117.out) | exact HB.out)⟩⟩
  ·rw [if_neg c4] at H
   have c4b0 : decide (12 < (l0_0.length : Int)) = false := decide_eq_false c4
   have c4b1 : decide (12 < l0_0.length) = false := decide_eq_false (by omega)
   clear c4
   (first | rw [c4b0] | (simp only [i64_w, i32_w]; rw [c4b0]) | skip)
   have H' := mk0 H
   clear H
   have hcz6_0 : w3.cell? ⟨gb117, 0, none⟩ = some (.slice A0_0 l0_0.length c0_0) := (blk_cell BK117.out 0).trans rfl
   have hcz6_1 : w3.cell? ⟨gb117, 1, none⟩ = some (.slice A0_1 l0_1.length c0_1) := (blk_cell BK117.out 1).trans rfl
   have hfz6_0 := blk_frozen BK117.out 0
   have hfz6_1 := blk_frozen BK117.out 1
   go_wp2
   repeat (go_quiet (fail); try go_wp2)
   go_meet
   case rel => exact ⟨_, (decide ((l0_1.length : Int) > 6)), (by first | rfl | (simp; done) | (simp [*]; done)), H', ⟨by first | omega | exact Nat.le_refl _⟩, ⟨by (with_reducible repeat (first | refine bN_ ?_ _ | refine bD_ ?_ | refine bA_ ?_ _)); exact BK117.out⟩, ⟨by repeat (first | (with_reducible first | exact HB.out | apply bL_ | apply pN_ | apply b1_ | refine bs_ ?_ GE117.out) | exact HB.out)⟩⟩
 case rest =>
  clear HC2
  try clear c1
  try clear p2
  try clear c4
  try clear c4b0
  try clear c4b1
  try clear hcz5_0
  try clear hcz5_1
  try clear hcz6_0
  try clear hcz6_1
  try clear hfz5_0
  try clear hfz5_1
  try clear hfz6_0
  try clear hfz6_1
  obtain ⟨kq, x14_1, rfl, HA, HJ1, BK117, HB⟩ := hcut
  cases kq with
  | zero => exact absurd HA.out (by simp [quorumref8_Pend.j0])
  | succ kj1 =>
   have H := HA.out
   clear HA
   simp only [quorumref8_Pend.j0] at H
   by_cases c7 : x14_1 = true
   ·subst c7
    have H1 : (some false) = some r := by rw [if_pos rfl] at H; exact H
    clear H
    have H := H1
    clear H1
    obtain rfl := Option.some.inj H
    go_wp2
    repeat (go_quiet (fail); try go_wp2)
    go_ret
    exact ⟨by first | rfl | (simp [errW_none, errW_some] <;> rfl) | (simp [*, errW_none, errW_some] <;> rfl), by repeat (first | (with_reducible first | exact HB.out | apply bL_ | apply pN_ | apply b1_ | refine bs_ ?_ GE117.out) | exact HB.out)⟩
   ·replace c7 := Bool.eq_false_iff.mpr c7
    subst c7
    have H1 : (quorumref8_Pend.l0 kj1 0 l0_0 l0_1) = some r := by rw [if_neg (show ¬ (false = true) by decide)] at H; exact H
    clear H
    have H := H1
    clear H1
    have H' := mk0 H
    clear H
    go_wp2
    repeat (go_quiet (fail); try go_wp2)
    go_loopg [3] kj1 (fun kq v3 w' => ∃ (x3_2 : Int), v3 = .int .i64 x3_2 ∧ Aside0 (quorumref8_Pend.l0 kq x3_2 l0_0 l0_1 = some r) ∧ Aside0 (kq ≤ kj1) ∧ Aside0 (w'.heap[gb117]? = some (.cells #[(.slice A0_0 l0_0.length c0_0), (.slice A0_1 l0_1.length c0_1)] 31 (0, 0))) ∧ Aside0 (Below w.heap.size w w'))
    case atStart => exact ⟨(0), (by first | rfl | (simp; done) | (simp [*]; done)), H', ⟨Nat.le_refl _⟩, ⟨by (with_reducible repeat (first | refine bN_ ?_ _ | refine bD_ ?_ | refine bA_ ?_ _)); exact BK117.out⟩, ⟨by repeat (first | (with_reducible first | exact HB.out | apply bL_ | apply pN_ | apply b1_ | refine bs_ ?_ GE117.out) | exact HB.out)⟩⟩
    case round =>
     clear H'
     try clear c1
     try clear p2
     try clear c4
     try clear c4b0
     try clear c4b1
     try clear c7
     try clear hcz5_0
     try clear hcz5_1
     try clear hcz6_0
     try clear hcz6_1
     try clear hfz5_0
     try clear hfz5_1
     try clear hfz6_0
     try clear hfz6_1
     try clear p2
     obtain ⟨x3_2, rfl, HA, HK2, BK117, HB⟩ := hrel
     cases gk with
     | zero => exact absurd HA.out (by simp [quorumref8_Pend.l0])
     | succ k2 =>
      have H := HA.out
      clear HA
      simp only [quorumref8_Pend.l0] at H
      by_cases c8 : x3_2 < (l0_0.length : Int)
      ·rw [if_pos c8] at H
       have c8b0 : decide (x3_2 < (l0_0.length : Int)) = true := decide_eq_true c8
       clear c8
       by_cases c9 : 0 ≤ x3_2
       ·rw [if_pos c9] at H
        have c9b0 : decide (0 ≤ x3_2) = true := decide_eq_true c9
        clear c9
        replace H := Option.bind_eq_some_iff.mp H
        obtain ⟨t119, A100, H⟩ := H
        replace H : (if t119 = true then (quorumref8_Pend.l0 k2 (wrap64 (x3_2 + 1)) l0_0 l0_1) else (some false)) = some r := H
        have A10 := mk0 A100
        clear A100
        by_cases c11 : t119 = true
        ·subst c11
         have H1 : (quorumref8_Pend.l0 k2 (wrap64 (x3_2 + 1)) l0_0 l0_1) = some r := by rw [if_pos rfl] at H; exact H
         clear H
         have H := H1
         clear H1
         have H' := mk0 H
         clear H
         have hcz12_0 : wr.cell? ⟨gb117, 0, none⟩ = some (.slice A0_0 l0_0.length c0_0) := (blk_cell BK117.out 0).trans rfl
         have hcz12_1 : wr.cell? ⟨gb117, 1, none⟩ = some (.slice A0_1 l0_1.length c0_1) := (blk_cell BK117.out 1).trans rfl
         have hfz12_0 := blk_frozen BK117.out 0
         have hfz12_1 := blk_frozen BK117.out 1
         have p118 : 0 ≤ (x3_2 : Int) := of_decide_eq_true (by first | (with_reducible assumption) | assumption)
         have q118 : x3_2 < (l0_0.length : Int) := of_decide_eq_true (by first | (with_reducible assumption) | assumption)
         obtain ⟨ad118, e118, hx118_0, hx118_1, hx118_2, hx118_3⟩ := at_T44 HR0_0.out x3_2 p118 q118
         cases e118
         replace hx118_0 := (HB.out.cell (World.block_lt_of_cell? w _ hx118_0)).trans hx118_0
         replace hx118_1 := (HB.out.cell (World.block_lt_of_cell? w _ hx118_1)).trans hx118_1
         replace hx118_2 := (HB.out.cell (World.block_lt_of_cell? w _ hx118_2)).trans hx118_2
         replace hx118_3 := (HB.out.cell (World.block_lt_of_cell? w _ hx118_3)).trans hx118_3
         replace p118 := eq_true p118
         replace q118 := eq_true q118
         go_wp2_with (first | (go_at_call 24; (with_reducible refine (quorumref8_Write.calls ((rd_T44 l0_0 x3_2).f0) ((rd_T44 l0_0 x3_2).f1) ((rd_T44 l0_0 x3_2).f2) ((rd_T44 l0_0 x3_2).f3) true _ A10.out).mono ?_); rintro e w13 ⟨rfl, hb⟩; have n0_ := mk0 (blk_below (g := gb117) (o := .cells #[.slice (some ad118) l0_0.length c0_0, .slice A0_1 l0_1.length c0_1] 31 (0, 0)) (by (with_reducible repeat (first | refine bN_ ?_ _ | refine bD_ ?_ | refine bA_ ?_ _)); exact BK117.out) hb); have n1_ := mk0 (bt_ (by repeat (first | (with_reducible first | exact HB.out | apply bL_ | apply pN_ | apply b1_ | refine bs_ ?_ GE117.out) | exact HB.out)) hb); clear BK117; clear HB; have BK117 := n0_; have HB := n1_; clear n0_ n1_; (try clear hb); (try clear hb2); (try clear hk); (try clear hi)))
         repeat (go_quiet (first | (go_at_call 24; (with_reducible refine (quorumref8_Write.calls ((rd_T44 l0_0 x3_2).f0) ((rd_T44 l0_0 x3_2).f1) ((rd_T44 l0_0 x3_2).f2) ((rd_T44 l0_0 x3_2).f3) true _ A10.out).mono ?_); rintro e w13 ⟨rfl, hb⟩; have n0_ := mk0 (blk_below (g := gb117) (o := .cells #[.slice (some ad118) l0_0.length c0_0, .slice A0_1 l0_1.length c0_1] 31 (0, 0)) (by (with_reducible repeat (first | refine bN_ ?_ _ | refine bD_ ?_ | refine bA_ ?_ _)); exact BK117.out) hb); have n1_ := mk0 (bt_ (by repeat (first | (with_reducible first | exact HB.out | apply bL_ | apply pN_ | apply b1_ | refine bs_ ?_ GE117.out) | exact HB.out)) hb); clear BK117; clear HB; have BK117 := n0_; have HB := n1_; clear n0_ n1_; (try clear hb); (try clear hb2); (try clear hk); (try clear hi))); try go_wp2_with (first | (go_at_call 24; (with_reducible refine (quorumref8_Write.calls ((rd_T44 l0_0 x3_2).f0) ((rd_T44 l0_0 x3_2).f1) ((rd_T44 l0_0 x3_2).f2) ((rd_T44 l0_0 x3_2).f3) true _ A10.out).mono ?_); rintro e w13 ⟨rfl, hb⟩; have n0_ := mk0 (blk_below (g := gb117) (o := .cells #[.slice (some ad118) l0_0.length c0_0, .slice A0_1 l0_1.length c0_1] 31 (0, 0)) (by (with_reducible repeat (first | refine bN_ ?_ _ | refine bD_ ?_ | refine bA_ ?_ _)); exact BK117.out) hb); have n1_ := mk0 (bt_ (by repeat (first | (with_reducible first | exact HB.out | apply bL_ | apply pN_ | apply b1_ | refine bs_ ?_ GE117.out) | exact HB.out)) hb); clear BK117; clear HB; have BK117 := n0_; have HB := n1_; clear n0_ n1_; (try clear hb); (try clear hb2); (try clear hk); (try clear hi))))
         go_roundg k2
         case measure => have := HJ1.out; have := HK2.out; omega
         case rel => exact ⟨(wrap64 (x3_2 + 1)), (by first | rfl | (simp; done) | (simp [*]; done)), H', ⟨by have := HJ1.out; have := HK2.out; omega⟩, ⟨by (with_reducible repeat (first | refine bN_ ?_ _ | refine bD_ ?_ | refine bA_ ?_ _)); exact BK117.out⟩, ⟨by repeat (first | (with_reducible first | exact HB.out | apply bL_ | apply pN_ | apply b1_ | refine bs_ ?_ GE117.out) | exact HB.out)⟩⟩
        ·replace c11 := Bool.eq_false_iff.mpr c11
         subst c11
         have H1 : (some false) = some r := by rw [if_neg (show ¬ (false = true) by decide)] at H; exact H
         clear H
         have H := H1
         clear H1
         obtain rfl := Option.some.inj H
         have hcz14_0 : wr.cell? ⟨gb117, 0, none⟩ = some (.slice A0_0 l0_0.length c0_0) := (blk_cell BK117.out 0).trans rfl
         have hcz14_1 : wr.cell? ⟨gb117, 1, none⟩ = some (.slice A0_1 l0_1.length c0_1) := (blk_cell BK117.out 1).trans rfl
         have hfz14_0 := blk_frozen BK117.out 0
         have hfz14_1 := blk_frozen BK117.out 1
         have p118 : 0 ≤ (x3_2 : Int) := of_decide_eq_true (by first | (with_reducible assumption) | assumption)
         have q118 : x3_2 < (l0_0.length : Int) := of_decide_eq_true (by first | (with_reducible assumption) | assumption)
         obtain ⟨ad118, e118, hx118_0, hx118_1, hx118_2, hx118_3⟩ := at_T44 HR0_0.out x3_2 p118 q118
         cases e118
         replace hx118_0 := (HB.out.cell (World.block_lt_of_cell? w _ hx118_0)).trans hx118_0
         replace hx118_1 := (HB.out.cell (World.block_lt_of_cell? w _ hx118_1)).trans hx118_1
         replace hx118_2 := (HB.out.cell (World.block_lt_of_cell? w _ hx118_2)).trans hx118_2
         replace hx118_3 := (HB.out.cell (World.block_lt_of_cell? w _ hx118_3)).trans hx118_3
         replace p118 := eq_true p118
         replace q118 := eq_true q118
         go_wp2_with (first | (go_at_call 24; (with_reducible refine (quorumref8_Write.calls ((rd_T44 l0_0 x3_2).f0) ((rd_T44 l0_0 x3_2).f1) ((rd_T44 l0_0 x3_2).f2) ((rd_T44 l0_0 x3_2).f3) false _ A10.out).mono ?_); rintro e w15 ⟨rfl, hb⟩; have n0_ := mk0 (blk_below (g := gb117) (o := .cells #[.slice (some ad118) l0_0.length c0_0, .slice A0_1 l0_1.length c0_1] 31 (0, 0)) (by (with_reducible repeat (first | refine bN_ ?_ _ | refine bD_ ?_ | refine bA_ ?_ _)); exact BK117.out) hb); have n1_ := mk0 (bt_ (by repeat (first | (with_reducible first | exact HB.out | apply bL_ | apply pN_ | apply b1_ | refine bs_ ?_ GE117.out) | exact HB.out)) hb); clear BK117; clear HB; have BK117 := n0_; have HB := n1_; clear n0_ n1_; (try clear hb); (try clear hb2); (try clear hk); (try clear hi)))
         repeat (go_quiet (first | (go_at_call 24; (with_reducible refine (quorumref8_Write.calls ((rd_T44 l0_0 x3_2).f0) ((rd_T44 l0_0 x3_2).f1) ((rd_T44 l0_0 x3_2).f2) ((rd_T44 l0_0 x3_2).f3) false _ A10.out).mono ?_); rintro e w15 ⟨rfl, hb⟩; have n0_ := mk0 (blk_below (g := gb117) (o := .cells #[.slice (some ad118) l0_0.length c0_0, .slice A0_1 l0_1.length c0_1] 31 (0, 0)) (by (with_reducible repeat (first | refine bN_ ?_ _ | refine bD_ ?_ | refine bA_ ?_ _)); exact BK117.out) hb); have n1_ := mk0 (bt_ (by repeat (first | (with_reducible first | exact HB.out | apply bL_ | apply pN_ | apply b1_ | refine bs_ ?_ GE117.out) | exact HB.out)) hb); clear BK117; clear HB; have BK117 := n0_; have HB := n1_; clear n0_ n1_; (try clear hb); (try clear hb2); (try clear hk); (try clear hi))); try go_wp2_with (first | (go_at_call 24; (with_reducible refine (quorumref8_Write.calls ((rd_T44 l0_0 x3_2).f0) ((rd_T44 l0_0 x3_2).f1) ((rd_T44 l0_0 x3_2).f2) ((rd_T44 l0_0 x3_2).f3) false _ A10.out).mono ?_); rintro e w15 ⟨rfl, hb⟩; have n0_ := mk0 (blk_below (g := gb117) (o := .cells #[.slice (some ad118) l0_0.length c0_0, .slice A0_1 l0_1.length c0_1] 31 (0, 0)) (by (with_reducible repeat (first | refine bN_ ?_ _ | refine bD_ ?_ | refine bA_ ?_ _)); exact BK117.out) hb); have n1_ := mk0 (bt_ (by repeat (first | (with_reducible first | exact HB.out | apply bL_ | apply pN_ | apply b1_ | refine bs_ ?_ GE117.out) | exact HB.out)) hb); clear BK117; clear HB; have BK117 := n0_; have HB := n1_; clear n0_ n1_; (try clear hb); (try clear hb2); (try clear hk); (try clear hi))))
         go_ret
         exact ⟨by first | rfl | (simp [errW_none, errW_some] <;> rfl) | (simp [*, errW_none, errW_some] <;> rfl), by repeat (first | (with_reducible first | exact HB.out | apply bL_ | apply pN_ | apply b1_ | refine bs_ ?_ GE117.out) | exact HB.out)⟩
       ·rw [if_neg c9] at H
        exact absurd H (by simp)
      ·rw [if_neg c8] at H
       have c8b0 : decide (x3_2 < (l0_0.length : Int)) = false := decide_eq_false c8
       clear c8
       have H' := mk0 H
       clear H
       have hcz16_0 : wr.cell? ⟨gb117, 0, none⟩ = some (.slice A0_0 l0_0.length c0_0) := (blk_cell BK117.out 0).trans rfl
       have hcz16_1 : wr.cell? ⟨gb117, 1, none⟩ = some (.slice A0_1 l0_1.length c0_1) := (blk_cell BK117.out 1).trans rfl
       have hfz16_0 := blk_frozen BK117.out 0
       have hfz16_1 := blk_frozen BK117.out 1
       go_wp2
       repeat (go_quiet (fail); try go_wp2)
       go_loopg [4] k2 (fun kq v4 w' => ∃ (x4_3 : Int), v4 = .int .i64 x4_3 ∧ Aside0 (quorumref8_Pend.l1 kq x4_3 l0_0 l0_1 = some r) ∧ Aside0 (kq ≤ k2) ∧ Aside0 (w'.heap[gb117]? = some (.cells #[(.slice A0_0 l0_0.length c0_0), (.slice A0_1 l0_1.length c0_1)] 31 (0, 0))) ∧ Aside0 (Below w.heap.size w w'))
       case atStart => exact ⟨(0), (by first | rfl | (simp; done) | (simp [*]; done)), H', ⟨Nat.le_refl _⟩, ⟨by (with_reducible repeat (first | refine bN_ ?_ _ | refine bD_ ?_ | refine bA_ ?_ _)); exact BK117.out⟩, ⟨by repeat (first | (with_reducible first | exact HB.out | apply bL_ | apply pN_ | apply b1_ | refine bs_ ?_ GE117.out) | exact HB.out)⟩⟩
       case round =>
        clear H'
        try clear c1
        try clear p1
        try clear q1
        try clear hx1
        try clear p2
        try clear c4
        try clear c4b0
        try clear c4b1
        try clear p6
        try clear c7
        try clear c8
        try clear c8b0
        try clear c9
        try clear c9b0
        try clear c11
        try clear p11
        try clear q11
        try clear hx11
        try clear c16
        try clear hcz12_0
        try clear hcz12_1
        try clear hcz14_0
        try clear hcz14_1
        try clear hcz16_0
        try clear hcz16_1
        try clear hcz5_0
        try clear hcz5_1
        try clear hcz6_0
        try clear hcz6_1
        try clear hfz12_0
        try clear hfz12_1
        try clear hfz14_0
        try clear hfz14_1
        try clear hfz16_0
        try clear hfz16_1
        try clear hfz5_0
        try clear hfz5_1
        try clear hfz6_0
        try clear hfz6_1
        try clear hx118_0
        try clear hx118_1
        try clear hx118_2
        try clear hx118_3
        try clear p118
        try clear p2
        try clear q118
        obtain ⟨x4_3, rfl, HA, HK3, BK117, HB⟩ := hrel
        cases gk with
        | zero => exact absurd HA.out (by simp [quorumref8_Pend.l1])
        | succ k3 =>
         have H := HA.out
         clear HA
         simp only [quorumref8_Pend.l1] at H
         by_cases c17 : x4_3 < (l0_1.length : Int)
         ·rw [if_pos c17] at H
          have c17b0 : decide (x4_3 < (l0_1.length : Int)) = true := decide_eq_true c17
          clear c17
          by_cases c18 : 0 ≤ x4_3
          ·rw [if_pos c18] at H
           have c18b0 : decide (0 ≤ x4_3) = true := decide_eq_true c18
           clear c18
           replace H := Option.bind_eq_some_iff.mp H
           obtain ⟨t121, A190, H⟩ := H
           replace H : (if t121 = true then (if x4_3 > 0 then (if 0 ≤ (wrap64 (x4_3 - 1)) then (if (wrap64 (x4_3 - 1)) < (l0_1.length : Int) then (if (rd l0_1 (wrap64 (x4_3 - 1))) > (rd l0_1 x4_3) then (some false) else (quorumref8_Pend.l1 k3 (wrap64 (x4_3 + 1)) l0_0 l0_1)) else (none)) else (none)) else (quorumref8_Pend.l1 k3 (wrap64 (x4_3 + 1)) l0_0 l0_1)) else (some false)) = some r := H
           have A19 := mk0 A190
           clear A190
           by_cases c20 : t121 = true
           ·subst c20
            have H1 : (if x4_3 > 0 then (if 0 ≤ (wrap64 (x4_3 - 1)) then (if (wrap64 (x4_3 - 1)) < (l0_1.length : Int) then (if (rd l0_1 (wrap64 (x4_3 - 1))) > (rd l0_1 x4_3) then (some false) else (quorumref8_Pend.l1 k3 (wrap64 (x4_3 + 1)) l0_0 l0_1)) else (none)) else (none)) else (quorumref8_Pend.l1 k3 (wrap64 (x4_3 + 1)) l0_0 l0_1)) = some r := by rw [if_pos rfl] at H; exact H
            clear H
            have H := H1
            clear H1
            by_cases c21 : x4_3 > 0
            ·rw [if_pos c21] at H
             have c21b0 : decide (0 < x4_3) = true := decide_eq_true c21
             clear c21
             obtain ⟨ji22, hji22⟩ : ∃ j_ : Int, (wrap64 (x4_3 - 1)) = j_ := ⟨_, rfl⟩
             replace H : (if 0 ≤ (ji22) then (if (ji22) < (l0_1.length : Int) then (if (rd l0_1 (ji22)) > (rd l0_1 x4_3) then (some false) else (quorumref8_Pend.l1 k3 (wrap64 (x4_3 + 1)) l0_0 l0_1)) else (none)) else (none)) = some r := by first | (rw [hji22] at H; exact H) | (simp only [hji22] at H ⊢; exact H)
             (try rw [hji22] at A19)
             have hji22w : (IntKind.i64.wrap (x4_3 - 1)) = ji22 := (i64_w _).trans hji22
             by_cases c23 : 0 ≤ (ji22)
             ·rw [if_pos c23] at H
              have c23b0 : decide (0 ≤ (ji22)) = true := decide_eq_true c23
              clear c23
              by_cases c24 : (ji22) < (l0_1.length : Int)
              ·rw [if_pos c24] at H
               have c24b0 : decide ((ji22) < (l0_1.length : Int)) = true := decide_eq_true c24
               clear c24
               by_cases c25 : (rd l0_1 (ji22)) > (rd l0_1 x4_3)
               ·rw [if_pos c25] at H
                have c25b0 : decide ((rd l0_1 x4_3) < (rd l0_1 (ji22))) = true := decide_eq_true c25
                clear c25
                obtain rfl := Option.some.inj H
                have hcz26_0 : wr.cell? ⟨gb117, 0, none⟩ = some (.slice A0_0 l0_0.length c0_0) := (blk_cell BK117.out 0).trans rfl
                have hcz26_1 : wr.cell? ⟨gb117, 1, none⟩ = some (.slice A0_1 l0_1.length c0_1) := (blk_cell BK117.out 1).trans rfl
                have hfz26_0 := blk_frozen BK117.out 0
                have hfz26_1 := blk_frozen BK117.out 1
                have p120 : 0 ≤ (x4_3 : Int) := of_decide_eq_true (by first | (with_reducible assumption) | assumption)
                have q120 : x4_3 < (l0_1.length : Int) := of_decide_eq_true (by first | (with_reducible assumption) | assumption)
                obtain ⟨ad120, e120, hx120_0⟩ := Kd.at_int HR0_1.out x4_3 p120 q120
                cases e120
                replace hx120_0 := (HB.out.cell (World.block_lt_of_cell? w _ hx120_0)).trans hx120_0
                replace p120 := eq_true p120
                replace q120 := eq_true q120
                go_wp2_with (first | (go_at_call 25; (with_reducible refine (quorumref0_Num.calls (rd l0_1 x4_3) (l0_0.length : Int) true _ A19.out).mono ?_); rintro e w' ⟨rfl, ⟨nd, rfl⟩⟩; (try first | exact ⟨rfl, _, World.drewN_drewN _ _ _⟩ | exact ⟨rfl, _, Eq.trans (World.drewN_drewN _ _ _) (congrArg (World.drewN _) (Nat.add_assoc _ _ _))⟩); have p122 : 0 ≤ ((ji22) : Int) := of_decide_eq_true (by first | (with_reducible assumption) | assumption); have q122 : (ji22) < (l0_1.length : Int) := of_decide_eq_true (by first | (with_reducible assumption) | assumption); obtain ⟨ad122, e122, hx122_0⟩ := Kd.at_int HR0_1.out (ji22) p122 q122; obtain rfl : ad120 = ad122 := (by injection e122); replace hx122_0 := (HB.out.cell (World.block_lt_of_cell? w _ hx122_0)).trans hx122_0; replace p122 := eq_true p122; replace q122 := eq_true q122; have p123 : 0 ≤ (x4_3 : Int) := of_decide_eq_true (by first | (with_reducible assumption) | assumption); have q123 : x4_3 < (l0_1.length : Int) := of_decide_eq_true (by first | (with_reducible assumption) | assumption); obtain ⟨ad123, e123, hx123_0⟩ := Kd.at_int HR0_1.out x4_3 p123 q123; obtain rfl : ad120 = ad123 := (by injection e123); replace hx123_0 := (HB.out.cell (World.block_lt_of_cell? w _ hx123_0)).trans hx123_0; replace p123 := eq_true p123; replace q123 := eq_true q123))
                repeat (go_quiet (first | (go_at_call 25; (with_reducible refine (quorumref0_Num.calls (rd l0_1 x4_3) (l0_0.length : Int) true _ A19.out).mono ?_); rintro e w' ⟨rfl, ⟨nd, rfl⟩⟩; (try first | exact ⟨rfl, _, World.drewN_drewN _ _ _⟩ | exact ⟨rfl, _, Eq.trans (World.drewN_drewN _ _ _) (congrArg (World.drewN _) (Nat.add_assoc _ _ _))⟩); have p122 : 0 ≤ ((ji22) : Int) := of_decide_eq_true (by first | (with_reducible assumption) | assumption); have q122 : (ji22) < (l0_1.length : Int) := of_decide_eq_true (by first | (with_reducible assumption) | assumption); obtain ⟨ad122, e122, hx122_0⟩ := Kd.at_int HR0_1.out (ji22) p122 q122; obtain rfl : ad120 = ad122 := (by injection e122); replace hx122_0 := (HB.out.cell (World.block_lt_of_cell? w _ hx122_0)).trans hx122_0; replace p122 := eq_true p122; replace q122 := eq_true q122; have p123 : 0 ≤ (x4_3 : Int) := of_decide_eq_true (by first | (with_reducible assumption) | assumption); have q123 : x4_3 < (l0_1.length : Int) := of_decide_eq_true (by first | (with_reducible assumption) | assumption); obtain ⟨ad123, e123, hx123_0⟩ := Kd.at_int HR0_1.out x4_3 p123 q123; obtain rfl : ad120 = ad123 := (by injection e123); replace hx123_0 := (HB.out.cell (World.block_lt_of_cell? w _ hx123_0)).trans hx123_0; replace p123 := eq_true p123; replace q123 := eq_true q123)); try go_wp2_with (first | (go_at_call 25; (with_reducible refine (quorumref0_Num.calls (rd l0_1 x4_3) (l0_0.length : Int) true _ A19.out).mono ?_); rintro e w' ⟨rfl, ⟨nd, rfl⟩⟩; (try first | exact ⟨rfl, _, World.drewN_drewN _ _ _⟩ | exact ⟨rfl, _, Eq.trans (World.drewN_drewN _ _ _) (congrArg (World.drewN _) (Nat.add_assoc _ _ _))⟩); have p122 : 0 ≤ ((ji22) : Int) := of_decide_eq_true (by first | (with_reducible assumption) | assumption); have q122 : (ji22) < (l0_1.length : Int) := of_decide_eq_true (by first | (with_reducible assumption) | assumption); obtain ⟨ad122, e122, hx122_0⟩ := Kd.at_int HR0_1.out (ji22) p122 q122; obtain rfl : ad120 = ad122 := (by injection e122); replace hx122_0 := (HB.out.cell (World.block_lt_of_cell? w _ hx122_0)).trans hx122_0; replace p122 := eq_true p122; replace q122 := eq_true q122; have p123 : 0 ≤ (x4_3 : Int) := of_decide_eq_true (by first | (with_reducible assumption) | assumption); have q123 : x4_3 < (l0_1.length : Int) := of_decide_eq_true (by first | (with_reducible assumption) | assumption); obtain ⟨ad123, e123, hx123_0⟩ := Kd.at_int HR0_1.out x4_3 p123 q123; obtain rfl : ad120 = ad123 := (by injection e123); replace hx123_0 := (HB.out.cell (World.block_lt_of_cell? w _ hx123_0)).trans hx123_0; replace p123 := eq_true p123; replace q123 := eq_true q123)))
                go_ret
                exact ⟨by first | rfl | (simp [errW_none, errW_some] <;> rfl) | (simp only [← hji22]; first | rfl | (simp [errW_none, errW_some] <;> rfl)) | (simp [*, errW_none, errW_some] <;> rfl), by repeat (first | (with_reducible first | exact HB.out | apply bL_ | apply pN_ | apply b1_ | refine bs_ ?_ GE117.out) | exact HB.out)⟩
               ·rw [if_neg c25] at H
                have c25b0 : decide ((rd l0_1 x4_3) < (rd l0_1 (ji22))) = false := decide_eq_false c25
                clear c25
                have H' := mk0 H
                clear H
                have hcz27_0 : wr.cell? ⟨gb117, 0, none⟩ = some (.slice A0_0 l0_0.length c0_0) := (blk_cell BK117.out 0).trans rfl
                have hcz27_1 : wr.cell? ⟨gb117, 1, none⟩ = some (.slice A0_1 l0_1.length c0_1) := (blk_cell BK117.out 1).trans rfl
                have hfz27_0 := blk_frozen BK117.out 0
                have hfz27_1 := blk_frozen BK117.out 1
                have p120 : 0 ≤ (x4_3 : Int) := of_decide_eq_true (by first | (with_reducible assumption) | assumption)
                have q120 : x4_3 < (l0_1.length : Int) := of_decide_eq_true (by first | (with_reducible assumption) | assumption)
                obtain ⟨ad120, e120, hx120_0⟩ := Kd.at_int HR0_1.out x4_3 p120 q120
                cases e120
                replace hx120_0 := (HB.out.cell (World.block_lt_of_cell? w _ hx120_0)).trans hx120_0
                replace p120 := eq_true p120
                replace q120 := eq_true q120
                go_wp2_with (first | (go_at_call 25; (with_reducible refine (quorumref0_Num.calls (rd l0_1 x4_3) (l0_0.length : Int) true _ A19.out).mono ?_); rintro e w' ⟨rfl, ⟨nd, rfl⟩⟩; (try first | exact ⟨rfl, _, World.drewN_drewN _ _ _⟩ | exact ⟨rfl, _, Eq.trans (World.drewN_drewN _ _ _) (congrArg (World.drewN _) (Nat.add_assoc _ _ _))⟩); have p122 : 0 ≤ ((ji22) : Int) := of_decide_eq_true (by first | (with_reducible assumption) | assumption); have q122 : (ji22) < (l0_1.length : Int) := of_decide_eq_true (by first | (with_reducible assumption) | assumption); obtain ⟨ad122, e122, hx122_0⟩ := Kd.at_int HR0_1.out (ji22) p122 q122; obtain rfl : ad120 = ad122 := (by injection e122); replace hx122_0 := (HB.out.cell (World.block_lt_of_cell? w _ hx122_0)).trans hx122_0; replace p122 := eq_true p122; replace q122 := eq_true q122; have p123 : 0 ≤ (x4_3 : Int) := of_decide_eq_true (by first | (with_reducible assumption) | assumption); have q123 : x4_3 < (l0_1.length : Int) := of_decide_eq_true (by first | (with_reducible assumption) | assumption); obtain ⟨ad123, e123, hx123_0⟩ := Kd.at_int HR0_1.out x4_3 p123 q123; obtain rfl : ad120 = ad123 := (by injection e123); replace hx123_0 := (HB.out.cell (World.block_lt_of_cell? w _ hx123_0)).trans hx123_0; replace p123 := eq_true p123; replace q123 := eq_true q123))
                repeat (go_quiet (first | (go_at_call 25; (with_reducible refine (quorumref0_Num.calls (rd l0_1 x4_3) (l0_0.length : Int) true _ A19.out).mono ?_); rintro e w' ⟨rfl, ⟨nd, rfl⟩⟩; (try first | exact ⟨rfl, _, World.drewN_drewN _ _ _⟩ | exact ⟨rfl, _, Eq.trans (World.drewN_drewN _ _ _) (congrArg (World.drewN _) (Nat.add_assoc _ _ _))⟩); have p122 : 0 ≤ ((ji22) : Int) := of_decide_eq_true (by first | (with_reducible assumption) | assumption); have q122 : (ji22) < (l0_1.length : Int) := of_decide_eq_true (by first | (with_reducible assumption) | assumption); obtain ⟨ad122, e122, hx122_0⟩ := Kd.at_int HR0_1.out (ji22) p122 q122; obtain rfl : ad120 = ad122 := (by injection e122); replace hx122_0 := (HB.out.cell (World.block_lt_of_cell? w _ hx122_0)).trans hx122_0; replace p122 := eq_true p122; replace q122 := eq_true q122; have p123 : 0 ≤ (x4_3 : Int) := of_decide_eq_true (by first | (with_reducible assumption) | assumption); have q123 : x4_3 < (l0_1.length : Int) := of_decide_eq_true (by first | (with_reducible assumption) | assumption); obtain ⟨ad123, e123, hx123_0⟩ := Kd.at_int HR0_1.out x4_3 p123 q123; obtain rfl : ad120 = ad123 := (by injection e123); replace hx123_0 := (HB.out.cell (World.block_lt_of_cell? w _ hx123_0)).trans hx123_0; replace p123 := eq_true p123; replace q123 := eq_true q123)); try go_wp2_with (first | (go_at_call 25; (with_reducible refine (quorumref0_Num.calls (rd l0_1 x4_3) (l0_0.length : Int) true _ A19.out).mono ?_); rintro e w' ⟨rfl, ⟨nd, rfl⟩⟩; (try first | exact ⟨rfl, _, World.drewN_drewN _ _ _⟩ | exact ⟨rfl, _, Eq.trans (World.drewN_drewN _ _ _) (congrArg (World.drewN _) (Nat.add_assoc _ _ _))⟩); have p122 : 0 ≤ ((ji22) : Int) := of_decide_eq_true (by first | (with_reducible assumption) | assumption); have q122 : (ji22) < (l0_1.length : Int) := of_decide_eq_true (by first | (with_reducible assumption) | assumption); obtain ⟨ad122, e122, hx122_0⟩ := Kd.at_int HR0_1.out (ji22) p122 q122; obtain rfl : ad120 = ad122 := (by injection e122); replace hx122_0 := (HB.out.cell (World.block_lt_of_cell? w _ hx122_0)).trans hx122_0; replace p122 := eq_true p122; replace q122 := eq_true q122; have p123 : 0 ≤ (x4_3 : Int) := of_decide_eq_true (by first | (with_reducible assumption) | assumption); have q123 : x4_3 < (l0_1.length : Int) := of_decide_eq_true (by first | (with_reducible assumption) | assumption); obtain ⟨ad123, e123, hx123_0⟩ := Kd.at_int HR0_1.out x4_3 p123 q123; obtain rfl : ad120 = ad123 := (by injection e123); replace hx123_0 := (HB.out.cell (World.block_lt_of_cell? w _ hx123_0)).trans hx123_0; replace p123 := eq_true p123; replace q123 := eq_true q123)))
                go_roundg k3
                case measure => have := HJ1.out; have := HK2.out; have := HK3.out; omega
                case rel => exact ⟨(wrap64 (x4_3 + 1)), (by first | rfl | (simp; done) | (simp [*]; done)), H', ⟨by have := HJ1.out; have := HK2.out; have := HK3.out; omega⟩, ⟨by (with_reducible repeat (first | refine bN_ ?_ _ | refine bD_ ?_ | refine bA_ ?_ _)); exact BK117.out⟩, ⟨by repeat (first | (with_reducible first | exact HB.out | apply bL_ | apply pN_ | apply b1_ | refine bs_ ?_ GE117.out) | exact HB.out)⟩⟩
              ·rw [if_neg c24] at H
               exact absurd H (by simp)
             ·rw [if_neg c23] at H
              exact absurd H (by simp)
            ·rw [if_neg c21] at H
             have c21b0 : decide (0 < x4_3) = false := decide_eq_false c21
             clear c21
             have H' := mk0 H
             clear H
             have hcz28_0 : wr.cell? ⟨gb117, 0, none⟩ = some (.slice A0_0 l0_0.length c0_0) := (blk_cell BK117.out 0).trans rfl
             have hcz28_1 : wr.cell? ⟨gb117, 1, none⟩ = some (.slice A0_1 l0_1.length c0_1) := (blk_cell BK117.out 1).trans rfl
             have hfz28_0 := blk_frozen BK117.out 0
             have hfz28_1 := blk_frozen BK117.out 1
             have p120 : 0 ≤ (x4_3 : Int) := of_decide_eq_true (by first | (with_reducible assumption) | assumption)
             have q120 : x4_3 < (l0_1.length : Int) := of_decide_eq_true (by first | (with_reducible assumption) | assumption)
             obtain ⟨ad120, e120, hx120_0⟩ := Kd.at_int HR0_1.out x4_3 p120 q120
             cases e120
             replace hx120_0 := (HB.out.cell (World.block_lt_of_cell? w _ hx120_0)).trans hx120_0
             replace p120 := eq_true p120
             replace q120 := eq_true q120
             go_wp2_with (first | (go_at_call 25; (with_reducible refine (quorumref0_Num.calls (rd l0_1 x4_3) (l0_0.length : Int) true _ A19.out).mono ?_); rintro e w' ⟨rfl, ⟨nd, rfl⟩⟩; (try first | exact ⟨rfl, _, World.drewN_drewN _ _ _⟩ | exact ⟨rfl, _, Eq.trans (World.drewN_drewN _ _ _) (congrArg (World.drewN _) (Nat.add_assoc _ _ _))⟩)))
             repeat (go_quiet (first | (go_at_call 25; (with_reducible refine (quorumref0_Num.calls (rd l0_1 x4_3) (l0_0.length : Int) true _ A19.out).mono ?_); rintro e w' ⟨rfl, ⟨nd, rfl⟩⟩; (try first | exact ⟨rfl, _, World.drewN_drewN _ _ _⟩ | exact ⟨rfl, _, Eq.trans (World.drewN_drewN _ _ _) (congrArg (World.drewN _) (Nat.add_assoc _ _ _))⟩))); try go_wp2_with (first | (go_at_call 25; (with_reducible refine (quorumref0_Num.calls (rd l0_1 x4_3) (l0_0.length : Int) true _ A19.out).mono ?_); rintro e w' ⟨rfl, ⟨nd, rfl⟩⟩; (try first | exact ⟨rfl, _, World.drewN_drewN _ _ _⟩ | exact ⟨rfl, _, Eq.trans (World.drewN_drewN _ _ _) (congrArg (World.drewN _) (Nat.add_assoc _ _ _))⟩))))
             go_roundg k3
             case measure => have := HJ1.out; have := HK2.out; have := HK3.out; omega
             case rel => exact ⟨(wrap64 (x4_3 + 1)), (by first | rfl | (simp; done) | (simp [*]; done)), H', ⟨by have := HJ1.out; have := HK2.out; have := HK3.out; omega⟩, ⟨by (with_reducible repeat (first | refine bN_ ?_ _ | refine bD_ ?_ | refine bA_ ?_ _)); exact BK117.out⟩, ⟨by repeat (first | (with_reducible first | exact HB.out | apply bL_ | apply pN_ | apply b1_ | refine bs_ ?_ GE117.out) | exact HB.out)⟩⟩
           ·replace c20 := Bool.eq_false_iff.mpr c20
            subst c20
            have H1 : (some false) = some r := by rw [if_neg (show ¬ (false = true) by decide)] at H; exact H
            clear H
            have H := H1
            clear H1
            obtain rfl := Option.some.inj H
            have hcz29_0 : wr.cell? ⟨gb117, 0, none⟩ = some (.slice A0_0 l0_0.length c0_0) := (blk_cell BK117.out 0).trans rfl
            have hcz29_1 : wr.cell? ⟨gb117, 1, none⟩ = some (.slice A0_1 l0_1.length c0_1) := (blk_cell BK117.out 1).trans rfl
            have hfz29_0 := blk_frozen BK117.out 0
            have hfz29_1 := blk_frozen BK117.out 1
            have p120 : 0 ≤ (x4_3 : Int) := of_decide_eq_true (by first | (with_reducible assumption) | assumption)
            have q120 : x4_3 < (l0_1.length : Int) := of_decide_eq_true (by first | (with_reducible assumption) | assumption)
            obtain ⟨ad120, e120, hx120_0⟩ := Kd.at_int HR0_1.out x4_3 p120 q120
            cases e120
            replace hx120_0 := (HB.out.cell (World.block_lt_of_cell? w _ hx120_0)).trans hx120_0
            replace p120 := eq_true p120
            replace q120 := eq_true q120
            go_wp2_with (first | (go_at_call 25; (with_reducible refine (quorumref0_Num.calls (rd l0_1 x4_3) (l0_0.length : Int) false _ A19.out).mono ?_); rintro e w' ⟨rfl, ⟨nd, rfl⟩⟩; (try first | exact ⟨rfl, _, World.drewN_drewN _ _ _⟩ | exact ⟨rfl, _, Eq.trans (World.drewN_drewN _ _ _) (congrArg (World.drewN _) (Nat.add_assoc _ _ _))⟩)))
            repeat (go_quiet (first | (go_at_call 25; (with_reducible refine (quorumref0_Num.calls (rd l0_1 x4_3) (l0_0.length : Int) false _ A19.out).mono ?_); rintro e w' ⟨rfl, ⟨nd, rfl⟩⟩; (try first | exact ⟨rfl, _, World.drewN_drewN _ _ _⟩ | exact ⟨rfl, _, Eq.trans (World.drewN_drewN _ _ _) (congrArg (World.drewN _) (Nat.add_assoc _ _ _))⟩))); try go_wp2_with (first | (go_at_call 25; (with_reducible refine (quorumref0_Num.calls (rd l0_1 x4_3) (l0_0.length : Int) false _ A19.out).mono ?_); rintro e w' ⟨rfl, ⟨nd, rfl⟩⟩; (try first | exact ⟨rfl, _, World.drewN_drewN _ _ _⟩ | exact ⟨rfl, _, Eq.trans (World.drewN_drewN _ _ _) (congrArg (World.drewN _) (Nat.add_assoc _ _ _))⟩))))
            go_ret
            exact ⟨by first | rfl | (simp [errW_none, errW_some] <;> rfl) | (simp [*, errW_none, errW_some] <;> rfl), by repeat (first | (with_reducible first | exact HB.out | apply bL_ | apply pN_ | apply b1_ | refine bs_ ?_ GE117.out) | exact HB.out)⟩
          ·rw [if_neg c18] at H
           exact absurd H (by simp)
         ·rw [if_neg c17] at H
          have c17b0 : decide (x4_3 < (l0_1.length : Int)) = false := decide_eq_false c17
          clear c17
          obtain rfl := Option.some.inj H
          have hcz30_0 : wr.cell? ⟨gb117, 0, none⟩ = some (.slice A0_0 l0_0.length c0_0) := (blk_cell BK117.out 0).trans rfl
          have hcz30_1 : wr.cell? ⟨gb117, 1, none⟩ = some (.slice A0_1 l0_1.length c0_1) := (blk_cell BK117.out 1).trans rfl
          have hfz30_0 := blk_frozen BK117.out 0
          have hfz30_1 := blk_frozen BK117.out 1
          go_wp2
          repeat (go_quiet (fail); try go_wp2)
          go_ret
          exact ⟨by first | rfl | (simp [errW_none, errW_some] <;> rfl) | (simp [*, errW_none, errW_some] <;> rfl), by repeat (first | (with_reducible first | exact HB.out | apply bL_ | apply pN_ | apply b1_ | refine bs_ ?_ GE117.out) | exact HB.out)⟩

/-! ### key_Is: function 39 -/
def key_Is.f (a0 : ByteArray) : Option (Bool) := if a0.toList = ([] : List UInt8) then (some false) else (some (decide ((a0.size : Int) ≤ 12)))
set_option maxHeartbeats 8000000 in
set_option maxRecDepth 100000 in
theorem key_Is.calls (a0 : ByteArray) (r : Bool) (w : World) (h : key_Is.f a0 = some r) :
  Calls Try.prog 39 #[.string a0] w fun e w' => e = .returned (.bool r) ∧ Drawn0 w w' := by
 have H : (if a0.toList = ([] : List UInt8) then (some false) else (some (decide ((a0.size : Int) ≤ 12)))) = some r := h
 clear h
 by_cases c2 : a0.toList = ([] : List UInt8)
 ·rw [if_pos c2] at H
  have c2b0 : (a0.toList == ([] : List UInt8)) = true := beq_iff_eq.mpr c2
  have c2b1 : (a0.toList != ([] : List UInt8)) = false := bne_eq_false_iff_eq.mpr c2
  clear c2
  obtain rfl := Option.some.inj H
  go_enter Try.func39, Try.ntmps39
  go_wp2
  go_ret
  exact ⟨by first | rfl | (simp; done) | (simp [*]; done), by repeat (first | exact Drawn0.refl _ | apply Drawn0.step)⟩
 ·rw [if_neg c2] at H
  have c2b0 : (a0.toList == ([] : List UInt8)) = false := beq_eq_false_iff_ne.mpr c2
  have c2b1 : (a0.toList != ([] : List UInt8)) = true := bne_iff_ne.mpr c2
  obtain rfl := Option.some.inj H
  go_enter Try.func39, Try.ntmps39
  go_wp2
  go_ret
  exact ⟨by first | rfl | (simp; done) | (simp [*]; done), by repeat (first | exact Drawn0.refl _ | apply Drawn0.step)⟩

/-! ### key_Fits: function 41 -/
def key_Fits.f (a0 : ByteArray) : Option (Bool) := some (decide ((a0.size : Int) ≤ 20))
set_option maxHeartbeats 8000000 in
set_option maxRecDepth 100000 in
theorem key_Fits.calls (a0 : ByteArray) (r : Bool) (w : World) (h : key_Fits.f a0 = some r) :
  Calls Try.prog 41 #[.string a0] w fun e w' => e = .returned (.bool r) ∧ Drawn0 w w' := by
 have H : (some (decide ((a0.size : Int) ≤ 20))) = some r := h
 clear h
 obtain rfl := Option.some.inj H
 go_enter Try.func41, Try.ntmps41
 go_wp2
 go_ret
 exact ⟨by first | rfl | (simp; done) | (simp [*]; done), by repeat (first | exact Drawn0.refl _ | apply Drawn0.step)⟩

/-! ### key_May: function 42 -/
def key_May.j0 : Nat → Bool → ByteArray → ByteArray → Bool → Option (Bool)
 | 0, _, _, _, _ => none
 | k + 1, x12, x125000, x125001, x125002 => if x12 = true then (some false) else (if x125002 = true then (some (x125001.toList == ([] : List UInt8))) else (some (!(Op.bytesLess x125001.toList x125000.toList))))
def key_May.f (k : Nat) (a0_0 : ByteArray) (a0_1 : ByteArray) (a0_2 : Bool) : Option (Bool) := if (a0_0.size : Int) > 13 then (key_May.j0 k true a0_0 a0_1 a0_2) else (key_May.j0 k (decide ((a0_1.size : Int) > 13)) a0_0 a0_1 a0_2)
theorem key_May.mono_l : ∀ k, (∀ y0 y1 y2 y3, LeO (key_May.j0 k y0 y1 y2 y3) (key_May.j0 (k + 1) y0 y1 y2 y3))
 | 0 => fun _ _ _ _ r h => by simp [key_May.j0] at h
 | k + 1 => by
  have ih0 := key_May.mono_l k
  ·intro y0 y1 y2 y3
   unfold key_May.j0
   repeat' first
   | (with_reducible exact ih0 _ _ _ _)
   | (with_reducible exact LeO.refl _)
   | (with_reducible exact LeO.none _)
   | (with_reducible refine LeO.ite ?_ ?_)
   | (with_reducible refine LeO.bind ?_ (fun _ => ?_))
   | exact ih0 _ _ _ _
   | exact LeO.none _
   | refine LeO.ite ?_ ?_
   | refine LeO.bind ?_ (fun _ => ?_)
theorem key_May.mono : ∀ a0 a1 a2 k, LeO (key_May.f k a0 a1 a2) (key_May.f (k + 1) a0 a1 a2) := by
 intro a0 a1 a2 k
 have ih0 := key_May.mono_l k
 unfold key_May.f
 repeat' first
   | (with_reducible exact ih0 _ _ _ _)
   | (with_reducible exact LeO.refl _)
   | (with_reducible exact LeO.none _)
   | (with_reducible refine LeO.ite ?_ ?_)
   | (with_reducible refine LeO.bind ?_ (fun _ => ?_))
   | exact ih0 _ _ _ _
   | exact LeO.none _
   | refine LeO.ite ?_ ?_
   | refine LeO.bind ?_ (fun _ => ?_)
set_option maxHeartbeats 8000000 in
set_option maxRecDepth 100000 in
theorem key_May.calls (k : Nat) (a0_0 : ByteArray) (a0_1 : ByteArray) (a0_2 : Bool) (r : Bool) (w : World) (h : key_May.f k a0_0 a0_1 a0_2 = some r) :
  Calls Try.prog 42 #[.agg #[.string a0_0, .string a0_1, .bool a0_2]] w fun e w' => e = .returned (.bool r) ∧ Below w.heap.size w w' := by
 have hu37 := Try.underlying37
 have HB := mk0 (Below.refl w.heap.size w)
 have H : (if (a0_0.size : Int) > 13 then (key_May.j0 k true a0_0 a0_1 a0_2) else (key_May.j0 k (decide ((a0_1.size : Int) > 13)) a0_0 a0_1 a0_2)) = some r := h
 clear h
 have HC2 := mk0 H
 clear H
 go_enter Try.func42, Try.ntmps42
 go_upto_region 1 with (first | ((with_reducible refine gate_dst (N := 1) rfl ?_); (try (refine gate_guard (by rfl) ?_; dsimp only)); refine box_event ?hg (N := 1) ?hd (cs := #[.string a0_0, .string a0_1, .bool a0_2]) (t := 37) ?hr ?_; (case hd => rfl); (case hg => rfl); (case hr => first | (go_simp; done) | (go_simp; rfl)); intro gb124 hg w3 hbox hb; have n0_ := mk0 (bt_ (by repeat (first | (with_reducible first | exact HB.out | apply bL_ | apply pN_ | apply b1_) | exact HB.out)) hb); have n1_ := mk0 (hbox); have n2_ := mk0 ((by rw [hg]; exact (bz_ (by repeat (first | (with_reducible first | exact HB.out | apply bL_ | apply pN_ | apply b1_) | exact HB.out))) : w.heap.size ≤ gb124)); have n3_ := mk0 ((by rw [hg]; exact (bz_ (by repeat (first | (with_reducible first | exact HB.out | apply bL_ | apply pN_ | apply b1_) | exact HB.out))) : w.heap.size ≤ gb124)); clear HB; have HB := n0_; have BK124 := n1_; have GW124 := n2_; have GE124 := n3_; clear n0_ n1_ n2_ n3_; clear hb hbox hg))
 (try simp only [Act.put, List.setIfInBounds_toArray, List.set_cons_zero, List.set_cons_succ])
 go_cut [12] (fun v12 wc => ∃ (kq : Nat) (x12_1 : Bool), v12 = .bool x12_1 ∧ Aside0 (key_May.j0 kq x12_1 a0_0 a0_1 a0_2 = some r) ∧ Aside0 (kq ≤ k) ∧ Aside0 (wc.heap[gb124]? = some (.cells #[.string a0_0, .string a0_1, .bool a0_2] 37 (0, 0))) ∧ Aside0 (Below w.heap.size w wc))
 case first =>
  have H := HC2.out
  clear HC2
  by_cases c4 : (a0_0.size : Int) > 13
  ·rw [if_pos c4] at H
   have c4b0 : decide (13 < (a0_0.size : Int)) = true := decide_eq_true c4
   have c4b1 : decide (13 < a0_0.size) = true := decide_eq_true (by omega)
   clear c4
   (first | rw [c4b0] | (simp only [i64_w, i32_w]; rw [c4b0]) | skip)
   have H' := mk0 H
   clear H
   have hcz5_0 : w3.cell? ⟨gb124, 0, none⟩ = some (.string a0_0) := (blk_cell BK124.out 0).trans rfl
   have hcz5_1 : w3.cell? ⟨gb124, 1, none⟩ = some (.string a0_1) := (blk_cell BK124.out 1).trans rfl
   have hcz5_2 : w3.cell? ⟨gb124, 2, none⟩ = some (.bool a0_2) := (blk_cell BK124.out 2).trans rfl
   have hfz5_0 := blk_frozen BK124.out 0
   have hfz5_1 := blk_frozen BK124.out 1
   have hfz5_2 := blk_frozen BK124.out 2
   go_wp2
   go_meet
   case rel => exact ⟨_, (true), (by first | rfl | (simp; done) | (simp [*]; done)), H', ⟨by first | omega | exact Nat.le_refl _⟩, ⟨by (with_reducible repeat (first | refine bN_ ?_ _ | refine bD_ ?_ | refine bA_ ?_ _)); exact BK124.out⟩, ⟨by repeat (first | (with_reducible first | exact HB.out | apply bL_ | apply pN_ | apply b1_ | refine bs_ ?_ GE124.out) | exact HB.out)⟩⟩
  ·rw [if_neg c4] at H
   have c4b0 : decide (13 < (a0_0.size : Int)) = false := decide_eq_false c4
   have c4b1 : decide (13 < a0_0.size) = false := decide_eq_false (by omega)
   clear c4
   (first | rw [c4b0] | (simp only [i64_w, i32_w]; rw [c4b0]) | skip)
   have H' := mk0 H
   clear H
   have hcz6_0 : w3.cell? ⟨gb124, 0, none⟩ = some (.string a0_0) := (blk_cell BK124.out 0).trans rfl
   have hcz6_1 : w3.cell? ⟨gb124, 1, none⟩ = some (.string a0_1) := (blk_cell BK124.out 1).trans rfl
   have hcz6_2 : w3.cell? ⟨gb124, 2, none⟩ = some (.bool a0_2) := (blk_cell BK124.out 2).trans rfl
   have hfz6_0 := blk_frozen BK124.out 0
   have hfz6_1 := blk_frozen BK124.out 1
   have hfz6_2 := blk_frozen BK124.out 2
   go_wp2
   go_meet
   case rel => exact ⟨_, (decide ((a0_1.size : Int) > 13)), (by first | rfl | (simp; done) | (simp [*]; done)), H', ⟨by first | omega | exact Nat.le_refl _⟩, ⟨by (with_reducible repeat (first | refine bN_ ?_ _ | refine bD_ ?_ | refine bA_ ?_ _)); exact BK124.out⟩, ⟨by repeat (first | (with_reducible first | exact HB.out | apply bL_ | apply pN_ | apply b1_ | refine bs_ ?_ GE124.out) | exact HB.out)⟩⟩
 case rest =>
  clear HC2
  try clear p2
  try clear c4
  try clear c4b0
  try clear c4b1
  try clear hcz5_0
  try clear hcz5_1
  try clear hcz5_2
  try clear hcz6_0
  try clear hcz6_1
  try clear hcz6_2
  try clear hfz5_0
  try clear hfz5_1
  try clear hfz5_2
  try clear hfz6_0
  try clear hfz6_1
  try clear hfz6_2
  obtain ⟨kq, x12_1, rfl, HA, HJ1, BK124, HB⟩ := hcut
  cases kq with
  | zero => exact absurd HA.out (by simp [key_May.j0])
  | succ kj1 =>
   have H := HA.out
   clear HA
   simp only [key_May.j0] at H
   by_cases c7 : x12_1 = true
   ·subst c7
    have H1 : (some false) = some r := by rw [if_pos rfl] at H; exact H
    clear H
    have H := H1
    clear H1
    obtain rfl := Option.some.inj H
    go_wp2
    go_ret
    exact ⟨by first | rfl | (simp [errW_none, errW_some] <;> rfl) | (simp [*, errW_none, errW_some] <;> rfl), by repeat (first | (with_reducible first | exact HB.out | apply bL_ | apply pN_ | apply b1_ | refine bs_ ?_ GE124.out) | exact HB.out)⟩
   ·replace c7 := Bool.eq_false_iff.mpr c7
    subst c7
    have H1 : (if a0_2 = true then (some (a0_1.toList == ([] : List UInt8))) else (some (!(Op.bytesLess a0_1.toList a0_0.toList)))) = some r := by rw [if_neg (show ¬ (false = true) by decide)] at H; exact H
    clear H
    have H := H1
    clear H1
    by_cases c8 : a0_2 = true
    ·subst c8
     have H1 : (some (a0_1.toList == ([] : List UInt8))) = some r := by rw [if_pos rfl] at H; exact H
     clear H
     have H := H1
     clear H1
     obtain rfl := Option.some.inj H
     have hcz9_0 : wc.cell? ⟨gb124, 0, none⟩ = some (.string a0_0) := (blk_cell BK124.out 0).trans rfl
     have hcz9_1 : wc.cell? ⟨gb124, 1, none⟩ = some (.string a0_1) := (blk_cell BK124.out 1).trans rfl
     have hcz9_2 : wc.cell? ⟨gb124, 2, none⟩ = some (.bool true) := (blk_cell BK124.out 2).trans rfl
     have hfz9_0 := blk_frozen BK124.out 0
     have hfz9_1 := blk_frozen BK124.out 1
     have hfz9_2 := blk_frozen BK124.out 2
     go_wp2
     go_ret
     exact ⟨by first | rfl | (simp [errW_none, errW_some] <;> rfl) | (simp [*, errW_none, errW_some] <;> rfl), by repeat (first | (with_reducible first | exact HB.out | apply bL_ | apply pN_ | apply b1_ | refine bs_ ?_ GE124.out) | exact HB.out)⟩
    ·replace c8 := Bool.eq_false_iff.mpr c8
     subst c8
     have H1 : (some (!(Op.bytesLess a0_1.toList a0_0.toList))) = some r := by rw [if_neg (show ¬ (false = true) by decide)] at H; exact H
     clear H
     have H := H1
     clear H1
     obtain rfl := Option.some.inj H
     have hcz10_0 : wc.cell? ⟨gb124, 0, none⟩ = some (.string a0_0) := (blk_cell BK124.out 0).trans rfl
     have hcz10_1 : wc.cell? ⟨gb124, 1, none⟩ = some (.string a0_1) := (blk_cell BK124.out 1).trans rfl
     have hcz10_2 : wc.cell? ⟨gb124, 2, none⟩ = some (.bool false) := (blk_cell BK124.out 2).trans rfl
     have hfz10_0 := blk_frozen BK124.out 0
     have hfz10_1 := blk_frozen BK124.out 1
     have hfz10_2 := blk_frozen BK124.out 2
     go_wp2
     go_ret
     exact ⟨by first | rfl | (simp [errW_none, errW_some] <;> rfl) | (simp [*, errW_none, errW_some] <;> rfl), by repeat (first | (with_reducible first | exact HB.out | apply bL_ | apply pN_ | apply b1_ | refine bs_ ?_ GE124.out) | exact HB.out)⟩

/-! ### plan_Is: function 26 (by hand) -/
def plan_Is.ok (k t : Int) (key v lo hi : ByteArray) (top : Bool) (n : Int) (back : Bool) (m : Int) : Bool :=
  decide (1 ≤ k ∧ k ≤ 12) && (if k = 7 then decide (n = 1 ∨ n = 2) else if k = 9 ∨ k = 10 then decide (0 ≤ n ∧ n < 6) else decide (n = 0)) &&
  (if k ≤ 7 then decide (0 ≤ t ∧ t < m) else decide (t = 0)) && (if k ≤ 5 then !key.toList.isEmpty && decide ((key.size : Int) ≤ 12) else key.toList.isEmpty) &&
  (if k = 3 ∨ k = 4 then decide ((v.size : Int) ≤ 20) else v.toList.isEmpty) && (!back && lo.toList.isEmpty && hi.toList.isEmpty && !top)
def plan_Is.f (a0_0 : Int) (a0_1 : Int) (a0_2 : ByteArray) (a0_3 : ByteArray) (a0_4 : ByteArray) (a0_5 : ByteArray) (a0_6 : Bool) (a0_7 : Int) (a0_8 : Bool) (a1 : Int) : Option Bool := if a0_0 = 6 then none else some (plan_Is.ok a0_0 a0_1 a0_2 a0_3 a0_4 a0_5 a0_6 a0_7 a0_8 a1)
set_option maxHeartbeats 8000000 in
set_option maxRecDepth 100000 in
theorem plan_Is.calls (a0_0 : Int) (a0_1 : Int) (a0_2 : ByteArray) (a0_3 : ByteArray) (a0_4 : ByteArray) (a0_5 : ByteArray) (a0_6 : Bool) (a0_7 : Int) (a0_8 : Bool) (a1 : Int) (r : Bool) (w : World) (h : plan_Is.f a0_0 a0_1 a0_2 a0_3 a0_4 a0_5 a0_6 a0_7 a0_8 a1 = some r) :
    Calls Try.prog 26 #[.agg #[.int .i64 a0_0, .int .i64 a0_1, .string a0_2, .string a0_3, .string a0_4, .string a0_5, .bool a0_6, .int .i64 a0_7, .bool a0_8], .int .i64 a1] w fun e w' => e = .returned (.bool r) ∧ Below w.heap.size w w' := by
  unfold plan_Is.f at h
  by_cases h6 : a0_0 = 6
  · rw [if_pos h6] at h; cases h
  rw [if_neg h6] at h
  obtain rfl := Option.some.inj h
  clear h
  have HB := mk0 (Below.refl w.heap.size w)
  have e6 : (a0_0 == 6) = false := beq_eq_false_iff_ne.2 h6
  have hcl : a0_0 < 1 ∨ 12 < a0_0 ∨ (a0_0 = 1 ∨ a0_0 = 2 ∨ a0_0 = 5) ∨ (a0_0 = 3 ∨ a0_0 = 4) ∨ a0_0 = 7 ∨ (a0_0 = 9 ∨ a0_0 = 10) ∨ (a0_0 = 8 ∨ a0_0 = 11 ∨ a0_0 = 12) := by omega
  rcases hcl with hk | hk | hk | hk | hk | hk | hk
  · skip
    have k0 : decide (a0_0 < 1) = true := decide_eq_true (by omega)
    have HK := mk0 (show ¬ 1 ≤ a0_0 by omega)
    clear hk h6
    go_enter Try.func26, Try.ntmps26
    go_wp2
    all_goals go_ret
    all_goals refine ⟨?_, by repeat (first | (with_reducible first | exact HB.out | apply bL_ | apply pN_ | apply b1_) | exact HB.out)⟩
    all_goals (have j0 := HK.out; simp_all [plan_Is.ok] <;> (intros; exfalso; omega))
  · skip
    have k0 : decide (a0_0 < 1) = false := decide_eq_false (by omega)
    have k1 : decide (12 < a0_0) = true := decide_eq_true (by omega)
    have HK := mk0 (show ¬ a0_0 ≤ 12 by omega)
    clear hk h6
    go_enter Try.func26, Try.ntmps26
    go_wp2
    all_goals go_ret
    all_goals refine ⟨?_, by repeat (first | (with_reducible first | exact HB.out | apply bL_ | apply pN_ | apply b1_) | exact HB.out)⟩
    all_goals (have j0 := HK.out; simp_all [plan_Is.ok] <;> (intros; exfalso; omega))
  · skip
    have k0 : decide (a0_0 < 1) = false := decide_eq_false (by omega)
    have k1 : decide (12 < a0_0) = false := decide_eq_false (by omega)
    have k2 : decide (1 ≤ a0_0) = true := decide_eq_true (by omega)
    have k3 : decide (a0_0 ≤ 7) = true := decide_eq_true (by omega)
    have k4 : decide (a0_0 ≤ 5) = true := decide_eq_true (by omega)
    have k5 : (a0_0 == 7) = false := beq_eq_false_iff_ne.2 (by omega)
    have k6 : (a0_0 == 9) = false := beq_eq_false_iff_ne.2 (by omega)
    have k7 : (a0_0 == 10) = false := beq_eq_false_iff_ne.2 (by omega)
    have k8 : (a0_0 == 3) = false := beq_eq_false_iff_ne.2 (by omega)
    have k9 : (a0_0 == 4) = false := beq_eq_false_iff_ne.2 (by omega)
    have HK := mk0 (show 1 ≤ a0_0 ∧ a0_0 ≤ 12 ∧ a0_0 ≤ 7 ∧ a0_0 ≤ 5 ∧ ¬ a0_0 = 7 ∧ ¬ a0_0 = 9 ∧ ¬ a0_0 = 10 ∧ ¬ a0_0 = 3 ∧ ¬ a0_0 = 4 by omega)
    clear hk h6
    go_enter Try.func26, Try.ntmps26
    go_wp2
    all_goals go_ret
    all_goals refine ⟨?_, by repeat (first | (with_reducible first | exact HB.out | apply bL_ | apply pN_ | apply b1_) | exact HB.out)⟩
    all_goals (obtain ⟨j0, j1, j2, j3, j4, j5, j6, j7, j8⟩ := HK.out; simp_all [plan_Is.ok] <;> (intros; exfalso; omega))
  · rcases hk with rfl | rfl
    all_goals go_enter Try.func26, Try.ntmps26
    all_goals go_wp2
    all_goals go_ret
    all_goals refine ⟨?_, by repeat (first | (with_reducible first | exact HB.out | apply bL_ | apply pN_ | apply b1_) | exact HB.out)⟩
    all_goals (simp_all [plan_Is.ok] <;> (intros; exfalso; omega))
  · subst hk
    all_goals go_enter Try.func26, Try.ntmps26
    all_goals go_wp2
    all_goals go_ret
    all_goals refine ⟨?_, by repeat (first | (with_reducible first | exact HB.out | apply bL_ | apply pN_ | apply b1_) | exact HB.out)⟩
    all_goals (simp_all [plan_Is.ok] <;> (intros; exfalso; omega))
  · rcases hk with rfl | rfl
    all_goals go_enter Try.func26, Try.ntmps26
    all_goals go_wp2
    all_goals go_ret
    all_goals refine ⟨?_, by repeat (first | (with_reducible first | exact HB.out | apply bL_ | apply pN_ | apply b1_) | exact HB.out)⟩
    all_goals (simp_all [plan_Is.ok] <;> (intros; exfalso; omega))
  · skip
    have k0 : decide (a0_0 < 1) = false := decide_eq_false (by omega)
    have k1 : decide (12 < a0_0) = false := decide_eq_false (by omega)
    have k2 : decide (1 ≤ a0_0) = true := decide_eq_true (by omega)
    have k3 : decide (a0_0 ≤ 7) = false := decide_eq_false (by omega)
    have k4 : decide (a0_0 ≤ 5) = false := decide_eq_false (by omega)
    have k5 : (a0_0 == 7) = false := beq_eq_false_iff_ne.2 (by omega)
    have k6 : (a0_0 == 9) = false := beq_eq_false_iff_ne.2 (by omega)
    have k7 : (a0_0 == 10) = false := beq_eq_false_iff_ne.2 (by omega)
    have k8 : (a0_0 == 3) = false := beq_eq_false_iff_ne.2 (by omega)
    have k9 : (a0_0 == 4) = false := beq_eq_false_iff_ne.2 (by omega)
    have HK := mk0 (show 1 ≤ a0_0 ∧ a0_0 ≤ 12 ∧ ¬ a0_0 ≤ 7 ∧ ¬ a0_0 ≤ 5 ∧ ¬ a0_0 = 7 ∧ ¬ a0_0 = 9 ∧ ¬ a0_0 = 10 ∧ ¬ a0_0 = 3 ∧ ¬ a0_0 = 4 by omega)
    clear hk h6
    go_enter Try.func26, Try.ntmps26
    go_wp2
    all_goals go_ret
    all_goals refine ⟨?_, by repeat (first | (with_reducible first | exact HB.out | apply bL_ | apply pN_ | apply b1_) | exact HB.out)⟩
    all_goals (obtain ⟨j0, j1, j2, j3, j4, j5, j6, j7, j8⟩ := HK.out; simp_all [plan_Is.ok] <;> (intros; exfalso; omega))


/-! ### pend_Table: function 60 -/
def pend_Table.f (a0 : Int) : Option (Bool) := if a0 ≥ 0 then (some (decide (a0 < 3))) else (some false)
set_option maxHeartbeats 8000000 in
set_option maxRecDepth 100000 in
theorem pend_Table.calls (a0 : Int) (r : Bool) (w : World) (h : pend_Table.f a0 = some r) :
  Calls Try.prog 60 #[.int .i64 a0] w fun e w' => e = .returned (.bool r) ∧ Drawn0 w w' := by
 have H : (if a0 ≥ 0 then (some (decide (a0 < 3))) else (some false)) = some r := h
 clear h
 by_cases c2 : a0 ≥ 0
 ·rw [if_pos c2] at H
  have c2b0 : decide (0 ≤ a0) = true := decide_eq_true c2
  clear c2
  obtain rfl := Option.some.inj H
  go_enter Try.func60, Try.ntmps60
  go_wp2
  go_ret
  exact ⟨by first | rfl | (simp; done) | (simp [*]; done), by repeat (first | exact Drawn0.refl _ | apply Drawn0.step)⟩
 ·rw [if_neg c2] at H
  have c2b0 : decide (0 ≤ a0) = false := decide_eq_false c2
  clear c2
  obtain rfl := Option.some.inj H
  go_enter Try.func60, Try.ntmps60
  go_wp2
  go_ret
  exact ⟨by first | rfl | (simp; done) | (simp [*]; done), by repeat (first | exact Drawn0.refl _ | apply Drawn0.step)⟩

/-! ### pend_Is: function 45 -/
def pend_Is.f (a0_0 : Int) (a0_1 : ByteArray) (a0_2 : ByteArray) (a0_3 : Bool) : Option (Bool) := (pend_Table.f a0_0).bind fun t126 => (if t126 = true then ((key_Is.f a0_1).bind fun t127 => (if t127 = true then ((key_Fits.f a0_2).bind fun t128 => (if t128 = true then (if a0_3 = true then (some (a0_2.toList == ([] : List UInt8))) else (some true)) else (some false))) else (some false))) else (some false))
set_option maxHeartbeats 8000000 in
set_option maxRecDepth 100000 in
theorem pend_Is.calls (a0_0 : Int) (a0_1 : ByteArray) (a0_2 : ByteArray) (a0_3 : Bool) (r : Bool) (w : World) (h : pend_Is.f a0_0 a0_1 a0_2 a0_3 = some r) :
  Calls Try.prog 45 #[.agg #[.int .i64 a0_0, .string a0_1, .string a0_2, .bool a0_3]] w fun e w' => e = .returned (.bool r) ∧ Below w.heap.size w w' := by
 have hu44 := Try.underlying44
 have HB := mk0 (Below.refl w.heap.size w)
 have H : ((pend_Table.f a0_0).bind fun t126 => (if t126 = true then ((key_Is.f a0_1).bind fun t127 => (if t127 = true then ((key_Fits.f a0_2).bind fun t128 => (if t128 = true then (if a0_3 = true then (some (a0_2.toList == ([] : List UInt8))) else (some true)) else (some false))) else (some false))) else (some false))) = some r := h
 clear h
 replace H := Option.bind_eq_some_iff.mp H
 obtain ⟨t126, A20, H⟩ := H
 replace H : (if t126 = true then ((key_Is.f a0_1).bind fun t127 => (if t127 = true then ((key_Fits.f a0_2).bind fun t128 => (if t128 = true then (if a0_3 = true then (some (a0_2.toList == ([] : List UInt8))) else (some true)) else (some false))) else (some false))) else (some false)) = some r := H
 have A2 := mk0 A20
 clear A20
 by_cases c3 : t126 = true
 ·subst c3
  have H1 : ((key_Is.f a0_1).bind fun t127 => (if t127 = true then ((key_Fits.f a0_2).bind fun t128 => (if t128 = true then (if a0_3 = true then (some (a0_2.toList == ([] : List UInt8))) else (some true)) else (some false))) else (some false))) = some r := by rw [if_pos rfl] at H; exact H
  clear H
  have H := H1
  clear H1
  replace H := Option.bind_eq_some_iff.mp H
  obtain ⟨t127, A40, H⟩ := H
  replace H : (if t127 = true then ((key_Fits.f a0_2).bind fun t128 => (if t128 = true then (if a0_3 = true then (some (a0_2.toList == ([] : List UInt8))) else (some true)) else (some false))) else (some false)) = some r := H
  have A4 := mk0 A40
  clear A40
  by_cases c5 : t127 = true
  ·subst c5
   have H1 : ((key_Fits.f a0_2).bind fun t128 => (if t128 = true then (if a0_3 = true then (some (a0_2.toList == ([] : List UInt8))) else (some true)) else (some false))) = some r := by rw [if_pos rfl] at H; exact H
   clear H
   have H := H1
   clear H1
   replace H := Option.bind_eq_some_iff.mp H
   obtain ⟨t128, A60, H⟩ := H
   replace H : (if t128 = true then (if a0_3 = true then (some (a0_2.toList == ([] : List UInt8))) else (some true)) else (some false)) = some r := H
   have A6 := mk0 A60
   clear A60
   by_cases c7 : t128 = true
   ·subst c7
    have H1 : (if a0_3 = true then (some (a0_2.toList == ([] : List UInt8))) else (some true)) = some r := by rw [if_pos rfl] at H; exact H
    clear H
    have H := H1
    clear H1
    by_cases c8 : a0_3 = true
    ·subst c8
     have H1 : (some (a0_2.toList == ([] : List UInt8))) = some r := by rw [if_pos rfl] at H; exact H
     clear H
     have H := H1
     clear H1
     obtain rfl := Option.some.inj H
     go_enter Try.func45, Try.ntmps45
     go_wp2_with (first | ((with_reducible refine gate_dst (N := 1) rfl ?_); refine box_event ?hg (N := 1) ?hd (cs := #[.int .i64 a0_0, .string a0_1, .string a0_2, .bool true]) (t := 44) ?hr ?_; (case hd => rfl); (case hg => rfl); (case hr => first | (go_simp; done) | (go_simp; rfl)); intro gb125 hg w9 hbox hb; have n0_ := mk0 (bt_ (by repeat (first | (with_reducible first | exact HB.out | apply bL_ | apply pN_ | apply b1_) | exact HB.out)) hb); have n1_ := mk0 (hbox); have n2_ := mk0 ((by rw [hg]; exact (bz_ (by repeat (first | (with_reducible first | exact HB.out | apply bL_ | apply pN_ | apply b1_) | exact HB.out))) : w.heap.size ≤ gb125)); have n3_ := mk0 ((by rw [hg]; exact (bz_ (by repeat (first | (with_reducible first | exact HB.out | apply bL_ | apply pN_ | apply b1_) | exact HB.out))) : w.heap.size ≤ gb125)); clear HB; have HB := n0_; have BK125 := n1_; have GW125 := n2_; have GE125 := n3_; clear n0_ n1_ n2_ n3_; clear hb hbox hg; have hcz10_0 : w9.cell? ⟨gb125, 0, none⟩ = some (.int .i64 a0_0) := (blk_cell BK125.out 0).trans rfl; have hcz10_1 : w9.cell? ⟨gb125, 1, none⟩ = some (.string a0_1) := (blk_cell BK125.out 1).trans rfl; have hcz10_2 : w9.cell? ⟨gb125, 2, none⟩ = some (.string a0_2) := (blk_cell BK125.out 2).trans rfl; have hcz10_3 : w9.cell? ⟨gb125, 3, none⟩ = some (.bool true) := (blk_cell BK125.out 3).trans rfl; have hfz10_0 := blk_frozen BK125.out 0; have hfz10_1 := blk_frozen BK125.out 1; have hfz10_2 := blk_frozen BK125.out 2; have hfz10_3 := blk_frozen BK125.out 3) | ((with_reducible refine gate_callee (f := 60) rfl ?_); refine goesL_ (some 5) rfl rfl Try.func60 (by kernel_rfl) rfl #[.int .i64 a0_0] rfl (by (try simp only [List.map_toArray, List.map_cons, List.map_nil]); first | done | rfl | (simp only [List.length_drop, List.length_take]; rfl)) ?_; (with_reducible refine (pend_Table.calls a0_0 true _ A2.out).mono ?_); rintro e w' ⟨rfl, ⟨nd, rfl⟩⟩; refine ⟨_, rfl, ?_⟩) | (go_at_call 39; (with_reducible refine (key_Is.calls a0_1 true _ A4.out).mono ?_); rintro e w' ⟨rfl, ⟨nd, rfl⟩⟩) | (go_at_call 41; (with_reducible refine (key_Fits.calls a0_2 true _ A6.out).mono ?_); rintro e w' ⟨rfl, ⟨nd, rfl⟩⟩))
     go_ret
     exact ⟨by first | rfl | (simp [errW_none, errW_some] <;> rfl) | (simp [*, errW_none, errW_some] <;> rfl), by repeat (first | (with_reducible first | exact HB.out | apply bL_ | apply pN_ | apply b1_ | refine bs_ ?_ GE125.out) | exact HB.out)⟩
    ·replace c8 := Bool.eq_false_iff.mpr c8
     subst c8
     have H1 : (some true) = some r := by rw [if_neg (show ¬ (false = true) by decide)] at H; exact H
     clear H
     have H := H1
     clear H1
     obtain rfl := Option.some.inj H
     go_enter Try.func45, Try.ntmps45
     go_wp2_with (first | ((with_reducible refine gate_dst (N := 1) rfl ?_); refine box_event ?hg (N := 1) ?hd (cs := #[.int .i64 a0_0, .string a0_1, .string a0_2, .bool false]) (t := 44) ?hr ?_; (case hd => rfl); (case hg => rfl); (case hr => first | (go_simp; done) | (go_simp; rfl)); intro gb125 hg w11 hbox hb; have n0_ := mk0 (bt_ (by repeat (first | (with_reducible first | exact HB.out | apply bL_ | apply pN_ | apply b1_) | exact HB.out)) hb); have n1_ := mk0 (hbox); have n2_ := mk0 ((by rw [hg]; exact (bz_ (by repeat (first | (with_reducible first | exact HB.out | apply bL_ | apply pN_ | apply b1_) | exact HB.out))) : w.heap.size ≤ gb125)); have n3_ := mk0 ((by rw [hg]; exact (bz_ (by repeat (first | (with_reducible first | exact HB.out | apply bL_ | apply pN_ | apply b1_) | exact HB.out))) : w.heap.size ≤ gb125)); clear HB; have HB := n0_; have BK125 := n1_; have GW125 := n2_; have GE125 := n3_; clear n0_ n1_ n2_ n3_; clear hb hbox hg; have hcz12_0 : w11.cell? ⟨gb125, 0, none⟩ = some (.int .i64 a0_0) := (blk_cell BK125.out 0).trans rfl; have hcz12_1 : w11.cell? ⟨gb125, 1, none⟩ = some (.string a0_1) := (blk_cell BK125.out 1).trans rfl; have hcz12_2 : w11.cell? ⟨gb125, 2, none⟩ = some (.string a0_2) := (blk_cell BK125.out 2).trans rfl; have hcz12_3 : w11.cell? ⟨gb125, 3, none⟩ = some (.bool false) := (blk_cell BK125.out 3).trans rfl; have hfz12_0 := blk_frozen BK125.out 0; have hfz12_1 := blk_frozen BK125.out 1; have hfz12_2 := blk_frozen BK125.out 2; have hfz12_3 := blk_frozen BK125.out 3) | ((with_reducible refine gate_callee (f := 60) rfl ?_); refine goesL_ (some 5) rfl rfl Try.func60 (by kernel_rfl) rfl #[.int .i64 a0_0] rfl (by (try simp only [List.map_toArray, List.map_cons, List.map_nil]); first | done | rfl | (simp only [List.length_drop, List.length_take]; rfl)) ?_; (with_reducible refine (pend_Table.calls a0_0 true _ A2.out).mono ?_); rintro e w' ⟨rfl, ⟨nd, rfl⟩⟩; refine ⟨_, rfl, ?_⟩) | (go_at_call 39; (with_reducible refine (key_Is.calls a0_1 true _ A4.out).mono ?_); rintro e w' ⟨rfl, ⟨nd, rfl⟩⟩) | (go_at_call 41; (with_reducible refine (key_Fits.calls a0_2 true _ A6.out).mono ?_); rintro e w' ⟨rfl, ⟨nd, rfl⟩⟩))
     go_ret
     exact ⟨by first | rfl | (simp [errW_none, errW_some] <;> rfl) | (simp [*, errW_none, errW_some] <;> rfl), by repeat (first | (with_reducible first | exact HB.out | apply bL_ | apply pN_ | apply b1_ | refine bs_ ?_ GE125.out) | exact HB.out)⟩
   ·replace c7 := Bool.eq_false_iff.mpr c7
    subst c7
    have H1 : (some false) = some r := by rw [if_neg (show ¬ (false = true) by decide)] at H; exact H
    clear H
    have H := H1
    clear H1
    obtain rfl := Option.some.inj H
    go_enter Try.func45, Try.ntmps45
    go_wp2_with (first | ((with_reducible refine gate_dst (N := 1) rfl ?_); refine box_event ?hg (N := 1) ?hd (cs := #[.int .i64 a0_0, .string a0_1, .string a0_2, .bool a0_3]) (t := 44) ?hr ?_; (case hd => rfl); (case hg => rfl); (case hr => first | (go_simp; done) | (go_simp; rfl)); intro gb125 hg w13 hbox hb; have n0_ := mk0 (bt_ (by repeat (first | (with_reducible first | exact HB.out | apply bL_ | apply pN_ | apply b1_) | exact HB.out)) hb); have n1_ := mk0 (hbox); have n2_ := mk0 ((by rw [hg]; exact (bz_ (by repeat (first | (with_reducible first | exact HB.out | apply bL_ | apply pN_ | apply b1_) | exact HB.out))) : w.heap.size ≤ gb125)); have n3_ := mk0 ((by rw [hg]; exact (bz_ (by repeat (first | (with_reducible first | exact HB.out | apply bL_ | apply pN_ | apply b1_) | exact HB.out))) : w.heap.size ≤ gb125)); clear HB; have HB := n0_; have BK125 := n1_; have GW125 := n2_; have GE125 := n3_; clear n0_ n1_ n2_ n3_; clear hb hbox hg; have hcz14_0 : w13.cell? ⟨gb125, 0, none⟩ = some (.int .i64 a0_0) := (blk_cell BK125.out 0).trans rfl; have hcz14_1 : w13.cell? ⟨gb125, 1, none⟩ = some (.string a0_1) := (blk_cell BK125.out 1).trans rfl; have hcz14_2 : w13.cell? ⟨gb125, 2, none⟩ = some (.string a0_2) := (blk_cell BK125.out 2).trans rfl; have hcz14_3 : w13.cell? ⟨gb125, 3, none⟩ = some (.bool a0_3) := (blk_cell BK125.out 3).trans rfl; have hfz14_0 := blk_frozen BK125.out 0; have hfz14_1 := blk_frozen BK125.out 1; have hfz14_2 := blk_frozen BK125.out 2; have hfz14_3 := blk_frozen BK125.out 3) | ((with_reducible refine gate_callee (f := 60) rfl ?_); refine goesL_ (some 5) rfl rfl Try.func60 (by kernel_rfl) rfl #[.int .i64 a0_0] rfl (by (try simp only [List.map_toArray, List.map_cons, List.map_nil]); first | done | rfl | (simp only [List.length_drop, List.length_take]; rfl)) ?_; (with_reducible refine (pend_Table.calls a0_0 true _ A2.out).mono ?_); rintro e w' ⟨rfl, ⟨nd, rfl⟩⟩; refine ⟨_, rfl, ?_⟩) | (go_at_call 39; (with_reducible refine (key_Is.calls a0_1 true _ A4.out).mono ?_); rintro e w' ⟨rfl, ⟨nd, rfl⟩⟩) | (go_at_call 41; (with_reducible refine (key_Fits.calls a0_2 false _ A6.out).mono ?_); rintro e w' ⟨rfl, ⟨nd, rfl⟩⟩))
    go_ret
    exact ⟨by first | rfl | (simp [errW_none, errW_some] <;> rfl) | (simp [*, errW_none, errW_some] <;> rfl), by repeat (first | (with_reducible first | exact HB.out | apply bL_ | apply pN_ | apply b1_ | refine bs_ ?_ GE125.out) | exact HB.out)⟩
  ·replace c5 := Bool.eq_false_iff.mpr c5
   subst c5
   have H1 : (some false) = some r := by rw [if_neg (show ¬ (false = true) by decide)] at H; exact H
   clear H
   have H := H1
   clear H1
   obtain rfl := Option.some.inj H
   go_enter Try.func45, Try.ntmps45
   go_wp2_with (first | ((with_reducible refine gate_dst (N := 1) rfl ?_); refine box_event ?hg (N := 1) ?hd (cs := #[.int .i64 a0_0, .string a0_1, .string a0_2, .bool a0_3]) (t := 44) ?hr ?_; (case hd => rfl); (case hg => rfl); (case hr => first | (go_simp; done) | (go_simp; rfl)); intro gb125 hg w15 hbox hb; have n0_ := mk0 (bt_ (by repeat (first | (with_reducible first | exact HB.out | apply bL_ | apply pN_ | apply b1_) | exact HB.out)) hb); have n1_ := mk0 (hbox); have n2_ := mk0 ((by rw [hg]; exact (bz_ (by repeat (first | (with_reducible first | exact HB.out | apply bL_ | apply pN_ | apply b1_) | exact HB.out))) : w.heap.size ≤ gb125)); have n3_ := mk0 ((by rw [hg]; exact (bz_ (by repeat (first | (with_reducible first | exact HB.out | apply bL_ | apply pN_ | apply b1_) | exact HB.out))) : w.heap.size ≤ gb125)); clear HB; have HB := n0_; have BK125 := n1_; have GW125 := n2_; have GE125 := n3_; clear n0_ n1_ n2_ n3_; clear hb hbox hg; have hcz16_0 : w15.cell? ⟨gb125, 0, none⟩ = some (.int .i64 a0_0) := (blk_cell BK125.out 0).trans rfl; have hcz16_1 : w15.cell? ⟨gb125, 1, none⟩ = some (.string a0_1) := (blk_cell BK125.out 1).trans rfl; have hcz16_2 : w15.cell? ⟨gb125, 2, none⟩ = some (.string a0_2) := (blk_cell BK125.out 2).trans rfl; have hcz16_3 : w15.cell? ⟨gb125, 3, none⟩ = some (.bool a0_3) := (blk_cell BK125.out 3).trans rfl; have hfz16_0 := blk_frozen BK125.out 0; have hfz16_1 := blk_frozen BK125.out 1; have hfz16_2 := blk_frozen BK125.out 2; have hfz16_3 := blk_frozen BK125.out 3) | ((with_reducible refine gate_callee (f := 60) rfl ?_); refine goesL_ (some 5) rfl rfl Try.func60 (by kernel_rfl) rfl #[.int .i64 a0_0] rfl (by (try simp only [List.map_toArray, List.map_cons, List.map_nil]); first | done | rfl | (simp only [List.length_drop, List.length_take]; rfl)) ?_; (with_reducible refine (pend_Table.calls a0_0 true _ A2.out).mono ?_); rintro e w' ⟨rfl, ⟨nd, rfl⟩⟩; refine ⟨_, rfl, ?_⟩) | (go_at_call 39; (with_reducible refine (key_Is.calls a0_1 false _ A4.out).mono ?_); rintro e w' ⟨rfl, ⟨nd, rfl⟩⟩))
   go_ret
   exact ⟨by first | rfl | (simp [errW_none, errW_some] <;> rfl) | (simp [*, errW_none, errW_some] <;> rfl), by repeat (first | (with_reducible first | exact HB.out | apply bL_ | apply pN_ | apply b1_ | refine bs_ ?_ GE125.out) | exact HB.out)⟩
 ·replace c3 := Bool.eq_false_iff.mpr c3
  subst c3
  have H1 : (some false) = some r := by rw [if_neg (show ¬ (false = true) by decide)] at H; exact H
  clear H
  have H := H1
  clear H1
  obtain rfl := Option.some.inj H
  go_enter Try.func45, Try.ntmps45
  go_wp2_with (first | ((with_reducible refine gate_dst (N := 1) rfl ?_); refine box_event ?hg (N := 1) ?hd (cs := #[.int .i64 a0_0, .string a0_1, .string a0_2, .bool a0_3]) (t := 44) ?hr ?_; (case hd => rfl); (case hg => rfl); (case hr => first | (go_simp; done) | (go_simp; rfl)); intro gb125 hg w17 hbox hb; have n0_ := mk0 (bt_ (by repeat (first | (with_reducible first | exact HB.out | apply bL_ | apply pN_ | apply b1_) | exact HB.out)) hb); have n1_ := mk0 (hbox); have n2_ := mk0 ((by rw [hg]; exact (bz_ (by repeat (first | (with_reducible first | exact HB.out | apply bL_ | apply pN_ | apply b1_) | exact HB.out))) : w.heap.size ≤ gb125)); have n3_ := mk0 ((by rw [hg]; exact (bz_ (by repeat (first | (with_reducible first | exact HB.out | apply bL_ | apply pN_ | apply b1_) | exact HB.out))) : w.heap.size ≤ gb125)); clear HB; have HB := n0_; have BK125 := n1_; have GW125 := n2_; have GE125 := n3_; clear n0_ n1_ n2_ n3_; clear hb hbox hg; have hcz18_0 : w17.cell? ⟨gb125, 0, none⟩ = some (.int .i64 a0_0) := (blk_cell BK125.out 0).trans rfl; have hcz18_1 : w17.cell? ⟨gb125, 1, none⟩ = some (.string a0_1) := (blk_cell BK125.out 1).trans rfl; have hcz18_2 : w17.cell? ⟨gb125, 2, none⟩ = some (.string a0_2) := (blk_cell BK125.out 2).trans rfl; have hcz18_3 : w17.cell? ⟨gb125, 3, none⟩ = some (.bool a0_3) := (blk_cell BK125.out 3).trans rfl; have hfz18_0 := blk_frozen BK125.out 0; have hfz18_1 := blk_frozen BK125.out 1; have hfz18_2 := blk_frozen BK125.out 2; have hfz18_3 := blk_frozen BK125.out 3) | ((with_reducible refine gate_callee (f := 60) rfl ?_); refine goesL_ (some 5) rfl rfl Try.func60 (by kernel_rfl) rfl #[.int .i64 a0_0] rfl (by (try simp only [List.map_toArray, List.map_cons, List.map_nil]); first | done | rfl | (simp only [List.length_drop, List.length_take]; rfl)) ?_; (with_reducible refine (pend_Table.calls a0_0 false _ A2.out).mono ?_); rintro e w' ⟨rfl, ⟨nd, rfl⟩⟩; refine ⟨_, rfl, ?_⟩))
  go_ret
  exact ⟨by first | rfl | (simp [errW_none, errW_some] <;> rfl) | (simp [*, errW_none, errW_some] <;> rfl), by repeat (first | (with_reducible first | exact HB.out | apply bL_ | apply pN_ | apply b1_ | refine bs_ ?_ GE125.out) | exact HB.out)⟩

end Go.Proofs.Ytlnplaajhalekaa.PLk
