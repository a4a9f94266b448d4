-- PRINTED by print.py (a twelfth state) out of the translation. Not trusted: Lean checks it.
import Derived.Test.YtlnplaajhalekaaPLkx0
import Derived.Test.YtlnplaajhalekaaPLkx4
import Derived.Test.YtlnplaajhalekaaPLkx7
import Derived.Test.YtlnplaajhalekaaPLkx9
import Derived.Test.YtlnplaajhalekaaPLkx10
namespace Go.Proofs.Ytlnplaajhalekaa.PLk
open Go.RowKit Go.Proofs.YtlnplaajhalekaaW.PrintWords Go.Proofs.YtlnplaajhalekaaW.PrintLast Go.Proofs.YtlnplaajhalekaaW.PrintMore
attribute [local go_sem] max2_int min2_int max_two min_two max_three min_three max_four min_four   -- for this text's walks alone
set_option linter.unusedVariables false
set_option linter.unusedSimpArgs false

/-! ### quorumlaw12_each: function 21 -/
def quorumlaw12_each.l0 : Nat → Int → Int → List (S39) → List (S31) → List Int → List (S39) → List (S31) → List Int → Option (Bool)
 | 0, _, _, _, _, _, _, _, _ => none
 | k + 1, x1, x6, x231000, x231001, x231002, x232000, x232001, x232002 => if x6 < (x231000.length : Int) then (if 0 ≤ x6 then ((quorumlaw12_Bare.f x1 ((rd_T39 x231000 x6).f1) ((rd_T39 x231000 x6).f2) ((rd_T39 x231000 x6).f3) ((rd_T39 x231000 x6).f4.f0) ((rd_T39 x231000 x6).f4.f1) ((rd_T39 x231000 x6).f4.f2) ((rd_T39 x231000 x6).f5) ((rd_T39 x231000 x6).f6)).bind fun bt234 => ((some (([(⟨x1, (rd_T39 x231000 x6).f1, (rd_T39 x231000 x6).f2, (rd_T39 x231000 x6).f3, (⟨(rd_T39 x231000 x6).f4.f0, (rd_T39 x231000 x6).f4.f1, (rd_T39 x231000 x6).f4.f2⟩ : S37), (rd_T39 x231000 x6).f5, (rd_T39 x231000 x6).f6⟩ : S39), (⟨bt234.1, bt234.2.1, bt234.2.2.1, bt234.2.2.2.1, (⟨bt234.2.2.2.2.1, bt234.2.2.2.2.2.1, bt234.2.2.2.2.2.2.1⟩ : S37), bt234.2.2.2.2.2.2.2.1, bt234.2.2.2.2.2.2.2.2⟩ : S39)] : List (S39)) : List (S39))).bind fun y243 => (if x232000.length + y243.length < 1353245080339 then (quorumlaw12_each.l0 k x1 (wrap64 (x6 + 1)) x231000 x231001 x231002 (x232000 ++ y243) x232001 x232002) else (none)))) else (none)) else ((quorumlaw12_PlanLocks.f k x232000 x232001 x232002).bind fun t249 => (if t249 = true then ((plan_Writes.f x1 0 (⟨#[]⟩ : ByteArray) (⟨#[]⟩ : ByteArray) (⟨#[]⟩ : ByteArray) (⟨#[]⟩ : ByteArray) false 0 false).bind fun t250 => ((quorumref12_Writes.f x1 0 (⟨#[]⟩ : ByteArray) (⟨#[]⟩ : ByteArray) (⟨#[]⟩ : ByteArray) (⟨#[]⟩ : ByteArray) false 0 false).bind fun t251 => (some (t250 == t251)))) else (some false)))
def quorumlaw12_each.f (k : Nat) (l0_0 : List (S39)) (l0_1 : List (S31)) (l0_2 : List Int) (a1 : Int) : Option (Bool) := quorumlaw12_each.l0 k a1 0 l0_0 l0_1 l0_2 ([] : List (S39)) l0_1 l0_2
theorem quorumlaw12_each.mono_l : ∀ k, (∀ y0 y1 y2 y3 y4 y5 y6 y7, LeO (quorumlaw12_each.l0 k y0 y1 y2 y3 y4 y5 y6 y7) (quorumlaw12_each.l0 (k + 1) y0 y1 y2 y3 y4 y5 y6 y7))
 | 0 => fun _ _ _ _ _ _ _ _ r h => by simp [quorumlaw12_each.l0] at h
 | k + 1 => by
  have ih0 := quorumlaw12_each.mono_l k
  ·intro y0 y1 y2 y3 y4 y5 y6 y7
   unfold quorumlaw12_each.l0
   repeat' first
   | (with_reducible exact ih0 _ _ _ _ _ _ _ _)
   | (with_reducible exact quorumlaw12_PlanLocks.mono _ _ _ _)
   | (with_reducible exact LeO.refl _)
   | (with_reducible exact LeO.none _)
   | (with_reducible refine LeO.ite ?_ ?_)
   | (with_reducible refine LeO.bind ?_ (fun _ => ?_))
   | exact ih0 _ _ _ _ _ _ _ _
   | exact quorumlaw12_PlanLocks.mono _ _ _ _
   | exact LeO.none _
   | refine LeO.ite ?_ ?_
   | refine LeO.bind ?_ (fun _ => ?_)
theorem quorumlaw12_each.mono : ∀ a0 a1 a2 a3 k, LeO (quorumlaw12_each.f k a0 a1 a2 a3) (quorumlaw12_each.f (k + 1) a0 a1 a2 a3) := by
 intro a0 a1 a2 a3 k
 have ih0 := quorumlaw12_each.mono_l k
 unfold quorumlaw12_each.f
 repeat' first
   | (with_reducible exact ih0 _ _ _ _ _ _ _ _)
   | (with_reducible exact quorumlaw12_PlanLocks.mono _ _ _ _)
   | (with_reducible exact LeO.refl _)
   | (with_reducible exact LeO.none _)
   | (with_reducible refine LeO.ite ?_ ?_)
   | (with_reducible refine LeO.bind ?_ (fun _ => ?_))
   | exact ih0 _ _ _ _ _ _ _ _
   | exact quorumlaw12_PlanLocks.mono _ _ _ _
   | exact LeO.none _
   | refine LeO.ite ?_ ?_
   | refine LeO.bind ?_ (fun _ => ?_)
def quorumlaw12_each.T8 : Bool × List (List Nat × List Nat) := (true, [([], []), ([0], [0]), ([], []), ([], []), ([3], [3]), ([2, 4], [2, 4]), ([1, 5, 4], [1, 5]), ([0, 1, 2, 3, 4, 5, 6], []), ([7, 6, 6, 0, 1, 2, 3, 4, 5, 6], [6, 7])])
def quorumlaw12_each.B8 : List Nat := [0, 1, 0, 0, 8, 28, 63, 127, 255]
theorem quorumlaw12_each.tab8 : rtab .any (opsOf Try.f21 8) = quorumlaw12_each.T8 := by kernel_rfl
theorem quorumlaw12_each.bits8 : waitsOk quorumlaw12_each.T8.2 quorumlaw12_each.B8 = true := by kernel_rfl
set_option maxHeartbeats 8000000 in
set_option maxRecDepth 100000 in
theorem quorumlaw12_each.calls (k : Nat) (A0_0 : Option Addr) (c0_0 : Nat) (l0_0 : List (S39)) (A0_1 : Option Addr) (c0_1 : Nat) (l0_1 : List (S31)) (A0_2 : Option Addr) (c0_2 : Nat) (l0_2 : List Int) (a1 : Int) (r : Bool) (w : World) (hr0_0 : Kd.C k39 w A0_0 l0_0.length l0_0) (hc0_0 : l0_0.length ≤ c0_0) (hr0_1 : Kd.C k31 w A0_1 l0_1.length l0_1) (hc0_1 : l0_1.length ≤ c0_1) (hr0_2 : Kd.C (Kd.int .i64) w A0_2 l0_2.length l0_2) (hc0_2 : l0_2.length ≤ c0_2) (h : quorumlaw12_each.f k l0_0 l0_1 l0_2 a1 = some r) :
  Calls Try.prog 21 #[.agg #[.slice A0_0 l0_0.length c0_0, .slice A0_1 l0_1.length c0_1, .slice A0_2 l0_2.length c0_2], .int .i64 a1] w fun e w' => e = .returned (.bool r) ∧ Below w.heap.size w w' := by
 have hu26 := Try.underlying26
 have hu39 := Try.underlying39
 have HR0_0 := mk0 hr0_0
 have HC0_0 := mk0 hc0_0
 clear hr0_0 hc0_0
 have HR0_1 := mk0 hr0_1
 have HC0_1 := mk0 hc0_1
 clear hr0_1 hc0_1
 have HR0_2 := mk0 hr0_2
 have HC0_2 := mk0 hc0_2
 clear hr0_2 hc0_2
 have HB := mk0 (Below.refl w.heap.size w)
 have H : (quorumlaw12_each.l0 k a1 0 l0_0 l0_1 l0_2 ([] : List (S39)) l0_1 l0_2) = some r := h
 clear h
 have H' := mk0 H
 clear H
 go_enter Try.func21, Try.ntmps21
 go_wp2_with (first | ((with_reducible refine gate_dst (N := 2) rfl ?_); refine box_event ?hg (N := 2) ?hd (cs := #[.slice A0_0 l0_0.length c0_0, .slice A0_1 l0_1.length c0_1, .slice A0_2 l0_2.length c0_2]) (t := 26) ?hr ?_; (case hd => rfl); (case hg => rfl); (case hr => first | (go_simp; done) | (go_simp; rfl)); intro gb230 hg w3 hbox hb; have n0_ := mk0 (bt_ (by repeat (first | (with_reducible first | exact HB.out | apply bL_ | apply pN_ | apply b1_) | exact HB.out)) hb); have n1_ := mk0 (hbox); have n2_ := mk0 ((by rw [hg]; exact (bz_ (by repeat (first | (with_reducible first | exact HB.out | apply bL_ | apply pN_ | apply b1_) | exact HB.out))) : w.heap.size ≤ gb230)); have n3_ := mk0 ((by rw [hg]; exact (bz_ (by repeat (first | (with_reducible first | exact HB.out | apply bL_ | apply pN_ | apply b1_) | exact HB.out))) : w.heap.size ≤ gb230)); clear HB; have HB := n0_; have BK230 := n1_; have GW230 := n2_; have GE230 := n3_; clear n0_ n1_ n2_ n3_; clear hb hbox hg; have hcz4_0 : w3.cell? ⟨gb230, 0, none⟩ = some (.slice A0_0 l0_0.length c0_0) := (blk_cell BK230.out 0).trans rfl; have hcz4_1 : w3.cell? ⟨gb230, 1, none⟩ = some (.slice A0_1 l0_1.length c0_1) := (blk_cell BK230.out 1).trans rfl; have hcz4_2 : w3.cell? ⟨gb230, 2, none⟩ = some (.slice A0_2 l0_2.length c0_2) := (blk_cell BK230.out 2).trans rfl; have hfz4_0 := blk_frozen BK230.out 0; have hfz4_1 := blk_frozen BK230.out 1; have hfz4_2 := blk_frozen BK230.out 2) | ((with_reducible refine gate_dst (N := 5) rfl ?_); refine box_event ?hg (N := 5) ?hd (cs := #[.slice none 0 0, .slice none 0 0, .slice none 0 0]) (t := 26) ?hr ?_; (case hd => rfl); (case hg => rfl); (case hr => first | (go_simp; done) | (go_simp; rfl)); intro gb231 hg w5 hbox hb; have n0_ := mk0 (blk_below (g := gb230) (o := .cells #[.slice A0_0 l0_0.length c0_0, .slice A0_1 l0_1.length c0_1, .slice A0_2 l0_2.length c0_2] 26 (0, 0)) (by (with_reducible repeat (first | refine bN_ ?_ _ | refine bD_ ?_ | refine bA_ ?_ _)); exact BK230.out) hb); have n1_ := mk0 (bt_ (by repeat (first | (with_reducible first | exact HB.out | apply bL_ | apply pN_ | apply b1_ | refine bs_ ?_ GE230.out) | exact HB.out)) hb); have n2_ := mk0 (hbox); have n3_ := mk0 ((by rw [hg]; exact (bz_ (by repeat (first | (with_reducible first | exact HB.out | apply bL_ | apply pN_ | apply b1_ | refine bs_ ?_ GE230.out) | exact HB.out))) : w.heap.size ≤ gb231)); have n4_ := mk0 ((by rw [hg]; exact (bz_ (by repeat (first | (with_reducible first | exact HB.out | apply bL_ | apply pN_ | apply b1_ | refine bs_ ?_ GE230.out) | exact HB.out))) : w.heap.size ≤ gb231)); have n5_ := mk0 ((by rw [hg]; exact Nat.ne_of_lt (blk_lt (g := gb230) (o := .cells #[.slice A0_0 l0_0.length c0_0, .slice A0_1 l0_1.length c0_1, .slice A0_2 l0_2.length c0_2] 26 (0, 0)) (by (with_reducible repeat (first | refine bN_ ?_ _ | refine bD_ ?_ | refine bA_ ?_ _)); exact BK230.out)) : gb230 ≠ gb231)); have n6_ := mk0 ((by rw [hg]; exact Nat.ne_of_gt (blk_lt (g := gb230) (o := .cells #[.slice A0_0 l0_0.length c0_0, .slice A0_1 l0_1.length c0_1, .slice A0_2 l0_2.length c0_2] 26 (0, 0)) (by (with_reducible repeat (first | refine bN_ ?_ _ | refine bD_ ?_ | refine bA_ ?_ _)); exact BK230.out)) : gb231 ≠ gb230)); clear BK230; clear HB; have BK230 := n0_; have HB := n1_; have BK231 := n2_; have GW231 := n3_; have GE231 := n4_; have NB230_231 := n5_; have NB231_230 := n6_; clear n0_ n1_ n2_ n3_ n4_ n5_ n6_; clear hb hbox hg; have hnb6 := NB231_230.out; have hnc6 := NB230_231.out; have hcz7_0 : w5.cell? ⟨gb231, 0, none⟩ = some (.slice none 0 0) := (blk_cell BK231.out 0).trans rfl; have hcz7_1 : w5.cell? ⟨gb231, 1, none⟩ = some (.slice none 0 0) := (blk_cell BK231.out 1).trans rfl; have hcz7_2 : w5.cell? ⟨gb231, 2, none⟩ = some (.slice none 0 0) := (blk_cell BK231.out 2).trans rfl; have hfz7_0 := blk_frozen BK231.out 0; have hfz7_1 := blk_frozen BK231.out 1; have hfz7_2 := blk_frozen BK231.out 2))
 go_loopg [6] k (fun kq v6 w' => ∃ (x6_1 : Int) (x232000_1 : List (S39)) (u232000 : Value), v6 = .int .i64 x6_1 ∧ Aside0 (quorumlaw12_each.l0 kq a1 x6_1 l0_0 l0_1 l0_2 x232000_1 l0_1 l0_2 = some r) ∧ Aside0 (kq ≤ k) ∧ Aside0 (Kd.R k39 39 w' w.heap.size (fun _ => True) u232000 x232000_1) ∧ Aside0 (w'.heap[gb230]? = some (.cells #[(.slice A0_0 l0_0.length c0_0), (.slice A0_1 l0_1.length c0_1), (.slice A0_2 l0_2.length c0_2)] 26 (0, 0))) ∧ Aside0 (w'.heap[gb231]? = some (.cells #[u232000, (.slice A0_1 l0_1.length c0_1), (.slice A0_2 l0_2.length c0_2)] 26 (0, 0))) ∧ Aside0 (Below w.heap.size w w'))
 case atStart => exact ⟨(0), (([] : List (S39))), (.slice none 0 0), (by first | rfl | (simp; done) | (simp [*]; done)), H', ⟨Nat.le_refl _⟩, ⟨by first | exact Kd.R_nil _ _ _ _ _ | exact Kd.N_nil _ _ _ _ _ | exact Kd.V_nil _ _ _ _ _ | exact Kd.Q_nil _ _ _ _ _ | exact Kd.S_nil _ _ _ _ _⟩, ⟨by (with_reducible repeat (first | refine bN_ ?_ _ | refine bD_ ?_ | refine bA_ ?_ _)); refine blk_far ?_ NB230_231.out _; (with_reducible repeat (first | refine bN_ ?_ _ | refine bD_ ?_ | refine bA_ ?_ _)); refine blk_far ?_ NB230_231.out _; (with_reducible repeat (first | refine bN_ ?_ _ | refine bD_ ?_ | refine bA_ ?_ _)); refine blk_far ?_ NB230_231.out _; (with_reducible repeat (first | refine bN_ ?_ _ | refine bD_ ?_ | refine bA_ ?_ _)); refine blk_far ?_ NB230_231.out _; (with_reducible repeat (first | refine bN_ ?_ _ | refine bD_ ?_ | refine bA_ ?_ _)); exact BK230.out⟩, ⟨by (with_reducible repeat (first | refine bN_ ?_ _ | refine bD_ ?_ | refine bA_ ?_ _)); refine blk_put (cs := #[.slice A0_0 l0_0.length c0_0, .slice A0_1 l0_1.length c0_1, .slice A0_2 l0_2.length c0_2]) ?_ 0 _ rfl; (with_reducible repeat (first | refine bN_ ?_ _ | refine bD_ ?_ | refine bA_ ?_ _)); refine blk_put (cs := #[.slice A0_0 l0_0.length c0_0, .slice A0_1 l0_1.length c0_1, .slice none 0 0]) ?_ 2 _ rfl; (with_reducible repeat (first | refine bN_ ?_ _ | refine bD_ ?_ | refine bA_ ?_ _)); refine blk_put (cs := #[.slice A0_0 l0_0.length c0_0, .slice none 0 0, .slice none 0 0]) ?_ 1 _ rfl; (with_reducible repeat (first | refine bN_ ?_ _ | refine bD_ ?_ | refine bA_ ?_ _)); refine blk_put (cs := #[.slice none 0 0, .slice none 0 0, .slice none 0 0]) ?_ 0 _ rfl; (with_reducible repeat (first | refine bN_ ?_ _ | refine bD_ ?_ | refine bA_ ?_ _)); exact BK231.out⟩, ⟨by repeat (first | (with_reducible first | exact HB.out | apply bL_ | apply pN_ | apply b1_ | refine bs_ ?_ GE230.out | refine bs_ ?_ GE231.out) | exact HB.out)⟩⟩
 case round =>
  clear H'
  try clear c2
  try clear p2
  try clear c6
  try clear hcz4_0
  try clear hcz4_1
  try clear hcz4_2
  try clear hcz7_0
  try clear hcz7_1
  try clear hcz7_2
  try clear hfz4_0
  try clear hfz4_1
  try clear hfz4_2
  try clear hfz7_0
  try clear hfz7_1
  try clear hfz7_2
  obtain ⟨x6_1, x232000_1, u232000, rfl, HA, HK1, HO_232000, BK230, BK231, HB⟩ := hrel
  cases gk with
  | zero => exact absurd HA.out (by simp [quorumlaw12_each.l0])
  | succ k1 =>
   have H := HA.out
   clear HA
   simp only [quorumlaw12_each.l0] at H
   by_cases c8 : x6_1 < (l0_0.length : Int)
   ·rw [if_pos c8] at H
    have c8b0 : decide (x6_1 < (l0_0.length : Int)) = true := decide_eq_true c8
    clear c8
    by_cases c9 : 0 ≤ x6_1
    ·rw [if_pos c9] at H
     have c9b0 : decide (0 ≤ x6_1) = true := decide_eq_true c9
     clear c9
     replace H := Option.bind_eq_some_iff.mp H
     obtain ⟨⟨t234, t235, t236, t237, t238, t239, t240, t241, t242⟩, A100, H⟩ := H
     replace H : ((some (([(⟨a1, (rd_T39 l0_0 x6_1).f1, (rd_T39 l0_0 x6_1).f2, (rd_T39 l0_0 x6_1).f3, (⟨(rd_T39 l0_0 x6_1).f4.f0, (rd_T39 l0_0 x6_1).f4.f1, (rd_T39 l0_0 x6_1).f4.f2⟩ : S37), (rd_T39 l0_0 x6_1).f5, (rd_T39 l0_0 x6_1).f6⟩ : S39), (⟨t234, t235, t236, t237, (⟨t238, t239, t240⟩ : S37), t241, t242⟩ : S39)] : List (S39)) : List (S39))).bind fun y243 => (if x232000_1.length + y243.length < 1353245080339 then (quorumlaw12_each.l0 k1 a1 (wrap64 (x6_1 + 1)) l0_0 l0_1 l0_2 (x232000_1 ++ y243) l0_1 l0_2) else (none))) = some r := H
     have A10 := mk0 A100
     clear A100
     obtain ⟨y243, hy243⟩ : ∃ y_ : List (S39), y_ = (([(⟨a1, (rd_T39 l0_0 x6_1).f1, (rd_T39 l0_0 x6_1).f2, (rd_T39 l0_0 x6_1).f3, (⟨(rd_T39 l0_0 x6_1).f4.f0, (rd_T39 l0_0 x6_1).f4.f1, (rd_T39 l0_0 x6_1).f4.f2⟩ : S37), (rd_T39 l0_0 x6_1).f5, (rd_T39 l0_0 x6_1).f6⟩ : S39), (⟨t234, t235, t236, t237, (⟨t238, t239, t240⟩ : S37), t241, t242⟩ : S39)] : List (S39))) := ⟨_, rfl⟩
     replace H : (if x232000_1.length + y243.length < 1353245080339 then (quorumlaw12_each.l0 k1 a1 (wrap64 (x6_1 + 1)) l0_0 l0_1 l0_2 (x232000_1 ++ y243) l0_1 l0_2) else (none)) = some r := by first | (rw [hy243]; with_reducible exact H) | (have H2_ := (Option.bind_some _ _).symm.trans H; rw [hy243]; with_reducible exact H2_) | (have H2_ := (Option.bind_some _ _).symm.trans H; with_reducible exact H2_) | with_reducible exact H | (rw [hy243]; exact H) | exact H
     have Ny243 := mk0 hy243
     clear hy243
     by_cases c11 : x232000_1.length + y243.length < 1353245080339
     ·rw [if_pos c11] at H
      have LMc11 := mk0 c11
      clear c11
      obtain ⟨y246, hy246⟩ : ∃ y_ : List (S39), y_ = (x232000_1 ++ y243) := ⟨_, rfl⟩
      replace H : (quorumlaw12_each.l0 k1 a1 (wrap64 (x6_1 + 1)) l0_0 l0_1 l0_2 y246 l0_1 l0_2) = some r := by first | (rw [hy246]; with_reducible exact H) | (have H2_ := (Option.bind_some _ _).symm.trans H; rw [hy246]; with_reducible exact H2_) | (have H2_ := (Option.bind_some _ _).symm.trans H; with_reducible exact H2_) | with_reducible exact H | (rw [hy246]; exact H) | exact H
      have Ny246 := mk0 hy246
      clear hy246
      have H' := mk0 H
      clear H
      have hnb12 := NB230_231.out
      have hnc12 := NB231_230.out
      have hcz13_0 : wr.cell? ⟨gb230, 0, none⟩ = some (.slice A0_0 l0_0.length c0_0) := (blk_cell BK230.out 0).trans rfl
      have hcz13_1 : wr.cell? ⟨gb230, 1, none⟩ = some (.slice A0_1 l0_1.length c0_1) := (blk_cell BK230.out 1).trans rfl
      have hcz13_2 : wr.cell? ⟨gb230, 2, none⟩ = some (.slice A0_2 l0_2.length c0_2) := (blk_cell BK230.out 2).trans rfl
      have hfz13_0 := blk_frozen BK230.out 0
      have hfz13_1 := blk_frozen BK230.out 1
      have hfz13_2 := blk_frozen BK230.out 2
      have p232 : 0 ≤ (x6_1 : Int) := of_decide_eq_true (by first | (with_reducible assumption) | assumption)
      have q232 : x6_1 < (l0_0.length : Int) := of_decide_eq_true (by first | (with_reducible assumption) | assumption)
      obtain ⟨ad232, e232, hx232_0, hx232_1, hx232_2, hx232_3, hx232_4, hx232_5, hx232_6, hx232_7, hx232_8⟩ := at_T39 HR0_0.out x6_1 p232 q232
      cases e232
      replace hx232_0 := (HB.out.cell (World.block_lt_of_cell? w _ hx232_0)).trans hx232_0
      replace hx232_1 := (HB.out.cell (World.block_lt_of_cell? w _ hx232_1)).trans hx232_1
      replace hx232_2 := (HB.out.cell (World.block_lt_of_cell? w _ hx232_2)).trans hx232_2
      replace hx232_3 := (HB.out.cell (World.block_lt_of_cell? w _ hx232_3)).trans hx232_3
      replace hx232_4 := (HB.out.cell (World.block_lt_of_cell? w _ hx232_4)).trans hx232_4
      replace hx232_5 := (HB.out.cell (World.block_lt_of_cell? w _ hx232_5)).trans hx232_5
      replace hx232_6 := (HB.out.cell (World.block_lt_of_cell? w _ hx232_6)).trans hx232_6
      replace hx232_7 := (HB.out.cell (World.block_lt_of_cell? w _ hx232_7)).trans hx232_7
      replace hx232_8 := (HB.out.cell (World.block_lt_of_cell? w _ hx232_8)).trans hx232_8
      replace p232 := eq_true p232
      replace q232 := eq_true q232
      try go_wp2_with (first | ((with_reducible refine gate_dst (N := 7) rfl ?_); refine box_event ?hg (N := 7) ?hd (cs := #[.int .i64 0, .int .i64 0, .string (⟨#[]⟩ : ByteArray), .string (⟨#[]⟩ : ByteArray), .string (⟨#[]⟩ : ByteArray), .string (⟨#[]⟩ : ByteArray), .bool false, .int .i64 0, .bool false]) (t := 39) ?hr ?_; (case hd => rfl); (case hg => rfl); (case hr => first | (go_simp; done) | (go_simp; rfl)); intro gb233 hg w14 hbox hb; have n0_ := mk0 (Kd.R_below (Kd.R_elderB (by (with_reducible repeat (first | apply Ra_ | apply Rn_ | apply Rd_)); exact HO_232000.out) gb233 (Nat.le_of_eq hg.symm)) hb); have n1_ := mk0 (blk_below (g := gb230) (o := .cells #[.slice (some ad232) l0_0.length c0_0, .slice A0_1 l0_1.length c0_1, .slice A0_2 l0_2.length c0_2] 26 (0, 0)) (by (with_reducible repeat (first | refine bN_ ?_ _ | refine bD_ ?_ | refine bA_ ?_ _)); exact BK230.out) hb); have n2_ := mk0 (blk_below (g := gb231) (o := .cells #[u232000, .slice A0_1 l0_1.length c0_1, .slice A0_2 l0_2.length c0_2] 26 (0, 0)) (by (with_reducible repeat (first | refine bN_ ?_ _ | refine bD_ ?_ | refine bA_ ?_ _)); exact BK231.out) hb); have n3_ := mk0 (bt_ (by repeat (first | (with_reducible first | exact HB.out | apply bL_ | apply pN_ | apply b1_ | refine bs_ ?_ GE230.out | refine bs_ ?_ GE231.out) | exact HB.out)) hb); have n4_ := mk0 (hbox); have n5_ := mk0 ((by rw [hg]; exact (bz_ (by repeat (first | (with_reducible first | exact HB.out | apply bL_ | apply pN_ | apply b1_ | refine bs_ ?_ GE230.out | refine bs_ ?_ GE231.out) | exact HB.out))) : w.heap.size ≤ gb233)); have n6_ := mk0 ((by rw [hg]; exact (bz_ (by repeat (first | (with_reducible first | exact HB.out | apply bL_ | apply pN_ | apply b1_ | refine bs_ ?_ GE230.out | refine bs_ ?_ GE231.out) | exact HB.out))) : w.heap.size ≤ gb233)); have n7_ := mk0 ((by rw [hg]; exact Nat.ne_of_lt (blk_lt (g := gb230) (o := .cells #[.slice (some ad232) l0_0.length c0_0, .slice A0_1 l0_1.length c0_1, .slice A0_2 l0_2.length c0_2] 26 (0, 0)) (by (with_reducible repeat (first | refine bN_ ?_ _ | refine bD_ ?_ | refine bA_ ?_ _)); exact BK230.out)) : gb230 ≠ gb233)); have n8_ := mk0 ((by rw [hg]; exact Nat.ne_of_gt (blk_lt (g := gb230) (o := .cells #[.slice (some ad232) l0_0.length c0_0, .slice A0_1 l0_1.length c0_1, .slice A0_2 l0_2.length c0_2] 26 (0, 0)) (by (with_reducible repeat (first | refine bN_ ?_ _ | refine bD_ ?_ | refine bA_ ?_ _)); exact BK230.out)) : gb233 ≠ gb230)); have n9_ := mk0 ((by rw [hg]; exact Nat.ne_of_lt (blk_lt (g := gb231) (o := .cells #[u232000, .slice A0_1 l0_1.length c0_1, .slice A0_2 l0_2.length c0_2] 26 (0, 0)) (by (with_reducible repeat (first | refine bN_ ?_ _ | refine bD_ ?_ | refine bA_ ?_ _)); exact BK231.out)) : gb231 ≠ gb233)); have n10_ := mk0 ((by rw [hg]; exact Nat.ne_of_gt (blk_lt (g := gb231) (o := .cells #[u232000, .slice A0_1 l0_1.length c0_1, .slice A0_2 l0_2.length c0_2] 26 (0, 0)) (by (with_reducible repeat (first | refine bN_ ?_ _ | refine bD_ ?_ | refine bA_ ?_ _)); exact BK231.out)) : gb233 ≠ gb231)); clear HO_232000; clear BK230; clear BK231; clear HB; have HO_232000 := n0_; have BK230 := n1_; have BK231 := n2_; have HB := n3_; have BK233 := n4_; have GW233 := n5_; have GE233 := n6_; have NB230_233 := n7_; have NB233_230 := n8_; have NB231_233 := n9_; have NB233_231 := n10_; clear n0_ n1_ n2_ n3_ n4_ n5_ n6_ n7_ n8_ n9_ n10_; clear hb hbox hg; have hnb15 := NB233_230.out; have hnc15 := NB230_233.out; have hnb16 := NB233_231.out; have hnc16 := NB231_233.out; have hcz17_0 : w14.cell? ⟨gb233, 0, none⟩ = some (.int .i64 0) := (blk_cell BK233.out 0).trans rfl; have hcz17_1 : w14.cell? ⟨gb233, 1, none⟩ = some (.int .i64 0) := (blk_cell BK233.out 1).trans rfl; have hcz17_2 : w14.cell? ⟨gb233, 2, none⟩ = some (.string (⟨#[]⟩ : ByteArray)) := (blk_cell BK233.out 2).trans rfl; have hcz17_3 : w14.cell? ⟨gb233, 3, none⟩ = some (.string (⟨#[]⟩ : ByteArray)) := (blk_cell BK233.out 3).trans rfl; have hcz17_4 : w14.cell? ⟨gb233, 4, none⟩ = some (.string (⟨#[]⟩ : ByteArray)) := (blk_cell BK233.out 4).trans rfl; have hcz17_5 : w14.cell? ⟨gb233, 5, none⟩ = some (.string (⟨#[]⟩ : ByteArray)) := (blk_cell BK233.out 5).trans rfl; have hcz17_6 : w14.cell? ⟨gb233, 6, none⟩ = some (.bool false) := (blk_cell BK233.out 6).trans rfl; have hcz17_7 : w14.cell? ⟨gb233, 7, none⟩ = some (.int .i64 0) := (blk_cell BK233.out 7).trans rfl; have hcz17_8 : w14.cell? ⟨gb233, 8, none⟩ = some (.bool false) := (blk_cell BK233.out 8).trans rfl; have hfz17_0 := blk_frozen BK233.out 0; have hfz17_1 := blk_frozen BK233.out 1; have hfz17_2 := blk_frozen BK233.out 2; have hfz17_3 := blk_frozen BK233.out 3; have hfz17_4 := blk_frozen BK233.out 4; have hfz17_5 := blk_frozen BK233.out 5; have hfz17_6 := blk_frozen BK233.out 6; have hfz17_7 := blk_frozen BK233.out 7; have hfz17_8 := blk_frozen BK233.out 8))
      have n0_ : Aside0 (Kd.R k39 39 ((((((((((w14.setCell ⟨gb233, 0, none⟩ (.int .i64 ((rd_T39 l0_0 x6_1).f0))).setCell ⟨gb233, 1, none⟩ (.int .i64 ((rd_T39 l0_0 x6_1).f1))).setCell ⟨gb233, 2, none⟩ (.string ((rd_T39 l0_0 x6_1).f2))).setCell ⟨gb233, 3, none⟩ (.string ((rd_T39 l0_0 x6_1).f3))).setCell ⟨gb233, 4, none⟩ (.string ((rd_T39 l0_0 x6_1).f4.f0))).setCell ⟨gb233, 5, none⟩ (.string ((rd_T39 l0_0 x6_1).f4.f1))).setCell ⟨gb233, 6, none⟩ (.bool ((rd_T39 l0_0 x6_1).f4.f2))).setCell ⟨gb233, 7, none⟩ (.int .i64 ((rd_T39 l0_0 x6_1).f5))).setCell ⟨gb233, 8, none⟩ (.bool ((rd_T39 l0_0 x6_1).f6))).setCell ⟨gb233, 0, none⟩ (.int .i64 a1)) w.heap.size (fun k_ => k_ ≠ gb233) u232000 x232000_1) := ⟨by (with_reducible repeat (first | apply Ra_ | apply Rn_ | apply Rd_)); exact Kd.R_mono (Kd.R_far (p := ⟨gb233, 0, none⟩) (Kd.R_far (p := ⟨gb233, 8, none⟩) (Kd.R_far (p := ⟨gb233, 7, none⟩) (Kd.R_far (p := ⟨gb233, 6, none⟩) (Kd.R_far (p := ⟨gb233, 5, none⟩) (Kd.R_far (p := ⟨gb233, 4, none⟩) (Kd.R_far (p := ⟨gb233, 3, none⟩) (Kd.R_far (p := ⟨gb233, 2, none⟩) (Kd.R_far (p := ⟨gb233, 1, none⟩) (Kd.R_far (p := ⟨gb233, 0, none⟩) (Kd.R_mono HO_232000.out (fun k_ hk => (⟨hk, hk.2⟩ : _ ∧ k_ ≠ gb233))) (fun _ hk => hk.2) (.int .i64 ((rd_T39 l0_0 x6_1).f0))) (fun _ hk => hk.2) (.int .i64 ((rd_T39 l0_0 x6_1).f1))) (fun _ hk => hk.2) (.string ((rd_T39 l0_0 x6_1).f2))) (fun _ hk => hk.2) (.string ((rd_T39 l0_0 x6_1).f3))) (fun _ hk => hk.2) (.string ((rd_T39 l0_0 x6_1).f4.f0))) (fun _ hk => hk.2) (.string ((rd_T39 l0_0 x6_1).f4.f1))) (fun _ hk => hk.2) (.bool ((rd_T39 l0_0 x6_1).f4.f2))) (fun _ hk => hk.2) (.int .i64 ((rd_T39 l0_0 x6_1).f5))) (fun _ hk => hk.2) (.bool ((rd_T39 l0_0 x6_1).f6))) (fun _ hk => hk.2) (.int .i64 a1)) (fun _ hk => hk.1.2)⟩
      have n1_ : Aside0 (((((((((((w14.setCell ⟨gb233, 0, none⟩ (.int .i64 ((rd_T39 l0_0 x6_1).f0))).setCell ⟨gb233, 1, none⟩ (.int .i64 ((rd_T39 l0_0 x6_1).f1))).setCell ⟨gb233, 2, none⟩ (.string ((rd_T39 l0_0 x6_1).f2))).setCell ⟨gb233, 3, none⟩ (.string ((rd_T39 l0_0 x6_1).f3))).setCell ⟨gb233, 4, none⟩ (.string ((rd_T39 l0_0 x6_1).f4.f0))).setCell ⟨gb233, 5, none⟩ (.string ((rd_T39 l0_0 x6_1).f4.f1))).setCell ⟨gb233, 6, none⟩ (.bool ((rd_T39 l0_0 x6_1).f4.f2))).setCell ⟨gb233, 7, none⟩ (.int .i64 ((rd_T39 l0_0 x6_1).f5))).setCell ⟨gb233, 8, none⟩ (.bool ((rd_T39 l0_0 x6_1).f6))).setCell ⟨gb233, 0, none⟩ (.int .i64 a1)).heap[gb230]? = some (.cells #[.slice (some ad232) l0_0.length c0_0, .slice A0_1 l0_1.length c0_1, .slice A0_2 l0_2.length c0_2] 26 (0, 0))) := ⟨by (with_reducible repeat (first | refine bN_ ?_ _ | refine bD_ ?_ | refine bA_ ?_ _)); refine blk_far ?_ NB230_233.out _; (with_reducible repeat (first | refine bN_ ?_ _ | refine bD_ ?_ | refine bA_ ?_ _)); refine blk_far ?_ NB230_233.out _; (with_reducible repeat (first | refine bN_ ?_ _ | refine bD_ ?_ | refine bA_ ?_ _)); refine blk_far ?_ NB230_233.out _; (with_reducible repeat (first | refine bN_ ?_ _ | refine bD_ ?_ | refine bA_ ?_ _)); refine blk_far ?_ NB230_233.out _; (with_reducible repeat (first | refine bN_ ?_ _ | refine bD_ ?_ | refine bA_ ?_ _)); refine blk_far ?_ NB230_233.out _; (with_reducible repeat (first | refine bN_ ?_ _ | refine bD_ ?_ | refine bA_ ?_ _)); refine blk_far ?_ NB230_233.out _; (with_reducible repeat (first | refine bN_ ?_ _ | refine bD_ ?_ | refine bA_ ?_ _)); refine blk_far ?_ NB230_233.out _; (with_reducible repeat (first | refine bN_ ?_ _ | refine bD_ ?_ | refine bA_ ?_ _)); refine blk_far ?_ NB230_233.out _; (with_reducible repeat (first | refine bN_ ?_ _ | refine bD_ ?_ | refine bA_ ?_ _)); refine blk_far ?_ NB230_233.out _; (with_reducible repeat (first | refine bN_ ?_ _ | refine bD_ ?_ | refine bA_ ?_ _)); refine blk_far ?_ NB230_233.out _; (with_reducible repeat (first | refine bN_ ?_ _ | refine bD_ ?_ | refine bA_ ?_ _)); exact BK230.out⟩
      have n2_ : Aside0 (((((((((((w14.setCell ⟨gb233, 0, none⟩ (.int .i64 ((rd_T39 l0_0 x6_1).f0))).setCell ⟨gb233, 1, none⟩ (.int .i64 ((rd_T39 l0_0 x6_1).f1))).setCell ⟨gb233, 2, none⟩ (.string ((rd_T39 l0_0 x6_1).f2))).setCell ⟨gb233, 3, none⟩ (.string ((rd_T39 l0_0 x6_1).f3))).setCell ⟨gb233, 4, none⟩ (.string ((rd_T39 l0_0 x6_1).f4.f0))).setCell ⟨gb233, 5, none⟩ (.string ((rd_T39 l0_0 x6_1).f4.f1))).setCell ⟨gb233, 6, none⟩ (.bool ((rd_T39 l0_0 x6_1).f4.f2))).setCell ⟨gb233, 7, none⟩ (.int .i64 ((rd_T39 l0_0 x6_1).f5))).setCell ⟨gb233, 8, none⟩ (.bool ((rd_T39 l0_0 x6_1).f6))).setCell ⟨gb233, 0, none⟩ (.int .i64 a1)).heap[gb231]? = some (.cells #[u232000, .slice A0_1 l0_1.length c0_1, .slice A0_2 l0_2.length c0_2] 26 (0, 0))) := ⟨by (with_reducible repeat (first | refine bN_ ?_ _ | refine bD_ ?_ | refine bA_ ?_ _)); refine blk_far ?_ NB231_233.out _; (with_reducible repeat (first | refine bN_ ?_ _ | refine bD_ ?_ | refine bA_ ?_ _)); refine blk_far ?_ NB231_233.out _; (with_reducible repeat (first | refine bN_ ?_ _ | refine bD_ ?_ | refine bA_ ?_ _)); refine blk_far ?_ NB231_233.out _; (with_reducible repeat (first | refine bN_ ?_ _ | refine bD_ ?_ | refine bA_ ?_ _)); refine blk_far ?_ NB231_233.out _; (with_reducible repeat (first | refine bN_ ?_ _ | refine bD_ ?_ | refine bA_ ?_ _)); refine blk_far ?_ NB231_233.out _; (with_reducible repeat (first | refine bN_ ?_ _ | refine bD_ ?_ | refine bA_ ?_ _)); refine blk_far ?_ NB231_233.out _; (with_reducible repeat (first | refine bN_ ?_ _ | refine bD_ ?_ | refine bA_ ?_ _)); refine blk_far ?_ NB231_233.out _; (with_reducible repeat (first | refine bN_ ?_ _ | refine bD_ ?_ | refine bA_ ?_ _)); refine blk_far ?_ NB231_233.out _; (with_reducible repeat (first | refine bN_ ?_ _ | refine bD_ ?_ | refine bA_ ?_ _)); refine blk_far ?_ NB231_233.out _; (with_reducible repeat (first | refine bN_ ?_ _ | refine bD_ ?_ | refine bA_ ?_ _)); refine blk_far ?_ NB231_233.out _; (with_reducible repeat (first | refine bN_ ?_ _ | refine bD_ ?_ | refine bA_ ?_ _)); exact BK231.out⟩
      have n3_ : Aside0 (((((((((((w14.setCell ⟨gb233, 0, none⟩ (.int .i64 ((rd_T39 l0_0 x6_1).f0))).setCell ⟨gb233, 1, none⟩ (.int .i64 ((rd_T39 l0_0 x6_1).f1))).setCell ⟨gb233, 2, none⟩ (.string ((rd_T39 l0_0 x6_1).f2))).setCell ⟨gb233, 3, none⟩ (.string ((rd_T39 l0_0 x6_1).f3))).setCell ⟨gb233, 4, none⟩ (.string ((rd_T39 l0_0 x6_1).f4.f0))).setCell ⟨gb233, 5, none⟩ (.string ((rd_T39 l0_0 x6_1).f4.f1))).setCell ⟨gb233, 6, none⟩ (.bool ((rd_T39 l0_0 x6_1).f4.f2))).setCell ⟨gb233, 7, none⟩ (.int .i64 ((rd_T39 l0_0 x6_1).f5))).setCell ⟨gb233, 8, none⟩ (.bool ((rd_T39 l0_0 x6_1).f6))).setCell ⟨gb233, 0, none⟩ (.int .i64 a1)).heap[gb233]? = some (.cells #[.int .i64 a1, .int .i64 ((rd_T39 l0_0 x6_1).f1), .string ((rd_T39 l0_0 x6_1).f2), .string ((rd_T39 l0_0 x6_1).f3), .string ((rd_T39 l0_0 x6_1).f4.f0), .string ((rd_T39 l0_0 x6_1).f4.f1), .bool ((rd_T39 l0_0 x6_1).f4.f2), .int .i64 ((rd_T39 l0_0 x6_1).f5), .bool ((rd_T39 l0_0 x6_1).f6)] 39 (0, 0))) := ⟨by (with_reducible repeat (first | refine bN_ ?_ _ | refine bD_ ?_ | refine bA_ ?_ _)); refine blk_put (cs := #[.int .i64 ((rd_T39 l0_0 x6_1).f0), .int .i64 ((rd_T39 l0_0 x6_1).f1), .string ((rd_T39 l0_0 x6_1).f2), .string ((rd_T39 l0_0 x6_1).f3), .string ((rd_T39 l0_0 x6_1).f4.f0), .string ((rd_T39 l0_0 x6_1).f4.f1), .bool ((rd_T39 l0_0 x6_1).f4.f2), .int .i64 ((rd_T39 l0_0 x6_1).f5), .bool ((rd_T39 l0_0 x6_1).f6)]) ?_ 0 _ rfl; (with_reducible repeat (first | refine bN_ ?_ _ | refine bD_ ?_ | refine bA_ ?_ _)); refine blk_put (cs := #[.int .i64 ((rd_T39 l0_0 x6_1).f0), .int .i64 ((rd_T39 l0_0 x6_1).f1), .string ((rd_T39 l0_0 x6_1).f2), .string ((rd_T39 l0_0 x6_1).f3), .string ((rd_T39 l0_0 x6_1).f4.f0), .string ((rd_T39 l0_0 x6_1).f4.f1), .bool ((rd_T39 l0_0 x6_1).f4.f2), .int .i64 ((rd_T39 l0_0 x6_1).f5), .bool false]) ?_ 8 _ rfl; (with_reducible repeat (first | refine bN_ ?_ _ | refine bD_ ?_ | refine bA_ ?_ _)); refine blk_put (cs := #[.int .i64 ((rd_T39 l0_0 x6_1).f0), .int .i64 ((rd_T39 l0_0 x6_1).f1), .string ((rd_T39 l0_0 x6_1).f2), .string ((rd_T39 l0_0 x6_1).f3), .string ((rd_T39 l0_0 x6_1).f4.f0), .string ((rd_T39 l0_0 x6_1).f4.f1), .bool ((rd_T39 l0_0 x6_1).f4.f2), .int .i64 0, .bool false]) ?_ 7 _ rfl; (with_reducible repeat (first | refine bN_ ?_ _ | refine bD_ ?_ | refine bA_ ?_ _)); refine blk_put (cs := #[.int .i64 ((rd_T39 l0_0 x6_1).f0), .int .i64 ((rd_T39 l0_0 x6_1).f1), .string ((rd_T39 l0_0 x6_1).f2), .string ((rd_T39 l0_0 x6_1).f3), .string ((rd_T39 l0_0 x6_1).f4.f0), .string ((rd_T39 l0_0 x6_1).f4.f1), .bool false, .int .i64 0, .bool false]) ?_ 6 _ rfl; (with_reducible repeat (first | refine bN_ ?_ _ | refine bD_ ?_ | refine bA_ ?_ _)); refine blk_put (cs := #[.int .i64 ((rd_T39 l0_0 x6_1).f0), .int .i64 ((rd_T39 l0_0 x6_1).f1), .string ((rd_T39 l0_0 x6_1).f2), .string ((rd_T39 l0_0 x6_1).f3), .string ((rd_T39 l0_0 x6_1).f4.f0), .string (⟨#[]⟩ : ByteArray), .bool false, .int .i64 0, .bool false]) ?_ 5 _ rfl; (with_reducible repeat (first | refine bN_ ?_ _ | refine bD_ ?_ | refine bA_ ?_ _)); refine blk_put (cs := #[.int .i64 ((rd_T39 l0_0 x6_1).f0), .int .i64 ((rd_T39 l0_0 x6_1).f1), .string ((rd_T39 l0_0 x6_1).f2), .string ((rd_T39 l0_0 x6_1).f3), .string (⟨#[]⟩ : ByteArray), .string (⟨#[]⟩ : ByteArray), .bool false, .int .i64 0, .bool false]) ?_ 4 _ rfl; (with_reducible repeat (first | refine bN_ ?_ _ | refine bD_ ?_ | refine bA_ ?_ _)); refine blk_put (cs := #[.int .i64 ((rd_T39 l0_0 x6_1).f0), .int .i64 ((rd_T39 l0_0 x6_1).f1), .string ((rd_T39 l0_0 x6_1).f2), .string (⟨#[]⟩ : ByteArray), .string (⟨#[]⟩ : ByteArray), .string (⟨#[]⟩ : ByteArray), .bool false, .int .i64 0, .bool false]) ?_ 3 _ rfl; (with_reducible repeat (first | refine bN_ ?_ _ | refine bD_ ?_ | refine bA_ ?_ _)); refine blk_put (cs := #[.int .i64 ((rd_T39 l0_0 x6_1).f0), .int .i64 ((rd_T39 l0_0 x6_1).f1), .string (⟨#[]⟩ : ByteArray), .string (⟨#[]⟩ : ByteArray), .string (⟨#[]⟩ : ByteArray), .string (⟨#[]⟩ : ByteArray), .bool false, .int .i64 0, .bool false]) ?_ 2 _ rfl; (with_reducible repeat (first | refine bN_ ?_ _ | refine bD_ ?_ | refine bA_ ?_ _)); refine blk_put (cs := #[.int .i64 ((rd_T39 l0_0 x6_1).f0), .int .i64 0, .string (⟨#[]⟩ : ByteArray), .string (⟨#[]⟩ : ByteArray), .string (⟨#[]⟩ : ByteArray), .string (⟨#[]⟩ : ByteArray), .bool false, .int .i64 0, .bool false]) ?_ 1 _ rfl; (with_reducible repeat (first | refine bN_ ?_ _ | refine bD_ ?_ | refine bA_ ?_ _)); refine blk_put (cs := #[.int .i64 0, .int .i64 0, .string (⟨#[]⟩ : ByteArray), .string (⟨#[]⟩ : ByteArray), .string (⟨#[]⟩ : ByteArray), .string (⟨#[]⟩ : ByteArray), .bool false, .int .i64 0, .bool false]) ?_ 0 _ rfl; (with_reducible repeat (first | refine bN_ ?_ _ | refine bD_ ?_ | refine bA_ ?_ _)); exact BK233.out⟩
      have n4_ : Aside0 (Below w.heap.size w ((((((((((w14.setCell ⟨gb233, 0, none⟩ (.int .i64 ((rd_T39 l0_0 x6_1).f0))).setCell ⟨gb233, 1, none⟩ (.int .i64 ((rd_T39 l0_0 x6_1).f1))).setCell ⟨gb233, 2, none⟩ (.string ((rd_T39 l0_0 x6_1).f2))).setCell ⟨gb233, 3, none⟩ (.string ((rd_T39 l0_0 x6_1).f3))).setCell ⟨gb233, 4, none⟩ (.string ((rd_T39 l0_0 x6_1).f4.f0))).setCell ⟨gb233, 5, none⟩ (.string ((rd_T39 l0_0 x6_1).f4.f1))).setCell ⟨gb233, 6, none⟩ (.bool ((rd_T39 l0_0 x6_1).f4.f2))).setCell ⟨gb233, 7, none⟩ (.int .i64 ((rd_T39 l0_0 x6_1).f5))).setCell ⟨gb233, 8, none⟩ (.bool ((rd_T39 l0_0 x6_1).f6))).setCell ⟨gb233, 0, none⟩ (.int .i64 a1))) := ⟨by repeat (first | (with_reducible first | exact HB.out | apply bL_ | apply pN_ | apply b1_ | refine bs_ ?_ GE230.out | refine bs_ ?_ GE231.out | refine bs_ ?_ GE233.out) | exact HB.out)⟩
      (try clear HO_232000)
      (try clear BK230)
      (try clear BK231)
      (try clear BK233)
      (try clear HB)
      generalize ((((((((((w14.setCell ⟨gb233, 0, none⟩ (.int .i64 ((rd_T39 l0_0 x6_1).f0))).setCell ⟨gb233, 1, none⟩ (.int .i64 ((rd_T39 l0_0 x6_1).f1))).setCell ⟨gb233, 2, none⟩ (.string ((rd_T39 l0_0 x6_1).f2))).setCell ⟨gb233, 3, none⟩ (.string ((rd_T39 l0_0 x6_1).f3))).setCell ⟨gb233, 4, none⟩ (.string ((rd_T39 l0_0 x6_1).f4.f0))).setCell ⟨gb233, 5, none⟩ (.string ((rd_T39 l0_0 x6_1).f4.f1))).setCell ⟨gb233, 6, none⟩ (.bool ((rd_T39 l0_0 x6_1).f4.f2))).setCell ⟨gb233, 7, none⟩ (.int .i64 ((rd_T39 l0_0 x6_1).f5))).setCell ⟨gb233, 8, none⟩ (.bool ((rd_T39 l0_0 x6_1).f6))).setCell ⟨gb233, 0, none⟩ (.int .i64 a1)) = w18 at n0_ n1_ n2_ n3_ n4_ ⊢
      have HO_232000 := n0_
      have BK230 := n1_
      have BK231 := n2_
      have BK233 := n3_
      have HB := n4_
      clear n0_ n1_ n2_ n3_ n4_
      have n0_ := mk0 (Rd_ HO_232000.out)
      have n1_ := mk0 (bD_ BK230.out)
      have n2_ := mk0 (bD_ BK231.out)
      have n3_ := mk0 (bD_ BK233.out)
      have n4_ := mk0 (b1_ HB.out)
      clear HO_232000
      clear BK230
      clear BK231
      clear BK233
      clear HB
      have HO_232000 := n0_
      have BK230 := n1_
      have BK231 := n2_
      have BK233 := n3_
      have HB := n4_
      clear n0_ n1_ n2_ n3_ n4_
      refine start_ (n := 9) (S := fun w' => w'.cell? ⟨gb231, 0, none⟩ = some (u232000) ∧ w'.cell? ⟨gb231, 1, none⟩ = some (.slice A0_1 l0_1.length c0_1) ∧ w'.cell? ⟨gb231, 2, none⟩ = some (.slice A0_2 l0_2.length c0_2) ∧ w'.cell? ⟨gb233, 0, none⟩ = some (.int .i64 a1) ∧ w'.cell? ⟨gb233, 1, none⟩ = some (.int .i64 ((rd_T39 l0_0 x6_1).f1)) ∧ w'.cell? ⟨gb233, 2, none⟩ = some (.string ((rd_T39 l0_0 x6_1).f2)) ∧ w'.cell? ⟨gb233, 3, none⟩ = some (.string ((rd_T39 l0_0 x6_1).f3)) ∧ w'.cell? ⟨gb233, 4, none⟩ = some (.string ((rd_T39 l0_0 x6_1).f4.f0)) ∧ w'.cell? ⟨gb233, 5, none⟩ = some (.string ((rd_T39 l0_0 x6_1).f4.f1)) ∧ w'.cell? ⟨gb233, 6, none⟩ = some (.bool ((rd_T39 l0_0 x6_1).f4.f2)) ∧ w'.cell? ⟨gb233, 7, none⟩ = some (.int .i64 ((rd_T39 l0_0 x6_1).f5)) ∧ w'.cell? ⟨gb233, 8, none⟩ = some (.bool ((rd_T39 l0_0 x6_1).f6))) (ds := [8]) (bt 9 0) (by kernel_rfl) rfl rfl ⟨(blk_cell BK231.out 0).trans rfl, (blk_cell BK231.out 1).trans rfl, (blk_cell BK231.out 2).trans rfl, (blk_cell BK233.out 0).trans rfl, (blk_cell BK233.out 1).trans rfl, (blk_cell BK233.out 2).trans rfl, (blk_cell BK233.out 3).trans rfl, (blk_cell BK233.out 4).trans rfl, (blk_cell BK233.out 5).trans rfl, (blk_cell BK233.out 6).trans rfl, (blk_cell BK233.out 7).trans rfl, (blk_cell BK233.out 8).trans rfl⟩ (fun hHeld => ?_); refine with_tabW quorumlaw12_each.tab8 quorumlaw12_each.bits8 (fun HT_ HW_ => ?_)
      generalize w18.drew = w19 at HO_232000 BK230 BK231 BK233 HB hHeld ⊢
      refine p1 HT_.out 0 24 (bt 9 1) rfl rfl (by kernel_rfl) (fun _ _ _ h => h) (by rfl) (by intro w'; go_simp; with_reducible rfl) (by simp only [z_]; rfl) ?_
      refine t1 HT_.out HW_.out 1 25 (bt 9 3) rfl rfl (by kernel_rfl) (fun _ _ _ h => h) (by rfl) (by rintro w' ⟨s0, s1, s2, s3, s4, s5, s6, s7, s8, s9, s10, s11⟩; go_simp; with_reducible rfl) hHeld (by simp only [z_]; rfl) ?_
      refine t1 HT_.out HW_.out 2 26 (bt 9 7) rfl rfl (by kernel_rfl) (fun _ _ _ h => h) (by rfl) (by rintro w' ⟨s0, s1, s2, s3, s4, s5, s6, s7, s8, s9, s10, s11⟩; go_simp; with_reducible rfl) hHeld (by simp only [z_]; rfl) ?_
      refine t1 HT_.out HW_.out 3 27 (bt 9 15) rfl rfl (by kernel_rfl) (fun _ _ _ h => h) (by rfl) (by rintro w' ⟨s0, s1, s2, s3, s4, s5, s6, s7, s8, s9, s10, s11⟩; go_simp; with_reducible rfl) hHeld (by simp only [z_]; rfl) ?_
      refine one_ (i := 4) (N := some 28) (bt 9 31) rfl rfl (one_of HT_.out (by kernel_rfl)) (by decide) (fun K hK => ?_)
      refine goes_ Try.func30 (by kernel_rfl) rfl #[.agg #[.int .i64 a1, .int .i64 ((rd_T39 l0_0 x6_1).f1), .string ((rd_T39 l0_0 x6_1).f2), .string ((rd_T39 l0_0 x6_1).f3), .string ((rd_T39 l0_0 x6_1).f4.f0), .string ((rd_T39 l0_0 x6_1).f4.f1), .bool ((rd_T39 l0_0 x6_1).f4.f2), .int .i64 ((rd_T39 l0_0 x6_1).f5), .bool ((rd_T39 l0_0 x6_1).f6)]] (by rfl) rfl rfl (by (try simp only [List.map_toArray, List.map_cons, List.map_nil]); first | done | rfl | (simp only [List.length_drop, List.length_take]; rfl)) ?_
      with_reducible refine (quorumlaw12_Bare.calls a1 ((rd_T39 l0_0 x6_1).f1) ((rd_T39 l0_0 x6_1).f2) ((rd_T39 l0_0 x6_1).f3) ((rd_T39 l0_0 x6_1).f4.f0) ((rd_T39 l0_0 x6_1).f4.f1) ((rd_T39 l0_0 x6_1).f4.f2) ((rd_T39 l0_0 x6_1).f5) ((rd_T39 l0_0 x6_1).f6) t234 t235 t236 t237 t238 t239 t240 t241 t242 _ A10.out).mono ?_
      rintro e w20 ⟨rfl, hb⟩
      refine ⟨_, rfl, ?_⟩
      have n0_ := mk0 (Kd.R_below (by (with_reducible repeat (first | apply Ra_ | apply Rn_ | apply Rd_)); exact HO_232000.out) hb)
      have n1_ := mk0 (blk_below (g := gb230) (o := .cells #[.slice (some ad232) l0_0.length c0_0, .slice A0_1 l0_1.length c0_1, .slice A0_2 l0_2.length c0_2] 26 (0, 0)) (by (with_reducible repeat (first | refine bN_ ?_ _ | refine bD_ ?_ | refine bA_ ?_ _)); exact BK230.out) hb)
      have n2_ := mk0 (blk_below (g := gb231) (o := .cells #[u232000, .slice A0_1 l0_1.length c0_1, .slice A0_2 l0_2.length c0_2] 26 (0, 0)) (by (with_reducible repeat (first | refine bN_ ?_ _ | refine bD_ ?_ | refine bA_ ?_ _)); exact BK231.out) hb)
      have n3_ := mk0 (blk_below (g := gb233) (o := .cells #[.int .i64 a1, .int .i64 ((rd_T39 l0_0 x6_1).f1), .string ((rd_T39 l0_0 x6_1).f2), .string ((rd_T39 l0_0 x6_1).f3), .string ((rd_T39 l0_0 x6_1).f4.f0), .string ((rd_T39 l0_0 x6_1).f4.f1), .bool ((rd_T39 l0_0 x6_1).f4.f2), .int .i64 ((rd_T39 l0_0 x6_1).f5), .bool ((rd_T39 l0_0 x6_1).f6)] 39 (0, 0)) (by (with_reducible repeat (first | refine bN_ ?_ _ | refine bD_ ?_ | refine bA_ ?_ _)); exact BK233.out) hb)
      have n4_ := mk0 (bt_ (by repeat (first | (with_reducible first | exact HB.out | apply bL_ | apply pN_ | apply b1_ | refine bs_ ?_ GE230.out | refine bs_ ?_ GE231.out | refine bs_ ?_ GE233.out) | exact HB.out)) hb)
      clear HO_232000
      clear BK230
      clear BK231
      clear BK233
      clear HB
      have HO_232000 := n0_
      have BK230 := n1_
      have BK231 := n2_
      have BK233 := n3_
      have HB := n4_
      clear n0_ n1_ n2_ n3_ n4_
      (try clear hb)
      (try clear hb2)
      (try clear hk)
      (try clear hi)
      refine hK.out _ _ ⟨(blk_cell BK231.out 0).trans rfl, (blk_cell BK231.out 1).trans rfl, (blk_cell BK231.out 2).trans rfl, (blk_cell BK233.out 0).trans rfl, (blk_cell BK233.out 1).trans rfl, (blk_cell BK233.out 2).trans rfl, (blk_cell BK233.out 3).trans rfl, (blk_cell BK233.out 4).trans rfl, (blk_cell BK233.out 5).trans rfl, (blk_cell BK233.out 6).trans rfl, (blk_cell BK233.out 7).trans rfl, (blk_cell BK233.out 8).trans rfl⟩ (fun hHeld => ?_)
      clear hK K
      refine norm_ (a' := ?_) ?_ ?_
      rotate_left
      ·show Act.put _ (some 28) _ = _
       simp only [z_]
       rfl
      refine one_ (i := 5) (N := some 29) (bt 9 63) rfl rfl (one_of HT_.out (by kernel_rfl)) (by decide) (fun K hK => ?_)
      refine Kd.R_lit_step k39 _ 39 ?hg (N := 29) ?hd (xs := ([(⟨a1, (rd_T39 l0_0 x6_1).f1, (rd_T39 l0_0 x6_1).f2, (rd_T39 l0_0 x6_1).f3, (⟨(rd_T39 l0_0 x6_1).f4.f0, (rd_T39 l0_0 x6_1).f4.f1, (rd_T39 l0_0 x6_1).f4.f2⟩ : S37), (rd_T39 l0_0 x6_1).f5, (rd_T39 l0_0 x6_1).f6⟩ : S39), (⟨t234, t235, t236, t237, (⟨t238, t239, t240⟩ : S37), t241, t242⟩ : S39)] : List (S39))) (inner := [.int .i64 a1, .int .i64 ((rd_T39 l0_0 x6_1).f1), .string ((rd_T39 l0_0 x6_1).f2), .string ((rd_T39 l0_0 x6_1).f3), .string ((rd_T39 l0_0 x6_1).f4.f0), .string ((rd_T39 l0_0 x6_1).f4.f1), .bool ((rd_T39 l0_0 x6_1).f4.f2), .int .i64 ((rd_T39 l0_0 x6_1).f5), .bool ((rd_T39 l0_0 x6_1).f6), .int .i64 t234, .int .i64 t235, .string t236, .string t237, .string t238, .string t239, .bool t240, .int .i64 t241, .bool t242]) (ok := fun _ => True) (okp := fun _ => True) ?hr ?hp (fun _ hk => hk) trivial (Below.refl _ _) (Nat.le_refl _) (by simp) ?_; (case hd => rfl); (case hg => rfl); (case hr => first | (go_simp; done) | (go_simp; rfl)); (case hp => exact (Reps.c9 (show Kd.M k39 _ _ _ (⟨a1, (rd_T39 l0_0 x6_1).f1, (rd_T39 l0_0 x6_1).f2, (rd_T39 l0_0 x6_1).f3, (⟨(rd_T39 l0_0 x6_1).f4.f0, (rd_T39 l0_0 x6_1).f4.f1, (rd_T39 l0_0 x6_1).f4.f2⟩ : S37), (rd_T39 l0_0 x6_1).f5, (rd_T39 l0_0 x6_1).f6⟩ : S39) [.int .i64 a1, .int .i64 ((rd_T39 l0_0 x6_1).f1), .string ((rd_T39 l0_0 x6_1).f2), .string ((rd_T39 l0_0 x6_1).f3), .string ((rd_T39 l0_0 x6_1).f4.f0), .string ((rd_T39 l0_0 x6_1).f4.f1), .bool ((rd_T39 l0_0 x6_1).f4.f2), .int .i64 ((rd_T39 l0_0 x6_1).f5), .bool ((rd_T39 l0_0 x6_1).f6)] from (k39_mkM _ _ _ (⟨a1, (rd_T39 l0_0 x6_1).f1, (rd_T39 l0_0 x6_1).f2, (rd_T39 l0_0 x6_1).f3, (⟨(rd_T39 l0_0 x6_1).f4.f0, (rd_T39 l0_0 x6_1).f4.f1, (rd_T39 l0_0 x6_1).f4.f2⟩ : S37), (rd_T39 l0_0 x6_1).f5, (rd_T39 l0_0 x6_1).f6⟩ : S39) )) (Reps.c9 (show Kd.M k39 _ _ _ (⟨t234, t235, t236, t237, (⟨t238, t239, t240⟩ : S37), t241, t242⟩ : S39) [.int .i64 t234, .int .i64 t235, .string t236, .string t237, .string t238, .string t239, .bool t240, .int .i64 t241, .bool t242] from (k39_mkM _ _ _ (⟨t234, t235, t236, t237, (⟨t238, t239, t240⟩ : S37), t241, t242⟩ : S39) )) (Reps.none _ _))))
      intro v244 w21 ho22 hb hg_ hnew_
      clear hg_ hnew_
      (first | rw [← Ny243.out] at ho22 | (simp only [Int.reduceToNat] at ho22; rw [← Ny243.out] at ho22))
      have n0_ := mk0 (Kd.R_elder' (by (with_reducible repeat (first | apply Ra_ | apply Rn_ | apply Rd_)); exact HO_232000.out) (Kd.R_base ho22) hb)
      have n1_ := mk0 (Kd.R_lower (Kd.R_newB (Kd.R_new' ho22 (Kd.R_lt (by (with_reducible repeat (first | apply Ra_ | apply Rn_ | apply Rd_)); exact HO_232000.out))) (g := gb233) (o := .cells #[.int .i64 a1, .int .i64 ((rd_T39 l0_0 x6_1).f1), .string ((rd_T39 l0_0 x6_1).f2), .string ((rd_T39 l0_0 x6_1).f3), .string ((rd_T39 l0_0 x6_1).f4.f0), .string ((rd_T39 l0_0 x6_1).f4.f1), .bool ((rd_T39 l0_0 x6_1).f4.f2), .int .i64 ((rd_T39 l0_0 x6_1).f5), .bool ((rd_T39 l0_0 x6_1).f6)] 39 (0, 0)) (by (with_reducible repeat (first | refine bN_ ?_ _ | refine bD_ ?_ | refine bA_ ?_ _)); exact BK233.out)) (bz_ (by repeat (first | (with_reducible first | exact HB.out | apply bL_ | apply pN_ | apply b1_ | refine bs_ ?_ GE230.out | refine bs_ ?_ GE231.out | refine bs_ ?_ GE233.out) | exact HB.out))))
      have n2_ := mk0 (blk_below (g := gb230) (o := .cells #[.slice (some ad232) l0_0.length c0_0, .slice A0_1 l0_1.length c0_1, .slice A0_2 l0_2.length c0_2] 26 (0, 0)) (by (with_reducible repeat (first | refine bN_ ?_ _ | refine bD_ ?_ | refine bA_ ?_ _)); exact BK230.out) hb)
      have n3_ := mk0 (blk_below (g := gb231) (o := .cells #[u232000, .slice A0_1 l0_1.length c0_1, .slice A0_2 l0_2.length c0_2] 26 (0, 0)) (by (with_reducible repeat (first | refine bN_ ?_ _ | refine bD_ ?_ | refine bA_ ?_ _)); exact BK231.out) hb)
      have n4_ := mk0 (blk_below (g := gb233) (o := .cells #[.int .i64 a1, .int .i64 ((rd_T39 l0_0 x6_1).f1), .string ((rd_T39 l0_0 x6_1).f2), .string ((rd_T39 l0_0 x6_1).f3), .string ((rd_T39 l0_0 x6_1).f4.f0), .string ((rd_T39 l0_0 x6_1).f4.f1), .bool ((rd_T39 l0_0 x6_1).f4.f2), .int .i64 ((rd_T39 l0_0 x6_1).f5), .bool ((rd_T39 l0_0 x6_1).f6)] 39 (0, 0)) (by (with_reducible repeat (first | refine bN_ ?_ _ | refine bD_ ?_ | refine bA_ ?_ _)); exact BK233.out) hb)
      have n5_ := mk0 (bt_ (by repeat (first | (with_reducible first | exact HB.out | apply bL_ | apply pN_ | apply b1_ | refine bs_ ?_ GE230.out | refine bs_ ?_ GE231.out | refine bs_ ?_ GE233.out) | exact HB.out)) hb)
      clear HO_232000
      clear BK230
      clear BK231
      clear BK233
      clear HB
      have HO_232000 := n0_
      have HO245 := n1_
      have BK230 := n2_
      have BK231 := n3_
      have BK233 := n4_
      have HB := n5_
      clear n0_ n1_ n2_ n3_ n4_ n5_
      clear hb ho22
      obtain ⟨Ao24, co24, eo24⟩ := Kd.R_slice HO245.out
      (first | subst eo24 | (injection eo24 with f1_ f2_ f3_; have f4_ := f1_.symm; have f5_ := f3_.symm; clear f1_ f2_ f3_; subst f4_; subst f5_))
      refine hK.out _ _ ⟨(blk_cell BK231.out 0).trans rfl, (blk_cell BK231.out 1).trans rfl, (blk_cell BK231.out 2).trans rfl, (blk_cell BK233.out 0).trans rfl, (blk_cell BK233.out 1).trans rfl, (blk_cell BK233.out 2).trans rfl, (blk_cell BK233.out 3).trans rfl, (blk_cell BK233.out 4).trans rfl, (blk_cell BK233.out 5).trans rfl, (blk_cell BK233.out 6).trans rfl, (blk_cell BK233.out 7).trans rfl, (blk_cell BK233.out 8).trans rfl⟩ (fun hHeld => ?_)
      clear hK K
      refine norm_ (a' := ?_) ?_ ?_
      rotate_left
      ·show Act.put _ (some 29) _ = _
       simp only [z_]
       rfl
      refine one_ (i := 6) (N := some 30) (bt 9 127) rfl rfl (one_of HT_.out (by kernel_rfl)) (by decide) (fun K hK => ?_)
      refine Kd.R_append_rows_step k39 (w0 := w) w.heap.size (by rfl) (.tmp 25) (.tmp 29) 22 39 (.agg #[(.int .i64 0), (.int .i64 0), (.string ⟨#[]⟩), (.string ⟨#[]⟩), (.string ⟨#[]⟩), (.string ⟨#[]⟩), (.bool false), (.int .i64 0), (.bool false)]) 104 rfl Try.underlying22 info39 rfl (by decide) (by omega) u232000 x232000_1 y243 _ _ _ (fun k_ => some k_ ≠ (.slice Ao24 y243.length co24 : Value).ownBlock ∧ k_ ≠ gb233) (fun _ => False) rfl rfl ?aO ?aR (fun _ _ h => h) (fun _ h => h.elim) ?aF ?aB ?aS ?aL ?_
      (case aR => repeat (first | exact (Kd.R_reads' HO245.out).2.2 | (with_reducible refine Kd.C_alloc ?_ _) | (with_reducible refine Kd.C_drewN ?_ _) | (with_reducible refine Kd.C_drew ?_)))
      (case aB => exact (by repeat (first | (with_reducible first | exact HB.out | apply bL_ | apply pN_ | apply b1_ | refine bs_ ?_ GE230.out | refine bs_ ?_ GE231.out | refine bs_ ?_ GE233.out) | exact HB.out)))
      (case aF => exact (fun k_ hk => ⟨Kd.fresh' (Kd.R_lt (by (with_reducible repeat (first | apply Ra_ | apply Rn_ | apply Rd_)); exact HO245.out)) k_ hk, Kd.freshB (g := gb233) (o := .cells #[.int .i64 a1, .int .i64 ((rd_T39 l0_0 x6_1).f1), .string ((rd_T39 l0_0 x6_1).f2), .string ((rd_T39 l0_0 x6_1).f3), .string ((rd_T39 l0_0 x6_1).f4.f0), .string ((rd_T39 l0_0 x6_1).f4.f1), .bool ((rd_T39 l0_0 x6_1).f4.f2), .int .i64 ((rd_T39 l0_0 x6_1).f5), .bool ((rd_T39 l0_0 x6_1).f6)] 39 (0, 0)) (by (with_reducible repeat (first | refine bN_ ?_ _ | refine bD_ ?_ | refine bA_ ?_ _)); exact BK233.out) k_ hk⟩))
      (case aO => exact (by (with_reducible repeat (first | apply Ra_ | apply Rn_ | apply Rd_)); exact Kd.R_mono HO_232000.out (fun _ hk => ⟨hk.2, hk.1⟩)))
      (case aS => exact (bz_ (by repeat (first | (with_reducible first | exact HB.out | apply bL_ | apply pN_ | apply b1_ | refine bs_ ?_ GE230.out | refine bs_ ?_ GE231.out | refine bs_ ?_ GE233.out) | exact HB.out))))
      (case aL => have := LMc11.out; omega)
      intro v247 w23 ho hb hg hat
      rw [← Ny246.out] at ho
      have n0_ := mk0 (blk_grown (g := gb230) (o := .cells #[.slice (some ad232) l0_0.length c0_0, .slice A0_1 l0_1.length c0_1, .slice A0_2 l0_2.length c0_2] 26 (0, 0)) (by (with_reducible repeat (first | refine bN_ ?_ _ | refine bD_ ?_ | refine bA_ ?_ _)); exact BK230.out) hg (Kd.R_ne HO_232000.out BK230.out (by decide)))
      have n1_ := mk0 (blk_grown (g := gb231) (o := .cells #[u232000, .slice A0_1 l0_1.length c0_1, .slice A0_2 l0_2.length c0_2] 26 (0, 0)) (by (with_reducible repeat (first | refine bN_ ?_ _ | refine bD_ ?_ | refine bA_ ?_ _)); exact BK231.out) hg (Kd.R_ne HO_232000.out BK231.out (by decide)))
      have n2_ := mk0 (blk_grown (g := gb233) (o := .cells #[.int .i64 a1, .int .i64 ((rd_T39 l0_0 x6_1).f1), .string ((rd_T39 l0_0 x6_1).f2), .string ((rd_T39 l0_0 x6_1).f3), .string ((rd_T39 l0_0 x6_1).f4.f0), .string ((rd_T39 l0_0 x6_1).f4.f1), .bool ((rd_T39 l0_0 x6_1).f4.f2), .int .i64 ((rd_T39 l0_0 x6_1).f5), .bool ((rd_T39 l0_0 x6_1).f6)] 39 (0, 0)) (by (with_reducible repeat (first | refine bN_ ?_ _ | refine bD_ ?_ | refine bA_ ?_ _)); exact BK233.out) hg (Kd.R_away HO_232000.out (fun _ hk => hk.1)))
      have n3_ := mk0 (Kd.R_after (ok := (fun k_ => k_ ≠ gb233)) (by (with_reducible repeat (first | apply Ra_ | apply Rn_ | apply Rd_)); exact Kd.R_mono HO245.out (fun _ hk => ⟨hk.2, hk.1.2⟩)) hg hat)
      have n4_ := mk0 (hb)
      have n5_ := mk0 (ho)
      clear BK230
      clear BK231
      clear BK233
      clear HO245
      clear HB
      clear HO_232000
      have BK230 := n0_
      have BK231 := n1_
      have BK233 := n2_
      have HO245 := n3_
      have HB := n4_
      have HO248 := n5_
      clear n0_ n1_ n2_ n3_ n4_ n5_
      clear ho hb hg hat
      obtain ⟨Ao25, co25, eo25⟩ := Kd.R_slice HO248.out
      (first | subst eo25 | (injection eo25 with f1_ f2_ f3_; have f4_ := f1_.symm; have f5_ := f3_.symm; clear f1_ f2_ f3_; subst f4_; subst f5_))
      refine hK.out _ _ ⟨(blk_cell BK231.out 0).trans rfl, (blk_cell BK231.out 1).trans rfl, (blk_cell BK231.out 2).trans rfl, (blk_cell BK233.out 0).trans rfl, (blk_cell BK233.out 1).trans rfl, (blk_cell BK233.out 2).trans rfl, (blk_cell BK233.out 3).trans rfl, (blk_cell BK233.out 4).trans rfl, (blk_cell BK233.out 5).trans rfl, (blk_cell BK233.out 6).trans rfl, (blk_cell BK233.out 7).trans rfl, (blk_cell BK233.out 8).trans rfl⟩ (fun hHeld => ?_)
      clear hK K
      refine norm_ (a' := ?_) ?_ ?_
      rotate_left
      ·show Act.put _ (some 30) _ = _
       simp only [z_]
       rfl
      refine p1 HT_.out 7 31 (bt 9 255) rfl rfl (by kernel_rfl) (fun _ _ _ h => h) (by rfl) (by intro w'; go_simp; with_reducible rfl) (by simp only [z_]; rfl) ?_
      refine last_ (i := 8) (N := none) (bt 9 511) rfl rfl (one_of HT_.out (by kernel_rfl)) (by decide) (fun K hK => ?_)
      have hs26 : w23.cell? ⟨gb231, 0, none⟩ = some (u232000) := (blk_cell BK231.out 0).trans rfl
      have hfs26 := blk_frozen BK231.out 0
      have hns26_0 := NB230_231.out
      have hns26_2 := NB233_231.out
      have hms26_0 := NB231_230.out
      have hms26_2 := NB231_233.out
      refine skip_ (w1 := ?_) (by rfl) rfl ?_ ?_
      rotate_left
      ·go_simp
       rfl
      refine hK.out _ _ ?_
      clear hK K
      refine done_ (done_of HT_.out (by kernel_rfl)) ?_
      try go_wp2
      go_roundg k1
      case measure => have := HK1.out; omega
      case rel => exact ⟨(wrap64 (x6_1 + 1)), (y246), (.slice Ao25 y246.length co25), (by first | rfl | (simp; done) | (simp [*]; done)), H', ⟨by have := HK1.out; omega⟩, ⟨by (with_reducible repeat (first | apply Ra_ | apply Rn_ | apply Rd_)); exact Kd.R_mono (Kd.R_far (p := ⟨gb231, 0, none⟩) (Kd.R_types HO248.out BK231.out (by decide)) (fun _ hk => hk.2) (.slice Ao25 y246.length co25)) (fun _ hk => trivial)⟩, ⟨by (with_reducible repeat (first | refine bN_ ?_ _ | refine bD_ ?_ | refine bA_ ?_ _)); refine blk_far ?_ NB230_231.out _; (with_reducible repeat (first | refine bN_ ?_ _ | refine bD_ ?_ | refine bA_ ?_ _)); exact BK230.out⟩, ⟨by (with_reducible repeat (first | refine bN_ ?_ _ | refine bD_ ?_ | refine bA_ ?_ _)); refine blk_put (cs := #[u232000, .slice A0_1 l0_1.length c0_1, .slice A0_2 l0_2.length c0_2]) ?_ 0 _ rfl; (with_reducible repeat (first | refine bN_ ?_ _ | refine bD_ ?_ | refine bA_ ?_ _)); exact BK231.out⟩, ⟨by repeat (first | (with_reducible first | exact HB.out | apply bL_ | apply pN_ | apply b1_ | refine bs_ ?_ GE230.out | refine bs_ ?_ GE231.out | refine bs_ ?_ GE233.out) | exact HB.out)⟩⟩
     ·rw [if_neg c11] at H
      exact absurd H (by simp)
    ·rw [if_neg c9] at H
     exact absurd H (by simp)
   ·rw [if_neg c8] at H
    have c8b0 : decide (x6_1 < (l0_0.length : Int)) = false := decide_eq_false c8
    clear c8
    replace H := Option.bind_eq_some_iff.mp H
    obtain ⟨t249, A270, H⟩ := H
    replace H : (if t249 = true then ((plan_Writes.f a1 0 (⟨#[]⟩ : ByteArray) (⟨#[]⟩ : ByteArray) (⟨#[]⟩ : ByteArray) (⟨#[]⟩ : ByteArray) false 0 false).bind fun t250 => ((quorumref12_Writes.f a1 0 (⟨#[]⟩ : ByteArray) (⟨#[]⟩ : ByteArray) (⟨#[]⟩ : ByteArray) (⟨#[]⟩ : ByteArray) false 0 false).bind fun t251 => (some (t250 == t251)))) else (some false)) = some r := H
    have A27 := mk0 A270
    clear A270
    by_cases c28 : t249 = true
    ·subst c28
     have H1 : ((plan_Writes.f a1 0 (⟨#[]⟩ : ByteArray) (⟨#[]⟩ : ByteArray) (⟨#[]⟩ : ByteArray) (⟨#[]⟩ : ByteArray) false 0 false).bind fun t250 => ((quorumref12_Writes.f a1 0 (⟨#[]⟩ : ByteArray) (⟨#[]⟩ : ByteArray) (⟨#[]⟩ : ByteArray) (⟨#[]⟩ : ByteArray) false 0 false).bind fun t251 => (some (t250 == t251)))) = some r := by rw [if_pos rfl] at H; exact H
     clear H
     have H := H1
     clear H1
     replace H := Option.bind_eq_some_iff.mp H
     obtain ⟨t250, A290, H⟩ := H
     replace H : ((quorumref12_Writes.f a1 0 (⟨#[]⟩ : ByteArray) (⟨#[]⟩ : ByteArray) (⟨#[]⟩ : ByteArray) (⟨#[]⟩ : ByteArray) false 0 false).bind fun t251 => (some (t250 == t251))) = some r := H
     have A29 := mk0 A290
     clear A290
     replace H := Option.bind_eq_some_iff.mp H
     obtain ⟨t251, A300, H⟩ := H
     replace H : (some (t250 == t251)) = some r := H
     have A30 := mk0 A300
     clear A300
     obtain rfl := Option.some.inj H
     have hnb31 := NB230_231.out
     have hnc31 := NB231_230.out
     have hcz32_0 : wr.cell? ⟨gb230, 0, none⟩ = some (.slice A0_0 l0_0.length c0_0) := (blk_cell BK230.out 0).trans rfl
     have hcz32_1 : wr.cell? ⟨gb230, 1, none⟩ = some (.slice A0_1 l0_1.length c0_1) := (blk_cell BK230.out 1).trans rfl
     have hcz32_2 : wr.cell? ⟨gb230, 2, none⟩ = some (.slice A0_2 l0_2.length c0_2) := (blk_cell BK230.out 2).trans rfl
     have hfz32_0 := blk_frozen BK230.out 0
     have hfz32_1 := blk_frozen BK230.out 1
     have hfz32_2 := blk_frozen BK230.out 2
     have hcz33_0 : wr.cell? ⟨gb231, 0, none⟩ = some (u232000) := (blk_cell BK231.out 0).trans rfl
     have hcz33_1 : wr.cell? ⟨gb231, 1, none⟩ = some (.slice A0_1 l0_1.length c0_1) := (blk_cell BK231.out 1).trans rfl
     have hcz33_2 : wr.cell? ⟨gb231, 2, none⟩ = some (.slice A0_2 l0_2.length c0_2) := (blk_cell BK231.out 2).trans rfl
     have hfz33_0 := blk_frozen BK231.out 0
     have hfz33_1 := blk_frozen BK231.out 1
     have hfz33_2 := blk_frozen BK231.out 2
     obtain ⟨Ao34, co34, eo34⟩ := Kd.R_slice HO_232000.out
     subst eo34
     go_wp2_with (first | ((with_reducible refine gate_callee (f := 31) rfl ?_); refine goesL_ (some 33) rfl rfl Try.func31 (by kernel_rfl) rfl #[.agg #[.slice Ao34 x232000_1.length co34, .slice A0_1 l0_1.length c0_1, .slice A0_2 l0_2.length c0_2]] rfl (by (try simp only [List.map_toArray, List.map_cons, List.map_nil]); first | done | rfl | (simp only [List.length_drop, List.length_take]; rfl)) ?_; (with_reducible refine (quorumlaw12_PlanLocks.calls k1 _ _ x232000_1 (fun k_ => k_ < w.heap.size) _ _ l0_1 _ _ l0_2 true _ ?side1 ?side2 ?side3 ?side4 ?side5 A27.out).mono ?_); (case side1 => repeat (first | exact (Kd.R_reads' HO_232000.out).2.2 | (with_reducible refine Kd.C_alloc ?_ _) | (with_reducible refine Kd.C_drewN ?_ _) | (with_reducible refine Kd.C_drew ?_))); (case side2 => exact (Kd.R_reads' HO_232000.out).2.1); (case side3 => exact Kd.V_mk HC0_1.out (Kd.F_below (Kd.C_F k31_heap HR0_1.out) (by repeat (first | (with_reducible first | exact HB.out | apply bL_ | apply pN_ | apply b1_ | refine bs_ ?_ GE230.out | refine bs_ ?_ GE231.out) | exact HB.out)))); (case side4 => repeat (first | exact (Kd.C_below HR0_2.out HB.out) | (with_reducible refine Kd.C_alloc ?_ _) | (with_reducible refine Kd.C_drewN ?_ _) | (with_reducible refine Kd.C_drew ?_))); (case side5 => exact HC0_2.out); rintro e w35 ⟨rfl, hb⟩; refine ⟨_, rfl, ?_⟩; have n0_ := mk0 (Kd.R_below (by (with_reducible repeat (first | apply Ra_ | apply Rn_ | apply Rd_)); exact HO_232000.out) hb); have n1_ := mk0 (blk_below (g := gb230) (o := .cells #[.slice A0_0 l0_0.length c0_0, .slice A0_1 l0_1.length c0_1, .slice A0_2 l0_2.length c0_2] 26 (0, 0)) (by (with_reducible repeat (first | refine bN_ ?_ _ | refine bD_ ?_ | refine bA_ ?_ _)); exact BK230.out) hb); have n2_ := mk0 (blk_below (g := gb231) (o := .cells #[.slice Ao34 x232000_1.length co34, .slice A0_1 l0_1.length c0_1, .slice A0_2 l0_2.length c0_2] 26 (0, 0)) (by (with_reducible repeat (first | refine bN_ ?_ _ | refine bD_ ?_ | refine bA_ ?_ _)); exact BK231.out) hb); have n3_ := mk0 (bt_ (by repeat (first | (with_reducible first | exact HB.out | apply bL_ | apply pN_ | apply b1_ | refine bs_ ?_ GE230.out | refine bs_ ?_ GE231.out) | exact HB.out)) hb); clear HO_232000; clear BK230; clear BK231; clear HB; have HO_232000 := n0_; have BK230 := n1_; have BK231 := n2_; have HB := n3_; clear n0_ n1_ n2_ n3_; (try clear hb); (try clear hb2); (try clear hk); (try clear hi)) | (go_at_call 32; (with_reducible refine (plan_Writes.calls a1 0 (⟨#[]⟩ : ByteArray) (⟨#[]⟩ : ByteArray) (⟨#[]⟩ : ByteArray) (⟨#[]⟩ : ByteArray) false 0 false t250 _ A29.out).mono ?_); rintro e w36 ⟨rfl, hb⟩; have n0_ := mk0 (Kd.R_below (by (with_reducible repeat (first | apply Ra_ | apply Rn_ | apply Rd_)); exact HO_232000.out) hb); have n1_ := mk0 (blk_below (g := gb230) (o := .cells #[.slice A0_0 l0_0.length c0_0, .slice A0_1 l0_1.length c0_1, .slice A0_2 l0_2.length c0_2] 26 (0, 0)) (by (with_reducible repeat (first | refine bN_ ?_ _ | refine bD_ ?_ | refine bA_ ?_ _)); exact BK230.out) hb); have n2_ := mk0 (blk_below (g := gb231) (o := .cells #[.slice Ao34 x232000_1.length co34, .slice A0_1 l0_1.length c0_1, .slice A0_2 l0_2.length c0_2] 26 (0, 0)) (by (with_reducible repeat (first | refine bN_ ?_ _ | refine bD_ ?_ | refine bA_ ?_ _)); exact BK231.out) hb); have n3_ := mk0 (bt_ (by repeat (first | (with_reducible first | exact HB.out | apply bL_ | apply pN_ | apply b1_ | refine bs_ ?_ GE230.out | refine bs_ ?_ GE231.out) | exact HB.out)) hb); clear HO_232000; clear BK230; clear BK231; clear HB; have HO_232000 := n0_; have BK230 := n1_; have BK231 := n2_; have HB := n3_; clear n0_ n1_ n2_ n3_; (try clear hb); (try clear hb2); (try clear hk); (try clear hi)) | (go_at_call 33; (with_reducible refine (quorumref12_Writes.calls a1 0 (⟨#[]⟩ : ByteArray) (⟨#[]⟩ : ByteArray) (⟨#[]⟩ : ByteArray) (⟨#[]⟩ : ByteArray) false 0 false t251 _ A30.out).mono ?_); rintro e w37 ⟨rfl, hb⟩; have n0_ := mk0 (Kd.R_below (by (with_reducible repeat (first | apply Ra_ | apply Rn_ | apply Rd_)); exact HO_232000.out) hb); have n1_ := mk0 (blk_below (g := gb230) (o := .cells #[.slice A0_0 l0_0.length c0_0, .slice A0_1 l0_1.length c0_1, .slice A0_2 l0_2.length c0_2] 26 (0, 0)) (by (with_reducible repeat (first | refine bN_ ?_ _ | refine bD_ ?_ | refine bA_ ?_ _)); exact BK230.out) hb); have n2_ := mk0 (blk_below (g := gb231) (o := .cells #[.slice Ao34 x232000_1.length co34, .slice A0_1 l0_1.length c0_1, .slice A0_2 l0_2.length c0_2] 26 (0, 0)) (by (with_reducible repeat (first | refine bN_ ?_ _ | refine bD_ ?_ | refine bA_ ?_ _)); exact BK231.out) hb); have n3_ := mk0 (bt_ (by repeat (first | (with_reducible first | exact HB.out | apply bL_ | apply pN_ | apply b1_ | refine bs_ ?_ GE230.out | refine bs_ ?_ GE231.out) | exact HB.out)) hb); clear HO_232000; clear BK230; clear BK231; clear HB; have HO_232000 := n0_; have BK230 := n1_; have BK231 := n2_; have HB := n3_; clear n0_ n1_ n2_ n3_; (try clear hb); (try clear hb2); (try clear hk); (try clear hi)))
     go_ret
     exact ⟨by first | rfl | (simp [errW_none, errW_some] <;> rfl) | (simp [*, errW_none, errW_some] <;> rfl), by repeat (first | (with_reducible first | exact HB.out | apply bL_ | apply pN_ | apply b1_ | refine bs_ ?_ GE230.out | refine bs_ ?_ GE231.out) | exact HB.out)⟩
    ·replace c28 := Bool.eq_false_iff.mpr c28
     subst c28
     have H1 : (some false) = some r := by rw [if_neg (show ¬ (false = true) by decide)] at H; exact H
     clear H
     have H := H1
     clear H1
     obtain rfl := Option.some.inj H
     have hnb38 := NB230_231.out
     have hnc38 := NB231_230.out
     have hcz39_0 : wr.cell? ⟨gb230, 0, none⟩ = some (.slice A0_0 l0_0.length c0_0) := (blk_cell BK230.out 0).trans rfl
     have hcz39_1 : wr.cell? ⟨gb230, 1, none⟩ = some (.slice A0_1 l0_1.length c0_1) := (blk_cell BK230.out 1).trans rfl
     have hcz39_2 : wr.cell? ⟨gb230, 2, none⟩ = some (.slice A0_2 l0_2.length c0_2) := (blk_cell BK230.out 2).trans rfl
     have hfz39_0 := blk_frozen BK230.out 0
     have hfz39_1 := blk_frozen BK230.out 1
     have hfz39_2 := blk_frozen BK230.out 2
     have hcz40_0 : wr.cell? ⟨gb231, 0, none⟩ = some (u232000) := (blk_cell BK231.out 0).trans rfl
     have hcz40_1 : wr.cell? ⟨gb231, 1, none⟩ = some (.slice A0_1 l0_1.length c0_1) := (blk_cell BK231.out 1).trans rfl
     have hcz40_2 : wr.cell? ⟨gb231, 2, none⟩ = some (.slice A0_2 l0_2.length c0_2) := (blk_cell BK231.out 2).trans rfl
     have hfz40_0 := blk_frozen BK231.out 0
     have hfz40_1 := blk_frozen BK231.out 1
     have hfz40_2 := blk_frozen BK231.out 2
     obtain ⟨Ao41, co41, eo41⟩ := Kd.R_slice HO_232000.out
     subst eo41
     go_wp2_with (first | ((with_reducible refine gate_callee (f := 31) rfl ?_); refine goesL_ (some 33) rfl rfl Try.func31 (by kernel_rfl) rfl #[.agg #[.slice Ao41 x232000_1.length co41, .slice A0_1 l0_1.length c0_1, .slice A0_2 l0_2.length c0_2]] rfl (by (try simp only [List.map_toArray, List.map_cons, List.map_nil]); first | done | rfl | (simp only [List.length_drop, List.length_take]; rfl)) ?_; (with_reducible refine (quorumlaw12_PlanLocks.calls k1 _ _ x232000_1 (fun k_ => k_ < w.heap.size) _ _ l0_1 _ _ l0_2 false _ ?side1 ?side2 ?side3 ?side4 ?side5 A27.out).mono ?_); (case side1 => repeat (first | exact (Kd.R_reads' HO_232000.out).2.2 | (with_reducible refine Kd.C_alloc ?_ _) | (with_reducible refine Kd.C_drewN ?_ _) | (with_reducible refine Kd.C_drew ?_))); (case side2 => exact (Kd.R_reads' HO_232000.out).2.1); (case side3 => exact Kd.V_mk HC0_1.out (Kd.F_below (Kd.C_F k31_heap HR0_1.out) (by repeat (first | (with_reducible first | exact HB.out | apply bL_ | apply pN_ | apply b1_ | refine bs_ ?_ GE230.out | refine bs_ ?_ GE231.out) | exact HB.out)))); (case side4 => repeat (first | exact (Kd.C_below HR0_2.out HB.out) | (with_reducible refine Kd.C_alloc ?_ _) | (with_reducible refine Kd.C_drewN ?_ _) | (with_reducible refine Kd.C_drew ?_))); (case side5 => exact HC0_2.out); rintro e w42 ⟨rfl, hb⟩; refine ⟨_, rfl, ?_⟩; have n0_ := mk0 (Kd.R_below (by (with_reducible repeat (first | apply Ra_ | apply Rn_ | apply Rd_)); exact HO_232000.out) hb); have n1_ := mk0 (blk_below (g := gb230) (o := .cells #[.slice A0_0 l0_0.length c0_0, .slice A0_1 l0_1.length c0_1, .slice A0_2 l0_2.length c0_2] 26 (0, 0)) (by (with_reducible repeat (first | refine bN_ ?_ _ | refine bD_ ?_ | refine bA_ ?_ _)); exact BK230.out) hb); have n2_ := mk0 (blk_below (g := gb231) (o := .cells #[.slice Ao41 x232000_1.length co41, .slice A0_1 l0_1.length c0_1, .slice A0_2 l0_2.length c0_2] 26 (0, 0)) (by (with_reducible repeat (first | refine bN_ ?_ _ | refine bD_ ?_ | refine bA_ ?_ _)); exact BK231.out) hb); have n3_ := mk0 (bt_ (by repeat (first | (with_reducible first | exact HB.out | apply bL_ | apply pN_ | apply b1_ | refine bs_ ?_ GE230.out | refine bs_ ?_ GE231.out) | exact HB.out)) hb); clear HO_232000; clear BK230; clear BK231; clear HB; have HO_232000 := n0_; have BK230 := n1_; have BK231 := n2_; have HB := n3_; clear n0_ n1_ n2_ n3_; (try clear hb); (try clear hb2); (try clear hk); (try clear hi)))
     go_ret
     exact ⟨by first | rfl | (simp [errW_none, errW_some] <;> rfl) | (simp [*, errW_none, errW_some] <;> rfl), by repeat (first | (with_reducible first | exact HB.out | apply bL_ | apply pN_ | apply b1_ | refine bs_ ?_ GE230.out | refine bs_ ?_ GE231.out) | exact HB.out)⟩

/-! ### quorumlaw12_PlanGet: function 4 -/
def quorumlaw12_PlanGet.f (k : Nat) (l0_0 : List (S39)) (l0_1 : List (S31)) (l0_2 : List Int) : Option (Bool) := (quorumlaw12_each.f k l0_0 l0_1 l0_2 1).bind fun t253 => (some t253)
theorem quorumlaw12_PlanGet.mono : ∀ a0 a1 a2 k, LeO (quorumlaw12_PlanGet.f k a0 a1 a2) (quorumlaw12_PlanGet.f (k + 1) a0 a1 a2) := by
 intro a0 a1 a2 k
 unfold quorumlaw12_PlanGet.f
 repeat' first
   | (with_reducible exact quorumlaw12_each.mono _ _ _ _ _)
   | (with_reducible exact LeO.refl _)
   | (with_reducible exact LeO.none _)
   | (with_reducible refine LeO.ite ?_ ?_)
   | (with_reducible refine LeO.bind ?_ (fun _ => ?_))
   | exact quorumlaw12_each.mono _ _ _ _ _
   | exact LeO.none _
   | refine LeO.ite ?_ ?_
   | refine LeO.bind ?_ (fun _ => ?_)
set_option maxHeartbeats 8000000 in
set_option maxRecDepth 100000 in
theorem quorumlaw12_PlanGet.calls (k : Nat) (A0_0 : Option Addr) (c0_0 : Nat) (l0_0 : List (S39)) (A0_1 : Option Addr) (c0_1 : Nat) (l0_1 : List (S31)) (A0_2 : Option Addr) (c0_2 : Nat) (l0_2 : List Int) (r : Bool) (w : World) (hr0_0 : Kd.C k39 w A0_0 l0_0.length l0_0) (hc0_0 : l0_0.length ≤ c0_0) (hr0_1 : Kd.C k31 w A0_1 l0_1.length l0_1) (hc0_1 : l0_1.length ≤ c0_1) (hr0_2 : Kd.C (Kd.int .i64) w A0_2 l0_2.length l0_2) (hc0_2 : l0_2.length ≤ c0_2) (h : quorumlaw12_PlanGet.f k l0_0 l0_1 l0_2 = some r) :
  Calls Try.prog 4 #[.agg #[.slice A0_0 l0_0.length c0_0, .slice A0_1 l0_1.length c0_1, .slice A0_2 l0_2.length c0_2]] w fun e w' => e = .returned (.bool r) ∧ Below w.heap.size w w' := by
 have hu26 := Try.underlying26
 have HR0_0 := mk0 hr0_0
 have HC0_0 := mk0 hc0_0
 clear hr0_0 hc0_0
 have HR0_1 := mk0 hr0_1
 have HC0_1 := mk0 hc0_1
 clear hr0_1 hc0_1
 have HR0_2 := mk0 hr0_2
 have HC0_2 := mk0 hc0_2
 clear hr0_2 hc0_2
 have HB := mk0 (Below.refl w.heap.size w)
 have H : ((quorumlaw12_each.f k l0_0 l0_1 l0_2 1).bind fun t253 => (some t253)) = some r := h
 clear h
 replace H := Option.bind_eq_some_iff.mp H
 obtain ⟨t253, A20, H⟩ := H
 replace H : (some t253) = some r := H
 have A2 := mk0 A20
 clear A20
 obtain rfl := Option.some.inj H
 go_enter Try.func4, Try.ntmps4
 go_wp2_with (first | ((with_reducible refine gate_dst (N := 1) rfl ?_); refine box_event ?hg (N := 1) ?hd (cs := #[.slice A0_0 l0_0.length c0_0, .slice A0_1 l0_1.length c0_1, .slice A0_2 l0_2.length c0_2]) (t := 26) ?hr ?_; (case hd => rfl); (case hg => rfl); (case hr => first | (go_simp; done) | (go_simp; rfl)); intro gb252 hg w3 hbox hb; have n0_ := mk0 (bt_ (by repeat (first | (with_reducible first | exact HB.out | apply bL_ | apply pN_ | apply b1_) | exact HB.out)) hb); have n1_ := mk0 (hbox); have n2_ := mk0 ((by rw [hg]; exact (bz_ (by repeat (first | (with_reducible first | exact HB.out | apply bL_ | apply pN_ | apply b1_) | exact HB.out))) : w.heap.size ≤ gb252)); have n3_ := mk0 ((by rw [hg]; exact (bz_ (by repeat (first | (with_reducible first | exact HB.out | apply bL_ | apply pN_ | apply b1_) | exact HB.out))) : w.heap.size ≤ gb252)); clear HB; have HB := n0_; have BK252 := n1_; have GW252 := n2_; have GE252 := n3_; clear n0_ n1_ n2_ n3_; clear hb hbox hg; have hcz4_0 : w3.cell? ⟨gb252, 0, none⟩ = some (.slice A0_0 l0_0.length c0_0) := (blk_cell BK252.out 0).trans rfl; have hcz4_1 : w3.cell? ⟨gb252, 1, none⟩ = some (.slice A0_1 l0_1.length c0_1) := (blk_cell BK252.out 1).trans rfl; have hcz4_2 : w3.cell? ⟨gb252, 2, none⟩ = some (.slice A0_2 l0_2.length c0_2) := (blk_cell BK252.out 2).trans rfl; have hfz4_0 := blk_frozen BK252.out 0; have hfz4_1 := blk_frozen BK252.out 1; have hfz4_2 := blk_frozen BK252.out 2) | ((with_reducible refine gate_callee (f := 21) rfl ?_); refine goesL_ (some 4) rfl rfl Try.func21 (by kernel_rfl) rfl #[.agg #[.slice A0_0 l0_0.length c0_0, .slice A0_1 l0_1.length c0_1, .slice A0_2 l0_2.length c0_2], .int .i64 1] rfl (by (try simp only [List.map_toArray, List.map_cons, List.map_nil]); first | done | rfl | (simp only [List.length_drop, List.length_take]; rfl)) ?_; (with_reducible refine (quorumlaw12_each.calls k _ _ l0_0 _ _ l0_1 _ _ l0_2 1 t253 _ ?side1 ?side2 ?side3 ?side4 ?side5 ?side6 A2.out).mono ?_); (case side1 => repeat (first | exact (Kd.C_below HR0_0.out HB.out) | (with_reducible refine Kd.C_alloc ?_ _) | (with_reducible refine Kd.C_drewN ?_ _) | (with_reducible refine Kd.C_drew ?_))); (case side2 => exact HC0_0.out); (case side3 => repeat (first | exact (Kd.C_below HR0_1.out HB.out) | (with_reducible refine Kd.C_alloc ?_ _) | (with_reducible refine Kd.C_drewN ?_ _) | (with_reducible refine Kd.C_drew ?_))); (case side4 => exact HC0_1.out); (case side5 => repeat (first | exact (Kd.C_below HR0_2.out HB.out) | (with_reducible refine Kd.C_alloc ?_ _) | (with_reducible refine Kd.C_drewN ?_ _) | (with_reducible refine Kd.C_drew ?_))); (case side6 => exact HC0_2.out); rintro e w5 ⟨rfl, hb⟩; refine ⟨_, rfl, ?_⟩; have n0_ := mk0 (blk_below (g := gb252) (o := .cells #[.slice A0_0 l0_0.length c0_0, .slice A0_1 l0_1.length c0_1, .slice A0_2 l0_2.length c0_2] 26 (0, 0)) (by (with_reducible repeat (first | refine bN_ ?_ _ | refine bD_ ?_ | refine bA_ ?_ _)); exact BK252.out) hb); have n1_ := mk0 (bt_ (by repeat (first | (with_reducible first | exact HB.out | apply bL_ | apply pN_ | apply b1_ | refine bs_ ?_ GE252.out) | exact HB.out)) hb); clear BK252; clear HB; have BK252 := n0_; have HB := n1_; clear n0_ n1_; (try clear hb); (try clear hb2); (try clear hk); (try clear hi)))
 go_ret
 exact ⟨by first | rfl | (simp [errW_none, errW_some] <;> rfl) | (simp [*, errW_none, errW_some] <;> rfl), by repeat (first | (with_reducible first | exact HB.out | apply bL_ | apply pN_ | apply b1_ | refine bs_ ?_ GE252.out) | exact HB.out)⟩

end Go.Proofs.Ytlnplaajhalekaa.PLk
