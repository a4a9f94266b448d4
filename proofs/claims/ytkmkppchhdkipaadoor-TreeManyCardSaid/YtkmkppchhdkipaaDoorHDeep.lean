/- tree.Count and tree.Deep, of any tree (printed; the new box of Deep's loop put in by mkdeep.py). -/
-- PRINTED by print.py (a twelfth state) out of the translation. Not trusted: Lean checks it.
import Derived.Test.YtkmkppchhdkipaaDoorPTrx0
import Derived.Test.YtkmkppchhdkipaaDoorWPlus
import Derived.Test.YtkmkppchhdkipaaDoorPTrx2
import Derived.Test.YtkmkppchhdkipaaDoorPTrx22
namespace Go.Proofs.YtkmkppchhdkipaaDoor.PTr
open Go.RowKit Go.Proofs.YtkmkppchhdkipaaDoorW.PrintWords Go.Proofs.YtkmkppchhdkipaaDoorW.PrintLast Go.Proofs.YtkmkppchhdkipaaDoorW.PrintMore
attribute [local go_sem] max2_int min2_int max_two min_two max_three min_three max_four min_four   -- for this text's walks alone
set_option linter.unusedVariables false
set_option linter.unusedSimpArgs false

/-! ### tree_Count: function 24 -/
noncomputable def tree_Count.f (k : Nat) (l0_0 : List (S85)) (a0_1 : Int) (l0_2 : List Int) : Option (Int × Int) := (tree_May.f l0_0 a0_1 l0_2).bind fun t315 => (if t315 = true then ((tree_Pairs.f k l0_0 a0_1 l0_2).bind fun t316 => (some ((t316.length : Int), 0))) else (some (0, 1)))
theorem tree_Count.mono : ∀ a0 a1 a2 k, LeO (tree_Count.f k a0 a1 a2) (tree_Count.f (k + 1) a0 a1 a2) := by
 intro a0 a1 a2 k
 unfold tree_Count.f
 repeat' first
   | (with_reducible exact tree_Pairs.mono _ _ _ _)
   | (with_reducible exact LeO.refl _)
   | (with_reducible exact LeO.none _)
   | (with_reducible refine LeO.ite ?_ ?_)
   | (with_reducible refine LeO.bind ?_ (fun _ => ?_))
   | exact tree_Pairs.mono _ _ _ _
   | exact LeO.none _
   | refine LeO.ite ?_ ?_
   | refine LeO.bind ?_ (fun _ => ?_)
set_option maxHeartbeats 8000000 in
set_option maxRecDepth 100000 in
theorem tree_Count.calls (k : Nat) (A0_0 : Option Addr) (c0_0 : Nat) (l0_0 : List (S85)) (a0_1 : Int) (A0_2 : Option Addr) (c0_2 : Nat) (l0_2 : List Int) (r1 : Int) (r2 : Int) (w : World) (hr0_0 : Kd.C k85 w A0_0 l0_0.length l0_0) (hc0_0 : l0_0.length ≤ c0_0) (hr0_2 : Kd.C (Kd.int .i64) w A0_2 l0_2.length l0_2) (hc0_2 : l0_2.length ≤ c0_2) (h : tree_Count.f k l0_0 a0_1 l0_2 = some (r1, r2)) :
  Calls Tryd.prog 24 #[.agg #[.slice A0_0 l0_0.length c0_0, .int .i64 a0_1, .slice A0_2 l0_2.length c0_2]] w fun e w' => e = .returned (.tuple #[.int .i64 r1, .int .i64 r2]) ∧ Below w.heap.size w w' := by
 have hu25 := Tryd.underlying25
 have HR0_0 := mk0 hr0_0
 have HC0_0 := mk0 hc0_0
 clear hr0_0 hc0_0
 have HR0_2 := mk0 hr0_2
 have HC0_2 := mk0 hc0_2
 clear hr0_2 hc0_2
 have HB := mk0 (Below.refl w.heap.size w)
 have H : ((tree_May.f l0_0 a0_1 l0_2).bind fun t315 => (if t315 = true then ((tree_Pairs.f k l0_0 a0_1 l0_2).bind fun t316 => (some ((t316.length : Int), 0))) else (some (0, 1)))) = some (r1, r2) := h
 clear h
 replace H := Option.bind_eq_some_iff.mp H
 obtain ⟨t315, A20, H⟩ := H
 try dsimp only at H
 have A2 := mk0 A20
 clear A20
 by_cases c3 : t315 = true
 ·subst c3
  rw [if_pos rfl] at H
  replace H := Option.bind_eq_some_iff.mp H
  obtain ⟨t316, A40, H⟩ := H
  try dsimp only at H
  have A4 := mk0 A40
  clear A40
  simp only [Option.some.injEq, Prod.mk.injEq] at H
  obtain ⟨rfl, rfl⟩ := H
  go_enter Tryd.func24, Tryd.ntmps24
  go_wp2_with (first | ((with_reducible refine gate_dst (N := 1) rfl ?_); refine bx_ (N := 1) (cs := #[.slice A0_0 l0_0.length c0_0, .int .i64 a0_1, .slice A0_2 l0_2.length c0_2]) (t := 25) (h := ?_); intro gb314 hg w5 hbox hb; have n2_ := mk0 (gz_ HB hg); have n3_ := mk0 (gz_ HB hg); replace HB := mk0 (bt_ (b_ HB) hb); have BK314 := mk0 (hbox); have GW314 := n2_; have GE314 := n3_; clear n2_ n3_ hb hbox hg; obtain ⟨hcz6_0, hcz6_1, hcz6_2, hfz6_0, hfz6_1, hfz6_2⟩ := c3_ BK314) | ((with_reducible refine gate_callee (f := 52) rfl ?_); refine gL_ (some 5) Tryd.func52 #[.agg #[.slice A0_0 l0_0.length c0_0, .int .i64 a0_1, .slice A0_2 l0_2.length c0_2]] (h := ?_); (with_reducible refine (tree_May.calls _ _ l0_0 a0_1 _ _ l0_2 true _ ?side1 ?side2 ?side3 ?side4 A2.out).mono ?_); (case side1 => exact cb_ HR0_0 HB); (case side2 => exact HC0_0.out); (case side3 => exact cb_ HR0_2 HB); (case side4 => exact HC0_2.out); rintro e w7 ⟨rfl, hb⟩; refine ⟨_, rfl, ?_⟩; replace BK314 := mk0 (u_ BK314 hb); replace HB := mk0 (bt_ (b_ HB) hb); (try clear hb); obtain ⟨hcz8_0, hcz8_1, hcz8_2, hfz8_0, hfz8_1, hfz8_2⟩ := c3_ BK314) | ((with_reducible refine gate_callee (f := 53) rfl ?_); refine gL_ (some 8) Tryd.func53 #[.agg #[.slice A0_0 l0_0.length c0_0, .int .i64 a0_1, .slice A0_2 l0_2.length c0_2]] (h := ?_); (with_reducible refine (tree_Pairs.calls k _ _ l0_0 a0_1 _ _ l0_2 t316 _ ?side1 ?side2 ?side3 ?side4 A4.out).mono ?_); (case side1 => exact cb_ HR0_0 HB); (case side2 => exact HC0_0.out); (case side3 => exact cb_ HR0_2 HB); (case side4 => exact HC0_2.out); rintro e w9 ⟨v317, rfl, ho0, hb⟩; refine ⟨_, rfl, ?_⟩; have n0_ := mk0 (Kd.R_lower ho0 (bz_ (b_ HB))); replace BK314 := mk0 (u_ BK314 hb); replace HB := mk0 (bt_ (b_ HB) hb); have HO318 := n0_; clear n0_; (try clear hb); (try clear ho0); obtain ⟨Ao10, co10, eo10⟩ := Kd.R_slice HO318.out; subst eo10))
  go_ret2
  exact ⟨by first | rfl | (simp [errW_none, errW_some] <;> rfl) | (simp [*, errW_none, errW_some] <;> rfl), b_ HB⟩
 ·replace c3 := Bool.eq_false_iff.mpr c3
  subst c3
  rw [if_neg (show ¬ (false = true) by decide)] at H
  simp only [Option.some.injEq, Prod.mk.injEq] at H
  obtain ⟨rfl, rfl⟩ := H
  go_enter Tryd.func24, Tryd.ntmps24
  go_wp2_with (first | ((with_reducible refine gate_dst (N := 1) rfl ?_); refine bx_ (N := 1) (cs := #[.slice A0_0 l0_0.length c0_0, .int .i64 a0_1, .slice A0_2 l0_2.length c0_2]) (t := 25) (h := ?_); intro gb314 hg w11 hbox hb; have n2_ := mk0 (gz_ HB hg); have n3_ := mk0 (gz_ HB hg); replace HB := mk0 (bt_ (b_ HB) hb); have BK314 := mk0 (hbox); have GW314 := n2_; have GE314 := n3_; clear n2_ n3_ hb hbox hg; obtain ⟨hcz12_0, hcz12_1, hcz12_2, hfz12_0, hfz12_1, hfz12_2⟩ := c3_ BK314) | ((with_reducible refine gate_callee (f := 52) rfl ?_); refine gL_ (some 5) Tryd.func52 #[.agg #[.slice A0_0 l0_0.length c0_0, .int .i64 a0_1, .slice A0_2 l0_2.length c0_2]] (h := ?_); (with_reducible refine (tree_May.calls _ _ l0_0 a0_1 _ _ l0_2 false _ ?side1 ?side2 ?side3 ?side4 A2.out).mono ?_); (case side1 => exact cb_ HR0_0 HB); (case side2 => exact HC0_0.out); (case side3 => exact cb_ HR0_2 HB); (case side4 => exact HC0_2.out); rintro e w13 ⟨rfl, hb⟩; refine ⟨_, rfl, ?_⟩; replace BK314 := mk0 (u_ BK314 hb); replace HB := mk0 (bt_ (b_ HB) hb); (try clear hb)))
  go_ret2
  exact ⟨by first | rfl | (simp [errW_none, errW_some] <;> rfl) | (simp [*, errW_none, errW_some] <;> rfl), b_ HB⟩

/-! ### tree_Deep: function 25 -/
noncomputable def tree_Deep.l0 : Nat → Int → List (S85) → Int → List Int → List ByteArray → List Int → List Int → Bool → Option (Int × Int)
 | 0, _, _, _, _, _, _, _, _ => none
 | k + 1, x4, x320000, x320001, x320002, x323000, x323001, x323002, x323003 => if x323003 = true then (some (x4, 0)) else (if 0 < (x323002.length : Int) then (if 0 ≤ (rd x323002 0) then (if (rd x323002 0) < (x320000.length : Int) then (tree_Deep.l0 k (wrap64 (x4 + 1)) x320000 x320001 x320002 ((rd_T85 x320000 (rd x323002 0)).f0) ((rd_T85 x320000 (rd x323002 0)).f1) ((rd_T85 x320000 (rd x323002 0)).f2) ((rd_T85 x320000 (rd x323002 0)).f3)) else (none)) else (none)) else (none))
noncomputable def tree_Deep.f (k : Nat) (l0_0 : List (S85)) (a0_1 : Int) (l0_2 : List Int) : Option (Int × Int) := (tree_May.f l0_0 a0_1 l0_2).bind fun t320 => (if t320 = true then (if 0 ≤ a0_1 then (if a0_1 < (l0_0.length : Int) then (tree_Deep.l0 k 1 l0_0 a0_1 l0_2 ((rd_T85 l0_0 a0_1).f0) ((rd_T85 l0_0 a0_1).f1) ((rd_T85 l0_0 a0_1).f2) ((rd_T85 l0_0 a0_1).f3)) else (none)) else (none)) else (some (0, 1)))
theorem tree_Deep.mono_l : ∀ k, (∀ y0 y1 y2 y3 y4 y5 y6 y7, LeO (tree_Deep.l0 k y0 y1 y2 y3 y4 y5 y6 y7) (tree_Deep.l0 (k + 1) y0 y1 y2 y3 y4 y5 y6 y7))
 | 0 => fun _ _ _ _ _ _ _ _ r h => by simp [tree_Deep.l0] at h
 | k + 1 => by
  have ih0 := tree_Deep.mono_l k
  ·intro y0 y1 y2 y3 y4 y5 y6 y7
   unfold tree_Deep.l0
   repeat' first
   | (with_reducible exact ih0 _ _ _ _ _ _ _ _)
   | (with_reducible exact LeO.refl _)
   | (with_reducible exact LeO.none _)
   | (with_reducible refine LeO.ite ?_ ?_)
   | (with_reducible refine LeO.bind ?_ (fun _ => ?_))
   | exact ih0 _ _ _ _ _ _ _ _
   | exact LeO.none _
   | refine LeO.ite ?_ ?_
   | refine LeO.bind ?_ (fun _ => ?_)
theorem tree_Deep.mono : ∀ a0 a1 a2 k, LeO (tree_Deep.f k a0 a1 a2) (tree_Deep.f (k + 1) a0 a1 a2) := by
 intro a0 a1 a2 k
 have ih0 := tree_Deep.mono_l k
 unfold tree_Deep.f
 repeat' first
   | (with_reducible exact ih0 _ _ _ _ _ _ _ _)
   | (with_reducible exact LeO.refl _)
   | (with_reducible exact LeO.none _)
   | (with_reducible refine LeO.ite ?_ ?_)
   | (with_reducible refine LeO.bind ?_ (fun _ => ?_))
   | exact ih0 _ _ _ _ _ _ _ _
   | exact LeO.none _
   | refine LeO.ite ?_ ?_
   | refine LeO.bind ?_ (fun _ => ?_)
noncomputable def tree_Deep.T6 : Bool × List (List Nat × List Nat) := (true, [([], []), ([0], [0]), ([], []), ([2], [2]), ([3], [3]), ([4], [4]), ([1, 5], [1, 5]), ([6], [6]), ([7, 0, 1, 2, 3, 4, 5, 6, 7], [7])])
noncomputable def tree_Deep.B6 : List Nat := [0, 1, 0, 4, 12, 28, 63, 127, 255]
theorem tree_Deep.tab6 : rtab .any (opsOf Tryd.f25 6) = tree_Deep.T6 := by kernel_rfl
theorem tree_Deep.bits6 : waitsOk tree_Deep.T6.2 tree_Deep.B6 = true := by kernel_rfl
set_option maxHeartbeats 8000000 in
set_option maxRecDepth 100000 in
theorem tree_Deep.calls (k : Nat) (A0_0 : Option Addr) (c0_0 : Nat) (l0_0 : List (S85)) (a0_1 : Int) (A0_2 : Option Addr) (c0_2 : Nat) (l0_2 : List Int) (r1 : Int) (r2 : Int) (w : World) (hr0_0 : Kd.C k85 w A0_0 l0_0.length l0_0) (hc0_0 : l0_0.length ≤ c0_0) (hr0_2 : Kd.C (Kd.int .i64) w A0_2 l0_2.length l0_2) (hc0_2 : l0_2.length ≤ c0_2) (h : tree_Deep.f k l0_0 a0_1 l0_2 = some (r1, r2)) :
  Calls Tryd.prog 25 #[.agg #[.slice A0_0 l0_0.length c0_0, .int .i64 a0_1, .slice A0_2 l0_2.length c0_2]] w fun e w' => e = .returned (.tuple #[.int .i64 r1, .int .i64 r2]) ∧ Below w.heap.size w w' := by
 have hu25 := Tryd.underlying25
 have hu85 := Tryd.underlying85
 have HR0_0 := mk0 hr0_0
 have HC0_0 := mk0 hc0_0
 clear hr0_0 hc0_0
 have HR0_2 := mk0 hr0_2
 have HC0_2 := mk0 hc0_2
 clear hr0_2 hc0_2
 have HB := mk0 (Below.refl w.heap.size w)
 have H : ((tree_May.f l0_0 a0_1 l0_2).bind fun t320 => (if t320 = true then (if 0 ≤ a0_1 then (if a0_1 < (l0_0.length : Int) then (tree_Deep.l0 k 1 l0_0 a0_1 l0_2 ((rd_T85 l0_0 a0_1).f0) ((rd_T85 l0_0 a0_1).f1) ((rd_T85 l0_0 a0_1).f2) ((rd_T85 l0_0 a0_1).f3)) else (none)) else (none)) else (some (0, 1)))) = some (r1, r2) := h
 clear h
 replace H := Option.bind_eq_some_iff.mp H
 obtain ⟨t320, A20, H⟩ := H
 try dsimp only at H
 have A2 := mk0 A20
 clear A20
 by_cases c3 : t320 = true
 ·subst c3
  rw [if_pos rfl] at H
  by_cases c4 : 0 ≤ a0_1
  ·rw [if_pos c4] at H
   have c4b0 : decide (0 ≤ a0_1) = true := decide_eq_true c4
   clear c4
   by_cases c5 : a0_1 < (l0_0.length : Int)
   ·rw [if_pos c5] at H
    have c5b0 : decide (a0_1 < (l0_0.length : Int)) = true := decide_eq_true c5
    clear c5
    have H' := mk0 H
    clear H
    go_enter Tryd.func25, Tryd.ntmps25
    go_wp2_with (first | ((with_reducible refine gate_dst (N := 1) rfl ?_); refine bx_ (N := 1) (cs := #[.slice A0_0 l0_0.length c0_0, .int .i64 a0_1, .slice A0_2 l0_2.length c0_2]) (t := 25) (h := ?_); intro gb319 hg w6 hbox hb; have n2_ := mk0 (gz_ HB hg); have n3_ := mk0 (gz_ HB hg); replace HB := mk0 (bt_ (b_ HB) hb); have BK319 := mk0 (hbox); have GW319 := n2_; have GE319 := n3_; clear n2_ n3_ hb hbox hg; obtain ⟨hcz7_0, hcz7_1, hcz7_2, hfz7_0, hfz7_1, hfz7_2⟩ := c3_ BK319) | ((with_reducible refine gate_callee (f := 52) rfl ?_); refine gL_ (some 7) Tryd.func52 #[.agg #[.slice A0_0 l0_0.length c0_0, .int .i64 a0_1, .slice A0_2 l0_2.length c0_2]] (h := ?_); (with_reducible refine (tree_May.calls _ _ l0_0 a0_1 _ _ l0_2 true _ ?side1 ?side2 ?side3 ?side4 A2.out).mono ?_); (case side1 => exact cb_ HR0_0 HB); (case side2 => exact HC0_0.out); (case side3 => exact cb_ HR0_2 HB); (case side4 => exact HC0_2.out); rintro e w8 ⟨rfl, hb⟩; refine ⟨_, rfl, ?_⟩; replace BK319 := mk0 (u_ BK319 hb); replace HB := mk0 (bt_ (b_ HB) hb); (try clear hb); obtain ⟨hcz9_0, hcz9_1, hcz9_2, hfz9_0, hfz9_1, hfz9_2⟩ := c3_ BK319; have p321 : 0 ≤ (a0_1 : Int) := of_decide_eq_true (by first | (with_reducible assumption) | assumption); have q321 : a0_1 < (l0_0.length : Int) := of_decide_eq_true (by first | (with_reducible assumption) | assumption); obtain ⟨ad321, A321_0, c321_0, A321_1, c321_1, A321_2, c321_2, e321, hx321_0, hx321_1, hx321_2, hx321_3, hl321_0, hi321_0, hl321_1, hi321_1, hl321_2, hi321_2⟩ := at_T85 HR0_0.out a0_1 p321 q321; cases e321; replace hx321_0 := (bc_ HB hx321_0 :); replace hx321_1 := (bc_ HB hx321_1 :); replace hx321_2 := (bc_ HB hx321_2 :); replace hx321_3 := (bc_ HB hx321_3 :); have HR321_0 := mk0 hi321_0; have HC321_0 := mk0 hl321_0; clear hi321_0 hl321_0; have HR321_1 := mk0 hi321_1; have HC321_1 := mk0 hl321_1; clear hi321_1 hl321_1; have HR321_2 := mk0 hi321_2; have HC321_2 := mk0 hl321_2; clear hi321_2 hl321_2; replace p321 := eq_true p321; replace q321 := eq_true q321) | ((with_reducible refine gate_dst (N := 5) rfl ?_); refine bx_ (N := 5) (cs := #[.slice none 0 0, .slice none 0 0, .slice none 0 0, .bool false]) (t := 85) (h := ?_); intro gb322 hg w10 hbox hb; have n3_ := mk0 (gz_ HB hg); have n4_ := mk0 (gz_ HB hg); have n5_ := mk0 (ne1_ BK319 hg); have n6_ := mk0 (ne2_ BK319 hg); replace BK319 := mk0 (u_ BK319 hb); replace HB := mk0 (bt_ (b_ HB) hb); have BK322 := mk0 (hbox); have GW322 := n3_; have GE322 := n4_; have NB319_322 := n5_; have NB322_319 := n6_; clear n3_ n4_ n5_ n6_ hb hbox hg; have hnb11 := NB322_319.out; have hnc11 := NB319_322.out; obtain ⟨hcz12_0, hcz12_1, hcz12_2, hcz12_3, hfz12_0, hfz12_1, hfz12_2, hfz12_3⟩ := c4_ BK322))
    go_loopg [4, 5] k (fun kq v4 v5 w' => ∃ (x4_1 : Int) (n5 : Int) (gb322 : Nat) (A321_0 : Option Addr) (c321_0 : Nat) (A321_1 : Option Addr) (c321_1 : Nat) (A321_2 : Option Addr) (c321_2 : Nat), v4 = .int .i64 x4_1 ∧ v5 = .pointer (some ⟨gb322, 0, none⟩) ∧ Fc (tree_Deep.l0 kq x4_1 l0_0 a0_1 l0_2 ((rd_T85 l0_0 n5).f0) ((rd_T85 l0_0 n5).f1) ((rd_T85 l0_0 n5).f2) ((rd_T85 l0_0 n5).f3) = some (r1, r2)) ∧ Fc (kq ≤ k) ∧ Fc (gb319 ≠ gb322) ∧ Fc (gb322 ≠ gb319) ∧ Fc (w.heap.size ≤ gb322) ∧ Fc (Kd.C (Kd.int .i64) w A321_2 ((rd_T85 l0_0 n5).f2).length ((rd_T85 l0_0 n5).f2)) ∧ Fc (w'.heap[gb319]? = some (.cells #[(.slice (some ad321) l0_0.length c0_0), .int .i64 a0_1, (.slice A0_2 l0_2.length c0_2)] 25 (0, 0))) ∧ Fc (w'.heap[gb322]? = some (.cells #[(.slice A321_0 ((rd_T85 l0_0 n5).f0).length c321_0), (.slice A321_1 ((rd_T85 l0_0 n5).f1).length c321_1), (.slice A321_2 ((rd_T85 l0_0 n5).f2).length c321_2), .bool ((rd_T85 l0_0 n5).f3)] 85 (0, 0))) ∧ Fc (Below w.heap.size w w'))
    case atStart => exact ⟨1, a0_1, gb322, A321_0, c321_0, A321_1, c321_1, A321_2, c321_2, rfl, rfl, H', ⟨Nat.le_refl _⟩, NB319_322, NB322_319, GE322, HR321_2, ⟨(fa_ (fa_ (fa_ (fa_ (h_ BK319) NB319_322.out) NB319_322.out) NB319_322.out) NB319_322.out)⟩, ⟨(pu_ (cs := #[.slice A321_0 ((rd_T85 l0_0 a0_1).f0).length c321_0, .slice A321_1 ((rd_T85 l0_0 a0_1).f1).length c321_1, .slice A321_2 ((rd_T85 l0_0 a0_1).f2).length c321_2, .bool false]) (pu_ (cs := #[.slice A321_0 ((rd_T85 l0_0 a0_1).f0).length c321_0, .slice A321_1 ((rd_T85 l0_0 a0_1).f1).length c321_1, .slice none 0 0, .bool false]) (pu_ (cs := #[.slice A321_0 ((rd_T85 l0_0 a0_1).f0).length c321_0, .slice none 0 0, .slice none 0 0, .bool false]) (pu_ (cs := #[.slice none 0 0, .slice none 0 0, .slice none 0 0, .bool false]) (h_ BK322)))))⟩, ⟨b_ HB⟩⟩
    case round =>
     clear H'
     try clear c3
     try clear c4
     try clear c4b0
     try clear c5
     try clear c5b0
     try clear hcz12_0
     try clear hcz12_1
     try clear hcz12_2
     try clear hcz12_3
     try clear hcz7_0
     try clear hcz7_1
     try clear hcz7_2
     try clear hcz9_0
     try clear hcz9_1
     try clear hcz9_2
     try clear hfz12_0
     try clear hfz12_1
     try clear hfz12_2
     try clear hfz12_3
     try clear hfz7_0
     try clear hfz7_1
     try clear hfz7_2
     try clear hfz9_0
     try clear hfz9_1
     try clear hfz9_2
     try clear hx321_0
     try clear hx321_1
     try clear hx321_2
     try clear hx321_3
     try clear p321
     try clear q321
     obtain ⟨x4_1, n5, gb322, A321_0, c321_0, A321_1, c321_1, A321_2, c321_2, rfl, rfl, HA, HK1, NB319_322, NB322_319, GE322, HR321_2, BK319, BK322, HB⟩ := hrel
     cases gk with
     | zero => exact absurd HA.out (by simp [tree_Deep.l0])
     | succ k1 =>
      have H := HA.out
      clear HA
      simp only [tree_Deep.l0] at H
      as_aux_lemma =>
       by_cases c13 : ((rd_T85 l0_0 n5).f3) = true
       ·rw [if_pos c13] at H
        have c13q := Aside0.mk (show ((rd_T85 l0_0 n5).f3) = true from c13)
        clear c13
        simp only [Option.some.injEq, Prod.mk.injEq] at H
        obtain ⟨rfl, rfl⟩ := H
        have hnb14 := NB322_319.out
        have hnc14 := NB319_322.out
        obtain ⟨hcz15_0, hcz15_1, hcz15_2, hcz15_3, hfz15_0, hfz15_1, hfz15_2, hfz15_3⟩ := c4_ BK322
        rw [c13q.out] at hcz15_3
        go_wp2
        go_ret2
        exact ⟨by first | rfl | (simp [errW_none, errW_some] <;> rfl) | (simp [*, errW_none, errW_some] <;> rfl), b_ HB⟩
       ·rw [if_neg c13] at H
        have c13q := Aside0.mk (show ((rd_T85 l0_0 n5).f3) = false from (by simpa using c13))
        clear c13
        by_cases c16 : 0 < (((rd_T85 l0_0 n5).f2).length : Int)
        ·rw [if_pos c16] at H
         have c16b0 : decide (0 < (((rd_T85 l0_0 n5).f2).length : Int)) = true := decide_eq_true c16
         have c16b1 : decide (0 < ((rd_T85 l0_0 n5).f2).length) = true := decide_eq_true (by omega)
         clear c16
         by_cases c17 : 0 ≤ (rd ((rd_T85 l0_0 n5).f2) 0)
         ·rw [if_pos c17] at H
          have c17b0 : decide (0 ≤ (rd ((rd_T85 l0_0 n5).f2) 0)) = true := decide_eq_true c17
          clear c17
          by_cases c18 : (rd ((rd_T85 l0_0 n5).f2) 0) < (l0_0.length : Int)
          ·rw [if_pos c18] at H
           have c18b0 : decide ((rd ((rd_T85 l0_0 n5).f2) 0) < (l0_0.length : Int)) = true := decide_eq_true c18
           clear c18
           have H' := mk0 H
           clear H
           have hnb19 := NB322_319.out
           have hnc19 := NB319_322.out
           obtain ⟨hcz20_0, hcz20_1, hcz20_2, hcz20_3, hfz20_0, hfz20_1, hfz20_2, hfz20_3⟩ := c4_ BK322
           rw [c13q.out] at hcz20_3
           try go_wp2_with (first | ((with_reducible refine gate_dst (N := 5) rfl ?_); refine bx_ (N := 5) (cs := #[.slice none 0 0, .slice none 0 0, .slice none 0 0, .bool false]) (t := 85) (h := ?_); intro gb323 hg w21 hbox hb; have n4_ := mk0 (gz_ HB hg); have n5_ := mk0 (gz_ HB hg); have n6_ := mk0 (ne1_ BK319 hg); have n7_ := mk0 (ne2_ BK319 hg); have n8_ := mk0 (ne1_ BK322 hg); have n9_ := mk0 (ne2_ BK322 hg); replace BK319 := mk0 (u_ BK319 hb); replace BK322 := mk0 (u_ BK322 hb); replace HB := mk0 (bt_ (b_ HB) hb); have BK323 := mk0 (hbox); have GW323 := n4_; have GE323 := n5_; have NB319_323 := n6_; have NB323_319 := n7_; have NB322_323 := n8_; have NB323_322 := n9_; clear n4_ n5_ n6_ n7_ n8_ n9_ hb hbox hg; have hnb22 := NB323_319.out; have hnc22 := NB319_323.out; have hnb23 := NB323_322.out; have hnc23 := NB322_323.out; obtain ⟨hcz24_0, hcz24_1, hcz24_2, hcz24_3, hfz24_0, hfz24_1, hfz24_2, hfz24_3⟩ := c4_ BK323))
           have n0_ : Fc (((((w21.setCell ⟨gb323, 0, none⟩ (.slice A321_0 ((rd_T85 l0_0 n5).f0).length c321_0)).setCell ⟨gb323, 1, none⟩ (.slice A321_1 ((rd_T85 l0_0 n5).f1).length c321_1)).setCell ⟨gb323, 2, none⟩ (.slice A321_2 ((rd_T85 l0_0 n5).f2).length c321_2)).setCell ⟨gb323, 3, none⟩ (.bool false)).heap[gb319]? = some (.cells #[.slice (some ad321) l0_0.length c0_0, .int .i64 a0_1, .slice A0_2 l0_2.length c0_2] 25 (0, 0))) := ⟨(fa_ (fa_ (fa_ (fa_ (h_ BK319) NB319_323.out) NB319_323.out) NB319_323.out) NB319_323.out)⟩
           have n1_ : Fc (((((w21.setCell ⟨gb323, 0, none⟩ (.slice A321_0 ((rd_T85 l0_0 n5).f0).length c321_0)).setCell ⟨gb323, 1, none⟩ (.slice A321_1 ((rd_T85 l0_0 n5).f1).length c321_1)).setCell ⟨gb323, 2, none⟩ (.slice A321_2 ((rd_T85 l0_0 n5).f2).length c321_2)).setCell ⟨gb323, 3, none⟩ (.bool false)).heap[gb322]? = some (.cells #[.slice A321_0 ((rd_T85 l0_0 n5).f0).length c321_0, .slice A321_1 ((rd_T85 l0_0 n5).f1).length c321_1, .slice A321_2 ((rd_T85 l0_0 n5).f2).length c321_2, .bool ((rd_T85 l0_0 n5).f3)] 85 (0, 0))) := ⟨(fa_ (fa_ (fa_ (fa_ (h_ BK322) NB322_323.out) NB322_323.out) NB322_323.out) NB322_323.out)⟩
           have n2_ : Fc (((((w21.setCell ⟨gb323, 0, none⟩ (.slice A321_0 ((rd_T85 l0_0 n5).f0).length c321_0)).setCell ⟨gb323, 1, none⟩ (.slice A321_1 ((rd_T85 l0_0 n5).f1).length c321_1)).setCell ⟨gb323, 2, none⟩ (.slice A321_2 ((rd_T85 l0_0 n5).f2).length c321_2)).setCell ⟨gb323, 3, none⟩ (.bool false)).heap[gb323]? = some (.cells #[.slice A321_0 ((rd_T85 l0_0 n5).f0).length c321_0, .slice A321_1 ((rd_T85 l0_0 n5).f1).length c321_1, .slice A321_2 ((rd_T85 l0_0 n5).f2).length c321_2, .bool false] 85 (0, 0))) := ⟨(pu_ (cs := #[.slice A321_0 ((rd_T85 l0_0 n5).f0).length c321_0, .slice A321_1 ((rd_T85 l0_0 n5).f1).length c321_1, .slice A321_2 ((rd_T85 l0_0 n5).f2).length c321_2, .bool false]) (pu_ (cs := #[.slice A321_0 ((rd_T85 l0_0 n5).f0).length c321_0, .slice A321_1 ((rd_T85 l0_0 n5).f1).length c321_1, .slice none 0 0, .bool false]) (pu_ (cs := #[.slice A321_0 ((rd_T85 l0_0 n5).f0).length c321_0, .slice none 0 0, .slice none 0 0, .bool false]) (pu_ (cs := #[.slice none 0 0, .slice none 0 0, .slice none 0 0, .bool false]) (h_ BK323)))))⟩
           have n3_ : Fc (Below w.heap.size w ((((w21.setCell ⟨gb323, 0, none⟩ (.slice A321_0 ((rd_T85 l0_0 n5).f0).length c321_0)).setCell ⟨gb323, 1, none⟩ (.slice A321_1 ((rd_T85 l0_0 n5).f1).length c321_1)).setCell ⟨gb323, 2, none⟩ (.slice A321_2 ((rd_T85 l0_0 n5).f2).length c321_2)).setCell ⟨gb323, 3, none⟩ (.bool false))) := ⟨b_ HB⟩
           (try clear BK319)
           (try clear BK322)
           (try clear BK323)
           (try clear HB)
           generalize ((((w21.setCell ⟨gb323, 0, none⟩ (.slice A321_0 ((rd_T85 l0_0 n5).f0).length c321_0)).setCell ⟨gb323, 1, none⟩ (.slice A321_1 ((rd_T85 l0_0 n5).f1).length c321_1)).setCell ⟨gb323, 2, none⟩ (.slice A321_2 ((rd_T85 l0_0 n5).f2).length c321_2)).setCell ⟨gb323, 3, none⟩ (.bool false)) = w25 at n0_ n1_ n2_ n3_ ⊢
           have BK319 := n0_
           have BK322 := n1_
           have BK323 := n2_
           have HB := n3_
           clear n0_ n1_ n2_ n3_
           replace BK319 := mk0 (bD_ BK319.out)
           replace BK322 := mk0 (bD_ BK322.out)
           replace BK323 := mk0 (bD_ BK323.out)
           replace HB := mk0 (b1_ HB.out)
           have p324 : 0 ≤ (0 : Int) := (by omega)
           have q324 : 0 < (((rd_T85 l0_0 n5).f2).length : Int) := of_decide_eq_true (by first | (with_reducible assumption) | assumption)
           obtain ⟨ad324, e324, hx324_0⟩ := Kd.at_int HR321_2.out 0 p324 q324
           have hw324_0 := hx324_0
           (try rw [show ((0 : Int)).toNat = 0 from rfl] at hw324_0)
           (try rw [show 0 * 1 = 0 from rfl] at hw324_0)
           (try rw [Addr.add_zero'] at hw324_0)
           cases e324
           have qi324 : (0 < ((rd_T85 l0_0 n5).f2).length) = True := eq_true (by omega)
           (try rw [show ((0 : Int)).toNat = 0 from rfl] at hx324_0)
           (try rw [Addr.add_zero'] at hx324_0)
           replace hx324_0 := (bc_ HB hx324_0 :)
           replace p324 := eq_true p324
           replace q324 := eq_true q324
           have p325 : 0 ≤ ((rd ((rd_T85 l0_0 n5).f2) 0) : Int) := of_decide_eq_true (by first | (with_reducible assumption) | assumption)
           have q325 : (rd ((rd_T85 l0_0 n5).f2) 0) < (l0_0.length : Int) := of_decide_eq_true (by first | (with_reducible assumption) | assumption)
           obtain ⟨ad325, A325_0, c325_0, A325_1, c325_1, A325_2, c325_2, e325, hx325_0, hx325_1, hx325_2, hx325_3, hl325_0, hi325_0, hl325_1, hi325_1, hl325_2, hi325_2⟩ := at_T85 HR0_0.out (rd ((rd_T85 l0_0 n5).f2) 0) p325 q325
           have hw325_3 := hx325_3
           have hw325_2 := hx325_2
           have hw325_1 := hx325_1
           have hw325_0 := hx325_0
           obtain rfl : ad321 = ad325 := (by injection e325)
           replace hx325_0 := (bc_ HB hx325_0 :)
           replace hx325_1 := (bc_ HB hx325_1 :)
           replace hx325_2 := (bc_ HB hx325_2 :)
           replace hx325_3 := (bc_ HB hx325_3 :)
           have HR325_0 := mk0 hi325_0
           have HC325_0 := mk0 hl325_0
           clear hi325_0 hl325_0
           have HR325_1 := mk0 hi325_1
           have HC325_1 := mk0 hl325_1
           clear hi325_1 hl325_1
           have HR325_2 := mk0 hi325_2
           have HC325_2 := mk0 hl325_2
           clear hi325_2 hl325_2
           replace p325 := eq_true p325
           replace q325 := eq_true q325
           as_aux_lemma =>
            refine start_ (n := 9) (S := fun w' => w'.cell? ⟨gb319, 0, none⟩ = some (.slice (some ad321) l0_0.length c0_0) ∧ w'.cell? ⟨gb319, 1, none⟩ = some (.int .i64 a0_1) ∧ w'.cell? ⟨gb319, 2, none⟩ = some (.slice A0_2 l0_2.length c0_2) ∧ w'.cell? ⟨gb323, 0, none⟩ = some (.slice A321_0 ((rd_T85 l0_0 n5).f0).length c321_0) ∧ w'.cell? ⟨gb323, 1, none⟩ = some (.slice A321_1 ((rd_T85 l0_0 n5).f1).length c321_1) ∧ w'.cell? ⟨gb323, 2, none⟩ = some (.slice (some ad324) ((rd_T85 l0_0 n5).f2).length c321_2) ∧ w'.cell? ⟨gb323, 3, none⟩ = some (.bool false) ∧ w'.cell? ad324 = some (.int .i64 (rd ((rd_T85 l0_0 n5).f2) 0)) ∧ w'.cell? (ad321.add (((rd ((rd_T85 l0_0 n5).f2) 0)).toNat * 4)) = some (.slice A325_0 ((rd_T85 l0_0 (rd ((rd_T85 l0_0 n5).f2) 0)).f0).length c325_0) ∧ w'.cell? ⟨(ad321.add (((rd ((rd_T85 l0_0 n5).f2) 0)).toNat * 4)).block, (ad321.add (((rd ((rd_T85 l0_0 n5).f2) 0)).toNat * 4)).off + 1, none⟩ = some (.slice A325_1 ((rd_T85 l0_0 (rd ((rd_T85 l0_0 n5).f2) 0)).f1).length c325_1) ∧ w'.cell? ⟨(ad321.add (((rd ((rd_T85 l0_0 n5).f2) 0)).toNat * 4)).block, (ad321.add (((rd ((rd_T85 l0_0 n5).f2) 0)).toNat * 4)).off + 2, none⟩ = some (.slice A325_2 ((rd_T85 l0_0 (rd ((rd_T85 l0_0 n5).f2) 0)).f2).length c325_2) ∧ w'.cell? ⟨(ad321.add (((rd ((rd_T85 l0_0 n5).f2) 0)).toNat * 4)).block, (ad321.add (((rd ((rd_T85 l0_0 n5).f2) 0)).toNat * 4)).off + 3, none⟩ = some (.bool ((rd_T85 l0_0 (rd ((rd_T85 l0_0 n5).f2) 0)).f3))) (ds := [8]) (bt 9 0) (by kernel_rfl) rfl rfl ⟨bk_ BK319 0, bk_ BK319 1, bk_ BK319 2, bk_ BK323 0, bk_ BK323 1, bk_ BK323 2, bk_ BK323 3, ((bc_ HB hw324_0 :)), ((bc_ HB hw325_0 :)), ((bc_ HB hw325_1 :)), ((bc_ HB hw325_2 :)), ((bc_ HB hw325_3 :))⟩ (fun hHeld => ?_); refine with_tabW tree_Deep.tab6 tree_Deep.bits6 (fun HT_ HW_ => ?_)
            generalize w25.drew = w26 at BK319 BK322 BK323 HB HR325_0 HR325_1 HR325_2 hx324_0 hx325_0 hx325_1 hx325_2 hx325_3 hHeld ⊢
            as_aux_lemma =>
             refine pq_ HT_.out 0 18 (bt 9 1) (h := ?_)
             refine pq_ HT_.out 2 20 (bt 9 5) (h := ?_)
             refine tq12_ HT_.out HW_.out 1 19 (bt 9 7) hHeld (h := ?_)
             refine tq12_ HT_.out HW_.out 3 21 (bt 9 15) hHeld (h := ?_)
             refine pq_ HT_.out 4 22 (bt 9 31) (h := ?_)
             refine tq12_ HT_.out HW_.out 5 23 (bt 9 63) hHeld (h := ?_)
             refine pq_ HT_.out 6 24 (bt 9 127) (h := ?_)
             refine tq12_ HT_.out HW_.out 7 25 (bt 9 255) hHeld (h := ?_)
             as_aux_lemma =>
              refine last_ (i := 8) (N := none) (bt 9 511) rfl rfl (one_of HT_.out (by kernel_rfl)) (by decide) (fun K hK => ?_)
              have hs27 : w26.cell? ⟨gb323, 0, none⟩ = some (.slice A321_0 ((rd_T85 l0_0 n5).f0).length c321_0) := bk_ BK323 0
              have hfs27 := blk_frozen BK323.out 0
              have hns27_0 := NB319_323.out
              have hns27_1 := NB322_323.out
              have hms27_0 := NB323_319.out
              have hms27_1 := NB323_322.out
              have hs28 : w26.cell? ⟨gb323, 1, none⟩ = some (.slice A321_1 ((rd_T85 l0_0 n5).f1).length c321_1) := bk_ BK323 1
              have hfs28 := blk_frozen BK323.out 1
              have hns28_0 := NB319_323.out
              have hns28_1 := NB322_323.out
              have hms28_0 := NB323_319.out
              have hms28_1 := NB323_322.out
              have hs29 : w26.cell? ⟨gb323, 2, none⟩ = some (.slice (some ad324) ((rd_T85 l0_0 n5).f2).length c321_2) := bk_ BK323 2
              have hfs29 := blk_frozen BK323.out 2
              have hns29_0 := NB319_323.out
              have hns29_1 := NB322_323.out
              have hms29_0 := NB323_319.out
              have hms29_1 := NB323_322.out
              have hs30 : w26.cell? ⟨gb323, 3, none⟩ = some (.bool false) := bk_ BK323 3
              have hfs30 := blk_frozen BK323.out 3
              have hns30_0 := NB319_323.out
              have hns30_1 := NB322_323.out
              have hms30_0 := NB323_319.out
              have hms30_1 := NB323_322.out
              refine skip_ (w1 := ?_) (by rfl) rfl ?_ ?_
              rotate_left
              ·go_simp
               rfl
              refine hK.out _ _ ?_
              clear hK K
              refine done_ (done_of HT_.out (by kernel_rfl)) ?_
              try go_wp2
              go_roundg k1
              case measure => have := HK1.out; omega
              case rel => exact ⟨wrap64 (x4_1 + 1), rd ((rd_T85 l0_0 n5).f2) 0, gb323, A325_0, c325_0, A325_1, c325_1, A325_2, c325_2, rfl, rfl, H', ⟨by have := HK1.out; omega⟩, NB319_323, NB323_319, GE323, HR325_2, ⟨(fa_ (fa_ (fa_ (fa_ (h_ BK319) NB319_323.out) NB319_323.out) NB319_323.out) NB319_323.out)⟩, ⟨(pu_ (cs := #[.slice A325_0 ((rd_T85 l0_0 (rd ((rd_T85 l0_0 n5).f2) 0)).f0).length c325_0, .slice A325_1 ((rd_T85 l0_0 (rd ((rd_T85 l0_0 n5).f2) 0)).f1).length c325_1, .slice A325_2 ((rd_T85 l0_0 (rd ((rd_T85 l0_0 n5).f2) 0)).f2).length c325_2, .bool false]) (pu_ (cs := #[.slice A325_0 ((rd_T85 l0_0 (rd ((rd_T85 l0_0 n5).f2) 0)).f0).length c325_0, .slice A325_1 ((rd_T85 l0_0 (rd ((rd_T85 l0_0 n5).f2) 0)).f1).length c325_1, .slice (some ad324) ((rd_T85 l0_0 n5).f2).length c321_2, .bool false]) (pu_ (cs := #[.slice A325_0 ((rd_T85 l0_0 (rd ((rd_T85 l0_0 n5).f2) 0)).f0).length c325_0, .slice A321_1 ((rd_T85 l0_0 n5).f1).length c321_1, .slice (some ad324) ((rd_T85 l0_0 n5).f2).length c321_2, .bool false]) (pu_ (cs := #[.slice A321_0 ((rd_T85 l0_0 n5).f0).length c321_0, .slice A321_1 ((rd_T85 l0_0 n5).f1).length c321_1, .slice (some ad324) ((rd_T85 l0_0 n5).f2).length c321_2, .bool false]) (h_ BK323)))))⟩, ⟨b_ HB⟩⟩
          ·rw [if_neg c18] at H
           exact absurd H (by simp)
         ·rw [if_neg c17] at H
          exact absurd H (by simp)
        ·rw [if_neg c16] at H
         exact absurd H (by simp)
   ·rw [if_neg c5] at H
    exact absurd H (by simp)
  ·rw [if_neg c4] at H
   exact absurd H (by simp)
 ·replace c3 := Bool.eq_false_iff.mpr c3
  subst c3
  rw [if_neg (show ¬ (false = true) by decide)] at H
  simp only [Option.some.injEq, Prod.mk.injEq] at H
  obtain ⟨rfl, rfl⟩ := H
  go_enter Tryd.func25, Tryd.ntmps25
  go_wp2_with (first | ((with_reducible refine gate_dst (N := 1) rfl ?_); refine bx_ (N := 1) (cs := #[.slice A0_0 l0_0.length c0_0, .int .i64 a0_1, .slice A0_2 l0_2.length c0_2]) (t := 25) (h := ?_); intro gb319 hg w31 hbox hb; have n2_ := mk0 (gz_ HB hg); have n3_ := mk0 (gz_ HB hg); replace HB := mk0 (bt_ (b_ HB) hb); have BK319 := mk0 (hbox); have GW319 := n2_; have GE319 := n3_; clear n2_ n3_ hb hbox hg; obtain ⟨hcz32_0, hcz32_1, hcz32_2, hfz32_0, hfz32_1, hfz32_2⟩ := c3_ BK319) | ((with_reducible refine gate_callee (f := 52) rfl ?_); refine gL_ (some 7) Tryd.func52 #[.agg #[.slice A0_0 l0_0.length c0_0, .int .i64 a0_1, .slice A0_2 l0_2.length c0_2]] (h := ?_); (with_reducible refine (tree_May.calls _ _ l0_0 a0_1 _ _ l0_2 false _ ?side1 ?side2 ?side3 ?side4 A2.out).mono ?_); (case side1 => exact cb_ HR0_0 HB); (case side2 => exact HC0_0.out); (case side3 => exact cb_ HR0_2 HB); (case side4 => exact HC0_2.out); rintro e w33 ⟨rfl, hb⟩; refine ⟨_, rfl, ?_⟩; replace BK319 := mk0 (u_ BK319 hb); replace HB := mk0 (bt_ (b_ HB) hb); (try clear hb)))
  go_ret2
  exact ⟨by first | rfl | (simp [errW_none, errW_some] <;> rfl) | (simp [*, errW_none, errW_some] <;> rfl), b_ HB⟩

end Go.Proofs.YtkmkppchhdkipaaDoor.PTr
