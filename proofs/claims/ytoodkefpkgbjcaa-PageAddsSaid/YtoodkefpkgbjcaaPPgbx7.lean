-- PRINTED by print.py (a twelfth state) out of the translation. Not trusted: Lean checks it.
import Derived.Test.YtoodkefpkgbjcaaPPgbx0
import Derived.Test.YtoodkefpkgbjcaaPPgbx6
namespace Go.Proofs.Ytoodkefpkgbjcaa.PPgb
open Go.RowKit Go.Proofs.YtoodkefpkgbjcaaW.PrintWords Go.Proofs.YtoodkefpkgbjcaaW.PrintLast Go.Proofs.YtoodkefpkgbjcaaW.PrintMore
attribute [local go_sem] max2_int min2_int max_two min_two max_three min_three max_four min_four   -- for this text's walks alone
set_option linter.unusedVariables false
set_option linter.unusedSimpArgs false

/-! ### quorumref0_EqPage: function 39 -/
def quorumref0_EqPage.f (k : Nat) (l0_0 : List ByteArray) (l0_1 : List Int) (l1_0 : List ByteArray) (l1_1 : List Int) : Option (Bool) := (quorumref0_EqStrings.f k l0_0 l1_0).bind fun t228 => (if t228 = true then ((quorumref0_EqNumbers.f k l0_1 l1_1).bind fun t229 => (some t229)) else (some false))
theorem quorumref0_EqPage.mono : ∀ a0 a1 a2 a3 k, LeO (quorumref0_EqPage.f k a0 a1 a2 a3) (quorumref0_EqPage.f (k + 1) a0 a1 a2 a3) := by
 intro a0 a1 a2 a3 k
 unfold quorumref0_EqPage.f
 repeat' first
   | (with_reducible exact quorumref0_EqNumbers.mono _ _ _)
   | (with_reducible exact quorumref0_EqStrings.mono _ _ _)
   | (with_reducible exact LeO.refl _)
   | (with_reducible exact LeO.none _)
   | (with_reducible refine LeO.ite ?_ ?_)
   | (with_reducible refine LeO.bind ?_ (fun _ => ?_))
   | exact quorumref0_EqNumbers.mono _ _ _
   | exact quorumref0_EqStrings.mono _ _ _
   | exact LeO.none _
   | refine LeO.ite ?_ ?_
   | refine LeO.bind ?_ (fun _ => ?_)
set_option maxHeartbeats 8000000 in
set_option maxRecDepth 100000 in
theorem quorumref0_EqPage.calls (k : Nat) (A0_0 : Option Addr) (c0_0 : Nat) (l0_0 : List ByteArray) (A0_1 : Option Addr) (c0_1 : Nat) (l0_1 : List Int) (A1_0 : Option Addr) (c1_0 : Nat) (l1_0 : List ByteArray) (A1_1 : Option Addr) (c1_1 : Nat) (l1_1 : List Int) (r : Bool) (w : World) (hr0_0 : Kd.C Kd.string w A0_0 l0_0.length l0_0) (hc0_0 : l0_0.length ≤ c0_0) (hr0_1 : Kd.C (Kd.int .i64) w A0_1 l0_1.length l0_1) (hc0_1 : l0_1.length ≤ c0_1) (hr1_0 : Kd.C Kd.string w A1_0 l1_0.length l1_0) (hc1_0 : l1_0.length ≤ c1_0) (hr1_1 : Kd.C (Kd.int .i64) w A1_1 l1_1.length l1_1) (hc1_1 : l1_1.length ≤ c1_1) (h : quorumref0_EqPage.f k l0_0 l0_1 l1_0 l1_1 = some r) :
  Calls Try.prog 39 #[.agg #[.slice A0_0 l0_0.length c0_0, .slice A0_1 l0_1.length c0_1], .agg #[.slice A1_0 l1_0.length c1_0, .slice A1_1 l1_1.length c1_1]] w fun e w' => e = .returned (.bool r) ∧ Below w.heap.size w w' := by
 have hu56 := Try.underlying56
 have HR0_0 := mk0 hr0_0
 have HC0_0 := mk0 hc0_0
 clear hr0_0 hc0_0
 have HR0_1 := mk0 hr0_1
 have HC0_1 := mk0 hc0_1
 clear hr0_1 hc0_1
 have HR1_0 := mk0 hr1_0
 have HC1_0 := mk0 hc1_0
 clear hr1_0 hc1_0
 have HR1_1 := mk0 hr1_1
 have HC1_1 := mk0 hc1_1
 clear hr1_1 hc1_1
 have HB := mk0 (Below.refl w.heap.size w)
 have H : ((quorumref0_EqStrings.f k l0_0 l1_0).bind fun t228 => (if t228 = true then ((quorumref0_EqNumbers.f k l0_1 l1_1).bind fun t229 => (some t229)) else (some false))) = some r := h
 clear h
 replace H := Option.bind_eq_some_iff.mp H
 obtain ⟨t228, A30, H⟩ := H
 try dsimp only at H
 have A3 := mk0 A30
 clear A30
 by_cases c4 : t228 = true
 focus
  subst c4
  rw [if_pos rfl] at H
  replace H := Option.bind_eq_some_iff.mp H
  obtain ⟨t229, A50, H⟩ := H
  try dsimp only at H
  have A5 := mk0 A50
  clear A50
  obtain rfl := Option.some.inj H
  go_enter Try.func39, Try.ntmps39
 rotate_left 1
 focus
  replace c4 := Bool.eq_false_iff.mpr c4
  subst c4
  rw [if_neg (show ¬ (false = true) by decide)] at H
  obtain rfl := Option.some.inj H
  go_enter Try.func39, Try.ntmps39
 rotate_right 1
 all_goals go_wp2_with (first | ((with_reducible refine gate_dst (N := 2) rfl ?_); refine bx_ (N := 2) (cs := #[.slice A0_0 l0_0.length c0_0, .slice A0_1 l0_1.length c0_1]) (t := 56) (h := ?_); intro gb226 hg w6 hbox hb; have n2_ := mk0 (gz_ HB hg); have n3_ := mk0 (gz_ HB hg); replace HB := mk0 (bt_ (b_ HB) hb); have BK226 := mk0 (hbox); have GW226 := n2_; have GE226 := n3_; clear n2_ n3_; clear hb hbox hg) | ((with_reducible refine gate_dst (N := 3) rfl ?_); refine bx_ (N := 3) (cs := #[.slice A1_0 l1_0.length c1_0, .slice A1_1 l1_1.length c1_1]) (t := 56) (h := ?_); intro gb227 hg w7 hbox hb; have n3_ := mk0 (gz_ HB hg); have n4_ := mk0 (gz_ HB hg); have n5_ := mk0 (ne1_ BK226 hg); have n6_ := mk0 (ne2_ BK226 hg); replace BK226 := mk0 (u_ BK226 hb); replace HB := mk0 (bt_ (b_ HB) hb); have BK227 := mk0 (hbox); have GW227 := n3_; have GE227 := n4_; have NB226_227 := n5_; have NB227_226 := n6_; clear n3_ n4_ n5_ n6_ hb hbox hg; have hnb8 := NB226_227.out; have hnc8 := NB227_226.out; obtain ⟨hcz9_0, hcz9_1, hfz9_0, hfz9_1⟩ := c2_ BK226; obtain ⟨hcz10_0, hcz10_1, hfz10_0, hfz10_1⟩ := c2_ BK227) | ((with_reducible refine gate_callee (f := 75) rfl ?_); refine gL_ (some 9) Try.func75 #[.slice A0_0 l0_0.length c0_0, .slice A1_0 l1_0.length c1_0] (h := ?_); (with_reducible refine (quorumref0_EqStrings.calls k _ _ l0_0 _ _ l1_0 true _ ?side1 ?side2 ?side3 ?side4 A3.out).mono ?_); (case side1 => exact cb_ HR0_0 HB); (case side2 => exact HC0_0.out); (case side3 => exact cb_ HR1_0 HB); (case side4 => exact HC1_0.out); rintro e w' ⟨rfl, ⟨nd, rfl⟩⟩; refine ⟨_, rfl, ?_⟩) | (go_at_call 76; (with_reducible refine (quorumref0_EqNumbers.calls k _ _ l0_1 _ _ l1_1 t229 _ ?side1 ?side2 ?side3 ?side4 A5.out).mono ?_); (case side1 => repeat (first | exact (Kd.C_below HR0_1.out (b_ HB)) | (with_reducible refine Kd.C_alloc ?_ _) | (with_reducible refine Kd.C_drewN ?_ _) | (with_reducible refine Kd.C_drew ?_))); (case side2 => exact HC0_1.out); (case side3 => repeat (first | exact (Kd.C_below HR1_1.out (b_ HB)) | (with_reducible refine Kd.C_alloc ?_ _) | (with_reducible refine Kd.C_drewN ?_ _) | (with_reducible refine Kd.C_drew ?_))); (case side4 => exact HC1_1.out); rintro e w' ⟨rfl, ⟨nd, rfl⟩⟩) | ((with_reducible refine gate_callee (f := 75) rfl ?_); refine gL_ (some 9) Try.func75 #[.slice A0_0 l0_0.length c0_0, .slice A1_0 l1_0.length c1_0] (h := ?_); (with_reducible refine (quorumref0_EqStrings.calls k _ _ l0_0 _ _ l1_0 false _ ?side1 ?side2 ?side3 ?side4 A3.out).mono ?_); (case side1 => exact cb_ HR0_0 HB); (case side2 => exact HC0_0.out); (case side3 => exact cb_ HR1_0 HB); (case side4 => exact HC1_0.out); rintro e w' ⟨rfl, ⟨nd, rfl⟩⟩; refine ⟨_, rfl, ?_⟩))
 ·go_ret
  exact ⟨by first | rfl | (simp [errW_none, errW_some] <;> rfl) | (simp [*, errW_none, errW_some] <;> rfl), b_ HB⟩
 ·go_ret
  exact ⟨by first | rfl | (simp [errW_none, errW_some] <;> rfl) | (simp [*, errW_none, errW_some] <;> rfl), b_ HB⟩

/-! ### quorumref0_Num: function 37 -/
def quorumref0_Num.f (a0 : Int) (a1 : Int) : Option (Bool) := if a0 ≥ 0 then (some (decide (a0 ≤ a1))) else (some false)
set_option maxHeartbeats 8000000 in
set_option maxRecDepth 100000 in
theorem quorumref0_Num.calls (a0 : Int) (a1 : Int) (r : Bool) (w : World) (h : quorumref0_Num.f a0 a1 = some r) :
  Calls Try.prog 37 #[.int .i64 a0, .int .i64 a1] w fun e w' => e = .returned (.bool r) ∧ Drawn0 w w' := by
 have H : (if a0 ≥ 0 then (some (decide (a0 ≤ a1))) else (some false)) = some r := h
 clear h
 by_cases c3 : a0 ≥ 0
 ·rw [if_pos c3] at H
  have c3b0 : decide (0 ≤ a0) = true := decide_eq_true c3
  clear c3
  obtain rfl := Option.some.inj H
  go_enter Try.func37, Try.ntmps37
  go_wp2
  go_ret
  exact ⟨by first | rfl | (simp; done) | (simp [*]; done), by repeat (first | exact Drawn0.refl _ | apply Drawn0.step)⟩
 ·rw [if_neg c3] at H
  have c3b0 : decide (0 ≤ a0) = false := decide_eq_false c3
  clear c3
  obtain rfl := Option.some.inj H
  go_enter Try.func37, Try.ntmps37
  go_wp2
  go_ret
  exact ⟨by first | rfl | (simp; done) | (simp [*]; done), by repeat (first | exact Drawn0.refl _ | apply Drawn0.step)⟩

/-! ### quorumref4_Bytes: function 77 -/
def quorumref4_Bytes.l0 : Nat → Int → Int → List ByteArray → List Int → Option (Int)
 | 0, _, _, _, _ => none
 | k + 1, x3, x4, x231000, x231001 => if x4 < (x231000.length : Int) then (if 0 ≤ x4 then (quorumref4_Bytes.l0 k (wrap64 (x3 + ((rdOf ByteArray.empty x231000 x4).size : Int))) (wrap64 (x4 + 1)) x231000 x231001) else (none)) else (some x3)
def quorumref4_Bytes.f (k : Nat) (l0_0 : List ByteArray) (l0_1 : List Int) : Option (Int) := quorumref4_Bytes.l0 k (wrap64 (4 * (l0_0.length : Int))) 0 l0_0 l0_1
theorem quorumref4_Bytes.mono_l : ∀ k, (∀ y0 y1 y2 y3, LeO (quorumref4_Bytes.l0 k y0 y1 y2 y3) (quorumref4_Bytes.l0 (k + 1) y0 y1 y2 y3))
 | 0 => fun _ _ _ _ r h => by simp [quorumref4_Bytes.l0] at h
 | k + 1 => by
  have ih0 := quorumref4_Bytes.mono_l k
  ·intro y0 y1 y2 y3
   unfold quorumref4_Bytes.l0
   repeat' first
   | (with_reducible exact ih0 _ _ _ _)
   | (with_reducible exact LeO.refl _)
   | (with_reducible exact LeO.none _)
   | (with_reducible refine LeO.ite ?_ ?_)
   | (with_reducible refine LeO.bind ?_ (fun _ => ?_))
   | exact ih0 _ _ _ _
   | exact LeO.none _
   | refine LeO.ite ?_ ?_
   | refine LeO.bind ?_ (fun _ => ?_)
theorem quorumref4_Bytes.mono : ∀ a0 a1 k, LeO (quorumref4_Bytes.f k a0 a1) (quorumref4_Bytes.f (k + 1) a0 a1) := by
 intro a0 a1 k
 have ih0 := quorumref4_Bytes.mono_l k
 unfold quorumref4_Bytes.f
 repeat' first
   | (with_reducible exact ih0 _ _ _ _)
   | (with_reducible exact LeO.refl _)
   | (with_reducible exact LeO.none _)
   | (with_reducible refine LeO.ite ?_ ?_)
   | (with_reducible refine LeO.bind ?_ (fun _ => ?_))
   | exact ih0 _ _ _ _
   | exact LeO.none _
   | refine LeO.ite ?_ ?_
   | refine LeO.bind ?_ (fun _ => ?_)
set_option maxHeartbeats 8000000 in
set_option maxRecDepth 100000 in
theorem quorumref4_Bytes.calls (k : Nat) (A0_0 : Option Addr) (c0_0 : Nat) (l0_0 : List ByteArray) (A0_1 : Option Addr) (c0_1 : Nat) (l0_1 : List Int) (r : Int) (w : World) (hr0_0 : Kd.C Kd.string w A0_0 l0_0.length l0_0) (hc0_0 : l0_0.length ≤ c0_0) (hr0_1 : Kd.C (Kd.int .i64) w A0_1 l0_1.length l0_1) (hc0_1 : l0_1.length ≤ c0_1) (h : quorumref4_Bytes.f k l0_0 l0_1 = some r) :
  Calls Try.prog 77 #[.agg #[.slice A0_0 l0_0.length c0_0, .slice A0_1 l0_1.length c0_1]] w fun e w' => e = .returned (.int .i64 r) ∧ Below w.heap.size w w' := by
 have hu56 := Try.underlying56
 have HR0_0 := mk0 hr0_0
 have HC0_0 := mk0 hc0_0
 clear hr0_0 hc0_0
 have HR0_1 := mk0 hr0_1
 have HC0_1 := mk0 hc0_1
 clear hr0_1 hc0_1
 have HB := mk0 (Below.refl w.heap.size w)
 have H : (quorumref4_Bytes.l0 k (wrap64 (4 * (l0_0.length : Int))) 0 l0_0 l0_1) = some r := h
 clear h
 have H' := mk0 H
 clear H
 go_enter Try.func77, Try.ntmps77
 go_wp2_with (first | ((with_reducible refine gate_dst (N := 1) rfl ?_); refine bx_ (N := 1) (cs := #[.slice A0_0 l0_0.length c0_0, .slice A0_1 l0_1.length c0_1]) (t := 56) (h := ?_); intro gb230 hg w2 hbox hb; have n2_ := mk0 (gz_ HB hg); have n3_ := mk0 (gz_ HB hg); replace HB := mk0 (bt_ (b_ HB) hb); have BK230 := mk0 (hbox); have GW230 := n2_; have GE230 := n3_; clear n2_ n3_ hb hbox hg; obtain ⟨hcz3_0, hcz3_1, hfz3_0, hfz3_1⟩ := c2_ BK230))
 go_loopg [3, 4] k (fun kq v3 v4 w' => ∃ (x3_1 : Int) (x4_1 : Int), v3 = .int .i64 x3_1 ∧ v4 = .int .i64 x4_1 ∧ Fc (quorumref4_Bytes.l0 kq x3_1 x4_1 l0_0 l0_1 = some r) ∧ Fc (kq ≤ k) ∧ Fc (w'.heap[gb230]? = some (.cells #[(.slice A0_0 l0_0.length c0_0), (.slice A0_1 l0_1.length c0_1)] 56 (0, 0))) ∧ Fc (Below w.heap.size w w'))
 case atStart => exact ⟨(wrap64 (4 * (l0_0.length : Int))), (0), (by first | rfl | (simp; done) | (simp [*]; done)), (by first | rfl | (simp; done) | (simp [*]; done)), H', ⟨Nat.le_refl _⟩, ⟨h_ BK230⟩, ⟨b_ HB⟩⟩
 case round =>
  clear H'
  try clear hcz3_0
  try clear hcz3_1
  try clear hfz3_0
  try clear hfz3_1
  obtain ⟨x3_1, x4_1, rfl, rfl, HA, HK1, BK230, HB⟩ := hrel
  cases gk with
  | zero => exact absurd HA.out (by simp [quorumref4_Bytes.l0])
  | succ k1 =>
   have H := HA.out
   clear HA
   simp only [quorumref4_Bytes.l0] at H
   as_aux_lemma =>
    by_cases c4 : x4_1 < (l0_0.length : Int)
    ·rw [if_pos c4] at H
     have c4b0 : decide (x4_1 < (l0_0.length : Int)) = true := decide_eq_true c4
     clear c4
     by_cases c5 : 0 ≤ x4_1
     ·rw [if_pos c5] at H
      have c5b0 : decide (0 ≤ x4_1) = true := decide_eq_true c5
      clear c5
      have H' := mk0 H
      clear H
      obtain ⟨hcz6_0, hcz6_1, hfz6_0, hfz6_1⟩ := c2_ BK230
      have p231 : 0 ≤ (x4_1 : Int) := of_decide_eq_true (by first | (with_reducible assumption) | assumption)
      have q231 : x4_1 < (l0_0.length : Int) := of_decide_eq_true (by first | (with_reducible assumption) | assumption)
      obtain ⟨ad231, e231, hx231_0⟩ := Kd.at_string HR0_0.out x4_1 p231 q231
      cases e231
      replace hx231_0 := (HB.out.cell (World.block_lt_of_cell? w _ hx231_0)).trans hx231_0
      replace p231 := eq_true p231
      replace q231 := eq_true q231
      go_wp2
      go_roundg k1
      case measure => have := HK1.out; omega
      case rel => exact ⟨(wrap64 (x3_1 + ((rdOf ByteArray.empty l0_0 x4_1).size : Int))), (wrap64 (x4_1 + 1)), (by first | rfl | (simp; done) | (simp [*]; done)), (by first | rfl | (simp; done) | (simp [*]; done)), H', ⟨by have := HK1.out; omega⟩, ⟨h_ BK230⟩, ⟨b_ HB⟩⟩
     ·rw [if_neg c5] at H
      exact absurd H (by simp)
    ·rw [if_neg c4] at H
     have c4b0 : decide (x4_1 < (l0_0.length : Int)) = false := decide_eq_false c4
     clear c4
     obtain rfl := Option.some.inj H
     obtain ⟨hcz7_0, hcz7_1, hfz7_0, hfz7_1⟩ := c2_ BK230
     go_wp2
     go_ret
     exact ⟨by first | rfl | (simp [errW_none, errW_some] <;> rfl) | (simp [*, errW_none, errW_some] <;> rfl), b_ HB⟩

/-! ### quorumref4_Page: function 40 -/
mutual
def quorumref4_Page.j0 : Nat → Bool → List ByteArray → List Int → Option (Bool)
 | 0, _, _, _ => none
 | k + 1, x12, x233000, x233001 => if x12 = true then (some false) else (quorumref4_Page.l0 k 0 x233000 x233001)
def quorumref4_Page.l0 : Nat → Int → List ByteArray → List Int → Option (Bool)
 | 0, _, _, _ => none
 | k + 1, x3, x233000, x233001 => if x3 < (x233001.length : Int) then (if 0 ≤ x3 then ((quorumref0_Num.f (rd x233001 x3) (wrap64 ((x233000.length : Int) - 2))).bind fun t235 => (if t235 = true then (if x3 > 0 then (if 0 ≤ (wrap64 (x3 - 1)) then (if (wrap64 (x3 - 1)) < (x233001.length : Int) then (if (rd x233001 (wrap64 (x3 - 1))) ≥ (rd x233001 x3) then (quorumref4_Page.j2 k x3 true x233000 x233001) else (if 0 ≤ (rd x233001 x3) then (if (rd x233001 x3) < (x233000.length : Int) then (quorumref4_Page.j2 k x3 ((rdOf ByteArray.empty x233000 (rd x233001 x3)).toList != ([] : List UInt8)) x233000 x233001) else (none)) else (none))) else (none)) else (none)) else (if 0 ≤ (rd x233001 x3) then (if (rd x233001 x3) < (x233000.length : Int) then (quorumref4_Page.j2 k x3 ((rdOf ByteArray.empty x233000 (rd x233001 x3)).toList != ([] : List UInt8)) x233000 x233001) else (none)) else (none))) else (quorumref4_Page.j2 k x3 true x233000 x233001))) else (none)) else (some true)
def quorumref4_Page.j2 : Nat → Int → Bool → List ByteArray → List Int → Option (Bool)
 | 0, _, _, _, _ => none
 | k + 1, x3, x60, x233000, x233001 => if x60 = true then (some false) else (quorumref4_Page.l0 k (wrap64 (x3 + 1)) x233000 x233001)
end
def quorumref4_Page.f (k : Nat) (l0_0 : List ByteArray) (l0_1 : List Int) : Option (Bool) := if (l0_0.length : Int) > 16 then (quorumref4_Page.j0 k true l0_0 l0_1) else ((quorumref4_Bytes.f k l0_0 l0_1).bind fun t233 => (quorumref4_Page.j0 k (decide (t233 > 200)) l0_0 l0_1))
theorem quorumref4_Page.mono_l : ∀ k, (∀ y0 y1 y2, LeO (quorumref4_Page.j0 k y0 y1 y2) (quorumref4_Page.j0 (k + 1) y0 y1 y2)) ∧ (∀ y0 y1 y2, LeO (quorumref4_Page.l0 k y0 y1 y2) (quorumref4_Page.l0 (k + 1) y0 y1 y2)) ∧ (∀ y0 y1 y2 y3, LeO (quorumref4_Page.j2 k y0 y1 y2 y3) (quorumref4_Page.j2 (k + 1) y0 y1 y2 y3))
 | 0 => ⟨fun _ _ _ r h => by simp [quorumref4_Page.j0] at h, fun _ _ _ r h => by simp [quorumref4_Page.l0] at h, fun _ _ _ _ r h => by simp [quorumref4_Page.j2] at h⟩
 | k + 1 => by
  obtain ⟨ih0, ih1, ih2⟩ := quorumref4_Page.mono_l k
  refine ⟨?_, ?_, ?_⟩
  ·intro y0 y1 y2
   unfold quorumref4_Page.j0
   repeat' first
   | (with_reducible exact ih0 _ _ _)
   | (with_reducible exact ih1 _ _ _)
   | (with_reducible exact ih2 _ _ _ _)
   | (with_reducible exact quorumref4_Bytes.mono _ _ _)
   | (with_reducible exact LeO.refl _)
   | (with_reducible exact LeO.none _)
   | (with_reducible refine LeO.ite ?_ ?_)
   | (with_reducible refine LeO.bind ?_ (fun _ => ?_))
   | exact ih0 _ _ _
   | exact ih1 _ _ _
   | exact ih2 _ _ _ _
   | exact quorumref4_Bytes.mono _ _ _
   | exact LeO.none _
   | refine LeO.ite ?_ ?_
   | refine LeO.bind ?_ (fun _ => ?_)
  ·intro y0 y1 y2
   unfold quorumref4_Page.l0
   repeat' first
   | (with_reducible exact ih0 _ _ _)
   | (with_reducible exact ih1 _ _ _)
   | (with_reducible exact ih2 _ _ _ _)
   | (with_reducible exact quorumref4_Bytes.mono _ _ _)
   | (with_reducible exact LeO.refl _)
   | (with_reducible exact LeO.none _)
   | (with_reducible refine LeO.ite ?_ ?_)
   | (with_reducible refine LeO.bind ?_ (fun _ => ?_))
   | exact ih0 _ _ _
   | exact ih1 _ _ _
   | exact ih2 _ _ _ _
   | exact quorumref4_Bytes.mono _ _ _
   | exact LeO.none _
   | refine LeO.ite ?_ ?_
   | refine LeO.bind ?_ (fun _ => ?_)
  ·intro y0 y1 y2 y3
   unfold quorumref4_Page.j2
   repeat' first
   | (with_reducible exact ih0 _ _ _)
   | (with_reducible exact ih1 _ _ _)
   | (with_reducible exact ih2 _ _ _ _)
   | (with_reducible exact quorumref4_Bytes.mono _ _ _)
   | (with_reducible exact LeO.refl _)
   | (with_reducible exact LeO.none _)
   | (with_reducible refine LeO.ite ?_ ?_)
   | (with_reducible refine LeO.bind ?_ (fun _ => ?_))
   | exact ih0 _ _ _
   | exact ih1 _ _ _
   | exact ih2 _ _ _ _
   | exact quorumref4_Bytes.mono _ _ _
   | exact LeO.none _
   | refine LeO.ite ?_ ?_
   | refine LeO.bind ?_ (fun _ => ?_)
theorem quorumref4_Page.mono : ∀ a0 a1 k, LeO (quorumref4_Page.f k a0 a1) (quorumref4_Page.f (k + 1) a0 a1) := by
 intro a0 a1 k
 obtain ⟨ih0, ih1, ih2⟩ := quorumref4_Page.mono_l k
 unfold quorumref4_Page.f
 repeat' first
   | (with_reducible exact ih0 _ _ _)
   | (with_reducible exact ih1 _ _ _)
   | (with_reducible exact ih2 _ _ _ _)
   | (with_reducible exact quorumref4_Bytes.mono _ _ _)
   | (with_reducible exact LeO.refl _)
   | (with_reducible exact LeO.none _)
   | (with_reducible refine LeO.ite ?_ ?_)
   | (with_reducible refine LeO.bind ?_ (fun _ => ?_))
   | exact ih0 _ _ _
   | exact ih1 _ _ _
   | exact ih2 _ _ _ _
   | exact quorumref4_Bytes.mono _ _ _
   | exact LeO.none _
   | refine LeO.ite ?_ ?_
   | refine LeO.bind ?_ (fun _ => ?_)
def quorumref4_Page.T6 : Bool × List (List Nat × List Nat) := (true, [([], []), ([0], [0]), ([], []), ([1, 2], [1, 2]), ([3], [3]), ([], []), ([5], [5]), ([6], [6]), ([7], [7]), ([4, 8], [4, 8]), ([9], [9]), ([10, 9], [10]), ([11], [11]), ([12, 11], [11, 12]), ([13, 11, 11], [11, 13]), ([14], [14]), ([15, 14], [14, 15]), ([14], [14]), ([17, 14], [14, 17]), ([16, 18, 14], [14, 16, 18]), ([19, 14], [14, 19]), ([14], [14]), ([21, 14], [14, 21]), ([14], [14]), ([22, 23, 14], [14, 22, 23]), ([24, 14], [14, 24]), ([20, 25, 14], [14, 20, 25]), ([14, 26, 11], [11, 14, 26]), ([11, 27], [11, 27]), ([28, 14], [28]), ([29], [29]), ([30, 29], [29, 30]), ([29], [29]), ([32, 29], [29, 32]), ([29], [29]), ([33, 34, 29], [29, 33, 34]), ([35, 29], [29, 35]), ([31, 36, 29], [29, 31, 36]), ([37, 29], [29, 37]), ([38, 29], [29, 38]), ([29, 39], [29, 39])])
def quorumref4_Page.B6 : List Nat := [0, 1, 0, 7, 15, 0, 32, 96, 224, 511, 1023, 2047, 4095, 8191, 16383, 32767, 65535, 32767, 163839, 524287, 1048575, 32767, 2129919, 32767, 14712831, 31490047, 67108863, 134217727, 268435455, 536870911, 1073741823, 2147483647, 1073741823, 5368709119, 1073741823, 31138512895, 65498251263, 137438953471, 274877906943, 549755813887, 1099511627775]
theorem quorumref4_Page.tab6 : rtab .any (opsOf Try.f40 6) = quorumref4_Page.T6 := by kernel_rfl
theorem quorumref4_Page.bits6 : waitsOk quorumref4_Page.T6.2 quorumref4_Page.B6 = true := by kernel_rfl
set_option maxHeartbeats 8000000 in
set_option maxRecDepth 100000 in
theorem quorumref4_Page.calls (k : Nat) (A0_0 : Option Addr) (c0_0 : Nat) (l0_0 : List ByteArray) (A0_1 : Option Addr) (c0_1 : Nat) (l0_1 : List Int) (r : Bool) (w : World) (hr0_0 : Kd.C Kd.string w A0_0 l0_0.length l0_0) (hc0_0 : l0_0.length ≤ c0_0) (hr0_1 : Kd.C (Kd.int .i64) w A0_1 l0_1.length l0_1) (hc0_1 : l0_1.length ≤ c0_1) (h : quorumref4_Page.f k l0_0 l0_1 = some r) :
  Calls Try.prog 40 #[.agg #[.slice A0_0 l0_0.length c0_0, .slice A0_1 l0_1.length c0_1]] w fun e w' => e = .returned (.bool r) ∧ Below w.heap.size w w' := by
 have hu56 := Try.underlying56
 have HR0_0 := mk0 hr0_0
 have HC0_0 := mk0 hc0_0
 clear hr0_0 hc0_0
 have HR0_1 := mk0 hr0_1
 have HC0_1 := mk0 hc0_1
 clear hr0_1 hc0_1
 have HB := mk0 (Below.refl w.heap.size w)
 have H : (if (l0_0.length : Int) > 16 then (quorumref4_Page.j0 k true l0_0 l0_1) else ((quorumref4_Bytes.f k l0_0 l0_1).bind fun t233 => (quorumref4_Page.j0 k (decide (t233 > 200)) l0_0 l0_1))) = some r := h
 clear h
 have HC2 := mk0 H
 clear H
 go_enter Try.func40, Try.ntmps40
 go_upto_region 1 with (first | ((with_reducible refine gate_dst (N := 1) rfl ?_); refine bx_ (N := 1) (cs := #[.slice A0_0 l0_0.length c0_0, .slice A0_1 l0_1.length c0_1]) (t := 56) (h := ?_); intro gb232 hg w3 hbox hb; have n2_ := mk0 (gz_ HB hg); have n3_ := mk0 (gz_ HB hg); replace HB := mk0 (bt_ (b_ HB) hb); have BK232 := mk0 (hbox); have GW232 := n2_; have GE232 := n3_; clear n2_ n3_; clear hb hbox hg))
 (try simp only [Act.put, List.setIfInBounds_toArray, List.set_cons_zero, List.set_cons_succ])
 go_cut [12] (fun v12 wc => ∃ (kq : Nat) (x12_1 : Bool), v12 = .bool x12_1 ∧ Fc (quorumref4_Page.j0 kq x12_1 l0_0 l0_1 = some r) ∧ Fc (kq ≤ k) ∧ Fc (wc.heap[gb232]? = some (.cells #[(.slice A0_0 l0_0.length c0_0), (.slice A0_1 l0_1.length c0_1)] 56 (0, 0))) ∧ Fc (Below w.heap.size w wc))
 case first =>
  have H := HC2.out
  clear HC2
  by_cases c4 : (l0_0.length : Int) > 16
  ·rw [if_pos c4] at H
   have c4b0 : decide (16 < (l0_0.length : Int)) = true := decide_eq_true c4
   have c4b1 : decide (16 < l0_0.length) = true := decide_eq_true (by omega)
   clear c4
   (first | rw [c4b0] | (simp only [i64_w, i32_w]; rw [c4b0]) | skip)
   have H' := mk0 H
   clear H
   obtain ⟨hcz5_0, hcz5_1, hfz5_0, hfz5_1⟩ := c2_ BK232
   go_wp2
   go_meet
   case rel => exact ⟨_, (true), (by first | rfl | (simp; done) | (simp [*]; done)), H', ⟨by first | omega | exact Nat.le_refl _⟩, ⟨h_ BK232⟩, ⟨b_ HB⟩⟩
  ·rw [if_neg c4] at H
   have c4b0 : decide (16 < (l0_0.length : Int)) = false := decide_eq_false c4
   have c4b1 : decide (16 < l0_0.length) = false := decide_eq_false (by omega)
   clear c4
   (first | rw [c4b0] | (simp only [i64_w, i32_w]; rw [c4b0]) | skip)
   replace H := Option.bind_eq_some_iff.mp H
   obtain ⟨t233, A60, H⟩ := H
   try dsimp only at H
   have A6 := mk0 A60
   clear A60
   have H' := mk0 H
   clear H
   obtain ⟨hcz7_0, hcz7_1, hfz7_0, hfz7_1⟩ := c2_ BK232
   go_wp2_with (first | (go_at_call 77; (with_reducible refine (quorumref4_Bytes.calls k _ _ l0_0 _ _ l0_1 t233 _ ?side1 ?side2 ?side3 ?side4 A6.out).mono ?_); (case side1 => exact cb_ HR0_0 HB); (case side2 => exact HC0_0.out); (case side3 => exact cb_ HR0_1 HB); (case side4 => exact HC0_1.out); rintro e w8 ⟨rfl, hb⟩; replace BK232 := mk0 (u_ BK232 hb); replace HB := mk0 (bt_ (b_ HB) hb); (try clear hb)))
   go_meet
   case rel => exact ⟨_, (decide (t233 > 200)), (by first | rfl | (simp; done) | (simp [*]; done)), H', ⟨by first | omega | exact Nat.le_refl _⟩, ⟨h_ BK232⟩, ⟨b_ HB⟩⟩
 case rest =>
  clear HC2
  try clear c4
  try clear c4b0
  try clear c4b1
  try clear hcz5_0
  try clear hcz5_1
  try clear hcz7_0
  try clear hcz7_1
  try clear hfz5_0
  try clear hfz5_1
  try clear hfz7_0
  try clear hfz7_1
  obtain ⟨kq, x12_1, rfl, HA, HJ1, BK232, HB⟩ := hcut
  cases kq with
  | zero => exact absurd HA.out (by simp [quorumref4_Page.j0])
  | succ kj1 =>
   have H := HA.out
   clear HA
   simp only [quorumref4_Page.j0] at H
   as_aux_lemma =>
    by_cases c9 : x12_1 = true
    ·subst c9
     rw [if_pos rfl] at H
     obtain rfl := Option.some.inj H
     go_wp2
     go_ret
     exact ⟨by first | rfl | (simp [errW_none, errW_some] <;> rfl) | (simp [*, errW_none, errW_some] <;> rfl), b_ HB⟩
    ·replace c9 := Bool.eq_false_iff.mpr c9
     subst c9
     rw [if_neg (show ¬ (false = true) by decide)] at H
     have H' := mk0 H
     clear H
     go_wp2
     go_loopg [3] kj1 (fun kq v3 w' => ∃ (x3_2 : Int), v3 = .int .i64 x3_2 ∧ Fc (quorumref4_Page.l0 kq x3_2 l0_0 l0_1 = some r) ∧ Fc (kq ≤ kj1) ∧ Fc (w'.heap[gb232]? = some (.cells #[(.slice A0_0 l0_0.length c0_0), (.slice A0_1 l0_1.length c0_1)] 56 (0, 0))) ∧ Fc (Below w.heap.size w w'))
     case atStart => exact ⟨(0), (by first | rfl | (simp; done) | (simp [*]; done)), H', ⟨Nat.le_refl _⟩, ⟨h_ BK232⟩, ⟨b_ HB⟩⟩
     case round =>
      clear H'
      try clear c4
      try clear c4b0
      try clear c4b1
      try clear c9
      try clear hcz5_0
      try clear hcz5_1
      try clear hcz7_0
      try clear hcz7_1
      try clear hfz5_0
      try clear hfz5_1
      try clear hfz7_0
      try clear hfz7_1
      obtain ⟨x3_2, rfl, HA, HK2, BK232, HB⟩ := hrel
      cases gk with
      | zero => exact absurd HA.out (by simp [quorumref4_Page.l0])
      | succ k2 =>
       have H := HA.out
       clear HA
       simp only [quorumref4_Page.l0] at H
       as_aux_lemma =>
        by_cases c10 : x3_2 < (l0_1.length : Int)
        ·rw [if_pos c10] at H
         have c10b0 : decide (x3_2 < (l0_1.length : Int)) = true := decide_eq_true c10
         clear c10
         have HC11 := mk0 H
         clear H
         obtain ⟨hcz12_0, hcz12_1, hfz12_0, hfz12_1⟩ := c2_ BK232
         go_upto_region 6 with (fail)
         go_cut [60] (fun v60 wc => ∃ (kq : Nat) (x60_10 : Bool), v60 = .bool x60_10 ∧ Fc (quorumref4_Page.j2 kq x3_2 x60_10 l0_0 l0_1 = some r) ∧ Fc (kq ≤ k2) ∧ Fc (wc.heap[gb232]? = some (.cells #[(.slice A0_0 l0_0.length c0_0), (.slice A0_1 l0_1.length c0_1)] 56 (0, 0))) ∧ Fc (Below w.heap.size w wc))
         case first =>
          have H := HC11.out
          clear HC11
          by_cases c13 : 0 ≤ x3_2
          ·rw [if_pos c13] at H
           have c13b0 : decide (0 ≤ x3_2) = true := decide_eq_true c13
           clear c13
           (first | rw [c13b0] | (simp only [i64_w, i32_w]; rw [c13b0]) | skip)
           replace H := Option.bind_eq_some_iff.mp H
           obtain ⟨t235, A140, H⟩ := H
           try dsimp only at H
           have A14 := mk0 A140
           clear A140
           by_cases c15 : t235 = true
           ·subst c15
            rw [if_pos rfl] at H
            by_cases c16 : x3_2 > 0
            ·rw [if_pos c16] at H
             have c16b0 : decide (0 < x3_2) = true := decide_eq_true c16
             clear c16
             obtain ⟨ji17, hji17⟩ : ∃ j_ : Int, (wrap64 (x3_2 - 1)) = j_ := ⟨_, rfl⟩
             replace H : (if 0 ≤ (ji17) then (if (ji17) < (l0_1.length : Int) then (if (rd l0_1 (ji17)) ≥ (rd l0_1 x3_2) then (quorumref4_Page.j2 k2 x3_2 true l0_0 l0_1) else (if 0 ≤ (rd l0_1 x3_2) then (if (rd l0_1 x3_2) < (l0_0.length : Int) then (quorumref4_Page.j2 k2 x3_2 ((rdOf ByteArray.empty l0_0 (rd l0_1 x3_2)).toList != ([] : List UInt8)) l0_0 l0_1) else (none)) else (none))) else (none)) else (none)) = some r := by first | (rw [hji17] at H; exact H) | (simp only [hji17] at H ⊢; exact H)
             (try rw [hji17] at A14)
             have hji17w : (IntKind.i64.wrap (x3_2 - 1)) = ji17 := (i64_w _).trans hji17
             by_cases c18 : 0 ≤ (ji17)
             ·rw [if_pos c18] at H
              have c18b0 : decide (0 ≤ (ji17)) = true := decide_eq_true c18
              clear c18
              by_cases c19 : (ji17) < (l0_1.length : Int)
              ·rw [if_pos c19] at H
               have c19b0 : decide ((ji17) < (l0_1.length : Int)) = true := decide_eq_true c19
               clear c19
               by_cases c20 : (rd l0_1 (ji17)) ≥ (rd l0_1 x3_2)
               ·rw [if_pos c20] at H
                have c20b0 : decide ((rd l0_1 x3_2) ≤ (rd l0_1 (ji17))) = true := decide_eq_true c20
                clear c20
                have H' := mk0 H
                clear H
                try go_wp2
                replace BK232 := mk0 (bD_ BK232.out)
                replace HB := mk0 (b1_ HB.out)
                have p234 : 0 ≤ (x3_2 : Int) := of_decide_eq_true (by first | (with_reducible assumption) | assumption)
                have q234 : x3_2 < (l0_1.length : Int) := of_decide_eq_true (by first | (with_reducible assumption) | assumption)
                obtain ⟨ad234, e234, hx234_0⟩ := Kd.at_int HR0_1.out x3_2 p234 q234
                have hw234_0 := hx234_0
                cases e234
                replace hx234_0 := (HB.out.cell (World.block_lt_of_cell? w _ hx234_0)).trans hx234_0
                replace p234 := eq_true p234
                replace q234 := eq_true q234
                have p236 : 0 ≤ ((ji17) : Int) := of_decide_eq_true (by first | (with_reducible assumption) | assumption)
                have q236 : (ji17) < (l0_1.length : Int) := of_decide_eq_true (by first | (with_reducible assumption) | assumption)
                obtain ⟨ad236, e236, hx236_0⟩ := Kd.at_int HR0_1.out (ji17) p236 q236
                have hw236_0 := hx236_0
                obtain rfl : ad234 = ad236 := (by injection e236)
                replace hx236_0 := (HB.out.cell (World.block_lt_of_cell? w _ hx236_0)).trans hx236_0
                replace p236 := eq_true p236
                replace q236 := eq_true q236
                have p237 : 0 ≤ (x3_2 : Int) := of_decide_eq_true (by first | (with_reducible assumption) | assumption)
                have q237 : x3_2 < (l0_1.length : Int) := of_decide_eq_true (by first | (with_reducible assumption) | assumption)
                obtain ⟨ad237, e237, hx237_0⟩ := Kd.at_int HR0_1.out x3_2 p237 q237
                have hw237_0 := hx237_0
                obtain rfl : ad234 = ad237 := (by injection e237)
                replace hx237_0 := (HB.out.cell (World.block_lt_of_cell? w _ hx237_0)).trans hx237_0
                replace p237 := eq_true p237
                replace q237 := eq_true q237
                refine start_ (n := 41) (S := fun w' => w'.cell? ⟨gb232, 0, none⟩ = some (.slice A0_0 l0_0.length c0_0) ∧ w'.cell? ⟨gb232, 1, none⟩ = some (.slice (some ad234) l0_1.length c0_1) ∧ w'.cell? (ad234.add (x3_2).toNat) = some (.int .i64 (rd l0_1 x3_2)) ∧ w'.cell? (ad234.add ((ji17)).toNat) = some (.int .i64 (rd l0_1 (ji17))) ∧ w'.cell? (ad234.add (x3_2).toNat) = some (.int .i64 (rd l0_1 x3_2))) (ds := []) (bt 41 0) (by kernel_rfl) rfl rfl ⟨(blk_cell BK232.out 0).trans rfl, (blk_cell BK232.out 1).trans rfl, ((HB.out.cell (World.block_lt_of_cell? w _ hw234_0)).trans hw234_0), ((HB.out.cell (World.block_lt_of_cell? w _ hw236_0)).trans hw236_0), ((HB.out.cell (World.block_lt_of_cell? w _ hw237_0)).trans hw237_0)⟩ (fun hHeld => ?_); refine with_tabW quorumref4_Page.tab6 quorumref4_Page.bits6 (fun HT_ HW_ => ?_)
                generalize wr.drew = w21 at BK232 HB hx234_0 hx236_0 hx237_0 hHeld ⊢
                refine pq_ HT_.out 0 20 (bt 41 1) (h := ?_)
                refine pq_ HT_.out 2 22 (bt 41 5) (h := ?_)
                refine pq_ HT_.out 5 25 (bt 41 37) (h := ?_)
                refine tq5_ HT_.out HW_.out 1 21 (bt 41 39) hHeld (h := ?_)
                refine pq_ HT_.out 3 23 (bt 41 47) (h := ?_)
                refine tq5_ HT_.out HW_.out 4 24 (bt 41 63) hHeld (h := ?_)
                refine tq5_ HT_.out HW_.out 6 26 (bt 41 127) hHeld (h := ?_)
                refine pq_ HT_.out 7 27 (bt 41 255) (h := ?_)
                refine pq_ HT_.out 8 28 (bt 41 511) (h := ?_)
                refine one_ (i := 9) (N := some 29) (bt 41 1023) rfl rfl (one_of HT_.out (by kernel_rfl)) (by decide) (fun K hK => ?_)
                refine goes_ Try.func37 (by kernel_rfl) rfl #[.int .i64 (rd l0_1 x3_2), .int .i64 (wrap64 ((l0_0.length : Int) - 2))] (by rfl) rfl rfl (by (try simp only [List.map_toArray, List.map_cons, List.map_nil]); first | done | rfl | (simp only [List.length_drop, List.length_take]; rfl)) ?_
                with_reducible refine (quorumref0_Num.calls (rd l0_1 x3_2) (wrap64 ((l0_0.length : Int) - 2)) true _ A14.out).mono ?_
                rintro e w' ⟨rfl, ⟨nd, rfl⟩⟩
                refine ⟨_, rfl, ?_⟩
                refine hK.out _ _ ⟨(blk_cell BK232.out 0).trans rfl, (blk_cell BK232.out 1).trans rfl, ((HB.out.cell (World.block_lt_of_cell? w _ hw234_0)).trans hw234_0), ((HB.out.cell (World.block_lt_of_cell? w _ hw236_0)).trans hw236_0), ((HB.out.cell (World.block_lt_of_cell? w _ hw237_0)).trans hw237_0)⟩ (fun hHeld => ?_)
                clear hK K
                refine norm_ (a' := ?_) ?_ ?_
                rotate_left
                ·show Act.put _ (some 29) _ = _
                 simp only [z_]
                 rfl
                refine pq_ HT_.out 10 30 (bt 41 2047) (h := ?_)
                refine pq_ HT_.out 11 31 (bt 41 4095) (h := ?_)
                refine pq_ HT_.out 12 32 (bt 41 8191) (h := ?_)
                refine pq_ HT_.out 13 33 (bt 41 16383) (h := ?_)
                refine pq_ HT_.out 14 34 (bt 41 32767) (h := ?_)
                refine pq_ HT_.out 15 35 (bt 41 65535) (h := ?_)
                refine pq_ HT_.out 17 37 (bt 41 196607) (h := ?_)
                refine pq_ HT_.out 18 38 (bt 41 458751) (h := ?_)
                refine pq_ HT_.out 21 41 (bt 41 2555903) (h := ?_)
                refine pq_ HT_.out 23 43 (bt 41 10944511) (h := ?_)
                refine tq5_ HT_.out HW_.out 16 36 (bt 41 11010047) hHeld (h := ?_)
                refine pq_ HT_.out 19 39 (bt 41 11534335) (h := ?_)
                refine tq5_ HT_.out HW_.out 20 40 (bt 41 12582911) hHeld (h := ?_)
                refine tq5_ HT_.out HW_.out 22 42 (bt 41 16777215) hHeld (h := ?_)
                refine pq_ HT_.out 24 44 (bt 41 33554431) (h := ?_)
                refine tq5_ HT_.out HW_.out 25 45 (bt 41 67108863) hHeld (h := ?_)
                refine pq_ HT_.out 26 46 (bt 41 134217727) (h := ?_)
                refine pq_ HT_.out 27 47 (bt 41 268435455) (h := ?_)
                refine pq_ HT_.out 28 48 (bt 41 536870911) (h := ?_)
                refine pq_ HT_.out 29 49 (bt 41 1073741823) (h := ?_)
                refine uq_ HT_.out 30 50 (bt 41 2147483647) (h := ?_)
                refine uq_ HT_.out 31 51 (bt 41 4294967295) (h := ?_)
                refine uq_ HT_.out 32 52 (bt 41 8589934591) (h := ?_)
                refine uq_ HT_.out 33 53 (bt 41 17179869183) (h := ?_)
                refine uq_ HT_.out 34 54 (bt 41 34359738367) (h := ?_)
                refine uq_ HT_.out 35 55 (bt 41 68719476735) (h := ?_)
                refine uq_ HT_.out 36 56 (bt 41 137438953471) (h := ?_)
                refine uq_ HT_.out 37 57 (bt 41 274877906943) (h := ?_)
                refine uq_ HT_.out 38 58 (bt 41 549755813887) (h := ?_)
                refine uq_ HT_.out 39 59 (bt 41 1099511627775) (h := ?_)
                refine pq_ HT_.out 40 60 (bt 41 2199023255551) (h := ?_)
                refine done_ (done_of HT_.out (by kernel_rfl)) ?_
                try go_wp2
                go_meet
                case rel => exact ⟨_, (true), (by first | rfl | (simp; done) | (simp [*]; done)), H', ⟨by have := HJ1.out; have := HK2.out; first | omega | exact Nat.le_refl _⟩, ⟨h_ BK232⟩, ⟨b_ HB⟩⟩
               ·rw [if_neg c20] at H
                have c20b0 : decide ((rd l0_1 x3_2) ≤ (rd l0_1 (ji17))) = false := decide_eq_false c20
                clear c20
                by_cases c22 : 0 ≤ (rd l0_1 x3_2)
                ·rw [if_pos c22] at H
                 have c22b0 : decide (0 ≤ (rd l0_1 x3_2)) = true := decide_eq_true c22
                 clear c22
                 by_cases c23 : (rd l0_1 x3_2) < (l0_0.length : Int)
                 ·rw [if_pos c23] at H
                  have c23b0 : decide ((rd l0_1 x3_2) < (l0_0.length : Int)) = true := decide_eq_true c23
                  clear c23
                  have H' := mk0 H
                  clear H
                  try go_wp2
                  replace BK232 := mk0 (bD_ BK232.out)
                  replace HB := mk0 (b1_ HB.out)
                  have p234 : 0 ≤ (x3_2 : Int) := of_decide_eq_true (by first | (with_reducible assumption) | assumption)
                  have q234 : x3_2 < (l0_1.length : Int) := of_decide_eq_true (by first | (with_reducible assumption) | assumption)
                  obtain ⟨ad234, e234, hx234_0⟩ := Kd.at_int HR0_1.out x3_2 p234 q234
                  have hw234_0 := hx234_0
                  cases e234
                  replace hx234_0 := (HB.out.cell (World.block_lt_of_cell? w _ hx234_0)).trans hx234_0
                  replace p234 := eq_true p234
                  replace q234 := eq_true q234
                  have p236 : 0 ≤ ((ji17) : Int) := of_decide_eq_true (by first | (with_reducible assumption) | assumption)
                  have q236 : (ji17) < (l0_1.length : Int) := of_decide_eq_true (by first | (with_reducible assumption) | assumption)
                  obtain ⟨ad236, e236, hx236_0⟩ := Kd.at_int HR0_1.out (ji17) p236 q236
                  have hw236_0 := hx236_0
                  obtain rfl : ad234 = ad236 := (by injection e236)
                  replace hx236_0 := (HB.out.cell (World.block_lt_of_cell? w _ hx236_0)).trans hx236_0
                  replace p236 := eq_true p236
                  replace q236 := eq_true q236
                  have p237 : 0 ≤ (x3_2 : Int) := of_decide_eq_true (by first | (with_reducible assumption) | assumption)
                  have q237 : x3_2 < (l0_1.length : Int) := of_decide_eq_true (by first | (with_reducible assumption) | assumption)
                  obtain ⟨ad237, e237, hx237_0⟩ := Kd.at_int HR0_1.out x3_2 p237 q237
                  have hw237_0 := hx237_0
                  obtain rfl : ad234 = ad237 := (by injection e237)
                  replace hx237_0 := (HB.out.cell (World.block_lt_of_cell? w _ hx237_0)).trans hx237_0
                  replace p237 := eq_true p237
                  replace q237 := eq_true q237
                  have p238 : 0 ≤ (x3_2 : Int) := of_decide_eq_true (by first | (with_reducible assumption) | assumption)
                  have q238 : x3_2 < (l0_1.length : Int) := of_decide_eq_true (by first | (with_reducible assumption) | assumption)
                  obtain ⟨ad238, e238, hx238_0⟩ := Kd.at_int HR0_1.out x3_2 p238 q238
                  have hw238_0 := hx238_0
                  obtain rfl : ad234 = ad238 := (by injection e238)
                  replace hx238_0 := (HB.out.cell (World.block_lt_of_cell? w _ hx238_0)).trans hx238_0
                  replace p238 := eq_true p238
                  replace q238 := eq_true q238
                  have p239 : 0 ≤ ((rd l0_1 x3_2) : Int) := of_decide_eq_true (by first | (with_reducible assumption) | assumption)
                  have q239 : (rd l0_1 x3_2) < (l0_0.length : Int) := of_decide_eq_true (by first | (with_reducible assumption) | assumption)
                  obtain ⟨ad239, e239, hx239_0⟩ := Kd.at_string HR0_0.out (rd l0_1 x3_2) p239 q239
                  have hw239_0 := hx239_0
                  cases e239
                  replace hx239_0 := (HB.out.cell (World.block_lt_of_cell? w _ hx239_0)).trans hx239_0
                  replace p239 := eq_true p239
                  replace q239 := eq_true q239
                  refine start_ (n := 41) (S := fun w' => w'.cell? ⟨gb232, 0, none⟩ = some (.slice (some ad239) l0_0.length c0_0) ∧ w'.cell? ⟨gb232, 1, none⟩ = some (.slice (some ad234) l0_1.length c0_1) ∧ w'.cell? (ad234.add (x3_2).toNat) = some (.int .i64 (rd l0_1 x3_2)) ∧ w'.cell? (ad234.add ((ji17)).toNat) = some (.int .i64 (rd l0_1 (ji17))) ∧ w'.cell? (ad234.add (x3_2).toNat) = some (.int .i64 (rd l0_1 x3_2)) ∧ w'.cell? (ad234.add (x3_2).toNat) = some (.int .i64 (rd l0_1 x3_2)) ∧ w'.cell? (ad239.add ((rd l0_1 x3_2)).toNat) = some (.string (rdOf ByteArray.empty l0_0 (rd l0_1 x3_2)))) (ds := []) (bt 41 0) (by kernel_rfl) rfl rfl ⟨(blk_cell BK232.out 0).trans rfl, (blk_cell BK232.out 1).trans rfl, ((HB.out.cell (World.block_lt_of_cell? w _ hw234_0)).trans hw234_0), ((HB.out.cell (World.block_lt_of_cell? w _ hw236_0)).trans hw236_0), ((HB.out.cell (World.block_lt_of_cell? w _ hw237_0)).trans hw237_0), ((HB.out.cell (World.block_lt_of_cell? w _ hw238_0)).trans hw238_0), ((HB.out.cell (World.block_lt_of_cell? w _ hw239_0)).trans hw239_0)⟩ (fun hHeld => ?_); refine with_tabW quorumref4_Page.tab6 quorumref4_Page.bits6 (fun HT_ HW_ => ?_)
                  generalize wr.drew = w24 at BK232 HB hx234_0 hx236_0 hx237_0 hx238_0 hx239_0 hHeld ⊢
                  refine pq_ HT_.out 0 20 (bt 41 1) (h := ?_)
                  refine pq_ HT_.out 2 22 (bt 41 5) (h := ?_)
                  refine pq_ HT_.out 5 25 (bt 41 37) (h := ?_)
                  refine tq7_ HT_.out HW_.out 1 21 (bt 41 39) hHeld (h := ?_)
                  refine pq_ HT_.out 3 23 (bt 41 47) (h := ?_)
                  refine tq7_ HT_.out HW_.out 4 24 (bt 41 63) hHeld (h := ?_)
                  refine tq7_ HT_.out HW_.out 6 26 (bt 41 127) hHeld (h := ?_)
                  refine pq_ HT_.out 7 27 (bt 41 255) (h := ?_)
                  refine pq_ HT_.out 8 28 (bt 41 511) (h := ?_)
                  refine one_ (i := 9) (N := some 29) (bt 41 1023) rfl rfl (one_of HT_.out (by kernel_rfl)) (by decide) (fun K hK => ?_)
                  refine goes_ Try.func37 (by kernel_rfl) rfl #[.int .i64 (rd l0_1 x3_2), .int .i64 (wrap64 ((l0_0.length : Int) - 2))] (by rfl) rfl rfl (by (try simp only [List.map_toArray, List.map_cons, List.map_nil]); first | done | rfl | (simp only [List.length_drop, List.length_take]; rfl)) ?_
                  with_reducible refine (quorumref0_Num.calls (rd l0_1 x3_2) (wrap64 ((l0_0.length : Int) - 2)) true _ A14.out).mono ?_
                  rintro e w' ⟨rfl, ⟨nd, rfl⟩⟩
                  refine ⟨_, rfl, ?_⟩
                  refine hK.out _ _ ⟨(blk_cell BK232.out 0).trans rfl, (blk_cell BK232.out 1).trans rfl, ((HB.out.cell (World.block_lt_of_cell? w _ hw234_0)).trans hw234_0), ((HB.out.cell (World.block_lt_of_cell? w _ hw236_0)).trans hw236_0), ((HB.out.cell (World.block_lt_of_cell? w _ hw237_0)).trans hw237_0), ((HB.out.cell (World.block_lt_of_cell? w _ hw238_0)).trans hw238_0), ((HB.out.cell (World.block_lt_of_cell? w _ hw239_0)).trans hw239_0)⟩ (fun hHeld => ?_)
                  clear hK K
                  refine norm_ (a' := ?_) ?_ ?_
                  rotate_left
                  ·show Act.put _ (some 29) _ = _
                   simp only [z_]
                   rfl
                  refine pq_ HT_.out 10 30 (bt 41 2047) (h := ?_)
                  refine pq_ HT_.out 11 31 (bt 41 4095) (h := ?_)
                  refine pq_ HT_.out 12 32 (bt 41 8191) (h := ?_)
                  refine pq_ HT_.out 13 33 (bt 41 16383) (h := ?_)
                  refine pq_ HT_.out 14 34 (bt 41 32767) (h := ?_)
                  refine pq_ HT_.out 15 35 (bt 41 65535) (h := ?_)
                  refine pq_ HT_.out 17 37 (bt 41 196607) (h := ?_)
                  refine pq_ HT_.out 18 38 (bt 41 458751) (h := ?_)
                  refine pq_ HT_.out 21 41 (bt 41 2555903) (h := ?_)
                  refine pq_ HT_.out 23 43 (bt 41 10944511) (h := ?_)
                  refine tq7_ HT_.out HW_.out 16 36 (bt 41 11010047) hHeld (h := ?_)
                  refine pq_ HT_.out 19 39 (bt 41 11534335) (h := ?_)
                  refine tq7_ HT_.out HW_.out 20 40 (bt 41 12582911) hHeld (h := ?_)
                  refine tq7_ HT_.out HW_.out 22 42 (bt 41 16777215) hHeld (h := ?_)
                  refine pq_ HT_.out 24 44 (bt 41 33554431) (h := ?_)
                  refine tq7_ HT_.out HW_.out 25 45 (bt 41 67108863) hHeld (h := ?_)
                  refine pq_ HT_.out 26 46 (bt 41 134217727) (h := ?_)
                  refine pq_ HT_.out 27 47 (bt 41 268435455) (h := ?_)
                  refine pq_ HT_.out 28 48 (bt 41 536870911) (h := ?_)
                  refine pq_ HT_.out 29 49 (bt 41 1073741823) (h := ?_)
                  refine pq_ HT_.out 30 50 (bt 41 2147483647) (h := ?_)
                  refine pq_ HT_.out 32 52 (bt 41 6442450943) (h := ?_)
                  refine pq_ HT_.out 34 54 (bt 41 23622320127) (h := ?_)
                  refine tq7_ HT_.out HW_.out 31 51 (bt 41 25769803775) hHeld (h := ?_)
                  refine tq7_ HT_.out HW_.out 33 53 (bt 41 34359738367) hHeld (h := ?_)
                  refine pq_ HT_.out 35 55 (bt 41 68719476735) (h := ?_)
                  refine tq7_ HT_.out HW_.out 36 56 (bt 41 137438953471) hHeld (h := ?_)
                  refine pq_ HT_.out 37 57 (bt 41 274877906943) (h := ?_)
                  refine tq7_ HT_.out HW_.out 38 58 (bt 41 549755813887) hHeld (h := ?_)
                  refine pq_ HT_.out 39 59 (bt 41 1099511627775) (h := ?_)
                  refine pq_ HT_.out 40 60 (bt 41 2199023255551) (h := ?_)
                  refine done_ (done_of HT_.out (by kernel_rfl)) ?_
                  try go_wp2
                  go_meet
                  case rel => exact ⟨_, (((rdOf ByteArray.empty l0_0 (rd l0_1 x3_2)).toList != ([] : List UInt8))), (by first | rfl | (simp; done) | (simp [*]; done) | (simp [bne]; done)), H', ⟨by have := HJ1.out; have := HK2.out; first | omega | exact Nat.le_refl _⟩, ⟨h_ BK232⟩, ⟨b_ HB⟩⟩
                 ·rw [if_neg c23] at H
                  exact absurd H (by simp)
                ·rw [if_neg c22] at H
                 exact absurd H (by simp)
              ·rw [if_neg c19] at H
               exact absurd H (by simp)
             ·rw [if_neg c18] at H
              exact absurd H (by simp)
            ·rw [if_neg c16] at H
             have c16b0 : decide (0 < x3_2) = false := decide_eq_false c16
             clear c16
             by_cases c25 : 0 ≤ (rd l0_1 x3_2)
             ·rw [if_pos c25] at H
              have c25b0 : decide (0 ≤ (rd l0_1 x3_2)) = true := decide_eq_true c25
              clear c25
              by_cases c26 : (rd l0_1 x3_2) < (l0_0.length : Int)
              ·rw [if_pos c26] at H
               have c26b0 : decide ((rd l0_1 x3_2) < (l0_0.length : Int)) = true := decide_eq_true c26
               clear c26
               have H' := mk0 H
               clear H
               try go_wp2
               replace BK232 := mk0 (bD_ BK232.out)
               replace HB := mk0 (b1_ HB.out)
               have p234 : 0 ≤ (x3_2 : Int) := of_decide_eq_true (by first | (with_reducible assumption) | assumption)
               have q234 : x3_2 < (l0_1.length : Int) := of_decide_eq_true (by first | (with_reducible assumption) | assumption)
               obtain ⟨ad234, e234, hx234_0⟩ := Kd.at_int HR0_1.out x3_2 p234 q234
               have hw234_0 := hx234_0
               cases e234
               replace hx234_0 := (HB.out.cell (World.block_lt_of_cell? w _ hx234_0)).trans hx234_0
               replace p234 := eq_true p234
               replace q234 := eq_true q234
               have p240 : 0 ≤ (x3_2 : Int) := of_decide_eq_true (by first | (with_reducible assumption) | assumption)
               have q240 : x3_2 < (l0_1.length : Int) := of_decide_eq_true (by first | (with_reducible assumption) | assumption)
               obtain ⟨ad240, e240, hx240_0⟩ := Kd.at_int HR0_1.out x3_2 p240 q240
               have hw240_0 := hx240_0
               obtain rfl : ad234 = ad240 := (by injection e240)
               replace hx240_0 := (HB.out.cell (World.block_lt_of_cell? w _ hx240_0)).trans hx240_0
               replace p240 := eq_true p240
               replace q240 := eq_true q240
               have p241 : 0 ≤ ((rd l0_1 x3_2) : Int) := of_decide_eq_true (by first | (with_reducible assumption) | assumption)
               have q241 : (rd l0_1 x3_2) < (l0_0.length : Int) := of_decide_eq_true (by first | (with_reducible assumption) | assumption)
               obtain ⟨ad241, e241, hx241_0⟩ := Kd.at_string HR0_0.out (rd l0_1 x3_2) p241 q241
               have hw241_0 := hx241_0
               cases e241
               replace hx241_0 := (HB.out.cell (World.block_lt_of_cell? w _ hx241_0)).trans hx241_0
               replace p241 := eq_true p241
               replace q241 := eq_true q241
               refine start_ (n := 41) (S := fun w' => w'.cell? ⟨gb232, 0, none⟩ = some (.slice (some ad241) l0_0.length c0_0) ∧ w'.cell? ⟨gb232, 1, none⟩ = some (.slice (some ad234) l0_1.length c0_1) ∧ w'.cell? (ad234.add (x3_2).toNat) = some (.int .i64 (rd l0_1 x3_2)) ∧ w'.cell? (ad234.add (x3_2).toNat) = some (.int .i64 (rd l0_1 x3_2)) ∧ w'.cell? (ad241.add ((rd l0_1 x3_2)).toNat) = some (.string (rdOf ByteArray.empty l0_0 (rd l0_1 x3_2)))) (ds := []) (bt 41 0) (by kernel_rfl) rfl rfl ⟨(blk_cell BK232.out 0).trans rfl, (blk_cell BK232.out 1).trans rfl, ((HB.out.cell (World.block_lt_of_cell? w _ hw234_0)).trans hw234_0), ((HB.out.cell (World.block_lt_of_cell? w _ hw240_0)).trans hw240_0), ((HB.out.cell (World.block_lt_of_cell? w _ hw241_0)).trans hw241_0)⟩ (fun hHeld => ?_); refine with_tabW quorumref4_Page.tab6 quorumref4_Page.bits6 (fun HT_ HW_ => ?_)
               generalize wr.drew = w27 at BK232 HB hx234_0 hx240_0 hx241_0 hHeld ⊢
               refine pq_ HT_.out 0 20 (bt 41 1) (h := ?_)
               refine pq_ HT_.out 2 22 (bt 41 5) (h := ?_)
               refine pq_ HT_.out 5 25 (bt 41 37) (h := ?_)
               refine tq5_ HT_.out HW_.out 1 21 (bt 41 39) hHeld (h := ?_)
               refine pq_ HT_.out 3 23 (bt 41 47) (h := ?_)
               refine tq5_ HT_.out HW_.out 4 24 (bt 41 63) hHeld (h := ?_)
               refine tq5_ HT_.out HW_.out 6 26 (bt 41 127) hHeld (h := ?_)
               refine pq_ HT_.out 7 27 (bt 41 255) (h := ?_)
               refine pq_ HT_.out 8 28 (bt 41 511) (h := ?_)
               refine one_ (i := 9) (N := some 29) (bt 41 1023) rfl rfl (one_of HT_.out (by kernel_rfl)) (by decide) (fun K hK => ?_)
               refine goes_ Try.func37 (by kernel_rfl) rfl #[.int .i64 (rd l0_1 x3_2), .int .i64 (wrap64 ((l0_0.length : Int) - 2))] (by rfl) rfl rfl (by (try simp only [List.map_toArray, List.map_cons, List.map_nil]); first | done | rfl | (simp only [List.length_drop, List.length_take]; rfl)) ?_
               with_reducible refine (quorumref0_Num.calls (rd l0_1 x3_2) (wrap64 ((l0_0.length : Int) - 2)) true _ A14.out).mono ?_
               rintro e w' ⟨rfl, ⟨nd, rfl⟩⟩
               refine ⟨_, rfl, ?_⟩
               refine hK.out _ _ ⟨(blk_cell BK232.out 0).trans rfl, (blk_cell BK232.out 1).trans rfl, ((HB.out.cell (World.block_lt_of_cell? w _ hw234_0)).trans hw234_0), ((HB.out.cell (World.block_lt_of_cell? w _ hw240_0)).trans hw240_0), ((HB.out.cell (World.block_lt_of_cell? w _ hw241_0)).trans hw241_0)⟩ (fun hHeld => ?_)
               clear hK K
               refine norm_ (a' := ?_) ?_ ?_
               rotate_left
               ·show Act.put _ (some 29) _ = _
                simp only [z_]
                rfl
               refine pq_ HT_.out 10 30 (bt 41 2047) (h := ?_)
               refine pq_ HT_.out 11 31 (bt 41 4095) (h := ?_)
               refine pq_ HT_.out 12 32 (bt 41 8191) (h := ?_)
               refine pq_ HT_.out 13 33 (bt 41 16383) (h := ?_)
               refine pq_ HT_.out 14 34 (bt 41 32767) (h := ?_)
               refine uq_ HT_.out 15 35 (bt 41 65535) (h := ?_)
               refine uq_ HT_.out 16 36 (bt 41 131071) (h := ?_)
               refine uq_ HT_.out 17 37 (bt 41 262143) (h := ?_)
               refine uq_ HT_.out 18 38 (bt 41 524287) (h := ?_)
               refine uq_ HT_.out 19 39 (bt 41 1048575) (h := ?_)
               refine uq_ HT_.out 20 40 (bt 41 2097151) (h := ?_)
               refine uq_ HT_.out 21 41 (bt 41 4194303) (h := ?_)
               refine uq_ HT_.out 22 42 (bt 41 8388607) (h := ?_)
               refine uq_ HT_.out 23 43 (bt 41 16777215) (h := ?_)
               refine uq_ HT_.out 24 44 (bt 41 33554431) (h := ?_)
               refine uq_ HT_.out 25 45 (bt 41 67108863) (h := ?_)
               refine uq_ HT_.out 26 46 (bt 41 134217727) (h := ?_)
               refine pq_ HT_.out 27 47 (bt 41 268435455) (h := ?_)
               refine pq_ HT_.out 28 48 (bt 41 536870911) (h := ?_)
               refine pq_ HT_.out 29 49 (bt 41 1073741823) (h := ?_)
               refine pq_ HT_.out 30 50 (bt 41 2147483647) (h := ?_)
               refine pq_ HT_.out 32 52 (bt 41 6442450943) (h := ?_)
               refine pq_ HT_.out 34 54 (bt 41 23622320127) (h := ?_)
               refine tq5_ HT_.out HW_.out 31 51 (bt 41 25769803775) hHeld (h := ?_)
               refine tq5_ HT_.out HW_.out 33 53 (bt 41 34359738367) hHeld (h := ?_)
               refine pq_ HT_.out 35 55 (bt 41 68719476735) (h := ?_)
               refine tq5_ HT_.out HW_.out 36 56 (bt 41 137438953471) hHeld (h := ?_)
               refine pq_ HT_.out 37 57 (bt 41 274877906943) (h := ?_)
               refine tq5_ HT_.out HW_.out 38 58 (bt 41 549755813887) hHeld (h := ?_)
               refine pq_ HT_.out 39 59 (bt 41 1099511627775) (h := ?_)
               refine pq_ HT_.out 40 60 (bt 41 2199023255551) (h := ?_)
               refine done_ (done_of HT_.out (by kernel_rfl)) ?_
               try go_wp2
               go_meet
               case rel => exact ⟨_, (((rdOf ByteArray.empty l0_0 (rd l0_1 x3_2)).toList != ([] : List UInt8))), (by first | rfl | (simp; done) | (simp [*]; done) | (simp [bne]; done)), H', ⟨by have := HJ1.out; have := HK2.out; first | omega | exact Nat.le_refl _⟩, ⟨h_ BK232⟩, ⟨b_ HB⟩⟩
              ·rw [if_neg c26] at H
               exact absurd H (by simp)
             ·rw [if_neg c25] at H
              exact absurd H (by simp)
           ·replace c15 := Bool.eq_false_iff.mpr c15
            subst c15
            rw [if_neg (show ¬ (false = true) by decide)] at H
            have H' := mk0 H
            clear H
            try go_wp2
            replace BK232 := mk0 (bD_ BK232.out)
            replace HB := mk0 (b1_ HB.out)
            have p234 : 0 ≤ (x3_2 : Int) := of_decide_eq_true (by first | (with_reducible assumption) | assumption)
            have q234 : x3_2 < (l0_1.length : Int) := of_decide_eq_true (by first | (with_reducible assumption) | assumption)
            obtain ⟨ad234, e234, hx234_0⟩ := Kd.at_int HR0_1.out x3_2 p234 q234
            have hw234_0 := hx234_0
            cases e234
            replace hx234_0 := (HB.out.cell (World.block_lt_of_cell? w _ hx234_0)).trans hx234_0
            replace p234 := eq_true p234
            replace q234 := eq_true q234
            refine start_ (n := 41) (S := fun w' => w'.cell? ⟨gb232, 0, none⟩ = some (.slice A0_0 l0_0.length c0_0) ∧ w'.cell? ⟨gb232, 1, none⟩ = some (.slice (some ad234) l0_1.length c0_1) ∧ w'.cell? (ad234.add (x3_2).toNat) = some (.int .i64 (rd l0_1 x3_2))) (ds := []) (bt 41 0) (by kernel_rfl) rfl rfl ⟨(blk_cell BK232.out 0).trans rfl, (blk_cell BK232.out 1).trans rfl, ((HB.out.cell (World.block_lt_of_cell? w _ hw234_0)).trans hw234_0)⟩ (fun hHeld => ?_); refine with_tabW quorumref4_Page.tab6 quorumref4_Page.bits6 (fun HT_ HW_ => ?_)
            generalize wr.drew = w28 at BK232 HB hx234_0 hHeld ⊢
            refine pq_ HT_.out 0 20 (bt 41 1) (h := ?_)
            refine pq_ HT_.out 2 22 (bt 41 5) (h := ?_)
            refine pq_ HT_.out 5 25 (bt 41 37) (h := ?_)
            refine tq3_ HT_.out HW_.out 1 21 (bt 41 39) hHeld (h := ?_)
            refine pq_ HT_.out 3 23 (bt 41 47) (h := ?_)
            refine tq3_ HT_.out HW_.out 4 24 (bt 41 63) hHeld (h := ?_)
            refine tq3_ HT_.out HW_.out 6 26 (bt 41 127) hHeld (h := ?_)
            refine pq_ HT_.out 7 27 (bt 41 255) (h := ?_)
            refine pq_ HT_.out 8 28 (bt 41 511) (h := ?_)
            refine one_ (i := 9) (N := some 29) (bt 41 1023) rfl rfl (one_of HT_.out (by kernel_rfl)) (by decide) (fun K hK => ?_)
            refine goes_ Try.func37 (by kernel_rfl) rfl #[.int .i64 (rd l0_1 x3_2), .int .i64 (wrap64 ((l0_0.length : Int) - 2))] (by rfl) rfl rfl (by (try simp only [List.map_toArray, List.map_cons, List.map_nil]); first | done | rfl | (simp only [List.length_drop, List.length_take]; rfl)) ?_
            with_reducible refine (quorumref0_Num.calls (rd l0_1 x3_2) (wrap64 ((l0_0.length : Int) - 2)) false _ A14.out).mono ?_
            rintro e w' ⟨rfl, ⟨nd, rfl⟩⟩
            refine ⟨_, rfl, ?_⟩
            refine hK.out _ _ ⟨(blk_cell BK232.out 0).trans rfl, (blk_cell BK232.out 1).trans rfl, ((HB.out.cell (World.block_lt_of_cell? w _ hw234_0)).trans hw234_0)⟩ (fun hHeld => ?_)
            clear hK K
            refine norm_ (a' := ?_) ?_ ?_
            rotate_left
            ·show Act.put _ (some 29) _ = _
             simp only [z_]
             rfl
            refine pq_ HT_.out 10 30 (bt 41 2047) (h := ?_)
            refine pq_ HT_.out 11 31 (bt 41 4095) (h := ?_)
            refine uq_ HT_.out 12 32 (bt 41 8191) (h := ?_)
            refine uq_ HT_.out 13 33 (bt 41 16383) (h := ?_)
            refine uq_ HT_.out 14 34 (bt 41 32767) (h := ?_)
            refine uq_ HT_.out 15 35 (bt 41 65535) (h := ?_)
            refine uq_ HT_.out 16 36 (bt 41 131071) (h := ?_)
            refine uq_ HT_.out 17 37 (bt 41 262143) (h := ?_)
            refine uq_ HT_.out 18 38 (bt 41 524287) (h := ?_)
            refine uq_ HT_.out 19 39 (bt 41 1048575) (h := ?_)
            refine uq_ HT_.out 20 40 (bt 41 2097151) (h := ?_)
            refine uq_ HT_.out 21 41 (bt 41 4194303) (h := ?_)
            refine uq_ HT_.out 22 42 (bt 41 8388607) (h := ?_)
            refine uq_ HT_.out 23 43 (bt 41 16777215) (h := ?_)
            refine uq_ HT_.out 24 44 (bt 41 33554431) (h := ?_)
            refine uq_ HT_.out 25 45 (bt 41 67108863) (h := ?_)
            refine uq_ HT_.out 26 46 (bt 41 134217727) (h := ?_)
            refine uq_ HT_.out 27 47 (bt 41 268435455) (h := ?_)
            refine pq_ HT_.out 28 48 (bt 41 536870911) (h := ?_)
            refine pq_ HT_.out 29 49 (bt 41 1073741823) (h := ?_)
            refine uq_ HT_.out 30 50 (bt 41 2147483647) (h := ?_)
            refine uq_ HT_.out 31 51 (bt 41 4294967295) (h := ?_)
            refine uq_ HT_.out 32 52 (bt 41 8589934591) (h := ?_)
            refine uq_ HT_.out 33 53 (bt 41 17179869183) (h := ?_)
            refine uq_ HT_.out 34 54 (bt 41 34359738367) (h := ?_)
            refine uq_ HT_.out 35 55 (bt 41 68719476735) (h := ?_)
            refine uq_ HT_.out 36 56 (bt 41 137438953471) (h := ?_)
            refine uq_ HT_.out 37 57 (bt 41 274877906943) (h := ?_)
            refine uq_ HT_.out 38 58 (bt 41 549755813887) (h := ?_)
            refine uq_ HT_.out 39 59 (bt 41 1099511627775) (h := ?_)
            refine pq_ HT_.out 40 60 (bt 41 2199023255551) (h := ?_)
            refine done_ (done_of HT_.out (by kernel_rfl)) ?_
            try go_wp2
            go_meet
            case rel => exact ⟨_, (true), (by first | rfl | (simp; done) | (simp [*]; done)), H', ⟨by have := HJ1.out; have := HK2.out; first | omega | exact Nat.le_refl _⟩, ⟨h_ BK232⟩, ⟨b_ HB⟩⟩
          ·rw [if_neg c13] at H
           exact absurd H (by simp)
         case rest =>
          clear HC11
          try clear c13
          try clear c15
          try clear c16
          try clear c16b0
          try clear c25
          try clear c25b0
          try clear c26
          try clear c26b0
          try clear hx234_0
          try clear hx240_0
          try clear hx241_0
          try clear p234
          try clear p240
          try clear p241
          try clear q234
          try clear q240
          try clear q241
          obtain ⟨kq, x60_10, rfl, HA, HJ10, BK232, HB⟩ := hcut
          cases kq with
          | zero => exact absurd HA.out (by simp [quorumref4_Page.j2])
          | succ kj10 =>
           have H := HA.out
           clear HA
           simp only [quorumref4_Page.j2] at H
           as_aux_lemma =>
            by_cases c29 : x60_10 = true
            ·subst c29
             rw [if_pos rfl] at H
             obtain rfl := Option.some.inj H
             go_wp2
             go_ret
             exact ⟨by first | rfl | (simp [errW_none, errW_some] <;> rfl) | (simp [*, errW_none, errW_some] <;> rfl), b_ HB⟩
            ·replace c29 := Bool.eq_false_iff.mpr c29
             subst c29
             rw [if_neg (show ¬ (false = true) by decide)] at H
             have H' := mk0 H
             clear H
             go_wp2
             go_roundg kj10
             case measure => have := HJ1.out; have := HK2.out; have := HJ10.out; omega
             case rel => exact ⟨(wrap64 (x3_2 + 1)), (by first | rfl | (simp; done) | (simp [*]; done)), H', ⟨by have := HJ1.out; have := HK2.out; have := HJ10.out; omega⟩, ⟨h_ BK232⟩, ⟨b_ HB⟩⟩
        ·rw [if_neg c10] at H
         have c10b0 : decide (x3_2 < (l0_1.length : Int)) = false := decide_eq_false c10
         clear c10
         obtain rfl := Option.some.inj H
         obtain ⟨hcz30_0, hcz30_1, hfz30_0, hfz30_1⟩ := c2_ BK232
         go_wp2
         go_ret
         exact ⟨by first | rfl | (simp [errW_none, errW_some] <;> rfl) | (simp [*, errW_none, errW_some] <;> rfl), b_ HB⟩

end Go.Proofs.Ytoodkefpkgbjcaa.PPgb
