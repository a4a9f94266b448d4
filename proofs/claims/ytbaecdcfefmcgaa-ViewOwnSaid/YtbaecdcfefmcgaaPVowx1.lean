-- PRINTED by print.py (a twelfth state) out of the translation. Not trusted: Lean checks it.
import Derived.Test.YtbaecdcfefmcgaaPVowx0
namespace Go.Proofs.Ytbaecdcfefmcgaa.PVow
open Go.RowKit Go.Proofs.YtbaecdcfefmcgaaW.PrintWords Go.Proofs.YtbaecdcfefmcgaaW.PrintLast Go.Proofs.YtbaecdcfefmcgaaW.PrintMore
attribute [local go_sem] max2_int min2_int max_two min_two max_three min_three max_four min_four   -- for this text's walks alone
set_option linter.unusedVariables false
set_option linter.unusedSimpArgs false

/-! ### table_Rooms: function 122 -/
def table_Rooms.l0 : Nat → Int → List (S99) → Int → Int → Option (Int)
 | 0, _, _, _, _ => none
 | k + 1, x3, x7, x8, x9 => if x9 < x8 then (if 0 ≤ x9 then (if x9 < (x7.length : Int) then (table_Rooms.l0 k (wrap64 (x3 + (((rd_T99 x7 x9).f1).length : Int))) x7 x8 (wrap64 (x9 + 1))) else (none)) else (none)) else (some x3)
def table_Rooms.f (k : Nat) (l0_0 : List (S99)) : Option (Int) := table_Rooms.l0 k 0 l0_0 (l0_0.length : Int) 0
theorem table_Rooms.mono_l : ∀ k, (∀ y0 y1 y2 y3, LeO (table_Rooms.l0 k y0 y1 y2 y3) (table_Rooms.l0 (k + 1) y0 y1 y2 y3))
 | 0 => fun _ _ _ _ r h => by simp [table_Rooms.l0] at h
 | k + 1 => by
  have ih0 := table_Rooms.mono_l k
  ·intro y0 y1 y2 y3
   unfold table_Rooms.l0
   repeat' first
   | (with_reducible exact ih0 _ _ _ _)
   | (with_reducible exact LeO.refl _)
   | (with_reducible exact LeO.none _)
   | (with_reducible refine LeO.ite ?_ ?_)
   | (with_reducible refine LeO.bind ?_ (fun _ => ?_))
   | exact ih0 _ _ _ _
   | exact LeO.none _
   | refine LeO.ite ?_ ?_
   | refine LeO.bind ?_ (fun _ => ?_)
theorem table_Rooms.mono : ∀ a0 k, LeO (table_Rooms.f k a0) (table_Rooms.f (k + 1) a0) := by
 intro a0 k
 have ih0 := table_Rooms.mono_l k
 unfold table_Rooms.f
 repeat' first
   | (with_reducible exact ih0 _ _ _ _)
   | (with_reducible exact LeO.refl _)
   | (with_reducible exact LeO.none _)
   | (with_reducible refine LeO.ite ?_ ?_)
   | (with_reducible refine LeO.bind ?_ (fun _ => ?_))
   | exact ih0 _ _ _ _
   | exact LeO.none _
   | refine LeO.ite ?_ ?_
   | refine LeO.bind ?_ (fun _ => ?_)
set_option maxHeartbeats 8000000 in
set_option maxRecDepth 100000 in
theorem table_Rooms.calls (k : Nat) (A0_0 : Option Addr) (c0_0 : Nat) (l0_0 : List (S99)) (r : Int) (w : World) (hr0_0 : Kd.C k99 w A0_0 l0_0.length l0_0) (hc0_0 : l0_0.length ≤ c0_0) (h : table_Rooms.f k l0_0 = some r) :
  Calls Try.prog 122 #[.agg #[.slice A0_0 l0_0.length c0_0]] w fun e w' => e = .returned (.int .i64 r) ∧ Below w.heap.size w w' := by
 have hu47 := Try.underlying47
 have hu99 := Try.underlying99
 have HR0_0 := mk0 hr0_0
 have HC0_0 := mk0 hc0_0
 clear hr0_0 hc0_0
 have HB := mk0 (Below.refl w.heap.size w)
 have H : (table_Rooms.l0 k 0 l0_0 (l0_0.length : Int) 0) = some r := h
 clear h
 have H' := mk0 H
 clear H
 go_enter Try.func122, Try.ntmps122
 go_wp2_with (first | ((with_reducible refine gate_dst (N := 1) rfl ?_); refine bx_ (N := 1) (cs := #[.slice A0_0 l0_0.length c0_0]) (t := 47) (h := ?_); intro gb101 hg w2 hbox hb; have n2_ := mk0 (gz_ HB hg); have n3_ := mk0 (gz_ HB hg); replace HB := mk0 (bt_ (b_ HB) hb); have BK101 := mk0 (hbox); have GW101 := n2_; have GE101 := n3_; clear n2_ n3_ hb hbox hg; obtain ⟨hcz3_0, hfz3_0⟩ := c1_ BK101))
 go_loopg [3, 9] k (fun kq v3 v9 w' => ∃ (x3_1 : Int) (x9_1 : Int), v3 = .int .i64 x3_1 ∧ v9 = .int .i64 x9_1 ∧ Fc (table_Rooms.l0 kq x3_1 l0_0 (l0_0.length : Int) x9_1 = some r) ∧ Fc (kq ≤ k) ∧ Fc (w'.heap[gb101]? = some (.cells #[(.slice A0_0 l0_0.length c0_0)] 47 (0, 0))) ∧ Fc (Below w.heap.size w w'))
 case atStart => exact ⟨(0), (0), (by first | rfl | (simp; done) | (simp [*]; done)), (by first | rfl | (simp; done) | (simp [*]; done)), H', ⟨Nat.le_refl _⟩, ⟨h_ BK101⟩, ⟨b_ HB⟩⟩
 case round =>
  clear H'
  try clear hcz3_0
  try clear hfz3_0
  obtain ⟨x3_1, x9_1, rfl, rfl, HA, HK1, BK101, HB⟩ := hrel
  cases gk with
  | zero => exact absurd HA.out (by simp [table_Rooms.l0])
  | succ k1 =>
   have H := HA.out
   clear HA
   simp only [table_Rooms.l0] at H
   as_aux_lemma =>
    by_cases c4 : x9_1 < (l0_0.length : Int)
    ·rw [if_pos c4] at H
     have c4b0 : decide (x9_1 < (l0_0.length : Int)) = true := decide_eq_true c4
     clear c4
     by_cases c5 : 0 ≤ x9_1
     ·rw [if_pos c5] at H
      have c5b0 : decide (0 ≤ x9_1) = true := decide_eq_true c5
      clear c5
      by_cases c6 : x9_1 < (l0_0.length : Int)
      ·rw [if_pos c6] at H
       have c6b0 : decide (x9_1 < (l0_0.length : Int)) = true := decide_eq_true c6
       clear c6
       have H' := mk0 H
       clear H
       have p102 : 0 ≤ (x9_1 : Int) := of_decide_eq_true (by first | (with_reducible assumption) | assumption)
       have q102 : x9_1 < (l0_0.length : Int) := of_decide_eq_true (by first | (with_reducible assumption) | assumption)
       obtain ⟨ad102, A102_1, c102_1, e102, hx102_0, hx102_1, hl102_1, hi102_1⟩ := at_T99 HR0_0.out x9_1 p102 q102
       cases e102
       replace hx102_0 := (bc_ HB hx102_0 :)
       replace hx102_1 := (bc_ HB hx102_1 :)
       have HR102_1 := mk0 hi102_1
       have HC102_1 := mk0 hl102_1
       clear hi102_1 hl102_1
       replace p102 := eq_true p102
       replace q102 := eq_true q102
       go_wp2_with (first | ((with_reducible refine gate_dst (N := 5) rfl ?_); refine bx_ (N := 5) (cs := #[.string (⟨#[]⟩ : ByteArray), .slice none 0 0]) (t := 99) (h := ?_); intro gb103 hg w7 hbox hb; have n3_ := mk0 (gz_ HB hg); have n4_ := mk0 (gz_ HB hg); have n5_ := mk0 (ne1_ BK101 hg); have n6_ := mk0 (ne2_ BK101 hg); replace BK101 := mk0 (u_ BK101 hb); replace HB := mk0 (bt_ (b_ HB) hb); have BK103 := mk0 (hbox); have GW103 := n3_; have GE103 := n4_; have NB101_103 := n5_; have NB103_101 := n6_; clear n3_ n4_ n5_ n6_ hb hbox hg; have hnb8 := NB103_101.out; have hnc8 := NB101_103.out; obtain ⟨hcz9_0, hcz9_1, hfz9_0, hfz9_1⟩ := c2_ BK103))
       go_roundg k1
       case measure => have := HK1.out; omega
       case rel => exact ⟨(wrap64 (x3_1 + (((rd_T99 l0_0 x9_1).f1).length : Int))), (wrap64 (x9_1 + 1)), (by first | rfl | (simp; done) | (simp [*]; done)), (by first | rfl | (simp; done) | (simp [*]; done)), H', ⟨by have := HK1.out; omega⟩, ⟨(fa_ (fa_ (h_ BK101) NB101_103.out) NB101_103.out)⟩, ⟨b_ HB⟩⟩
      ·rw [if_neg c6] at H
       exact absurd H (by simp)
     ·rw [if_neg c5] at H
      exact absurd H (by simp)
    ·rw [if_neg c4] at H
     have c4b0 : decide (x9_1 < (l0_0.length : Int)) = false := decide_eq_false c4
     clear c4
     obtain rfl := Option.some.inj H
     go_wp2
     go_ret
     exact ⟨by first | rfl | (simp [errW_none, errW_some] <;> rfl) | (simp [*, errW_none, errW_some] <;> rfl), b_ HB⟩

/-! ### key_Is: function 42 -/
def key_Is.f (a0 : ByteArray) : Option (Bool) := if a0.toList = ([] : List UInt8) then (some false) else (some (decide ((a0.size : Int) ≤ 12)))
set_option maxHeartbeats 8000000 in
set_option maxRecDepth 100000 in
theorem key_Is.calls (a0 : ByteArray) (r : Bool) (w : World) (h : key_Is.f a0 = some r) :
  Calls Try.prog 42 #[.string a0] w fun e w' => e = .returned (.bool r) ∧ Drawn0 w w' := by
 have H : (if a0.toList = ([] : List UInt8) then (some false) else (some (decide ((a0.size : Int) ≤ 12)))) = some r := h
 clear h
 by_cases c2 : a0.toList = ([] : List UInt8)
 ·rw [if_pos c2] at H
  have c2b0 : (a0.toList == ([] : List UInt8)) = true := beq_iff_eq.mpr c2
  have c2b1 : (a0.toList != ([] : List UInt8)) = false := bne_eq_false_iff_eq.mpr c2
  clear c2
  obtain rfl := Option.some.inj H
  go_enter Try.func42, Try.ntmps42
  go_wp2
  go_ret
  exact ⟨by first | rfl | (simp; done) | (simp [*]; done), by repeat (first | exact Drawn0.refl _ | apply Drawn0.step)⟩
 ·rw [if_neg c2] at H
  have c2b0 : (a0.toList == ([] : List UInt8)) = false := beq_eq_false_iff_ne.mpr c2
  have c2b1 : (a0.toList != ([] : List UInt8)) = true := bne_iff_ne.mpr c2
  obtain rfl := Option.some.inj H
  go_enter Try.func42, Try.ntmps42
  go_wp2
  go_ret
  exact ⟨by first | rfl | (simp; done) | (simp [*]; done), by repeat (first | exact Drawn0.refl _ | apply Drawn0.step)⟩

/-! ### key_Fits: function 163 -/
def key_Fits.f (a0 : ByteArray) : Option (Bool) := some (decide ((a0.size : Int) ≤ 20))
set_option maxHeartbeats 8000000 in
set_option maxRecDepth 100000 in
theorem key_Fits.calls (a0 : ByteArray) (r : Bool) (w : World) (h : key_Fits.f a0 = some r) :
  Calls Try.prog 163 #[.string a0] w fun e w' => e = .returned (.bool r) ∧ Drawn0 w w' := by
 have H : (some (decide ((a0.size : Int) ≤ 20))) = some r := h
 clear h
 obtain rfl := Option.some.inj H
 go_enter Try.func163, Try.ntmps163
 go_wp2
 go_ret
 exact ⟨by first | rfl | (simp; done) | (simp [*]; done), by repeat (first | exact Drawn0.refl _ | apply Drawn0.step)⟩

/-! ### chain_version: function 179 -/
def chain_version.f (a0_0 : Int) (a0_1 : ByteArray) (a0_2 : Bool) : Option (Bool) := if a0_0 ≥ 1 then (if a0_0 ≤ 1073741824 then ((key_Fits.f a0_1).bind fun t105 => (if t105 = true then (if a0_2 = true then (some (a0_1.toList == ([] : List UInt8))) else (some true)) else (some false))) else (some false)) else (some false)
set_option maxHeartbeats 8000000 in
set_option maxRecDepth 100000 in
theorem chain_version.calls (a0_0 : Int) (a0_1 : ByteArray) (a0_2 : Bool) (r : Bool) (w : World) (h : chain_version.f a0_0 a0_1 a0_2 = some r) :
  Calls Try.prog 179 #[.agg #[.int .i64 a0_0, .string a0_1, .bool a0_2]] w fun e w' => e = .returned (.bool r) ∧ Below w.heap.size w w' := by
 have hu72 := Try.underlying72
 have HB := mk0 (Below.refl w.heap.size w)
 have H : (if a0_0 ≥ 1 then (if a0_0 ≤ 1073741824 then ((key_Fits.f a0_1).bind fun t105 => (if t105 = true then (if a0_2 = true then (some (a0_1.toList == ([] : List UInt8))) else (some true)) else (some false))) else (some false)) else (some false)) = some r := h
 clear h
 by_cases c2 : a0_0 ≥ 1
 ·rw [if_pos c2] at H
  have c2b0 : decide (1 ≤ a0_0) = true := decide_eq_true c2
  clear c2
  by_cases c3 : a0_0 ≤ 1073741824
  ·rw [if_pos c3] at H
   have c3b0 : decide (a0_0 ≤ 1073741824) = true := decide_eq_true c3
   clear c3
   replace H := Option.bind_eq_some_iff.mp H
   obtain ⟨t105, A40, H⟩ := H
   try dsimp only at H
   have A4 := mk0 A40
   clear A40
   by_cases c5 : t105 = true
   ·subst c5
    rw [if_pos rfl] at H
    by_cases c6 : a0_2 = true
    ·subst c6
     rw [if_pos rfl] at H
     obtain rfl := Option.some.inj H
     go_enter Try.func179, Try.ntmps179
     go_wp2_with (first | ((with_reducible refine gate_dst (N := 1) rfl ?_); refine bx_ (N := 1) (cs := #[.int .i64 a0_0, .string a0_1, .bool true]) (t := 72) (h := ?_); intro gb104 hg w7 hbox hb; have n2_ := mk0 (gz_ HB hg); have n3_ := mk0 (gz_ HB hg); replace HB := mk0 (bt_ (b_ HB) hb); have BK104 := mk0 (hbox); have GW104 := n2_; have GE104 := n3_; clear n2_ n3_ hb hbox hg; obtain ⟨hcz8_0, hcz8_1, hcz8_2, hfz8_0, hfz8_1, hfz8_2⟩ := c3_ BK104) | (go_at_call 163; (with_reducible refine (key_Fits.calls a0_1 true _ A4.out).mono ?_); rintro e w' ⟨rfl, ⟨nd, rfl⟩⟩))
     go_ret
     exact ⟨by first | rfl | (simp [errW_none, errW_some] <;> rfl) | (simp [*, errW_none, errW_some] <;> rfl), b_ HB⟩
    ·replace c6 := Bool.eq_false_iff.mpr c6
     subst c6
     rw [if_neg (show ¬ (false = true) by decide)] at H
     obtain rfl := Option.some.inj H
     go_enter Try.func179, Try.ntmps179
     go_wp2_with (first | ((with_reducible refine gate_dst (N := 1) rfl ?_); refine bx_ (N := 1) (cs := #[.int .i64 a0_0, .string a0_1, .bool false]) (t := 72) (h := ?_); intro gb104 hg w9 hbox hb; have n2_ := mk0 (gz_ HB hg); have n3_ := mk0 (gz_ HB hg); replace HB := mk0 (bt_ (b_ HB) hb); have BK104 := mk0 (hbox); have GW104 := n2_; have GE104 := n3_; clear n2_ n3_ hb hbox hg; obtain ⟨hcz10_0, hcz10_1, hcz10_2, hfz10_0, hfz10_1, hfz10_2⟩ := c3_ BK104) | (go_at_call 163; (with_reducible refine (key_Fits.calls a0_1 true _ A4.out).mono ?_); rintro e w' ⟨rfl, ⟨nd, rfl⟩⟩))
     go_ret
     exact ⟨by first | rfl | (simp [errW_none, errW_some] <;> rfl) | (simp [*, errW_none, errW_some] <;> rfl), b_ HB⟩
   ·replace c5 := Bool.eq_false_iff.mpr c5
    subst c5
    rw [if_neg (show ¬ (false = true) by decide)] at H
    obtain rfl := Option.some.inj H
    go_enter Try.func179, Try.ntmps179
    go_wp2_with (first | ((with_reducible refine gate_dst (N := 1) rfl ?_); refine bx_ (N := 1) (cs := #[.int .i64 a0_0, .string a0_1, .bool a0_2]) (t := 72) (h := ?_); intro gb104 hg w11 hbox hb; have n2_ := mk0 (gz_ HB hg); have n3_ := mk0 (gz_ HB hg); replace HB := mk0 (bt_ (b_ HB) hb); have BK104 := mk0 (hbox); have GW104 := n2_; have GE104 := n3_; clear n2_ n3_ hb hbox hg; obtain ⟨hcz12_0, hcz12_1, hcz12_2, hfz12_0, hfz12_1, hfz12_2⟩ := c3_ BK104) | (go_at_call 163; (with_reducible refine (key_Fits.calls a0_1 false _ A4.out).mono ?_); rintro e w' ⟨rfl, ⟨nd, rfl⟩⟩))
    go_ret
    exact ⟨by first | rfl | (simp [errW_none, errW_some] <;> rfl) | (simp [*, errW_none, errW_some] <;> rfl), b_ HB⟩
  ·rw [if_neg c3] at H
   have c3b0 : decide (a0_0 ≤ 1073741824) = false := decide_eq_false c3
   clear c3
   obtain rfl := Option.some.inj H
   go_enter Try.func179, Try.ntmps179
   go_wp2_with (first | ((with_reducible refine gate_dst (N := 1) rfl ?_); refine bx_ (N := 1) (cs := #[.int .i64 a0_0, .string a0_1, .bool a0_2]) (t := 72) (h := ?_); intro gb104 hg w13 hbox hb; have n2_ := mk0 (gz_ HB hg); have n3_ := mk0 (gz_ HB hg); replace HB := mk0 (bt_ (b_ HB) hb); have BK104 := mk0 (hbox); have GW104 := n2_; have GE104 := n3_; clear n2_ n3_ hb hbox hg; obtain ⟨hcz14_0, hcz14_1, hcz14_2, hfz14_0, hfz14_1, hfz14_2⟩ := c3_ BK104))
   go_ret
   exact ⟨by first | rfl | (simp [errW_none, errW_some] <;> rfl) | (simp [*, errW_none, errW_some] <;> rfl), b_ HB⟩
 ·rw [if_neg c2] at H
  have c2b0 : decide (1 ≤ a0_0) = false := decide_eq_false c2
  clear c2
  obtain rfl := Option.some.inj H
  go_enter Try.func179, Try.ntmps179
  go_wp2_with (first | ((with_reducible refine gate_dst (N := 1) rfl ?_); refine bx_ (N := 1) (cs := #[.int .i64 a0_0, .string a0_1, .bool a0_2]) (t := 72) (h := ?_); intro gb104 hg w15 hbox hb; have n2_ := mk0 (gz_ HB hg); have n3_ := mk0 (gz_ HB hg); replace HB := mk0 (bt_ (b_ HB) hb); have BK104 := mk0 (hbox); have GW104 := n2_; have GE104 := n3_; clear n2_ n3_ hb hbox hg; obtain ⟨hcz16_0, hcz16_1, hcz16_2, hfz16_0, hfz16_1, hfz16_2⟩ := c3_ BK104))
  go_ret
  exact ⟨by first | rfl | (simp [errW_none, errW_some] <;> rfl) | (simp [*, errW_none, errW_some] <;> rfl), b_ HB⟩

/-! ### chain_May: function 144 -/
def chain_May.l0 : Nat → List (S72) → Int → Int → ByteArray → List (S72) → Option (Bool)
 | 0, _, _, _, _, _ => none
 | k + 1, x6, x7, x8, x107000, x107001 => if x8 < x7 then (if 0 ≤ x8 then (if x8 < (x6.length : Int) then ((chain_version.f ((rd_T72 x6 x8).f0) ((rd_T72 x6 x8).f1) ((rd_T72 x6 x8).f2)).bind fun t109 => (if t109 = true then (if x8 > 0 then (if 0 ≤ (wrap64 (x8 - 1)) then (if (wrap64 (x8 - 1)) < (x107001.length : Int) then (if ((rd_T72 x6 x8).f0) ≥ ((rd_T72 x107001 (wrap64 (x8 - 1))).f0) then (some false) else (chain_May.l0 k x6 x7 (wrap64 (x8 + 1)) x107000 x107001)) else (none)) else (none)) else (chain_May.l0 k x6 x7 (wrap64 (x8 + 1)) x107000 x107001)) else (some false))) else (none)) else (none)) else ((key_Is.f x107000).bind fun t111 => (if t111 = true then (some (decide ((x107001.length : Int) > 0))) else (some false)))
def chain_May.f (k : Nat) (a0_0 : ByteArray) (l0_1 : List (S72)) : Option (Bool) := chain_May.l0 k l0_1 (l0_1.length : Int) 0 a0_0 l0_1
theorem chain_May.mono_l : ∀ k, (∀ y0 y1 y2 y3 y4, LeO (chain_May.l0 k y0 y1 y2 y3 y4) (chain_May.l0 (k + 1) y0 y1 y2 y3 y4))
 | 0 => fun _ _ _ _ _ r h => by simp [chain_May.l0] at h
 | k + 1 => by
  have ih0 := chain_May.mono_l k
  ·intro y0 y1 y2 y3 y4
   unfold chain_May.l0
   repeat' first
   | (with_reducible exact ih0 _ _ _ _ _)
   | (with_reducible exact LeO.refl _)
   | (with_reducible exact LeO.none _)
   | (with_reducible refine LeO.ite ?_ ?_)
   | (with_reducible refine LeO.bind ?_ (fun _ => ?_))
   | exact ih0 _ _ _ _ _
   | exact LeO.none _
   | refine LeO.ite ?_ ?_
   | refine LeO.bind ?_ (fun _ => ?_)
theorem chain_May.mono : ∀ a0 a1 k, LeO (chain_May.f k a0 a1) (chain_May.f (k + 1) a0 a1) := by
 intro a0 a1 k
 have ih0 := chain_May.mono_l k
 unfold chain_May.f
 repeat' first
   | (with_reducible exact ih0 _ _ _ _ _)
   | (with_reducible exact LeO.refl _)
   | (with_reducible exact LeO.none _)
   | (with_reducible refine LeO.ite ?_ ?_)
   | (with_reducible refine LeO.bind ?_ (fun _ => ?_))
   | exact ih0 _ _ _ _ _
   | exact LeO.none _
   | refine LeO.ite ?_ ?_
   | refine LeO.bind ?_ (fun _ => ?_)
def chain_May.T4 : Bool × List (List Nat × List Nat) := (true, [([], []), ([0], [0]), ([1], [1]), ([2, 1], [2]), ([3], [3]), ([4, 3], [3, 4]), ([5, 3, 3], [3, 5]), ([6], [6]), ([7, 6], [6, 7]), ([6], [6]), ([9, 6], [6, 9]), ([6], [6]), ([11, 6], [6, 11]), ([10, 12, 6], [6, 10, 12]), ([13, 6], [6, 13]), ([14, 6], [6, 14]), ([8, 15, 6], [6, 8, 15]), ([6, 16, 3], [3, 6, 16]), ([3, 17], [3, 17])])
def chain_May.B4 : List Nat := [0, 1, 3, 7, 15, 31, 63, 127, 255, 127, 639, 127, 2175, 7807, 15999, 32383, 65535, 131071, 262143]
theorem chain_May.tab4 : rtab .any (opsOf Try.f144 4) = chain_May.T4 := by kernel_rfl
theorem chain_May.bits4 : waitsOk chain_May.T4.2 chain_May.B4 = true := by kernel_rfl
set_option maxHeartbeats 8000000 in
set_option maxRecDepth 100000 in
theorem chain_May.calls (k : Nat) (a0_0 : ByteArray) (A0_1 : Option Addr) (c0_1 : Nat) (l0_1 : List (S72)) (r : Bool) (w : World) (hr0_1 : Kd.C k72 w A0_1 l0_1.length l0_1) (hc0_1 : l0_1.length ≤ c0_1) (h : chain_May.f k a0_0 l0_1 = some r) :
  Calls Try.prog 144 #[.agg #[.string a0_0, .slice A0_1 l0_1.length c0_1]] w fun e w' => e = .returned (.bool r) ∧ Below w.heap.size w w' := by
 have hu99 := Try.underlying99
 have hu72 := Try.underlying72
 have HR0_1 := mk0 hr0_1
 have HC0_1 := mk0 hc0_1
 clear hr0_1 hc0_1
 have HB := mk0 (Below.refl w.heap.size w)
 have H : (chain_May.l0 k l0_1 (l0_1.length : Int) 0 a0_0 l0_1) = some r := h
 clear h
 have H' := mk0 H
 clear H
 go_enter Try.func144, Try.ntmps144
 go_wp2_with (first | ((with_reducible refine gate_dst (N := 1) rfl ?_); (try (refine gate_guard (by rfl) ?_; dsimp only)); refine bx_ (N := 1) (cs := #[.string a0_0, .slice A0_1 l0_1.length c0_1]) (t := 99) (h := ?_); intro gb106 hg w2 hbox hb; have n2_ := mk0 (gz_ HB hg); have n3_ := mk0 (gz_ HB hg); replace HB := mk0 (bt_ (b_ HB) hb); have BK106 := mk0 (hbox); have GW106 := n2_; have GE106 := n3_; clear n2_ n3_ hb hbox hg; obtain ⟨hcz3_0, hcz3_1, hfz3_0, hfz3_1⟩ := c2_ BK106))
 go_loopg [8] k (fun kq v8 w' => ∃ (x8_1 : Int), v8 = .int .i64 x8_1 ∧ Fc (chain_May.l0 kq l0_1 (l0_1.length : Int) x8_1 a0_0 l0_1 = some r) ∧ Fc (kq ≤ k) ∧ Fc (w'.heap[gb106]? = some (.cells #[.string a0_0, (.slice A0_1 l0_1.length c0_1)] 99 (0, 0))) ∧ Fc (Below w.heap.size w w'))
 case atStart => exact ⟨(0), (by first | rfl | (simp; done) | (simp [*]; done)), H', ⟨Nat.le_refl _⟩, ⟨h_ BK106⟩, ⟨b_ HB⟩⟩
 case round =>
  clear H'
  try clear hcz3_0
  try clear hcz3_1
  try clear hfz3_0
  try clear hfz3_1
  obtain ⟨x8_1, rfl, HA, HK1, BK106, HB⟩ := hrel
  cases gk with
  | zero => exact absurd HA.out (by simp [chain_May.l0])
  | succ k1 =>
   have H := HA.out
   clear HA
   simp only [chain_May.l0] at H
   as_aux_lemma =>
    by_cases c4 : x8_1 < (l0_1.length : Int)
    ·rw [if_pos c4] at H
     have c4b0 : decide (x8_1 < (l0_1.length : Int)) = true := decide_eq_true c4
     clear c4
     by_cases c5 : 0 ≤ x8_1
     ·rw [if_pos c5] at H
      have c5b0 : decide (0 ≤ x8_1) = true := decide_eq_true c5
      clear c5
      by_cases c6 : x8_1 < (l0_1.length : Int)
      ·rw [if_pos c6] at H
       have c6b0 : decide (x8_1 < (l0_1.length : Int)) = true := decide_eq_true c6
       clear c6
       replace H := Option.bind_eq_some_iff.mp H
       obtain ⟨t109, A70, H⟩ := H
       try dsimp only at H
       have A7 := mk0 A70
       clear A70
       by_cases c8 : t109 = true
       ·subst c8
        rw [if_pos rfl] at H
        by_cases c9 : x8_1 > 0
        ·rw [if_pos c9] at H
         have c9b0 : decide (0 < x8_1) = true := decide_eq_true c9
         clear c9
         obtain ⟨ji10, hji10⟩ : ∃ j_ : Int, (wrap64 (x8_1 - 1)) = j_ := ⟨_, rfl⟩
         replace H : (if 0 ≤ (ji10) then (if (ji10) < (l0_1.length : Int) then (if ((rd_T72 l0_1 x8_1).f0) ≥ ((rd_T72 l0_1 (ji10)).f0) then (some false) else (chain_May.l0 k1 l0_1 (l0_1.length : Int) (wrap64 (x8_1 + 1)) a0_0 l0_1)) else (none)) else (none)) = some r := by first | (rw [hji10] at H; exact H) | (simp only [hji10] at H ⊢; exact H)
         (try rw [hji10] at A7)
         have hji10w : (IntKind.i64.wrap (x8_1 - 1)) = ji10 := (i64_w _).trans hji10
         by_cases c11 : 0 ≤ (ji10)
         ·rw [if_pos c11] at H
          have c11b0 : decide (0 ≤ (ji10)) = true := decide_eq_true c11
          clear c11
          by_cases c12 : (ji10) < (l0_1.length : Int)
          ·rw [if_pos c12] at H
           have c12b0 : decide ((ji10) < (l0_1.length : Int)) = true := decide_eq_true c12
           clear c12
           by_cases c13 : ((rd_T72 l0_1 x8_1).f0) ≥ ((rd_T72 l0_1 (ji10)).f0)
           ·rw [if_pos c13] at H
            have c13b0 : decide (((rd_T72 l0_1 (ji10)).f0) ≤ ((rd_T72 l0_1 x8_1).f0)) = true := decide_eq_true c13
            clear c13
            obtain rfl := Option.some.inj H
            have p107 : 0 ≤ (x8_1 : Int) := of_decide_eq_true (by first | (with_reducible assumption) | assumption)
            have q107 : x8_1 < (l0_1.length : Int) := of_decide_eq_true (by first | (with_reducible assumption) | assumption)
            obtain ⟨ad107, e107, hx107_0, hx107_1, hx107_2⟩ := at_T72 HR0_1.out x8_1 p107 q107
            cases e107
            replace hx107_0 := (bc_ HB hx107_0 :)
            replace hx107_1 := (bc_ HB hx107_1 :)
            replace hx107_2 := (bc_ HB hx107_2 :)
            replace p107 := eq_true p107
            replace q107 := eq_true q107
            try go_wp2_with (first | ((with_reducible refine gate_dst (N := 4) rfl ?_); (try (refine gate_guard (by rfl) ?_; dsimp only)); refine bx_ (N := 4) (cs := #[.int .i64 0, .string (⟨#[]⟩ : ByteArray), .bool false]) (t := 72) (h := ?_); intro gb108 hg w14 hbox hb; have n3_ := mk0 (gz_ HB hg); have n4_ := mk0 (gz_ HB hg); have n5_ := mk0 (ne1_ BK106 hg); have n6_ := mk0 (ne2_ BK106 hg); replace BK106 := mk0 (u_ BK106 hb); replace HB := mk0 (bt_ (b_ HB) hb); have BK108 := mk0 (hbox); have GW108 := n3_; have GE108 := n4_; have NB106_108 := n5_; have NB108_106 := n6_; clear n3_ n4_ n5_ n6_ hb hbox hg; have hnb15 := NB108_106.out; have hnc15 := NB106_108.out; obtain ⟨hcz16_0, hcz16_1, hcz16_2, hfz16_0, hfz16_1, hfz16_2⟩ := c3_ BK108))
            have n0_ : Fc ((((w14.setCell ⟨gb108, 0, none⟩ (.int .i64 ((rd_T72 l0_1 x8_1).f0))).setCell ⟨gb108, 1, none⟩ (.string ((rd_T72 l0_1 x8_1).f1))).setCell ⟨gb108, 2, none⟩ (.bool ((rd_T72 l0_1 x8_1).f2))).heap[gb106]? = some (.cells #[.string a0_0, .slice (some ad107) l0_1.length c0_1] 99 (0, 0))) := ⟨(fa_ (fa_ (fa_ (h_ BK106) NB106_108.out) NB106_108.out) NB106_108.out)⟩
            have n1_ : Fc ((((w14.setCell ⟨gb108, 0, none⟩ (.int .i64 ((rd_T72 l0_1 x8_1).f0))).setCell ⟨gb108, 1, none⟩ (.string ((rd_T72 l0_1 x8_1).f1))).setCell ⟨gb108, 2, none⟩ (.bool ((rd_T72 l0_1 x8_1).f2))).heap[gb108]? = some (.cells #[.int .i64 ((rd_T72 l0_1 x8_1).f0), .string ((rd_T72 l0_1 x8_1).f1), .bool ((rd_T72 l0_1 x8_1).f2)] 72 (0, 0))) := ⟨(pu_ (cs := #[.int .i64 ((rd_T72 l0_1 x8_1).f0), .string ((rd_T72 l0_1 x8_1).f1), .bool false]) (pu_ (cs := #[.int .i64 ((rd_T72 l0_1 x8_1).f0), .string (⟨#[]⟩ : ByteArray), .bool false]) (pu_ (cs := #[.int .i64 0, .string (⟨#[]⟩ : ByteArray), .bool false]) (h_ BK108))))⟩
            have n2_ : Fc (Below w.heap.size w (((w14.setCell ⟨gb108, 0, none⟩ (.int .i64 ((rd_T72 l0_1 x8_1).f0))).setCell ⟨gb108, 1, none⟩ (.string ((rd_T72 l0_1 x8_1).f1))).setCell ⟨gb108, 2, none⟩ (.bool ((rd_T72 l0_1 x8_1).f2)))) := ⟨b_ HB⟩
            (try clear BK106)
            (try clear BK108)
            (try clear HB)
            generalize (((w14.setCell ⟨gb108, 0, none⟩ (.int .i64 ((rd_T72 l0_1 x8_1).f0))).setCell ⟨gb108, 1, none⟩ (.string ((rd_T72 l0_1 x8_1).f1))).setCell ⟨gb108, 2, none⟩ (.bool ((rd_T72 l0_1 x8_1).f2))) = w17 at n0_ n1_ n2_ ⊢
            have BK106 := n0_
            have BK108 := n1_
            have HB := n2_
            clear n0_ n1_ n2_
            replace BK106 := mk0 (bD_ BK106.out)
            replace BK108 := mk0 (bD_ BK108.out)
            replace HB := mk0 (b1_ HB.out)
            have p110 : 0 ≤ ((ji10) : Int) := of_decide_eq_true (by first | (with_reducible assumption) | assumption)
            have q110 : (ji10) < (l0_1.length : Int) := of_decide_eq_true (by first | (with_reducible assumption) | assumption)
            obtain ⟨ad110, e110, hx110_0, hx110_1, hx110_2⟩ := at_T72 HR0_1.out (ji10) p110 q110
            have hw110_2 := hx110_2
            have hw110_1 := hx110_1
            have hw110_0 := hx110_0
            obtain rfl : ad107 = ad110 := (by injection e110)
            replace hx110_0 := (bc_ HB hx110_0 :)
            replace hx110_1 := (bc_ HB hx110_1 :)
            replace hx110_2 := (bc_ HB hx110_2 :)
            replace p110 := eq_true p110
            replace q110 := eq_true q110
            refine start_ (n := 19) (S := fun w' => w'.cell? ⟨gb108, 0, none⟩ = some (.int .i64 ((rd_T72 l0_1 x8_1).f0)) ∧ w'.cell? ⟨gb108, 1, none⟩ = some (.string ((rd_T72 l0_1 x8_1).f1)) ∧ w'.cell? ⟨gb108, 2, none⟩ = some (.bool ((rd_T72 l0_1 x8_1).f2)) ∧ w'.cell? ⟨gb106, 0, none⟩ = some (.string a0_0) ∧ w'.cell? ⟨gb106, 1, none⟩ = some (.slice (some ad107) l0_1.length c0_1) ∧ w'.cell? (ad107.add (((ji10)).toNat * 3)) = some (.int .i64 ((rd_T72 l0_1 (ji10)).f0)) ∧ w'.cell? ⟨(ad107.add (((ji10)).toNat * 3)).block, (ad107.add (((ji10)).toNat * 3)).off + 1, none⟩ = some (.string ((rd_T72 l0_1 (ji10)).f1)) ∧ w'.cell? ⟨(ad107.add (((ji10)).toNat * 3)).block, (ad107.add (((ji10)).toNat * 3)).off + 2, none⟩ = some (.bool ((rd_T72 l0_1 (ji10)).f2))) (ds := []) (bt 19 0) (by kernel_rfl) rfl rfl ⟨bk_ BK108 0, bk_ BK108 1, bk_ BK108 2, bk_ BK106 0, bk_ BK106 1, ((bc_ HB hw110_0 :)), ((bc_ HB hw110_1 :)), ((bc_ HB hw110_2 :))⟩ (fun hHeld => ?_); refine with_tabW chain_May.tab4 chain_May.bits4 (fun HT_ HW_ => ?_)
            generalize w17.drew = w18 at BK106 BK108 HB hx110_0 hx110_1 hx110_2 hHeld ⊢
            refine tq8_ HT_.out HW_.out 0 13 (bt 19 1) hHeld (h := ?_)
            refine one_ (i := 1) (N := some 14) (bt 19 3) rfl rfl (one_of HT_.out (by kernel_rfl)) (by decide) (fun K hK => ?_)
            refine goes_ Try.func179 (by kernel_rfl) rfl #[.agg #[.int .i64 ((rd_T72 l0_1 x8_1).f0), .string ((rd_T72 l0_1 x8_1).f1), .bool ((rd_T72 l0_1 x8_1).f2)]] (by rfl) rfl rfl (by (try simp only [List.map_toArray, List.map_cons, List.map_nil]); first | done | rfl | (simp only [List.length_drop, List.length_take]; rfl)) ?_
            with_reducible refine (chain_version.calls ((rd_T72 l0_1 x8_1).f0) ((rd_T72 l0_1 x8_1).f1) ((rd_T72 l0_1 x8_1).f2) true _ A7.out).mono ?_
            rintro e w19 ⟨rfl, hb⟩
            refine ⟨_, rfl, ?_⟩
            replace BK106 := mk0 (u_ BK106 hb)
            replace BK108 := mk0 (u_ BK108 hb)
            replace HB := mk0 (bt_ (b_ HB) hb)
            (try clear hb)
            (try clear hb2)
            (try clear hk)
            (try clear hi)
            refine hK.out _ _ ⟨bk_ BK108 0, bk_ BK108 1, bk_ BK108 2, bk_ BK106 0, bk_ BK106 1, ((bc_ HB hw110_0 :)), ((bc_ HB hw110_1 :)), ((bc_ HB hw110_2 :))⟩ (fun hHeld => ?_)
            clear hK K
            refine norm_ (a' := ?_) ?_ ?_
            rotate_left
            ·show Act.put _ (some 14) _ = _
             simp only [z_]
             rfl
            refine pq_ HT_.out 2 15 (bt 19 7) (h := ?_)
            refine pq_ HT_.out 3 16 (bt 19 15) (h := ?_)
            refine pq_ HT_.out 4 17 (bt 19 31) (h := ?_)
            refine pq_ HT_.out 5 18 (bt 19 63) (h := ?_)
            refine pq_ HT_.out 6 19 (bt 19 127) (h := ?_)
            refine pq_ HT_.out 7 20 (bt 19 255) (h := ?_)
            refine pq_ HT_.out 9 22 (bt 19 767) (h := ?_)
            refine pq_ HT_.out 11 24 (bt 19 2815) (h := ?_)
            refine pq_ HT_.out 12 25 (bt 19 6911) (h := ?_)
            refine tq8_ HT_.out HW_.out 8 21 (bt 19 7167) hHeld (h := ?_)
            refine tq8_ HT_.out HW_.out 10 23 (bt 19 8191) hHeld (h := ?_)
            refine pq_ HT_.out 13 26 (bt 19 16383) (h := ?_)
            refine pq_ HT_.out 14 27 (bt 19 32767) (h := ?_)
            refine tq8_ HT_.out HW_.out 15 28 (bt 19 65535) hHeld (h := ?_)
            refine pq_ HT_.out 16 29 (bt 19 131071) (h := ?_)
            refine pq_ HT_.out 17 30 (bt 19 262143) (h := ?_)
            refine pq_ HT_.out 18 31 (bt 19 524287) (h := ?_)
            refine done_ (done_of HT_.out (by kernel_rfl)) ?_
            try go_wp2
            go_ret
            exact ⟨by first | rfl | (simp [errW_none, errW_some] <;> rfl) | (simp only [← hji10]; first | rfl | (simp [errW_none, errW_some] <;> rfl)) | (simp [*, errW_none, errW_some] <;> rfl), b_ HB⟩
           ·rw [if_neg c13] at H
            have c13b0 : decide (((rd_T72 l0_1 (ji10)).f0) ≤ ((rd_T72 l0_1 x8_1).f0)) = false := decide_eq_false c13
            clear c13
            have H' := mk0 H
            clear H
            have p107 : 0 ≤ (x8_1 : Int) := of_decide_eq_true (by first | (with_reducible assumption) | assumption)
            have q107 : x8_1 < (l0_1.length : Int) := of_decide_eq_true (by first | (with_reducible assumption) | assumption)
            obtain ⟨ad107, e107, hx107_0, hx107_1, hx107_2⟩ := at_T72 HR0_1.out x8_1 p107 q107
            cases e107
            replace hx107_0 := (bc_ HB hx107_0 :)
            replace hx107_1 := (bc_ HB hx107_1 :)
            replace hx107_2 := (bc_ HB hx107_2 :)
            replace p107 := eq_true p107
            replace q107 := eq_true q107
            try go_wp2_with (first | ((with_reducible refine gate_dst (N := 4) rfl ?_); (try (refine gate_guard (by rfl) ?_; dsimp only)); refine bx_ (N := 4) (cs := #[.int .i64 0, .string (⟨#[]⟩ : ByteArray), .bool false]) (t := 72) (h := ?_); intro gb108 hg w20 hbox hb; have n3_ := mk0 (gz_ HB hg); have n4_ := mk0 (gz_ HB hg); have n5_ := mk0 (ne1_ BK106 hg); have n6_ := mk0 (ne2_ BK106 hg); replace BK106 := mk0 (u_ BK106 hb); replace HB := mk0 (bt_ (b_ HB) hb); have BK108 := mk0 (hbox); have GW108 := n3_; have GE108 := n4_; have NB106_108 := n5_; have NB108_106 := n6_; clear n3_ n4_ n5_ n6_ hb hbox hg; have hnb21 := NB108_106.out; have hnc21 := NB106_108.out; obtain ⟨hcz22_0, hcz22_1, hcz22_2, hfz22_0, hfz22_1, hfz22_2⟩ := c3_ BK108))
            have n0_ : Fc ((((w20.setCell ⟨gb108, 0, none⟩ (.int .i64 ((rd_T72 l0_1 x8_1).f0))).setCell ⟨gb108, 1, none⟩ (.string ((rd_T72 l0_1 x8_1).f1))).setCell ⟨gb108, 2, none⟩ (.bool ((rd_T72 l0_1 x8_1).f2))).heap[gb106]? = some (.cells #[.string a0_0, .slice (some ad107) l0_1.length c0_1] 99 (0, 0))) := ⟨(fa_ (fa_ (fa_ (h_ BK106) NB106_108.out) NB106_108.out) NB106_108.out)⟩
            have n1_ : Fc ((((w20.setCell ⟨gb108, 0, none⟩ (.int .i64 ((rd_T72 l0_1 x8_1).f0))).setCell ⟨gb108, 1, none⟩ (.string ((rd_T72 l0_1 x8_1).f1))).setCell ⟨gb108, 2, none⟩ (.bool ((rd_T72 l0_1 x8_1).f2))).heap[gb108]? = some (.cells #[.int .i64 ((rd_T72 l0_1 x8_1).f0), .string ((rd_T72 l0_1 x8_1).f1), .bool ((rd_T72 l0_1 x8_1).f2)] 72 (0, 0))) := ⟨(pu_ (cs := #[.int .i64 ((rd_T72 l0_1 x8_1).f0), .string ((rd_T72 l0_1 x8_1).f1), .bool false]) (pu_ (cs := #[.int .i64 ((rd_T72 l0_1 x8_1).f0), .string (⟨#[]⟩ : ByteArray), .bool false]) (pu_ (cs := #[.int .i64 0, .string (⟨#[]⟩ : ByteArray), .bool false]) (h_ BK108))))⟩
            have n2_ : Fc (Below w.heap.size w (((w20.setCell ⟨gb108, 0, none⟩ (.int .i64 ((rd_T72 l0_1 x8_1).f0))).setCell ⟨gb108, 1, none⟩ (.string ((rd_T72 l0_1 x8_1).f1))).setCell ⟨gb108, 2, none⟩ (.bool ((rd_T72 l0_1 x8_1).f2)))) := ⟨b_ HB⟩
            (try clear BK106)
            (try clear BK108)
            (try clear HB)
            generalize (((w20.setCell ⟨gb108, 0, none⟩ (.int .i64 ((rd_T72 l0_1 x8_1).f0))).setCell ⟨gb108, 1, none⟩ (.string ((rd_T72 l0_1 x8_1).f1))).setCell ⟨gb108, 2, none⟩ (.bool ((rd_T72 l0_1 x8_1).f2))) = w23 at n0_ n1_ n2_ ⊢
            have BK106 := n0_
            have BK108 := n1_
            have HB := n2_
            clear n0_ n1_ n2_
            replace BK106 := mk0 (bD_ BK106.out)
            replace BK108 := mk0 (bD_ BK108.out)
            replace HB := mk0 (b1_ HB.out)
            have p110 : 0 ≤ ((ji10) : Int) := of_decide_eq_true (by first | (with_reducible assumption) | assumption)
            have q110 : (ji10) < (l0_1.length : Int) := of_decide_eq_true (by first | (with_reducible assumption) | assumption)
            obtain ⟨ad110, e110, hx110_0, hx110_1, hx110_2⟩ := at_T72 HR0_1.out (ji10) p110 q110
            have hw110_2 := hx110_2
            have hw110_1 := hx110_1
            have hw110_0 := hx110_0
            obtain rfl : ad107 = ad110 := (by injection e110)
            replace hx110_0 := (bc_ HB hx110_0 :)
            replace hx110_1 := (bc_ HB hx110_1 :)
            replace hx110_2 := (bc_ HB hx110_2 :)
            replace p110 := eq_true p110
            replace q110 := eq_true q110
            refine start_ (n := 19) (S := fun w' => w'.cell? ⟨gb108, 0, none⟩ = some (.int .i64 ((rd_T72 l0_1 x8_1).f0)) ∧ w'.cell? ⟨gb108, 1, none⟩ = some (.string ((rd_T72 l0_1 x8_1).f1)) ∧ w'.cell? ⟨gb108, 2, none⟩ = some (.bool ((rd_T72 l0_1 x8_1).f2)) ∧ w'.cell? ⟨gb106, 0, none⟩ = some (.string a0_0) ∧ w'.cell? ⟨gb106, 1, none⟩ = some (.slice (some ad107) l0_1.length c0_1) ∧ w'.cell? (ad107.add (((ji10)).toNat * 3)) = some (.int .i64 ((rd_T72 l0_1 (ji10)).f0)) ∧ w'.cell? ⟨(ad107.add (((ji10)).toNat * 3)).block, (ad107.add (((ji10)).toNat * 3)).off + 1, none⟩ = some (.string ((rd_T72 l0_1 (ji10)).f1)) ∧ w'.cell? ⟨(ad107.add (((ji10)).toNat * 3)).block, (ad107.add (((ji10)).toNat * 3)).off + 2, none⟩ = some (.bool ((rd_T72 l0_1 (ji10)).f2))) (ds := []) (bt 19 0) (by kernel_rfl) rfl rfl ⟨bk_ BK108 0, bk_ BK108 1, bk_ BK108 2, bk_ BK106 0, bk_ BK106 1, ((bc_ HB hw110_0 :)), ((bc_ HB hw110_1 :)), ((bc_ HB hw110_2 :))⟩ (fun hHeld => ?_); refine with_tabW chain_May.tab4 chain_May.bits4 (fun HT_ HW_ => ?_)
            generalize w23.drew = w24 at BK106 BK108 HB hx110_0 hx110_1 hx110_2 hHeld ⊢
            refine tq8_ HT_.out HW_.out 0 13 (bt 19 1) hHeld (h := ?_)
            refine one_ (i := 1) (N := some 14) (bt 19 3) rfl rfl (one_of HT_.out (by kernel_rfl)) (by decide) (fun K hK => ?_)
            refine goes_ Try.func179 (by kernel_rfl) rfl #[.agg #[.int .i64 ((rd_T72 l0_1 x8_1).f0), .string ((rd_T72 l0_1 x8_1).f1), .bool ((rd_T72 l0_1 x8_1).f2)]] (by rfl) rfl rfl (by (try simp only [List.map_toArray, List.map_cons, List.map_nil]); first | done | rfl | (simp only [List.length_drop, List.length_take]; rfl)) ?_
            with_reducible refine (chain_version.calls ((rd_T72 l0_1 x8_1).f0) ((rd_T72 l0_1 x8_1).f1) ((rd_T72 l0_1 x8_1).f2) true _ A7.out).mono ?_
            rintro e w25 ⟨rfl, hb⟩
            refine ⟨_, rfl, ?_⟩
            replace BK106 := mk0 (u_ BK106 hb)
            replace BK108 := mk0 (u_ BK108 hb)
            replace HB := mk0 (bt_ (b_ HB) hb)
            (try clear hb)
            (try clear hb2)
            (try clear hk)
            (try clear hi)
            refine hK.out _ _ ⟨bk_ BK108 0, bk_ BK108 1, bk_ BK108 2, bk_ BK106 0, bk_ BK106 1, ((bc_ HB hw110_0 :)), ((bc_ HB hw110_1 :)), ((bc_ HB hw110_2 :))⟩ (fun hHeld => ?_)
            clear hK K
            refine norm_ (a' := ?_) ?_ ?_
            rotate_left
            ·show Act.put _ (some 14) _ = _
             simp only [z_]
             rfl
            refine pq_ HT_.out 2 15 (bt 19 7) (h := ?_)
            refine pq_ HT_.out 3 16 (bt 19 15) (h := ?_)
            refine pq_ HT_.out 4 17 (bt 19 31) (h := ?_)
            refine pq_ HT_.out 5 18 (bt 19 63) (h := ?_)
            refine pq_ HT_.out 6 19 (bt 19 127) (h := ?_)
            refine pq_ HT_.out 7 20 (bt 19 255) (h := ?_)
            refine pq_ HT_.out 9 22 (bt 19 767) (h := ?_)
            refine pq_ HT_.out 11 24 (bt 19 2815) (h := ?_)
            refine pq_ HT_.out 12 25 (bt 19 6911) (h := ?_)
            refine tq8_ HT_.out HW_.out 8 21 (bt 19 7167) hHeld (h := ?_)
            refine tq8_ HT_.out HW_.out 10 23 (bt 19 8191) hHeld (h := ?_)
            refine pq_ HT_.out 13 26 (bt 19 16383) (h := ?_)
            refine pq_ HT_.out 14 27 (bt 19 32767) (h := ?_)
            refine tq8_ HT_.out HW_.out 15 28 (bt 19 65535) hHeld (h := ?_)
            refine pq_ HT_.out 16 29 (bt 19 131071) (h := ?_)
            refine pq_ HT_.out 17 30 (bt 19 262143) (h := ?_)
            refine pq_ HT_.out 18 31 (bt 19 524287) (h := ?_)
            refine done_ (done_of HT_.out (by kernel_rfl)) ?_
            try go_wp2
            go_roundg k1
            case measure => have := HK1.out; omega
            case rel => exact ⟨(wrap64 (x8_1 + 1)), (by first | rfl | (simp; done) | (simp [*]; done)), H', ⟨by have := HK1.out; omega⟩, ⟨h_ BK106⟩, ⟨b_ HB⟩⟩
          ·rw [if_neg c12] at H
           exact absurd H (by simp)
         ·rw [if_neg c11] at H
          exact absurd H (by simp)
        ·rw [if_neg c9] at H
         have c9b0 : decide (0 < x8_1) = false := decide_eq_false c9
         clear c9
         have H' := mk0 H
         clear H
         have p107 : 0 ≤ (x8_1 : Int) := of_decide_eq_true (by first | (with_reducible assumption) | assumption)
         have q107 : x8_1 < (l0_1.length : Int) := of_decide_eq_true (by first | (with_reducible assumption) | assumption)
         obtain ⟨ad107, e107, hx107_0, hx107_1, hx107_2⟩ := at_T72 HR0_1.out x8_1 p107 q107
         cases e107
         replace hx107_0 := (bc_ HB hx107_0 :)
         replace hx107_1 := (bc_ HB hx107_1 :)
         replace hx107_2 := (bc_ HB hx107_2 :)
         replace p107 := eq_true p107
         replace q107 := eq_true q107
         try go_wp2_with (first | ((with_reducible refine gate_dst (N := 4) rfl ?_); (try (refine gate_guard (by rfl) ?_; dsimp only)); refine bx_ (N := 4) (cs := #[.int .i64 0, .string (⟨#[]⟩ : ByteArray), .bool false]) (t := 72) (h := ?_); intro gb108 hg w26 hbox hb; have n3_ := mk0 (gz_ HB hg); have n4_ := mk0 (gz_ HB hg); have n5_ := mk0 (ne1_ BK106 hg); have n6_ := mk0 (ne2_ BK106 hg); replace BK106 := mk0 (u_ BK106 hb); replace HB := mk0 (bt_ (b_ HB) hb); have BK108 := mk0 (hbox); have GW108 := n3_; have GE108 := n4_; have NB106_108 := n5_; have NB108_106 := n6_; clear n3_ n4_ n5_ n6_ hb hbox hg; have hnb27 := NB108_106.out; have hnc27 := NB106_108.out; obtain ⟨hcz28_0, hcz28_1, hcz28_2, hfz28_0, hfz28_1, hfz28_2⟩ := c3_ BK108))
         have n0_ : Fc ((((w26.setCell ⟨gb108, 0, none⟩ (.int .i64 ((rd_T72 l0_1 x8_1).f0))).setCell ⟨gb108, 1, none⟩ (.string ((rd_T72 l0_1 x8_1).f1))).setCell ⟨gb108, 2, none⟩ (.bool ((rd_T72 l0_1 x8_1).f2))).heap[gb106]? = some (.cells #[.string a0_0, .slice (some ad107) l0_1.length c0_1] 99 (0, 0))) := ⟨(fa_ (fa_ (fa_ (h_ BK106) NB106_108.out) NB106_108.out) NB106_108.out)⟩
         have n1_ : Fc ((((w26.setCell ⟨gb108, 0, none⟩ (.int .i64 ((rd_T72 l0_1 x8_1).f0))).setCell ⟨gb108, 1, none⟩ (.string ((rd_T72 l0_1 x8_1).f1))).setCell ⟨gb108, 2, none⟩ (.bool ((rd_T72 l0_1 x8_1).f2))).heap[gb108]? = some (.cells #[.int .i64 ((rd_T72 l0_1 x8_1).f0), .string ((rd_T72 l0_1 x8_1).f1), .bool ((rd_T72 l0_1 x8_1).f2)] 72 (0, 0))) := ⟨(pu_ (cs := #[.int .i64 ((rd_T72 l0_1 x8_1).f0), .string ((rd_T72 l0_1 x8_1).f1), .bool false]) (pu_ (cs := #[.int .i64 ((rd_T72 l0_1 x8_1).f0), .string (⟨#[]⟩ : ByteArray), .bool false]) (pu_ (cs := #[.int .i64 0, .string (⟨#[]⟩ : ByteArray), .bool false]) (h_ BK108))))⟩
         have n2_ : Fc (Below w.heap.size w (((w26.setCell ⟨gb108, 0, none⟩ (.int .i64 ((rd_T72 l0_1 x8_1).f0))).setCell ⟨gb108, 1, none⟩ (.string ((rd_T72 l0_1 x8_1).f1))).setCell ⟨gb108, 2, none⟩ (.bool ((rd_T72 l0_1 x8_1).f2)))) := ⟨b_ HB⟩
         (try clear BK106)
         (try clear BK108)
         (try clear HB)
         generalize (((w26.setCell ⟨gb108, 0, none⟩ (.int .i64 ((rd_T72 l0_1 x8_1).f0))).setCell ⟨gb108, 1, none⟩ (.string ((rd_T72 l0_1 x8_1).f1))).setCell ⟨gb108, 2, none⟩ (.bool ((rd_T72 l0_1 x8_1).f2))) = w29 at n0_ n1_ n2_ ⊢
         have BK106 := n0_
         have BK108 := n1_
         have HB := n2_
         clear n0_ n1_ n2_
         replace BK106 := mk0 (bD_ BK106.out)
         replace BK108 := mk0 (bD_ BK108.out)
         replace HB := mk0 (b1_ HB.out)
         refine start_ (n := 19) (S := fun w' => w'.cell? ⟨gb108, 0, none⟩ = some (.int .i64 ((rd_T72 l0_1 x8_1).f0)) ∧ w'.cell? ⟨gb108, 1, none⟩ = some (.string ((rd_T72 l0_1 x8_1).f1)) ∧ w'.cell? ⟨gb108, 2, none⟩ = some (.bool ((rd_T72 l0_1 x8_1).f2))) (ds := []) (bt 19 0) (by kernel_rfl) rfl rfl ⟨bk_ BK108 0, bk_ BK108 1, bk_ BK108 2⟩ (fun hHeld => ?_); refine with_tabW chain_May.tab4 chain_May.bits4 (fun HT_ HW_ => ?_)
         generalize w29.drew = w30 at BK106 BK108 HB hHeld ⊢
         refine tq3_ HT_.out HW_.out 0 13 (bt 19 1) hHeld (h := ?_)
         refine one_ (i := 1) (N := some 14) (bt 19 3) rfl rfl (one_of HT_.out (by kernel_rfl)) (by decide) (fun K hK => ?_)
         refine goes_ Try.func179 (by kernel_rfl) rfl #[.agg #[.int .i64 ((rd_T72 l0_1 x8_1).f0), .string ((rd_T72 l0_1 x8_1).f1), .bool ((rd_T72 l0_1 x8_1).f2)]] (by rfl) rfl rfl (by (try simp only [List.map_toArray, List.map_cons, List.map_nil]); first | done | rfl | (simp only [List.length_drop, List.length_take]; rfl)) ?_
         with_reducible refine (chain_version.calls ((rd_T72 l0_1 x8_1).f0) ((rd_T72 l0_1 x8_1).f1) ((rd_T72 l0_1 x8_1).f2) true _ A7.out).mono ?_
         rintro e w31 ⟨rfl, hb⟩
         refine ⟨_, rfl, ?_⟩
         replace BK106 := mk0 (u_ BK106 hb)
         replace BK108 := mk0 (u_ BK108 hb)
         replace HB := mk0 (bt_ (b_ HB) hb)
         (try clear hb)
         (try clear hb2)
         (try clear hk)
         (try clear hi)
         refine hK.out _ _ ⟨bk_ BK108 0, bk_ BK108 1, bk_ BK108 2⟩ (fun hHeld => ?_)
         clear hK K
         refine norm_ (a' := ?_) ?_ ?_
         rotate_left
         ·show Act.put _ (some 14) _ = _
          simp only [z_]
          rfl
         refine pq_ HT_.out 2 15 (bt 19 7) (h := ?_)
         refine pq_ HT_.out 3 16 (bt 19 15) (h := ?_)
         refine pq_ HT_.out 4 17 (bt 19 31) (h := ?_)
         refine pq_ HT_.out 5 18 (bt 19 63) (h := ?_)
         refine pq_ HT_.out 6 19 (bt 19 127) (h := ?_)
         refine uq_ HT_.out 7 20 (bt 19 255) (h := ?_)
         refine uq_ HT_.out 8 21 (bt 19 511) (h := ?_)
         refine uq_ HT_.out 9 22 (bt 19 1023) (h := ?_)
         refine uq_ HT_.out 10 23 (bt 19 2047) (h := ?_)
         refine uq_ HT_.out 11 24 (bt 19 4095) (h := ?_)
         refine uq_ HT_.out 12 25 (bt 19 8191) (h := ?_)
         refine uq_ HT_.out 13 26 (bt 19 16383) (h := ?_)
         refine uq_ HT_.out 14 27 (bt 19 32767) (h := ?_)
         refine uq_ HT_.out 15 28 (bt 19 65535) (h := ?_)
         refine uq_ HT_.out 16 29 (bt 19 131071) (h := ?_)
         refine pq_ HT_.out 17 30 (bt 19 262143) (h := ?_)
         refine pq_ HT_.out 18 31 (bt 19 524287) (h := ?_)
         refine done_ (done_of HT_.out (by kernel_rfl)) ?_
         try go_wp2
         go_roundg k1
         case measure => have := HK1.out; omega
         case rel => exact ⟨(wrap64 (x8_1 + 1)), (by first | rfl | (simp; done) | (simp [*]; done)), H', ⟨by have := HK1.out; omega⟩, ⟨h_ BK106⟩, ⟨b_ HB⟩⟩
       ·replace c8 := Bool.eq_false_iff.mpr c8
        subst c8
        rw [if_neg (show ¬ (false = true) by decide)] at H
        obtain rfl := Option.some.inj H
        have p107 : 0 ≤ (x8_1 : Int) := of_decide_eq_true (by first | (with_reducible assumption) | assumption)
        have q107 : x8_1 < (l0_1.length : Int) := of_decide_eq_true (by first | (with_reducible assumption) | assumption)
        obtain ⟨ad107, e107, hx107_0, hx107_1, hx107_2⟩ := at_T72 HR0_1.out x8_1 p107 q107
        cases e107
        replace hx107_0 := (bc_ HB hx107_0 :)
        replace hx107_1 := (bc_ HB hx107_1 :)
        replace hx107_2 := (bc_ HB hx107_2 :)
        replace p107 := eq_true p107
        replace q107 := eq_true q107
        try go_wp2_with (first | ((with_reducible refine gate_dst (N := 4) rfl ?_); (try (refine gate_guard (by rfl) ?_; dsimp only)); refine bx_ (N := 4) (cs := #[.int .i64 0, .string (⟨#[]⟩ : ByteArray), .bool false]) (t := 72) (h := ?_); intro gb108 hg w32 hbox hb; have n3_ := mk0 (gz_ HB hg); have n4_ := mk0 (gz_ HB hg); have n5_ := mk0 (ne1_ BK106 hg); have n6_ := mk0 (ne2_ BK106 hg); replace BK106 := mk0 (u_ BK106 hb); replace HB := mk0 (bt_ (b_ HB) hb); have BK108 := mk0 (hbox); have GW108 := n3_; have GE108 := n4_; have NB106_108 := n5_; have NB108_106 := n6_; clear n3_ n4_ n5_ n6_ hb hbox hg; have hnb33 := NB108_106.out; have hnc33 := NB106_108.out; obtain ⟨hcz34_0, hcz34_1, hcz34_2, hfz34_0, hfz34_1, hfz34_2⟩ := c3_ BK108))
        have n0_ : Fc ((((w32.setCell ⟨gb108, 0, none⟩ (.int .i64 ((rd_T72 l0_1 x8_1).f0))).setCell ⟨gb108, 1, none⟩ (.string ((rd_T72 l0_1 x8_1).f1))).setCell ⟨gb108, 2, none⟩ (.bool ((rd_T72 l0_1 x8_1).f2))).heap[gb106]? = some (.cells #[.string a0_0, .slice (some ad107) l0_1.length c0_1] 99 (0, 0))) := ⟨(fa_ (fa_ (fa_ (h_ BK106) NB106_108.out) NB106_108.out) NB106_108.out)⟩
        have n1_ : Fc ((((w32.setCell ⟨gb108, 0, none⟩ (.int .i64 ((rd_T72 l0_1 x8_1).f0))).setCell ⟨gb108, 1, none⟩ (.string ((rd_T72 l0_1 x8_1).f1))).setCell ⟨gb108, 2, none⟩ (.bool ((rd_T72 l0_1 x8_1).f2))).heap[gb108]? = some (.cells #[.int .i64 ((rd_T72 l0_1 x8_1).f0), .string ((rd_T72 l0_1 x8_1).f1), .bool ((rd_T72 l0_1 x8_1).f2)] 72 (0, 0))) := ⟨(pu_ (cs := #[.int .i64 ((rd_T72 l0_1 x8_1).f0), .string ((rd_T72 l0_1 x8_1).f1), .bool false]) (pu_ (cs := #[.int .i64 ((rd_T72 l0_1 x8_1).f0), .string (⟨#[]⟩ : ByteArray), .bool false]) (pu_ (cs := #[.int .i64 0, .string (⟨#[]⟩ : ByteArray), .bool false]) (h_ BK108))))⟩
        have n2_ : Fc (Below w.heap.size w (((w32.setCell ⟨gb108, 0, none⟩ (.int .i64 ((rd_T72 l0_1 x8_1).f0))).setCell ⟨gb108, 1, none⟩ (.string ((rd_T72 l0_1 x8_1).f1))).setCell ⟨gb108, 2, none⟩ (.bool ((rd_T72 l0_1 x8_1).f2)))) := ⟨b_ HB⟩
        (try clear BK106)
        (try clear BK108)
        (try clear HB)
        generalize (((w32.setCell ⟨gb108, 0, none⟩ (.int .i64 ((rd_T72 l0_1 x8_1).f0))).setCell ⟨gb108, 1, none⟩ (.string ((rd_T72 l0_1 x8_1).f1))).setCell ⟨gb108, 2, none⟩ (.bool ((rd_T72 l0_1 x8_1).f2))) = w35 at n0_ n1_ n2_ ⊢
        have BK106 := n0_
        have BK108 := n1_
        have HB := n2_
        clear n0_ n1_ n2_
        replace BK106 := mk0 (bD_ BK106.out)
        replace BK108 := mk0 (bD_ BK108.out)
        replace HB := mk0 (b1_ HB.out)
        refine start_ (n := 19) (S := fun w' => w'.cell? ⟨gb108, 0, none⟩ = some (.int .i64 ((rd_T72 l0_1 x8_1).f0)) ∧ w'.cell? ⟨gb108, 1, none⟩ = some (.string ((rd_T72 l0_1 x8_1).f1)) ∧ w'.cell? ⟨gb108, 2, none⟩ = some (.bool ((rd_T72 l0_1 x8_1).f2))) (ds := []) (bt 19 0) (by kernel_rfl) rfl rfl ⟨bk_ BK108 0, bk_ BK108 1, bk_ BK108 2⟩ (fun hHeld => ?_); refine with_tabW chain_May.tab4 chain_May.bits4 (fun HT_ HW_ => ?_)
        generalize w35.drew = w36 at BK106 BK108 HB hHeld ⊢
        refine tq3_ HT_.out HW_.out 0 13 (bt 19 1) hHeld (h := ?_)
        refine one_ (i := 1) (N := some 14) (bt 19 3) rfl rfl (one_of HT_.out (by kernel_rfl)) (by decide) (fun K hK => ?_)
        refine goes_ Try.func179 (by kernel_rfl) rfl #[.agg #[.int .i64 ((rd_T72 l0_1 x8_1).f0), .string ((rd_T72 l0_1 x8_1).f1), .bool ((rd_T72 l0_1 x8_1).f2)]] (by rfl) rfl rfl (by (try simp only [List.map_toArray, List.map_cons, List.map_nil]); first | done | rfl | (simp only [List.length_drop, List.length_take]; rfl)) ?_
        with_reducible refine (chain_version.calls ((rd_T72 l0_1 x8_1).f0) ((rd_T72 l0_1 x8_1).f1) ((rd_T72 l0_1 x8_1).f2) false _ A7.out).mono ?_
        rintro e w37 ⟨rfl, hb⟩
        refine ⟨_, rfl, ?_⟩
        replace BK106 := mk0 (u_ BK106 hb)
        replace BK108 := mk0 (u_ BK108 hb)
        replace HB := mk0 (bt_ (b_ HB) hb)
        (try clear hb)
        (try clear hb2)
        (try clear hk)
        (try clear hi)
        refine hK.out _ _ ⟨bk_ BK108 0, bk_ BK108 1, bk_ BK108 2⟩ (fun hHeld => ?_)
        clear hK K
        refine norm_ (a' := ?_) ?_ ?_
        rotate_left
        ·show Act.put _ (some 14) _ = _
         simp only [z_]
         rfl
        refine pq_ HT_.out 2 15 (bt 19 7) (h := ?_)
        refine pq_ HT_.out 3 16 (bt 19 15) (h := ?_)
        refine uq_ HT_.out 4 17 (bt 19 31) (h := ?_)
        refine uq_ HT_.out 5 18 (bt 19 63) (h := ?_)
        refine uq_ HT_.out 6 19 (bt 19 127) (h := ?_)
        refine uq_ HT_.out 7 20 (bt 19 255) (h := ?_)
        refine uq_ HT_.out 8 21 (bt 19 511) (h := ?_)
        refine uq_ HT_.out 9 22 (bt 19 1023) (h := ?_)
        refine uq_ HT_.out 10 23 (bt 19 2047) (h := ?_)
        refine uq_ HT_.out 11 24 (bt 19 4095) (h := ?_)
        refine uq_ HT_.out 12 25 (bt 19 8191) (h := ?_)
        refine uq_ HT_.out 13 26 (bt 19 16383) (h := ?_)
        refine uq_ HT_.out 14 27 (bt 19 32767) (h := ?_)
        refine uq_ HT_.out 15 28 (bt 19 65535) (h := ?_)
        refine uq_ HT_.out 16 29 (bt 19 131071) (h := ?_)
        refine uq_ HT_.out 17 30 (bt 19 262143) (h := ?_)
        refine pq_ HT_.out 18 31 (bt 19 524287) (h := ?_)
        refine done_ (done_of HT_.out (by kernel_rfl)) ?_
        try go_wp2
        go_ret
        exact ⟨by first | rfl | (simp [errW_none, errW_some] <;> rfl) | (simp [*, errW_none, errW_some] <;> rfl), b_ HB⟩
      ·rw [if_neg c6] at H
       exact absurd H (by simp)
     ·rw [if_neg c5] at H
      exact absurd H (by simp)
    ·rw [if_neg c4] at H
     have c4b0 : decide (x8_1 < (l0_1.length : Int)) = false := decide_eq_false c4
     clear c4
     replace H := Option.bind_eq_some_iff.mp H
     obtain ⟨t111, A380, H⟩ := H
     try dsimp only at H
     have A38 := mk0 A380
     clear A380
     by_cases c39 : t111 = true
     ·subst c39
      rw [if_pos rfl] at H
      obtain rfl := Option.some.inj H
      obtain ⟨hcz40_0, hcz40_1, hfz40_0, hfz40_1⟩ := c2_ BK106
      go_wp2_with (first | ((with_reducible refine gate_callee (f := 42) rfl ?_); refine gL_ (some 35) Try.func42 #[.string a0_0] (h := ?_); (with_reducible refine (key_Is.calls a0_0 true _ A38.out).mono ?_); rintro e w' ⟨rfl, ⟨nd, rfl⟩⟩; refine ⟨_, rfl, ?_⟩))
      go_ret
      exact ⟨by first | rfl | (simp [errW_none, errW_some] <;> rfl) | (simp [*, errW_none, errW_some] <;> rfl), b_ HB⟩
     ·replace c39 := Bool.eq_false_iff.mpr c39
      subst c39
      rw [if_neg (show ¬ (false = true) by decide)] at H
      obtain rfl := Option.some.inj H
      obtain ⟨hcz41_0, hcz41_1, hfz41_0, hfz41_1⟩ := c2_ BK106
      go_wp2_with (first | ((with_reducible refine gate_callee (f := 42) rfl ?_); refine gL_ (some 35) Try.func42 #[.string a0_0] (h := ?_); (with_reducible refine (key_Is.calls a0_0 false _ A38.out).mono ?_); rintro e w' ⟨rfl, ⟨nd, rfl⟩⟩; refine ⟨_, rfl, ?_⟩))
      go_ret
      exact ⟨by first | rfl | (simp [errW_none, errW_some] <;> rfl) | (simp [*, errW_none, errW_some] <;> rfl), b_ HB⟩

end Go.Proofs.Ytbaecdcfefmcgaa.PVow
