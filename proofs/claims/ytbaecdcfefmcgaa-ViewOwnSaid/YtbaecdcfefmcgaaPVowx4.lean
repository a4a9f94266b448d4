-- PRINTED by print.py (a twelfth state) out of the translation. Not trusted: Lean checks it.
import Derived.Test.YtbaecdcfefmcgaaPVowx0
namespace Go.Proofs.Ytbaecdcfefmcgaa.PVow
open Go.RowKit Go.Proofs.YtbaecdcfefmcgaaW.PrintWords Go.Proofs.YtbaecdcfefmcgaaW.PrintLast Go.Proofs.YtbaecdcfefmcgaaW.PrintMore
attribute [local go_sem] max2_int min2_int max_two min_two max_three min_three max_four min_four   -- for this text's walks alone
set_option linter.unusedVariables false
set_option linter.unusedSimpArgs false

/-! ### quorumref8_Count: function 75 -/
def quorumref8_Count.l0 : Nat → Int → Int → List (S99) → Option (Int)
 | 0, _, _, _ => none
 | k + 1, x3, x4, x138000 => if x4 < (x138000.length : Int) then (if 0 ≤ x4 then (quorumref8_Count.l0 k (wrap64 (x3 + (((rd_T99 x138000 x4).f1).length : Int))) (wrap64 (x4 + 1)) x138000) else (none)) else (some x3)
def quorumref8_Count.f (k : Nat) (l0_0 : List (S99)) : Option (Int) := quorumref8_Count.l0 k 0 0 l0_0
theorem quorumref8_Count.mono_l : ∀ k, (∀ y0 y1 y2, LeO (quorumref8_Count.l0 k y0 y1 y2) (quorumref8_Count.l0 (k + 1) y0 y1 y2))
 | 0 => fun _ _ _ r h => by simp [quorumref8_Count.l0] at h
 | k + 1 => by
  have ih0 := quorumref8_Count.mono_l k
  ·intro y0 y1 y2
   unfold quorumref8_Count.l0
   repeat' first
   | (with_reducible exact ih0 _ _ _)
   | (with_reducible exact LeO.refl _)
   | (with_reducible exact LeO.none _)
   | (with_reducible refine LeO.ite ?_ ?_)
   | (with_reducible refine LeO.bind ?_ (fun _ => ?_))
   | exact ih0 _ _ _
   | exact LeO.none _
   | refine LeO.ite ?_ ?_
   | refine LeO.bind ?_ (fun _ => ?_)
theorem quorumref8_Count.mono : ∀ a0 k, LeO (quorumref8_Count.f k a0) (quorumref8_Count.f (k + 1) a0) := by
 intro a0 k
 have ih0 := quorumref8_Count.mono_l k
 unfold quorumref8_Count.f
 repeat' first
   | (with_reducible exact ih0 _ _ _)
   | (with_reducible exact LeO.refl _)
   | (with_reducible exact LeO.none _)
   | (with_reducible refine LeO.ite ?_ ?_)
   | (with_reducible refine LeO.bind ?_ (fun _ => ?_))
   | exact ih0 _ _ _
   | exact LeO.none _
   | refine LeO.ite ?_ ?_
   | refine LeO.bind ?_ (fun _ => ?_)
set_option maxHeartbeats 8000000 in
set_option maxRecDepth 100000 in
theorem quorumref8_Count.calls (k : Nat) (A0_0 : Option Addr) (c0_0 : Nat) (l0_0 : List (S99)) (r : Int) (w : World) (hr0_0 : Kd.C k99 w A0_0 l0_0.length l0_0) (hc0_0 : l0_0.length ≤ c0_0) (h : quorumref8_Count.f k l0_0 = some r) :
  Calls Try.prog 75 #[.agg #[.slice A0_0 l0_0.length c0_0]] w fun e w' => e = .returned (.int .i64 r) ∧ Below w.heap.size w w' := by
 have hu47 := Try.underlying47
 have HR0_0 := mk0 hr0_0
 have HC0_0 := mk0 hc0_0
 clear hr0_0 hc0_0
 have HB := mk0 (Below.refl w.heap.size w)
 have H : (quorumref8_Count.l0 k 0 0 l0_0) = some r := h
 clear h
 have H' := mk0 H
 clear H
 go_enter Try.func75, Try.ntmps75
 go_wp2_with (first | ((with_reducible refine gate_dst (N := 1) rfl ?_); refine bx_ (N := 1) (cs := #[.slice A0_0 l0_0.length c0_0]) (t := 47) (h := ?_); intro gb137 hg w2 hbox hb; have n2_ := mk0 (gz_ HB hg); have n3_ := mk0 (gz_ HB hg); replace HB := mk0 (bt_ (b_ HB) hb); have BK137 := mk0 (hbox); have GW137 := n2_; have GE137 := n3_; clear n2_ n3_; clear hb hbox hg))
 go_loopg [3, 4] k (fun kq v3 v4 w' => ∃ (x3_1 : Int) (x4_1 : Int), v3 = .int .i64 x3_1 ∧ v4 = .int .i64 x4_1 ∧ Fc (quorumref8_Count.l0 kq x3_1 x4_1 l0_0 = some r) ∧ Fc (kq ≤ k) ∧ Fc (w'.heap[gb137]? = some (.cells #[(.slice A0_0 l0_0.length c0_0)] 47 (0, 0))) ∧ Fc (Below w.heap.size w w'))
 case atStart => exact ⟨(0), (0), (by first | rfl | (simp; done) | (simp [*]; done)), (by first | rfl | (simp; done) | (simp [*]; done)), H', ⟨Nat.le_refl _⟩, ⟨h_ BK137⟩, ⟨b_ HB⟩⟩
 case round =>
  clear H'
  obtain ⟨x3_1, x4_1, rfl, rfl, HA, HK1, BK137, HB⟩ := hrel
  cases gk with
  | zero => exact absurd HA.out (by simp [quorumref8_Count.l0])
  | succ k1 =>
   have H := HA.out
   clear HA
   simp only [quorumref8_Count.l0] at H
   as_aux_lemma =>
    by_cases c3 : x4_1 < (l0_0.length : Int)
    ·rw [if_pos c3] at H
     have c3b0 : decide (x4_1 < (l0_0.length : Int)) = true := decide_eq_true c3
     clear c3
     by_cases c4 : 0 ≤ x4_1
     ·rw [if_pos c4] at H
      have c4b0 : decide (0 ≤ x4_1) = true := decide_eq_true c4
      clear c4
      have H' := mk0 H
      clear H
      obtain ⟨hcz5_0, hfz5_0⟩ := c1_ BK137
      have p138 : 0 ≤ (x4_1 : Int) := of_decide_eq_true (by first | (with_reducible assumption) | assumption)
      have q138 : x4_1 < (l0_0.length : Int) := of_decide_eq_true (by first | (with_reducible assumption) | assumption)
      obtain ⟨ad138, A138_1, c138_1, e138, hx138_0, hx138_1, hl138_1, hi138_1⟩ := at_T99 HR0_0.out x4_1 p138 q138
      cases e138
      replace hx138_0 := (bc_ HB hx138_0 :)
      replace hx138_1 := (bc_ HB hx138_1 :)
      have HR138_1 := mk0 hi138_1
      have HC138_1 := mk0 hl138_1
      clear hi138_1 hl138_1
      replace p138 := eq_true p138
      replace q138 := eq_true q138
      go_wp2
      go_roundg k1
      case measure => have := HK1.out; omega
      case rel => exact ⟨(wrap64 (x3_1 + (((rd_T99 l0_0 x4_1).f1).length : Int))), (wrap64 (x4_1 + 1)), (by first | rfl | (simp; done) | (simp [*]; done)), (by first | rfl | (simp; done) | (simp [*]; done)), H', ⟨by have := HK1.out; omega⟩, ⟨h_ BK137⟩, ⟨b_ HB⟩⟩
     ·rw [if_neg c4] at H
      exact absurd H (by simp)
    ·rw [if_neg c3] at H
     have c3b0 : decide (x4_1 < (l0_0.length : Int)) = false := decide_eq_false c3
     clear c3
     obtain rfl := Option.some.inj H
     obtain ⟨hcz6_0, hfz6_0⟩ := c1_ BK137
     go_wp2
     go_ret
     exact ⟨by first | rfl | (simp [errW_none, errW_some] <;> rfl) | (simp [*, errW_none, errW_some] <;> rfl), b_ HB⟩

/-! ### quorumref0_Between: function 102 -/
def quorumref0_Between.f (a0 : Int) (a1 : Int) (a2 : Int) : Option (Bool) := if a0 ≥ a1 then (some (decide (a0 ≤ a2))) else (some false)
set_option maxHeartbeats 8000000 in
set_option maxRecDepth 100000 in
theorem quorumref0_Between.calls (a0 : Int) (a1 : Int) (a2 : Int) (r : Bool) (w : World) (h : quorumref0_Between.f a0 a1 a2 = some r) :
  Calls Try.prog 102 #[.int .i64 a0, .int .i64 a1, .int .i64 a2] w fun e w' => e = .returned (.bool r) ∧ Drawn0 w w' := by
 have H : (if a0 ≥ a1 then (some (decide (a0 ≤ a2))) else (some false)) = some r := h
 clear h
 by_cases c4 : a0 ≥ a1
 ·rw [if_pos c4] at H
  have c4b0 : decide (a1 ≤ a0) = true := decide_eq_true c4
  clear c4
  obtain rfl := Option.some.inj H
  go_enter Try.func102, Try.ntmps102
  go_wp2
  go_ret
  exact ⟨by first | rfl | (simp; done) | (simp [*]; done), by repeat (first | exact Drawn0.refl _ | apply Drawn0.step)⟩
 ·rw [if_neg c4] at H
  have c4b0 : decide (a1 ≤ a0) = false := decide_eq_false c4
  clear c4
  obtain rfl := Option.some.inj H
  go_enter Try.func102, Try.ntmps102
  go_wp2
  go_ret
  exact ⟨by first | rfl | (simp; done) | (simp [*]; done), by repeat (first | exact Drawn0.refl _ | apply Drawn0.step)⟩

/-! ### quorumref1_Key: function 62 -/
def quorumref1_Key.f (a0 : ByteArray) : Option (Bool) := (quorumref0_Between.f (a0.size : Int) 1 12).bind fun t139 => (some t139)
set_option maxHeartbeats 8000000 in
set_option maxRecDepth 100000 in
theorem quorumref1_Key.calls (a0 : ByteArray) (r : Bool) (w : World) (h : quorumref1_Key.f a0 = some r) :
  Calls Try.prog 62 #[.string a0] w fun e w' => e = .returned (.bool r) ∧ Drawn0 w w' := by
 have H : ((quorumref0_Between.f (a0.size : Int) 1 12).bind fun t139 => (some t139)) = some r := h
 clear h
 replace H := Option.bind_eq_some_iff.mp H
 obtain ⟨t139, A20, H⟩ := H
 try dsimp only at H
 have A2 := mk0 A20
 clear A20
 obtain rfl := Option.some.inj H
 go_enter Try.func62, Try.ntmps62
 go_wp2_with (first | ((with_reducible refine gate_callee (f := 102) rfl ?_); refine gL_ (some 5) Try.func102 #[.int .i64 (a0.size : Int), .int .i64 1, .int .i64 12] (h := ?_); (with_reducible refine (quorumref0_Between.calls (a0.size : Int) 1 12 t139 _ A2.out).mono ?_); rintro e w' ⟨rfl, ⟨nd, rfl⟩⟩; refine ⟨_, rfl, ?_⟩))
 go_ret
 exact ⟨by first | rfl | (simp; done) | (simp [*]; done), by repeat (first | exact Drawn0.refl _ | apply Drawn0.step)⟩

/-! ### quorumref1_Value: function 93 -/
def quorumref1_Value.f (a0 : ByteArray) : Option (Bool) := some (decide ((a0.size : Int) ≤ 20))
set_option maxHeartbeats 8000000 in
set_option maxRecDepth 100000 in
theorem quorumref1_Value.calls (a0 : ByteArray) (r : Bool) (w : World) (h : quorumref1_Value.f a0 = some r) :
  Calls Try.prog 93 #[.string a0] w fun e w' => e = .returned (.bool r) ∧ Drawn0 w w' := by
 have H : (some (decide ((a0.size : Int) ≤ 20))) = some r := h
 clear h
 obtain rfl := Option.some.inj H
 go_enter Try.func93, Try.ntmps93
 go_wp2
 go_ret
 exact ⟨by first | rfl | (simp; done) | (simp [*]; done), by repeat (first | exact Drawn0.refl _ | apply Drawn0.step)⟩

/-! ### quorumref8_Version: function 143 -/
def quorumref8_Version.f (a0_0 : Int) (a0_1 : ByteArray) (a0_2 : Bool) : Option (Bool) := (quorumref0_Between.f a0_0 1 1073741824).bind fun t141 => (if t141 = true then ((quorumref1_Value.f a0_1).bind fun t142 => (if t142 = true then (if a0_2 = true then (some (a0_1.toList == ([] : List UInt8))) else (some true)) else (some false))) else (some false))
set_option maxHeartbeats 8000000 in
set_option maxRecDepth 100000 in
theorem quorumref8_Version.calls (a0_0 : Int) (a0_1 : ByteArray) (a0_2 : Bool) (r : Bool) (w : World) (h : quorumref8_Version.f a0_0 a0_1 a0_2 = some r) :
  Calls Try.prog 143 #[.agg #[.int .i64 a0_0, .string a0_1, .bool a0_2]] w fun e w' => e = .returned (.bool r) ∧ Below w.heap.size w w' := by
 have hu72 := Try.underlying72
 have HB := mk0 (Below.refl w.heap.size w)
 have H : ((quorumref0_Between.f a0_0 1 1073741824).bind fun t141 => (if t141 = true then ((quorumref1_Value.f a0_1).bind fun t142 => (if t142 = true then (if a0_2 = true then (some (a0_1.toList == ([] : List UInt8))) else (some true)) else (some false))) else (some false))) = some r := h
 clear h
 replace H := Option.bind_eq_some_iff.mp H
 obtain ⟨t141, A20, H⟩ := H
 try dsimp only at H
 have A2 := mk0 A20
 clear A20
 by_cases c3 : t141 = true
 ·subst c3
  rw [if_pos rfl] at H
  replace H := Option.bind_eq_some_iff.mp H
  obtain ⟨t142, A40, H⟩ := H
  try dsimp only at H
  have A4 := mk0 A40
  clear A40
  by_cases c5 : t142 = true
  ·subst c5
   rw [if_pos rfl] at H
   by_cases c6 : a0_2 = true
   ·subst c6
    rw [if_pos rfl] at H
    obtain rfl := Option.some.inj H
    go_enter Try.func143, Try.ntmps143
    go_wp2_with (first | ((with_reducible refine gate_dst (N := 1) rfl ?_); refine bx_ (N := 1) (cs := #[.int .i64 a0_0, .string a0_1, .bool true]) (t := 72) (h := ?_); intro gb140 hg w7 hbox hb; have n2_ := mk0 (gz_ HB hg); have n3_ := mk0 (gz_ HB hg); replace HB := mk0 (bt_ (b_ HB) hb); have BK140 := mk0 (hbox); have GW140 := n2_; have GE140 := n3_; clear n2_ n3_ hb hbox hg; obtain ⟨hcz8_0, hcz8_1, hcz8_2, hfz8_0, hfz8_1, hfz8_2⟩ := c3_ BK140) | ((with_reducible refine gate_callee (f := 102) rfl ?_); refine gL_ (some 5) Try.func102 #[.int .i64 a0_0, .int .i64 1, .int .i64 1073741824] (h := ?_); (with_reducible refine (quorumref0_Between.calls a0_0 1 1073741824 true _ A2.out).mono ?_); rintro e w' ⟨rfl, ⟨nd, rfl⟩⟩; refine ⟨_, rfl, ?_⟩) | (go_at_call 93; (with_reducible refine (quorumref1_Value.calls a0_1 true _ A4.out).mono ?_); rintro e w' ⟨rfl, ⟨nd, rfl⟩⟩))
    go_ret
    exact ⟨by first | rfl | (simp [errW_none, errW_some] <;> rfl) | (simp [*, errW_none, errW_some] <;> rfl), b_ HB⟩
   ·replace c6 := Bool.eq_false_iff.mpr c6
    subst c6
    rw [if_neg (show ¬ (false = true) by decide)] at H
    obtain rfl := Option.some.inj H
    go_enter Try.func143, Try.ntmps143
    go_wp2_with (first | ((with_reducible refine gate_dst (N := 1) rfl ?_); refine bx_ (N := 1) (cs := #[.int .i64 a0_0, .string a0_1, .bool false]) (t := 72) (h := ?_); intro gb140 hg w9 hbox hb; have n2_ := mk0 (gz_ HB hg); have n3_ := mk0 (gz_ HB hg); replace HB := mk0 (bt_ (b_ HB) hb); have BK140 := mk0 (hbox); have GW140 := n2_; have GE140 := n3_; clear n2_ n3_ hb hbox hg; obtain ⟨hcz10_0, hcz10_1, hcz10_2, hfz10_0, hfz10_1, hfz10_2⟩ := c3_ BK140) | ((with_reducible refine gate_callee (f := 102) rfl ?_); refine gL_ (some 5) Try.func102 #[.int .i64 a0_0, .int .i64 1, .int .i64 1073741824] (h := ?_); (with_reducible refine (quorumref0_Between.calls a0_0 1 1073741824 true _ A2.out).mono ?_); rintro e w' ⟨rfl, ⟨nd, rfl⟩⟩; refine ⟨_, rfl, ?_⟩) | (go_at_call 93; (with_reducible refine (quorumref1_Value.calls a0_1 true _ A4.out).mono ?_); rintro e w' ⟨rfl, ⟨nd, rfl⟩⟩))
    go_ret
    exact ⟨by first | rfl | (simp [errW_none, errW_some] <;> rfl) | (simp [*, errW_none, errW_some] <;> rfl), b_ HB⟩
  ·replace c5 := Bool.eq_false_iff.mpr c5
   subst c5
   rw [if_neg (show ¬ (false = true) by decide)] at H
   obtain rfl := Option.some.inj H
   go_enter Try.func143, Try.ntmps143
   go_wp2_with (first | ((with_reducible refine gate_dst (N := 1) rfl ?_); refine bx_ (N := 1) (cs := #[.int .i64 a0_0, .string a0_1, .bool a0_2]) (t := 72) (h := ?_); intro gb140 hg w11 hbox hb; have n2_ := mk0 (gz_ HB hg); have n3_ := mk0 (gz_ HB hg); replace HB := mk0 (bt_ (b_ HB) hb); have BK140 := mk0 (hbox); have GW140 := n2_; have GE140 := n3_; clear n2_ n3_ hb hbox hg; obtain ⟨hcz12_0, hcz12_1, hcz12_2, hfz12_0, hfz12_1, hfz12_2⟩ := c3_ BK140) | ((with_reducible refine gate_callee (f := 102) rfl ?_); refine gL_ (some 5) Try.func102 #[.int .i64 a0_0, .int .i64 1, .int .i64 1073741824] (h := ?_); (with_reducible refine (quorumref0_Between.calls a0_0 1 1073741824 true _ A2.out).mono ?_); rintro e w' ⟨rfl, ⟨nd, rfl⟩⟩; refine ⟨_, rfl, ?_⟩) | (go_at_call 93; (with_reducible refine (quorumref1_Value.calls a0_1 false _ A4.out).mono ?_); rintro e w' ⟨rfl, ⟨nd, rfl⟩⟩))
   go_ret
   exact ⟨by first | rfl | (simp [errW_none, errW_some] <;> rfl) | (simp [*, errW_none, errW_some] <;> rfl), b_ HB⟩
 ·replace c3 := Bool.eq_false_iff.mpr c3
  subst c3
  rw [if_neg (show ¬ (false = true) by decide)] at H
  obtain rfl := Option.some.inj H
  go_enter Try.func143, Try.ntmps143
  go_wp2_with (first | ((with_reducible refine gate_dst (N := 1) rfl ?_); refine bx_ (N := 1) (cs := #[.int .i64 a0_0, .string a0_1, .bool a0_2]) (t := 72) (h := ?_); intro gb140 hg w13 hbox hb; have n2_ := mk0 (gz_ HB hg); have n3_ := mk0 (gz_ HB hg); replace HB := mk0 (bt_ (b_ HB) hb); have BK140 := mk0 (hbox); have GW140 := n2_; have GE140 := n3_; clear n2_ n3_ hb hbox hg; obtain ⟨hcz14_0, hcz14_1, hcz14_2, hfz14_0, hfz14_1, hfz14_2⟩ := c3_ BK140) | ((with_reducible refine gate_callee (f := 102) rfl ?_); refine gL_ (some 5) Try.func102 #[.int .i64 a0_0, .int .i64 1, .int .i64 1073741824] (h := ?_); (with_reducible refine (quorumref0_Between.calls a0_0 1 1073741824 false _ A2.out).mono ?_); rintro e w' ⟨rfl, ⟨nd, rfl⟩⟩; refine ⟨_, rfl, ?_⟩))
  go_ret
  exact ⟨by first | rfl | (simp [errW_none, errW_some] <;> rfl) | (simp [*, errW_none, errW_some] <;> rfl), b_ HB⟩

/-! ### quorumref8_Chain: function 92 -/
def quorumref8_Chain.l0 : Nat → Int → ByteArray → List (S72) → Option (Bool)
 | 0, _, _, _ => none
 | k + 1, x3, x144000, x144001 => if x3 < (x144001.length : Int) then (if 0 ≤ x3 then ((quorumref8_Version.f ((rd_T72 x144001 x3).f0) ((rd_T72 x144001 x3).f1) ((rd_T72 x144001 x3).f2)).bind fun t145 => (if t145 = true then (if x3 > 0 then (if 0 ≤ (wrap64 (x3 - 1)) then (if (wrap64 (x3 - 1)) < (x144001.length : Int) then (if ((rd_T72 x144001 (wrap64 (x3 - 1))).f0) ≤ ((rd_T72 x144001 x3).f0) then (some false) else (quorumref8_Chain.l0 k (wrap64 (x3 + 1)) x144000 x144001)) else (none)) else (none)) else (quorumref8_Chain.l0 k (wrap64 (x3 + 1)) x144000 x144001)) else (some false))) else (none)) else ((quorumref1_Key.f x144000).bind fun t148 => (if t148 = true then (some (decide ((x144001.length : Int) > 0))) else (some false)))
def quorumref8_Chain.f (k : Nat) (a0_0 : ByteArray) (l0_1 : List (S72)) : Option (Bool) := quorumref8_Chain.l0 k 0 a0_0 l0_1
theorem quorumref8_Chain.mono_l : ∀ k, (∀ y0 y1 y2, LeO (quorumref8_Chain.l0 k y0 y1 y2) (quorumref8_Chain.l0 (k + 1) y0 y1 y2))
 | 0 => fun _ _ _ r h => by simp [quorumref8_Chain.l0] at h
 | k + 1 => by
  have ih0 := quorumref8_Chain.mono_l k
  ·intro y0 y1 y2
   unfold quorumref8_Chain.l0
   repeat' first
   | (with_reducible exact ih0 _ _ _)
   | (with_reducible exact LeO.refl _)
   | (with_reducible exact LeO.none _)
   | (with_reducible refine LeO.ite ?_ ?_)
   | (with_reducible refine LeO.bind ?_ (fun _ => ?_))
   | exact ih0 _ _ _
   | exact LeO.none _
   | refine LeO.ite ?_ ?_
   | refine LeO.bind ?_ (fun _ => ?_)
theorem quorumref8_Chain.mono : ∀ a0 a1 k, LeO (quorumref8_Chain.f k a0 a1) (quorumref8_Chain.f (k + 1) a0 a1) := by
 intro a0 a1 k
 have ih0 := quorumref8_Chain.mono_l k
 unfold quorumref8_Chain.f
 repeat' first
   | (with_reducible exact ih0 _ _ _)
   | (with_reducible exact LeO.refl _)
   | (with_reducible exact LeO.none _)
   | (with_reducible refine LeO.ite ?_ ?_)
   | (with_reducible refine LeO.bind ?_ (fun _ => ?_))
   | exact ih0 _ _ _
   | exact LeO.none _
   | refine LeO.ite ?_ ?_
   | refine LeO.bind ?_ (fun _ => ?_)
def quorumref8_Chain.T4 : Bool × List (List Nat × List Nat) := (true, [([], []), ([0], [0]), ([], []), ([1, 2], [1, 2]), ([3], [3]), ([4], [4]), ([5], [5]), ([6, 5], [6]), ([7], [7]), ([8, 7], [7, 8]), ([9, 7, 7], [7, 9]), ([10], [10]), ([11, 10], [10, 11]), ([10], [10]), ([13, 10], [10, 13]), ([12, 14, 10], [10, 12, 14]), ([15, 10], [10, 15]), ([16, 10], [10, 16]), ([10], [10]), ([18, 10], [10, 18]), ([10], [10]), ([19, 20, 10], [10, 19, 20]), ([21, 10], [10, 21]), ([22, 10], [10, 22]), ([17, 23, 10], [10, 17, 23]), ([10, 24, 7], [7, 10, 24]), ([7, 25], [7, 25])])
def quorumref8_Chain.B4 : List Nat := [0, 1, 0, 7, 15, 31, 63, 127, 255, 511, 1023, 2047, 4095, 2047, 10239, 32767, 65535, 131071, 2047, 264191, 2047, 1837055, 3934207, 8128511, 16777215, 33554431, 67108863]
theorem quorumref8_Chain.tab4 : rtab .any (opsOf Try.f92 4) = quorumref8_Chain.T4 := by kernel_rfl
theorem quorumref8_Chain.bits4 : waitsOk quorumref8_Chain.T4.2 quorumref8_Chain.B4 = true := by kernel_rfl
set_option maxHeartbeats 8000000 in
set_option maxRecDepth 100000 in
theorem quorumref8_Chain.calls (k : Nat) (a0_0 : ByteArray) (A0_1 : Option Addr) (c0_1 : Nat) (l0_1 : List (S72)) (r : Bool) (w : World) (hr0_1 : Kd.C k72 w A0_1 l0_1.length l0_1) (hc0_1 : l0_1.length ≤ c0_1) (h : quorumref8_Chain.f k a0_0 l0_1 = some r) :
  Calls Try.prog 92 #[.agg #[.string a0_0, .slice A0_1 l0_1.length c0_1]] w fun e w' => e = .returned (.bool r) ∧ Below w.heap.size w w' := by
 have hu99 := Try.underlying99
 have hu72 := Try.underlying72
 have HR0_1 := mk0 hr0_1
 have HC0_1 := mk0 hc0_1
 clear hr0_1 hc0_1
 have HB := mk0 (Below.refl w.heap.size w)
 have H : (quorumref8_Chain.l0 k 0 a0_0 l0_1) = some r := h
 clear h
 have H' := mk0 H
 clear H
 go_enter Try.func92, Try.ntmps92
 go_wp2_with (first | ((with_reducible refine gate_dst (N := 1) rfl ?_); (try (refine gate_guard (by rfl) ?_; dsimp only)); refine bx_ (N := 1) (cs := #[.string a0_0, .slice A0_1 l0_1.length c0_1]) (t := 99) (h := ?_); intro gb143 hg w2 hbox hb; have n2_ := mk0 (gz_ HB hg); have n3_ := mk0 (gz_ HB hg); replace HB := mk0 (bt_ (b_ HB) hb); have BK143 := mk0 (hbox); have GW143 := n2_; have GE143 := n3_; clear n2_ n3_; clear hb hbox hg))
 go_loopg [3] k (fun kq v3 w' => ∃ (x3_1 : Int), v3 = .int .i64 x3_1 ∧ Fc (quorumref8_Chain.l0 kq x3_1 a0_0 l0_1 = some r) ∧ Fc (kq ≤ k) ∧ Fc (w'.heap[gb143]? = some (.cells #[.string a0_0, (.slice A0_1 l0_1.length c0_1)] 99 (0, 0))) ∧ Fc (Below w.heap.size w w'))
 case atStart => exact ⟨(0), (by first | rfl | (simp; done) | (simp [*]; done)), H', ⟨Nat.le_refl _⟩, ⟨h_ BK143⟩, ⟨b_ HB⟩⟩
 case round =>
  clear H'
  obtain ⟨x3_1, rfl, HA, HK1, BK143, HB⟩ := hrel
  cases gk with
  | zero => exact absurd HA.out (by simp [quorumref8_Chain.l0])
  | succ k1 =>
   have H := HA.out
   clear HA
   simp only [quorumref8_Chain.l0] at H
   as_aux_lemma =>
    by_cases c3 : x3_1 < (l0_1.length : Int)
    ·rw [if_pos c3] at H
     have c3b0 : decide (x3_1 < (l0_1.length : Int)) = true := decide_eq_true c3
     clear c3
     by_cases c4 : 0 ≤ x3_1
     ·rw [if_pos c4] at H
      have c4b0 : decide (0 ≤ x3_1) = true := decide_eq_true c4
      clear c4
      replace H := Option.bind_eq_some_iff.mp H
      obtain ⟨t145, A50, H⟩ := H
      try dsimp only at H
      have A5 := mk0 A50
      clear A50
      by_cases c6 : t145 = true
      ·subst c6
       rw [if_pos rfl] at H
       by_cases c7 : x3_1 > 0
       ·rw [if_pos c7] at H
        have c7b0 : decide (0 < x3_1) = true := decide_eq_true c7
        clear c7
        obtain ⟨ji8, hji8⟩ : ∃ j_ : Int, (wrap64 (x3_1 - 1)) = j_ := ⟨_, rfl⟩
        replace H : (if 0 ≤ (ji8) then (if (ji8) < (l0_1.length : Int) then (if ((rd_T72 l0_1 (ji8)).f0) ≤ ((rd_T72 l0_1 x3_1).f0) then (some false) else (quorumref8_Chain.l0 k1 (wrap64 (x3_1 + 1)) a0_0 l0_1)) else (none)) else (none)) = some r := by first | (rw [hji8] at H; exact H) | (simp only [hji8] at H ⊢; exact H)
        (try rw [hji8] at A5)
        have hji8w : (IntKind.i64.wrap (x3_1 - 1)) = ji8 := (i64_w _).trans hji8
        by_cases c9 : 0 ≤ (ji8)
        ·rw [if_pos c9] at H
         have c9b0 : decide (0 ≤ (ji8)) = true := decide_eq_true c9
         clear c9
         by_cases c10 : (ji8) < (l0_1.length : Int)
         ·rw [if_pos c10] at H
          have c10b0 : decide ((ji8) < (l0_1.length : Int)) = true := decide_eq_true c10
          clear c10
          by_cases c11 : ((rd_T72 l0_1 (ji8)).f0) ≤ ((rd_T72 l0_1 x3_1).f0)
          ·rw [if_pos c11] at H
           have c11b0 : decide (((rd_T72 l0_1 (ji8)).f0) ≤ ((rd_T72 l0_1 x3_1).f0)) = true := decide_eq_true c11
           clear c11
           obtain rfl := Option.some.inj H
           obtain ⟨hcz12_0, hcz12_1, hfz12_0, hfz12_1⟩ := c2_ BK143
           try go_wp2
           replace BK143 := mk0 (bD_ BK143.out)
           replace HB := mk0 (b1_ HB.out)
           have p144 : 0 ≤ (x3_1 : Int) := of_decide_eq_true (by first | (with_reducible assumption) | assumption)
           have q144 : x3_1 < (l0_1.length : Int) := of_decide_eq_true (by first | (with_reducible assumption) | assumption)
           obtain ⟨ad144, e144, hx144_0, hx144_1, hx144_2⟩ := at_T72 HR0_1.out x3_1 p144 q144
           have hw144_2 := hx144_2
           have hw144_1 := hx144_1
           have hw144_0 := hx144_0
           cases e144
           replace hx144_0 := (bc_ HB hx144_0 :)
           replace hx144_1 := (bc_ HB hx144_1 :)
           replace hx144_2 := (bc_ HB hx144_2 :)
           replace p144 := eq_true p144
           replace q144 := eq_true q144
           have p146 : 0 ≤ ((ji8) : Int) := of_decide_eq_true (by first | (with_reducible assumption) | assumption)
           have q146 : (ji8) < (l0_1.length : Int) := of_decide_eq_true (by first | (with_reducible assumption) | assumption)
           obtain ⟨ad146, e146, hx146_0, hx146_1, hx146_2⟩ := at_T72 HR0_1.out (ji8) p146 q146
           have hw146_2 := hx146_2
           have hw146_1 := hx146_1
           have hw146_0 := hx146_0
           obtain rfl : ad144 = ad146 := (by injection e146)
           replace hx146_0 := (bc_ HB hx146_0 :)
           replace hx146_1 := (bc_ HB hx146_1 :)
           replace hx146_2 := (bc_ HB hx146_2 :)
           replace p146 := eq_true p146
           replace q146 := eq_true q146
           have p147 : 0 ≤ (x3_1 : Int) := of_decide_eq_true (by first | (with_reducible assumption) | assumption)
           have q147 : x3_1 < (l0_1.length : Int) := of_decide_eq_true (by first | (with_reducible assumption) | assumption)
           obtain ⟨ad147, e147, hx147_0, hx147_1, hx147_2⟩ := at_T72 HR0_1.out x3_1 p147 q147
           have hw147_2 := hx147_2
           have hw147_1 := hx147_1
           have hw147_0 := hx147_0
           obtain rfl : ad144 = ad147 := (by injection e147)
           replace hx147_0 := (bc_ HB hx147_0 :)
           replace hx147_1 := (bc_ HB hx147_1 :)
           replace hx147_2 := (bc_ HB hx147_2 :)
           replace p147 := eq_true p147
           replace q147 := eq_true q147
           refine start_ (n := 27) (S := fun w' => w'.cell? ⟨gb143, 0, none⟩ = some (.string a0_0) ∧ w'.cell? ⟨gb143, 1, none⟩ = some (.slice (some ad144) l0_1.length c0_1) ∧ w'.cell? (ad144.add ((x3_1).toNat * 3)) = some (.int .i64 ((rd_T72 l0_1 x3_1).f0)) ∧ w'.cell? ⟨(ad144.add ((x3_1).toNat * 3)).block, (ad144.add ((x3_1).toNat * 3)).off + 1, none⟩ = some (.string ((rd_T72 l0_1 x3_1).f1)) ∧ w'.cell? ⟨(ad144.add ((x3_1).toNat * 3)).block, (ad144.add ((x3_1).toNat * 3)).off + 2, none⟩ = some (.bool ((rd_T72 l0_1 x3_1).f2)) ∧ w'.cell? (ad144.add (((ji8)).toNat * 3)) = some (.int .i64 ((rd_T72 l0_1 (ji8)).f0)) ∧ w'.cell? ⟨(ad144.add (((ji8)).toNat * 3)).block, (ad144.add (((ji8)).toNat * 3)).off + 1, none⟩ = some (.string ((rd_T72 l0_1 (ji8)).f1)) ∧ w'.cell? ⟨(ad144.add (((ji8)).toNat * 3)).block, (ad144.add (((ji8)).toNat * 3)).off + 2, none⟩ = some (.bool ((rd_T72 l0_1 (ji8)).f2)) ∧ w'.cell? (ad144.add ((x3_1).toNat * 3)) = some (.int .i64 ((rd_T72 l0_1 x3_1).f0)) ∧ w'.cell? ⟨(ad144.add ((x3_1).toNat * 3)).block, (ad144.add ((x3_1).toNat * 3)).off + 1, none⟩ = some (.string ((rd_T72 l0_1 x3_1).f1)) ∧ w'.cell? ⟨(ad144.add ((x3_1).toNat * 3)).block, (ad144.add ((x3_1).toNat * 3)).off + 2, none⟩ = some (.bool ((rd_T72 l0_1 x3_1).f2))) (ds := []) (bt 27 0) (by kernel_rfl) rfl rfl ⟨bk_ BK143 0, bk_ BK143 1, ((bc_ HB hw144_0 :)), ((bc_ HB hw144_1 :)), ((bc_ HB hw144_2 :)), ((bc_ HB hw146_0 :)), ((bc_ HB hw146_1 :)), ((bc_ HB hw146_2 :)), ((bc_ HB hw147_0 :)), ((bc_ HB hw147_1 :)), ((bc_ HB hw147_2 :))⟩ (fun hHeld => ?_); refine with_tabW quorumref8_Chain.tab4 quorumref8_Chain.bits4 (fun HT_ HW_ => ?_)
           generalize wr.drew = w13 at BK143 HB hx144_0 hx144_1 hx144_2 hx146_0 hx146_1 hx146_2 hx147_0 hx147_1 hx147_2 hHeld ⊢
           refine pq_ HT_.out 0 11 (bt 27 1) (h := ?_)
           refine pq_ HT_.out 2 13 (bt 27 5) (h := ?_)
           refine tq11_ HT_.out HW_.out 1 12 (bt 27 7) hHeld (h := ?_)
           refine pq_ HT_.out 3 14 (bt 27 15) (h := ?_)
           refine tq11_ HT_.out HW_.out 4 15 (bt 27 31) hHeld (h := ?_)
           refine one_ (i := 5) (N := some 16) (bt 27 63) rfl rfl (one_of HT_.out (by kernel_rfl)) (by decide) (fun K hK => ?_)
           refine goes_ Try.func143 (by kernel_rfl) rfl #[.agg #[.int .i64 ((rd_T72 l0_1 x3_1).f0), .string ((rd_T72 l0_1 x3_1).f1), .bool ((rd_T72 l0_1 x3_1).f2)]] (by rfl) rfl rfl (by (try simp only [List.map_toArray, List.map_cons, List.map_nil]); first | done | rfl | (simp only [List.length_drop, List.length_take]; rfl)) ?_
           with_reducible refine (quorumref8_Version.calls ((rd_T72 l0_1 x3_1).f0) ((rd_T72 l0_1 x3_1).f1) ((rd_T72 l0_1 x3_1).f2) true _ A5.out).mono ?_
           rintro e w14 ⟨rfl, hb⟩
           refine ⟨_, rfl, ?_⟩
           replace BK143 := mk0 (u_ BK143 hb)
           replace HB := mk0 (bt_ (b_ HB) hb)
           (try clear hb)
           (try clear hb2)
           (try clear hk)
           (try clear hi)
           refine hK.out _ _ ⟨bk_ BK143 0, bk_ BK143 1, ((bc_ HB hw144_0 :)), ((bc_ HB hw144_1 :)), ((bc_ HB hw144_2 :)), ((bc_ HB hw146_0 :)), ((bc_ HB hw146_1 :)), ((bc_ HB hw146_2 :)), ((bc_ HB hw147_0 :)), ((bc_ HB hw147_1 :)), ((bc_ HB hw147_2 :))⟩ (fun hHeld => ?_)
           clear hK K
           refine norm_ (a' := ?_) ?_ ?_
           rotate_left
           ·show Act.put _ (some 16) _ = _
            simp only [z_]
            rfl
           refine pq_ HT_.out 6 17 (bt 27 127) (h := ?_)
           refine pq_ HT_.out 7 18 (bt 27 255) (h := ?_)
           refine pq_ HT_.out 8 19 (bt 27 511) (h := ?_)
           refine pq_ HT_.out 9 20 (bt 27 1023) (h := ?_)
           refine pq_ HT_.out 10 21 (bt 27 2047) (h := ?_)
           refine pq_ HT_.out 11 22 (bt 27 4095) (h := ?_)
           refine pq_ HT_.out 13 24 (bt 27 12287) (h := ?_)
           refine pq_ HT_.out 14 25 (bt 27 28671) (h := ?_)
           refine pq_ HT_.out 18 29 (bt 27 290815) (h := ?_)
           refine pq_ HT_.out 20 31 (bt 27 1339391) (h := ?_)
           refine tq11_ HT_.out HW_.out 12 23 (bt 27 1343487) hHeld (h := ?_)
           refine pq_ HT_.out 15 26 (bt 27 1376255) (h := ?_)
           refine pq_ HT_.out 16 27 (bt 27 1441791) (h := ?_)
           refine tq11_ HT_.out HW_.out 17 28 (bt 27 1572863) hHeld (h := ?_)
           refine tq11_ HT_.out HW_.out 19 30 (bt 27 2097151) hHeld (h := ?_)
           refine pq_ HT_.out 21 32 (bt 27 4194303) (h := ?_)
           refine pq_ HT_.out 22 33 (bt 27 8388607) (h := ?_)
           refine tq11_ HT_.out HW_.out 23 34 (bt 27 16777215) hHeld (h := ?_)
           refine pq_ HT_.out 24 35 (bt 27 33554431) (h := ?_)
           refine pq_ HT_.out 25 36 (bt 27 67108863) (h := ?_)
           refine pq_ HT_.out 26 37 (bt 27 134217727) (h := ?_)
           refine done_ (done_of HT_.out (by kernel_rfl)) ?_
           try go_wp2
           go_ret
           exact ⟨by first | rfl | (simp [errW_none, errW_some] <;> rfl) | (simp only [← hji8]; first | rfl | (simp [errW_none, errW_some] <;> rfl)) | (simp [*, errW_none, errW_some] <;> rfl), b_ HB⟩
          ·rw [if_neg c11] at H
           have c11b0 : decide (((rd_T72 l0_1 (ji8)).f0) ≤ ((rd_T72 l0_1 x3_1).f0)) = false := decide_eq_false c11
           clear c11
           have H' := mk0 H
           clear H
           obtain ⟨hcz15_0, hcz15_1, hfz15_0, hfz15_1⟩ := c2_ BK143
           try go_wp2
           replace BK143 := mk0 (bD_ BK143.out)
           replace HB := mk0 (b1_ HB.out)
           have p144 : 0 ≤ (x3_1 : Int) := of_decide_eq_true (by first | (with_reducible assumption) | assumption)
           have q144 : x3_1 < (l0_1.length : Int) := of_decide_eq_true (by first | (with_reducible assumption) | assumption)
           obtain ⟨ad144, e144, hx144_0, hx144_1, hx144_2⟩ := at_T72 HR0_1.out x3_1 p144 q144
           have hw144_2 := hx144_2
           have hw144_1 := hx144_1
           have hw144_0 := hx144_0
           cases e144
           replace hx144_0 := (bc_ HB hx144_0 :)
           replace hx144_1 := (bc_ HB hx144_1 :)
           replace hx144_2 := (bc_ HB hx144_2 :)
           replace p144 := eq_true p144
           replace q144 := eq_true q144
           have p146 : 0 ≤ ((ji8) : Int) := of_decide_eq_true (by first | (with_reducible assumption) | assumption)
           have q146 : (ji8) < (l0_1.length : Int) := of_decide_eq_true (by first | (with_reducible assumption) | assumption)
           obtain ⟨ad146, e146, hx146_0, hx146_1, hx146_2⟩ := at_T72 HR0_1.out (ji8) p146 q146
           have hw146_2 := hx146_2
           have hw146_1 := hx146_1
           have hw146_0 := hx146_0
           obtain rfl : ad144 = ad146 := (by injection e146)
           replace hx146_0 := (bc_ HB hx146_0 :)
           replace hx146_1 := (bc_ HB hx146_1 :)
           replace hx146_2 := (bc_ HB hx146_2 :)
           replace p146 := eq_true p146
           replace q146 := eq_true q146
           have p147 : 0 ≤ (x3_1 : Int) := of_decide_eq_true (by first | (with_reducible assumption) | assumption)
           have q147 : x3_1 < (l0_1.length : Int) := of_decide_eq_true (by first | (with_reducible assumption) | assumption)
           obtain ⟨ad147, e147, hx147_0, hx147_1, hx147_2⟩ := at_T72 HR0_1.out x3_1 p147 q147
           have hw147_2 := hx147_2
           have hw147_1 := hx147_1
           have hw147_0 := hx147_0
           obtain rfl : ad144 = ad147 := (by injection e147)
           replace hx147_0 := (bc_ HB hx147_0 :)
           replace hx147_1 := (bc_ HB hx147_1 :)
           replace hx147_2 := (bc_ HB hx147_2 :)
           replace p147 := eq_true p147
           replace q147 := eq_true q147
           refine start_ (n := 27) (S := fun w' => w'.cell? ⟨gb143, 0, none⟩ = some (.string a0_0) ∧ w'.cell? ⟨gb143, 1, none⟩ = some (.slice (some ad144) l0_1.length c0_1) ∧ w'.cell? (ad144.add ((x3_1).toNat * 3)) = some (.int .i64 ((rd_T72 l0_1 x3_1).f0)) ∧ w'.cell? ⟨(ad144.add ((x3_1).toNat * 3)).block, (ad144.add ((x3_1).toNat * 3)).off + 1, none⟩ = some (.string ((rd_T72 l0_1 x3_1).f1)) ∧ w'.cell? ⟨(ad144.add ((x3_1).toNat * 3)).block, (ad144.add ((x3_1).toNat * 3)).off + 2, none⟩ = some (.bool ((rd_T72 l0_1 x3_1).f2)) ∧ w'.cell? (ad144.add (((ji8)).toNat * 3)) = some (.int .i64 ((rd_T72 l0_1 (ji8)).f0)) ∧ w'.cell? ⟨(ad144.add (((ji8)).toNat * 3)).block, (ad144.add (((ji8)).toNat * 3)).off + 1, none⟩ = some (.string ((rd_T72 l0_1 (ji8)).f1)) ∧ w'.cell? ⟨(ad144.add (((ji8)).toNat * 3)).block, (ad144.add (((ji8)).toNat * 3)).off + 2, none⟩ = some (.bool ((rd_T72 l0_1 (ji8)).f2)) ∧ w'.cell? (ad144.add ((x3_1).toNat * 3)) = some (.int .i64 ((rd_T72 l0_1 x3_1).f0)) ∧ w'.cell? ⟨(ad144.add ((x3_1).toNat * 3)).block, (ad144.add ((x3_1).toNat * 3)).off + 1, none⟩ = some (.string ((rd_T72 l0_1 x3_1).f1)) ∧ w'.cell? ⟨(ad144.add ((x3_1).toNat * 3)).block, (ad144.add ((x3_1).toNat * 3)).off + 2, none⟩ = some (.bool ((rd_T72 l0_1 x3_1).f2))) (ds := []) (bt 27 0) (by kernel_rfl) rfl rfl ⟨bk_ BK143 0, bk_ BK143 1, ((bc_ HB hw144_0 :)), ((bc_ HB hw144_1 :)), ((bc_ HB hw144_2 :)), ((bc_ HB hw146_0 :)), ((bc_ HB hw146_1 :)), ((bc_ HB hw146_2 :)), ((bc_ HB hw147_0 :)), ((bc_ HB hw147_1 :)), ((bc_ HB hw147_2 :))⟩ (fun hHeld => ?_); refine with_tabW quorumref8_Chain.tab4 quorumref8_Chain.bits4 (fun HT_ HW_ => ?_)
           generalize wr.drew = w16 at BK143 HB hx144_0 hx144_1 hx144_2 hx146_0 hx146_1 hx146_2 hx147_0 hx147_1 hx147_2 hHeld ⊢
           refine pq_ HT_.out 0 11 (bt 27 1) (h := ?_)
           refine pq_ HT_.out 2 13 (bt 27 5) (h := ?_)
           refine tq11_ HT_.out HW_.out 1 12 (bt 27 7) hHeld (h := ?_)
           refine pq_ HT_.out 3 14 (bt 27 15) (h := ?_)
           refine tq11_ HT_.out HW_.out 4 15 (bt 27 31) hHeld (h := ?_)
           refine one_ (i := 5) (N := some 16) (bt 27 63) rfl rfl (one_of HT_.out (by kernel_rfl)) (by decide) (fun K hK => ?_)
           refine goes_ Try.func143 (by kernel_rfl) rfl #[.agg #[.int .i64 ((rd_T72 l0_1 x3_1).f0), .string ((rd_T72 l0_1 x3_1).f1), .bool ((rd_T72 l0_1 x3_1).f2)]] (by rfl) rfl rfl (by (try simp only [List.map_toArray, List.map_cons, List.map_nil]); first | done | rfl | (simp only [List.length_drop, List.length_take]; rfl)) ?_
           with_reducible refine (quorumref8_Version.calls ((rd_T72 l0_1 x3_1).f0) ((rd_T72 l0_1 x3_1).f1) ((rd_T72 l0_1 x3_1).f2) true _ A5.out).mono ?_
           rintro e w17 ⟨rfl, hb⟩
           refine ⟨_, rfl, ?_⟩
           replace BK143 := mk0 (u_ BK143 hb)
           replace HB := mk0 (bt_ (b_ HB) hb)
           (try clear hb)
           (try clear hb2)
           (try clear hk)
           (try clear hi)
           refine hK.out _ _ ⟨bk_ BK143 0, bk_ BK143 1, ((bc_ HB hw144_0 :)), ((bc_ HB hw144_1 :)), ((bc_ HB hw144_2 :)), ((bc_ HB hw146_0 :)), ((bc_ HB hw146_1 :)), ((bc_ HB hw146_2 :)), ((bc_ HB hw147_0 :)), ((bc_ HB hw147_1 :)), ((bc_ HB hw147_2 :))⟩ (fun hHeld => ?_)
           clear hK K
           refine norm_ (a' := ?_) ?_ ?_
           rotate_left
           ·show Act.put _ (some 16) _ = _
            simp only [z_]
            rfl
           refine pq_ HT_.out 6 17 (bt 27 127) (h := ?_)
           refine pq_ HT_.out 7 18 (bt 27 255) (h := ?_)
           refine pq_ HT_.out 8 19 (bt 27 511) (h := ?_)
           refine pq_ HT_.out 9 20 (bt 27 1023) (h := ?_)
           refine pq_ HT_.out 10 21 (bt 27 2047) (h := ?_)
           refine pq_ HT_.out 11 22 (bt 27 4095) (h := ?_)
           refine pq_ HT_.out 13 24 (bt 27 12287) (h := ?_)
           refine pq_ HT_.out 14 25 (bt 27 28671) (h := ?_)
           refine pq_ HT_.out 18 29 (bt 27 290815) (h := ?_)
           refine pq_ HT_.out 20 31 (bt 27 1339391) (h := ?_)
           refine tq11_ HT_.out HW_.out 12 23 (bt 27 1343487) hHeld (h := ?_)
           refine pq_ HT_.out 15 26 (bt 27 1376255) (h := ?_)
           refine pq_ HT_.out 16 27 (bt 27 1441791) (h := ?_)
           refine tq11_ HT_.out HW_.out 17 28 (bt 27 1572863) hHeld (h := ?_)
           refine tq11_ HT_.out HW_.out 19 30 (bt 27 2097151) hHeld (h := ?_)
           refine pq_ HT_.out 21 32 (bt 27 4194303) (h := ?_)
           refine pq_ HT_.out 22 33 (bt 27 8388607) (h := ?_)
           refine tq11_ HT_.out HW_.out 23 34 (bt 27 16777215) hHeld (h := ?_)
           refine pq_ HT_.out 24 35 (bt 27 33554431) (h := ?_)
           refine pq_ HT_.out 25 36 (bt 27 67108863) (h := ?_)
           refine pq_ HT_.out 26 37 (bt 27 134217727) (h := ?_)
           refine done_ (done_of HT_.out (by kernel_rfl)) ?_
           try go_wp2
           go_roundg k1
           case measure => have := HK1.out; omega
           case rel => exact ⟨(wrap64 (x3_1 + 1)), (by first | rfl | (simp; done) | (simp [*]; done)), H', ⟨by have := HK1.out; omega⟩, ⟨h_ BK143⟩, ⟨b_ HB⟩⟩
         ·rw [if_neg c10] at H
          exact absurd H (by simp)
        ·rw [if_neg c9] at H
         exact absurd H (by simp)
       ·rw [if_neg c7] at H
        have c7b0 : decide (0 < x3_1) = false := decide_eq_false c7
        clear c7
        have H' := mk0 H
        clear H
        obtain ⟨hcz18_0, hcz18_1, hfz18_0, hfz18_1⟩ := c2_ BK143
        try go_wp2
        replace BK143 := mk0 (bD_ BK143.out)
        replace HB := mk0 (b1_ HB.out)
        have p144 : 0 ≤ (x3_1 : Int) := of_decide_eq_true (by first | (with_reducible assumption) | assumption)
        have q144 : x3_1 < (l0_1.length : Int) := of_decide_eq_true (by first | (with_reducible assumption) | assumption)
        obtain ⟨ad144, e144, hx144_0, hx144_1, hx144_2⟩ := at_T72 HR0_1.out x3_1 p144 q144
        have hw144_2 := hx144_2
        have hw144_1 := hx144_1
        have hw144_0 := hx144_0
        cases e144
        replace hx144_0 := (bc_ HB hx144_0 :)
        replace hx144_1 := (bc_ HB hx144_1 :)
        replace hx144_2 := (bc_ HB hx144_2 :)
        replace p144 := eq_true p144
        replace q144 := eq_true q144
        refine start_ (n := 27) (S := fun w' => w'.cell? ⟨gb143, 0, none⟩ = some (.string a0_0) ∧ w'.cell? ⟨gb143, 1, none⟩ = some (.slice (some ad144) l0_1.length c0_1) ∧ w'.cell? (ad144.add ((x3_1).toNat * 3)) = some (.int .i64 ((rd_T72 l0_1 x3_1).f0)) ∧ w'.cell? ⟨(ad144.add ((x3_1).toNat * 3)).block, (ad144.add ((x3_1).toNat * 3)).off + 1, none⟩ = some (.string ((rd_T72 l0_1 x3_1).f1)) ∧ w'.cell? ⟨(ad144.add ((x3_1).toNat * 3)).block, (ad144.add ((x3_1).toNat * 3)).off + 2, none⟩ = some (.bool ((rd_T72 l0_1 x3_1).f2))) (ds := []) (bt 27 0) (by kernel_rfl) rfl rfl ⟨bk_ BK143 0, bk_ BK143 1, ((bc_ HB hw144_0 :)), ((bc_ HB hw144_1 :)), ((bc_ HB hw144_2 :))⟩ (fun hHeld => ?_); refine with_tabW quorumref8_Chain.tab4 quorumref8_Chain.bits4 (fun HT_ HW_ => ?_)
        generalize wr.drew = w19 at BK143 HB hx144_0 hx144_1 hx144_2 hHeld ⊢
        refine pq_ HT_.out 0 11 (bt 27 1) (h := ?_)
        refine pq_ HT_.out 2 13 (bt 27 5) (h := ?_)
        refine tq5_ HT_.out HW_.out 1 12 (bt 27 7) hHeld (h := ?_)
        refine pq_ HT_.out 3 14 (bt 27 15) (h := ?_)
        refine tq5_ HT_.out HW_.out 4 15 (bt 27 31) hHeld (h := ?_)
        refine one_ (i := 5) (N := some 16) (bt 27 63) rfl rfl (one_of HT_.out (by kernel_rfl)) (by decide) (fun K hK => ?_)
        refine goes_ Try.func143 (by kernel_rfl) rfl #[.agg #[.int .i64 ((rd_T72 l0_1 x3_1).f0), .string ((rd_T72 l0_1 x3_1).f1), .bool ((rd_T72 l0_1 x3_1).f2)]] (by rfl) rfl rfl (by (try simp only [List.map_toArray, List.map_cons, List.map_nil]); first | done | rfl | (simp only [List.length_drop, List.length_take]; rfl)) ?_
        with_reducible refine (quorumref8_Version.calls ((rd_T72 l0_1 x3_1).f0) ((rd_T72 l0_1 x3_1).f1) ((rd_T72 l0_1 x3_1).f2) true _ A5.out).mono ?_
        rintro e w20 ⟨rfl, hb⟩
        refine ⟨_, rfl, ?_⟩
        replace BK143 := mk0 (u_ BK143 hb)
        replace HB := mk0 (bt_ (b_ HB) hb)
        (try clear hb)
        (try clear hb2)
        (try clear hk)
        (try clear hi)
        refine hK.out _ _ ⟨bk_ BK143 0, bk_ BK143 1, ((bc_ HB hw144_0 :)), ((bc_ HB hw144_1 :)), ((bc_ HB hw144_2 :))⟩ (fun hHeld => ?_)
        clear hK K
        refine norm_ (a' := ?_) ?_ ?_
        rotate_left
        ·show Act.put _ (some 16) _ = _
         simp only [z_]
         rfl
        refine pq_ HT_.out 6 17 (bt 27 127) (h := ?_)
        refine pq_ HT_.out 7 18 (bt 27 255) (h := ?_)
        refine pq_ HT_.out 8 19 (bt 27 511) (h := ?_)
        refine pq_ HT_.out 9 20 (bt 27 1023) (h := ?_)
        refine pq_ HT_.out 10 21 (bt 27 2047) (h := ?_)
        refine uq_ HT_.out 11 22 (bt 27 4095) (h := ?_)
        refine uq_ HT_.out 12 23 (bt 27 8191) (h := ?_)
        refine uq_ HT_.out 13 24 (bt 27 16383) (h := ?_)
        refine uq_ HT_.out 14 25 (bt 27 32767) (h := ?_)
        refine uq_ HT_.out 15 26 (bt 27 65535) (h := ?_)
        refine uq_ HT_.out 16 27 (bt 27 131071) (h := ?_)
        refine uq_ HT_.out 17 28 (bt 27 262143) (h := ?_)
        refine uq_ HT_.out 18 29 (bt 27 524287) (h := ?_)
        refine uq_ HT_.out 19 30 (bt 27 1048575) (h := ?_)
        refine uq_ HT_.out 20 31 (bt 27 2097151) (h := ?_)
        refine uq_ HT_.out 21 32 (bt 27 4194303) (h := ?_)
        refine uq_ HT_.out 22 33 (bt 27 8388607) (h := ?_)
        refine uq_ HT_.out 23 34 (bt 27 16777215) (h := ?_)
        refine uq_ HT_.out 24 35 (bt 27 33554431) (h := ?_)
        refine pq_ HT_.out 25 36 (bt 27 67108863) (h := ?_)
        refine pq_ HT_.out 26 37 (bt 27 134217727) (h := ?_)
        refine done_ (done_of HT_.out (by kernel_rfl)) ?_
        try go_wp2
        go_roundg k1
        case measure => have := HK1.out; omega
        case rel => exact ⟨(wrap64 (x3_1 + 1)), (by first | rfl | (simp; done) | (simp [*]; done)), H', ⟨by have := HK1.out; omega⟩, ⟨h_ BK143⟩, ⟨b_ HB⟩⟩
      ·replace c6 := Bool.eq_false_iff.mpr c6
       subst c6
       rw [if_neg (show ¬ (false = true) by decide)] at H
       obtain rfl := Option.some.inj H
       obtain ⟨hcz21_0, hcz21_1, hfz21_0, hfz21_1⟩ := c2_ BK143
       try go_wp2
       replace BK143 := mk0 (bD_ BK143.out)
       replace HB := mk0 (b1_ HB.out)
       have p144 : 0 ≤ (x3_1 : Int) := of_decide_eq_true (by first | (with_reducible assumption) | assumption)
       have q144 : x3_1 < (l0_1.length : Int) := of_decide_eq_true (by first | (with_reducible assumption) | assumption)
       obtain ⟨ad144, e144, hx144_0, hx144_1, hx144_2⟩ := at_T72 HR0_1.out x3_1 p144 q144
       have hw144_2 := hx144_2
       have hw144_1 := hx144_1
       have hw144_0 := hx144_0
       cases e144
       replace hx144_0 := (bc_ HB hx144_0 :)
       replace hx144_1 := (bc_ HB hx144_1 :)
       replace hx144_2 := (bc_ HB hx144_2 :)
       replace p144 := eq_true p144
       replace q144 := eq_true q144
       refine start_ (n := 27) (S := fun w' => w'.cell? ⟨gb143, 0, none⟩ = some (.string a0_0) ∧ w'.cell? ⟨gb143, 1, none⟩ = some (.slice (some ad144) l0_1.length c0_1) ∧ w'.cell? (ad144.add ((x3_1).toNat * 3)) = some (.int .i64 ((rd_T72 l0_1 x3_1).f0)) ∧ w'.cell? ⟨(ad144.add ((x3_1).toNat * 3)).block, (ad144.add ((x3_1).toNat * 3)).off + 1, none⟩ = some (.string ((rd_T72 l0_1 x3_1).f1)) ∧ w'.cell? ⟨(ad144.add ((x3_1).toNat * 3)).block, (ad144.add ((x3_1).toNat * 3)).off + 2, none⟩ = some (.bool ((rd_T72 l0_1 x3_1).f2))) (ds := []) (bt 27 0) (by kernel_rfl) rfl rfl ⟨bk_ BK143 0, bk_ BK143 1, ((bc_ HB hw144_0 :)), ((bc_ HB hw144_1 :)), ((bc_ HB hw144_2 :))⟩ (fun hHeld => ?_); refine with_tabW quorumref8_Chain.tab4 quorumref8_Chain.bits4 (fun HT_ HW_ => ?_)
       generalize wr.drew = w22 at BK143 HB hx144_0 hx144_1 hx144_2 hHeld ⊢
       refine pq_ HT_.out 0 11 (bt 27 1) (h := ?_)
       refine pq_ HT_.out 2 13 (bt 27 5) (h := ?_)
       refine tq5_ HT_.out HW_.out 1 12 (bt 27 7) hHeld (h := ?_)
       refine pq_ HT_.out 3 14 (bt 27 15) (h := ?_)
       refine tq5_ HT_.out HW_.out 4 15 (bt 27 31) hHeld (h := ?_)
       refine one_ (i := 5) (N := some 16) (bt 27 63) rfl rfl (one_of HT_.out (by kernel_rfl)) (by decide) (fun K hK => ?_)
       refine goes_ Try.func143 (by kernel_rfl) rfl #[.agg #[.int .i64 ((rd_T72 l0_1 x3_1).f0), .string ((rd_T72 l0_1 x3_1).f1), .bool ((rd_T72 l0_1 x3_1).f2)]] (by rfl) rfl rfl (by (try simp only [List.map_toArray, List.map_cons, List.map_nil]); first | done | rfl | (simp only [List.length_drop, List.length_take]; rfl)) ?_
       with_reducible refine (quorumref8_Version.calls ((rd_T72 l0_1 x3_1).f0) ((rd_T72 l0_1 x3_1).f1) ((rd_T72 l0_1 x3_1).f2) false _ A5.out).mono ?_
       rintro e w23 ⟨rfl, hb⟩
       refine ⟨_, rfl, ?_⟩
       replace BK143 := mk0 (u_ BK143 hb)
       replace HB := mk0 (bt_ (b_ HB) hb)
       (try clear hb)
       (try clear hb2)
       (try clear hk)
       (try clear hi)
       refine hK.out _ _ ⟨bk_ BK143 0, bk_ BK143 1, ((bc_ HB hw144_0 :)), ((bc_ HB hw144_1 :)), ((bc_ HB hw144_2 :))⟩ (fun hHeld => ?_)
       clear hK K
       refine norm_ (a' := ?_) ?_ ?_
       rotate_left
       ·show Act.put _ (some 16) _ = _
        simp only [z_]
        rfl
       refine pq_ HT_.out 6 17 (bt 27 127) (h := ?_)
       refine pq_ HT_.out 7 18 (bt 27 255) (h := ?_)
       refine uq_ HT_.out 8 19 (bt 27 511) (h := ?_)
       refine uq_ HT_.out 9 20 (bt 27 1023) (h := ?_)
       refine uq_ HT_.out 10 21 (bt 27 2047) (h := ?_)
       refine uq_ HT_.out 11 22 (bt 27 4095) (h := ?_)
       refine uq_ HT_.out 12 23 (bt 27 8191) (h := ?_)
       refine uq_ HT_.out 13 24 (bt 27 16383) (h := ?_)
       refine uq_ HT_.out 14 25 (bt 27 32767) (h := ?_)
       refine uq_ HT_.out 15 26 (bt 27 65535) (h := ?_)
       refine uq_ HT_.out 16 27 (bt 27 131071) (h := ?_)
       refine uq_ HT_.out 17 28 (bt 27 262143) (h := ?_)
       refine uq_ HT_.out 18 29 (bt 27 524287) (h := ?_)
       refine uq_ HT_.out 19 30 (bt 27 1048575) (h := ?_)
       refine uq_ HT_.out 20 31 (bt 27 2097151) (h := ?_)
       refine uq_ HT_.out 21 32 (bt 27 4194303) (h := ?_)
       refine uq_ HT_.out 22 33 (bt 27 8388607) (h := ?_)
       refine uq_ HT_.out 23 34 (bt 27 16777215) (h := ?_)
       refine uq_ HT_.out 24 35 (bt 27 33554431) (h := ?_)
       refine uq_ HT_.out 25 36 (bt 27 67108863) (h := ?_)
       refine pq_ HT_.out 26 37 (bt 27 134217727) (h := ?_)
       refine done_ (done_of HT_.out (by kernel_rfl)) ?_
       try go_wp2
       go_ret
       exact ⟨by first | rfl | (simp [errW_none, errW_some] <;> rfl) | (simp [*, errW_none, errW_some] <;> rfl), b_ HB⟩
     ·rw [if_neg c4] at H
      exact absurd H (by simp)
    ·rw [if_neg c3] at H
     have c3b0 : decide (x3_1 < (l0_1.length : Int)) = false := decide_eq_false c3
     clear c3
     replace H := Option.bind_eq_some_iff.mp H
     obtain ⟨t148, A240, H⟩ := H
     try dsimp only at H
     have A24 := mk0 A240
     clear A240
     by_cases c25 : t148 = true
     ·subst c25
      rw [if_pos rfl] at H
      obtain rfl := Option.some.inj H
      obtain ⟨hcz26_0, hcz26_1, hfz26_0, hfz26_1⟩ := c2_ BK143
      go_wp2_with (first | ((with_reducible refine gate_callee (f := 62) rfl ?_); refine gL_ (some 40) Try.func62 #[.string a0_0] (h := ?_); (with_reducible refine (quorumref1_Key.calls a0_0 true _ A24.out).mono ?_); rintro e w' ⟨rfl, ⟨nd, rfl⟩⟩; refine ⟨_, rfl, ?_⟩))
      go_ret
      exact ⟨by first | rfl | (simp [errW_none, errW_some] <;> rfl) | (simp [*, errW_none, errW_some] <;> rfl), b_ HB⟩
     ·replace c25 := Bool.eq_false_iff.mpr c25
      subst c25
      rw [if_neg (show ¬ (false = true) by decide)] at H
      obtain rfl := Option.some.inj H
      obtain ⟨hcz27_0, hcz27_1, hfz27_0, hfz27_1⟩ := c2_ BK143
      go_wp2_with (first | ((with_reducible refine gate_callee (f := 62) rfl ?_); refine gL_ (some 40) Try.func62 #[.string a0_0] (h := ?_); (with_reducible refine (quorumref1_Key.calls a0_0 false _ A24.out).mono ?_); rintro e w' ⟨rfl, ⟨nd, rfl⟩⟩; refine ⟨_, rfl, ?_⟩))
      go_ret
      exact ⟨by first | rfl | (simp [errW_none, errW_some] <;> rfl) | (simp [*, errW_none, errW_some] <;> rfl), b_ HB⟩

end Go.Proofs.Ytbaecdcfefmcgaa.PVow
