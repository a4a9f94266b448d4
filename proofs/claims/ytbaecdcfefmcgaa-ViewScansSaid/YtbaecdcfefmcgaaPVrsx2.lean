-- PRINTED by print.py (a twelfth state) out of the translation. Not trusted: Lean checks it.
import Derived.Shelf.SlSorted.Search
import Derived.Test.YtbaecdcfefmcgaaPVrsx0
namespace Go.Proofs.Ytbaecdcfefmcgaa.PVrs
open Go.RowKit Go.Proofs.YtbaecdcfefmcgaaW.PrintWords Go.Proofs.YtbaecdcfefmcgaaW.PrintLast Go.Proofs.YtbaecdcfefmcgaaW.PrintMore
attribute [local go_sem] max2_int min2_int max_two min_two max_three min_three max_four min_four   -- for this text's walks alone
set_option linter.unusedVariables false
set_option linter.unusedSimpArgs false

/-! ### key_below: function 174 -/
def key_below.f (a0 : ByteArray) (a1_0 : ByteArray) (a1_1 : ByteArray) (a1_2 : Bool) : Option (Bool) := if a1_2 = true then (some true) else (some (Op.bytesLess a0.toList a1_1.toList))
set_option maxHeartbeats 8000000 in
set_option maxRecDepth 100000 in
theorem key_below.calls (a0 : ByteArray) (a1_0 : ByteArray) (a1_1 : ByteArray) (a1_2 : Bool) (r : Bool) (w : World) (h : key_below.f a0 a1_0 a1_1 a1_2 = some r) :
  Calls Try.prog 174 #[.string a0, .agg #[.string a1_0, .string a1_1, .bool a1_2]] w fun e w' => e = .returned (.bool r) ∧ Below w.heap.size w w' := by
 have hu74 := Try.underlying74
 have HB := mk0 (Below.refl w.heap.size w)
 have H : (if a1_2 = true then (some true) else (some (Op.bytesLess a0.toList a1_1.toList))) = some r := h
 clear h
 by_cases c3 : a1_2 = true
 ·subst c3
  rw [if_pos rfl] at H
  obtain rfl := Option.some.inj H
  go_enter Try.func174, Try.ntmps174
  go_wp2_with (first | ((with_reducible refine gate_dst (N := 3) rfl ?_); refine bx_ (N := 3) (cs := #[.string a1_0, .string a1_1, .bool true]) (t := 74) (h := ?_); intro gb101 hg w4 hbox hb; have n2_ := mk0 (gz_ HB hg); have n3_ := mk0 (gz_ HB hg); replace HB := mk0 (bt_ (b_ HB) hb); have BK101 := mk0 (hbox); have GW101 := n2_; have GE101 := n3_; clear n2_ n3_ hb hbox hg; obtain ⟨hcz5_0, hcz5_1, hcz5_2, hfz5_0, hfz5_1, hfz5_2⟩ := c3_ BK101))
  go_ret
  exact ⟨by first | rfl | (simp [errW_none, errW_some] <;> rfl) | (simp [*, errW_none, errW_some] <;> rfl), b_ HB⟩
 ·replace c3 := Bool.eq_false_iff.mpr c3
  subst c3
  rw [if_neg (show ¬ (false = true) by decide)] at H
  obtain rfl := Option.some.inj H
  go_enter Try.func174, Try.ntmps174
  go_wp2_with (first | ((with_reducible refine gate_dst (N := 3) rfl ?_); refine bx_ (N := 3) (cs := #[.string a1_0, .string a1_1, .bool false]) (t := 74) (h := ?_); intro gb101 hg w6 hbox hb; have n2_ := mk0 (gz_ HB hg); have n3_ := mk0 (gz_ HB hg); replace HB := mk0 (bt_ (b_ HB) hb); have BK101 := mk0 (hbox); have GW101 := n2_; have GE101 := n3_; clear n2_ n3_ hb hbox hg; obtain ⟨hcz7_0, hcz7_1, hcz7_2, hfz7_0, hfz7_1, hfz7_2⟩ := c3_ BK101))
  go_ret
  exact ⟨by first | rfl | (simp [errW_none, errW_some] <;> rfl) | (simp [*, errW_none, errW_some] <;> rfl), b_ HB⟩

/-! ### key_Holds: function 135 -/
def key_Holds.f (a0_0 : ByteArray) (a0_1 : ByteArray) (a0_2 : Bool) (a1 : ByteArray) : Option (Bool) := if ((Op.bytesLess a1.toList a0_0.toList) = true) then (some false) else ((key_below.f a1 a0_0 a0_1 a0_2).bind fun t103 => (some t103))
set_option maxHeartbeats 8000000 in
set_option maxRecDepth 100000 in
theorem key_Holds.calls (a0_0 : ByteArray) (a0_1 : ByteArray) (a0_2 : Bool) (a1 : ByteArray) (r : Bool) (w : World) (h : key_Holds.f a0_0 a0_1 a0_2 a1 = some r) :
  Calls Try.prog 135 #[.agg #[.string a0_0, .string a0_1, .bool a0_2], .string a1] w fun e w' => e = .returned (.bool r) ∧ Below w.heap.size w w' := by
 have hu74 := Try.underlying74
 have HB := mk0 (Below.refl w.heap.size w)
 have H : (if ((Op.bytesLess a1.toList a0_0.toList) = true) then (some false) else ((key_below.f a1 a0_0 a0_1 a0_2).bind fun t103 => (some t103))) = some r := h
 clear h
 by_cases c3 : ((Op.bytesLess a1.toList a0_0.toList) = true)
 ·rw [if_pos c3] at H
  have c3b0 : (Op.bytesLess a1.toList a0_0.toList) = true := c3
  clear c3
  obtain rfl := Option.some.inj H
  go_enter Try.func135, Try.ntmps135
  go_wp2_with (first | ((with_reducible refine gate_dst (N := 2) rfl ?_); refine bx_ (N := 2) (cs := #[.string a0_0, .string a0_1, .bool a0_2]) (t := 74) (h := ?_); intro gb102 hg w4 hbox hb; have n2_ := mk0 (gz_ HB hg); have n3_ := mk0 (gz_ HB hg); replace HB := mk0 (bt_ (b_ HB) hb); have BK102 := mk0 (hbox); have GW102 := n2_; have GE102 := n3_; clear n2_ n3_ hb hbox hg; obtain ⟨hcz5_0, hcz5_1, hcz5_2, hfz5_0, hfz5_1, hfz5_2⟩ := c3_ BK102))
  go_ret
  exact ⟨by first | rfl | (simp [errW_none, errW_some] <;> rfl) | (simp [*, errW_none, errW_some] <;> rfl), b_ HB⟩
 ·rw [if_neg c3] at H
  have c3b0 : (Op.bytesLess a1.toList a0_0.toList) = false := by simpa using c3
  clear c3
  replace H := Option.bind_eq_some_iff.mp H
  obtain ⟨t103, A60, H⟩ := H
  try dsimp only at H
  have A6 := mk0 A60
  clear A60
  obtain rfl := Option.some.inj H
  go_enter Try.func135, Try.ntmps135
  go_wp2_with (first | ((with_reducible refine gate_dst (N := 2) rfl ?_); refine bx_ (N := 2) (cs := #[.string a0_0, .string a0_1, .bool a0_2]) (t := 74) (h := ?_); intro gb102 hg w7 hbox hb; have n2_ := mk0 (gz_ HB hg); have n3_ := mk0 (gz_ HB hg); replace HB := mk0 (bt_ (b_ HB) hb); have BK102 := mk0 (hbox); have GW102 := n2_; have GE102 := n3_; clear n2_ n3_ hb hbox hg; obtain ⟨hcz8_0, hcz8_1, hcz8_2, hfz8_0, hfz8_1, hfz8_2⟩ := c3_ BK102) | (go_at_call 174; (with_reducible refine (key_below.calls a1 a0_0 a0_1 a0_2 t103 _ A6.out).mono ?_); rintro e w9 ⟨rfl, hb⟩; replace BK102 := mk0 (u_ BK102 hb); replace HB := mk0 (bt_ (b_ HB) hb); (try clear hb)))
  go_ret
  exact ⟨by first | rfl | (simp [errW_none, errW_some] <;> rfl) | (simp [*, errW_none, errW_some] <;> rfl), b_ HB⟩

/-! ### table_Rooms: function 122 -/
def table_Rooms.l0 : Nat → Int → List (S99) → Int → Int → Option (Int)
 | 0, _, _, _, _ => none
 | k + 1, x3, x7, x8, x9 => if x9 < x8 then (if 0 ≤ x9 then (if x9 < (x7.length : Int) then (table_Rooms.l0 k (wrap64 (x3 + (((rd_T99 x7 x9).f1).length : Int))) x7 x8 (wrap64 (x9 + 1))) else (none)) else (none)) else (some x3)
def table_Rooms.f (k : Nat) (l0_0 : List (S99)) : Option (Int) := table_Rooms.l0 k 0 l0_0 (l0_0.length : Int) 0
theorem table_Rooms.mono_l : ∀ k, (∀ y0 y1 y2 y3, LeO (table_Rooms.l0 k y0 y1 y2 y3) (table_Rooms.l0 (k + 1) y0 y1 y2 y3))
 | 0 => fun _ _ _ _ r h => by simp [table_Rooms.l0] at h
 | k + 1 => by
  have ih0 := table_Rooms.mono_l k
  ·intro y0 y1 y2 y3
   unfold table_Rooms.l0
   repeat' first
   | (with_reducible exact ih0 _ _ _ _)
   | (with_reducible exact LeO.refl _)
   | (with_reducible exact LeO.none _)
   | (with_reducible refine LeO.ite ?_ ?_)
   | (with_reducible refine LeO.bind ?_ (fun _ => ?_))
   | exact ih0 _ _ _ _
   | exact LeO.none _
   | refine LeO.ite ?_ ?_
   | refine LeO.bind ?_ (fun _ => ?_)
theorem table_Rooms.mono : ∀ a0 k, LeO (table_Rooms.f k a0) (table_Rooms.f (k + 1) a0) := by
 intro a0 k
 have ih0 := table_Rooms.mono_l k
 unfold table_Rooms.f
 repeat' first
   | (with_reducible exact ih0 _ _ _ _)
   | (with_reducible exact LeO.refl _)
   | (with_reducible exact LeO.none _)
   | (with_reducible refine LeO.ite ?_ ?_)
   | (with_reducible refine LeO.bind ?_ (fun _ => ?_))
   | exact ih0 _ _ _ _
   | exact LeO.none _
   | refine LeO.ite ?_ ?_
   | refine LeO.bind ?_ (fun _ => ?_)
set_option maxHeartbeats 8000000 in
set_option maxRecDepth 100000 in
theorem table_Rooms.calls (k : Nat) (A0_0 : Option Addr) (c0_0 : Nat) (l0_0 : List (S99)) (r : Int) (w : World) (hr0_0 : Kd.C k99 w A0_0 l0_0.length l0_0) (hc0_0 : l0_0.length ≤ c0_0) (h : table_Rooms.f k l0_0 = some r) :
  Calls Try.prog 122 #[.agg #[.slice A0_0 l0_0.length c0_0]] w fun e w' => e = .returned (.int .i64 r) ∧ Below w.heap.size w w' := by
 have hu47 := Try.underlying47
 have hu99 := Try.underlying99
 have HR0_0 := mk0 hr0_0
 have HC0_0 := mk0 hc0_0
 clear hr0_0 hc0_0
 have HB := mk0 (Below.refl w.heap.size w)
 have H : (table_Rooms.l0 k 0 l0_0 (l0_0.length : Int) 0) = some r := h
 clear h
 have H' := mk0 H
 clear H
 go_enter Try.func122, Try.ntmps122
 go_wp2_with (first | ((with_reducible refine gate_dst (N := 1) rfl ?_); refine bx_ (N := 1) (cs := #[.slice A0_0 l0_0.length c0_0]) (t := 47) (h := ?_); intro gb104 hg w2 hbox hb; have n2_ := mk0 (gz_ HB hg); have n3_ := mk0 (gz_ HB hg); replace HB := mk0 (bt_ (b_ HB) hb); have BK104 := mk0 (hbox); have GW104 := n2_; have GE104 := n3_; clear n2_ n3_ hb hbox hg; obtain ⟨hcz3_0, hfz3_0⟩ := c1_ BK104))
 go_loopg [3, 9] k (fun kq v3 v9 w' => ∃ (x3_1 : Int) (x9_1 : Int), v3 = .int .i64 x3_1 ∧ v9 = .int .i64 x9_1 ∧ Fc (table_Rooms.l0 kq x3_1 l0_0 (l0_0.length : Int) x9_1 = some r) ∧ Fc (kq ≤ k) ∧ Fc (w'.heap[gb104]? = some (.cells #[(.slice A0_0 l0_0.length c0_0)] 47 (0, 0))) ∧ Fc (Below w.heap.size w w'))
 case atStart => exact ⟨(0), (0), (by first | rfl | (simp; done) | (simp [*]; done)), (by first | rfl | (simp; done) | (simp [*]; done)), H', ⟨Nat.le_refl _⟩, ⟨h_ BK104⟩, ⟨b_ HB⟩⟩
 case round =>
  clear H'
  try clear hcz3_0
  try clear hfz3_0
  obtain ⟨x3_1, x9_1, rfl, rfl, HA, HK1, BK104, HB⟩ := hrel
  cases gk with
  | zero => exact absurd HA.out (by simp [table_Rooms.l0])
  | succ k1 =>
   have H := HA.out
   clear HA
   simp only [table_Rooms.l0] at H
   as_aux_lemma =>
    by_cases c4 : x9_1 < (l0_0.length : Int)
    ·rw [if_pos c4] at H
     have c4b0 : decide (x9_1 < (l0_0.length : Int)) = true := decide_eq_true c4
     clear c4
     by_cases c5 : 0 ≤ x9_1
     ·rw [if_pos c5] at H
      have c5b0 : decide (0 ≤ x9_1) = true := decide_eq_true c5
      clear c5
      by_cases c6 : x9_1 < (l0_0.length : Int)
      ·rw [if_pos c6] at H
       have c6b0 : decide (x9_1 < (l0_0.length : Int)) = true := decide_eq_true c6
       clear c6
       have H' := mk0 H
       clear H
       have p105 : 0 ≤ (x9_1 : Int) := of_decide_eq_true (by first | (with_reducible assumption) | assumption)
       have q105 : x9_1 < (l0_0.length : Int) := of_decide_eq_true (by first | (with_reducible assumption) | assumption)
       obtain ⟨ad105, A105_1, c105_1, e105, hx105_0, hx105_1, hl105_1, hi105_1⟩ := at_T99 HR0_0.out x9_1 p105 q105
       cases e105
       replace hx105_0 := (bc_ HB hx105_0 :)
       replace hx105_1 := (bc_ HB hx105_1 :)
       have HR105_1 := mk0 hi105_1
       have HC105_1 := mk0 hl105_1
       clear hi105_1 hl105_1
       replace p105 := eq_true p105
       replace q105 := eq_true q105
       go_wp2_with (first | ((with_reducible refine gate_dst (N := 5) rfl ?_); refine bx_ (N := 5) (cs := #[.string (⟨#[]⟩ : ByteArray), .slice none 0 0]) (t := 99) (h := ?_); intro gb106 hg w7 hbox hb; have n3_ := mk0 (gz_ HB hg); have n4_ := mk0 (gz_ HB hg); have n5_ := mk0 (ne1_ BK104 hg); have n6_ := mk0 (ne2_ BK104 hg); replace BK104 := mk0 (u_ BK104 hb); replace HB := mk0 (bt_ (b_ HB) hb); have BK106 := mk0 (hbox); have GW106 := n3_; have GE106 := n4_; have NB104_106 := n5_; have NB106_104 := n6_; clear n3_ n4_ n5_ n6_ hb hbox hg; have hnb8 := NB106_104.out; have hnc8 := NB104_106.out; obtain ⟨hcz9_0, hcz9_1, hfz9_0, hfz9_1⟩ := c2_ BK106))
       go_roundg k1
       case measure => have := HK1.out; omega
       case rel => exact ⟨(wrap64 (x3_1 + (((rd_T99 l0_0 x9_1).f1).length : Int))), (wrap64 (x9_1 + 1)), (by first | rfl | (simp; done) | (simp [*]; done)), (by first | rfl | (simp; done) | (simp [*]; done)), H', ⟨by have := HK1.out; omega⟩, ⟨(fa_ (fa_ (h_ BK104) NB104_106.out) NB104_106.out)⟩, ⟨b_ HB⟩⟩
      ·rw [if_neg c6] at H
       exact absurd H (by simp)
     ·rw [if_neg c5] at H
      exact absurd H (by simp)
    ·rw [if_neg c4] at H
     have c4b0 : decide (x9_1 < (l0_0.length : Int)) = false := decide_eq_false c4
     clear c4
     obtain rfl := Option.some.inj H
     go_wp2
     go_ret
     exact ⟨by first | rfl | (simp [errW_none, errW_some] <;> rfl) | (simp [*, errW_none, errW_some] <;> rfl), b_ HB⟩

/-! ### key_Is: function 42 -/
def key_Is.f (a0 : ByteArray) : Option (Bool) := if a0.toList = ([] : List UInt8) then (some false) else (some (decide ((a0.size : Int) ≤ 12)))
set_option maxHeartbeats 8000000 in
set_option maxRecDepth 100000 in
theorem key_Is.calls (a0 : ByteArray) (r : Bool) (w : World) (h : key_Is.f a0 = some r) :
  Calls Try.prog 42 #[.string a0] w fun e w' => e = .returned (.bool r) ∧ Drawn0 w w' := by
 have H : (if a0.toList = ([] : List UInt8) then (some false) else (some (decide ((a0.size : Int) ≤ 12)))) = some r := h
 clear h
 by_cases c2 : a0.toList = ([] : List UInt8)
 ·rw [if_pos c2] at H
  have c2b0 : (a0.toList == ([] : List UInt8)) = true := beq_iff_eq.mpr c2
  have c2b1 : (a0.toList != ([] : List UInt8)) = false := bne_eq_false_iff_eq.mpr c2
  clear c2
  obtain rfl := Option.some.inj H
  go_enter Try.func42, Try.ntmps42
  go_wp2
  go_ret
  exact ⟨by first | rfl | (simp; done) | (simp [*]; done), by repeat (first | exact Drawn0.refl _ | apply Drawn0.step)⟩
 ·rw [if_neg c2] at H
  have c2b0 : (a0.toList == ([] : List UInt8)) = false := beq_eq_false_iff_ne.mpr c2
  have c2b1 : (a0.toList != ([] : List UInt8)) = true := bne_iff_ne.mpr c2
  obtain rfl := Option.some.inj H
  go_enter Try.func42, Try.ntmps42
  go_wp2
  go_ret
  exact ⟨by first | rfl | (simp; done) | (simp [*]; done), by repeat (first | exact Drawn0.refl _ | apply Drawn0.step)⟩

/-! ### key_Fits: function 163 -/
def key_Fits.f (a0 : ByteArray) : Option (Bool) := some (decide ((a0.size : Int) ≤ 20))
set_option maxHeartbeats 8000000 in
set_option maxRecDepth 100000 in
theorem key_Fits.calls (a0 : ByteArray) (r : Bool) (w : World) (h : key_Fits.f a0 = some r) :
  Calls Try.prog 163 #[.string a0] w fun e w' => e = .returned (.bool r) ∧ Drawn0 w w' := by
 have H : (some (decide ((a0.size : Int) ≤ 20))) = some r := h
 clear h
 obtain rfl := Option.some.inj H
 go_enter Try.func163, Try.ntmps163
 go_wp2
 go_ret
 exact ⟨by first | rfl | (simp; done) | (simp [*]; done), by repeat (first | exact Drawn0.refl _ | apply Drawn0.step)⟩

/-! ### chain_version: function 179 -/
def chain_version.f (a0_0 : Int) (a0_1 : ByteArray) (a0_2 : Bool) : Option (Bool) := if a0_0 ≥ 1 then (if a0_0 ≤ 1073741824 then ((key_Fits.f a0_1).bind fun t108 => (if t108 = true then (if a0_2 = true then (some (a0_1.toList == ([] : List UInt8))) else (some true)) else (some false))) else (some false)) else (some false)
set_option maxHeartbeats 8000000 in
set_option maxRecDepth 100000 in
theorem chain_version.calls (a0_0 : Int) (a0_1 : ByteArray) (a0_2 : Bool) (r : Bool) (w : World) (h : chain_version.f a0_0 a0_1 a0_2 = some r) :
  Calls Try.prog 179 #[.agg #[.int .i64 a0_0, .string a0_1, .bool a0_2]] w fun e w' => e = .returned (.bool r) ∧ Below w.heap.size w w' := by
 have hu72 := Try.underlying72
 have HB := mk0 (Below.refl w.heap.size w)
 have H : (if a0_0 ≥ 1 then (if a0_0 ≤ 1073741824 then ((key_Fits.f a0_1).bind fun t108 => (if t108 = true then (if a0_2 = true then (some (a0_1.toList == ([] : List UInt8))) else (some true)) else (some false))) else (some false)) else (some false)) = some r := h
 clear h
 by_cases c2 : a0_0 ≥ 1
 ·rw [if_pos c2] at H
  have c2b0 : decide (1 ≤ a0_0) = true := decide_eq_true c2
  clear c2
  by_cases c3 : a0_0 ≤ 1073741824
  ·rw [if_pos c3] at H
   have c3b0 : decide (a0_0 ≤ 1073741824) = true := decide_eq_true c3
   clear c3
   replace H := Option.bind_eq_some_iff.mp H
   obtain ⟨t108, A40, H⟩ := H
   try dsimp only at H
   have A4 := mk0 A40
   clear A40
   by_cases c5 : t108 = true
   ·subst c5
    rw [if_pos rfl] at H
    by_cases c6 : a0_2 = true
    ·subst c6
     rw [if_pos rfl] at H
     obtain rfl := Option.some.inj H
     go_enter Try.func179, Try.ntmps179
     go_wp2_with (first | ((with_reducible refine gate_dst (N := 1) rfl ?_); refine bx_ (N := 1) (cs := #[.int .i64 a0_0, .string a0_1, .bool true]) (t := 72) (h := ?_); intro gb107 hg w7 hbox hb; have n2_ := mk0 (gz_ HB hg); have n3_ := mk0 (gz_ HB hg); replace HB := mk0 (bt_ (b_ HB) hb); have BK107 := mk0 (hbox); have GW107 := n2_; have GE107 := n3_; clear n2_ n3_ hb hbox hg; obtain ⟨hcz8_0, hcz8_1, hcz8_2, hfz8_0, hfz8_1, hfz8_2⟩ := c3_ BK107) | (go_at_call 163; (with_reducible refine (key_Fits.calls a0_1 true _ A4.out).mono ?_); rintro e w' ⟨rfl, ⟨nd, rfl⟩⟩))
     go_ret
     exact ⟨by first | rfl | (simp [errW_none, errW_some] <;> rfl) | (simp [*, errW_none, errW_some] <;> rfl), b_ HB⟩
    ·replace c6 := Bool.eq_false_iff.mpr c6
     subst c6
     rw [if_neg (show ¬ (false = true) by decide)] at H
     obtain rfl := Option.some.inj H
     go_enter Try.func179, Try.ntmps179
     go_wp2_with (first | ((with_reducible refine gate_dst (N := 1) rfl ?_); refine bx_ (N := 1) (cs := #[.int .i64 a0_0, .string a0_1, .bool false]) (t := 72) (h := ?_); intro gb107 hg w9 hbox hb; have n2_ := mk0 (gz_ HB hg); have n3_ := mk0 (gz_ HB hg); replace HB := mk0 (bt_ (b_ HB) hb); have BK107 := mk0 (hbox); have GW107 := n2_; have GE107 := n3_; clear n2_ n3_ hb hbox hg; obtain ⟨hcz10_0, hcz10_1, hcz10_2, hfz10_0, hfz10_1, hfz10_2⟩ := c3_ BK107) | (go_at_call 163; (with_reducible refine (key_Fits.calls a0_1 true _ A4.out).mono ?_); rintro e w' ⟨rfl, ⟨nd, rfl⟩⟩))
     go_ret
     exact ⟨by first | rfl | (simp [errW_none, errW_some] <;> rfl) | (simp [*, errW_none, errW_some] <;> rfl), b_ HB⟩
   ·replace c5 := Bool.eq_false_iff.mpr c5
    subst c5
    rw [if_neg (show ¬ (false = true) by decide)] at H
    obtain rfl := Option.some.inj H
    go_enter Try.func179, Try.ntmps179
    go_wp2_with (first | ((with_reducible refine gate_dst (N := 1) rfl ?_); refine bx_ (N := 1) (cs := #[.int .i64 a0_0, .string a0_1, .bool a0_2]) (t := 72) (h := ?_); intro gb107 hg w11 hbox hb; have n2_ := mk0 (gz_ HB hg); have n3_ := mk0 (gz_ HB hg); replace HB := mk0 (bt_ (b_ HB) hb); have BK107 := mk0 (hbox); have GW107 := n2_; have GE107 := n3_; clear n2_ n3_ hb hbox hg; obtain ⟨hcz12_0, hcz12_1, hcz12_2, hfz12_0, hfz12_1, hfz12_2⟩ := c3_ BK107) | (go_at_call 163; (with_reducible refine (key_Fits.calls a0_1 false _ A4.out).mono ?_); rintro e w' ⟨rfl, ⟨nd, rfl⟩⟩))
    go_ret
    exact ⟨by first | rfl | (simp [errW_none, errW_some] <;> rfl) | (simp [*, errW_none, errW_some] <;> rfl), b_ HB⟩
  ·rw [if_neg c3] at H
   have c3b0 : decide (a0_0 ≤ 1073741824) = false := decide_eq_false c3
   clear c3
   obtain rfl := Option.some.inj H
   go_enter Try.func179, Try.ntmps179
   go_wp2_with (first | ((with_reducible refine gate_dst (N := 1) rfl ?_); refine bx_ (N := 1) (cs := #[.int .i64 a0_0, .string a0_1, .bool a0_2]) (t := 72) (h := ?_); intro gb107 hg w13 hbox hb; have n2_ := mk0 (gz_ HB hg); have n3_ := mk0 (gz_ HB hg); replace HB := mk0 (bt_ (b_ HB) hb); have BK107 := mk0 (hbox); have GW107 := n2_; have GE107 := n3_; clear n2_ n3_ hb hbox hg; obtain ⟨hcz14_0, hcz14_1, hcz14_2, hfz14_0, hfz14_1, hfz14_2⟩ := c3_ BK107))
   go_ret
   exact ⟨by first | rfl | (simp [errW_none, errW_some] <;> rfl) | (simp [*, errW_none, errW_some] <;> rfl), b_ HB⟩
 ·rw [if_neg c2] at H
  have c2b0 : decide (1 ≤ a0_0) = false := decide_eq_false c2
  clear c2
  obtain rfl := Option.some.inj H
  go_enter Try.func179, Try.ntmps179
  go_wp2_with (first | ((with_reducible refine gate_dst (N := 1) rfl ?_); refine bx_ (N := 1) (cs := #[.int .i64 a0_0, .string a0_1, .bool a0_2]) (t := 72) (h := ?_); intro gb107 hg w15 hbox hb; have n2_ := mk0 (gz_ HB hg); have n3_ := mk0 (gz_ HB hg); replace HB := mk0 (bt_ (b_ HB) hb); have BK107 := mk0 (hbox); have GW107 := n2_; have GE107 := n3_; clear n2_ n3_ hb hbox hg; obtain ⟨hcz16_0, hcz16_1, hcz16_2, hfz16_0, hfz16_1, hfz16_2⟩ := c3_ BK107))
  go_ret
  exact ⟨by first | rfl | (simp [errW_none, errW_some] <;> rfl) | (simp [*, errW_none, errW_some] <;> rfl), b_ HB⟩

/-! ### chain_May: function 144 -/
mutual
def chain_May.l0 : Nat → List (S72) → Int → Int → ByteArray → List (S72) → Option (Bool)
 | 0, _, _, _, _, _ => none
 | k + 1, x6, x7, x8, x110000, x110001 => if x8 < x7 then (if 0 ≤ x8 then (if x8 < (x6.length : Int) then ((chain_version.f ((rd_T72 x6 x8).f0) ((rd_T72 x6 x8).f1) ((rd_T72 x6 x8).f2)).bind fun t112 => (if t112 = true then (if x8 > 0 then (if 0 ≤ (wrap64 (x8 - 1)) then (if (wrap64 (x8 - 1)) < (x110001.length : Int) then (chain_May.j1 k x6 x7 x8 (decide (((rd_T72 x6 x8).f0) ≥ ((rd_T72 x110001 (wrap64 (x8 - 1))).f0))) x110000 x110001) else (none)) else (none)) else (chain_May.j1 k x6 x7 x8 false x110000 x110001)) else (chain_May.j1 k x6 x7 x8 true x110000 x110001))) else (none)) else (none)) else ((key_Is.f x110000).bind fun t114 => (if t114 = true then (some (decide ((x110001.length : Int) > 0))) else (some false)))
def chain_May.j1 : Nat → List (S72) → Int → Int → Bool → ByteArray → List (S72) → Option (Bool)
 | 0, _, _, _, _, _, _ => none
 | k + 1, x6, x7, x8, x31, x110000, x110001 => if x31 = true then (some false) else (chain_May.l0 k x6 x7 (wrap64 (x8 + 1)) x110000 x110001)
end
def chain_May.f (k : Nat) (a0_0 : ByteArray) (l0_1 : List (S72)) : Option (Bool) := chain_May.l0 k l0_1 (l0_1.length : Int) 0 a0_0 l0_1
theorem chain_May.mono_l : ∀ k, (∀ y0 y1 y2 y3 y4, LeO (chain_May.l0 k y0 y1 y2 y3 y4) (chain_May.l0 (k + 1) y0 y1 y2 y3 y4)) ∧ (∀ y0 y1 y2 y3 y4 y5, LeO (chain_May.j1 k y0 y1 y2 y3 y4 y5) (chain_May.j1 (k + 1) y0 y1 y2 y3 y4 y5))
 | 0 => ⟨fun _ _ _ _ _ r h => by simp [chain_May.l0] at h, fun _ _ _ _ _ _ r h => by simp [chain_May.j1] at h⟩
 | k + 1 => by
  obtain ⟨ih0, ih1⟩ := chain_May.mono_l k
  refine ⟨?_, ?_⟩
  ·intro y0 y1 y2 y3 y4
   unfold chain_May.l0
   repeat' first
   | (with_reducible exact ih0 _ _ _ _ _)
   | (with_reducible exact ih1 _ _ _ _ _ _)
   | (with_reducible exact LeO.refl _)
   | (with_reducible exact LeO.none _)
   | (with_reducible refine LeO.ite ?_ ?_)
   | (with_reducible refine LeO.bind ?_ (fun _ => ?_))
   | exact ih0 _ _ _ _ _
   | exact ih1 _ _ _ _ _ _
   | exact LeO.none _
   | refine LeO.ite ?_ ?_
   | refine LeO.bind ?_ (fun _ => ?_)
  ·intro y0 y1 y2 y3 y4 y5
   unfold chain_May.j1
   repeat' first
   | (with_reducible exact ih0 _ _ _ _ _)
   | (with_reducible exact ih1 _ _ _ _ _ _)
   | (with_reducible exact LeO.refl _)
   | (with_reducible exact LeO.none _)
   | (with_reducible refine LeO.ite ?_ ?_)
   | (with_reducible refine LeO.bind ?_ (fun _ => ?_))
   | exact ih0 _ _ _ _ _
   | exact ih1 _ _ _ _ _ _
   | exact LeO.none _
   | refine LeO.ite ?_ ?_
   | refine LeO.bind ?_ (fun _ => ?_)
theorem chain_May.mono : ∀ a0 a1 k, LeO (chain_May.f k a0 a1) (chain_May.f (k + 1) a0 a1) := by
 intro a0 a1 k
 obtain ⟨ih0, ih1⟩ := chain_May.mono_l k
 unfold chain_May.f
 repeat' first
   | (with_reducible exact ih0 _ _ _ _ _)
   | (with_reducible exact ih1 _ _ _ _ _ _)
   | (with_reducible exact LeO.refl _)
   | (with_reducible exact LeO.none _)
   | (with_reducible refine LeO.ite ?_ ?_)
   | (with_reducible refine LeO.bind ?_ (fun _ => ?_))
   | exact ih0 _ _ _ _ _
   | exact ih1 _ _ _ _ _ _
   | exact LeO.none _
   | refine LeO.ite ?_ ?_
   | refine LeO.bind ?_ (fun _ => ?_)
def chain_May.T4 : Bool × List (List Nat × List Nat) := (true, [([], []), ([0], [0]), ([1], [1]), ([2, 1], [2]), ([3], [3]), ([4, 3], [3, 4]), ([5, 3, 3], [3, 5]), ([6], [6]), ([7, 6], [6, 7]), ([6], [6]), ([9, 6], [6, 9]), ([6], [6]), ([11, 6], [6, 11]), ([10, 12, 6], [6, 10, 12]), ([13, 6], [6, 13]), ([14, 6], [6, 14]), ([8, 15, 6], [6, 8, 15]), ([6, 16, 3], [3, 6, 16]), ([3, 17], [3, 17])])
def chain_May.B4 : List Nat := [0, 1, 3, 7, 15, 31, 63, 127, 255, 127, 639, 127, 2175, 7807, 15999, 32383, 65535, 131071, 262143]
theorem chain_May.tab4 : rtab .any (opsOf Try.f144 4) = chain_May.T4 := by kernel_rfl
theorem chain_May.bits4 : waitsOk chain_May.T4.2 chain_May.B4 = true := by kernel_rfl
set_option maxHeartbeats 8000000 in
set_option maxRecDepth 100000 in
theorem chain_May.calls (k : Nat) (a0_0 : ByteArray) (A0_1 : Option Addr) (c0_1 : Nat) (l0_1 : List (S72)) (r : Bool) (w : World) (hr0_1 : Kd.C k72 w A0_1 l0_1.length l0_1) (hc0_1 : l0_1.length ≤ c0_1) (h : chain_May.f k a0_0 l0_1 = some r) :
  Calls Try.prog 144 #[.agg #[.string a0_0, .slice A0_1 l0_1.length c0_1]] w fun e w' => e = .returned (.bool r) ∧ Below w.heap.size w w' := by
 have hu99 := Try.underlying99
 have hu72 := Try.underlying72
 have HR0_1 := mk0 hr0_1
 have HC0_1 := mk0 hc0_1
 clear hr0_1 hc0_1
 have HB := mk0 (Below.refl w.heap.size w)
 have H : (chain_May.l0 k l0_1 (l0_1.length : Int) 0 a0_0 l0_1) = some r := h
 clear h
 have H' := mk0 H
 clear H
 go_enter Try.func144, Try.ntmps144
 go_wp2_with (first | ((with_reducible refine gate_dst (N := 1) rfl ?_); (try (refine gate_guard (by rfl) ?_; dsimp only)); refine bx_ (N := 1) (cs := #[.string a0_0, .slice A0_1 l0_1.length c0_1]) (t := 99) (h := ?_); intro gb109 hg w2 hbox hb; have n2_ := mk0 (gz_ HB hg); have n3_ := mk0 (gz_ HB hg); replace HB := mk0 (bt_ (b_ HB) hb); have BK109 := mk0 (hbox); have GW109 := n2_; have GE109 := n3_; clear n2_ n3_ hb hbox hg; obtain ⟨hcz3_0, hcz3_1, hfz3_0, hfz3_1⟩ := c2_ BK109))
 go_loopg [8] k (fun kq v8 w' => ∃ (x8_1 : Int), v8 = .int .i64 x8_1 ∧ Fc (chain_May.l0 kq l0_1 (l0_1.length : Int) x8_1 a0_0 l0_1 = some r) ∧ Fc (kq ≤ k) ∧ Fc (w'.heap[gb109]? = some (.cells #[.string a0_0, (.slice A0_1 l0_1.length c0_1)] 99 (0, 0))) ∧ Fc (Below w.heap.size w w'))
 case atStart => exact ⟨(0), (by first | rfl | (simp; done) | (simp [*]; done)), H', ⟨Nat.le_refl _⟩, ⟨h_ BK109⟩, ⟨b_ HB⟩⟩
 case round =>
  clear H'
  try clear hcz3_0
  try clear hcz3_1
  try clear hfz3_0
  try clear hfz3_1
  obtain ⟨x8_1, rfl, HA, HK1, BK109, HB⟩ := hrel
  cases gk with
  | zero => exact absurd HA.out (by simp [chain_May.l0])
  | succ k1 =>
   have H := HA.out
   clear HA
   simp only [chain_May.l0] at H
   as_aux_lemma =>
    by_cases c4 : x8_1 < (l0_1.length : Int)
    ·rw [if_pos c4] at H
     have c4b0 : decide (x8_1 < (l0_1.length : Int)) = true := decide_eq_true c4
     clear c4
     by_cases c5 : 0 ≤ x8_1
     ·rw [if_pos c5] at H
      have c5b0 : decide (0 ≤ x8_1) = true := decide_eq_true c5
      clear c5
      by_cases c6 : x8_1 < (l0_1.length : Int)
      ·rw [if_pos c6] at H
       have c6b0 : decide (x8_1 < (l0_1.length : Int)) = true := decide_eq_true c6
       clear c6
       have HC7 := mk0 H
       clear H
       have p110 : 0 ≤ (x8_1 : Int) := of_decide_eq_true (by first | (with_reducible assumption) | assumption)
       have q110 : x8_1 < (l0_1.length : Int) := of_decide_eq_true (by first | (with_reducible assumption) | assumption)
       obtain ⟨ad110, e110, hx110_0, hx110_1, hx110_2⟩ := at_T72 HR0_1.out x8_1 p110 q110
       cases e110
       replace hx110_0 := (bc_ HB hx110_0 :)
       replace hx110_1 := (bc_ HB hx110_1 :)
       replace hx110_2 := (bc_ HB hx110_2 :)
       replace p110 := eq_true p110
       replace q110 := eq_true q110
       go_upto_region 4 with (first | ((with_reducible refine gate_dst (N := 4) rfl ?_); (try (refine gate_guard (by rfl) ?_; dsimp only)); refine bx_ (N := 4) (cs := #[.int .i64 0, .string (⟨#[]⟩ : ByteArray), .bool false]) (t := 72) (h := ?_); intro gb111 hg w8 hbox hb; have n3_ := mk0 (gz_ HB hg); have n4_ := mk0 (gz_ HB hg); have n5_ := mk0 (ne1_ BK109 hg); have n6_ := mk0 (ne2_ BK109 hg); replace BK109 := mk0 (u_ BK109 hb); replace HB := mk0 (bt_ (b_ HB) hb); have BK111 := mk0 (hbox); have GW111 := n3_; have GE111 := n4_; have NB109_111 := n5_; have NB111_109 := n6_; clear n3_ n4_ n5_ n6_ hb hbox hg; have hnb9 := NB111_109.out; have hnc9 := NB109_111.out; obtain ⟨hcz10_0, hcz10_1, hcz10_2, hfz10_0, hfz10_1, hfz10_2⟩ := c3_ BK111))
       (try simp only [Act.put, List.setIfInBounds_toArray, List.set_cons_zero, List.set_cons_succ])
       go_cut [31] (fun v31 wc => ∃ (kq : Nat) (x31_6 : Bool), v31 = .bool x31_6 ∧ Fc (chain_May.j1 kq l0_1 (l0_1.length : Int) x8_1 x31_6 a0_0 l0_1 = some r) ∧ Fc (kq ≤ k1) ∧ Fc (wc.heap[gb109]? = some (.cells #[.string a0_0, (.slice (some ad110) l0_1.length c0_1)] 99 (0, 0))) ∧ Fc (wc.heap[gb111]? = some (.cells #[.int .i64 ((rd_T72 l0_1 x8_1).f0), .string ((rd_T72 l0_1 x8_1).f1), .bool ((rd_T72 l0_1 x8_1).f2)] 72 (0, 0))) ∧ Fc (Below w.heap.size w wc))
       case first =>
        have H := HC7.out
        clear HC7
        replace H := Option.bind_eq_some_iff.mp H
        obtain ⟨t112, A110, H⟩ := H
        try dsimp only at H
        have A11 := mk0 A110
        clear A110
        by_cases c12 : t112 = true
        ·subst c12
         rw [if_pos rfl] at H
         by_cases c13 : x8_1 > 0
         ·rw [if_pos c13] at H
          have c13b0 : decide (0 < x8_1) = true := decide_eq_true c13
          clear c13
          (first | rw [c13b0] | (simp only [i64_w, i32_w]; rw [c13b0]) | skip)
          obtain ⟨ji14, hji14⟩ : ∃ j_ : Int, (wrap64 (x8_1 - 1)) = j_ := ⟨_, rfl⟩
          replace H : (if 0 ≤ (ji14) then (if (ji14) < (l0_1.length : Int) then (chain_May.j1 k1 l0_1 (l0_1.length : Int) x8_1 (decide (((rd_T72 l0_1 x8_1).f0) ≥ ((rd_T72 l0_1 (ji14)).f0))) a0_0 l0_1) else (none)) else (none)) = some r := by first | (rw [hji14] at H; exact H) | (simp only [hji14] at H ⊢; exact H)
          (try rw [hji14] at A11)
          have hji14w : (IntKind.i64.wrap (x8_1 - 1)) = ji14 := (i64_w _).trans hji14
          by_cases c15 : 0 ≤ (ji14)
          ·rw [if_pos c15] at H
           have c15b0 : decide (0 ≤ (ji14)) = true := decide_eq_true c15
           clear c15
           by_cases c16 : (ji14) < (l0_1.length : Int)
           ·rw [if_pos c16] at H
            have c16b0 : decide ((ji14) < (l0_1.length : Int)) = true := decide_eq_true c16
            clear c16
            have H' := mk0 H
            clear H
            try go_wp2
            have n0_ : Fc ((((w8.setCell ⟨gb111, 0, none⟩ (.int .i64 ((rd_T72 l0_1 x8_1).f0))).setCell ⟨gb111, 1, none⟩ (.string ((rd_T72 l0_1 x8_1).f1))).setCell ⟨gb111, 2, none⟩ (.bool ((rd_T72 l0_1 x8_1).f2))).heap[gb109]? = some (.cells #[.string a0_0, .slice (some ad110) l0_1.length c0_1] 99 (0, 0))) := ⟨(fa_ (fa_ (fa_ (h_ BK109) NB109_111.out) NB109_111.out) NB109_111.out)⟩
            have n1_ : Fc ((((w8.setCell ⟨gb111, 0, none⟩ (.int .i64 ((rd_T72 l0_1 x8_1).f0))).setCell ⟨gb111, 1, none⟩ (.string ((rd_T72 l0_1 x8_1).f1))).setCell ⟨gb111, 2, none⟩ (.bool ((rd_T72 l0_1 x8_1).f2))).heap[gb111]? = some (.cells #[.int .i64 ((rd_T72 l0_1 x8_1).f0), .string ((rd_T72 l0_1 x8_1).f1), .bool ((rd_T72 l0_1 x8_1).f2)] 72 (0, 0))) := ⟨(pu_ (cs := #[.int .i64 ((rd_T72 l0_1 x8_1).f0), .string ((rd_T72 l0_1 x8_1).f1), .bool false]) (pu_ (cs := #[.int .i64 ((rd_T72 l0_1 x8_1).f0), .string (⟨#[]⟩ : ByteArray), .bool false]) (pu_ (cs := #[.int .i64 0, .string (⟨#[]⟩ : ByteArray), .bool false]) (h_ BK111))))⟩
            have n2_ : Fc (Below w.heap.size w (((w8.setCell ⟨gb111, 0, none⟩ (.int .i64 ((rd_T72 l0_1 x8_1).f0))).setCell ⟨gb111, 1, none⟩ (.string ((rd_T72 l0_1 x8_1).f1))).setCell ⟨gb111, 2, none⟩ (.bool ((rd_T72 l0_1 x8_1).f2)))) := ⟨b_ HB⟩
            (try clear BK109)
            (try clear BK111)
            (try clear HB)
            generalize (((w8.setCell ⟨gb111, 0, none⟩ (.int .i64 ((rd_T72 l0_1 x8_1).f0))).setCell ⟨gb111, 1, none⟩ (.string ((rd_T72 l0_1 x8_1).f1))).setCell ⟨gb111, 2, none⟩ (.bool ((rd_T72 l0_1 x8_1).f2))) = w17 at n0_ n1_ n2_ ⊢
            have BK109 := n0_
            have BK111 := n1_
            have HB := n2_
            clear n0_ n1_ n2_
            replace BK109 := mk0 (bD_ BK109.out)
            replace BK111 := mk0 (bD_ BK111.out)
            replace HB := mk0 (b1_ HB.out)
            have p113 : 0 ≤ ((ji14) : Int) := of_decide_eq_true (by first | (with_reducible assumption) | assumption)
            have q113 : (ji14) < (l0_1.length : Int) := of_decide_eq_true (by first | (with_reducible assumption) | assumption)
            obtain ⟨ad113, e113, hx113_0, hx113_1, hx113_2⟩ := at_T72 HR0_1.out (ji14) p113 q113
            have hw113_2 := hx113_2
            have hw113_1 := hx113_1
            have hw113_0 := hx113_0
            obtain rfl : ad110 = ad113 := (by injection e113)
            replace hx113_0 := (bc_ HB hx113_0 :)
            replace hx113_1 := (bc_ HB hx113_1 :)
            replace hx113_2 := (bc_ HB hx113_2 :)
            replace p113 := eq_true p113
            replace q113 := eq_true q113
            refine start_ (n := 19) (S := fun w' => w'.cell? ⟨gb111, 0, none⟩ = some (.int .i64 ((rd_T72 l0_1 x8_1).f0)) ∧ w'.cell? ⟨gb111, 1, none⟩ = some (.string ((rd_T72 l0_1 x8_1).f1)) ∧ w'.cell? ⟨gb111, 2, none⟩ = some (.bool ((rd_T72 l0_1 x8_1).f2)) ∧ w'.cell? ⟨gb109, 0, none⟩ = some (.string a0_0) ∧ w'.cell? ⟨gb109, 1, none⟩ = some (.slice (some ad110) l0_1.length c0_1) ∧ w'.cell? (ad110.add (((ji14)).toNat * 3)) = some (.int .i64 ((rd_T72 l0_1 (ji14)).f0)) ∧ w'.cell? ⟨(ad110.add (((ji14)).toNat * 3)).block, (ad110.add (((ji14)).toNat * 3)).off + 1, none⟩ = some (.string ((rd_T72 l0_1 (ji14)).f1)) ∧ w'.cell? ⟨(ad110.add (((ji14)).toNat * 3)).block, (ad110.add (((ji14)).toNat * 3)).off + 2, none⟩ = some (.bool ((rd_T72 l0_1 (ji14)).f2))) (ds := []) (bt 19 0) (by kernel_rfl) rfl rfl ⟨bk_ BK111 0, bk_ BK111 1, bk_ BK111 2, bk_ BK109 0, bk_ BK109 1, ((bc_ HB hw113_0 :)), ((bc_ HB hw113_1 :)), ((bc_ HB hw113_2 :))⟩ (fun hHeld => ?_); refine with_tabW chain_May.tab4 chain_May.bits4 (fun HT_ HW_ => ?_)
            generalize w17.drew = w18 at BK109 BK111 HB hx113_0 hx113_1 hx113_2 hHeld ⊢
            refine tq8_ HT_.out HW_.out 0 13 (bt 19 1) hHeld (h := ?_)
            refine one_ (i := 1) (N := some 14) (bt 19 3) rfl rfl (one_of HT_.out (by kernel_rfl)) (by decide) (fun K hK => ?_)
            refine goes_ Try.func179 (by kernel_rfl) rfl #[.agg #[.int .i64 ((rd_T72 l0_1 x8_1).f0), .string ((rd_T72 l0_1 x8_1).f1), .bool ((rd_T72 l0_1 x8_1).f2)]] (by rfl) rfl rfl (by (try simp only [List.map_toArray, List.map_cons, List.map_nil]); first | done | rfl | (simp only [List.length_drop, List.length_take]; rfl)) ?_
            with_reducible refine (chain_version.calls ((rd_T72 l0_1 x8_1).f0) ((rd_T72 l0_1 x8_1).f1) ((rd_T72 l0_1 x8_1).f2) true _ A11.out).mono ?_
            rintro e w19 ⟨rfl, hb⟩
            refine ⟨_, rfl, ?_⟩
            replace BK109 := mk0 (u_ BK109 hb)
            replace BK111 := mk0 (u_ BK111 hb)
            replace HB := mk0 (bt_ (b_ HB) hb)
            (try clear hb)
            (try clear hb2)
            (try clear hk)
            (try clear hi)
            refine hK.out _ _ ⟨bk_ BK111 0, bk_ BK111 1, bk_ BK111 2, bk_ BK109 0, bk_ BK109 1, ((bc_ HB hw113_0 :)), ((bc_ HB hw113_1 :)), ((bc_ HB hw113_2 :))⟩ (fun hHeld => ?_)
            clear hK K
            refine norm_ (a' := ?_) ?_ ?_
            rotate_left
            ·show Act.put _ (some 14) _ = _
             simp only [z_]
             rfl
            refine pq_ HT_.out 2 15 (bt 19 7) (h := ?_)
            refine pq_ HT_.out 3 16 (bt 19 15) (h := ?_)
            refine pq_ HT_.out 4 17 (bt 19 31) (h := ?_)
            refine pq_ HT_.out 5 18 (bt 19 63) (h := ?_)
            refine pq_ HT_.out 6 19 (bt 19 127) (h := ?_)
            refine pq_ HT_.out 7 20 (bt 19 255) (h := ?_)
            refine pq_ HT_.out 9 22 (bt 19 767) (h := ?_)
            refine pq_ HT_.out 11 24 (bt 19 2815) (h := ?_)
            refine pq_ HT_.out 12 25 (bt 19 6911) (h := ?_)
            refine tq8_ HT_.out HW_.out 8 21 (bt 19 7167) hHeld (h := ?_)
            refine tq8_ HT_.out HW_.out 10 23 (bt 19 8191) hHeld (h := ?_)
            refine pq_ HT_.out 13 26 (bt 19 16383) (h := ?_)
            refine pq_ HT_.out 14 27 (bt 19 32767) (h := ?_)
            refine tq8_ HT_.out HW_.out 15 28 (bt 19 65535) hHeld (h := ?_)
            refine pq_ HT_.out 16 29 (bt 19 131071) (h := ?_)
            refine pq_ HT_.out 17 30 (bt 19 262143) (h := ?_)
            refine pq_ HT_.out 18 31 (bt 19 524287) (h := ?_)
            refine done_ (done_of HT_.out (by kernel_rfl)) ?_
            try go_wp2
            go_meet
            case rel => exact ⟨_, (decide (((rd_T72 l0_1 x8_1).f0) ≥ ((rd_T72 l0_1 (ji14)).f0))), (by first | rfl | (simp; done) | (simp only [← hji14] <;> (first | rfl | (simp [leq_]; done) | (simp; done))) | (simp [*]; done)), H', ⟨by have := HK1.out; first | omega | exact Nat.le_refl _⟩, ⟨h_ BK109⟩, ⟨h_ BK111⟩, ⟨b_ HB⟩⟩
           ·rw [if_neg c16] at H
            exact absurd H (by simp)
          ·rw [if_neg c15] at H
           exact absurd H (by simp)
         ·rw [if_neg c13] at H
          have c13b0 : decide (0 < x8_1) = false := decide_eq_false c13
          clear c13
          (first | rw [c13b0] | (simp only [i64_w, i32_w]; rw [c13b0]) | skip)
          have H' := mk0 H
          clear H
          try go_wp2
          have n0_ : Fc ((((w8.setCell ⟨gb111, 0, none⟩ (.int .i64 ((rd_T72 l0_1 x8_1).f0))).setCell ⟨gb111, 1, none⟩ (.string ((rd_T72 l0_1 x8_1).f1))).setCell ⟨gb111, 2, none⟩ (.bool ((rd_T72 l0_1 x8_1).f2))).heap[gb109]? = some (.cells #[.string a0_0, .slice (some ad110) l0_1.length c0_1] 99 (0, 0))) := ⟨(fa_ (fa_ (fa_ (h_ BK109) NB109_111.out) NB109_111.out) NB109_111.out)⟩
          have n1_ : Fc ((((w8.setCell ⟨gb111, 0, none⟩ (.int .i64 ((rd_T72 l0_1 x8_1).f0))).setCell ⟨gb111, 1, none⟩ (.string ((rd_T72 l0_1 x8_1).f1))).setCell ⟨gb111, 2, none⟩ (.bool ((rd_T72 l0_1 x8_1).f2))).heap[gb111]? = some (.cells #[.int .i64 ((rd_T72 l0_1 x8_1).f0), .string ((rd_T72 l0_1 x8_1).f1), .bool ((rd_T72 l0_1 x8_1).f2)] 72 (0, 0))) := ⟨(pu_ (cs := #[.int .i64 ((rd_T72 l0_1 x8_1).f0), .string ((rd_T72 l0_1 x8_1).f1), .bool false]) (pu_ (cs := #[.int .i64 ((rd_T72 l0_1 x8_1).f0), .string (⟨#[]⟩ : ByteArray), .bool false]) (pu_ (cs := #[.int .i64 0, .string (⟨#[]⟩ : ByteArray), .bool false]) (h_ BK111))))⟩
          have n2_ : Fc (Below w.heap.size w (((w8.setCell ⟨gb111, 0, none⟩ (.int .i64 ((rd_T72 l0_1 x8_1).f0))).setCell ⟨gb111, 1, none⟩ (.string ((rd_T72 l0_1 x8_1).f1))).setCell ⟨gb111, 2, none⟩ (.bool ((rd_T72 l0_1 x8_1).f2)))) := ⟨b_ HB⟩
          (try clear BK109)
          (try clear BK111)
          (try clear HB)
          generalize (((w8.setCell ⟨gb111, 0, none⟩ (.int .i64 ((rd_T72 l0_1 x8_1).f0))).setCell ⟨gb111, 1, none⟩ (.string ((rd_T72 l0_1 x8_1).f1))).setCell ⟨gb111, 2, none⟩ (.bool ((rd_T72 l0_1 x8_1).f2))) = w20 at n0_ n1_ n2_ ⊢
          have BK109 := n0_
          have BK111 := n1_
          have HB := n2_
          clear n0_ n1_ n2_
          replace BK109 := mk0 (bD_ BK109.out)
          replace BK111 := mk0 (bD_ BK111.out)
          replace HB := mk0 (b1_ HB.out)
          refine start_ (n := 19) (S := fun w' => w'.cell? ⟨gb111, 0, none⟩ = some (.int .i64 ((rd_T72 l0_1 x8_1).f0)) ∧ w'.cell? ⟨gb111, 1, none⟩ = some (.string ((rd_T72 l0_1 x8_1).f1)) ∧ w'.cell? ⟨gb111, 2, none⟩ = some (.bool ((rd_T72 l0_1 x8_1).f2))) (ds := []) (bt 19 0) (by kernel_rfl) rfl rfl ⟨bk_ BK111 0, bk_ BK111 1, bk_ BK111 2⟩ (fun hHeld => ?_); refine with_tabW chain_May.tab4 chain_May.bits4 (fun HT_ HW_ => ?_)
          generalize w20.drew = w21 at BK109 BK111 HB hHeld ⊢
          refine tq3_ HT_.out HW_.out 0 13 (bt 19 1) hHeld (h := ?_)
          refine one_ (i := 1) (N := some 14) (bt 19 3) rfl rfl (one_of HT_.out (by kernel_rfl)) (by decide) (fun K hK => ?_)
          refine goes_ Try.func179 (by kernel_rfl) rfl #[.agg #[.int .i64 ((rd_T72 l0_1 x8_1).f0), .string ((rd_T72 l0_1 x8_1).f1), .bool ((rd_T72 l0_1 x8_1).f2)]] (by rfl) rfl rfl (by (try simp only [List.map_toArray, List.map_cons, List.map_nil]); first | done | rfl | (simp only [List.length_drop, List.length_take]; rfl)) ?_
          with_reducible refine (chain_version.calls ((rd_T72 l0_1 x8_1).f0) ((rd_T72 l0_1 x8_1).f1) ((rd_T72 l0_1 x8_1).f2) true _ A11.out).mono ?_
          rintro e w22 ⟨rfl, hb⟩
          refine ⟨_, rfl, ?_⟩
          replace BK109 := mk0 (u_ BK109 hb)
          replace BK111 := mk0 (u_ BK111 hb)
          replace HB := mk0 (bt_ (b_ HB) hb)
          (try clear hb)
          (try clear hb2)
          (try clear hk)
          (try clear hi)
          refine hK.out _ _ ⟨bk_ BK111 0, bk_ BK111 1, bk_ BK111 2⟩ (fun hHeld => ?_)
          clear hK K
          refine norm_ (a' := ?_) ?_ ?_
          rotate_left
          ·show Act.put _ (some 14) _ = _
           simp only [z_]
           rfl
          refine pq_ HT_.out 2 15 (bt 19 7) (h := ?_)
          refine pq_ HT_.out 3 16 (bt 19 15) (h := ?_)
          refine pq_ HT_.out 4 17 (bt 19 31) (h := ?_)
          refine pq_ HT_.out 5 18 (bt 19 63) (h := ?_)
          refine pq_ HT_.out 6 19 (bt 19 127) (h := ?_)
          refine uq_ HT_.out 7 20 (bt 19 255) (h := ?_)
          refine uq_ HT_.out 8 21 (bt 19 511) (h := ?_)
          refine uq_ HT_.out 9 22 (bt 19 1023) (h := ?_)
          refine uq_ HT_.out 10 23 (bt 19 2047) (h := ?_)
          refine uq_ HT_.out 11 24 (bt 19 4095) (h := ?_)
          refine uq_ HT_.out 12 25 (bt 19 8191) (h := ?_)
          refine uq_ HT_.out 13 26 (bt 19 16383) (h := ?_)
          refine uq_ HT_.out 14 27 (bt 19 32767) (h := ?_)
          refine uq_ HT_.out 15 28 (bt 19 65535) (h := ?_)
          refine uq_ HT_.out 16 29 (bt 19 131071) (h := ?_)
          refine pq_ HT_.out 17 30 (bt 19 262143) (h := ?_)
          refine pq_ HT_.out 18 31 (bt 19 524287) (h := ?_)
          refine done_ (done_of HT_.out (by kernel_rfl)) ?_
          try go_wp2
          go_meet
          case rel => exact ⟨_, (false), (by first | rfl | (simp; done) | (simp [*]; done)), H', ⟨by have := HK1.out; first | omega | exact Nat.le_refl _⟩, ⟨h_ BK109⟩, ⟨h_ BK111⟩, ⟨b_ HB⟩⟩
        ·replace c12 := Bool.eq_false_iff.mpr c12
         subst c12
         rw [if_neg (show ¬ (false = true) by decide)] at H
         have H' := mk0 H
         clear H
         try go_wp2
         have n0_ : Fc ((((w8.setCell ⟨gb111, 0, none⟩ (.int .i64 ((rd_T72 l0_1 x8_1).f0))).setCell ⟨gb111, 1, none⟩ (.string ((rd_T72 l0_1 x8_1).f1))).setCell ⟨gb111, 2, none⟩ (.bool ((rd_T72 l0_1 x8_1).f2))).heap[gb109]? = some (.cells #[.string a0_0, .slice (some ad110) l0_1.length c0_1] 99 (0, 0))) := ⟨(fa_ (fa_ (fa_ (h_ BK109) NB109_111.out) NB109_111.out) NB109_111.out)⟩
         have n1_ : Fc ((((w8.setCell ⟨gb111, 0, none⟩ (.int .i64 ((rd_T72 l0_1 x8_1).f0))).setCell ⟨gb111, 1, none⟩ (.string ((rd_T72 l0_1 x8_1).f1))).setCell ⟨gb111, 2, none⟩ (.bool ((rd_T72 l0_1 x8_1).f2))).heap[gb111]? = some (.cells #[.int .i64 ((rd_T72 l0_1 x8_1).f0), .string ((rd_T72 l0_1 x8_1).f1), .bool ((rd_T72 l0_1 x8_1).f2)] 72 (0, 0))) := ⟨(pu_ (cs := #[.int .i64 ((rd_T72 l0_1 x8_1).f0), .string ((rd_T72 l0_1 x8_1).f1), .bool false]) (pu_ (cs := #[.int .i64 ((rd_T72 l0_1 x8_1).f0), .string (⟨#[]⟩ : ByteArray), .bool false]) (pu_ (cs := #[.int .i64 0, .string (⟨#[]⟩ : ByteArray), .bool false]) (h_ BK111))))⟩
         have n2_ : Fc (Below w.heap.size w (((w8.setCell ⟨gb111, 0, none⟩ (.int .i64 ((rd_T72 l0_1 x8_1).f0))).setCell ⟨gb111, 1, none⟩ (.string ((rd_T72 l0_1 x8_1).f1))).setCell ⟨gb111, 2, none⟩ (.bool ((rd_T72 l0_1 x8_1).f2)))) := ⟨b_ HB⟩
         (try clear BK109)
         (try clear BK111)
         (try clear HB)
         generalize (((w8.setCell ⟨gb111, 0, none⟩ (.int .i64 ((rd_T72 l0_1 x8_1).f0))).setCell ⟨gb111, 1, none⟩ (.string ((rd_T72 l0_1 x8_1).f1))).setCell ⟨gb111, 2, none⟩ (.bool ((rd_T72 l0_1 x8_1).f2))) = w23 at n0_ n1_ n2_ ⊢
         have BK109 := n0_
         have BK111 := n1_
         have HB := n2_
         clear n0_ n1_ n2_
         replace BK109 := mk0 (bD_ BK109.out)
         replace BK111 := mk0 (bD_ BK111.out)
         replace HB := mk0 (b1_ HB.out)
         refine start_ (n := 19) (S := fun w' => w'.cell? ⟨gb111, 0, none⟩ = some (.int .i64 ((rd_T72 l0_1 x8_1).f0)) ∧ w'.cell? ⟨gb111, 1, none⟩ = some (.string ((rd_T72 l0_1 x8_1).f1)) ∧ w'.cell? ⟨gb111, 2, none⟩ = some (.bool ((rd_T72 l0_1 x8_1).f2))) (ds := []) (bt 19 0) (by kernel_rfl) rfl rfl ⟨bk_ BK111 0, bk_ BK111 1, bk_ BK111 2⟩ (fun hHeld => ?_); refine with_tabW chain_May.tab4 chain_May.bits4 (fun HT_ HW_ => ?_)
         generalize w23.drew = w24 at BK109 BK111 HB hHeld ⊢
         refine tq3_ HT_.out HW_.out 0 13 (bt 19 1) hHeld (h := ?_)
         refine one_ (i := 1) (N := some 14) (bt 19 3) rfl rfl (one_of HT_.out (by kernel_rfl)) (by decide) (fun K hK => ?_)
         refine goes_ Try.func179 (by kernel_rfl) rfl #[.agg #[.int .i64 ((rd_T72 l0_1 x8_1).f0), .string ((rd_T72 l0_1 x8_1).f1), .bool ((rd_T72 l0_1 x8_1).f2)]] (by rfl) rfl rfl (by (try simp only [List.map_toArray, List.map_cons, List.map_nil]); first | done | rfl | (simp only [List.length_drop, List.length_take]; rfl)) ?_
         with_reducible refine (chain_version.calls ((rd_T72 l0_1 x8_1).f0) ((rd_T72 l0_1 x8_1).f1) ((rd_T72 l0_1 x8_1).f2) false _ A11.out).mono ?_
         rintro e w25 ⟨rfl, hb⟩
         refine ⟨_, rfl, ?_⟩
         replace BK109 := mk0 (u_ BK109 hb)
         replace BK111 := mk0 (u_ BK111 hb)
         replace HB := mk0 (bt_ (b_ HB) hb)
         (try clear hb)
         (try clear hb2)
         (try clear hk)
         (try clear hi)
         refine hK.out _ _ ⟨bk_ BK111 0, bk_ BK111 1, bk_ BK111 2⟩ (fun hHeld => ?_)
         clear hK K
         refine norm_ (a' := ?_) ?_ ?_
         rotate_left
         ·show Act.put _ (some 14) _ = _
          simp only [z_]
          rfl
         refine pq_ HT_.out 2 15 (bt 19 7) (h := ?_)
         refine pq_ HT_.out 3 16 (bt 19 15) (h := ?_)
         refine uq_ HT_.out 4 17 (bt 19 31) (h := ?_)
         refine uq_ HT_.out 5 18 (bt 19 63) (h := ?_)
         refine uq_ HT_.out 6 19 (bt 19 127) (h := ?_)
         refine uq_ HT_.out 7 20 (bt 19 255) (h := ?_)
         refine uq_ HT_.out 8 21 (bt 19 511) (h := ?_)
         refine uq_ HT_.out 9 22 (bt 19 1023) (h := ?_)
         refine uq_ HT_.out 10 23 (bt 19 2047) (h := ?_)
         refine uq_ HT_.out 11 24 (bt 19 4095) (h := ?_)
         refine uq_ HT_.out 12 25 (bt 19 8191) (h := ?_)
         refine uq_ HT_.out 13 26 (bt 19 16383) (h := ?_)
         refine uq_ HT_.out 14 27 (bt 19 32767) (h := ?_)
         refine uq_ HT_.out 15 28 (bt 19 65535) (h := ?_)
         refine uq_ HT_.out 16 29 (bt 19 131071) (h := ?_)
         refine uq_ HT_.out 17 30 (bt 19 262143) (h := ?_)
         refine pq_ HT_.out 18 31 (bt 19 524287) (h := ?_)
         refine done_ (done_of HT_.out (by kernel_rfl)) ?_
         try go_wp2
         go_meet
         case rel => exact ⟨_, (true), (by first | rfl | (simp; done) | (simp [*]; done)), H', ⟨by have := HK1.out; first | omega | exact Nat.le_refl _⟩, ⟨h_ BK109⟩, ⟨h_ BK111⟩, ⟨b_ HB⟩⟩
       case rest =>
        clear HC7
        try clear p1
        try clear c4
        try clear c4b0
        try clear c5
        try clear c5b0
        try clear c6
        try clear c6b0
        try clear c12
        try clear c13
        try clear c13b0
        try clear c15
        try clear c15b0
        try clear c16
        try clear c16b0
        try clear hcz10_0
        try clear hcz10_1
        try clear hcz10_2
        try clear hcz3_1
        try clear hfz10_0
        try clear hfz10_1
        try clear hfz10_2
        try clear hfz3_0
        try clear hfz3_1
        try clear hx110_0
        try clear hx110_1
        try clear hx110_2
        try clear hx113_0
        try clear hx113_1
        try clear hx113_2
        try clear p110
        try clear p113
        try clear q110
        try clear q113
        obtain ⟨kq, x31_6, rfl, HA, HJ6, BK109, BK111, HB⟩ := hcut
        cases kq with
        | zero => exact absurd HA.out (by simp [chain_May.j1])
        | succ kj6 =>
         have H := HA.out
         clear HA
         simp only [chain_May.j1] at H
         as_aux_lemma =>
          by_cases c26 : x31_6 = true
          ·subst c26
           rw [if_pos rfl] at H
           obtain rfl := Option.some.inj H
           go_wp2
           go_ret
           exact ⟨by first | rfl | (simp [errW_none, errW_some] <;> rfl) | (simp [*, errW_none, errW_some] <;> rfl), b_ HB⟩
          ·replace c26 := Bool.eq_false_iff.mpr c26
           subst c26
           rw [if_neg (show ¬ (false = true) by decide)] at H
           have H' := mk0 H
           clear H
           go_wp2
           go_roundg kj6
           case measure => have := HK1.out; have := HJ6.out; omega
           case rel => exact ⟨(wrap64 (x8_1 + 1)), (by first | rfl | (simp; done) | (simp [*]; done)), H', ⟨by have := HK1.out; have := HJ6.out; omega⟩, ⟨h_ BK109⟩, ⟨b_ HB⟩⟩
      ·rw [if_neg c6] at H
       exact absurd H (by simp)
     ·rw [if_neg c5] at H
      exact absurd H (by simp)
    ·rw [if_neg c4] at H
     have c4b0 : decide (x8_1 < (l0_1.length : Int)) = false := decide_eq_false c4
     clear c4
     replace H := Option.bind_eq_some_iff.mp H
     obtain ⟨t114, A270, H⟩ := H
     try dsimp only at H
     have A27 := mk0 A270
     clear A270
     by_cases c28 : t114 = true
     ·subst c28
      rw [if_pos rfl] at H
      obtain rfl := Option.some.inj H
      obtain ⟨hcz29_0, hcz29_1, hfz29_0, hfz29_1⟩ := c2_ BK109
      go_wp2_with (first | ((with_reducible refine gate_callee (f := 42) rfl ?_); refine gL_ (some 35) Try.func42 #[.string a0_0] (h := ?_); (with_reducible refine (key_Is.calls a0_0 true _ A27.out).mono ?_); rintro e w' ⟨rfl, ⟨nd, rfl⟩⟩; refine ⟨_, rfl, ?_⟩))
      go_ret
      exact ⟨by first | rfl | (simp [errW_none, errW_some] <;> rfl) | (simp [*, errW_none, errW_some] <;> rfl), b_ HB⟩
     ·replace c28 := Bool.eq_false_iff.mpr c28
      subst c28
      rw [if_neg (show ¬ (false = true) by decide)] at H
      obtain rfl := Option.some.inj H
      obtain ⟨hcz30_0, hcz30_1, hfz30_0, hfz30_1⟩ := c2_ BK109
      go_wp2_with (first | ((with_reducible refine gate_callee (f := 42) rfl ?_); refine gL_ (some 35) Try.func42 #[.string a0_0] (h := ?_); (with_reducible refine (key_Is.calls a0_0 false _ A27.out).mono ?_); rintro e w' ⟨rfl, ⟨nd, rfl⟩⟩; refine ⟨_, rfl, ?_⟩))
      go_ret
      exact ⟨by first | rfl | (simp [errW_none, errW_some] <;> rfl) | (simp [*, errW_none, errW_some] <;> rfl), b_ HB⟩

end Go.Proofs.Ytbaecdcfefmcgaa.PVrs
