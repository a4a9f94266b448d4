-- PRINTED by print.py (a twelfth state) out of the translation. Not trusted: Lean checks it.
import Derived.Shelf.SlSorted.Search
import Derived.Test.YtbaecdcfefmcgaaPVowx0
import Derived.Test.YtbaecdcfefmcgaaPVowx8
namespace Go.Proofs.Ytbaecdcfefmcgaa.PVow
open Go.RowKit Go.Proofs.YtbaecdcfefmcgaaW.PrintWords Go.Proofs.YtbaecdcfefmcgaaW.PrintLast Go.Proofs.YtbaecdcfefmcgaaW.PrintMore
attribute [local go_sem] max2_int min2_int max_two min_two max_three min_three max_four min_four   -- for this text's walks alone
set_option linter.unusedVariables false
set_option linter.unusedSimpArgs false

/-! ### quorumref8_place: function 44 -/
mutual
def quorumref8_place.l0 : Nat → ByteArray → Int → List (S99) → Option (Int × Bool)
 | 0, _, _, _ => none
 | k + 1, x1, x6, x221000 => if x6 < (x221000.length : Int) then (if 0 ≤ x6 then (quorumref8_place.j1 k x1 x6 (Op.bytesLess (((rd_T99 x221000 x6).f0).toList) x1.toList) x221000) else (none)) else (quorumref8_place.j1 k x1 x6 false x221000)
def quorumref8_place.j1 : Nat → ByteArray → Int → Bool → List (S99) → Option (Int × Bool)
 | 0, _, _, _, _ => none
 | k + 1, x1, x6, x21, x221000 => if x21 = true then (quorumref8_place.l0 k x1 (wrap64 (x6 + 1)) x221000) else (if x6 < (x221000.length : Int) then (if 0 ≤ x6 then (some (x6, (((rd_T99 x221000 x6).f0).toList == x1.toList))) else (none)) else (some (x6, false)))
end
def quorumref8_place.f (k : Nat) (l0_0 : List (S99)) (a1 : ByteArray) : Option (Int × Bool) := quorumref8_place.l0 k a1 0 l0_0
theorem quorumref8_place.mono_l : ∀ k, (∀ y0 y1 y2, LeO (quorumref8_place.l0 k y0 y1 y2) (quorumref8_place.l0 (k + 1) y0 y1 y2)) ∧ (∀ y0 y1 y2 y3, LeO (quorumref8_place.j1 k y0 y1 y2 y3) (quorumref8_place.j1 (k + 1) y0 y1 y2 y3))
 | 0 => ⟨fun _ _ _ r h => by simp [quorumref8_place.l0] at h, fun _ _ _ _ r h => by simp [quorumref8_place.j1] at h⟩
 | k + 1 => by
  obtain ⟨ih0, ih1⟩ := quorumref8_place.mono_l k
  refine ⟨?_, ?_⟩
  ·intro y0 y1 y2
   unfold quorumref8_place.l0
   repeat' first
   | (with_reducible exact ih0 _ _ _)
   | (with_reducible exact ih1 _ _ _ _)
   | (with_reducible exact LeO.refl _)
   | (with_reducible exact LeO.none _)
   | (with_reducible refine LeO.ite ?_ ?_)
   | (with_reducible refine LeO.bind ?_ (fun _ => ?_))
   | exact ih0 _ _ _
   | exact ih1 _ _ _ _
   | exact LeO.none _
   | refine LeO.ite ?_ ?_
   | refine LeO.bind ?_ (fun _ => ?_)
  ·intro y0 y1 y2 y3
   unfold quorumref8_place.j1
   repeat' first
   | (with_reducible exact ih0 _ _ _)
   | (with_reducible exact ih1 _ _ _ _)
   | (with_reducible exact LeO.refl _)
   | (with_reducible exact LeO.none _)
   | (with_reducible refine LeO.ite ?_ ?_)
   | (with_reducible refine LeO.bind ?_ (fun _ => ?_))
   | exact ih0 _ _ _
   | exact ih1 _ _ _ _
   | exact LeO.none _
   | refine LeO.ite ?_ ?_
   | refine LeO.bind ?_ (fun _ => ?_)
theorem quorumref8_place.mono : ∀ a0 a1 k, LeO (quorumref8_place.f k a0 a1) (quorumref8_place.f (k + 1) a0 a1) := by
 intro a0 a1 k
 obtain ⟨ih0, ih1⟩ := quorumref8_place.mono_l k
 unfold quorumref8_place.f
 repeat' first
   | (with_reducible exact ih0 _ _ _)
   | (with_reducible exact ih1 _ _ _ _)
   | (with_reducible exact LeO.refl _)
   | (with_reducible exact LeO.none _)
   | (with_reducible refine LeO.ite ?_ ?_)
   | (with_reducible refine LeO.bind ?_ (fun _ => ?_))
   | exact ih0 _ _ _
   | exact ih1 _ _ _ _
   | exact LeO.none _
   | refine LeO.ite ?_ ?_
   | refine LeO.bind ?_ (fun _ => ?_)
set_option maxHeartbeats 8000000 in
set_option maxRecDepth 100000 in
theorem quorumref8_place.calls (k : Nat) (A0_0 : Option Addr) (c0_0 : Nat) (l0_0 : List (S99)) (a1 : ByteArray) (r1 : Int) (r2 : Bool) (w : World) (hr0_0 : Kd.C k99 w A0_0 l0_0.length l0_0) (hc0_0 : l0_0.length ≤ c0_0) (h : quorumref8_place.f k l0_0 a1 = some (r1, r2)) :
  Calls Try.prog 44 #[.agg #[.slice A0_0 l0_0.length c0_0], .string a1] w fun e w' => e = .returned (.tuple #[.int .i64 r1, .bool r2]) ∧ Below w.heap.size w w' := by
 have hu47 := Try.underlying47
 have HR0_0 := mk0 hr0_0
 have HC0_0 := mk0 hc0_0
 clear hr0_0 hc0_0
 have HB := mk0 (Below.refl w.heap.size w)
 have H : (quorumref8_place.l0 k a1 0 l0_0) = some (r1, r2) := h
 clear h
 have H' := mk0 H
 clear H
 go_enter Try.func44, Try.ntmps44
 go_wp2_with (first | ((with_reducible refine gate_dst (N := 2) rfl ?_); refine bx_ (N := 2) (cs := #[.slice A0_0 l0_0.length c0_0]) (t := 47) (h := ?_); intro gb220 hg w3 hbox hb; have n2_ := mk0 (gz_ HB hg); have n3_ := mk0 (gz_ HB hg); replace HB := mk0 (bt_ (b_ HB) hb); have BK220 := mk0 (hbox); have GW220 := n2_; have GE220 := n3_; clear n2_ n3_; clear hb hbox hg))
 repeat (go_quiet (first | ((with_reducible refine gate_dst (N := 2) rfl ?_); refine bx_ (N := 2) (cs := #[.slice A0_0 l0_0.length c0_0]) (t := 47) (h := ?_); intro gb220 hg w3 hbox hb; have n2_ := mk0 (gz_ HB hg); have n3_ := mk0 (gz_ HB hg); replace HB := mk0 (bt_ (b_ HB) hb); have BK220 := mk0 (hbox); have GW220 := n2_; have GE220 := n3_; clear n2_ n3_; clear hb hbox hg)); try go_wp2_with (first | ((with_reducible refine gate_dst (N := 2) rfl ?_); refine bx_ (N := 2) (cs := #[.slice A0_0 l0_0.length c0_0]) (t := 47) (h := ?_); intro gb220 hg w3 hbox hb; have n2_ := mk0 (gz_ HB hg); have n3_ := mk0 (gz_ HB hg); replace HB := mk0 (bt_ (b_ HB) hb); have BK220 := mk0 (hbox); have GW220 := n2_; have GE220 := n3_; clear n2_ n3_; clear hb hbox hg)))
 go_loopg [6] k (fun kq v6 w' => ∃ (x6_1 : Int), v6 = .int .i64 x6_1 ∧ Fc (quorumref8_place.l0 kq a1 x6_1 l0_0 = some (r1, r2)) ∧ Fc (kq ≤ k) ∧ Fc (w'.heap[gb220]? = some (.cells #[(.slice A0_0 l0_0.length c0_0)] 47 (0, 0))) ∧ Fc (Below w.heap.size w w'))
 case atStart => exact ⟨(0), (by first | rfl | (simp; done) | (simp [*]; done)), H', ⟨Nat.le_refl _⟩, ⟨h_ BK220⟩, ⟨b_ HB⟩⟩
 case round =>
  clear H'
  obtain ⟨x6_1, rfl, HA, HK1, BK220, HB⟩ := hrel
  cases gk with
  | zero => exact absurd HA.out (by simp [quorumref8_place.l0])
  | succ k1 =>
   have H := HA.out
   clear HA
   simp only [quorumref8_place.l0] at H
   as_aux_lemma =>
    have HC4 := mk0 H
    clear H
    go_upto_region 2 with (fail)
    repeat (go_quiet (fail); go_upto_region 2 with (fail))
    go_cut [21] (fun v21 wc => ∃ (kq : Nat) (x21_3 : Bool), v21 = .bool x21_3 ∧ Fc (quorumref8_place.j1 kq a1 x6_1 x21_3 l0_0 = some (r1, r2)) ∧ Fc (kq ≤ k1) ∧ Fc (wc.heap[gb220]? = some (.cells #[(.slice A0_0 l0_0.length c0_0)] 47 (0, 0))) ∧ Fc (Below w.heap.size w wc))
    case first =>
     have H := HC4.out
     clear HC4
     by_cases c5 : x6_1 < (l0_0.length : Int)
     ·rw [if_pos c5] at H
      have c5b0 : decide (x6_1 < (l0_0.length : Int)) = true := decide_eq_true c5
      clear c5
      (first | rw [c5b0] | (simp only [i64_w, i32_w]; rw [c5b0]) | skip)
      by_cases c6 : 0 ≤ x6_1
      ·rw [if_pos c6] at H
       have c6b0 : decide (0 ≤ x6_1) = true := decide_eq_true c6
       clear c6
       have H' := mk0 H
       clear H
       obtain ⟨hcz7_0, hfz7_0⟩ := c1_ BK220
       have p221 : 0 ≤ (x6_1 : Int) := of_decide_eq_true (by first | (with_reducible assumption) | assumption)
       have q221 : x6_1 < (l0_0.length : Int) := of_decide_eq_true (by first | (with_reducible assumption) | assumption)
       obtain ⟨ad221, A221_1, c221_1, e221, hx221_0, hx221_1, hl221_1, hi221_1⟩ := at_T99 HR0_0.out x6_1 p221 q221
       cases e221
       replace hx221_0 := (bc_ HB hx221_0 :)
       replace hx221_1 := (bc_ HB hx221_1 :)
       have HR221_1 := mk0 hi221_1
       have HC221_1 := mk0 hl221_1
       clear hi221_1 hl221_1
       replace p221 := eq_true p221
       replace q221 := eq_true q221
       go_wp2
       repeat (go_quiet (fail); try go_wp2)
       go_meet
       case rel => exact ⟨_, ((Op.bytesLess (((rd_T99 l0_0 x6_1).f0).toList) a1.toList)), (by first | rfl | (simp; done) | (simp [*]; done)), H', ⟨by have := HK1.out; first | omega | exact Nat.le_refl _⟩, ⟨h_ BK220⟩, ⟨b_ HB⟩⟩
      ·rw [if_neg c6] at H
       exact absurd H (by simp)
     ·rw [if_neg c5] at H
      have c5b0 : decide (x6_1 < (l0_0.length : Int)) = false := decide_eq_false c5
      clear c5
      (first | rw [c5b0] | (simp only [i64_w, i32_w]; rw [c5b0]) | skip)
      have H' := mk0 H
      clear H
      obtain ⟨hcz8_0, hfz8_0⟩ := c1_ BK220
      go_wp2
      repeat (go_quiet (fail); try go_wp2)
      go_meet
      case rel => exact ⟨_, (false), (by first | rfl | (simp; done) | (simp [*]; done)), H', ⟨by have := HK1.out; first | omega | exact Nat.le_refl _⟩, ⟨h_ BK220⟩, ⟨b_ HB⟩⟩
    case rest =>
     clear HC4
     try clear c5
     try clear c5b0
     try clear c6
     try clear c6b0
     try clear hcz7_0
     try clear hcz8_0
     try clear hfz7_0
     try clear hfz8_0
     try clear hx221_0
     try clear hx221_1
     try clear p221
     try clear q221
     obtain ⟨kq, x21_3, rfl, HA, HJ3, BK220, HB⟩ := hcut
     cases kq with
     | zero => exact absurd HA.out (by simp [quorumref8_place.j1])
     | succ kj3 =>
      have H := HA.out
      clear HA
      simp only [quorumref8_place.j1] at H
      as_aux_lemma =>
       by_cases c9 : x21_3 = true
       ·subst c9
        rw [if_pos rfl] at H
        have H' := mk0 H
        clear H
        go_wp2
        repeat (go_quiet (fail); try go_wp2)
        go_roundg kj3
        case measure => have := HK1.out; have := HJ3.out; omega
        case rel => exact ⟨(wrap64 (x6_1 + 1)), (by first | rfl | (simp; done) | (simp [*]; done)), H', ⟨by have := HK1.out; have := HJ3.out; omega⟩, ⟨h_ BK220⟩, ⟨b_ HB⟩⟩
       ·replace c9 := Bool.eq_false_iff.mpr c9
        subst c9
        rw [if_neg (show ¬ (false = true) by decide)] at H
        by_cases c10 : x6_1 < (l0_0.length : Int)
        ·rw [if_pos c10] at H
         have c10b0 : decide (x6_1 < (l0_0.length : Int)) = true := decide_eq_true c10
         clear c10
         by_cases c11 : 0 ≤ x6_1
         ·rw [if_pos c11] at H
          have c11b0 : decide (0 ≤ x6_1) = true := decide_eq_true c11
          clear c11
          simp only [Option.some.injEq, Prod.mk.injEq] at H
          obtain ⟨rfl, rfl⟩ := H
          obtain ⟨hcz12_0, hfz12_0⟩ := c1_ BK220
          have p222 : 0 ≤ (x6_1 : Int) := of_decide_eq_true (by first | (with_reducible assumption) | assumption)
          have q222 : x6_1 < (l0_0.length : Int) := of_decide_eq_true (by first | (with_reducible assumption) | assumption)
          obtain ⟨ad222, A222_1, c222_1, e222, hx222_0, hx222_1, hl222_1, hi222_1⟩ := at_T99 HR0_0.out x6_1 p222 q222
          cases e222
          replace hx222_0 := (bc_ HB hx222_0 :)
          replace hx222_1 := (bc_ HB hx222_1 :)
          have HR222_1 := mk0 hi222_1
          have HC222_1 := mk0 hl222_1
          clear hi222_1 hl222_1
          replace p222 := eq_true p222
          replace q222 := eq_true q222
          go_wp2
          repeat (go_quiet (fail); try go_wp2)
          go_ret2
          exact ⟨by first | rfl | (simp [errW_none, errW_some] <;> rfl) | (simp [*, errW_none, errW_some] <;> rfl), b_ HB⟩
         ·rw [if_neg c11] at H
          exact absurd H (by simp)
        ·rw [if_neg c10] at H
         have c10b0 : decide (x6_1 < (l0_0.length : Int)) = false := decide_eq_false c10
         clear c10
         simp only [Option.some.injEq, Prod.mk.injEq] at H
         obtain ⟨rfl, rfl⟩ := H
         obtain ⟨hcz13_0, hfz13_0⟩ := c1_ BK220
         go_wp2
         repeat (go_quiet (fail); try go_wp2)
         go_ret2
         exact ⟨by first | rfl | (simp [errW_none, errW_some] <;> rfl) | (simp [*, errW_none, errW_some] <;> rfl), b_ HB⟩

/-! ### quorumref8_newest: function 100 -/
def quorumref8_newest.l0 : Nat → Int → Int → ByteArray → List (S72) → Option (Int)
 | 0, _, _, _, _ => none
 | k + 1, x1, x5, x224000, x224001 => if x5 < (x224001.length : Int) then (if 0 ≤ x5 then (if ((rd_T72 x224001 x5).f0) ≤ x1 then (some x5) else (quorumref8_newest.l0 k x1 (wrap64 (x5 + 1)) x224000 x224001)) else (none)) else (some (-1))
def quorumref8_newest.f (k : Nat) (a0_0 : ByteArray) (l0_1 : List (S72)) (a1 : Int) : Option (Int) := quorumref8_newest.l0 k a1 0 a0_0 l0_1
theorem quorumref8_newest.mono_l : ∀ k, (∀ y0 y1 y2 y3, LeO (quorumref8_newest.l0 k y0 y1 y2 y3) (quorumref8_newest.l0 (k + 1) y0 y1 y2 y3))
 | 0 => fun _ _ _ _ r h => by simp [quorumref8_newest.l0] at h
 | k + 1 => by
  have ih0 := quorumref8_newest.mono_l k
  ·intro y0 y1 y2 y3
   unfold quorumref8_newest.l0
   repeat' first
   | (with_reducible exact ih0 _ _ _ _)
   | (with_reducible exact LeO.refl _)
   | (with_reducible exact LeO.none _)
   | (with_reducible refine LeO.ite ?_ ?_)
   | (with_reducible refine LeO.bind ?_ (fun _ => ?_))
   | exact ih0 _ _ _ _
   | exact LeO.none _
   | refine LeO.ite ?_ ?_
   | refine LeO.bind ?_ (fun _ => ?_)
theorem quorumref8_newest.mono : ∀ a0 a1 a2 k, LeO (quorumref8_newest.f k a0 a1 a2) (quorumref8_newest.f (k + 1) a0 a1 a2) := by
 intro a0 a1 a2 k
 have ih0 := quorumref8_newest.mono_l k
 unfold quorumref8_newest.f
 repeat' first
   | (with_reducible exact ih0 _ _ _ _)
   | (with_reducible exact LeO.refl _)
   | (with_reducible exact LeO.none _)
   | (with_reducible refine LeO.ite ?_ ?_)
   | (with_reducible refine LeO.bind ?_ (fun _ => ?_))
   | exact ih0 _ _ _ _
   | exact LeO.none _
   | refine LeO.ite ?_ ?_
   | refine LeO.bind ?_ (fun _ => ?_)
set_option maxHeartbeats 8000000 in
set_option maxRecDepth 100000 in
theorem quorumref8_newest.calls (k : Nat) (a0_0 : ByteArray) (A0_1 : Option Addr) (c0_1 : Nat) (l0_1 : List (S72)) (a1 : Int) (r : Int) (w : World) (hr0_1 : Kd.C k72 w A0_1 l0_1.length l0_1) (hc0_1 : l0_1.length ≤ c0_1) (h : quorumref8_newest.f k a0_0 l0_1 a1 = some r) :
  Calls Try.prog 100 #[.agg #[.string a0_0, .slice A0_1 l0_1.length c0_1], .int .i64 a1] w fun e w' => e = .returned (.int .i64 r) ∧ Below w.heap.size w w' := by
 have hu99 := Try.underlying99
 have HR0_1 := mk0 hr0_1
 have HC0_1 := mk0 hc0_1
 clear hr0_1 hc0_1
 have HB := mk0 (Below.refl w.heap.size w)
 have H : (quorumref8_newest.l0 k a1 0 a0_0 l0_1) = some r := h
 clear h
 have H' := mk0 H
 clear H
 go_enter Try.func100, Try.ntmps100
 go_wp2_with (first | ((with_reducible refine gate_dst (N := 2) rfl ?_); refine bx_ (N := 2) (cs := #[.string a0_0, .slice A0_1 l0_1.length c0_1]) (t := 99) (h := ?_); intro gb223 hg w3 hbox hb; have n2_ := mk0 (gz_ HB hg); have n3_ := mk0 (gz_ HB hg); replace HB := mk0 (bt_ (b_ HB) hb); have BK223 := mk0 (hbox); have GW223 := n2_; have GE223 := n3_; clear n2_ n3_; clear hb hbox hg))
 go_loopg [5] k (fun kq v5 w' => ∃ (x5_1 : Int), v5 = .int .i64 x5_1 ∧ Fc (quorumref8_newest.l0 kq a1 x5_1 a0_0 l0_1 = some r) ∧ Fc (kq ≤ k) ∧ Fc (w'.heap[gb223]? = some (.cells #[.string a0_0, (.slice A0_1 l0_1.length c0_1)] 99 (0, 0))) ∧ Fc (Below w.heap.size w w'))
 case atStart => exact ⟨(0), (by first | rfl | (simp; done) | (simp [*]; done)), H', ⟨Nat.le_refl _⟩, ⟨h_ BK223⟩, ⟨b_ HB⟩⟩
 case round =>
  clear H'
  obtain ⟨x5_1, rfl, HA, HK1, BK223, HB⟩ := hrel
  cases gk with
  | zero => exact absurd HA.out (by simp [quorumref8_newest.l0])
  | succ k1 =>
   have H := HA.out
   clear HA
   simp only [quorumref8_newest.l0] at H
   as_aux_lemma =>
    by_cases c4 : x5_1 < (l0_1.length : Int)
    ·rw [if_pos c4] at H
     have c4b0 : decide (x5_1 < (l0_1.length : Int)) = true := decide_eq_true c4
     clear c4
     by_cases c5 : 0 ≤ x5_1
     ·rw [if_pos c5] at H
      have c5b0 : decide (0 ≤ x5_1) = true := decide_eq_true c5
      clear c5
      by_cases c6 : ((rd_T72 l0_1 x5_1).f0) ≤ a1
      ·rw [if_pos c6] at H
       have c6b0 : decide (((rd_T72 l0_1 x5_1).f0) ≤ a1) = true := decide_eq_true c6
       clear c6
       obtain rfl := Option.some.inj H
       obtain ⟨hcz7_0, hcz7_1, hfz7_0, hfz7_1⟩ := c2_ BK223
       have p224 : 0 ≤ (x5_1 : Int) := of_decide_eq_true (by first | (with_reducible assumption) | assumption)
       have q224 : x5_1 < (l0_1.length : Int) := of_decide_eq_true (by first | (with_reducible assumption) | assumption)
       obtain ⟨ad224, e224, hx224_0, hx224_1, hx224_2⟩ := at_T72 HR0_1.out x5_1 p224 q224
       cases e224
       replace hx224_0 := (bc_ HB hx224_0 :)
       replace hx224_1 := (bc_ HB hx224_1 :)
       replace hx224_2 := (bc_ HB hx224_2 :)
       replace p224 := eq_true p224
       replace q224 := eq_true q224
       go_wp2
       go_ret
       exact ⟨by first | rfl | (simp [errW_none, errW_some] <;> rfl) | (simp [*, errW_none, errW_some] <;> rfl), b_ HB⟩
      ·rw [if_neg c6] at H
       have c6b0 : decide (((rd_T72 l0_1 x5_1).f0) ≤ a1) = false := decide_eq_false c6
       clear c6
       have H' := mk0 H
       clear H
       obtain ⟨hcz8_0, hcz8_1, hfz8_0, hfz8_1⟩ := c2_ BK223
       have p224 : 0 ≤ (x5_1 : Int) := of_decide_eq_true (by first | (with_reducible assumption) | assumption)
       have q224 : x5_1 < (l0_1.length : Int) := of_decide_eq_true (by first | (with_reducible assumption) | assumption)
       obtain ⟨ad224, e224, hx224_0, hx224_1, hx224_2⟩ := at_T72 HR0_1.out x5_1 p224 q224
       cases e224
       replace hx224_0 := (bc_ HB hx224_0 :)
       replace hx224_1 := (bc_ HB hx224_1 :)
       replace hx224_2 := (bc_ HB hx224_2 :)
       replace p224 := eq_true p224
       replace q224 := eq_true q224
       go_wp2
       go_roundg k1
       case measure => have := HK1.out; omega
       case rel => exact ⟨(wrap64 (x5_1 + 1)), (by first | rfl | (simp; done) | (simp [*]; done)), H', ⟨by have := HK1.out; omega⟩, ⟨h_ BK223⟩, ⟨b_ HB⟩⟩
     ·rw [if_neg c5] at H
      exact absurd H (by simp)
    ·rw [if_neg c4] at H
     have c4b0 : decide (x5_1 < (l0_1.length : Int)) = false := decide_eq_false c4
     clear c4
     obtain rfl := Option.some.inj H
     obtain ⟨hcz9_0, hcz9_1, hfz9_0, hfz9_1⟩ := c2_ BK223
     go_wp2
     go_ret
     exact ⟨by first | rfl | (simp [errW_none, errW_some] <;> rfl) | (simp [*, errW_none, errW_some] <;> rfl), b_ HB⟩

/-! ### quorumref8_At: function 45 -/
def quorumref8_At.j0 : Nat → Int → Bool → ByteArray → List (S72) → Option (Int × ByteArray × Bool × Bool)
 | 0, _, _, _, _ => none
 | k + 1, x6, x19, x226000, x226001 => if x19 = true then (some (0, (⟨#[]⟩ : ByteArray), false, false)) else (if 0 ≤ x6 then (if x6 < (x226001.length : Int) then (some ((rd_T72 x226001 x6).f0, (rd_T72 x226001 x6).f1, (rd_T72 x226001 x6).f2, true)) else (none)) else (none))
def quorumref8_At.f (k : Nat) (a0_0 : ByteArray) (l0_1 : List (S72)) (a1 : Int) : Option (Int × ByteArray × Bool × Bool) := (quorumref8_newest.f k a0_0 l0_1 a1).bind fun t227 => (if t227 < 0 then (quorumref8_At.j0 k t227 true a0_0 l0_1) else (if 0 ≤ t227 then (if t227 < (l0_1.length : Int) then (quorumref8_At.j0 k t227 ((rd_T72 l0_1 t227).f2) a0_0 l0_1) else (none)) else (none)))
theorem quorumref8_At.mono_l : ∀ k, (∀ y0 y1 y2 y3, LeO (quorumref8_At.j0 k y0 y1 y2 y3) (quorumref8_At.j0 (k + 1) y0 y1 y2 y3))
 | 0 => fun _ _ _ _ r h => by simp [quorumref8_At.j0] at h
 | k + 1 => by
  have ih0 := quorumref8_At.mono_l k
  ·intro y0 y1 y2 y3
   unfold quorumref8_At.j0
   repeat' first
   | (with_reducible exact ih0 _ _ _ _)
   | (with_reducible exact quorumref8_newest.mono _ _ _ _)
   | (with_reducible exact LeO.refl _)
   | (with_reducible exact LeO.none _)
   | (with_reducible refine LeO.ite ?_ ?_)
   | (with_reducible refine LeO.bind ?_ (fun _ => ?_))
   | exact ih0 _ _ _ _
   | exact quorumref8_newest.mono _ _ _ _
   | exact LeO.none _
   | refine LeO.ite ?_ ?_
   | refine LeO.bind ?_ (fun _ => ?_)
theorem quorumref8_At.mono : ∀ a0 a1 a2 k, LeO (quorumref8_At.f k a0 a1 a2) (quorumref8_At.f (k + 1) a0 a1 a2) := by
 intro a0 a1 a2 k
 have ih0 := quorumref8_At.mono_l k
 unfold quorumref8_At.f
 repeat' first
   | (with_reducible exact ih0 _ _ _ _)
   | (with_reducible exact quorumref8_newest.mono _ _ _ _)
   | (with_reducible exact LeO.refl _)
   | (with_reducible exact LeO.none _)
   | (with_reducible refine LeO.ite ?_ ?_)
   | (with_reducible refine LeO.bind ?_ (fun _ => ?_))
   | exact ih0 _ _ _ _
   | exact quorumref8_newest.mono _ _ _ _
   | exact LeO.none _
   | refine LeO.ite ?_ ?_
   | refine LeO.bind ?_ (fun _ => ?_)
set_option maxHeartbeats 8000000 in
set_option maxRecDepth 100000 in
theorem quorumref8_At.calls (k : Nat) (a0_0 : ByteArray) (A0_1 : Option Addr) (c0_1 : Nat) (l0_1 : List (S72)) (a1 : Int) (r1 : Int) (r2 : ByteArray) (r3 : Bool) (r4 : Bool) (w : World) (hr0_1 : Kd.C k72 w A0_1 l0_1.length l0_1) (hc0_1 : l0_1.length ≤ c0_1) (h : quorumref8_At.f k a0_0 l0_1 a1 = some (r1, r2, r3, r4)) :
  Calls Try.prog 45 #[.agg #[.string a0_0, .slice A0_1 l0_1.length c0_1], .int .i64 a1] w fun e w' => e = .returned (.tuple #[.agg #[.int .i64 r1, .string r2, .bool r3], .bool r4]) ∧ Below w.heap.size w w' := by
 have hu99 := Try.underlying99
 have hu72 := Try.underlying72
 have HR0_1 := mk0 hr0_1
 have HC0_1 := mk0 hc0_1
 clear hr0_1 hc0_1
 have HB := mk0 (Below.refl w.heap.size w)
 have H : ((quorumref8_newest.f k a0_0 l0_1 a1).bind fun t227 => (if t227 < 0 then (quorumref8_At.j0 k t227 true a0_0 l0_1) else (if 0 ≤ t227 then (if t227 < (l0_1.length : Int) then (quorumref8_At.j0 k t227 ((rd_T72 l0_1 t227).f2) a0_0 l0_1) else (none)) else (none)))) = some (r1, r2, r3, r4) := h
 clear h
 replace H := Option.bind_eq_some_iff.mp H
 obtain ⟨t227, A30, H⟩ := H
 try dsimp only at H
 have A3 := mk0 A30
 clear A30
 have HC4 := mk0 H
 clear H
 go_enter Try.func45, Try.ntmps45
 go_upto_region 2 with (first | ((with_reducible refine gate_dst (N := 2) rfl ?_); refine bx_ (N := 2) (cs := #[.string a0_0, .slice A0_1 l0_1.length c0_1]) (t := 99) (h := ?_); intro gb225 hg w5 hbox hb; have n2_ := mk0 (gz_ HB hg); have n3_ := mk0 (gz_ HB hg); replace HB := mk0 (bt_ (b_ HB) hb); have BK225 := mk0 (hbox); have GW225 := n2_; have GE225 := n3_; clear n2_ n3_; clear hb hbox hg) | ((with_reducible refine gate_dst (N := 4) rfl ?_); refine bx_ (N := 4) (cs := #[.int .i64 0, .string (⟨#[]⟩ : ByteArray), .bool false]) (t := 72) (h := ?_); intro gb226 hg w6 hbox hb; have n3_ := mk0 (gz_ HB hg); have n4_ := mk0 (gz_ HB hg); have n5_ := mk0 (ne1_ BK225 hg); have n6_ := mk0 (ne2_ BK225 hg); replace BK225 := mk0 (u_ BK225 hb); replace HB := mk0 (bt_ (b_ HB) hb); have BK226 := mk0 (hbox); have GW226 := n3_; have GE226 := n4_; have NB225_226 := n5_; have NB226_225 := n6_; clear n3_ n4_ n5_ n6_ hb hbox hg; have hnb7 := NB225_226.out; have hnc7 := NB226_225.out; obtain ⟨hcz8_0, hcz8_1, hfz8_0, hfz8_1⟩ := c2_ BK225) | ((with_reducible refine gate_callee (f := 100) rfl ?_); refine gL_ (some 9) Try.func100 #[.agg #[.string a0_0, .slice A0_1 l0_1.length c0_1], .int .i64 a1] (h := ?_); (with_reducible refine (quorumref8_newest.calls k a0_0 _ _ l0_1 a1 t227 _ ?side1 ?side2 A3.out).mono ?_); (case side1 => exact cb_ HR0_1 HB); (case side2 => exact HC0_1.out); rintro e w9 ⟨rfl, hb⟩; refine ⟨_, rfl, ?_⟩; replace BK225 := mk0 (u_ BK225 hb); replace BK226 := mk0 (blk_below (g := gb226) (o := .cells #[.int .i64 0, .string (⟨#[]⟩ : ByteArray), .bool false] 72 (0, 0)) (h_ BK226) hb); replace HB := mk0 (bt_ (b_ HB) hb); (try clear hb)))
 (try simp only [Act.put, List.setIfInBounds_toArray, List.set_cons_zero, List.set_cons_succ])
 go_cut [19] (fun v19 wc => ∃ (kq : Nat) (x19_3 : Bool), v19 = .bool x19_3 ∧ Fc (quorumref8_At.j0 kq t227 x19_3 a0_0 l0_1 = some (r1, r2, r3, r4)) ∧ Fc (kq ≤ k) ∧ Fc (wc.heap[gb225]? = some (.cells #[.string a0_0, (.slice A0_1 l0_1.length c0_1)] 99 (0, 0))) ∧ Fc (wc.heap[gb226]? = some (.cells #[.int .i64 0, .string (⟨#[]⟩ : ByteArray), .bool false] 72 (0, 0))) ∧ Fc (Below w.heap.size w wc))
 case first =>
  have H := HC4.out
  clear HC4
  by_cases c10 : t227 < 0
  ·rw [if_pos c10] at H
   have c10b0 : decide (t227 < 0) = true := decide_eq_true c10
   clear c10
   (first | rw [c10b0] | (simp only [i64_w, i32_w]; rw [c10b0]) | skip)
   have H' := mk0 H
   clear H
   go_wp2
   go_meet
   case rel => exact ⟨_, (true), (by first | rfl | (simp; done) | (simp [*]; done)), H', ⟨by first | omega | exact Nat.le_refl _⟩, ⟨h_ BK225⟩, ⟨h_ BK226⟩, ⟨b_ HB⟩⟩
  ·rw [if_neg c10] at H
   have c10b0 : decide (t227 < 0) = false := decide_eq_false c10
   clear c10
   (first | rw [c10b0] | (simp only [i64_w, i32_w]; rw [c10b0]) | skip)
   by_cases c11 : 0 ≤ t227
   ·rw [if_pos c11] at H
    have c11b0 : decide (0 ≤ t227) = true := decide_eq_true c11
    clear c11
    by_cases c12 : t227 < (l0_1.length : Int)
    ·rw [if_pos c12] at H
     have c12b0 : decide (t227 < (l0_1.length : Int)) = true := decide_eq_true c12
     clear c12
     have H' := mk0 H
     clear H
     have hnb13 := NB225_226.out
     have hnc13 := NB226_225.out
     obtain ⟨hcz14_0, hcz14_1, hfz14_0, hfz14_1⟩ := c2_ BK225
     have p228 : 0 ≤ (t227 : Int) := of_decide_eq_true (by first | (with_reducible assumption) | assumption)
     have q228 : t227 < (l0_1.length : Int) := of_decide_eq_true (by first | (with_reducible assumption) | assumption)
     obtain ⟨ad228, e228, hx228_0, hx228_1, hx228_2⟩ := at_T72 HR0_1.out t227 p228 q228
     cases e228
     replace hx228_0 := (bc_ HB hx228_0 :)
     replace hx228_1 := (bc_ HB hx228_1 :)
     replace hx228_2 := (bc_ HB hx228_2 :)
     replace p228 := eq_true p228
     replace q228 := eq_true q228
     go_wp2
     go_meet
     case rel => exact ⟨_, ((rd_T72 l0_1 t227).f2), (by first | rfl | (simp; done) | (simp [*]; done)), H', ⟨by first | omega | exact Nat.le_refl _⟩, ⟨h_ BK225⟩, ⟨h_ BK226⟩, ⟨b_ HB⟩⟩
    ·rw [if_neg c12] at H
     exact absurd H (by simp)
   ·rw [if_neg c11] at H
    exact absurd H (by simp)
 case rest =>
  clear HC4
  try clear c10
  try clear c10b0
  try clear c11
  try clear c11b0
  try clear c12
  try clear c12b0
  try clear hcz14_0
  try clear hcz14_1
  try clear hcz8_0
  try clear hcz8_1
  try clear hfz14_0
  try clear hfz14_1
  try clear hfz8_0
  try clear hfz8_1
  try clear hx228_0
  try clear hx228_1
  try clear hx228_2
  try clear p228
  try clear q228
  obtain ⟨kq, x19_3, rfl, HA, HJ3, BK225, BK226, HB⟩ := hcut
  cases kq with
  | zero => exact absurd HA.out (by simp [quorumref8_At.j0])
  | succ kj3 =>
   have H := HA.out
   clear HA
   simp only [quorumref8_At.j0] at H
   as_aux_lemma =>
    by_cases c15 : x19_3 = true
    ·subst c15
     rw [if_pos rfl] at H
     simp only [Option.some.injEq, Prod.mk.injEq] at H
     obtain ⟨rfl, rfl, rfl, rfl⟩ := H
     have hnb16 := NB226_225.out
     have hnc16 := NB225_226.out
     obtain ⟨hcz17_0, hcz17_1, hcz17_2, hfz17_0, hfz17_1, hfz17_2⟩ := c3_ BK226
     go_wp2
     refine bodyPost_ret (results_ct rfl _ _ gb226 72 #[.int .i64 0, .string (⟨#[]⟩ : ByteArray), .bool false] (0, 0) _ rfl (pu_ (cs := #[.int .i64 0, .string (⟨#[]⟩ : ByteArray), .bool false]) (pu_ (cs := #[.int .i64 0, .string (⟨#[]⟩ : ByteArray), .bool false]) (pu_ (cs := #[.int .i64 0, .string (⟨#[]⟩ : ByteArray), .bool false]) (h_ BK226)))) Try.underlying72 rfl (by kernel_rfl)) rfl ?_
     exact ⟨by first | rfl | (simp [errW_none, errW_some] <;> rfl) | (simp [*, errW_none, errW_some] <;> rfl), b_ HB⟩
    ·replace c15 := Bool.eq_false_iff.mpr c15
     subst c15
     rw [if_neg (show ¬ (false = true) by decide)] at H
     by_cases c18 : 0 ≤ t227
     ·rw [if_pos c18] at H
      have c18b0 : decide (0 ≤ t227) = true := decide_eq_true c18
      clear c18
      by_cases c19 : t227 < (l0_1.length : Int)
      ·rw [if_pos c19] at H
       have c19b0 : decide (t227 < (l0_1.length : Int)) = true := decide_eq_true c19
       clear c19
       simp only [Option.some.injEq, Prod.mk.injEq] at H
       obtain ⟨rfl, rfl, rfl, rfl⟩ := H
       have hnb20 := NB225_226.out
       have hnc20 := NB226_225.out
       obtain ⟨hcz21_0, hcz21_1, hfz21_0, hfz21_1⟩ := c2_ BK225
       have p229 : 0 ≤ (t227 : Int) := of_decide_eq_true (by first | (with_reducible assumption) | assumption)
       have q229 : t227 < (l0_1.length : Int) := of_decide_eq_true (by first | (with_reducible assumption) | assumption)
       obtain ⟨ad229, e229, hx229_0, hx229_1, hx229_2⟩ := at_T72 HR0_1.out t227 p229 q229
       cases e229
       replace hx229_0 := (bc_ HB hx229_0 :)
       replace hx229_1 := (bc_ HB hx229_1 :)
       replace hx229_2 := (bc_ HB hx229_2 :)
       replace p229 := eq_true p229
       replace q229 := eq_true q229
       obtain ⟨hcz22_0, hcz22_1, hcz22_2, hfz22_0, hfz22_1, hfz22_2⟩ := c3_ BK226
       go_wp2
       refine bodyPost_ret (results_ct rfl _ _ gb226 72 #[.int .i64 ((rd_T72 l0_1 t227).f0), .string ((rd_T72 l0_1 t227).f1), .bool ((rd_T72 l0_1 t227).f2)] (0, 0) _ rfl (pu_ (cs := #[.int .i64 ((rd_T72 l0_1 t227).f0), .string ((rd_T72 l0_1 t227).f1), .bool false]) (pu_ (cs := #[.int .i64 ((rd_T72 l0_1 t227).f0), .string (⟨#[]⟩ : ByteArray), .bool false]) (pu_ (cs := #[.int .i64 0, .string (⟨#[]⟩ : ByteArray), .bool false]) (h_ BK226)))) Try.underlying72 rfl (by kernel_rfl)) rfl ?_
       exact ⟨by first | rfl | (simp [errW_none, errW_some] <;> rfl) | (simp [*, errW_none, errW_some] <;> rfl), b_ HB⟩
      ·rw [if_neg c19] at H
       exact absurd H (by simp)
     ·rw [if_neg c18] at H
      exact absurd H (by simp)

/-! ### quorumref8_Get: function 20 -/
def quorumref8_Get.f (k : Nat) (l0_0 : List (S99)) (a1 : ByteArray) (a2 : Int) : Option (ByteArray × Bool) := (quorumref8_place.f k l0_0 a1).bind fun bt231 => (if bt231.2 = true then (if 0 ≤ bt231.1 then (if bt231.1 < (l0_0.length : Int) then ((quorumref8_At.f k ((rd_T99 l0_0 bt231.1).f0) ((rd_T99 l0_0 bt231.1).f1) a2).bind fun bt234 => (some (bt234.2.1, bt234.2.2.2))) else (none)) else (none)) else (some ((⟨#[]⟩ : ByteArray), false)))
theorem quorumref8_Get.mono : ∀ a0 a1 a2 k, LeO (quorumref8_Get.f k a0 a1 a2) (quorumref8_Get.f (k + 1) a0 a1 a2) := by
 intro a0 a1 a2 k
 unfold quorumref8_Get.f
 repeat' first
   | (with_reducible exact quorumref8_At.mono _ _ _ _)
   | (with_reducible exact quorumref8_place.mono _ _ _)
   | (with_reducible exact LeO.refl _)
   | (with_reducible exact LeO.none _)
   | (with_reducible refine LeO.ite ?_ ?_)
   | (with_reducible refine LeO.bind ?_ (fun _ => ?_))
   | exact quorumref8_At.mono _ _ _ _
   | exact quorumref8_place.mono _ _ _
   | exact LeO.none _
   | refine LeO.ite ?_ ?_
   | refine LeO.bind ?_ (fun _ => ?_)
set_option maxHeartbeats 8000000 in
set_option maxRecDepth 100000 in
theorem quorumref8_Get.calls (k : Nat) (A0_0 : Option Addr) (c0_0 : Nat) (l0_0 : List (S99)) (a1 : ByteArray) (a2 : Int) (r1 : ByteArray) (r2 : Bool) (w : World) (hr0_0 : Kd.C k99 w A0_0 l0_0.length l0_0) (hc0_0 : l0_0.length ≤ c0_0) (h : quorumref8_Get.f k l0_0 a1 a2 = some (r1, r2)) :
  Calls Try.prog 20 #[.agg #[.slice A0_0 l0_0.length c0_0], .string a1, .int .i64 a2] w fun e w' => e = .returned (.tuple #[.string r1, .bool r2]) ∧ Below w.heap.size w w' := by
 have hu47 := Try.underlying47
 have hu99 := Try.underlying99
 have hu72 := Try.underlying72
 have HR0_0 := mk0 hr0_0
 have HC0_0 := mk0 hc0_0
 clear hr0_0 hc0_0
 have HB := mk0 (Below.refl w.heap.size w)
 have H : ((quorumref8_place.f k l0_0 a1).bind fun bt231 => (if bt231.2 = true then (if 0 ≤ bt231.1 then (if bt231.1 < (l0_0.length : Int) then ((quorumref8_At.f k ((rd_T99 l0_0 bt231.1).f0) ((rd_T99 l0_0 bt231.1).f1) a2).bind fun bt234 => (some (bt234.2.1, bt234.2.2.2))) else (none)) else (none)) else (some ((⟨#[]⟩ : ByteArray), false)))) = some (r1, r2) := h
 clear h
 replace H := Option.bind_eq_some_iff.mp H
 obtain ⟨⟨t231, t232⟩, A40, H⟩ := H
 try dsimp only at H
 have A4 := mk0 A40
 clear A40
 by_cases c5 : t232 = true
 ·subst c5
  rw [if_pos rfl] at H
  by_cases c6 : 0 ≤ t231
  ·rw [if_pos c6] at H
   have c6b0 : decide (0 ≤ t231) = true := decide_eq_true c6
   clear c6
   by_cases c7 : t231 < (l0_0.length : Int)
   ·rw [if_pos c7] at H
    have c7b0 : decide (t231 < (l0_0.length : Int)) = true := decide_eq_true c7
    clear c7
    replace H := Option.bind_eq_some_iff.mp H
    obtain ⟨⟨t234, t235, t236, t237⟩, A80, H⟩ := H
    try dsimp only at H
    have A8 := mk0 A80
    clear A80
    simp only [Option.some.injEq, Prod.mk.injEq] at H
    obtain ⟨rfl, rfl⟩ := H
    go_enter Try.func20, Try.ntmps20
    go_wp2_with (first | ((with_reducible refine gate_dst (N := 3) rfl ?_); refine bx_ (N := 3) (cs := #[.slice A0_0 l0_0.length c0_0]) (t := 47) (h := ?_); intro gb230 hg w9 hbox hb; have n2_ := mk0 (gz_ HB hg); have n3_ := mk0 (gz_ HB hg); replace HB := mk0 (bt_ (b_ HB) hb); have BK230 := mk0 (hbox); have GW230 := n2_; have GE230 := n3_; clear n2_ n3_ hb hbox hg; obtain ⟨hcz10_0, hfz10_0⟩ := c1_ BK230) | ((with_reducible refine gate_callee (f := 44) rfl ?_); refine gL_ (some 14) Try.func44 #[.agg #[.slice A0_0 l0_0.length c0_0], .string a1] (h := ?_); (with_reducible refine (quorumref8_place.calls k _ _ l0_0 a1 t231 true _ ?side1 ?side2 A4.out).mono ?_); (case side1 => exact cb_ HR0_0 HB); (case side2 => exact HC0_0.out); rintro e w11 ⟨rfl, hb⟩; refine ⟨_, rfl, ?_⟩; replace BK230 := mk0 (u_ BK230 hb); replace HB := mk0 (bt_ (b_ HB) hb); (try clear hb); obtain ⟨hcz12_0, hfz12_0⟩ := c1_ BK230; have p233 : 0 ≤ (t231 : Int) := of_decide_eq_true (by first | (with_reducible assumption) | assumption); have q233 : t231 < (l0_0.length : Int) := of_decide_eq_true (by first | (with_reducible assumption) | assumption); obtain ⟨ad233, A233_1, c233_1, e233, hx233_0, hx233_1, hl233_1, hi233_1⟩ := at_T99 HR0_0.out t231 p233 q233; cases e233; replace hx233_0 := (bc_ HB hx233_0 :); replace hx233_1 := (bc_ HB hx233_1 :); have HR233_1 := mk0 hi233_1; have HC233_1 := mk0 hl233_1; clear hi233_1 hl233_1; replace p233 := eq_true p233; replace q233 := eq_true q233) | ((with_reducible refine gate_callee (f := 45) rfl ?_); refine gL_ (some 26) Try.func45 #[.agg #[.string ((rd_T99 l0_0 t231).f0), .slice A233_1 ((rd_T99 l0_0 t231).f1).length c233_1], .int .i64 a2] (h := ?_); (with_reducible refine (quorumref8_At.calls k ((rd_T99 l0_0 t231).f0) _ _ ((rd_T99 l0_0 t231).f1) a2 t234 t235 t236 t237 _ ?side1 ?side2 A8.out).mono ?_); (case side1 => exact cb_ HR233_1 HB); (case side2 => exact HC233_1.out); rintro e w13 ⟨rfl, hb⟩; refine ⟨_, rfl, ?_⟩; replace BK230 := mk0 (u_ BK230 hb); replace HB := mk0 (bt_ (b_ HB) hb); (try clear hb)) | ((with_reducible refine gate_dst (N := 10) rfl ?_); refine bx_ (N := 10) (cs := #[.int .i64 0, .string (⟨#[]⟩ : ByteArray), .bool false]) (t := 72) (h := ?_); intro gb238 hg w14 hbox hb; have n3_ := mk0 (gz_ HB hg); have n4_ := mk0 (gz_ HB hg); have n5_ := mk0 (ne1_ BK230 hg); have n6_ := mk0 (ne2_ BK230 hg); replace BK230 := mk0 (u_ BK230 hb); replace HB := mk0 (bt_ (b_ HB) hb); have BK238 := mk0 (hbox); have GW238 := n3_; have GE238 := n4_; have NB230_238 := n5_; have NB238_230 := n6_; clear n3_ n4_ n5_ n6_ hb hbox hg; have hnb15 := NB238_230.out; have hnc15 := NB230_238.out; obtain ⟨hcz16_0, hcz16_1, hcz16_2, hfz16_0, hfz16_1, hfz16_2⟩ := c3_ BK238))
    go_ret2
    exact ⟨by first | rfl | (simp [errW_none, errW_some] <;> rfl) | (simp [*, errW_none, errW_some] <;> rfl), b_ HB⟩
   ·rw [if_neg c7] at H
    exact absurd H (by simp)
  ·rw [if_neg c6] at H
   exact absurd H (by simp)
 ·replace c5 := Bool.eq_false_iff.mpr c5
  subst c5
  rw [if_neg (show ¬ (false = true) by decide)] at H
  simp only [Option.some.injEq, Prod.mk.injEq] at H
  obtain ⟨rfl, rfl⟩ := H
  go_enter Try.func20, Try.ntmps20
  go_wp2_with (first | ((with_reducible refine gate_dst (N := 3) rfl ?_); refine bx_ (N := 3) (cs := #[.slice A0_0 l0_0.length c0_0]) (t := 47) (h := ?_); intro gb230 hg w17 hbox hb; have n2_ := mk0 (gz_ HB hg); have n3_ := mk0 (gz_ HB hg); replace HB := mk0 (bt_ (b_ HB) hb); have BK230 := mk0 (hbox); have GW230 := n2_; have GE230 := n3_; clear n2_ n3_ hb hbox hg; obtain ⟨hcz18_0, hfz18_0⟩ := c1_ BK230) | ((with_reducible refine gate_callee (f := 44) rfl ?_); refine gL_ (some 14) Try.func44 #[.agg #[.slice A0_0 l0_0.length c0_0], .string a1] (h := ?_); (with_reducible refine (quorumref8_place.calls k _ _ l0_0 a1 t231 false _ ?side1 ?side2 A4.out).mono ?_); (case side1 => exact cb_ HR0_0 HB); (case side2 => exact HC0_0.out); rintro e w19 ⟨rfl, hb⟩; refine ⟨_, rfl, ?_⟩; replace BK230 := mk0 (u_ BK230 hb); replace HB := mk0 (bt_ (b_ HB) hb); (try clear hb)))
  go_ret2
  exact ⟨by first | rfl | (simp [errW_none, errW_some] <;> rfl) | (simp [*, errW_none, errW_some] <;> rfl), b_ HB⟩

/-! ### quorumlaw11_wakes: function 21 -/
def quorumlaw11_wakes.f (k : Nat)  : Option (Bool) := (some (([(⟨(([(⟨(⟨#[97]⟩ : ByteArray), (([(⟨1, (⟨#[118]⟩ : ByteArray), false⟩ : S72)] : List (S72)))⟩ : S99)] : List (S99)))⟩ : S47)] : List (S47)) : List (S47))).bind fun y245 => ((view_Get.f k y245 ([] : List (S36)) ([] : List Int) 0 (⟨#[97]⟩ : ByteArray) 1).bind fun bt248 => ((view_Get.f k y245 (([(⟨0, (⟨#[97]⟩ : ByteArray), (⟨#[]⟩ : ByteArray), true⟩ : S36)] : List (S36))) ([] : List Int) 0 (⟨#[97]⟩ : ByteArray) 1).bind fun bt253 => ((quorumlaw11_num.f bt248.2).bind fun t255 => (if t255 = 0 then (if bt248.1.toList = ([118] : List UInt8) then ((quorumlaw11_num.f bt253.2).bind fun t256 => (some (t256 == 3))) else (some false)) else (some false)))))
theorem quorumlaw11_wakes.mono : ∀ k, LeO (quorumlaw11_wakes.f k ) (quorumlaw11_wakes.f (k + 1) ) := by
 intro  k
 unfold quorumlaw11_wakes.f
 repeat' first
   | (with_reducible exact view_Get.mono _ _ _ _ _ _ _)
   | (with_reducible exact LeO.refl _)
   | (with_reducible exact LeO.none _)
   | (with_reducible refine LeO.ite ?_ ?_)
   | (with_reducible refine LeO.bind ?_ (fun _ => ?_))
   | exact view_Get.mono _ _ _ _ _ _ _
   | exact LeO.none _
   | refine LeO.ite ?_ ?_
   | refine LeO.bind ?_ (fun _ => ?_)
set_option maxHeartbeats 8000000 in
set_option maxRecDepth 100000 in
theorem quorumlaw11_wakes.calls (k : Nat)  (r : Bool) (w : World) (h : quorumlaw11_wakes.f k  = some r) :
  Calls Try.prog 21 #[] w fun e w' => e = .returned (.bool r) ∧ Below w.heap.size w w' := by
 have hu72 := Try.underlying72
 have hu99 := Try.underlying99
 have hu47 := Try.underlying47
 have hu34 := Try.underlying34
 have hu36 := Try.underlying36
 have HB := mk0 (Below.refl w.heap.size w)
 have H : ((some (([(⟨(([(⟨(⟨#[97]⟩ : ByteArray), (([(⟨1, (⟨#[118]⟩ : ByteArray), false⟩ : S72)] : List (S72)))⟩ : S99)] : List (S99)))⟩ : S47)] : List (S47)) : List (S47))).bind fun y245 => ((view_Get.f k y245 ([] : List (S36)) ([] : List Int) 0 (⟨#[97]⟩ : ByteArray) 1).bind fun bt248 => ((view_Get.f k y245 (([(⟨0, (⟨#[97]⟩ : ByteArray), (⟨#[]⟩ : ByteArray), true⟩ : S36)] : List (S36))) ([] : List Int) 0 (⟨#[97]⟩ : ByteArray) 1).bind fun bt253 => ((quorumlaw11_num.f bt248.2).bind fun t255 => (if t255 = 0 then (if bt248.1.toList = ([118] : List UInt8) then ((quorumlaw11_num.f bt253.2).bind fun t256 => (some (t256 == 3))) else (some false)) else (some false)))))) = some r := h
 clear h
 obtain ⟨y239, hy239⟩ : ∃ y_ : List (S72), y_ = (([(⟨1, (⟨#[118]⟩ : ByteArray), false⟩ : S72)] : List (S72))) := ⟨_, rfl⟩
 replace H : ((some (([(⟨(([(⟨(⟨#[97]⟩ : ByteArray), y239⟩ : S99)] : List (S99)))⟩ : S47)] : List (S47)) : List (S47))).bind fun y245 => ((view_Get.f k y245 ([] : List (S36)) ([] : List Int) 0 (⟨#[97]⟩ : ByteArray) 1).bind fun bt248 => ((view_Get.f k y245 (([(⟨0, (⟨#[97]⟩ : ByteArray), (⟨#[]⟩ : ByteArray), true⟩ : S36)] : List (S36))) ([] : List Int) 0 (⟨#[97]⟩ : ByteArray) 1).bind fun bt253 => ((quorumlaw11_num.f bt248.2).bind fun t255 => (if t255 = 0 then (if bt248.1.toList = ([118] : List UInt8) then ((quorumlaw11_num.f bt253.2).bind fun t256 => (some (t256 == 3))) else (some false)) else (some false)))))) = some r := by first | (rw [hy239]; with_reducible exact H) | (have H2_ := (Option.bind_some _ _).symm.trans H; rw [hy239]; with_reducible exact H2_) | (have H2_ := (Option.bind_some _ _).symm.trans H; with_reducible exact H2_) | with_reducible exact H | (rw [hy239]; exact H) | exact H
 have Ny239 := mk0 hy239
 clear hy239
 obtain ⟨y242, hy242⟩ : ∃ y_ : List (S99), y_ = (([(⟨(⟨#[97]⟩ : ByteArray), y239⟩ : S99)] : List (S99))) := ⟨_, rfl⟩
 replace H : ((some (([(⟨y242⟩ : S47)] : List (S47)) : List (S47))).bind fun y245 => ((view_Get.f k y245 ([] : List (S36)) ([] : List Int) 0 (⟨#[97]⟩ : ByteArray) 1).bind fun bt248 => ((view_Get.f k y245 (([(⟨0, (⟨#[97]⟩ : ByteArray), (⟨#[]⟩ : ByteArray), true⟩ : S36)] : List (S36))) ([] : List Int) 0 (⟨#[97]⟩ : ByteArray) 1).bind fun bt253 => ((quorumlaw11_num.f bt248.2).bind fun t255 => (if t255 = 0 then (if bt248.1.toList = ([118] : List UInt8) then ((quorumlaw11_num.f bt253.2).bind fun t256 => (some (t256 == 3))) else (some false)) else (some false)))))) = some r := by first | (rw [hy242]; with_reducible exact H) | (have H2_ := (Option.bind_some _ _).symm.trans H; rw [hy242]; with_reducible exact H2_) | (have H2_ := (Option.bind_some _ _).symm.trans H; with_reducible exact H2_) | with_reducible exact H | (rw [hy242]; exact H) | exact H
 have Ny242 := mk0 hy242
 clear hy242
 obtain ⟨y245, hy245⟩ : ∃ y_ : List (S47), y_ = (([(⟨y242⟩ : S47)] : List (S47))) := ⟨_, rfl⟩
 replace H : ((view_Get.f k y245 ([] : List (S36)) ([] : List Int) 0 (⟨#[97]⟩ : ByteArray) 1).bind fun bt248 => ((view_Get.f k y245 (([(⟨0, (⟨#[97]⟩ : ByteArray), (⟨#[]⟩ : ByteArray), true⟩ : S36)] : List (S36))) ([] : List Int) 0 (⟨#[97]⟩ : ByteArray) 1).bind fun bt253 => ((quorumlaw11_num.f bt248.2).bind fun t255 => (if t255 = 0 then (if bt248.1.toList = ([118] : List UInt8) then ((quorumlaw11_num.f bt253.2).bind fun t256 => (some (t256 == 3))) else (some false)) else (some false))))) = some r := by first | (rw [hy245]; with_reducible exact H) | (have H2_ := (Option.bind_some _ _).symm.trans H; rw [hy245]; with_reducible exact H2_) | (have H2_ := (Option.bind_some _ _).symm.trans H; with_reducible exact H2_) | with_reducible exact H | (rw [hy245]; exact H) | exact H
 have Ny245 := mk0 hy245
 clear hy245
 replace H := Option.bind_eq_some_iff.mp H
 obtain ⟨⟨t248, t249⟩, A10, H⟩ := H
 try dsimp only at H
 have A1 := mk0 A10
 clear A10
 obtain ⟨y250, hy250⟩ : ∃ y_ : List (S36), y_ = (([(⟨0, (⟨#[97]⟩ : ByteArray), (⟨#[]⟩ : ByteArray), true⟩ : S36)] : List (S36))) := ⟨_, rfl⟩
 replace H : ((view_Get.f k y245 y250 ([] : List Int) 0 (⟨#[97]⟩ : ByteArray) 1).bind fun bt253 => ((quorumlaw11_num.f t249).bind fun t255 => (if t255 = 0 then (if t248.toList = ([118] : List UInt8) then ((quorumlaw11_num.f bt253.2).bind fun t256 => (some (t256 == 3))) else (some false)) else (some false)))) = some r := by first | (rw [hy250]; with_reducible exact H) | (have H2_ := (Option.bind_some _ _).symm.trans H; rw [hy250]; with_reducible exact H2_) | (have H2_ := (Option.bind_some _ _).symm.trans H; with_reducible exact H2_) | with_reducible exact H | (rw [hy250]; exact H) | exact H
 have Ny250 := mk0 hy250
 clear hy250
 replace H := Option.bind_eq_some_iff.mp H
 obtain ⟨⟨t253, t254⟩, A20, H⟩ := H
 try dsimp only at H
 have A2 := mk0 A20
 clear A20
 replace H := Option.bind_eq_some_iff.mp H
 obtain ⟨t255, A30, H⟩ := H
 try dsimp only at H
 have A3 := mk0 A30
 clear A30
 by_cases c4 : t255 = 0
 focus
  rw [if_pos c4] at H
  have c4b0 : (t255 == 0) = true := beq_iff_eq.mpr c4
  have c4b1 : (t255 != 0) = false := bne_eq_false_iff_eq.mpr c4
  clear c4
  by_cases c5 : t248.toList = ([118] : List UInt8)
  focus
   rw [if_pos c5] at H
   have c5b0 : (t248.toList == ([118] : List UInt8)) = true := beq_iff_eq.mpr c5
   have c5b1 : (t248.toList != ([118] : List UInt8)) = false := bne_eq_false_iff_eq.mpr c5
   clear c5
   replace H := Option.bind_eq_some_iff.mp H
   obtain ⟨t256, A60, H⟩ := H
   try dsimp only at H
   have A6 := mk0 A60
   clear A60
   obtain rfl := Option.some.inj H
   go_enter Try.func21, Try.ntmps21
  rotate_left 1
  focus
   rw [if_neg c5] at H
   have c5b0 : (t248.toList == ([118] : List UInt8)) = false := beq_eq_false_iff_ne.mpr c5
   have c5b1 : (t248.toList != ([118] : List UInt8)) = true := bne_iff_ne.mpr c5
   obtain rfl := Option.some.inj H
   go_enter Try.func21, Try.ntmps21
  rotate_right 1
 rotate_left 2
 focus
  rw [if_neg c4] at H
  have c4b0 : (t255 == 0) = false := beq_eq_false_iff_ne.mpr c4
  have c4b1 : (t255 != 0) = true := bne_iff_ne.mpr c4
  obtain rfl := Option.some.inj H
  go_enter Try.func21, Try.ntmps21
 rotate_right 2
 all_goals go_wp2_with (first | ((with_reducible refine gate_dst (N := 7) rfl ?_); refine Kd.R_lit k72 _ 72 ?hg (N := 7) ?hd (xs := ([(⟨1, (⟨#[118]⟩ : ByteArray), false⟩ : S72)] : List (S72))) (inner := [.int .i64 1, .string (⟨#[118]⟩ : ByteArray), .bool false]) (ok := fun _ => True) (okp := fun _ => True) ?hr ?hp (fun _ hk => hk) trivial (Below.refl _ _) (Nat.le_refl _) (by simp) ?_; (case hd => rfl); (case hg => rfl); (case hr => first | (go_simp; done) | (go_simp; rfl)); (case hp => exact (Reps.c3 (show Kd.M k72 _ _ _ (⟨1, (⟨#[118]⟩ : ByteArray), false⟩ : S72) [.int .i64 1, .string (⟨#[118]⟩ : ByteArray), .bool false] from (k72_mkM _ _ _ (⟨1, (⟨#[118]⟩ : ByteArray), false⟩ : S72) )) (Reps.none _ _))); intro v240 w7 ho8 hb hg_ hnew_; clear hg_ hnew_; (first | rw [← Ny239.out] at ho8 | (simp only [Int.reduceToNat] at ho8; rw [← Ny239.out] at ho8)); have n0_ := mk0 (Kd.R_lower ho8 (bz_ (b_ HB))); replace HB := mk0 (bt_ (b_ HB) hb); have HO241 := n0_; clear n0_ hb ho8; obtain ⟨Ao9, co9, eo9⟩ := Kd.R_slice HO241.out; subst eo9) | ((with_reducible refine gate_dst (N := 9) rfl ?_); refine Kd.N_lit k99 _ 99 ?hg (N' := 9) ?hd (xs := ([(⟨(⟨#[97]⟩ : ByteArray), y239⟩ : S99)] : List (S99))) (inner := [.string (⟨#[97]⟩ : ByteArray), .slice Ao9 y239.length co9]) (ok := (fun _ => True)) (okp := (fun _ => True)) ?hr ?hp (fun _ hk => hk) ((show ∀ k_, w7.heap.size ≤ k_ → (fun _ => True) k_ from fun k_ hk => trivial) _ (Nat.le_refl _)) (Below.refl _ _) (Nat.le_refl _) (by simp) ?_; (case hd => rfl); (case hg => rfl); (case hr => first | (go_simp; done) | (go_simp; rfl)); (case hp => exact (Reps.c2 (show Kd.FK k99 _ _ (⟨(⟨#[97]⟩ : ByteArray), y239⟩ : S99) [.string (⟨#[97]⟩ : ByteArray), .slice Ao9 y239.length co9] from (k99_mkF _ _ (⟨(⟨#[97]⟩ : ByteArray), y239⟩ : S99) (Kd.R_reads' (Kd.R_mono (ok' := (fun _ => True)) (HO241.out) (fun k_ hk => trivial))).2.1 (Kd.R_F (Kd.R_mono (ok' := (fun _ => True)) (HO241.out) (fun k_ hk => trivial))))) (Reps.none _ _))); intro v243 w10 ho11 hb hg_ hnew_; clear hg_ hnew_; (first | rw [← Ny242.out] at ho11 | (simp only [Int.reduceToNat] at ho11; rw [← Ny242.out] at ho11)); have n0_ := mk0 (Kd.N_lower ho11 (bz_ (b_ HB))); replace HB := mk0 (bt_ (b_ HB) hb); clear HO241; have HO244 := n0_; clear n0_ hb ho11; obtain ⟨Ao12, co12, eo12⟩ := Kd.N_slice HO244.out; subst eo12) | ((with_reducible refine gate_dst (N := 11) rfl ?_); refine Kd.N_lit k47 _ 47 ?hg (N' := 11) ?hd (xs := ([(⟨y242⟩ : S47)] : List (S47))) (inner := [.slice Ao12 y242.length co12]) (ok := (fun _ => True)) (okp := (fun _ => True)) ?hr ?hp (fun _ hk => hk) ((show ∀ k_, w10.heap.size ≤ k_ → (fun _ => True) k_ from fun k_ hk => trivial) _ (Nat.le_refl _)) (Below.refl _ _) (Nat.le_refl _) (by simp) ?_; (case hd => rfl); (case hg => rfl); (case hr => first | (go_simp; done) | (go_simp; rfl)); (case hp => exact (Reps.one (show Kd.FK k47 _ _ (⟨y242⟩ : S47) [.slice Ao12 y242.length co12] from (k47_mkF _ _ (⟨y242⟩ : S47) (Kd.N_reads' (Kd.N_mono (ok' := (fun _ => True)) (HO244.out) (fun k_ hk => trivial))).2.1 (Kd.N_F (Kd.N_mono (ok' := (fun _ => True)) (HO244.out) (fun k_ hk => trivial))))) (Reps.none _ _))); intro v246 w13 ho14 hb hg_ hnew_; clear hg_ hnew_; (first | rw [← Ny245.out] at ho14 | (simp only [Int.reduceToNat] at ho14; rw [← Ny245.out] at ho14)); have n0_ := mk0 (Kd.N_lower ho14 (bz_ (b_ HB))); replace HB := mk0 (bt_ (b_ HB) hb); clear HO244; have HO247 := n0_; clear n0_ hb ho14; obtain ⟨Ao15, co15, eo15⟩ := Kd.N_slice HO247.out; subst eo15) | ((with_reducible refine gate_callee (f := 18) rfl ?_); refine gL_ (some 15) Try.func18 #[.slice Ao15 y245.length co15, .agg #[.slice none 0 0, .slice none 0 0], .int .i64 0, .string (⟨#[97]⟩ : ByteArray), .int .i64 1] (h := ?_); (refine (view_Get.calls k _ _ y245 _ _ ([] : List (S36)) _ _ ([] : List Int) 0 (⟨#[97]⟩ : ByteArray) 1 t248 t249 _ ?side1 ?side2 ?side3 ?side4 ?side5 ?side6 A1.out).mono ?_); (case side1 => repeat (first | exact (Kd.N_reads' HO247.out).2.2 | (with_reducible refine Kd.C_alloc ?_ _) | (with_reducible refine Kd.C_drewN ?_ _) | (with_reducible refine Kd.C_drew ?_))); (case side2 => exact (Kd.N_reads' HO247.out).2.1); (case side3 => exact Kd.C_nil _ _); (case side4 => exact Nat.le_refl _); (case side5 => exact Kd.C_nil _ _); (case side6 => exact Nat.le_refl _); rintro e w16 ⟨rfl, hb⟩; refine ⟨_, rfl, ?_⟩; replace HO247 := mk0 (Kd.N_below (nn_ HO247) hb); replace HB := mk0 (bt_ (b_ HB) hb); (try clear hb)) | ((with_reducible refine gate_dst (N := 21) rfl ?_); refine Kd.R_lit k36 _ 36 ?hg (N := 21) ?hd (xs := ([(⟨0, (⟨#[97]⟩ : ByteArray), (⟨#[]⟩ : ByteArray), true⟩ : S36)] : List (S36))) (inner := [.int .i64 0, .string (⟨#[97]⟩ : ByteArray), .string (⟨#[]⟩ : ByteArray), .bool true]) (ok := fun _ => True) (okp := fun _ => True) ?hr ?hp (fun _ hk => hk) trivial (Below.refl _ _) (Nat.le_refl _) (by simp) ?_; (case hd => rfl); (case hg => rfl); (case hr => first | (go_simp; done) | (go_simp; rfl)); (case hp => exact (Reps.c4 (show Kd.M k36 _ _ _ (⟨0, (⟨#[97]⟩ : ByteArray), (⟨#[]⟩ : ByteArray), true⟩ : S36) [.int .i64 0, .string (⟨#[97]⟩ : ByteArray), .string (⟨#[]⟩ : ByteArray), .bool true] from (k36_mkM _ _ _ (⟨0, (⟨#[97]⟩ : ByteArray), (⟨#[]⟩ : ByteArray), true⟩ : S36) )) (Reps.none _ _))); intro v251 w17 ho18 hb hg_ hnew_; clear hg_ hnew_; (first | rw [← Ny250.out] at ho18 | (simp only [Int.reduceToNat] at ho18; rw [← Ny250.out] at ho18)); have n1_ := mk0 (Kd.R_lower ho18 (bz_ (b_ HB))); replace HO247 := mk0 (Kd.N_elder' (nn_ HO247) (Kd.R_base ho18) hb); replace HB := mk0 (bt_ (b_ HB) hb); have HO252 := n1_; clear n1_ hb ho18; obtain ⟨Ao19, co19, eo19⟩ := Kd.R_slice HO252.out; subst eo19) | ((with_reducible refine gate_callee (f := 18) rfl ?_); refine gL_ (some 23) Try.func18 #[.slice Ao15 y245.length co15, .agg #[.slice Ao19 y250.length co19, .slice none 0 0], .int .i64 0, .string (⟨#[97]⟩ : ByteArray), .int .i64 1] (h := ?_); (refine (view_Get.calls k _ _ y245 _ _ y250 _ _ ([] : List Int) 0 (⟨#[97]⟩ : ByteArray) 1 t253 t254 _ ?side1 ?side2 ?side3 ?side4 ?side5 ?side6 A2.out).mono ?_); (case side1 => repeat (first | exact (Kd.N_reads' HO247.out).2.2 | (with_reducible refine Kd.C_alloc ?_ _) | (with_reducible refine Kd.C_drewN ?_ _) | (with_reducible refine Kd.C_drew ?_))); (case side2 => exact (Kd.N_reads' HO247.out).2.1); (case side3 => exact cr_ HO252); (case side4 => exact (Kd.R_reads' HO252.out).2.1); (case side5 => exact Kd.C_nil _ _); (case side6 => exact Nat.le_refl _); rintro e w20 ⟨rfl, hb⟩; refine ⟨_, rfl, ?_⟩; replace HO247 := mk0 (Kd.N_below (nn_ HO247) hb); replace HO252 := mk0 (Kd.R_below (r_ HO252) hb); replace HB := mk0 (bt_ (b_ HB) hb); (try clear hb)) | ((with_reducible refine gate_callee (f := 19) rfl ?_); refine gL_ (some 27) Try.func19 #[.int .i64 t249] (h := ?_); (with_reducible refine (quorumlaw11_num.calls t249 t255 _ A3.out).mono ?_); rintro e w' ⟨rfl, ⟨nd, rfl⟩⟩; refine ⟨_, rfl, ?_⟩) | (go_at_call 19; (with_reducible refine (quorumlaw11_num.calls t254 t256 _ A6.out).mono ?_); rintro e w' ⟨rfl, ⟨nd, rfl⟩⟩) | ((with_reducible refine gate_callee (f := 19) rfl ?_); refine gL_ (some 27) Try.func19 #[.int .i64 t249] (h := ?_); (with_reducible refine (quorumlaw11_num.calls t249 t255 _ A3.out).mono ?_); rintro e w' ⟨rfl, ⟨nd, rfl⟩⟩; refine ⟨_, rfl, ?_⟩))
 ·go_ret
  exact ⟨by first | rfl | (simp [errW_none, errW_some] <;> rfl) | (simp [*, errW_none, errW_some] <;> rfl), b_ HB⟩
 ·go_ret
  exact ⟨by first | rfl | (simp [errW_none, errW_some] <;> rfl) | (simp [*, errW_none, errW_some] <;> rfl), b_ HB⟩
 ·go_ret
  exact ⟨by first | rfl | (simp [errW_none, errW_some] <;> rfl) | (simp [*, errW_none, errW_some] <;> rfl), b_ HB⟩

end Go.Proofs.Ytbaecdcfefmcgaa.PVow
