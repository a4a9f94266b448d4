-- PRINTED by print.py (a twelfth state) out of the translation. Not trusted: Lean checks it.
import Derived.Test.YtkmkppchhdkipaaDoorPTrx0
import Derived.Test.YtkmkppchhdkipaaDoorWPlus
namespace Go.Proofs.YtkmkppchhdkipaaDoor.PTr
open Go.RowKit Go.Proofs.YtkmkppchhdkipaaDoorW.PrintWords Go.Proofs.YtkmkppchhdkipaaDoorW.PrintLast Go.Proofs.YtkmkppchhdkipaaDoorW.PrintMore
attribute [local go_sem] max2_int min2_int max_two min_two max_three min_three max_four min_four   -- for this text's walks alone
set_option linter.unusedVariables false
set_option linter.unusedSimpArgs false

/-! ### quorumlaw0_TreeWeight: function 48 -/
mutual
noncomputable def quorumlaw0_TreeWeight.l0 : Nat → Int → Int → List (S85) → Int → List Int → Option (Int)
 | 0, _, _, _, _, _ => none
 | k + 1, x3, x4, x305000, x305001, x305002 => if x4 < (x305000.length : Int) then (quorumlaw0_TreeWeight.j1 k x3 x4 (decide (x3 < 1048576)) x305000 x305001 x305002) else (quorumlaw0_TreeWeight.j1 k x3 x4 false x305000 x305001 x305002)
noncomputable def quorumlaw0_TreeWeight.j1 : Nat → Int → Int → Bool → List (S85) → Int → List Int → Option (Int)
 | 0, _, _, _, _, _, _ => none
 | k + 1, x3, x4, x21, x305000, x305001, x305002 => if x21 = true then (if 0 ≤ x4 then (if x4 < (x305000.length : Int) then (quorumlaw0_TreeWeight.l1 k (wrap64 ((wrap64 ((wrap64 (x3 + (((rd_T85 x305000 x4).f0).length : Int))) + (((rd_T85 x305000 x4).f1).length : Int))) + (((rd_T85 x305000 x4).f2).length : Int))) x4 0 x305000 x305001 x305002) else (none)) else (none)) else (some x3)
noncomputable def quorumlaw0_TreeWeight.l1 : Nat → Int → Int → Int → List (S85) → Int → List Int → Option (Int)
 | 0, _, _, _, _, _, _ => none
 | k + 1, x3, x4, x5, x305000, x305001, x305002 => if 0 ≤ x4 then (if x4 < (x305000.length : Int) then (if x5 < (((rd_T85 x305000 x4).f0).length : Int) then (quorumlaw0_TreeWeight.j3 k x3 x4 x5 (decide (x3 < 1048576)) x305000 x305001 x305002) else (quorumlaw0_TreeWeight.j3 k x3 x4 x5 false x305000 x305001 x305002)) else (none)) else (none)
noncomputable def quorumlaw0_TreeWeight.j3 : Nat → Int → Int → Int → Bool → List (S85) → Int → List Int → Option (Int)
 | 0, _, _, _, _, _, _, _ => none
 | k + 1, x3, x4, x5, x61, x305000, x305001, x305002 => if x61 = true then (if 0 ≤ x4 then (if x4 < (x305000.length : Int) then (if 0 ≤ x5 then (if x5 < (((rd_T85 x305000 x4).f0).length : Int) then (quorumlaw0_TreeWeight.l1 k (wrap64 (x3 + (wrap64 (((rdOf ByteArray.empty ((rd_T85 x305000 x4).f0) x5).size : Int) / 8)))) x4 (wrap64 (x5 + 1)) x305000 x305001 x305002) else (none)) else (none)) else (none)) else (none)) else (quorumlaw0_TreeWeight.l0 k x3 (wrap64 (x4 + 1)) x305000 x305001 x305002)
end
noncomputable def quorumlaw0_TreeWeight.f (k : Nat) (l0_0 : List (S85)) (a0_1 : Int) (l0_2 : List Int) : Option (Int) := quorumlaw0_TreeWeight.l0 k (wrap64 ((l0_0.length : Int) + (l0_2.length : Int))) 0 l0_0 a0_1 l0_2
theorem quorumlaw0_TreeWeight.mono_l : ∀ k, (∀ y0 y1 y2 y3 y4, LeO (quorumlaw0_TreeWeight.l0 k y0 y1 y2 y3 y4) (quorumlaw0_TreeWeight.l0 (k + 1) y0 y1 y2 y3 y4)) ∧ (∀ y0 y1 y2 y3 y4 y5, LeO (quorumlaw0_TreeWeight.j1 k y0 y1 y2 y3 y4 y5) (quorumlaw0_TreeWeight.j1 (k + 1) y0 y1 y2 y3 y4 y5)) ∧ (∀ y0 y1 y2 y3 y4 y5, LeO (quorumlaw0_TreeWeight.l1 k y0 y1 y2 y3 y4 y5) (quorumlaw0_TreeWeight.l1 (k + 1) y0 y1 y2 y3 y4 y5)) ∧ (∀ y0 y1 y2 y3 y4 y5 y6, LeO (quorumlaw0_TreeWeight.j3 k y0 y1 y2 y3 y4 y5 y6) (quorumlaw0_TreeWeight.j3 (k + 1) y0 y1 y2 y3 y4 y5 y6))
 | 0 => ⟨fun _ _ _ _ _ r h => by simp [quorumlaw0_TreeWeight.l0] at h, fun _ _ _ _ _ _ r h => by simp [quorumlaw0_TreeWeight.j1] at h, fun _ _ _ _ _ _ r h => by simp [quorumlaw0_TreeWeight.l1] at h, fun _ _ _ _ _ _ _ r h => by simp [quorumlaw0_TreeWeight.j3] at h⟩
 | k + 1 => by
  obtain ⟨ih0, ih1, ih2, ih3⟩ := quorumlaw0_TreeWeight.mono_l k
  refine ⟨?_, ?_, ?_, ?_⟩
  ·intro y0 y1 y2 y3 y4
   unfold quorumlaw0_TreeWeight.l0
   repeat' first
   | (with_reducible exact ih0 _ _ _ _ _)
   | (with_reducible exact ih1 _ _ _ _ _ _)
   | (with_reducible exact ih2 _ _ _ _ _ _)
   | (with_reducible exact ih3 _ _ _ _ _ _ _)
   | (with_reducible exact LeO.refl _)
   | (with_reducible exact LeO.none _)
   | (with_reducible refine LeO.ite ?_ ?_)
   | (with_reducible refine LeO.bind ?_ (fun _ => ?_))
   | exact ih0 _ _ _ _ _
   | exact ih1 _ _ _ _ _ _
   | exact ih2 _ _ _ _ _ _
   | exact ih3 _ _ _ _ _ _ _
   | exact LeO.none _
   | refine LeO.ite ?_ ?_
   | refine LeO.bind ?_ (fun _ => ?_)
  ·intro y0 y1 y2 y3 y4 y5
   unfold quorumlaw0_TreeWeight.j1
   repeat' first
   | (with_reducible exact ih0 _ _ _ _ _)
   | (with_reducible exact ih1 _ _ _ _ _ _)
   | (with_reducible exact ih2 _ _ _ _ _ _)
   | (with_reducible exact ih3 _ _ _ _ _ _ _)
   | (with_reducible exact LeO.refl _)
   | (with_reducible exact LeO.none _)
   | (with_reducible refine LeO.ite ?_ ?_)
   | (with_reducible refine LeO.bind ?_ (fun _ => ?_))
   | exact ih0 _ _ _ _ _
   | exact ih1 _ _ _ _ _ _
   | exact ih2 _ _ _ _ _ _
   | exact ih3 _ _ _ _ _ _ _
   | exact LeO.none _
   | refine LeO.ite ?_ ?_
   | refine LeO.bind ?_ (fun _ => ?_)
  ·intro y0 y1 y2 y3 y4 y5
   unfold quorumlaw0_TreeWeight.l1
   repeat' first
   | (with_reducible exact ih0 _ _ _ _ _)
   | (with_reducible exact ih1 _ _ _ _ _ _)
   | (with_reducible exact ih2 _ _ _ _ _ _)
   | (with_reducible exact ih3 _ _ _ _ _ _ _)
   | (with_reducible exact LeO.refl _)
   | (with_reducible exact LeO.none _)
   | (with_reducible refine LeO.ite ?_ ?_)
   | (with_reducible refine LeO.bind ?_ (fun _ => ?_))
   | exact ih0 _ _ _ _ _
   | exact ih1 _ _ _ _ _ _
   | exact ih2 _ _ _ _ _ _
   | exact ih3 _ _ _ _ _ _ _
   | exact LeO.none _
   | refine LeO.ite ?_ ?_
   | refine LeO.bind ?_ (fun _ => ?_)
  ·intro y0 y1 y2 y3 y4 y5 y6
   unfold quorumlaw0_TreeWeight.j3
   repeat' first
   | (with_reducible exact ih0 _ _ _ _ _)
   | (with_reducible exact ih1 _ _ _ _ _ _)
   | (with_reducible exact ih2 _ _ _ _ _ _)
   | (with_reducible exact ih3 _ _ _ _ _ _ _)
   | (with_reducible exact LeO.refl _)
   | (with_reducible exact LeO.none _)
   | (with_reducible refine LeO.ite ?_ ?_)
   | (with_reducible refine LeO.bind ?_ (fun _ => ?_))
   | exact ih0 _ _ _ _ _
   | exact ih1 _ _ _ _ _ _
   | exact ih2 _ _ _ _ _ _
   | exact ih3 _ _ _ _ _ _ _
   | exact LeO.none _
   | refine LeO.ite ?_ ?_
   | refine LeO.bind ?_ (fun _ => ?_)
theorem quorumlaw0_TreeWeight.mono : ∀ a0 a1 a2 k, LeO (quorumlaw0_TreeWeight.f k a0 a1 a2) (quorumlaw0_TreeWeight.f (k + 1) a0 a1 a2) := by
 intro a0 a1 a2 k
 obtain ⟨ih0, ih1, ih2, ih3⟩ := quorumlaw0_TreeWeight.mono_l k
 unfold quorumlaw0_TreeWeight.f
 repeat' first
   | (with_reducible exact ih0 _ _ _ _ _)
   | (with_reducible exact ih1 _ _ _ _ _ _)
   | (with_reducible exact ih2 _ _ _ _ _ _)
   | (with_reducible exact ih3 _ _ _ _ _ _ _)
   | (with_reducible exact LeO.refl _)
   | (with_reducible exact LeO.none _)
   | (with_reducible refine LeO.ite ?_ ?_)
   | (with_reducible refine LeO.bind ?_ (fun _ => ?_))
   | exact ih0 _ _ _ _ _
   | exact ih1 _ _ _ _ _ _
   | exact ih2 _ _ _ _ _ _
   | exact ih3 _ _ _ _ _ _ _
   | exact LeO.none _
   | refine LeO.ite ?_ ?_
   | refine LeO.bind ?_ (fun _ => ?_)
set_option maxHeartbeats 8000000 in
set_option maxRecDepth 100000 in
theorem quorumlaw0_TreeWeight.calls (k : Nat) (A0_0 : Option Addr) (c0_0 : Nat) (l0_0 : List (S85)) (a0_1 : Int) (A0_2 : Option Addr) (c0_2 : Nat) (l0_2 : List Int) (r : Int) (w : World) (hr0_0 : Kd.C k85 w A0_0 l0_0.length l0_0) (hc0_0 : l0_0.length ≤ c0_0) (hr0_2 : Kd.C (Kd.int .i64) w A0_2 l0_2.length l0_2) (hc0_2 : l0_2.length ≤ c0_2) (h : quorumlaw0_TreeWeight.f k l0_0 a0_1 l0_2 = some r) :
  Calls Tryd.prog 48 #[.agg #[.slice A0_0 l0_0.length c0_0, .int .i64 a0_1, .slice A0_2 l0_2.length c0_2]] w fun e w' => e = .returned (.int .i64 r) ∧ Below w.heap.size w w' := by
 have hu25 := Tryd.underlying25
 have HR0_0 := mk0 hr0_0
 have HC0_0 := mk0 hc0_0
 clear hr0_0 hc0_0
 have HR0_2 := mk0 hr0_2
 have HC0_2 := mk0 hc0_2
 clear hr0_2 hc0_2
 have HB := mk0 (Below.refl w.heap.size w)
 have H : (quorumlaw0_TreeWeight.l0 k (wrap64 ((l0_0.length : Int) + (l0_2.length : Int))) 0 l0_0 a0_1 l0_2) = some r := h
 clear h
 have H' := mk0 H
 clear H
 go_enter Tryd.func48, Tryd.ntmps48
 go_wp2_with (first | ((with_reducible refine gate_dst (N := 1) rfl ?_); refine bx_ (N := 1) (cs := #[.slice A0_0 l0_0.length c0_0, .int .i64 a0_1, .slice A0_2 l0_2.length c0_2]) (t := 25) (h := ?_); intro gb304 hg w2 hbox hb; have n2_ := mk0 (gz_ HB hg); have n3_ := mk0 (gz_ HB hg); replace HB := mk0 (bt_ (b_ HB) hb); have BK304 := mk0 (hbox); have GW304 := n2_; have GE304 := n3_; clear n2_ n3_ hb hbox hg; obtain ⟨hcz3_0, hcz3_1, hcz3_2, hfz3_0, hfz3_1, hfz3_2⟩ := c3_ BK304))
 repeat (go_quiet (first | ((with_reducible refine gate_dst (N := 1) rfl ?_); refine bx_ (N := 1) (cs := #[.slice A0_0 l0_0.length c0_0, .int .i64 a0_1, .slice A0_2 l0_2.length c0_2]) (t := 25) (h := ?_); intro gb304 hg w2 hbox hb; have n2_ := mk0 (gz_ HB hg); have n3_ := mk0 (gz_ HB hg); replace HB := mk0 (bt_ (b_ HB) hb); have BK304 := mk0 (hbox); have GW304 := n2_; have GE304 := n3_; clear n2_ n3_ hb hbox hg; obtain ⟨hcz3_0, hcz3_1, hcz3_2, hfz3_0, hfz3_1, hfz3_2⟩ := c3_ BK304)); try go_wp2_with (first | ((with_reducible refine gate_dst (N := 1) rfl ?_); refine bx_ (N := 1) (cs := #[.slice A0_0 l0_0.length c0_0, .int .i64 a0_1, .slice A0_2 l0_2.length c0_2]) (t := 25) (h := ?_); intro gb304 hg w2 hbox hb; have n2_ := mk0 (gz_ HB hg); have n3_ := mk0 (gz_ HB hg); replace HB := mk0 (bt_ (b_ HB) hb); have BK304 := mk0 (hbox); have GW304 := n2_; have GE304 := n3_; clear n2_ n3_ hb hbox hg; obtain ⟨hcz3_0, hcz3_1, hcz3_2, hfz3_0, hfz3_1, hfz3_2⟩ := c3_ BK304)))
 go_loopg [3, 4] k (fun kq v3 v4 w' => ∃ (x3_1 : Int) (x4_1 : Int), v3 = .int .i64 x3_1 ∧ v4 = .int .i64 x4_1 ∧ Fc (quorumlaw0_TreeWeight.l0 kq x3_1 x4_1 l0_0 a0_1 l0_2 = some r) ∧ Fc (kq ≤ k) ∧ Fc (w'.heap[gb304]? = some (.cells #[(.slice A0_0 l0_0.length c0_0), .int .i64 a0_1, (.slice A0_2 l0_2.length c0_2)] 25 (0, 0))) ∧ Fc (Below w.heap.size w w'))
 case atStart => exact ⟨(wrap64 ((l0_0.length : Int) + (l0_2.length : Int))), (0), (by first | rfl | (simp; done) | (simp [*]; done)), (by first | rfl | (simp; done) | (simp [*]; done)), H', ⟨Nat.le_refl _⟩, ⟨h_ BK304⟩, ⟨b_ HB⟩⟩
 case round =>
  clear H'
  try clear hcz3_0
  try clear hcz3_1
  try clear hcz3_2
  try clear hfz3_0
  try clear hfz3_1
  try clear hfz3_2
  obtain ⟨x3_1, x4_1, rfl, rfl, HA, HK1, BK304, HB⟩ := hrel
  cases gk with
  | zero => exact absurd HA.out (by simp [quorumlaw0_TreeWeight.l0])
  | succ k1 =>
   have H := HA.out
   clear HA
   simp only [quorumlaw0_TreeWeight.l0] at H
   as_aux_lemma =>
    have HC4 := mk0 H
    clear H
    go_upto_region 3 with (fail)
    repeat (go_quiet (fail); go_upto_region 3 with (fail))
    go_cut [21] (fun v21 wc => ∃ (kq : Nat) (x21_3 : Bool), v21 = .bool x21_3 ∧ Fc (quorumlaw0_TreeWeight.j1 kq x3_1 x4_1 x21_3 l0_0 a0_1 l0_2 = some r) ∧ Fc (kq ≤ k1) ∧ Fc (wc.heap[gb304]? = some (.cells #[(.slice A0_0 l0_0.length c0_0), .int .i64 a0_1, (.slice A0_2 l0_2.length c0_2)] 25 (0, 0))) ∧ Fc (Below w.heap.size w wc))
    case first =>
     have H := HC4.out
     clear HC4
     by_cases c5 : x4_1 < (l0_0.length : Int)
     ·rw [if_pos c5] at H
      have c5b0 : decide (x4_1 < (l0_0.length : Int)) = true := decide_eq_true c5
      clear c5
      (first | rw [c5b0] | (simp only [i64_w, i32_w]; rw [c5b0]) | skip)
      have H' := mk0 H
      clear H
      obtain ⟨hcz6_0, hcz6_1, hcz6_2, hfz6_0, hfz6_1, hfz6_2⟩ := c3_ BK304
      go_wp2
      repeat (go_quiet (fail); try go_wp2)
      go_meet
      case rel => exact ⟨_, (decide (x3_1 < 1048576)), (by first | rfl | (simp; done) | (simp [*]; done)), H', ⟨by have := HK1.out; first | omega | exact Nat.le_refl _⟩, ⟨h_ BK304⟩, ⟨b_ HB⟩⟩
     ·rw [if_neg c5] at H
      have c5b0 : decide (x4_1 < (l0_0.length : Int)) = false := decide_eq_false c5
      clear c5
      (first | rw [c5b0] | (simp only [i64_w, i32_w]; rw [c5b0]) | skip)
      have H' := mk0 H
      clear H
      obtain ⟨hcz7_0, hcz7_1, hcz7_2, hfz7_0, hfz7_1, hfz7_2⟩ := c3_ BK304
      go_wp2
      repeat (go_quiet (fail); try go_wp2)
      go_meet
      case rel => exact ⟨_, (false), (by first | rfl | (simp; done) | (simp [*]; done)), H', ⟨by have := HK1.out; first | omega | exact Nat.le_refl _⟩, ⟨h_ BK304⟩, ⟨b_ HB⟩⟩
    case rest =>
     clear HC4
     try clear c5
     try clear c5b0
     try clear hcz3_0
     try clear hcz3_1
     try clear hcz3_2
     try clear hcz6_0
     try clear hcz6_1
     try clear hcz6_2
     try clear hcz7_0
     try clear hcz7_1
     try clear hcz7_2
     try clear hfz3_0
     try clear hfz3_1
     try clear hfz3_2
     try clear hfz6_0
     try clear hfz6_1
     try clear hfz6_2
     try clear hfz7_0
     try clear hfz7_1
     try clear hfz7_2
     obtain ⟨kq, x21_3, rfl, HA, HJ3, BK304, HB⟩ := hcut
     cases kq with
     | zero => exact absurd HA.out (by simp [quorumlaw0_TreeWeight.j1])
     | succ kj3 =>
      have H := HA.out
      clear HA
      simp only [quorumlaw0_TreeWeight.j1] at H
      as_aux_lemma =>
       by_cases c8 : x21_3 = true
       ·subst c8
        rw [if_pos rfl] at H
        by_cases c9 : 0 ≤ x4_1
        ·rw [if_pos c9] at H
         have c9b0 : decide (0 ≤ x4_1) = true := decide_eq_true c9
         clear c9
         by_cases c10 : x4_1 < (l0_0.length : Int)
         ·rw [if_pos c10] at H
          have c10b0 : decide (x4_1 < (l0_0.length : Int)) = true := decide_eq_true c10
          clear c10
          have H' := mk0 H
          clear H
          obtain ⟨hcz11_0, hcz11_1, hcz11_2, hfz11_0, hfz11_1, hfz11_2⟩ := c3_ BK304
          have p305 : 0 ≤ (x4_1 : Int) := of_decide_eq_true (by first | (with_reducible assumption) | assumption)
          have q305 : x4_1 < (l0_0.length : Int) := of_decide_eq_true (by first | (with_reducible assumption) | assumption)
          obtain ⟨ad305, A305_0, c305_0, A305_1, c305_1, A305_2, c305_2, e305, hx305_0, hx305_1, hx305_2, hx305_3, hl305_0, hi305_0, hl305_1, hi305_1, hl305_2, hi305_2⟩ := at_T85 HR0_0.out x4_1 p305 q305
          cases e305
          replace hx305_0 := (bc_ HB hx305_0 :)
          replace hx305_1 := (bc_ HB hx305_1 :)
          replace hx305_2 := (bc_ HB hx305_2 :)
          replace hx305_3 := (bc_ HB hx305_3 :)
          have HR305_0 := mk0 hi305_0
          have HC305_0 := mk0 hl305_0
          clear hi305_0 hl305_0
          have HR305_1 := mk0 hi305_1
          have HC305_1 := mk0 hl305_1
          clear hi305_1 hl305_1
          have HR305_2 := mk0 hi305_2
          have HC305_2 := mk0 hl305_2
          clear hi305_2 hl305_2
          replace p305 := eq_true p305
          replace q305 := eq_true q305
          have p306 : 0 ≤ (x4_1 : Int) := of_decide_eq_true (by first | (with_reducible assumption) | assumption)
          have q306 : x4_1 < (l0_0.length : Int) := of_decide_eq_true (by first | (with_reducible assumption) | assumption)
          obtain ⟨ad306, A306_0, c306_0, A306_1, c306_1, A306_2, c306_2, e306, hx306_0, hx306_1, hx306_2, hx306_3, hl306_0, hi306_0, hl306_1, hi306_1, hl306_2, hi306_2⟩ := at_T85 HR0_0.out x4_1 p306 q306
          obtain rfl : ad305 = ad306 := (by injection e306)
          replace hx306_0 := (bc_ HB hx306_0 :)
          replace hx306_1 := (bc_ HB hx306_1 :)
          replace hx306_2 := (bc_ HB hx306_2 :)
          replace hx306_3 := (bc_ HB hx306_3 :)
          have HR306_0 := mk0 hi306_0
          have HC306_0 := mk0 hl306_0
          clear hi306_0 hl306_0
          have HR306_1 := mk0 hi306_1
          have HC306_1 := mk0 hl306_1
          clear hi306_1 hl306_1
          have HR306_2 := mk0 hi306_2
          have HC306_2 := mk0 hl306_2
          clear hi306_2 hl306_2
          replace p306 := eq_true p306
          replace q306 := eq_true q306
          have ea_ := Option.some.inj (hx305_0.symm.trans hx306_0)
          injection ea_ with ea_ en_ ec_
          subst ea_
          subst ec_
          clear en_
          have ea_ := Option.some.inj (hx305_1.symm.trans hx306_1)
          injection ea_ with ea_ en_ ec_
          subst ea_
          subst ec_
          clear en_
          have ea_ := Option.some.inj (hx305_2.symm.trans hx306_2)
          injection ea_ with ea_ en_ ec_
          subst ea_
          subst ec_
          clear en_
          have p307 : 0 ≤ (x4_1 : Int) := of_decide_eq_true (by first | (with_reducible assumption) | assumption)
          have q307 : x4_1 < (l0_0.length : Int) := of_decide_eq_true (by first | (with_reducible assumption) | assumption)
          obtain ⟨ad307, A307_0, c307_0, A307_1, c307_1, A307_2, c307_2, e307, hx307_0, hx307_1, hx307_2, hx307_3, hl307_0, hi307_0, hl307_1, hi307_1, hl307_2, hi307_2⟩ := at_T85 HR0_0.out x4_1 p307 q307
          obtain rfl : ad305 = ad307 := (by injection e307)
          replace hx307_0 := (bc_ HB hx307_0 :)
          replace hx307_1 := (bc_ HB hx307_1 :)
          replace hx307_2 := (bc_ HB hx307_2 :)
          replace hx307_3 := (bc_ HB hx307_3 :)
          have HR307_0 := mk0 hi307_0
          have HC307_0 := mk0 hl307_0
          clear hi307_0 hl307_0
          have HR307_1 := mk0 hi307_1
          have HC307_1 := mk0 hl307_1
          clear hi307_1 hl307_1
          have HR307_2 := mk0 hi307_2
          have HC307_2 := mk0 hl307_2
          clear hi307_2 hl307_2
          replace p307 := eq_true p307
          replace q307 := eq_true q307
          have ea_ := Option.some.inj (hx305_0.symm.trans hx307_0)
          injection ea_ with ea_ en_ ec_
          subst ea_
          subst ec_
          clear en_
          have ea_ := Option.some.inj (hx305_1.symm.trans hx307_1)
          injection ea_ with ea_ en_ ec_
          subst ea_
          subst ec_
          clear en_
          have ea_ := Option.some.inj (hx305_2.symm.trans hx307_2)
          injection ea_ with ea_ en_ ec_
          subst ea_
          subst ec_
          clear en_
          go_wp2
          repeat (go_quiet (fail); try go_wp2)
          go_loopg [3, 5] kj3 (fun kq v3 v5 w' => ∃ (x3_3 : Int) (x5_3 : Int), v3 = .int .i64 x3_3 ∧ v5 = .int .i64 x5_3 ∧ Fc (quorumlaw0_TreeWeight.l1 kq x3_3 x4_1 x5_3 l0_0 a0_1 l0_2 = some r) ∧ Fc (kq ≤ kj3) ∧ Fc (w'.heap[gb304]? = some (.cells #[(.slice (some ad305) l0_0.length c0_0), .int .i64 a0_1, (.slice A0_2 l0_2.length c0_2)] 25 (0, 0))) ∧ Fc (Below w.heap.size w w'))
          case atStart => exact ⟨(wrap64 ((wrap64 ((wrap64 (x3_1 + (((rd_T85 l0_0 x4_1).f0).length : Int))) + (((rd_T85 l0_0 x4_1).f1).length : Int))) + (((rd_T85 l0_0 x4_1).f2).length : Int))), (0), (by first | rfl | (simp; done) | (simp [*]; done)), (by first | rfl | (simp; done) | (simp [*]; done)), H', ⟨Nat.le_refl _⟩, ⟨h_ BK304⟩, ⟨b_ HB⟩⟩
          case round =>
           clear H'
           try clear c5
           try clear c5b0
           try clear c8
           try clear c9
           try clear c9b0
           try clear c10
           try clear c10b0
           try clear hcz11_0
           try clear hcz11_1
           try clear hcz11_2
           try clear hcz3_0
           try clear hcz3_1
           try clear hcz3_2
           try clear hcz6_0
           try clear hcz6_1
           try clear hcz6_2
           try clear hcz7_0
           try clear hcz7_1
           try clear hcz7_2
           try clear hfz11_0
           try clear hfz11_1
           try clear hfz11_2
           try clear hfz3_0
           try clear hfz3_1
           try clear hfz3_2
           try clear hfz6_0
           try clear hfz6_1
           try clear hfz6_2
           try clear hfz7_0
           try clear hfz7_1
           try clear hfz7_2
           try clear hx305_0
           try clear hx305_1
           try clear hx305_2
           try clear hx305_3
           try clear hx306_0
           try clear hx306_1
           try clear hx306_2
           try clear hx306_3
           try clear hx307_0
           try clear hx307_1
           try clear hx307_2
           try clear hx307_3
           try clear p305
           try clear p306
           try clear p307
           try clear q305
           try clear q306
           try clear q307
           obtain ⟨x3_3, x5_3, rfl, rfl, HA, HK3, BK304, HB⟩ := hrel
           cases gk with
           | zero => exact absurd HA.out (by simp [quorumlaw0_TreeWeight.l1])
           | succ k3 =>
            have H := HA.out
            clear HA
            simp only [quorumlaw0_TreeWeight.l1] at H
            as_aux_lemma =>
             have HC12 := mk0 H
             clear H
             go_upto_region 7 with (fail)
             repeat (go_quiet (fail); go_upto_region 7 with (fail))
             go_cut [61] (fun v61 wc => ∃ (kq : Nat) (x61_11 : Bool), v61 = .bool x61_11 ∧ Fc (quorumlaw0_TreeWeight.j3 kq x3_3 x4_1 x5_3 x61_11 l0_0 a0_1 l0_2 = some r) ∧ Fc (kq ≤ k3) ∧ Fc (wc.heap[gb304]? = some (.cells #[(.slice (some ad305) l0_0.length c0_0), .int .i64 a0_1, (.slice A0_2 l0_2.length c0_2)] 25 (0, 0))) ∧ Fc (Below w.heap.size w wc))
             case first =>
              have H := HC12.out
              clear HC12
              by_cases c13 : 0 ≤ x4_1
              ·rw [if_pos c13] at H
               have c13b0 : decide (0 ≤ x4_1) = true := decide_eq_true c13
               clear c13
               (first | rw [c13b0] | (simp only [i64_w, i32_w]; rw [c13b0]) | skip)
               by_cases c14 : x4_1 < (l0_0.length : Int)
               ·rw [if_pos c14] at H
                have c14b0 : decide (x4_1 < (l0_0.length : Int)) = true := decide_eq_true c14
                clear c14
                by_cases c15 : x5_3 < (((rd_T85 l0_0 x4_1).f0).length : Int)
                ·rw [if_pos c15] at H
                 have c15b0 : decide (x5_3 < (((rd_T85 l0_0 x4_1).f0).length : Int)) = true := decide_eq_true c15
                 clear c15
                 have H' := mk0 H
                 clear H
                 obtain ⟨hcz16_0, hcz16_1, hcz16_2, hfz16_0, hfz16_1, hfz16_2⟩ := c3_ BK304
                 have p308 : 0 ≤ (x4_1 : Int) := of_decide_eq_true (by first | (with_reducible assumption) | assumption)
                 have q308 : x4_1 < (l0_0.length : Int) := of_decide_eq_true (by first | (with_reducible assumption) | assumption)
                 obtain ⟨ad308, A308_0, c308_0, A308_1, c308_1, A308_2, c308_2, e308, hx308_0, hx308_1, hx308_2, hx308_3, hl308_0, hi308_0, hl308_1, hi308_1, hl308_2, hi308_2⟩ := at_T85 HR0_0.out x4_1 p308 q308
                 obtain rfl : ad305 = ad308 := (by injection e308)
                 replace hx308_0 := (bc_ HB hx308_0 :)
                 replace hx308_1 := (bc_ HB hx308_1 :)
                 replace hx308_2 := (bc_ HB hx308_2 :)
                 replace hx308_3 := (bc_ HB hx308_3 :)
                 have HR308_0 := mk0 hi308_0
                 have HC308_0 := mk0 hl308_0
                 clear hi308_0 hl308_0
                 have HR308_1 := mk0 hi308_1
                 have HC308_1 := mk0 hl308_1
                 clear hi308_1 hl308_1
                 have HR308_2 := mk0 hi308_2
                 have HC308_2 := mk0 hl308_2
                 clear hi308_2 hl308_2
                 replace p308 := eq_true p308
                 replace q308 := eq_true q308
                 go_wp2
                 repeat (go_quiet (fail); try go_wp2)
                 go_meet
                 case rel => exact ⟨_, (decide (x3_3 < 1048576)), (by first | rfl | (simp; done) | (simp [*]; done)), H', ⟨by have := HK1.out; have := HJ3.out; have := HK3.out; first | omega | exact Nat.le_refl _⟩, ⟨h_ BK304⟩, ⟨b_ HB⟩⟩
                ·rw [if_neg c15] at H
                 have c15b0 : decide (x5_3 < (((rd_T85 l0_0 x4_1).f0).length : Int)) = false := decide_eq_false c15
                 clear c15
                 have H' := mk0 H
                 clear H
                 obtain ⟨hcz17_0, hcz17_1, hcz17_2, hfz17_0, hfz17_1, hfz17_2⟩ := c3_ BK304
                 have p308 : 0 ≤ (x4_1 : Int) := of_decide_eq_true (by first | (with_reducible assumption) | assumption)
                 have q308 : x4_1 < (l0_0.length : Int) := of_decide_eq_true (by first | (with_reducible assumption) | assumption)
                 obtain ⟨ad308, A308_0, c308_0, A308_1, c308_1, A308_2, c308_2, e308, hx308_0, hx308_1, hx308_2, hx308_3, hl308_0, hi308_0, hl308_1, hi308_1, hl308_2, hi308_2⟩ := at_T85 HR0_0.out x4_1 p308 q308
                 obtain rfl : ad305 = ad308 := (by injection e308)
                 replace hx308_0 := (bc_ HB hx308_0 :)
                 replace hx308_1 := (bc_ HB hx308_1 :)
                 replace hx308_2 := (bc_ HB hx308_2 :)
                 replace hx308_3 := (bc_ HB hx308_3 :)
                 have HR308_0 := mk0 hi308_0
                 have HC308_0 := mk0 hl308_0
                 clear hi308_0 hl308_0
                 have HR308_1 := mk0 hi308_1
                 have HC308_1 := mk0 hl308_1
                 clear hi308_1 hl308_1
                 have HR308_2 := mk0 hi308_2
                 have HC308_2 := mk0 hl308_2
                 clear hi308_2 hl308_2
                 replace p308 := eq_true p308
                 replace q308 := eq_true q308
                 go_wp2
                 repeat (go_quiet (fail); try go_wp2)
                 go_meet
                 case rel => exact ⟨_, (false), (by first | rfl | (simp; done) | (simp [*]; done)), H', ⟨by have := HK1.out; have := HJ3.out; have := HK3.out; first | omega | exact Nat.le_refl _⟩, ⟨h_ BK304⟩, ⟨b_ HB⟩⟩
               ·rw [if_neg c14] at H
                exact absurd H (by simp)
              ·rw [if_neg c13] at H
               exact absurd H (by simp)
             case rest =>
              clear HC12
              try clear c5
              try clear c5b0
              try clear c8
              try clear c9
              try clear c9b0
              try clear c10
              try clear c10b0
              try clear c13
              try clear c13b0
              try clear c14
              try clear c14b0
              try clear c15
              try clear c15b0
              try clear hcz11_0
              try clear hcz11_1
              try clear hcz11_2
              try clear hcz16_0
              try clear hcz16_1
              try clear hcz16_2
              try clear hcz17_0
              try clear hcz17_1
              try clear hcz17_2
              try clear hcz3_0
              try clear hcz3_1
              try clear hcz3_2
              try clear hcz6_0
              try clear hcz6_1
              try clear hcz6_2
              try clear hcz7_0
              try clear hcz7_1
              try clear hcz7_2
              try clear hfz11_0
              try clear hfz11_1
              try clear hfz11_2
              try clear hfz16_0
              try clear hfz16_1
              try clear hfz16_2
              try clear hfz17_0
              try clear hfz17_1
              try clear hfz17_2
              try clear hfz3_0
              try clear hfz3_1
              try clear hfz3_2
              try clear hfz6_0
              try clear hfz6_1
              try clear hfz6_2
              try clear hfz7_0
              try clear hfz7_1
              try clear hfz7_2
              try clear hx305_0
              try clear hx305_1
              try clear hx305_2
              try clear hx305_3
              try clear hx306_0
              try clear hx306_1
              try clear hx306_2
              try clear hx306_3
              try clear hx307_0
              try clear hx307_1
              try clear hx307_2
              try clear hx307_3
              try clear hx308_0
              try clear hx308_1
              try clear hx308_2
              try clear hx308_3
              try clear p305
              try clear p306
              try clear p307
              try clear p308
              try clear q305
              try clear q306
              try clear q307
              try clear q308
              obtain ⟨kq, x61_11, rfl, HA, HJ11, BK304, HB⟩ := hcut
              cases kq with
              | zero => exact absurd HA.out (by simp [quorumlaw0_TreeWeight.j3])
              | succ kj11 =>
               have H := HA.out
               clear HA
               simp only [quorumlaw0_TreeWeight.j3] at H
               as_aux_lemma =>
                by_cases c18 : x61_11 = true
                ·subst c18
                 rw [if_pos rfl] at H
                 by_cases c19 : 0 ≤ x4_1
                 ·rw [if_pos c19] at H
                  have c19b0 : decide (0 ≤ x4_1) = true := decide_eq_true c19
                  clear c19
                  by_cases c20 : x4_1 < (l0_0.length : Int)
                  ·rw [if_pos c20] at H
                   have c20b0 : decide (x4_1 < (l0_0.length : Int)) = true := decide_eq_true c20
                   clear c20
                   by_cases c21 : 0 ≤ x5_3
                   ·rw [if_pos c21] at H
                    have c21b0 : decide (0 ≤ x5_3) = true := decide_eq_true c21
                    clear c21
                    by_cases c22 : x5_3 < (((rd_T85 l0_0 x4_1).f0).length : Int)
                    ·rw [if_pos c22] at H
                     have c22b0 : decide (x5_3 < (((rd_T85 l0_0 x4_1).f0).length : Int)) = true := decide_eq_true c22
                     clear c22
                     have H' := mk0 H
                     clear H
                     obtain ⟨hcz23_0, hcz23_1, hcz23_2, hfz23_0, hfz23_1, hfz23_2⟩ := c3_ BK304
                     have p309 : 0 ≤ (x4_1 : Int) := of_decide_eq_true (by first | (with_reducible assumption) | assumption)
                     have q309 : x4_1 < (l0_0.length : Int) := of_decide_eq_true (by first | (with_reducible assumption) | assumption)
                     obtain ⟨ad309, A309_0, c309_0, A309_1, c309_1, A309_2, c309_2, e309, hx309_0, hx309_1, hx309_2, hx309_3, hl309_0, hi309_0, hl309_1, hi309_1, hl309_2, hi309_2⟩ := at_T85 HR0_0.out x4_1 p309 q309
                     obtain rfl : ad305 = ad309 := (by injection e309)
                     replace hx309_0 := (bc_ HB hx309_0 :)
                     replace hx309_1 := (bc_ HB hx309_1 :)
                     replace hx309_2 := (bc_ HB hx309_2 :)
                     replace hx309_3 := (bc_ HB hx309_3 :)
                     have HR309_0 := mk0 hi309_0
                     have HC309_0 := mk0 hl309_0
                     clear hi309_0 hl309_0
                     have HR309_1 := mk0 hi309_1
                     have HC309_1 := mk0 hl309_1
                     clear hi309_1 hl309_1
                     have HR309_2 := mk0 hi309_2
                     have HC309_2 := mk0 hl309_2
                     clear hi309_2 hl309_2
                     replace p309 := eq_true p309
                     replace q309 := eq_true q309
                     have p310 : 0 ≤ (x5_3 : Int) := of_decide_eq_true (by first | (with_reducible assumption) | assumption)
                     have q310 : x5_3 < (((rd_T85 l0_0 x4_1).f0).length : Int) := of_decide_eq_true (by first | (with_reducible assumption) | assumption)
                     obtain ⟨ad310, e310, hx310_0⟩ := Kd.at_string HR309_0.out x5_3 p310 q310
                     cases e310
                     replace hx310_0 := (bc_ HB hx310_0 :)
                     replace p310 := eq_true p310
                     replace q310 := eq_true q310
                     go_wp2
                     repeat (go_quiet (fail); try go_wp2)
                     go_roundg kj11
                     case measure => have := HK1.out; have := HJ3.out; have := HK3.out; have := HJ11.out; omega
                     case rel => exact ⟨(wrap64 (x3_3 + (wrap64 (((rdOf ByteArray.empty ((rd_T85 l0_0 x4_1).f0) x5_3).size : Int) / 8)))), (wrap64 (x5_3 + 1)), (by first | rfl | (simp; done) | (simp [*]; done)), (by first | rfl | (simp; done) | (simp [*]; done)), H', ⟨by have := HK1.out; have := HJ3.out; have := HK3.out; have := HJ11.out; omega⟩, ⟨h_ BK304⟩, ⟨b_ HB⟩⟩
                    ·rw [if_neg c22] at H
                     exact absurd H (by simp)
                   ·rw [if_neg c21] at H
                    exact absurd H (by simp)
                  ·rw [if_neg c20] at H
                   exact absurd H (by simp)
                 ·rw [if_neg c19] at H
                  exact absurd H (by simp)
                ·replace c18 := Bool.eq_false_iff.mpr c18
                 subst c18
                 rw [if_neg (show ¬ (false = true) by decide)] at H
                 have H' := mk0 H
                 clear H
                 go_wp2
                 repeat (go_quiet (fail); try go_wp2)
                 go_roundg kj11
                 case measure => have := HK1.out; have := HJ3.out; have := HK3.out; have := HJ11.out; omega
                 case rel => exact ⟨(x3_3), (wrap64 (x4_1 + 1)), (by first | rfl | (simp; done) | (simp [*]; done)), (by first | rfl | (simp; done) | (simp [*]; done)), H', ⟨by have := HK1.out; have := HJ3.out; have := HK3.out; have := HJ11.out; omega⟩, ⟨h_ BK304⟩, ⟨b_ HB⟩⟩
         ·rw [if_neg c10] at H
          exact absurd H (by simp)
        ·rw [if_neg c9] at H
         exact absurd H (by simp)
       ·replace c8 := Bool.eq_false_iff.mpr c8
        subst c8
        rw [if_neg (show ¬ (false = true) by decide)] at H
        obtain rfl := Option.some.inj H
        go_wp2
        repeat (go_quiet (fail); try go_wp2)
        go_ret
        exact ⟨by first | rfl | (simp [errW_none, errW_some] <;> rfl) | (simp [*, errW_none, errW_some] <;> rfl), b_ HB⟩

/-! ### quorumlaw6_Heavy: function 18 -/
mutual
noncomputable def quorumlaw6_Heavy.l0 : Nat → Int → Int → List (S85) → Int → List Int → List (S70) → Option (Bool)
 | 0, _, _, _, _, _, _ => none
 | k + 1, x3, x4, x312000, x312001, x312002, x312003 => if x4 < (x312003.length : Int) then (quorumlaw6_Heavy.j1 k x3 x4 (decide (x3 < 1048576)) x312000 x312001 x312002 x312003) else (quorumlaw6_Heavy.j1 k x3 x4 false x312000 x312001 x312002 x312003)
noncomputable def quorumlaw6_Heavy.j1 : Nat → Int → Int → Bool → List (S85) → Int → List Int → List (S70) → Option (Bool)
 | 0, _, _, _, _, _, _, _ => none
 | k + 1, x3, x4, x20, x312000, x312001, x312002, x312003 => if x20 = true then (if 0 ≤ x4 then (if x4 < (x312003.length : Int) then (quorumlaw6_Heavy.l0 k (wrap64 (x3 + (wrap64 ((((rd_T70 x312003 x4).f2).size : Int) / 8)))) (wrap64 (x4 + 1)) x312000 x312001 x312002 x312003) else (none)) else (none)) else (some (decide (x3 > 900)))
end
noncomputable def quorumlaw6_Heavy.f (k : Nat) (l0_0 : List (S85)) (a0_1 : Int) (l0_2 : List Int) (l0_3 : List (S70)) : Option (Bool) := (quorumlaw0_TreeWeight.f k l0_0 a0_1 l0_2).bind fun t312 => (quorumlaw6_Heavy.l0 k (wrap64 (t312 + (l0_3.length : Int))) 0 l0_0 a0_1 l0_2 l0_3)
theorem quorumlaw6_Heavy.mono_l : ∀ k, (∀ y0 y1 y2 y3 y4 y5, LeO (quorumlaw6_Heavy.l0 k y0 y1 y2 y3 y4 y5) (quorumlaw6_Heavy.l0 (k + 1) y0 y1 y2 y3 y4 y5)) ∧ (∀ y0 y1 y2 y3 y4 y5 y6, LeO (quorumlaw6_Heavy.j1 k y0 y1 y2 y3 y4 y5 y6) (quorumlaw6_Heavy.j1 (k + 1) y0 y1 y2 y3 y4 y5 y6))
 | 0 => ⟨fun _ _ _ _ _ _ r h => by simp [quorumlaw6_Heavy.l0] at h, fun _ _ _ _ _ _ _ r h => by simp [quorumlaw6_Heavy.j1] at h⟩
 | k + 1 => by
  obtain ⟨ih0, ih1⟩ := quorumlaw6_Heavy.mono_l k
  refine ⟨?_, ?_⟩
  ·intro y0 y1 y2 y3 y4 y5
   unfold quorumlaw6_Heavy.l0
   repeat' first
   | (with_reducible exact ih0 _ _ _ _ _ _)
   | (with_reducible exact ih1 _ _ _ _ _ _ _)
   | (with_reducible exact quorumlaw0_TreeWeight.mono _ _ _ _)
   | (with_reducible exact LeO.refl _)
   | (with_reducible exact LeO.none _)
   | (with_reducible refine LeO.ite ?_ ?_)
   | (with_reducible refine LeO.bind ?_ (fun _ => ?_))
   | exact ih0 _ _ _ _ _ _
   | exact ih1 _ _ _ _ _ _ _
   | exact quorumlaw0_TreeWeight.mono _ _ _ _
   | exact LeO.none _
   | refine LeO.ite ?_ ?_
   | refine LeO.bind ?_ (fun _ => ?_)
  ·intro y0 y1 y2 y3 y4 y5 y6
   unfold quorumlaw6_Heavy.j1
   repeat' first
   | (with_reducible exact ih0 _ _ _ _ _ _)
   | (with_reducible exact ih1 _ _ _ _ _ _ _)
   | (with_reducible exact quorumlaw0_TreeWeight.mono _ _ _ _)
   | (with_reducible exact LeO.refl _)
   | (with_reducible exact LeO.none _)
   | (with_reducible refine LeO.ite ?_ ?_)
   | (with_reducible refine LeO.bind ?_ (fun _ => ?_))
   | exact ih0 _ _ _ _ _ _
   | exact ih1 _ _ _ _ _ _ _
   | exact quorumlaw0_TreeWeight.mono _ _ _ _
   | exact LeO.none _
   | refine LeO.ite ?_ ?_
   | refine LeO.bind ?_ (fun _ => ?_)
theorem quorumlaw6_Heavy.mono : ∀ a0 a1 a2 a3 k, LeO (quorumlaw6_Heavy.f k a0 a1 a2 a3) (quorumlaw6_Heavy.f (k + 1) a0 a1 a2 a3) := by
 intro a0 a1 a2 a3 k
 obtain ⟨ih0, ih1⟩ := quorumlaw6_Heavy.mono_l k
 unfold quorumlaw6_Heavy.f
 repeat' first
   | (with_reducible exact ih0 _ _ _ _ _ _)
   | (with_reducible exact ih1 _ _ _ _ _ _ _)
   | (with_reducible exact quorumlaw0_TreeWeight.mono _ _ _ _)
   | (with_reducible exact LeO.refl _)
   | (with_reducible exact LeO.none _)
   | (with_reducible refine LeO.ite ?_ ?_)
   | (with_reducible refine LeO.bind ?_ (fun _ => ?_))
   | exact ih0 _ _ _ _ _ _
   | exact ih1 _ _ _ _ _ _ _
   | exact quorumlaw0_TreeWeight.mono _ _ _ _
   | exact LeO.none _
   | refine LeO.ite ?_ ?_
   | refine LeO.bind ?_ (fun _ => ?_)
noncomputable def quorumlaw6_Heavy.T1 : Bool × List (List Nat × List Nat) := (true, [([], []), ([0], [0]), ([1], [1]), ([], []), ([3], [3]), ([4], [4]), ([2, 5], [2, 5]), ([6, 2, 0, 1, 2, 3, 4, 5, 6], [6])])
noncomputable def quorumlaw6_Heavy.B1 : List Nat := [0, 1, 3, 0, 8, 24, 63, 127]
theorem quorumlaw6_Heavy.tab1 : rtab .any (opsOf Tryd.f18 1) = quorumlaw6_Heavy.T1 := by kernel_rfl
theorem quorumlaw6_Heavy.bits1 : waitsOk quorumlaw6_Heavy.T1.2 quorumlaw6_Heavy.B1 = true := by kernel_rfl
set_option maxHeartbeats 8000000 in
set_option maxRecDepth 100000 in
theorem quorumlaw6_Heavy.calls (k : Nat) (A0_0 : Option Addr) (c0_0 : Nat) (l0_0 : List (S85)) (a0_1 : Int) (A0_2 : Option Addr) (c0_2 : Nat) (l0_2 : List Int) (A0_3 : Option Addr) (c0_3 : Nat) (l0_3 : List (S70)) (r : Bool) (w : World) (hr0_0 : Kd.C k85 w A0_0 l0_0.length l0_0) (hc0_0 : l0_0.length ≤ c0_0) (hr0_2 : Kd.C (Kd.int .i64) w A0_2 l0_2.length l0_2) (hc0_2 : l0_2.length ≤ c0_2) (hr0_3 : Kd.C k70 w A0_3 l0_3.length l0_3) (hc0_3 : l0_3.length ≤ c0_3) (h : quorumlaw6_Heavy.f k l0_0 a0_1 l0_2 l0_3 = some r) :
  Calls Tryd.prog 18 #[.agg #[.slice A0_0 l0_0.length c0_0, .int .i64 a0_1, .slice A0_2 l0_2.length c0_2, .slice A0_3 l0_3.length c0_3]] w fun e w' => e = .returned (.bool r) ∧ Below w.heap.size w w' := by
 have hu28 := Tryd.underlying28
 have hu25 := Tryd.underlying25
 have HR0_0 := mk0 hr0_0
 have HC0_0 := mk0 hc0_0
 clear hr0_0 hc0_0
 have HR0_2 := mk0 hr0_2
 have HC0_2 := mk0 hc0_2
 clear hr0_2 hc0_2
 have HR0_3 := mk0 hr0_3
 have HC0_3 := mk0 hc0_3
 clear hr0_3 hc0_3
 have HB := mk0 (Below.refl w.heap.size w)
 have H : ((quorumlaw0_TreeWeight.f k l0_0 a0_1 l0_2).bind fun t312 => (quorumlaw6_Heavy.l0 k (wrap64 (t312 + (l0_3.length : Int))) 0 l0_0 a0_1 l0_2 l0_3)) = some r := h
 clear h
 replace H := Option.bind_eq_some_iff.mp H
 obtain ⟨t312, A20, H⟩ := H
 try dsimp only at H
 have A2 := mk0 A20
 clear A20
 have H' := mk0 H
 clear H
 go_enter Tryd.func18, Tryd.ntmps18
 try go_wp2_with (first | ((with_reducible refine gate_dst (N := 1) rfl ?_); refine bx_ (N := 1) (cs := #[.slice A0_0 l0_0.length c0_0, .int .i64 a0_1, .slice A0_2 l0_2.length c0_2, .slice A0_3 l0_3.length c0_3]) (t := 28) (h := ?_); intro gb311 hg w3 hbox hb; have n2_ := mk0 (gz_ HB hg); have n3_ := mk0 (gz_ HB hg); replace HB := mk0 (bt_ (b_ HB) hb); have BK311 := mk0 (hbox); have GW311 := n2_; have GE311 := n3_; clear n2_ n3_; clear hb hbox hg))
 replace BK311 := mk0 (bD_ BK311.out)
 replace HB := mk0 (b1_ HB.out)
 refine start_ (n := 8) (S := fun w' => w'.cell? ⟨gb311, 0, none⟩ = some (.slice A0_0 l0_0.length c0_0) ∧ w'.cell? ⟨gb311, 1, none⟩ = some (.int .i64 a0_1) ∧ w'.cell? ⟨gb311, 2, none⟩ = some (.slice A0_2 l0_2.length c0_2) ∧ w'.cell? ⟨gb311, 3, none⟩ = some (.slice A0_3 l0_3.length c0_3)) (ds := []) (bt 8 0) (by kernel_rfl) rfl rfl ⟨bk_ BK311 0, bk_ BK311 1, bk_ BK311 2, bk_ BK311 3⟩ (fun hHeld => ?_); refine with_tabW quorumlaw6_Heavy.tab1 quorumlaw6_Heavy.bits1 (fun HT_ HW_ => ?_)
 generalize w3.drew = w4 at BK311 HB hHeld ⊢
 refine pq_ HT_.out 0 5 (bt 8 1) (h := ?_)
 refine pq_ HT_.out 3 8 (bt 8 9) (h := ?_)
 refine tq4_ HT_.out HW_.out 1 6 (bt 8 11) hHeld (h := ?_)
 refine tq4_ HT_.out HW_.out 4 9 (bt 8 27) hHeld (h := ?_)
 refine pq_ HT_.out 5 10 (bt 8 59) (h := ?_)
 refine one_ (i := 2) (N := some 7) (bt 8 63) rfl rfl (one_of HT_.out (by kernel_rfl)) (by decide) (fun K hK => ?_)
 refine goes_ Tryd.func48 (by kernel_rfl) rfl #[.agg #[.slice A0_0 l0_0.length c0_0, .int .i64 a0_1, .slice A0_2 l0_2.length c0_2]] (by rfl) rfl rfl (by (try simp only [List.map_toArray, List.map_cons, List.map_nil]); first | done | rfl | (simp only [List.length_drop, List.length_take]; rfl)) ?_
 with_reducible refine (quorumlaw0_TreeWeight.calls k _ _ l0_0 a0_1 _ _ l0_2 t312 _ ?side1 ?side2 ?side3 ?side4 A2.out).mono ?_
 (case side1 => exact cb_ HR0_0 HB)
 (case side2 => exact HC0_0.out)
 (case side3 => exact cb_ HR0_2 HB)
 (case side4 => exact HC0_2.out)
 rintro e w5 ⟨rfl, hb⟩
 refine ⟨_, rfl, ?_⟩
 replace BK311 := mk0 (u_ BK311 hb)
 replace HB := mk0 (bt_ (b_ HB) hb)
 (try clear hb)
 (try clear hb2)
 (try clear hk)
 (try clear hi)
 refine hK.out _ _ ⟨bk_ BK311 0, bk_ BK311 1, bk_ BK311 2, bk_ BK311 3⟩ (fun hHeld => ?_)
 clear hK K
 refine norm_ (a' := ?_) ?_ ?_
 rotate_left
 ·show Act.put _ (some 7) _ = _
  simp only [z_]
  rfl
 refine pq_ HT_.out 6 11 (bt 8 127) (h := ?_)
 refine pq_ HT_.out 7 3 (bt 8 255) (h := ?_)
 refine done_ (done_of HT_.out (by kernel_rfl)) ?_
 try go_wp2
 go_loopg [3, 4] k (fun kq v3 v4 w' => ∃ (x3_1 : Int) (x4_1 : Int), v3 = .int .i64 x3_1 ∧ v4 = .int .i64 x4_1 ∧ Fc (quorumlaw6_Heavy.l0 kq x3_1 x4_1 l0_0 a0_1 l0_2 l0_3 = some r) ∧ Fc (kq ≤ k) ∧ Fc (w'.heap[gb311]? = some (.cells #[(.slice A0_0 l0_0.length c0_0), .int .i64 a0_1, (.slice A0_2 l0_2.length c0_2), (.slice A0_3 l0_3.length c0_3)] 28 (0, 0))) ∧ Fc (Below w.heap.size w w'))
 case atStart => exact ⟨(wrap64 (t312 + (l0_3.length : Int))), (0), (by first | rfl | (simp; done) | (simp [*]; done)), (by first | rfl | (simp; done) | (simp [*]; done)), H', ⟨Nat.le_refl _⟩, ⟨h_ BK311⟩, ⟨b_ HB⟩⟩
 case round =>
  clear H'
  obtain ⟨x3_1, x4_1, rfl, rfl, HA, HK1, BK311, HB⟩ := hrel
  cases gk with
  | zero => exact absurd HA.out (by simp [quorumlaw6_Heavy.l0])
  | succ k1 =>
   have H := HA.out
   clear HA
   simp only [quorumlaw6_Heavy.l0] at H
   as_aux_lemma =>
    have HC6 := mk0 H
    clear H
    go_upto_region 3 with (fail)
    go_cut [20] (fun v20 wc => ∃ (kq : Nat) (x20_5 : Bool), v20 = .bool x20_5 ∧ Fc (quorumlaw6_Heavy.j1 kq x3_1 x4_1 x20_5 l0_0 a0_1 l0_2 l0_3 = some r) ∧ Fc (kq ≤ k1) ∧ Fc (wc.heap[gb311]? = some (.cells #[(.slice A0_0 l0_0.length c0_0), .int .i64 a0_1, (.slice A0_2 l0_2.length c0_2), (.slice A0_3 l0_3.length c0_3)] 28 (0, 0))) ∧ Fc (Below w.heap.size w wc))
    case first =>
     have H := HC6.out
     clear HC6
     by_cases c7 : x4_1 < (l0_3.length : Int)
     ·rw [if_pos c7] at H
      have c7b0 : decide (x4_1 < (l0_3.length : Int)) = true := decide_eq_true c7
      clear c7
      (first | rw [c7b0] | (simp only [i64_w, i32_w]; rw [c7b0]) | skip)
      have H' := mk0 H
      clear H
      obtain ⟨hcz8_0, hcz8_1, hcz8_2, hcz8_3, hfz8_0, hfz8_1, hfz8_2, hfz8_3⟩ := c4_ BK311
      go_wp2
      go_meet
      case rel => exact ⟨_, (decide (x3_1 < 1048576)), (by first | rfl | (simp; done) | (simp [*]; done)), H', ⟨by have := HK1.out; first | omega | exact Nat.le_refl _⟩, ⟨h_ BK311⟩, ⟨b_ HB⟩⟩
     ·rw [if_neg c7] at H
      have c7b0 : decide (x4_1 < (l0_3.length : Int)) = false := decide_eq_false c7
      clear c7
      (first | rw [c7b0] | (simp only [i64_w, i32_w]; rw [c7b0]) | skip)
      have H' := mk0 H
      clear H
      obtain ⟨hcz9_0, hcz9_1, hcz9_2, hcz9_3, hfz9_0, hfz9_1, hfz9_2, hfz9_3⟩ := c4_ BK311
      go_wp2
      go_meet
      case rel => exact ⟨_, (false), (by first | rfl | (simp; done) | (simp [*]; done)), H', ⟨by have := HK1.out; first | omega | exact Nat.le_refl _⟩, ⟨h_ BK311⟩, ⟨b_ HB⟩⟩
    case rest =>
     clear HC6
     try clear c7
     try clear c7b0
     try clear hcz8_0
     try clear hcz8_1
     try clear hcz8_2
     try clear hcz8_3
     try clear hcz9_0
     try clear hcz9_1
     try clear hcz9_2
     try clear hcz9_3
     try clear hfz8_0
     try clear hfz8_1
     try clear hfz8_2
     try clear hfz8_3
     try clear hfz9_0
     try clear hfz9_1
     try clear hfz9_2
     try clear hfz9_3
     obtain ⟨kq, x20_5, rfl, HA, HJ5, BK311, HB⟩ := hcut
     cases kq with
     | zero => exact absurd HA.out (by simp [quorumlaw6_Heavy.j1])
     | succ kj5 =>
      have H := HA.out
      clear HA
      simp only [quorumlaw6_Heavy.j1] at H
      as_aux_lemma =>
       by_cases c10 : x20_5 = true
       ·subst c10
        rw [if_pos rfl] at H
        by_cases c11 : 0 ≤ x4_1
        ·rw [if_pos c11] at H
         have c11b0 : decide (0 ≤ x4_1) = true := decide_eq_true c11
         clear c11
         by_cases c12 : x4_1 < (l0_3.length : Int)
         ·rw [if_pos c12] at H
          have c12b0 : decide (x4_1 < (l0_3.length : Int)) = true := decide_eq_true c12
          clear c12
          have H' := mk0 H
          clear H
          obtain ⟨hcz13_0, hcz13_1, hcz13_2, hcz13_3, hfz13_0, hfz13_1, hfz13_2, hfz13_3⟩ := c4_ BK311
          have p313 : 0 ≤ (x4_1 : Int) := of_decide_eq_true (by first | (with_reducible assumption) | assumption)
          have q313 : x4_1 < (l0_3.length : Int) := of_decide_eq_true (by first | (with_reducible assumption) | assumption)
          obtain ⟨ad313, e313, hx313_0, hx313_1, hx313_2⟩ := at_T70 HR0_3.out x4_1 p313 q313
          cases e313
          replace hx313_0 := (bc_ HB hx313_0 :)
          replace hx313_1 := (bc_ HB hx313_1 :)
          replace hx313_2 := (bc_ HB hx313_2 :)
          replace p313 := eq_true p313
          replace q313 := eq_true q313
          go_wp2
          go_roundg kj5
          case measure => have := HK1.out; have := HJ5.out; omega
          case rel => exact ⟨(wrap64 (x3_1 + (wrap64 ((((rd_T70 l0_3 x4_1).f2).size : Int) / 8)))), (wrap64 (x4_1 + 1)), (by first | rfl | (simp; done) | (simp [*]; done)), (by first | rfl | (simp; done) | (simp [*]; done)), H', ⟨by have := HK1.out; have := HJ5.out; omega⟩, ⟨h_ BK311⟩, ⟨b_ HB⟩⟩
         ·rw [if_neg c12] at H
          exact absurd H (by simp)
        ·rw [if_neg c11] at H
         exact absurd H (by simp)
       ·replace c10 := Bool.eq_false_iff.mpr c10
        subst c10
        rw [if_neg (show ¬ (false = true) by decide)] at H
        obtain rfl := Option.some.inj H
        go_wp2
        go_ret
        exact ⟨by first | rfl | (simp [errW_none, errW_some] <;> rfl) | (simp [*, errW_none, errW_some] <;> rfl), b_ HB⟩

end Go.Proofs.YtkmkppchhdkipaaDoor.PTr
