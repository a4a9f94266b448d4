-- PRINTED by print.py (a twelfth state) out of the translation. Not trusted: Lean checks it.
import Derived.Test.YtbaecdcfefmcgaaPVrsx0
namespace Go.Proofs.Ytbaecdcfefmcgaa.PVrs
open Go.RowKit Go.Proofs.YtbaecdcfefmcgaaW.PrintWords Go.Proofs.YtbaecdcfefmcgaaW.PrintLast Go.Proofs.YtbaecdcfefmcgaaW.PrintMore
attribute [local go_sem] max2_int min2_int max_two min_two max_three min_three max_four min_four   -- for this text's walks alone
set_option linter.unusedVariables false
set_option linter.unusedSimpArgs false

/-! ### quorumlaw0_TableWeight: function 69 -/
mutual
def quorumlaw0_TableWeight.l0 : Nat → Int → Int → List (S99) → Option (Int)
 | 0, _, _, _ => none
 | k + 1, x3, x4, x124000 => if x4 < (x124000.length : Int) then (quorumlaw0_TableWeight.j1 k x3 x4 (decide (x3 < 1048576)) x124000) else (quorumlaw0_TableWeight.j1 k x3 x4 false x124000)
def quorumlaw0_TableWeight.j1 : Nat → Int → Int → Bool → List (S99) → Option (Int)
 | 0, _, _, _, _ => none
 | k + 1, x3, x4, x17, x124000 => if x17 = true then (if 0 ≤ x4 then (if x4 < (x124000.length : Int) then (quorumlaw0_TableWeight.l1 k (wrap64 ((wrap64 (x3 + (((rd_T99 x124000 x4).f1).length : Int))) + (wrap64 ((((rd_T99 x124000 x4).f0).size : Int) / 8)))) x4 0 x124000) else (none)) else (none)) else (some x3)
def quorumlaw0_TableWeight.l1 : Nat → Int → Int → Int → List (S99) → Option (Int)
 | 0, _, _, _, _ => none
 | k + 1, x3, x4, x5, x124000 => if 0 ≤ x4 then (if x4 < (x124000.length : Int) then (if x5 < (((rd_T99 x124000 x4).f1).length : Int) then (quorumlaw0_TableWeight.j3 k x3 x4 x5 (decide (x3 < 1048576)) x124000) else (quorumlaw0_TableWeight.j3 k x3 x4 x5 false x124000)) else (none)) else (none)
def quorumlaw0_TableWeight.j3 : Nat → Int → Int → Int → Bool → List (S99) → Option (Int)
 | 0, _, _, _, _, _ => none
 | k + 1, x3, x4, x5, x50, x124000 => if x50 = true then (if 0 ≤ x4 then (if x4 < (x124000.length : Int) then (if 0 ≤ x5 then (if x5 < (((rd_T99 x124000 x4).f1).length : Int) then (quorumlaw0_TableWeight.l1 k (wrap64 (x3 + (wrap64 ((((rd_T72 ((rd_T99 x124000 x4).f1) x5).f1).size : Int) / 8)))) x4 (wrap64 (x5 + 1)) x124000) else (none)) else (none)) else (none)) else (none)) else (quorumlaw0_TableWeight.l0 k x3 (wrap64 (x4 + 1)) x124000)
end
def quorumlaw0_TableWeight.f (k : Nat) (l0_0 : List (S99)) : Option (Int) := quorumlaw0_TableWeight.l0 k (l0_0.length : Int) 0 l0_0
theorem quorumlaw0_TableWeight.mono_l : ∀ k, (∀ y0 y1 y2, LeO (quorumlaw0_TableWeight.l0 k y0 y1 y2) (quorumlaw0_TableWeight.l0 (k + 1) y0 y1 y2)) ∧ (∀ y0 y1 y2 y3, LeO (quorumlaw0_TableWeight.j1 k y0 y1 y2 y3) (quorumlaw0_TableWeight.j1 (k + 1) y0 y1 y2 y3)) ∧ (∀ y0 y1 y2 y3, LeO (quorumlaw0_TableWeight.l1 k y0 y1 y2 y3) (quorumlaw0_TableWeight.l1 (k + 1) y0 y1 y2 y3)) ∧ (∀ y0 y1 y2 y3 y4, LeO (quorumlaw0_TableWeight.j3 k y0 y1 y2 y3 y4) (quorumlaw0_TableWeight.j3 (k + 1) y0 y1 y2 y3 y4))
 | 0 => ⟨fun _ _ _ r h => by simp [quorumlaw0_TableWeight.l0] at h, fun _ _ _ _ r h => by simp [quorumlaw0_TableWeight.j1] at h, fun _ _ _ _ r h => by simp [quorumlaw0_TableWeight.l1] at h, fun _ _ _ _ _ r h => by simp [quorumlaw0_TableWeight.j3] at h⟩
 | k + 1 => by
  obtain ⟨ih0, ih1, ih2, ih3⟩ := quorumlaw0_TableWeight.mono_l k
  refine ⟨?_, ?_, ?_, ?_⟩
  ·intro y0 y1 y2
   unfold quorumlaw0_TableWeight.l0
   repeat' first
   | (with_reducible exact ih0 _ _ _)
   | (with_reducible exact ih1 _ _ _ _)
   | (with_reducible exact ih2 _ _ _ _)
   | (with_reducible exact ih3 _ _ _ _ _)
   | (with_reducible exact LeO.refl _)
   | (with_reducible exact LeO.none _)
   | (with_reducible refine LeO.ite ?_ ?_)
   | (with_reducible refine LeO.bind ?_ (fun _ => ?_))
   | exact ih0 _ _ _
   | exact ih1 _ _ _ _
   | exact ih2 _ _ _ _
   | exact ih3 _ _ _ _ _
   | exact LeO.none _
   | refine LeO.ite ?_ ?_
   | refine LeO.bind ?_ (fun _ => ?_)
  ·intro y0 y1 y2 y3
   unfold quorumlaw0_TableWeight.j1
   repeat' first
   | (with_reducible exact ih0 _ _ _)
   | (with_reducible exact ih1 _ _ _ _)
   | (with_reducible exact ih2 _ _ _ _)
   | (with_reducible exact ih3 _ _ _ _ _)
   | (with_reducible exact LeO.refl _)
   | (with_reducible exact LeO.none _)
   | (with_reducible refine LeO.ite ?_ ?_)
   | (with_reducible refine LeO.bind ?_ (fun _ => ?_))
   | exact ih0 _ _ _
   | exact ih1 _ _ _ _
   | exact ih2 _ _ _ _
   | exact ih3 _ _ _ _ _
   | exact LeO.none _
   | refine LeO.ite ?_ ?_
   | refine LeO.bind ?_ (fun _ => ?_)
  ·intro y0 y1 y2 y3
   unfold quorumlaw0_TableWeight.l1
   repeat' first
   | (with_reducible exact ih0 _ _ _)
   | (with_reducible exact ih1 _ _ _ _)
   | (with_reducible exact ih2 _ _ _ _)
   | (with_reducible exact ih3 _ _ _ _ _)
   | (with_reducible exact LeO.refl _)
   | (with_reducible exact LeO.none _)
   | (with_reducible refine LeO.ite ?_ ?_)
   | (with_reducible refine LeO.bind ?_ (fun _ => ?_))
   | exact ih0 _ _ _
   | exact ih1 _ _ _ _
   | exact ih2 _ _ _ _
   | exact ih3 _ _ _ _ _
   | exact LeO.none _
   | refine LeO.ite ?_ ?_
   | refine LeO.bind ?_ (fun _ => ?_)
  ·intro y0 y1 y2 y3 y4
   unfold quorumlaw0_TableWeight.j3
   repeat' first
   | (with_reducible exact ih0 _ _ _)
   | (with_reducible exact ih1 _ _ _ _)
   | (with_reducible exact ih2 _ _ _ _)
   | (with_reducible exact ih3 _ _ _ _ _)
   | (with_reducible exact LeO.refl _)
   | (with_reducible exact LeO.none _)
   | (with_reducible refine LeO.ite ?_ ?_)
   | (with_reducible refine LeO.bind ?_ (fun _ => ?_))
   | exact ih0 _ _ _
   | exact ih1 _ _ _ _
   | exact ih2 _ _ _ _
   | exact ih3 _ _ _ _ _
   | exact LeO.none _
   | refine LeO.ite ?_ ?_
   | refine LeO.bind ?_ (fun _ => ?_)
theorem quorumlaw0_TableWeight.mono : ∀ a0 k, LeO (quorumlaw0_TableWeight.f k a0) (quorumlaw0_TableWeight.f (k + 1) a0) := by
 intro a0 k
 obtain ⟨ih0, ih1, ih2, ih3⟩ := quorumlaw0_TableWeight.mono_l k
 unfold quorumlaw0_TableWeight.f
 repeat' first
   | (with_reducible exact ih0 _ _ _)
   | (with_reducible exact ih1 _ _ _ _)
   | (with_reducible exact ih2 _ _ _ _)
   | (with_reducible exact ih3 _ _ _ _ _)
   | (with_reducible exact LeO.refl _)
   | (with_reducible exact LeO.none _)
   | (with_reducible refine LeO.ite ?_ ?_)
   | (with_reducible refine LeO.bind ?_ (fun _ => ?_))
   | exact ih0 _ _ _
   | exact ih1 _ _ _ _
   | exact ih2 _ _ _ _
   | exact ih3 _ _ _ _ _
   | exact LeO.none _
   | refine LeO.ite ?_ ?_
   | refine LeO.bind ?_ (fun _ => ?_)
set_option maxHeartbeats 8000000 in
set_option maxRecDepth 100000 in
theorem quorumlaw0_TableWeight.calls (k : Nat) (A0_0 : Option Addr) (c0_0 : Nat) (l0_0 : List (S99)) (r : Int) (w : World) (hr0_0 : Kd.C k99 w A0_0 l0_0.length l0_0) (hc0_0 : l0_0.length ≤ c0_0) (h : quorumlaw0_TableWeight.f k l0_0 = some r) :
  Calls Try.prog 69 #[.agg #[.slice A0_0 l0_0.length c0_0]] w fun e w' => e = .returned (.int .i64 r) ∧ Below w.heap.size w w' := by
 have hu47 := Try.underlying47
 have HR0_0 := mk0 hr0_0
 have HC0_0 := mk0 hc0_0
 clear hr0_0 hc0_0
 have HB := mk0 (Below.refl w.heap.size w)
 have H : (quorumlaw0_TableWeight.l0 k (l0_0.length : Int) 0 l0_0) = some r := h
 clear h
 have H' := mk0 H
 clear H
 go_enter Try.func69, Try.ntmps69
 go_wp2_with (first | ((with_reducible refine gate_dst (N := 1) rfl ?_); refine bx_ (N := 1) (cs := #[.slice A0_0 l0_0.length c0_0]) (t := 47) (h := ?_); intro gb123 hg w2 hbox hb; have n2_ := mk0 (gz_ HB hg); have n3_ := mk0 (gz_ HB hg); replace HB := mk0 (bt_ (b_ HB) hb); have BK123 := mk0 (hbox); have GW123 := n2_; have GE123 := n3_; clear n2_ n3_ hb hbox hg; obtain ⟨hcz3_0, hfz3_0⟩ := c1_ BK123))
 repeat (go_quiet (first | ((with_reducible refine gate_dst (N := 1) rfl ?_); refine bx_ (N := 1) (cs := #[.slice A0_0 l0_0.length c0_0]) (t := 47) (h := ?_); intro gb123 hg w2 hbox hb; have n2_ := mk0 (gz_ HB hg); have n3_ := mk0 (gz_ HB hg); replace HB := mk0 (bt_ (b_ HB) hb); have BK123 := mk0 (hbox); have GW123 := n2_; have GE123 := n3_; clear n2_ n3_ hb hbox hg; obtain ⟨hcz3_0, hfz3_0⟩ := c1_ BK123)); try go_wp2_with (first | ((with_reducible refine gate_dst (N := 1) rfl ?_); refine bx_ (N := 1) (cs := #[.slice A0_0 l0_0.length c0_0]) (t := 47) (h := ?_); intro gb123 hg w2 hbox hb; have n2_ := mk0 (gz_ HB hg); have n3_ := mk0 (gz_ HB hg); replace HB := mk0 (bt_ (b_ HB) hb); have BK123 := mk0 (hbox); have GW123 := n2_; have GE123 := n3_; clear n2_ n3_ hb hbox hg; obtain ⟨hcz3_0, hfz3_0⟩ := c1_ BK123)))
 go_loopg [3, 4] k (fun kq v3 v4 w' => ∃ (x3_1 : Int) (x4_1 : Int), v3 = .int .i64 x3_1 ∧ v4 = .int .i64 x4_1 ∧ Fc (quorumlaw0_TableWeight.l0 kq x3_1 x4_1 l0_0 = some r) ∧ Fc (kq ≤ k) ∧ Fc (w'.heap[gb123]? = some (.cells #[(.slice A0_0 l0_0.length c0_0)] 47 (0, 0))) ∧ Fc (Below w.heap.size w w'))
 case atStart => exact ⟨((l0_0.length : Int)), (0), (by first | rfl | (simp; done) | (simp [*]; done)), (by first | rfl | (simp; done) | (simp [*]; done)), H', ⟨Nat.le_refl _⟩, ⟨h_ BK123⟩, ⟨b_ HB⟩⟩
 case round =>
  clear H'
  try clear hcz3_0
  try clear hfz3_0
  obtain ⟨x3_1, x4_1, rfl, rfl, HA, HK1, BK123, HB⟩ := hrel
  cases gk with
  | zero => exact absurd HA.out (by simp [quorumlaw0_TableWeight.l0])
  | succ k1 =>
   have H := HA.out
   clear HA
   simp only [quorumlaw0_TableWeight.l0] at H
   as_aux_lemma =>
    have HC4 := mk0 H
    clear H
    go_upto_region 3 with (fail)
    repeat (go_quiet (fail); go_upto_region 3 with (fail))
    go_cut [17] (fun v17 wc => ∃ (kq : Nat) (x17_3 : Bool), v17 = .bool x17_3 ∧ Fc (quorumlaw0_TableWeight.j1 kq x3_1 x4_1 x17_3 l0_0 = some r) ∧ Fc (kq ≤ k1) ∧ Fc (wc.heap[gb123]? = some (.cells #[(.slice A0_0 l0_0.length c0_0)] 47 (0, 0))) ∧ Fc (Below w.heap.size w wc))
    case first =>
     have H := HC4.out
     clear HC4
     by_cases c5 : x4_1 < (l0_0.length : Int)
     ·rw [if_pos c5] at H
      have c5b0 : decide (x4_1 < (l0_0.length : Int)) = true := decide_eq_true c5
      clear c5
      (first | rw [c5b0] | (simp only [i64_w, i32_w]; rw [c5b0]) | skip)
      have H' := mk0 H
      clear H
      obtain ⟨hcz6_0, hfz6_0⟩ := c1_ BK123
      go_wp2
      repeat (go_quiet (fail); try go_wp2)
      go_meet
      case rel => exact ⟨_, (decide (x3_1 < 1048576)), (by first | rfl | (simp; done) | (simp [*]; done)), H', ⟨by have := HK1.out; first | omega | exact Nat.le_refl _⟩, ⟨h_ BK123⟩, ⟨b_ HB⟩⟩
     ·rw [if_neg c5] at H
      have c5b0 : decide (x4_1 < (l0_0.length : Int)) = false := decide_eq_false c5
      clear c5
      (first | rw [c5b0] | (simp only [i64_w, i32_w]; rw [c5b0]) | skip)
      have H' := mk0 H
      clear H
      obtain ⟨hcz7_0, hfz7_0⟩ := c1_ BK123
      go_wp2
      repeat (go_quiet (fail); try go_wp2)
      go_meet
      case rel => exact ⟨_, (false), (by first | rfl | (simp; done) | (simp [*]; done)), H', ⟨by have := HK1.out; first | omega | exact Nat.le_refl _⟩, ⟨h_ BK123⟩, ⟨b_ HB⟩⟩
    case rest =>
     clear HC4
     try clear c5
     try clear c5b0
     try clear hcz3_0
     try clear hcz6_0
     try clear hcz7_0
     try clear hfz3_0
     try clear hfz6_0
     try clear hfz7_0
     obtain ⟨kq, x17_3, rfl, HA, HJ3, BK123, HB⟩ := hcut
     cases kq with
     | zero => exact absurd HA.out (by simp [quorumlaw0_TableWeight.j1])
     | succ kj3 =>
      have H := HA.out
      clear HA
      simp only [quorumlaw0_TableWeight.j1] at H
      as_aux_lemma =>
       by_cases c8 : x17_3 = true
       ·subst c8
        rw [if_pos rfl] at H
        by_cases c9 : 0 ≤ x4_1
        ·rw [if_pos c9] at H
         have c9b0 : decide (0 ≤ x4_1) = true := decide_eq_true c9
         clear c9
         by_cases c10 : x4_1 < (l0_0.length : Int)
         ·rw [if_pos c10] at H
          have c10b0 : decide (x4_1 < (l0_0.length : Int)) = true := decide_eq_true c10
          clear c10
          have H' := mk0 H
          clear H
          obtain ⟨hcz11_0, hfz11_0⟩ := c1_ BK123
          have p124 : 0 ≤ (x4_1 : Int) := of_decide_eq_true (by first | (with_reducible assumption) | assumption)
          have q124 : x4_1 < (l0_0.length : Int) := of_decide_eq_true (by first | (with_reducible assumption) | assumption)
          obtain ⟨ad124, A124_1, c124_1, e124, hx124_0, hx124_1, hl124_1, hi124_1⟩ := at_T99 HR0_0.out x4_1 p124 q124
          cases e124
          replace hx124_0 := (bc_ HB hx124_0 :)
          replace hx124_1 := (bc_ HB hx124_1 :)
          have HR124_1 := mk0 hi124_1
          have HC124_1 := mk0 hl124_1
          clear hi124_1 hl124_1
          replace p124 := eq_true p124
          replace q124 := eq_true q124
          have p125 : 0 ≤ (x4_1 : Int) := of_decide_eq_true (by first | (with_reducible assumption) | assumption)
          have q125 : x4_1 < (l0_0.length : Int) := of_decide_eq_true (by first | (with_reducible assumption) | assumption)
          obtain ⟨ad125, A125_1, c125_1, e125, hx125_0, hx125_1, hl125_1, hi125_1⟩ := at_T99 HR0_0.out x4_1 p125 q125
          obtain rfl : ad124 = ad125 := (by injection e125)
          replace hx125_0 := (bc_ HB hx125_0 :)
          replace hx125_1 := (bc_ HB hx125_1 :)
          have HR125_1 := mk0 hi125_1
          have HC125_1 := mk0 hl125_1
          clear hi125_1 hl125_1
          replace p125 := eq_true p125
          replace q125 := eq_true q125
          have ea_ := Option.some.inj (hx124_1.symm.trans hx125_1)
          injection ea_ with ea_ en_ ec_
          subst ea_
          subst ec_
          clear en_
          go_wp2
          repeat (go_quiet (fail); try go_wp2)
          go_loopg [3, 5] kj3 (fun kq v3 v5 w' => ∃ (x3_3 : Int) (x5_3 : Int), v3 = .int .i64 x3_3 ∧ v5 = .int .i64 x5_3 ∧ Fc (quorumlaw0_TableWeight.l1 kq x3_3 x4_1 x5_3 l0_0 = some r) ∧ Fc (kq ≤ kj3) ∧ Fc (w'.heap[gb123]? = some (.cells #[(.slice (some ad124) l0_0.length c0_0)] 47 (0, 0))) ∧ Fc (Below w.heap.size w w'))
          case atStart => exact ⟨(wrap64 ((wrap64 (x3_1 + (((rd_T99 l0_0 x4_1).f1).length : Int))) + (wrap64 ((((rd_T99 l0_0 x4_1).f0).size : Int) / 8)))), (0), (by first | rfl | (simp; done) | (simp [*]; done)), (by first | rfl | (simp; done) | (simp [*]; done)), H', ⟨Nat.le_refl _⟩, ⟨h_ BK123⟩, ⟨b_ HB⟩⟩
          case round =>
           clear H'
           try clear c5
           try clear c5b0
           try clear c8
           try clear c9
           try clear c9b0
           try clear c10
           try clear c10b0
           try clear hcz11_0
           try clear hcz3_0
           try clear hcz6_0
           try clear hcz7_0
           try clear hfz11_0
           try clear hfz3_0
           try clear hfz6_0
           try clear hfz7_0
           try clear hx124_0
           try clear hx124_1
           try clear hx125_0
           try clear hx125_1
           try clear p124
           try clear p125
           try clear q124
           try clear q125
           obtain ⟨x3_3, x5_3, rfl, rfl, HA, HK3, BK123, HB⟩ := hrel
           cases gk with
           | zero => exact absurd HA.out (by simp [quorumlaw0_TableWeight.l1])
           | succ k3 =>
            have H := HA.out
            clear HA
            simp only [quorumlaw0_TableWeight.l1] at H
            as_aux_lemma =>
             have HC12 := mk0 H
             clear H
             go_upto_region 7 with (fail)
             repeat (go_quiet (fail); go_upto_region 7 with (fail))
             go_cut [50] (fun v50 wc => ∃ (kq : Nat) (x50_11 : Bool), v50 = .bool x50_11 ∧ Fc (quorumlaw0_TableWeight.j3 kq x3_3 x4_1 x5_3 x50_11 l0_0 = some r) ∧ Fc (kq ≤ k3) ∧ Fc (wc.heap[gb123]? = some (.cells #[(.slice (some ad124) l0_0.length c0_0)] 47 (0, 0))) ∧ Fc (Below w.heap.size w wc))
             case first =>
              have H := HC12.out
              clear HC12
              by_cases c13 : 0 ≤ x4_1
              ·rw [if_pos c13] at H
               have c13b0 : decide (0 ≤ x4_1) = true := decide_eq_true c13
               clear c13
               (first | rw [c13b0] | (simp only [i64_w, i32_w]; rw [c13b0]) | skip)
               by_cases c14 : x4_1 < (l0_0.length : Int)
               ·rw [if_pos c14] at H
                have c14b0 : decide (x4_1 < (l0_0.length : Int)) = true := decide_eq_true c14
                clear c14
                by_cases c15 : x5_3 < (((rd_T99 l0_0 x4_1).f1).length : Int)
                ·rw [if_pos c15] at H
                 have c15b0 : decide (x5_3 < (((rd_T99 l0_0 x4_1).f1).length : Int)) = true := decide_eq_true c15
                 clear c15
                 have H' := mk0 H
                 clear H
                 obtain ⟨hcz16_0, hfz16_0⟩ := c1_ BK123
                 have p126 : 0 ≤ (x4_1 : Int) := of_decide_eq_true (by first | (with_reducible assumption) | assumption)
                 have q126 : x4_1 < (l0_0.length : Int) := of_decide_eq_true (by first | (with_reducible assumption) | assumption)
                 obtain ⟨ad126, A126_1, c126_1, e126, hx126_0, hx126_1, hl126_1, hi126_1⟩ := at_T99 HR0_0.out x4_1 p126 q126
                 obtain rfl : ad124 = ad126 := (by injection e126)
                 replace hx126_0 := (bc_ HB hx126_0 :)
                 replace hx126_1 := (bc_ HB hx126_1 :)
                 have HR126_1 := mk0 hi126_1
                 have HC126_1 := mk0 hl126_1
                 clear hi126_1 hl126_1
                 replace p126 := eq_true p126
                 replace q126 := eq_true q126
                 go_wp2
                 repeat (go_quiet (fail); try go_wp2)
                 go_meet
                 case rel => exact ⟨_, (decide (x3_3 < 1048576)), (by first | rfl | (simp; done) | (simp [*]; done)), H', ⟨by have := HK1.out; have := HJ3.out; have := HK3.out; first | omega | exact Nat.le_refl _⟩, ⟨h_ BK123⟩, ⟨b_ HB⟩⟩
                ·rw [if_neg c15] at H
                 have c15b0 : decide (x5_3 < (((rd_T99 l0_0 x4_1).f1).length : Int)) = false := decide_eq_false c15
                 clear c15
                 have H' := mk0 H
                 clear H
                 obtain ⟨hcz17_0, hfz17_0⟩ := c1_ BK123
                 have p126 : 0 ≤ (x4_1 : Int) := of_decide_eq_true (by first | (with_reducible assumption) | assumption)
                 have q126 : x4_1 < (l0_0.length : Int) := of_decide_eq_true (by first | (with_reducible assumption) | assumption)
                 obtain ⟨ad126, A126_1, c126_1, e126, hx126_0, hx126_1, hl126_1, hi126_1⟩ := at_T99 HR0_0.out x4_1 p126 q126
                 obtain rfl : ad124 = ad126 := (by injection e126)
                 replace hx126_0 := (bc_ HB hx126_0 :)
                 replace hx126_1 := (bc_ HB hx126_1 :)
                 have HR126_1 := mk0 hi126_1
                 have HC126_1 := mk0 hl126_1
                 clear hi126_1 hl126_1
                 replace p126 := eq_true p126
                 replace q126 := eq_true q126
                 go_wp2
                 repeat (go_quiet (fail); try go_wp2)
                 go_meet
                 case rel => exact ⟨_, (false), (by first | rfl | (simp; done) | (simp [*]; done)), H', ⟨by have := HK1.out; have := HJ3.out; have := HK3.out; first | omega | exact Nat.le_refl _⟩, ⟨h_ BK123⟩, ⟨b_ HB⟩⟩
               ·rw [if_neg c14] at H
                exact absurd H (by simp)
              ·rw [if_neg c13] at H
               exact absurd H (by simp)
             case rest =>
              clear HC12
              try clear c5
              try clear c5b0
              try clear c8
              try clear c9
              try clear c9b0
              try clear c10
              try clear c10b0
              try clear c13
              try clear c13b0
              try clear c14
              try clear c14b0
              try clear c15
              try clear c15b0
              try clear hcz11_0
              try clear hcz16_0
              try clear hcz17_0
              try clear hcz3_0
              try clear hcz6_0
              try clear hcz7_0
              try clear hfz11_0
              try clear hfz16_0
              try clear hfz17_0
              try clear hfz3_0
              try clear hfz6_0
              try clear hfz7_0
              try clear hx124_0
              try clear hx124_1
              try clear hx125_0
              try clear hx125_1
              try clear hx126_0
              try clear hx126_1
              try clear p124
              try clear p125
              try clear p126
              try clear q124
              try clear q125
              try clear q126
              obtain ⟨kq, x50_11, rfl, HA, HJ11, BK123, HB⟩ := hcut
              cases kq with
              | zero => exact absurd HA.out (by simp [quorumlaw0_TableWeight.j3])
              | succ kj11 =>
               have H := HA.out
               clear HA
               simp only [quorumlaw0_TableWeight.j3] at H
               as_aux_lemma =>
                by_cases c18 : x50_11 = true
                ·subst c18
                 rw [if_pos rfl] at H
                 by_cases c19 : 0 ≤ x4_1
                 ·rw [if_pos c19] at H
                  have c19b0 : decide (0 ≤ x4_1) = true := decide_eq_true c19
                  clear c19
                  by_cases c20 : x4_1 < (l0_0.length : Int)
                  ·rw [if_pos c20] at H
                   have c20b0 : decide (x4_1 < (l0_0.length : Int)) = true := decide_eq_true c20
                   clear c20
                   by_cases c21 : 0 ≤ x5_3
                   ·rw [if_pos c21] at H
                    have c21b0 : decide (0 ≤ x5_3) = true := decide_eq_true c21
                    clear c21
                    by_cases c22 : x5_3 < (((rd_T99 l0_0 x4_1).f1).length : Int)
                    ·rw [if_pos c22] at H
                     have c22b0 : decide (x5_3 < (((rd_T99 l0_0 x4_1).f1).length : Int)) = true := decide_eq_true c22
                     clear c22
                     have H' := mk0 H
                     clear H
                     obtain ⟨hcz23_0, hfz23_0⟩ := c1_ BK123
                     have p127 : 0 ≤ (x4_1 : Int) := of_decide_eq_true (by first | (with_reducible assumption) | assumption)
                     have q127 : x4_1 < (l0_0.length : Int) := of_decide_eq_true (by first | (with_reducible assumption) | assumption)
                     obtain ⟨ad127, A127_1, c127_1, e127, hx127_0, hx127_1, hl127_1, hi127_1⟩ := at_T99 HR0_0.out x4_1 p127 q127
                     obtain rfl : ad124 = ad127 := (by injection e127)
                     replace hx127_0 := (bc_ HB hx127_0 :)
                     replace hx127_1 := (bc_ HB hx127_1 :)
                     have HR127_1 := mk0 hi127_1
                     have HC127_1 := mk0 hl127_1
                     clear hi127_1 hl127_1
                     replace p127 := eq_true p127
                     replace q127 := eq_true q127
                     have p128 : 0 ≤ (x5_3 : Int) := of_decide_eq_true (by first | (with_reducible assumption) | assumption)
                     have q128 : x5_3 < (((rd_T99 l0_0 x4_1).f1).length : Int) := of_decide_eq_true (by first | (with_reducible assumption) | assumption)
                     obtain ⟨ad128, e128, hx128_0, hx128_1, hx128_2⟩ := at_T72 HR127_1.out x5_3 p128 q128
                     cases e128
                     replace hx128_0 := (bc_ HB hx128_0 :)
                     replace hx128_1 := (bc_ HB hx128_1 :)
                     replace hx128_2 := (bc_ HB hx128_2 :)
                     replace p128 := eq_true p128
                     replace q128 := eq_true q128
                     go_wp2
                     repeat (go_quiet (fail); try go_wp2)
                     go_roundg kj11
                     case measure => have := HK1.out; have := HJ3.out; have := HK3.out; have := HJ11.out; omega
                     case rel => exact ⟨(wrap64 (x3_3 + (wrap64 ((((rd_T72 ((rd_T99 l0_0 x4_1).f1) x5_3).f1).size : Int) / 8)))), (wrap64 (x5_3 + 1)), (by first | rfl | (simp; done) | (simp [*]; done)), (by first | rfl | (simp; done) | (simp [*]; done)), H', ⟨by have := HK1.out; have := HJ3.out; have := HK3.out; have := HJ11.out; omega⟩, ⟨h_ BK123⟩, ⟨b_ HB⟩⟩
                    ·rw [if_neg c22] at H
                     exact absurd H (by simp)
                   ·rw [if_neg c21] at H
                    exact absurd H (by simp)
                  ·rw [if_neg c20] at H
                   exact absurd H (by simp)
                 ·rw [if_neg c19] at H
                  exact absurd H (by simp)
                ·replace c18 := Bool.eq_false_iff.mpr c18
                 subst c18
                 rw [if_neg (show ¬ (false = true) by decide)] at H
                 have H' := mk0 H
                 clear H
                 go_wp2
                 repeat (go_quiet (fail); try go_wp2)
                 go_roundg kj11
                 case measure => have := HK1.out; have := HJ3.out; have := HK3.out; have := HJ11.out; omega
                 case rel => exact ⟨(x3_3), (wrap64 (x4_1 + 1)), (by first | rfl | (simp; done) | (simp [*]; done)), (by first | rfl | (simp; done) | (simp [*]; done)), H', ⟨by have := HK1.out; have := HJ3.out; have := HK3.out; have := HJ11.out; omega⟩, ⟨h_ BK123⟩, ⟨b_ HB⟩⟩
         ·rw [if_neg c10] at H
          exact absurd H (by simp)
        ·rw [if_neg c9] at H
         exact absurd H (by simp)
       ·replace c8 := Bool.eq_false_iff.mpr c8
        subst c8
        rw [if_neg (show ¬ (false = true) by decide)] at H
        obtain rfl := Option.some.inj H
        go_wp2
        repeat (go_quiet (fail); try go_wp2)
        go_ret
        exact ⟨by first | rfl | (simp [errW_none, errW_some] <;> rfl) | (simp [*, errW_none, errW_some] <;> rfl), b_ HB⟩

/-! ### quorumlaw0_TablesWeight: function 34 -/
mutual
def quorumlaw0_TablesWeight.l0 : Nat → List (S47) → Int → Int → Option (Int)
 | 0, _, _, _ => none
 | k + 1, x0, x3, x4 => if x4 < (x0.length : Int) then (quorumlaw0_TablesWeight.j1 k x0 x3 x4 (decide (x3 < 1048576))) else (quorumlaw0_TablesWeight.j1 k x0 x3 x4 false)
def quorumlaw0_TablesWeight.j1 : Nat → List (S47) → Int → Int → Bool → Option (Int)
 | 0, _, _, _, _ => none
 | k + 1, x0, x3, x4, x14 => if x14 = true then (if 0 ≤ x4 then (if x4 < (x0.length : Int) then ((quorumlaw0_TableWeight.f k ((rd_T47 x0 x4).f0)).bind fun t130 => (quorumlaw0_TablesWeight.l0 k x0 (wrap64 (x3 + t130)) (wrap64 (x4 + 1)))) else (none)) else (none)) else (some x3)
end
def quorumlaw0_TablesWeight.f (k : Nat) (l0 : List (S47)) : Option (Int) := quorumlaw0_TablesWeight.l0 k l0 (l0.length : Int) 0
theorem quorumlaw0_TablesWeight.mono_l : ∀ k, (∀ y0 y1 y2, LeO (quorumlaw0_TablesWeight.l0 k y0 y1 y2) (quorumlaw0_TablesWeight.l0 (k + 1) y0 y1 y2)) ∧ (∀ y0 y1 y2 y3, LeO (quorumlaw0_TablesWeight.j1 k y0 y1 y2 y3) (quorumlaw0_TablesWeight.j1 (k + 1) y0 y1 y2 y3))
 | 0 => ⟨fun _ _ _ r h => by simp [quorumlaw0_TablesWeight.l0] at h, fun _ _ _ _ r h => by simp [quorumlaw0_TablesWeight.j1] at h⟩
 | k + 1 => by
  obtain ⟨ih0, ih1⟩ := quorumlaw0_TablesWeight.mono_l k
  refine ⟨?_, ?_⟩
  ·intro y0 y1 y2
   unfold quorumlaw0_TablesWeight.l0
   repeat' first
   | (with_reducible exact ih0 _ _ _)
   | (with_reducible exact ih1 _ _ _ _)
   | (with_reducible exact quorumlaw0_TableWeight.mono _ _)
   | (with_reducible exact LeO.refl _)
   | (with_reducible exact LeO.none _)
   | (with_reducible refine LeO.ite ?_ ?_)
   | (with_reducible refine LeO.bind ?_ (fun _ => ?_))
   | exact ih0 _ _ _
   | exact ih1 _ _ _ _
   | exact quorumlaw0_TableWeight.mono _ _
   | exact LeO.none _
   | refine LeO.ite ?_ ?_
   | refine LeO.bind ?_ (fun _ => ?_)
  ·intro y0 y1 y2 y3
   unfold quorumlaw0_TablesWeight.j1
   repeat' first
   | (with_reducible exact ih0 _ _ _)
   | (with_reducible exact ih1 _ _ _ _)
   | (with_reducible exact quorumlaw0_TableWeight.mono _ _)
   | (with_reducible exact LeO.refl _)
   | (with_reducible exact LeO.none _)
   | (with_reducible refine LeO.ite ?_ ?_)
   | (with_reducible refine LeO.bind ?_ (fun _ => ?_))
   | exact ih0 _ _ _
   | exact ih1 _ _ _ _
   | exact quorumlaw0_TableWeight.mono _ _
   | exact LeO.none _
   | refine LeO.ite ?_ ?_
   | refine LeO.bind ?_ (fun _ => ?_)
theorem quorumlaw0_TablesWeight.mono : ∀ a0 k, LeO (quorumlaw0_TablesWeight.f k a0) (quorumlaw0_TablesWeight.f (k + 1) a0) := by
 intro a0 k
 obtain ⟨ih0, ih1⟩ := quorumlaw0_TablesWeight.mono_l k
 unfold quorumlaw0_TablesWeight.f
 repeat' first
   | (with_reducible exact ih0 _ _ _)
   | (with_reducible exact ih1 _ _ _ _)
   | (with_reducible exact quorumlaw0_TableWeight.mono _ _)
   | (with_reducible exact LeO.refl _)
   | (with_reducible exact LeO.none _)
   | (with_reducible refine LeO.ite ?_ ?_)
   | (with_reducible refine LeO.bind ?_ (fun _ => ?_))
   | exact ih0 _ _ _
   | exact ih1 _ _ _ _
   | exact quorumlaw0_TableWeight.mono _ _
   | exact LeO.none _
   | refine LeO.ite ?_ ?_
   | refine LeO.bind ?_ (fun _ => ?_)
set_option maxHeartbeats 8000000 in
set_option maxRecDepth 100000 in
theorem quorumlaw0_TablesWeight.calls (k : Nat) (A0 : Option Addr) (c0 : Nat) (l0 : List (S47)) (r : Int) (w : World) (hr0 : Kd.C k47 w A0 l0.length l0) (hc0 : l0.length ≤ c0) (h : quorumlaw0_TablesWeight.f k l0 = some r) :
  Calls Try.prog 34 #[.slice A0 l0.length c0] w fun e w' => e = .returned (.int .i64 r) ∧ Below w.heap.size w w' := by
 have hu47 := Try.underlying47
 have HR0 := mk0 hr0
 have HC0 := mk0 hc0
 clear hr0 hc0
 have HB := mk0 (Below.refl w.heap.size w)
 have H : (quorumlaw0_TablesWeight.l0 k l0 (l0.length : Int) 0) = some r := h
 clear h
 have H' := mk0 H
 clear H
 go_enter Try.func34, Try.ntmps34
 go_wp2
 go_loopg [3, 4] k (fun kq v3 v4 w' => ∃ (x3_1 : Int) (x4_1 : Int), v3 = .int .i64 x3_1 ∧ v4 = .int .i64 x4_1 ∧ Fc (quorumlaw0_TablesWeight.l0 kq l0 x3_1 x4_1 = some r) ∧ Fc (kq ≤ k) ∧ Fc (Below w.heap.size w w'))
 case atStart => exact ⟨((l0.length : Int)), (0), (by first | rfl | (simp; done) | (simp [*]; done)), (by first | rfl | (simp; done) | (simp [*]; done)), H', ⟨Nat.le_refl _⟩, ⟨b_ HB⟩⟩
 case round =>
  clear H'
  obtain ⟨x3_1, x4_1, rfl, rfl, HA, HK1, HB⟩ := hrel
  cases gk with
  | zero => exact absurd HA.out (by simp [quorumlaw0_TablesWeight.l0])
  | succ k1 =>
   have H := HA.out
   clear HA
   simp only [quorumlaw0_TablesWeight.l0] at H
   as_aux_lemma =>
    have HC2 := mk0 H
    clear H
    go_upto_region 3 with (fail)
    go_cut [14] (fun v14 wc => ∃ (kq : Nat) (x14_1 : Bool), v14 = .bool x14_1 ∧ Fc (quorumlaw0_TablesWeight.j1 kq l0 x3_1 x4_1 x14_1 = some r) ∧ Fc (kq ≤ k1) ∧ Fc (Below w.heap.size w wc))
    case first =>
     have H := HC2.out
     clear HC2
     by_cases c3 : x4_1 < (l0.length : Int)
     ·rw [if_pos c3] at H
      have c3b0 : decide (x4_1 < (l0.length : Int)) = true := decide_eq_true c3
      clear c3
      (first | rw [c3b0] | (simp only [i64_w, i32_w]; rw [c3b0]) | skip)
      have H' := mk0 H
      clear H
      go_wp2
      go_meet
      case rel => exact ⟨_, (decide (x3_1 < 1048576)), (by first | rfl | (simp; done) | (simp [*]; done)), H', ⟨by have := HK1.out; first | omega | exact Nat.le_refl _⟩, ⟨b_ HB⟩⟩
     ·rw [if_neg c3] at H
      have c3b0 : decide (x4_1 < (l0.length : Int)) = false := decide_eq_false c3
      clear c3
      (first | rw [c3b0] | (simp only [i64_w, i32_w]; rw [c3b0]) | skip)
      have H' := mk0 H
      clear H
      go_wp2
      go_meet
      case rel => exact ⟨_, (false), (by first | rfl | (simp; done) | (simp [*]; done)), H', ⟨by have := HK1.out; first | omega | exact Nat.le_refl _⟩, ⟨b_ HB⟩⟩
    case rest =>
     clear HC2
     try clear c3
     try clear c3b0
     obtain ⟨kq, x14_1, rfl, HA, HJ1, HB⟩ := hcut
     cases kq with
     | zero => exact absurd HA.out (by simp [quorumlaw0_TablesWeight.j1])
     | succ kj1 =>
      have H := HA.out
      clear HA
      simp only [quorumlaw0_TablesWeight.j1] at H
      as_aux_lemma =>
       by_cases c4 : x14_1 = true
       ·subst c4
        rw [if_pos rfl] at H
        by_cases c5 : 0 ≤ x4_1
        ·rw [if_pos c5] at H
         have c5b0 : decide (0 ≤ x4_1) = true := decide_eq_true c5
         clear c5
         by_cases c6 : x4_1 < (l0.length : Int)
         ·rw [if_pos c6] at H
          have c6b0 : decide (x4_1 < (l0.length : Int)) = true := decide_eq_true c6
          clear c6
          replace H := Option.bind_eq_some_iff.mp H
          obtain ⟨t130, A70, H⟩ := H
          try dsimp only at H
          have A7 := mk0 A70
          clear A70
          have H' := mk0 H
          clear H
          have p129 : 0 ≤ (x4_1 : Int) := of_decide_eq_true (by first | (with_reducible assumption) | assumption)
          have q129 : x4_1 < (l0.length : Int) := of_decide_eq_true (by first | (with_reducible assumption) | assumption)
          obtain ⟨ad129, A129_0, c129_0, e129, hx129_0, hl129_0, hi129_0⟩ := at_T47 HR0.out x4_1 p129 q129
          cases e129
          replace hx129_0 := (bc_ HB hx129_0 :)
          have HR129_0 := mk0 hi129_0
          have HC129_0 := mk0 hl129_0
          clear hi129_0 hl129_0
          replace p129 := eq_true p129
          replace q129 := eq_true q129
          go_wp2_with (first | ((with_reducible refine gate_callee (f := 69) rfl ?_); refine gL_ (some 22) Try.func69 #[.agg #[.slice A129_0 ((rd_T47 l0 x4_1).f0).length c129_0]] (h := ?_); (with_reducible refine (quorumlaw0_TableWeight.calls kj1 _ _ ((rd_T47 l0 x4_1).f0) t130 _ ?side1 ?side2 A7.out).mono ?_); (case side1 => exact cb_ HR129_0 HB); (case side2 => exact HC129_0.out); rintro e w8 ⟨rfl, hb⟩; refine ⟨_, rfl, ?_⟩; replace HB := mk0 (bt_ (b_ HB) hb); (try clear hb)))
          go_roundg kj1
          case measure => have := HK1.out; have := HJ1.out; omega
          case rel => exact ⟨(wrap64 (x3_1 + t130)), (wrap64 (x4_1 + 1)), (by first | rfl | (simp; done) | (simp [*]; done)), (by first | rfl | (simp; done) | (simp [*]; done)), H', ⟨by have := HK1.out; have := HJ1.out; omega⟩, ⟨b_ HB⟩⟩
         ·rw [if_neg c6] at H
          exact absurd H (by simp)
        ·rw [if_neg c5] at H
         exact absurd H (by simp)
       ·replace c4 := Bool.eq_false_iff.mpr c4
        subst c4
        rw [if_neg (show ¬ (false = true) by decide)] at H
        obtain rfl := Option.some.inj H
        go_wp2
        go_ret
        exact ⟨by first | rfl | (simp [errW_none, errW_some] <;> rfl) | (simp [*, errW_none, errW_some] <;> rfl), b_ HB⟩

/-! ### quorumlaw0_Texts: function 35 -/
mutual
def quorumlaw0_Texts.l0 : Nat → List ByteArray → Int → Int → Option (Int)
 | 0, _, _, _ => none
 | k + 1, x0, x3, x4 => if x4 < (x0.length : Int) then (quorumlaw0_Texts.j1 k x0 x3 x4 (decide (x3 < 1048576))) else (quorumlaw0_Texts.j1 k x0 x3 x4 false)
def quorumlaw0_Texts.j1 : Nat → List ByteArray → Int → Int → Bool → Option (Int)
 | 0, _, _, _, _ => none
 | k + 1, x0, x3, x4, x14 => if x14 = true then (if 0 ≤ x4 then (if x4 < (x0.length : Int) then (quorumlaw0_Texts.l0 k x0 (wrap64 (x3 + ((rdOf ByteArray.empty x0 x4).size : Int))) (wrap64 (x4 + 1))) else (none)) else (none)) else (some x3)
end
def quorumlaw0_Texts.f (k : Nat) (l0 : List ByteArray) : Option (Int) := quorumlaw0_Texts.l0 k l0 (l0.length : Int) 0
theorem quorumlaw0_Texts.mono_l : ∀ k, (∀ y0 y1 y2, LeO (quorumlaw0_Texts.l0 k y0 y1 y2) (quorumlaw0_Texts.l0 (k + 1) y0 y1 y2)) ∧ (∀ y0 y1 y2 y3, LeO (quorumlaw0_Texts.j1 k y0 y1 y2 y3) (quorumlaw0_Texts.j1 (k + 1) y0 y1 y2 y3))
 | 0 => ⟨fun _ _ _ r h => by simp [quorumlaw0_Texts.l0] at h, fun _ _ _ _ r h => by simp [quorumlaw0_Texts.j1] at h⟩
 | k + 1 => by
  obtain ⟨ih0, ih1⟩ := quorumlaw0_Texts.mono_l k
  refine ⟨?_, ?_⟩
  ·intro y0 y1 y2
   unfold quorumlaw0_Texts.l0
   repeat' first
   | (with_reducible exact ih0 _ _ _)
   | (with_reducible exact ih1 _ _ _ _)
   | (with_reducible exact LeO.refl _)
   | (with_reducible exact LeO.none _)
   | (with_reducible refine LeO.ite ?_ ?_)
   | (with_reducible refine LeO.bind ?_ (fun _ => ?_))
   | exact ih0 _ _ _
   | exact ih1 _ _ _ _
   | exact LeO.none _
   | refine LeO.ite ?_ ?_
   | refine LeO.bind ?_ (fun _ => ?_)
  ·intro y0 y1 y2 y3
   unfold quorumlaw0_Texts.j1
   repeat' first
   | (with_reducible exact ih0 _ _ _)
   | (with_reducible exact ih1 _ _ _ _)
   | (with_reducible exact LeO.refl _)
   | (with_reducible exact LeO.none _)
   | (with_reducible refine LeO.ite ?_ ?_)
   | (with_reducible refine LeO.bind ?_ (fun _ => ?_))
   | exact ih0 _ _ _
   | exact ih1 _ _ _ _
   | exact LeO.none _
   | refine LeO.ite ?_ ?_
   | refine LeO.bind ?_ (fun _ => ?_)
theorem quorumlaw0_Texts.mono : ∀ a0 k, LeO (quorumlaw0_Texts.f k a0) (quorumlaw0_Texts.f (k + 1) a0) := by
 intro a0 k
 obtain ⟨ih0, ih1⟩ := quorumlaw0_Texts.mono_l k
 unfold quorumlaw0_Texts.f
 repeat' first
   | (with_reducible exact ih0 _ _ _)
   | (with_reducible exact ih1 _ _ _ _)
   | (with_reducible exact LeO.refl _)
   | (with_reducible exact LeO.none _)
   | (with_reducible refine LeO.ite ?_ ?_)
   | (with_reducible refine LeO.bind ?_ (fun _ => ?_))
   | exact ih0 _ _ _
   | exact ih1 _ _ _ _
   | exact LeO.none _
   | refine LeO.ite ?_ ?_
   | refine LeO.bind ?_ (fun _ => ?_)
set_option maxHeartbeats 8000000 in
set_option maxRecDepth 100000 in
theorem quorumlaw0_Texts.calls (k : Nat) (A0 : Option Addr) (c0 : Nat) (l0 : List ByteArray) (r : Int) (w : World) (hr0 : Kd.C Kd.string w A0 l0.length l0) (hc0 : l0.length ≤ c0) (h : quorumlaw0_Texts.f k l0 = some r) :
  Calls Try.prog 35 #[.slice A0 l0.length c0] w fun e w' => e = .returned (.int .i64 r) ∧ Drawn0 w w' := by
 have HR0 := mk0 hr0
 have HC0 := mk0 hc0
 clear hr0 hc0
 have H : (quorumlaw0_Texts.l0 k l0 (l0.length : Int) 0) = some r := h
 clear h
 have H' := mk0 H
 clear H
 go_enter Try.func35, Try.ntmps35
 go_wp2
 go_loopg [3, 4] k (fun kq v3 v4 w' => ∃ (x3_1 : Int) (x4_1 : Int), v3 = .int .i64 x3_1 ∧ v4 = .int .i64 x4_1 ∧ Fc (quorumlaw0_Texts.l0 kq l0 x3_1 x4_1 = some r) ∧ Fc (kq ≤ k) ∧ Drawn0 w w')
 case atStart => exact ⟨((l0.length : Int)), (0), (by first | rfl | (simp; done) | (simp [*]; done)), (by first | rfl | (simp; done) | (simp [*]; done)), H', ⟨Nat.le_refl _⟩, by repeat (first | exact Drawn0.refl _ | apply Drawn0.step)⟩
 case round =>
  clear H'
  obtain ⟨x3_1, x4_1, rfl, rfl, HA, HK1, ⟨m1, rfl⟩⟩ := hrel
  cases gk with
  | zero => exact absurd HA.out (by simp [quorumlaw0_Texts.l0])
  | succ k1 =>
   have H := HA.out
   clear HA
   simp only [quorumlaw0_Texts.l0] at H
   as_aux_lemma =>
    have HC2 := mk0 H
    clear H
    go_upto_region 3 with (fail)
    go_cut [14] (fun v14 wc => ∃ (kq : Nat) (x14_1 : Bool), v14 = .bool x14_1 ∧ Fc (quorumlaw0_Texts.j1 kq l0 x3_1 x4_1 x14_1 = some r) ∧ Fc (kq ≤ k1) ∧ Drawn0 w wc)
    case first =>
     have H := HC2.out
     clear HC2
     by_cases c3 : x4_1 < (l0.length : Int)
     ·rw [if_pos c3] at H
      have c3b0 : decide (x4_1 < (l0.length : Int)) = true := decide_eq_true c3
      clear c3
      (first | rw [c3b0] | (simp only [i64_w, i32_w]; rw [c3b0]) | skip)
      have H' := mk0 H
      clear H
      go_wp2
      go_meet
      case rel => exact ⟨_, (decide (x3_1 < 1048576)), (by first | rfl | (simp; done) | (simp [*]; done)), H', ⟨by have := HK1.out; first | omega | exact Nat.le_refl _⟩, by repeat (first | exact Drawn0.refl _ | apply Drawn0.step)⟩
     ·rw [if_neg c3] at H
      have c3b0 : decide (x4_1 < (l0.length : Int)) = false := decide_eq_false c3
      clear c3
      (first | rw [c3b0] | (simp only [i64_w, i32_w]; rw [c3b0]) | skip)
      have H' := mk0 H
      clear H
      go_wp2
      go_meet
      case rel => exact ⟨_, (false), (by first | rfl | (simp; done) | (simp [*]; done)), H', ⟨by have := HK1.out; first | omega | exact Nat.le_refl _⟩, by repeat (first | exact Drawn0.refl _ | apply Drawn0.step)⟩
    case rest =>
     clear HC2
     try clear c3
     try clear c3b0
     obtain ⟨kq, x14_1, rfl, HA, HJ1, ⟨mc1, rfl⟩⟩ := hcut
     cases kq with
     | zero => exact absurd HA.out (by simp [quorumlaw0_Texts.j1])
     | succ kj1 =>
      have H := HA.out
      clear HA
      simp only [quorumlaw0_Texts.j1] at H
      as_aux_lemma =>
       by_cases c4 : x14_1 = true
       ·subst c4
        rw [if_pos rfl] at H
        by_cases c5 : 0 ≤ x4_1
        ·rw [if_pos c5] at H
         have c5b0 : decide (0 ≤ x4_1) = true := decide_eq_true c5
         clear c5
         by_cases c6 : x4_1 < (l0.length : Int)
         ·rw [if_pos c6] at H
          have c6b0 : decide (x4_1 < (l0.length : Int)) = true := decide_eq_true c6
          clear c6
          have H' := mk0 H
          clear H
          have p131 : 0 ≤ (x4_1 : Int) := of_decide_eq_true (by first | (with_reducible assumption) | assumption)
          have q131 : x4_1 < (l0.length : Int) := of_decide_eq_true (by first | (with_reducible assumption) | assumption)
          obtain ⟨ad131, e131, hx131_0⟩ := Kd.at_string HR0.out x4_1 p131 q131
          cases e131
          replace p131 := eq_true p131
          replace q131 := eq_true q131
          go_wp2
          go_roundg kj1
          case measure => have := HK1.out; have := HJ1.out; omega
          case rel => exact ⟨(wrap64 (x3_1 + ((rdOf ByteArray.empty l0 x4_1).size : Int))), (wrap64 (x4_1 + 1)), (by first | rfl | (simp; done) | (simp [*]; done)), (by first | rfl | (simp; done) | (simp [*]; done)), H', ⟨by have := HK1.out; have := HJ1.out; omega⟩, by repeat (first | exact Drawn0.refl _ | apply Drawn0.step)⟩
         ·rw [if_neg c6] at H
          exact absurd H (by simp)
        ·rw [if_neg c5] at H
         exact absurd H (by simp)
       ·replace c4 := Bool.eq_false_iff.mpr c4
        subst c4
        rw [if_neg (show ¬ (false = true) by decide)] at H
        obtain rfl := Option.some.inj H
        go_wp2
        go_ret
        exact ⟨by first | rfl | (simp; done) | (simp [*]; done), by repeat (first | exact Drawn0.refl _ | apply Drawn0.step)⟩

end Go.Proofs.Ytbaecdcfefmcgaa.PVrs
