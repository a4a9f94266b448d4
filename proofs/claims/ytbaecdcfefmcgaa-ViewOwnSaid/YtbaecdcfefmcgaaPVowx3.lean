-- PRINTED by print.py (a twelfth state) out of the translation. Not trusted: Lean checks it.
import Derived.Test.YtbaecdcfefmcgaaPVowx0
import Derived.Test.YtbaecdcfefmcgaaPVowx2
namespace Go.Proofs.Ytbaecdcfefmcgaa.PVow
open Go.RowKit Go.Proofs.YtbaecdcfefmcgaaW.PrintWords Go.Proofs.YtbaecdcfefmcgaaW.PrintLast Go.Proofs.YtbaecdcfefmcgaaW.PrintMore
attribute [local go_sem] max2_int min2_int max_two min_two max_three min_three max_four min_four   -- for this text's walks alone
set_option linter.unusedVariables false
set_option linter.unusedSimpArgs false

/-! ### quorumlaw0_TablesWeight: function 34 -/
mutual
def quorumlaw0_TablesWeight.l0 : Nat → List (S47) → Int → Int → Option (Int)
 | 0, _, _, _ => none
 | k + 1, x0, x3, x4 => if x4 < (x0.length : Int) then (quorumlaw0_TablesWeight.j1 k x0 x3 x4 (decide (x3 < 1048576))) else (quorumlaw0_TablesWeight.j1 k x0 x3 x4 false)
def quorumlaw0_TablesWeight.j1 : Nat → List (S47) → Int → Int → Bool → Option (Int)
 | 0, _, _, _, _ => none
 | k + 1, x0, x3, x4, x14 => if x14 = true then (if 0 ≤ x4 then (if x4 < (x0.length : Int) then ((quorumlaw0_TableWeight.f k ((rd_T47 x0 x4).f0)).bind fun t127 => (quorumlaw0_TablesWeight.l0 k x0 (wrap64 (x3 + t127)) (wrap64 (x4 + 1)))) else (none)) else (none)) else (some x3)
end
def quorumlaw0_TablesWeight.f (k : Nat) (l0 : List (S47)) : Option (Int) := quorumlaw0_TablesWeight.l0 k l0 (l0.length : Int) 0
theorem quorumlaw0_TablesWeight.mono_l : ∀ k, (∀ y0 y1 y2, LeO (quorumlaw0_TablesWeight.l0 k y0 y1 y2) (quorumlaw0_TablesWeight.l0 (k + 1) y0 y1 y2)) ∧ (∀ y0 y1 y2 y3, LeO (quorumlaw0_TablesWeight.j1 k y0 y1 y2 y3) (quorumlaw0_TablesWeight.j1 (k + 1) y0 y1 y2 y3))
 | 0 => ⟨fun _ _ _ r h => by simp [quorumlaw0_TablesWeight.l0] at h, fun _ _ _ _ r h => by simp [quorumlaw0_TablesWeight.j1] at h⟩
 | k + 1 => by
  obtain ⟨ih0, ih1⟩ := quorumlaw0_TablesWeight.mono_l k
  refine ⟨?_, ?_⟩
  ·intro y0 y1 y2
   unfold quorumlaw0_TablesWeight.l0
   repeat' first
   | (with_reducible exact ih0 _ _ _)
   | (with_reducible exact ih1 _ _ _ _)
   | (with_reducible exact quorumlaw0_TableWeight.mono _ _)
   | (with_reducible exact LeO.refl _)
   | (with_reducible exact LeO.none _)
   | (with_reducible refine LeO.ite ?_ ?_)
   | (with_reducible refine LeO.bind ?_ (fun _ => ?_))
   | exact ih0 _ _ _
   | exact ih1 _ _ _ _
   | exact quorumlaw0_TableWeight.mono _ _
   | exact LeO.none _
   | refine LeO.ite ?_ ?_
   | refine LeO.bind ?_ (fun _ => ?_)
  ·intro y0 y1 y2 y3
   unfold quorumlaw0_TablesWeight.j1
   repeat' first
   | (with_reducible exact ih0 _ _ _)
   | (with_reducible exact ih1 _ _ _ _)
   | (with_reducible exact quorumlaw0_TableWeight.mono _ _)
   | (with_reducible exact LeO.refl _)
   | (with_reducible exact LeO.none _)
   | (with_reducible refine LeO.ite ?_ ?_)
   | (with_reducible refine LeO.bind ?_ (fun _ => ?_))
   | exact ih0 _ _ _
   | exact ih1 _ _ _ _
   | exact quorumlaw0_TableWeight.mono _ _
   | exact LeO.none _
   | refine LeO.ite ?_ ?_
   | refine LeO.bind ?_ (fun _ => ?_)
theorem quorumlaw0_TablesWeight.mono : ∀ a0 k, LeO (quorumlaw0_TablesWeight.f k a0) (quorumlaw0_TablesWeight.f (k + 1) a0) := by
 intro a0 k
 obtain ⟨ih0, ih1⟩ := quorumlaw0_TablesWeight.mono_l k
 unfold quorumlaw0_TablesWeight.f
 repeat' first
   | (with_reducible exact ih0 _ _ _)
   | (with_reducible exact ih1 _ _ _ _)
   | (with_reducible exact quorumlaw0_TableWeight.mono _ _)
   | (with_reducible exact LeO.refl _)
   | (with_reducible exact LeO.none _)
   | (with_reducible refine LeO.ite ?_ ?_)
   | (with_reducible refine LeO.bind ?_ (fun _ => ?_))
   | exact ih0 _ _ _
   | exact ih1 _ _ _ _
   | exact quorumlaw0_TableWeight.mono _ _
   | exact LeO.none _
   | refine LeO.ite ?_ ?_
   | refine LeO.bind ?_ (fun _ => ?_)
set_option maxHeartbeats 8000000 in
set_option maxRecDepth 100000 in
theorem quorumlaw0_TablesWeight.calls (k : Nat) (A0 : Option Addr) (c0 : Nat) (l0 : List (S47)) (r : Int) (w : World) (hr0 : Kd.C k47 w A0 l0.length l0) (hc0 : l0.length ≤ c0) (h : quorumlaw0_TablesWeight.f k l0 = some r) :
  Calls Try.prog 34 #[.slice A0 l0.length c0] w fun e w' => e = .returned (.int .i64 r) ∧ Below w.heap.size w w' := by
 have hu47 := Try.underlying47
 have HR0 := mk0 hr0
 have HC0 := mk0 hc0
 clear hr0 hc0
 have HB := mk0 (Below.refl w.heap.size w)
 have H : (quorumlaw0_TablesWeight.l0 k l0 (l0.length : Int) 0) = some r := h
 clear h
 have H' := mk0 H
 clear H
 go_enter Try.func34, Try.ntmps34
 go_wp2
 go_loopg [3, 4] k (fun kq v3 v4 w' => ∃ (x3_1 : Int) (x4_1 : Int), v3 = .int .i64 x3_1 ∧ v4 = .int .i64 x4_1 ∧ Fc (quorumlaw0_TablesWeight.l0 kq l0 x3_1 x4_1 = some r) ∧ Fc (kq ≤ k) ∧ Fc (Below w.heap.size w w'))
 case atStart => exact ⟨((l0.length : Int)), (0), (by first | rfl | (simp; done) | (simp [*]; done)), (by first | rfl | (simp; done) | (simp [*]; done)), H', ⟨Nat.le_refl _⟩, ⟨b_ HB⟩⟩
 case round =>
  clear H'
  obtain ⟨x3_1, x4_1, rfl, rfl, HA, HK1, HB⟩ := hrel
  cases gk with
  | zero => exact absurd HA.out (by simp [quorumlaw0_TablesWeight.l0])
  | succ k1 =>
   have H := HA.out
   clear HA
   simp only [quorumlaw0_TablesWeight.l0] at H
   as_aux_lemma =>
    have HC2 := mk0 H
    clear H
    go_upto_region 3 with (fail)
    go_cut [14] (fun v14 wc => ∃ (kq : Nat) (x14_1 : Bool), v14 = .bool x14_1 ∧ Fc (quorumlaw0_TablesWeight.j1 kq l0 x3_1 x4_1 x14_1 = some r) ∧ Fc (kq ≤ k1) ∧ Fc (Below w.heap.size w wc))
    case first =>
     have H := HC2.out
     clear HC2
     by_cases c3 : x4_1 < (l0.length : Int)
     ·rw [if_pos c3] at H
      have c3b0 : decide (x4_1 < (l0.length : Int)) = true := decide_eq_true c3
      clear c3
      (first | rw [c3b0] | (simp only [i64_w, i32_w]; rw [c3b0]) | skip)
      have H' := mk0 H
      clear H
      go_wp2
      go_meet
      case rel => exact ⟨_, (decide (x3_1 < 1048576)), (by first | rfl | (simp; done) | (simp [*]; done)), H', ⟨by have := HK1.out; first | omega | exact Nat.le_refl _⟩, ⟨b_ HB⟩⟩
     ·rw [if_neg c3] at H
      have c3b0 : decide (x4_1 < (l0.length : Int)) = false := decide_eq_false c3
      clear c3
      (first | rw [c3b0] | (simp only [i64_w, i32_w]; rw [c3b0]) | skip)
      have H' := mk0 H
      clear H
      go_wp2
      go_meet
      case rel => exact ⟨_, (false), (by first | rfl | (simp; done) | (simp [*]; done)), H', ⟨by have := HK1.out; first | omega | exact Nat.le_refl _⟩, ⟨b_ HB⟩⟩
    case rest =>
     clear HC2
     try clear c3
     try clear c3b0
     obtain ⟨kq, x14_1, rfl, HA, HJ1, HB⟩ := hcut
     cases kq with
     | zero => exact absurd HA.out (by simp [quorumlaw0_TablesWeight.j1])
     | succ kj1 =>
      have H := HA.out
      clear HA
      simp only [quorumlaw0_TablesWeight.j1] at H
      as_aux_lemma =>
       by_cases c4 : x14_1 = true
       ·subst c4
        rw [if_pos rfl] at H
        by_cases c5 : 0 ≤ x4_1
        ·rw [if_pos c5] at H
         have c5b0 : decide (0 ≤ x4_1) = true := decide_eq_true c5
         clear c5
         by_cases c6 : x4_1 < (l0.length : Int)
         ·rw [if_pos c6] at H
          have c6b0 : decide (x4_1 < (l0.length : Int)) = true := decide_eq_true c6
          clear c6
          replace H := Option.bind_eq_some_iff.mp H
          obtain ⟨t127, A70, H⟩ := H
          try dsimp only at H
          have A7 := mk0 A70
          clear A70
          have H' := mk0 H
          clear H
          have p126 : 0 ≤ (x4_1 : Int) := of_decide_eq_true (by first | (with_reducible assumption) | assumption)
          have q126 : x4_1 < (l0.length : Int) := of_decide_eq_true (by first | (with_reducible assumption) | assumption)
          obtain ⟨ad126, A126_0, c126_0, e126, hx126_0, hl126_0, hi126_0⟩ := at_T47 HR0.out x4_1 p126 q126
          cases e126
          replace hx126_0 := (bc_ HB hx126_0 :)
          have HR126_0 := mk0 hi126_0
          have HC126_0 := mk0 hl126_0
          clear hi126_0 hl126_0
          replace p126 := eq_true p126
          replace q126 := eq_true q126
          go_wp2_with (first | ((with_reducible refine gate_callee (f := 69) rfl ?_); refine gL_ (some 22) Try.func69 #[.agg #[.slice A126_0 ((rd_T47 l0 x4_1).f0).length c126_0]] (h := ?_); (with_reducible refine (quorumlaw0_TableWeight.calls kj1 _ _ ((rd_T47 l0 x4_1).f0) t127 _ ?side1 ?side2 A7.out).mono ?_); (case side1 => exact cb_ HR126_0 HB); (case side2 => exact HC126_0.out); rintro e w8 ⟨rfl, hb⟩; refine ⟨_, rfl, ?_⟩; replace HB := mk0 (bt_ (b_ HB) hb); (try clear hb)))
          go_roundg kj1
          case measure => have := HK1.out; have := HJ1.out; omega
          case rel => exact ⟨(wrap64 (x3_1 + t127)), (wrap64 (x4_1 + 1)), (by first | rfl | (simp; done) | (simp [*]; done)), (by first | rfl | (simp; done) | (simp [*]; done)), H', ⟨by have := HK1.out; have := HJ1.out; omega⟩, ⟨b_ HB⟩⟩
         ·rw [if_neg c6] at H
          exact absurd H (by simp)
        ·rw [if_neg c5] at H
         exact absurd H (by simp)
       ·replace c4 := Bool.eq_false_iff.mpr c4
        subst c4
        rw [if_neg (show ¬ (false = true) by decide)] at H
        obtain rfl := Option.some.inj H
        go_wp2
        go_ret
        exact ⟨by first | rfl | (simp [errW_none, errW_some] <;> rfl) | (simp [*, errW_none, errW_some] <;> rfl), b_ HB⟩

/-! ### quorumlaw0_Texts: function 35 -/
mutual
def quorumlaw0_Texts.l0 : Nat → List ByteArray → Int → Int → Option (Int)
 | 0, _, _, _ => none
 | k + 1, x0, x3, x4 => if x4 < (x0.length : Int) then (quorumlaw0_Texts.j1 k x0 x3 x4 (decide (x3 < 1048576))) else (quorumlaw0_Texts.j1 k x0 x3 x4 false)
def quorumlaw0_Texts.j1 : Nat → List ByteArray → Int → Int → Bool → Option (Int)
 | 0, _, _, _, _ => none
 | k + 1, x0, x3, x4, x14 => if x14 = true then (if 0 ≤ x4 then (if x4 < (x0.length : Int) then (quorumlaw0_Texts.l0 k x0 (wrap64 (x3 + ((rdOf ByteArray.empty x0 x4).size : Int))) (wrap64 (x4 + 1))) else (none)) else (none)) else (some x3)
end
def quorumlaw0_Texts.f (k : Nat) (l0 : List ByteArray) : Option (Int) := quorumlaw0_Texts.l0 k l0 (l0.length : Int) 0
theorem quorumlaw0_Texts.mono_l : ∀ k, (∀ y0 y1 y2, LeO (quorumlaw0_Texts.l0 k y0 y1 y2) (quorumlaw0_Texts.l0 (k + 1) y0 y1 y2)) ∧ (∀ y0 y1 y2 y3, LeO (quorumlaw0_Texts.j1 k y0 y1 y2 y3) (quorumlaw0_Texts.j1 (k + 1) y0 y1 y2 y3))
 | 0 => ⟨fun _ _ _ r h => by simp [quorumlaw0_Texts.l0] at h, fun _ _ _ _ r h => by simp [quorumlaw0_Texts.j1] at h⟩
 | k + 1 => by
  obtain ⟨ih0, ih1⟩ := quorumlaw0_Texts.mono_l k
  refine ⟨?_, ?_⟩
  ·intro y0 y1 y2
   unfold quorumlaw0_Texts.l0
   repeat' first
   | (with_reducible exact ih0 _ _ _)
   | (with_reducible exact ih1 _ _ _ _)
   | (with_reducible exact LeO.refl _)
   | (with_reducible exact LeO.none _)
   | (with_reducible refine LeO.ite ?_ ?_)
   | (with_reducible refine LeO.bind ?_ (fun _ => ?_))
   | exact ih0 _ _ _
   | exact ih1 _ _ _ _
   | exact LeO.none _
   | refine LeO.ite ?_ ?_
   | refine LeO.bind ?_ (fun _ => ?_)
  ·intro y0 y1 y2 y3
   unfold quorumlaw0_Texts.j1
   repeat' first
   | (with_reducible exact ih0 _ _ _)
   | (with_reducible exact ih1 _ _ _ _)
   | (with_reducible exact LeO.refl _)
   | (with_reducible exact LeO.none _)
   | (with_reducible refine LeO.ite ?_ ?_)
   | (with_reducible refine LeO.bind ?_ (fun _ => ?_))
   | exact ih0 _ _ _
   | exact ih1 _ _ _ _
   | exact LeO.none _
   | refine LeO.ite ?_ ?_
   | refine LeO.bind ?_ (fun _ => ?_)
theorem quorumlaw0_Texts.mono : ∀ a0 k, LeO (quorumlaw0_Texts.f k a0) (quorumlaw0_Texts.f (k + 1) a0) := by
 intro a0 k
 obtain ⟨ih0, ih1⟩ := quorumlaw0_Texts.mono_l k
 unfold quorumlaw0_Texts.f
 repeat' first
   | (with_reducible exact ih0 _ _ _)
   | (with_reducible exact ih1 _ _ _ _)
   | (with_reducible exact LeO.refl _)
   | (with_reducible exact LeO.none _)
   | (with_reducible refine LeO.ite ?_ ?_)
   | (with_reducible refine LeO.bind ?_ (fun _ => ?_))
   | exact ih0 _ _ _
   | exact ih1 _ _ _ _
   | exact LeO.none _
   | refine LeO.ite ?_ ?_
   | refine LeO.bind ?_ (fun _ => ?_)
set_option maxHeartbeats 8000000 in
set_option maxRecDepth 100000 in
theorem quorumlaw0_Texts.calls (k : Nat) (A0 : Option Addr) (c0 : Nat) (l0 : List ByteArray) (r : Int) (w : World) (hr0 : Kd.C Kd.string w A0 l0.length l0) (hc0 : l0.length ≤ c0) (h : quorumlaw0_Texts.f k l0 = some r) :
  Calls Try.prog 35 #[.slice A0 l0.length c0] w fun e w' => e = .returned (.int .i64 r) ∧ Drawn0 w w' := by
 have HR0 := mk0 hr0
 have HC0 := mk0 hc0
 clear hr0 hc0
 have H : (quorumlaw0_Texts.l0 k l0 (l0.length : Int) 0) = some r := h
 clear h
 have H' := mk0 H
 clear H
 go_enter Try.func35, Try.ntmps35
 go_wp2
 go_loopg [3, 4] k (fun kq v3 v4 w' => ∃ (x3_1 : Int) (x4_1 : Int), v3 = .int .i64 x3_1 ∧ v4 = .int .i64 x4_1 ∧ Fc (quorumlaw0_Texts.l0 kq l0 x3_1 x4_1 = some r) ∧ Fc (kq ≤ k) ∧ Drawn0 w w')
 case atStart => exact ⟨((l0.length : Int)), (0), (by first | rfl | (simp; done) | (simp [*]; done)), (by first | rfl | (simp; done) | (simp [*]; done)), H', ⟨Nat.le_refl _⟩, by repeat (first | exact Drawn0.refl _ | apply Drawn0.step)⟩
 case round =>
  clear H'
  obtain ⟨x3_1, x4_1, rfl, rfl, HA, HK1, ⟨m1, rfl⟩⟩ := hrel
  cases gk with
  | zero => exact absurd HA.out (by simp [quorumlaw0_Texts.l0])
  | succ k1 =>
   have H := HA.out
   clear HA
   simp only [quorumlaw0_Texts.l0] at H
   as_aux_lemma =>
    have HC2 := mk0 H
    clear H
    go_upto_region 3 with (fail)
    go_cut [14] (fun v14 wc => ∃ (kq : Nat) (x14_1 : Bool), v14 = .bool x14_1 ∧ Fc (quorumlaw0_Texts.j1 kq l0 x3_1 x4_1 x14_1 = some r) ∧ Fc (kq ≤ k1) ∧ Drawn0 w wc)
    case first =>
     have H := HC2.out
     clear HC2
     by_cases c3 : x4_1 < (l0.length : Int)
     ·rw [if_pos c3] at H
      have c3b0 : decide (x4_1 < (l0.length : Int)) = true := decide_eq_true c3
      clear c3
      (first | rw [c3b0] | (simp only [i64_w, i32_w]; rw [c3b0]) | skip)
      have H' := mk0 H
      clear H
      go_wp2
      go_meet
      case rel => exact ⟨_, (decide (x3_1 < 1048576)), (by first | rfl | (simp; done) | (simp [*]; done)), H', ⟨by have := HK1.out; first | omega | exact Nat.le_refl _⟩, by repeat (first | exact Drawn0.refl _ | apply Drawn0.step)⟩
     ·rw [if_neg c3] at H
      have c3b0 : decide (x4_1 < (l0.length : Int)) = false := decide_eq_false c3
      clear c3
      (first | rw [c3b0] | (simp only [i64_w, i32_w]; rw [c3b0]) | skip)
      have H' := mk0 H
      clear H
      go_wp2
      go_meet
      case rel => exact ⟨_, (false), (by first | rfl | (simp; done) | (simp [*]; done)), H', ⟨by have := HK1.out; first | omega | exact Nat.le_refl _⟩, by repeat (first | exact Drawn0.refl _ | apply Drawn0.step)⟩
    case rest =>
     clear HC2
     try clear c3
     try clear c3b0
     obtain ⟨kq, x14_1, rfl, HA, HJ1, ⟨mc1, rfl⟩⟩ := hcut
     cases kq with
     | zero => exact absurd HA.out (by simp [quorumlaw0_Texts.j1])
     | succ kj1 =>
      have H := HA.out
      clear HA
      simp only [quorumlaw0_Texts.j1] at H
      as_aux_lemma =>
       by_cases c4 : x14_1 = true
       ·subst c4
        rw [if_pos rfl] at H
        by_cases c5 : 0 ≤ x4_1
        ·rw [if_pos c5] at H
         have c5b0 : decide (0 ≤ x4_1) = true := decide_eq_true c5
         clear c5
         by_cases c6 : x4_1 < (l0.length : Int)
         ·rw [if_pos c6] at H
          have c6b0 : decide (x4_1 < (l0.length : Int)) = true := decide_eq_true c6
          clear c6
          have H' := mk0 H
          clear H
          have p128 : 0 ≤ (x4_1 : Int) := of_decide_eq_true (by first | (with_reducible assumption) | assumption)
          have q128 : x4_1 < (l0.length : Int) := of_decide_eq_true (by first | (with_reducible assumption) | assumption)
          obtain ⟨ad128, e128, hx128_0⟩ := Kd.at_string HR0.out x4_1 p128 q128
          cases e128
          replace p128 := eq_true p128
          replace q128 := eq_true q128
          go_wp2
          go_roundg kj1
          case measure => have := HK1.out; have := HJ1.out; omega
          case rel => exact ⟨(wrap64 (x3_1 + ((rdOf ByteArray.empty l0 x4_1).size : Int))), (wrap64 (x4_1 + 1)), (by first | rfl | (simp; done) | (simp [*]; done)), (by first | rfl | (simp; done) | (simp [*]; done)), H', ⟨by have := HK1.out; have := HJ1.out; omega⟩, by repeat (first | exact Drawn0.refl _ | apply Drawn0.step)⟩
         ·rw [if_neg c6] at H
          exact absurd H (by simp)
        ·rw [if_neg c5] at H
         exact absurd H (by simp)
       ·replace c4 := Bool.eq_false_iff.mpr c4
        subst c4
        rw [if_neg (show ¬ (false = true) by decide)] at H
        obtain rfl := Option.some.inj H
        go_wp2
        go_ret
        exact ⟨by first | rfl | (simp; done) | (simp [*]; done), by repeat (first | exact Drawn0.refl _ | apply Drawn0.step)⟩

/-! ### quorumlaw0_WritesWeight: function 36 -/
mutual
def quorumlaw0_WritesWeight.l0 : Nat → List (S36) → Int → Int → Option (Int)
 | 0, _, _, _ => none
 | k + 1, x0, x3, x4 => if x4 < (x0.length : Int) then (quorumlaw0_WritesWeight.j1 k x0 x3 x4 (decide (x3 < 1048576))) else (quorumlaw0_WritesWeight.j1 k x0 x3 x4 false)
def quorumlaw0_WritesWeight.j1 : Nat → List (S36) → Int → Int → Bool → Option (Int)
 | 0, _, _, _, _ => none
 | k + 1, x0, x3, x4, x14 => if x14 = true then (if 0 ≤ x4 then (if x4 < (x0.length : Int) then (quorumlaw0_WritesWeight.l0 k x0 (wrap64 (x3 + (wrap64 (Int.tdiv (wrap64 ((((rd_T36 x0 x4).f1).size : Int) + (((rd_T36 x0 x4).f2).size : Int))) 8)))) (wrap64 (x4 + 1))) else (none)) else (none)) else (some x3)
end
def quorumlaw0_WritesWeight.f (k : Nat) (l0 : List (S36)) : Option (Int) := quorumlaw0_WritesWeight.l0 k l0 (l0.length : Int) 0
theorem quorumlaw0_WritesWeight.mono_l : ∀ k, (∀ y0 y1 y2, LeO (quorumlaw0_WritesWeight.l0 k y0 y1 y2) (quorumlaw0_WritesWeight.l0 (k + 1) y0 y1 y2)) ∧ (∀ y0 y1 y2 y3, LeO (quorumlaw0_WritesWeight.j1 k y0 y1 y2 y3) (quorumlaw0_WritesWeight.j1 (k + 1) y0 y1 y2 y3))
 | 0 => ⟨fun _ _ _ r h => by simp [quorumlaw0_WritesWeight.l0] at h, fun _ _ _ _ r h => by simp [quorumlaw0_WritesWeight.j1] at h⟩
 | k + 1 => by
  obtain ⟨ih0, ih1⟩ := quorumlaw0_WritesWeight.mono_l k
  refine ⟨?_, ?_⟩
  ·intro y0 y1 y2
   unfold quorumlaw0_WritesWeight.l0
   repeat' first
   | (with_reducible exact ih0 _ _ _)
   | (with_reducible exact ih1 _ _ _ _)
   | (with_reducible exact LeO.refl _)
   | (with_reducible exact LeO.none _)
   | (with_reducible refine LeO.ite ?_ ?_)
   | (with_reducible refine LeO.bind ?_ (fun _ => ?_))
   | exact ih0 _ _ _
   | exact ih1 _ _ _ _
   | exact LeO.none _
   | refine LeO.ite ?_ ?_
   | refine LeO.bind ?_ (fun _ => ?_)
  ·intro y0 y1 y2 y3
   unfold quorumlaw0_WritesWeight.j1
   repeat' first
   | (with_reducible exact ih0 _ _ _)
   | (with_reducible exact ih1 _ _ _ _)
   | (with_reducible exact LeO.refl _)
   | (with_reducible exact LeO.none _)
   | (with_reducible refine LeO.ite ?_ ?_)
   | (with_reducible refine LeO.bind ?_ (fun _ => ?_))
   | exact ih0 _ _ _
   | exact ih1 _ _ _ _
   | exact LeO.none _
   | refine LeO.ite ?_ ?_
   | refine LeO.bind ?_ (fun _ => ?_)
theorem quorumlaw0_WritesWeight.mono : ∀ a0 k, LeO (quorumlaw0_WritesWeight.f k a0) (quorumlaw0_WritesWeight.f (k + 1) a0) := by
 intro a0 k
 obtain ⟨ih0, ih1⟩ := quorumlaw0_WritesWeight.mono_l k
 unfold quorumlaw0_WritesWeight.f
 repeat' first
   | (with_reducible exact ih0 _ _ _)
   | (with_reducible exact ih1 _ _ _ _)
   | (with_reducible exact LeO.refl _)
   | (with_reducible exact LeO.none _)
   | (with_reducible refine LeO.ite ?_ ?_)
   | (with_reducible refine LeO.bind ?_ (fun _ => ?_))
   | exact ih0 _ _ _
   | exact ih1 _ _ _ _
   | exact LeO.none _
   | refine LeO.ite ?_ ?_
   | refine LeO.bind ?_ (fun _ => ?_)
set_option maxHeartbeats 8000000 in
set_option maxRecDepth 100000 in
theorem quorumlaw0_WritesWeight.calls (k : Nat) (A0 : Option Addr) (c0 : Nat) (l0 : List (S36)) (r : Int) (w : World) (hr0 : Kd.C k36 w A0 l0.length l0) (hc0 : l0.length ≤ c0) (h : quorumlaw0_WritesWeight.f k l0 = some r) :
  Calls Try.prog 36 #[.slice A0 l0.length c0] w fun e w' => e = .returned (.int .i64 r) ∧ Drawn0 w w' := by
 have HR0 := mk0 hr0
 have HC0 := mk0 hc0
 clear hr0 hc0
 have H : (quorumlaw0_WritesWeight.l0 k l0 (l0.length : Int) 0) = some r := h
 clear h
 have H' := mk0 H
 clear H
 go_enter Try.func36, Try.ntmps36
 go_wp2
 repeat (go_quiet (fail); try go_wp2)
 go_loopg [3, 4] k (fun kq v3 v4 w' => ∃ (x3_1 : Int) (x4_1 : Int), v3 = .int .i64 x3_1 ∧ v4 = .int .i64 x4_1 ∧ Fc (quorumlaw0_WritesWeight.l0 kq l0 x3_1 x4_1 = some r) ∧ Fc (kq ≤ k) ∧ Drawn0 w w')
 case atStart => exact ⟨((l0.length : Int)), (0), (by first | rfl | (simp; done) | (simp [*]; done)), (by first | rfl | (simp; done) | (simp [*]; done)), H', ⟨Nat.le_refl _⟩, by repeat (first | exact Drawn0.refl _ | apply Drawn0.step)⟩
 case round =>
  clear H'
  obtain ⟨x3_1, x4_1, rfl, rfl, HA, HK1, ⟨m1, rfl⟩⟩ := hrel
  cases gk with
  | zero => exact absurd HA.out (by simp [quorumlaw0_WritesWeight.l0])
  | succ k1 =>
   have H := HA.out
   clear HA
   simp only [quorumlaw0_WritesWeight.l0] at H
   as_aux_lemma =>
    have HC2 := mk0 H
    clear H
    go_upto_region 3 with (fail)
    repeat (go_quiet (fail); go_upto_region 3 with (fail))
    go_cut [14] (fun v14 wc => ∃ (kq : Nat) (x14_1 : Bool), v14 = .bool x14_1 ∧ Fc (quorumlaw0_WritesWeight.j1 kq l0 x3_1 x4_1 x14_1 = some r) ∧ Fc (kq ≤ k1) ∧ Drawn0 w wc)
    case first =>
     have H := HC2.out
     clear HC2
     by_cases c3 : x4_1 < (l0.length : Int)
     ·rw [if_pos c3] at H
      have c3b0 : decide (x4_1 < (l0.length : Int)) = true := decide_eq_true c3
      clear c3
      (first | rw [c3b0] | (simp only [i64_w, i32_w]; rw [c3b0]) | skip)
      have H' := mk0 H
      clear H
      go_wp2
      repeat (go_quiet (fail); try go_wp2)
      go_meet
      case rel => exact ⟨_, (decide (x3_1 < 1048576)), (by first | rfl | (simp; done) | (simp [*]; done)), H', ⟨by have := HK1.out; first | omega | exact Nat.le_refl _⟩, by repeat (first | exact Drawn0.refl _ | apply Drawn0.step)⟩
     ·rw [if_neg c3] at H
      have c3b0 : decide (x4_1 < (l0.length : Int)) = false := decide_eq_false c3
      clear c3
      (first | rw [c3b0] | (simp only [i64_w, i32_w]; rw [c3b0]) | skip)
      have H' := mk0 H
      clear H
      go_wp2
      repeat (go_quiet (fail); try go_wp2)
      go_meet
      case rel => exact ⟨_, (false), (by first | rfl | (simp; done) | (simp [*]; done)), H', ⟨by have := HK1.out; first | omega | exact Nat.le_refl _⟩, by repeat (first | exact Drawn0.refl _ | apply Drawn0.step)⟩
    case rest =>
     clear HC2
     try clear c3
     try clear c3b0
     obtain ⟨kq, x14_1, rfl, HA, HJ1, ⟨mc1, rfl⟩⟩ := hcut
     cases kq with
     | zero => exact absurd HA.out (by simp [quorumlaw0_WritesWeight.j1])
     | succ kj1 =>
      have H := HA.out
      clear HA
      simp only [quorumlaw0_WritesWeight.j1] at H
      as_aux_lemma =>
       by_cases c4 : x14_1 = true
       ·subst c4
        rw [if_pos rfl] at H
        by_cases c5 : 0 ≤ x4_1
        ·rw [if_pos c5] at H
         have c5b0 : decide (0 ≤ x4_1) = true := decide_eq_true c5
         clear c5
         by_cases c6 : x4_1 < (l0.length : Int)
         ·rw [if_pos c6] at H
          have c6b0 : decide (x4_1 < (l0.length : Int)) = true := decide_eq_true c6
          clear c6
          have H' := mk0 H
          clear H
          have p129 : 0 ≤ (x4_1 : Int) := of_decide_eq_true (by first | (with_reducible assumption) | assumption)
          have q129 : x4_1 < (l0.length : Int) := of_decide_eq_true (by first | (with_reducible assumption) | assumption)
          obtain ⟨ad129, e129, hx129_0, hx129_1, hx129_2, hx129_3⟩ := at_T36 HR0.out x4_1 p129 q129
          cases e129
          replace p129 := eq_true p129
          replace q129 := eq_true q129
          have p130 : 0 ≤ (x4_1 : Int) := of_decide_eq_true (by first | (with_reducible assumption) | assumption)
          have q130 : x4_1 < (l0.length : Int) := of_decide_eq_true (by first | (with_reducible assumption) | assumption)
          obtain ⟨ad130, e130, hx130_0, hx130_1, hx130_2, hx130_3⟩ := at_T36 HR0.out x4_1 p130 q130
          obtain rfl : ad129 = ad130 := (by injection e130)
          replace p130 := eq_true p130
          replace q130 := eq_true q130
          go_wp2
          repeat (go_quiet (fail); try go_wp2)
          go_roundg kj1
          case measure => have := HK1.out; have := HJ1.out; omega
          case rel => exact ⟨(wrap64 (x3_1 + (wrap64 (Int.tdiv (wrap64 ((((rd_T36 l0 x4_1).f1).size : Int) + (((rd_T36 l0 x4_1).f2).size : Int))) 8)))), (wrap64 (x4_1 + 1)), (by first | rfl | (simp; done) | (simp [*]; done)), (by first | rfl | (simp; done) | (simp [*]; done)), H', ⟨by have := HK1.out; have := HJ1.out; omega⟩, by repeat (first | exact Drawn0.refl _ | apply Drawn0.step)⟩
         ·rw [if_neg c6] at H
          exact absurd H (by simp)
        ·rw [if_neg c5] at H
         exact absurd H (by simp)
       ·replace c4 := Bool.eq_false_iff.mpr c4
        subst c4
        rw [if_neg (show ¬ (false = true) by decide)] at H
        obtain rfl := Option.some.inj H
        go_wp2
        repeat (go_quiet (fail); try go_wp2)
        go_ret
        exact ⟨by first | rfl | (simp; done) | (simp [*]; done), by repeat (first | exact Drawn0.refl _ | apply Drawn0.step)⟩

/-! ### quorumlaw11_Heavy: function 14 -/
mutual
def quorumlaw11_Heavy.l0 : Nat → Int → Int → List (S47) → List (S34) → List Int → List ByteArray → List (S74) → List Int → Option (Bool)
 | 0, _, _, _, _, _, _, _, _ => none
 | k + 1, x3, x4, x132000, x132001, x132002, x132003, x132004, x132005 => if x4 < (x132001.length : Int) then (quorumlaw11_Heavy.j1 k x3 x4 (decide (x3 < 1048576)) x132000 x132001 x132002 x132003 x132004 x132005) else (quorumlaw11_Heavy.j1 k x3 x4 false x132000 x132001 x132002 x132003 x132004 x132005)
def quorumlaw11_Heavy.j1 : Nat → Int → Int → Bool → List (S47) → List (S34) → List Int → List ByteArray → List (S74) → List Int → Option (Bool)
 | 0, _, _, _, _, _, _, _, _, _ => none
 | k + 1, x3, x4, x37, x132000, x132001, x132002, x132003, x132004, x132005 => if x37 = true then (if 0 ≤ x4 then (if x4 < (x132001.length : Int) then ((quorumlaw0_WritesWeight.f k ((rd_T34 x132001 x4).f0)).bind fun t135 => (quorumlaw11_Heavy.l0 k (wrap64 ((wrap64 (x3 + t135)) + (((rd_T34 x132001 x4).f1).length : Int))) (wrap64 (x4 + 1)) x132000 x132001 x132002 x132003 x132004 x132005)) else (none)) else (none)) else (some (decide (x3 > 700)))
end
def quorumlaw11_Heavy.f (k : Nat) (l0_0 : List (S47)) (l0_1 : List (S34)) (l0_2 : List Int) (l0_3 : List ByteArray) (l0_4 : List (S74)) (l0_5 : List Int) : Option (Bool) := (quorumlaw0_TablesWeight.f k l0_0).bind fun t132 => ((quorumlaw0_Texts.f k l0_3).bind fun t133 => (quorumlaw11_Heavy.l0 k (wrap64 ((wrap64 ((wrap64 ((wrap64 ((wrap64 (t132 + (wrap64 (Int.tdiv t133 8)))) + (l0_1.length : Int))) + (l0_2.length : Int))) + (l0_4.length : Int))) + (l0_5.length : Int))) 0 l0_0 l0_1 l0_2 l0_3 l0_4 l0_5))
theorem quorumlaw11_Heavy.mono_l : ∀ k, (∀ y0 y1 y2 y3 y4 y5 y6 y7, LeO (quorumlaw11_Heavy.l0 k y0 y1 y2 y3 y4 y5 y6 y7) (quorumlaw11_Heavy.l0 (k + 1) y0 y1 y2 y3 y4 y5 y6 y7)) ∧ (∀ y0 y1 y2 y3 y4 y5 y6 y7 y8, LeO (quorumlaw11_Heavy.j1 k y0 y1 y2 y3 y4 y5 y6 y7 y8) (quorumlaw11_Heavy.j1 (k + 1) y0 y1 y2 y3 y4 y5 y6 y7 y8))
 | 0 => ⟨fun _ _ _ _ _ _ _ _ r h => by simp [quorumlaw11_Heavy.l0] at h, fun _ _ _ _ _ _ _ _ _ r h => by simp [quorumlaw11_Heavy.j1] at h⟩
 | k + 1 => by
  obtain ⟨ih0, ih1⟩ := quorumlaw11_Heavy.mono_l k
  refine ⟨?_, ?_⟩
  ·intro y0 y1 y2 y3 y4 y5 y6 y7
   unfold quorumlaw11_Heavy.l0
   repeat' first
   | (with_reducible exact ih0 _ _ _ _ _ _ _ _)
   | (with_reducible exact ih1 _ _ _ _ _ _ _ _ _)
   | (with_reducible exact quorumlaw0_TablesWeight.mono _ _)
   | (with_reducible exact quorumlaw0_Texts.mono _ _)
   | (with_reducible exact quorumlaw0_WritesWeight.mono _ _)
   | (with_reducible exact LeO.refl _)
   | (with_reducible exact LeO.none _)
   | (with_reducible refine LeO.ite ?_ ?_)
   | (with_reducible refine LeO.bind ?_ (fun _ => ?_))
   | exact ih0 _ _ _ _ _ _ _ _
   | exact ih1 _ _ _ _ _ _ _ _ _
   | exact quorumlaw0_TablesWeight.mono _ _
   | exact quorumlaw0_Texts.mono _ _
   | exact quorumlaw0_WritesWeight.mono _ _
   | exact LeO.none _
   | refine LeO.ite ?_ ?_
   | refine LeO.bind ?_ (fun _ => ?_)
  ·intro y0 y1 y2 y3 y4 y5 y6 y7 y8
   unfold quorumlaw11_Heavy.j1
   repeat' first
   | (with_reducible exact ih0 _ _ _ _ _ _ _ _)
   | (with_reducible exact ih1 _ _ _ _ _ _ _ _ _)
   | (with_reducible exact quorumlaw0_TablesWeight.mono _ _)
   | (with_reducible exact quorumlaw0_Texts.mono _ _)
   | (with_reducible exact quorumlaw0_WritesWeight.mono _ _)
   | (with_reducible exact LeO.refl _)
   | (with_reducible exact LeO.none _)
   | (with_reducible refine LeO.ite ?_ ?_)
   | (with_reducible refine LeO.bind ?_ (fun _ => ?_))
   | exact ih0 _ _ _ _ _ _ _ _
   | exact ih1 _ _ _ _ _ _ _ _ _
   | exact quorumlaw0_TablesWeight.mono _ _
   | exact quorumlaw0_Texts.mono _ _
   | exact quorumlaw0_WritesWeight.mono _ _
   | exact LeO.none _
   | refine LeO.ite ?_ ?_
   | refine LeO.bind ?_ (fun _ => ?_)
theorem quorumlaw11_Heavy.mono : ∀ a0 a1 a2 a3 a4 a5 k, LeO (quorumlaw11_Heavy.f k a0 a1 a2 a3 a4 a5) (quorumlaw11_Heavy.f (k + 1) a0 a1 a2 a3 a4 a5) := by
 intro a0 a1 a2 a3 a4 a5 k
 obtain ⟨ih0, ih1⟩ := quorumlaw11_Heavy.mono_l k
 unfold quorumlaw11_Heavy.f
 repeat' first
   | (with_reducible exact ih0 _ _ _ _ _ _ _ _)
   | (with_reducible exact ih1 _ _ _ _ _ _ _ _ _)
   | (with_reducible exact quorumlaw0_TablesWeight.mono _ _)
   | (with_reducible exact quorumlaw0_Texts.mono _ _)
   | (with_reducible exact quorumlaw0_WritesWeight.mono _ _)
   | (with_reducible exact LeO.refl _)
   | (with_reducible exact LeO.none _)
   | (with_reducible refine LeO.ite ?_ ?_)
   | (with_reducible refine LeO.bind ?_ (fun _ => ?_))
   | exact ih0 _ _ _ _ _ _ _ _
   | exact ih1 _ _ _ _ _ _ _ _ _
   | exact quorumlaw0_TablesWeight.mono _ _
   | exact quorumlaw0_Texts.mono _ _
   | exact quorumlaw0_WritesWeight.mono _ _
   | exact LeO.none _
   | refine LeO.ite ?_ ?_
   | refine LeO.bind ?_ (fun _ => ?_)
def quorumlaw11_Heavy.T1 : Bool × List (List Nat × List Nat) := (true, [([], []), ([0], [0]), ([1], [1]), ([], []), ([3], [3]), ([4, 2], [4]), ([5], [5]), ([2, 6], [2, 6]), ([], []), ([8], [8]), ([9], [9]), ([7, 10], [7, 10]), ([], []), ([12], [12]), ([13], [13]), ([11, 14], [11, 14]), ([], []), ([16], [16]), ([17], [17]), ([15, 18], [15, 18]), ([], []), ([20], [20]), ([21], [21]), ([19, 22], [19, 22]), ([23, 5, 0, 1, 2, 3, 4, 5, 6, 7, 8, 9, 10, 11, 12, 13, 14, 15, 16, 17, 18, 19, 20, 21, 22, 23], [23])])
def quorumlaw11_Heavy.B1 : List Nat := [0, 1, 3, 0, 8, 31, 63, 127, 0, 256, 768, 2047, 0, 4096, 12288, 32767, 0, 65536, 196608, 524287, 0, 1048576, 3145728, 8388607, 16777215]
theorem quorumlaw11_Heavy.tab1 : rtab .any (opsOf Try.f14 1) = quorumlaw11_Heavy.T1 := by kernel_rfl
theorem quorumlaw11_Heavy.bits1 : waitsOk quorumlaw11_Heavy.T1.2 quorumlaw11_Heavy.B1 = true := by kernel_rfl
def quorumlaw11_Heavy.T5 : Bool × List (List Nat × List Nat) := (true, [([], []), ([], []), ([1], [1]), ([], []), ([2, 3], [2, 3]), ([4], [4]), ([5], [5]), ([6], [6]), ([0, 7], [0, 7]), ([], []), ([9], [9]), ([], []), ([10, 11], [10, 11]), ([12], [12]), ([13], [13]), ([14], [14]), ([8, 15], [8, 15]), ([16, 7, 0, 1, 2, 3, 4, 5, 6, 7, 8, 9, 10, 11, 12, 13, 14, 15, 16], [0, 16])])
def quorumlaw11_Heavy.B5 : List Nat := [0, 0, 2, 0, 14, 30, 62, 126, 255, 0, 512, 0, 3584, 7680, 15872, 32256, 65535, 131071]
theorem quorumlaw11_Heavy.tab5 : rtab .any (opsOf Try.f14 5) = quorumlaw11_Heavy.T5 := by kernel_rfl
theorem quorumlaw11_Heavy.bits5 : waitsOk quorumlaw11_Heavy.T5.2 quorumlaw11_Heavy.B5 = true := by kernel_rfl
set_option maxHeartbeats 8000000 in
set_option maxRecDepth 100000 in
theorem quorumlaw11_Heavy.calls (k : Nat) (A0_0 : Option Addr) (c0_0 : Nat) (l0_0 : List (S47)) (A0_1 : Option Addr) (c0_1 : Nat) (l0_1 : List (S34)) (A0_2 : Option Addr) (c0_2 : Nat) (l0_2 : List Int) (A0_3 : Option Addr) (c0_3 : Nat) (l0_3 : List ByteArray) (A0_4 : Option Addr) (c0_4 : Nat) (l0_4 : List (S74)) (A0_5 : Option Addr) (c0_5 : Nat) (l0_5 : List Int) (r : Bool) (w : World) (hr0_0 : Kd.C k47 w A0_0 l0_0.length l0_0) (hc0_0 : l0_0.length ≤ c0_0) (hr0_1 : Kd.C k34 w A0_1 l0_1.length l0_1) (hc0_1 : l0_1.length ≤ c0_1) (hr0_2 : Kd.C (Kd.int .i64) w A0_2 l0_2.length l0_2) (hc0_2 : l0_2.length ≤ c0_2) (hr0_3 : Kd.C Kd.string w A0_3 l0_3.length l0_3) (hc0_3 : l0_3.length ≤ c0_3) (hr0_4 : Kd.C k74 w A0_4 l0_4.length l0_4) (hc0_4 : l0_4.length ≤ c0_4) (hr0_5 : Kd.C (Kd.int .i64) w A0_5 l0_5.length l0_5) (hc0_5 : l0_5.length ≤ c0_5) (h : quorumlaw11_Heavy.f k l0_0 l0_1 l0_2 l0_3 l0_4 l0_5 = some r) :
  Calls Try.prog 14 #[.agg #[.slice A0_0 l0_0.length c0_0, .slice A0_1 l0_1.length c0_1, .slice A0_2 l0_2.length c0_2, .slice A0_3 l0_3.length c0_3, .slice A0_4 l0_4.length c0_4, .slice A0_5 l0_5.length c0_5]] w fun e w' => e = .returned (.bool r) ∧ Below w.heap.size w w' := by
 have hu28 := Try.underlying28
 have HR0_0 := mk0 hr0_0
 have HC0_0 := mk0 hc0_0
 clear hr0_0 hc0_0
 have HR0_1 := mk0 hr0_1
 have HC0_1 := mk0 hc0_1
 clear hr0_1 hc0_1
 have HR0_2 := mk0 hr0_2
 have HC0_2 := mk0 hc0_2
 clear hr0_2 hc0_2
 have HR0_3 := mk0 hr0_3
 have HC0_3 := mk0 hc0_3
 clear hr0_3 hc0_3
 have HR0_4 := mk0 hr0_4
 have HC0_4 := mk0 hc0_4
 clear hr0_4 hc0_4
 have HR0_5 := mk0 hr0_5
 have HC0_5 := mk0 hc0_5
 clear hr0_5 hc0_5
 have HB := mk0 (Below.refl w.heap.size w)
 have H : ((quorumlaw0_TablesWeight.f k l0_0).bind fun t132 => ((quorumlaw0_Texts.f k l0_3).bind fun t133 => (quorumlaw11_Heavy.l0 k (wrap64 ((wrap64 ((wrap64 ((wrap64 ((wrap64 (t132 + (wrap64 (Int.tdiv t133 8)))) + (l0_1.length : Int))) + (l0_2.length : Int))) + (l0_4.length : Int))) + (l0_5.length : Int))) 0 l0_0 l0_1 l0_2 l0_3 l0_4 l0_5))) = some r := h
 clear h
 replace H := Option.bind_eq_some_iff.mp H
 obtain ⟨t132, A20, H⟩ := H
 try dsimp only at H
 have A2 := mk0 A20
 clear A20
 replace H := Option.bind_eq_some_iff.mp H
 obtain ⟨t133, A30, H⟩ := H
 try dsimp only at H
 have A3 := mk0 A30
 clear A30
 have H' := mk0 H
 clear H
 go_enter Try.func14, Try.ntmps14
 try go_wp2_with (first | ((with_reducible refine gate_dst (N := 1) rfl ?_); refine bx_ (N := 1) (cs := #[.slice A0_0 l0_0.length c0_0, .slice A0_1 l0_1.length c0_1, .slice A0_2 l0_2.length c0_2, .slice A0_3 l0_3.length c0_3, .slice A0_4 l0_4.length c0_4, .slice A0_5 l0_5.length c0_5]) (t := 28) (h := ?_); intro gb131 hg w4 hbox hb; have n2_ := mk0 (gz_ HB hg); have n3_ := mk0 (gz_ HB hg); replace HB := mk0 (bt_ (b_ HB) hb); have BK131 := mk0 (hbox); have GW131 := n2_; have GE131 := n3_; clear n2_ n3_; clear hb hbox hg))
 replace BK131 := mk0 (bD_ BK131.out)
 replace HB := mk0 (b1_ HB.out)
 refine start_ (n := 25) (S := fun w' => w'.cell? ⟨gb131, 0, none⟩ = some (.slice A0_0 l0_0.length c0_0) ∧ w'.cell? ⟨gb131, 1, none⟩ = some (.slice A0_1 l0_1.length c0_1) ∧ w'.cell? ⟨gb131, 2, none⟩ = some (.slice A0_2 l0_2.length c0_2) ∧ w'.cell? ⟨gb131, 3, none⟩ = some (.slice A0_3 l0_3.length c0_3) ∧ w'.cell? ⟨gb131, 4, none⟩ = some (.slice A0_4 l0_4.length c0_4) ∧ w'.cell? ⟨gb131, 5, none⟩ = some (.slice A0_5 l0_5.length c0_5)) (ds := []) (bt 25 0) (by kernel_rfl) rfl rfl ⟨bk_ BK131 0, bk_ BK131 1, bk_ BK131 2, bk_ BK131 3, bk_ BK131 4, bk_ BK131 5⟩ (fun hHeld => ?_); refine with_tabW quorumlaw11_Heavy.tab1 quorumlaw11_Heavy.bits1 (fun HT_ HW_ => ?_)
 generalize w4.drew = w5 at BK131 HB hHeld ⊢
 refine pq_ HT_.out 0 5 (bt 25 1) (h := ?_)
 refine pq_ HT_.out 3 8 (bt 25 9) (h := ?_)
 refine pq_ HT_.out 8 13 (bt 25 265) (h := ?_)
 refine pq_ HT_.out 12 17 (bt 25 4361) (h := ?_)
 refine pq_ HT_.out 16 21 (bt 25 69897) (h := ?_)
 refine pq_ HT_.out 20 25 (bt 25 1118473) (h := ?_)
 refine tq6_ HT_.out HW_.out 1 6 (bt 25 1118475) hHeld (h := ?_)
 refine tq6_ HT_.out HW_.out 4 9 (bt 25 1118491) hHeld (h := ?_)
 refine tq6_ HT_.out HW_.out 9 14 (bt 25 1119003) hHeld (h := ?_)
 refine pq_ HT_.out 10 15 (bt 25 1120027) (h := ?_)
 refine tq6_ HT_.out HW_.out 13 18 (bt 25 1128219) hHeld (h := ?_)
 refine pq_ HT_.out 14 19 (bt 25 1144603) (h := ?_)
 refine tq6_ HT_.out HW_.out 17 22 (bt 25 1275675) hHeld (h := ?_)
 refine pq_ HT_.out 18 23 (bt 25 1537819) (h := ?_)
 refine tq6_ HT_.out HW_.out 21 26 (bt 25 3634971) hHeld (h := ?_)
 refine pq_ HT_.out 22 27 (bt 25 7829275) (h := ?_)
 refine one_ (i := 2) (N := some 7) (bt 25 7829279) rfl rfl (one_of HT_.out (by kernel_rfl)) (by decide) (fun K hK => ?_)
 refine goes_ Try.func34 (by kernel_rfl) rfl #[.slice A0_0 l0_0.length c0_0] (by rfl) rfl rfl (by (try simp only [List.map_toArray, List.map_cons, List.map_nil]); first | done | rfl | (simp only [List.length_drop, List.length_take]; rfl)) ?_
 with_reducible refine (quorumlaw0_TablesWeight.calls k _ _ l0_0 t132 _ ?side1 ?side2 A2.out).mono ?_
 (case side1 => exact cb_ HR0_0 HB)
 (case side2 => exact HC0_0.out)
 rintro e w6 ⟨rfl, hb⟩
 refine ⟨_, rfl, ?_⟩
 replace BK131 := mk0 (u_ BK131 hb)
 replace HB := mk0 (bt_ (b_ HB) hb)
 (try clear hb)
 (try clear hb2)
 (try clear hk)
 (try clear hi)
 refine hK.out _ _ ⟨bk_ BK131 0, bk_ BK131 1, bk_ BK131 2, bk_ BK131 3, bk_ BK131 4, bk_ BK131 5⟩ (fun hHeld => ?_)
 clear hK K
 refine norm_ (a' := ?_) ?_ ?_
 rotate_left
 ·show Act.put _ (some 7) _ = _
  simp only [z_]
  rfl
 refine one_ (i := 5) (N := some 10) (bt 25 7829311) rfl rfl (one_of HT_.out (by kernel_rfl)) (by decide) (fun K hK => ?_)
 refine goes_ Try.func35 (by kernel_rfl) rfl #[.slice A0_3 l0_3.length c0_3] (by rfl) rfl rfl (by (try simp only [List.map_toArray, List.map_cons, List.map_nil]); first | done | rfl | (simp only [List.length_drop, List.length_take]; rfl)) ?_
 with_reducible refine (quorumlaw0_Texts.calls k _ _ l0_3 t133 _ ?side1 ?side2 A3.out).mono ?_
 (case side1 => exact cb_ HR0_3 HB)
 (case side2 => exact HC0_3.out)
 rintro e w' ⟨rfl, ⟨nd, rfl⟩⟩
 refine ⟨_, rfl, ?_⟩
 refine hK.out _ _ ⟨bk_ BK131 0, bk_ BK131 1, bk_ BK131 2, bk_ BK131 3, bk_ BK131 4, bk_ BK131 5⟩ (fun hHeld => ?_)
 clear hK K
 refine norm_ (a' := ?_) ?_ ?_
 rotate_left
 ·show Act.put _ (some 10) _ = _
  simp only [z_]
  rfl
 refine pq_ HT_.out 6 11 (bt 25 7829375) (h := ?_)
 refine pq_ HT_.out 7 12 (bt 25 7829503) (h := ?_)
 refine pq_ HT_.out 11 16 (bt 25 7831551) (h := ?_)
 refine pq_ HT_.out 15 20 (bt 25 7864319) (h := ?_)
 refine pq_ HT_.out 19 24 (bt 25 8388607) (h := ?_)
 refine pq_ HT_.out 23 28 (bt 25 16777215) (h := ?_)
 refine pq_ HT_.out 24 3 (bt 25 33554431) (h := ?_)
 refine done_ (done_of HT_.out (by kernel_rfl)) ?_
 try go_wp2
 go_loopg [3, 4] k (fun kq v3 v4 w' => ∃ (x3_1 : Int) (x4_1 : Int), v3 = .int .i64 x3_1 ∧ v4 = .int .i64 x4_1 ∧ Fc (quorumlaw11_Heavy.l0 kq x3_1 x4_1 l0_0 l0_1 l0_2 l0_3 l0_4 l0_5 = some r) ∧ Fc (kq ≤ k) ∧ Fc (w'.heap[gb131]? = some (.cells #[(.slice A0_0 l0_0.length c0_0), (.slice A0_1 l0_1.length c0_1), (.slice A0_2 l0_2.length c0_2), (.slice A0_3 l0_3.length c0_3), (.slice A0_4 l0_4.length c0_4), (.slice A0_5 l0_5.length c0_5)] 28 (0, 0))) ∧ Fc (Below w.heap.size w w'))
 case atStart => exact ⟨(wrap64 ((wrap64 ((wrap64 ((wrap64 ((wrap64 (t132 + (wrap64 (Int.tdiv t133 8)))) + (l0_1.length : Int))) + (l0_2.length : Int))) + (l0_4.length : Int))) + (l0_5.length : Int))), (0), (by first | rfl | (simp; done) | (simp [*]; done)), (by first | rfl | (simp; done) | (simp [*]; done)), H', ⟨Nat.le_refl _⟩, ⟨h_ BK131⟩, ⟨b_ HB⟩⟩
 case round =>
  clear H'
  obtain ⟨x3_1, x4_1, rfl, rfl, HA, HK1, BK131, HB⟩ := hrel
  cases gk with
  | zero => exact absurd HA.out (by simp [quorumlaw11_Heavy.l0])
  | succ k1 =>
   have H := HA.out
   clear HA
   simp only [quorumlaw11_Heavy.l0] at H
   as_aux_lemma =>
    have HC7 := mk0 H
    clear H
    go_upto_region 3 with (fail)
    go_cut [37] (fun v37 wc => ∃ (kq : Nat) (x37_6 : Bool), v37 = .bool x37_6 ∧ Fc (quorumlaw11_Heavy.j1 kq x3_1 x4_1 x37_6 l0_0 l0_1 l0_2 l0_3 l0_4 l0_5 = some r) ∧ Fc (kq ≤ k1) ∧ Fc (wc.heap[gb131]? = some (.cells #[(.slice A0_0 l0_0.length c0_0), (.slice A0_1 l0_1.length c0_1), (.slice A0_2 l0_2.length c0_2), (.slice A0_3 l0_3.length c0_3), (.slice A0_4 l0_4.length c0_4), (.slice A0_5 l0_5.length c0_5)] 28 (0, 0))) ∧ Fc (Below w.heap.size w wc))
    case first =>
     have H := HC7.out
     clear HC7
     by_cases c8 : x4_1 < (l0_1.length : Int)
     ·rw [if_pos c8] at H
      have c8b0 : decide (x4_1 < (l0_1.length : Int)) = true := decide_eq_true c8
      clear c8
      (first | rw [c8b0] | (simp only [i64_w, i32_w]; rw [c8b0]) | skip)
      have H' := mk0 H
      clear H
      obtain ⟨hcz9_0, hcz9_1, hcz9_2, hcz9_3, hcz9_4, hcz9_5, hfz9_0, hfz9_1, hfz9_2, hfz9_3, hfz9_4, hfz9_5⟩ := c6_ BK131
      go_wp2
      go_meet
      case rel => exact ⟨_, (decide (x3_1 < 1048576)), (by first | rfl | (simp; done) | (simp [*]; done)), H', ⟨by have := HK1.out; first | omega | exact Nat.le_refl _⟩, ⟨h_ BK131⟩, ⟨b_ HB⟩⟩
     ·rw [if_neg c8] at H
      have c8b0 : decide (x4_1 < (l0_1.length : Int)) = false := decide_eq_false c8
      clear c8
      (first | rw [c8b0] | (simp only [i64_w, i32_w]; rw [c8b0]) | skip)
      have H' := mk0 H
      clear H
      obtain ⟨hcz10_0, hcz10_1, hcz10_2, hcz10_3, hcz10_4, hcz10_5, hfz10_0, hfz10_1, hfz10_2, hfz10_3, hfz10_4, hfz10_5⟩ := c6_ BK131
      go_wp2
      go_meet
      case rel => exact ⟨_, (false), (by first | rfl | (simp; done) | (simp [*]; done)), H', ⟨by have := HK1.out; first | omega | exact Nat.le_refl _⟩, ⟨h_ BK131⟩, ⟨b_ HB⟩⟩
    case rest =>
     clear HC7
     try clear c8
     try clear c8b0
     try clear hcz10_0
     try clear hcz10_1
     try clear hcz10_2
     try clear hcz10_3
     try clear hcz10_4
     try clear hcz10_5
     try clear hcz9_0
     try clear hcz9_1
     try clear hcz9_2
     try clear hcz9_3
     try clear hcz9_4
     try clear hcz9_5
     try clear hfz10_0
     try clear hfz10_1
     try clear hfz10_2
     try clear hfz10_3
     try clear hfz10_4
     try clear hfz10_5
     try clear hfz9_0
     try clear hfz9_1
     try clear hfz9_2
     try clear hfz9_3
     try clear hfz9_4
     try clear hfz9_5
     obtain ⟨kq, x37_6, rfl, HA, HJ6, BK131, HB⟩ := hcut
     cases kq with
     | zero => exact absurd HA.out (by simp [quorumlaw11_Heavy.j1])
     | succ kj6 =>
      have H := HA.out
      clear HA
      simp only [quorumlaw11_Heavy.j1] at H
      as_aux_lemma =>
       by_cases c11 : x37_6 = true
       ·subst c11
        rw [if_pos rfl] at H
        by_cases c12 : 0 ≤ x4_1
        ·rw [if_pos c12] at H
         have c12b0 : decide (0 ≤ x4_1) = true := decide_eq_true c12
         clear c12
         by_cases c13 : x4_1 < (l0_1.length : Int)
         ·rw [if_pos c13] at H
          have c13b0 : decide (x4_1 < (l0_1.length : Int)) = true := decide_eq_true c13
          clear c13
          replace H := Option.bind_eq_some_iff.mp H
          obtain ⟨t135, A140, H⟩ := H
          try dsimp only at H
          have A14 := mk0 A140
          clear A140
          have H' := mk0 H
          clear H
          try go_wp2
          replace BK131 := mk0 (bD_ BK131.out)
          replace HB := mk0 (b1_ HB.out)
          have p134 : 0 ≤ (x4_1 : Int) := of_decide_eq_true (by first | (with_reducible assumption) | assumption)
          have q134 : x4_1 < (l0_1.length : Int) := of_decide_eq_true (by first | (with_reducible assumption) | assumption)
          obtain ⟨ad134, A134_0, c134_0, A134_1, c134_1, e134, hx134_0, hx134_1, hl134_0, hi134_0, hl134_1, hi134_1⟩ := at_T34 HR0_1.out x4_1 p134 q134
          have hw134_1 := hx134_1
          have hw134_0 := hx134_0
          cases e134
          replace hx134_0 := (bc_ HB hx134_0 :)
          replace hx134_1 := (bc_ HB hx134_1 :)
          have HR134_0 := mk0 hi134_0
          have HC134_0 := mk0 hl134_0
          clear hi134_0 hl134_0
          have HR134_1 := mk0 hi134_1
          have HC134_1 := mk0 hl134_1
          clear hi134_1 hl134_1
          replace p134 := eq_true p134
          replace q134 := eq_true q134
          have p136 : 0 ≤ (x4_1 : Int) := of_decide_eq_true (by first | (with_reducible assumption) | assumption)
          have q136 : x4_1 < (l0_1.length : Int) := of_decide_eq_true (by first | (with_reducible assumption) | assumption)
          obtain ⟨ad136, A136_0, c136_0, A136_1, c136_1, e136, hx136_0, hx136_1, hl136_0, hi136_0, hl136_1, hi136_1⟩ := at_T34 HR0_1.out x4_1 p136 q136
          have hw136_1 := hx136_1
          have hw136_0 := hx136_0
          obtain rfl : ad134 = ad136 := (by injection e136)
          replace hx136_0 := (bc_ HB hx136_0 :)
          replace hx136_1 := (bc_ HB hx136_1 :)
          have HR136_0 := mk0 hi136_0
          have HC136_0 := mk0 hl136_0
          clear hi136_0 hl136_0
          have HR136_1 := mk0 hi136_1
          have HC136_1 := mk0 hl136_1
          clear hi136_1 hl136_1
          replace p136 := eq_true p136
          replace q136 := eq_true q136
          have ea_ := Option.some.inj (hx134_0.symm.trans hx136_0)
          injection ea_ with ea_ en_ ec_
          subst ea_
          subst ec_
          clear en_
          have ea_ := Option.some.inj (hx134_1.symm.trans hx136_1)
          injection ea_ with ea_ en_ ec_
          subst ea_
          subst ec_
          clear en_
          refine start_ (n := 18) (S := fun w' => w'.cell? ⟨gb131, 0, none⟩ = some (.slice A0_0 l0_0.length c0_0) ∧ w'.cell? ⟨gb131, 1, none⟩ = some (.slice (some ad134) l0_1.length c0_1) ∧ w'.cell? ⟨gb131, 2, none⟩ = some (.slice A0_2 l0_2.length c0_2) ∧ w'.cell? ⟨gb131, 3, none⟩ = some (.slice A0_3 l0_3.length c0_3) ∧ w'.cell? ⟨gb131, 4, none⟩ = some (.slice A0_4 l0_4.length c0_4) ∧ w'.cell? ⟨gb131, 5, none⟩ = some (.slice A0_5 l0_5.length c0_5) ∧ w'.cell? (ad134.add ((x4_1).toNat * 2)) = some (.slice A134_0 ((rd_T34 l0_1 x4_1).f0).length c134_0) ∧ w'.cell? ⟨(ad134.add ((x4_1).toNat * 2)).block, (ad134.add ((x4_1).toNat * 2)).off + 1, none⟩ = some (.slice A134_1 ((rd_T34 l0_1 x4_1).f1).length c134_1) ∧ w'.cell? (ad134.add ((x4_1).toNat * 2)) = some (.slice A134_0 ((rd_T34 l0_1 x4_1).f0).length c134_0) ∧ w'.cell? ⟨(ad134.add ((x4_1).toNat * 2)).block, (ad134.add ((x4_1).toNat * 2)).off + 1, none⟩ = some (.slice A134_1 ((rd_T34 l0_1 x4_1).f1).length c134_1)) (ds := []) (bt 18 0) (by kernel_rfl) rfl rfl ⟨bk_ BK131 0, bk_ BK131 1, bk_ BK131 2, bk_ BK131 3, bk_ BK131 4, bk_ BK131 5, ((bc_ HB hw134_0 :)), ((bc_ HB hw134_1 :)), ((bc_ HB hw136_0 :)), ((bc_ HB hw136_1 :))⟩ (fun hHeld => ?_); refine with_tabW quorumlaw11_Heavy.tab5 quorumlaw11_Heavy.bits5 (fun HT_ HW_ => ?_)
          generalize wc.drew = w15 at BK131 HB HR134_0 HR134_1 HR136_0 HR136_1 hx134_0 hx134_1 hx136_0 hx136_1 hHeld ⊢
          refine pq_ HT_.out 0 40 (bt 18 1) (h := ?_)
          refine pq_ HT_.out 1 41 (bt 18 3) (h := ?_)
          refine pq_ HT_.out 3 43 (bt 18 11) (h := ?_)
          refine pq_ HT_.out 9 49 (bt 18 523) (h := ?_)
          refine pq_ HT_.out 11 51 (bt 18 2571) (h := ?_)
          refine tq10_ HT_.out HW_.out 2 42 (bt 18 2575) hHeld (h := ?_)
          refine pq_ HT_.out 4 44 (bt 18 2591) (h := ?_)
          refine pq_ HT_.out 5 45 (bt 18 2623) (h := ?_)
          refine tq10_ HT_.out HW_.out 6 46 (bt 18 2687) hHeld (h := ?_)
          refine tq10_ HT_.out HW_.out 10 50 (bt 18 3711) hHeld (h := ?_)
          refine pq_ HT_.out 12 52 (bt 18 7807) (h := ?_)
          refine pq_ HT_.out 13 53 (bt 18 15999) (h := ?_)
          refine tq10_ HT_.out HW_.out 14 54 (bt 18 32383) hHeld (h := ?_)
          refine pq_ HT_.out 15 55 (bt 18 65151) (h := ?_)
          refine one_ (i := 7) (N := some 47) (bt 18 65279) rfl rfl (one_of HT_.out (by kernel_rfl)) (by decide) (fun K hK => ?_)
          refine goes_ Try.func36 (by kernel_rfl) rfl #[.slice A134_0 ((rd_T34 l0_1 x4_1).f0).length c134_0] (by rfl) rfl rfl (by (try simp only [List.map_toArray, List.map_cons, List.map_nil]); first | done | rfl | (simp only [List.length_drop, List.length_take]; rfl)) ?_
          with_reducible refine (quorumlaw0_WritesWeight.calls kj6 _ _ ((rd_T34 l0_1 x4_1).f0) t135 _ ?side1 ?side2 A14.out).mono ?_
          (case side1 => exact cb_ HR134_0 HB)
          (case side2 => exact HC134_0.out)
          rintro e w' ⟨rfl, ⟨nd, rfl⟩⟩
          refine ⟨_, rfl, ?_⟩
          refine hK.out _ _ ⟨bk_ BK131 0, bk_ BK131 1, bk_ BK131 2, bk_ BK131 3, bk_ BK131 4, bk_ BK131 5, ((bc_ HB hw134_0 :)), ((bc_ HB hw134_1 :)), ((bc_ HB hw136_0 :)), ((bc_ HB hw136_1 :))⟩ (fun hHeld => ?_)
          clear hK K
          refine norm_ (a' := ?_) ?_ ?_
          rotate_left
          ·show Act.put _ (some 47) _ = _
           simp only [z_]
           rfl
          refine pq_ HT_.out 8 48 (bt 18 65535) (h := ?_)
          refine pq_ HT_.out 16 56 (bt 18 131071) (h := ?_)
          refine pq_ HT_.out 17 3 (bt 18 262143) (h := ?_)
          refine done_ (done_of HT_.out (by kernel_rfl)) ?_
          try go_wp2
          go_roundg kj6
          case measure => have := HK1.out; have := HJ6.out; omega
          case rel => exact ⟨(wrap64 ((wrap64 (x3_1 + t135)) + (((rd_T34 l0_1 x4_1).f1).length : Int))), (wrap64 (x4_1 + 1)), (by first | rfl | (simp; done) | (simp [*]; done)), (by first | rfl | (simp; done) | (simp [*]; done)), H', ⟨by have := HK1.out; have := HJ6.out; omega⟩, ⟨h_ BK131⟩, ⟨b_ HB⟩⟩
         ·rw [if_neg c13] at H
          exact absurd H (by simp)
        ·rw [if_neg c12] at H
         exact absurd H (by simp)
       ·replace c11 := Bool.eq_false_iff.mpr c11
        subst c11
        rw [if_neg (show ¬ (false = true) by decide)] at H
        obtain rfl := Option.some.inj H
        go_wp2
        go_ret
        exact ⟨by first | rfl | (simp [errW_none, errW_some] <;> rfl) | (simp [*, errW_none, errW_some] <;> rfl), b_ HB⟩

end Go.Proofs.Ytbaecdcfefmcgaa.PVow
