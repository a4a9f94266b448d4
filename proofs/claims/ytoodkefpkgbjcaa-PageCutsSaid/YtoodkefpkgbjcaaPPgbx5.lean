-- PRINTED by print.py (a twelfth state) out of the translation. Not trusted: Lean checks it.
import Derived.Test.YtoodkefpkgbjcaaPPgbx0
import Derived.Test.YtoodkefpkgbjcaaPPgbx4
namespace Go.Proofs.Ytoodkefpkgbjcaa.PPgb
open Go.RowKit Go.Proofs.YtoodkefpkgbjcaaW.PrintWords Go.Proofs.YtoodkefpkgbjcaaW.PrintLast Go.Proofs.YtoodkefpkgbjcaaW.PrintMore
attribute [local go_sem] max2_int min2_int max_two min_two max_three min_three max_four min_four   -- for this text's walks alone
set_option linter.unusedVariables false
set_option linter.unusedSimpArgs false

/-! ### slices_BinarySearch_int_int: function 70 -/
def slices_BinarySearch_int_int.l0 : Nat → List Int → Int → Int → Int → Int → Option (Int × Bool)
 | 0, _, _, _, _, _ => none
 | k + 1, x0, x1, x6, x7, x8 => if x7 < x8 then (if 0 ≤ (wrap64 ((IntKind.u64.wrap (wrap64 (x7 + x8))) / 2)) then (if (wrap64 ((IntKind.u64.wrap (wrap64 (x7 + x8))) / 2)) < (x0.length : Int) then ((cmp_Less_int.f (rd x0 (wrap64 ((IntKind.u64.wrap (wrap64 (x7 + x8))) / 2))) x1).bind fun t189 => (if t189 = true then (slices_BinarySearch_int_int.l0 k x0 x1 x6 (wrap64 ((wrap64 ((IntKind.u64.wrap (wrap64 (x7 + x8))) / 2)) + 1)) x8) else (slices_BinarySearch_int_int.l0 k x0 x1 x6 x7 (wrap64 ((IntKind.u64.wrap (wrap64 (x7 + x8))) / 2))))) else (none)) else (none)) else (if x7 < x6 then (if 0 ≤ x7 then (if x7 < (x0.length : Int) then (if (rd x0 x7) = x1 then (some (x7, true)) else ((slices_isNaN_int.f (rd x0 x7)).bind fun t192 => (if t192 = true then ((slices_isNaN_int.f x1).bind fun t193 => (some (x7, t193))) else (some (x7, false))))) else (none)) else (none)) else (some (x7, false)))
def slices_BinarySearch_int_int.f (k : Nat) (l0 : List Int) (a1 : Int) : Option (Int × Bool) := slices_BinarySearch_int_int.l0 k l0 a1 (l0.length : Int) 0 (l0.length : Int)
theorem slices_BinarySearch_int_int.mono_l : ∀ k, (∀ y0 y1 y2 y3 y4, LeO (slices_BinarySearch_int_int.l0 k y0 y1 y2 y3 y4) (slices_BinarySearch_int_int.l0 (k + 1) y0 y1 y2 y3 y4))
 | 0 => fun _ _ _ _ _ r h => by simp [slices_BinarySearch_int_int.l0] at h
 | k + 1 => by
  have ih0 := slices_BinarySearch_int_int.mono_l k
  ·intro y0 y1 y2 y3 y4
   unfold slices_BinarySearch_int_int.l0
   repeat' first
   | (with_reducible exact ih0 _ _ _ _ _)
   | (with_reducible exact LeO.refl _)
   | (with_reducible exact LeO.none _)
   | (with_reducible refine LeO.ite ?_ ?_)
   | (with_reducible refine LeO.bind ?_ (fun _ => ?_))
   | exact ih0 _ _ _ _ _
   | exact LeO.none _
   | refine LeO.ite ?_ ?_
   | refine LeO.bind ?_ (fun _ => ?_)
theorem slices_BinarySearch_int_int.mono : ∀ a0 a1 k, LeO (slices_BinarySearch_int_int.f k a0 a1) (slices_BinarySearch_int_int.f (k + 1) a0 a1) := by
 intro a0 a1 k
 have ih0 := slices_BinarySearch_int_int.mono_l k
 unfold slices_BinarySearch_int_int.f
 repeat' first
   | (with_reducible exact ih0 _ _ _ _ _)
   | (with_reducible exact LeO.refl _)
   | (with_reducible exact LeO.none _)
   | (with_reducible refine LeO.ite ?_ ?_)
   | (with_reducible refine LeO.bind ?_ (fun _ => ?_))
   | exact ih0 _ _ _ _ _
   | exact LeO.none _
   | refine LeO.ite ?_ ?_
   | refine LeO.bind ?_ (fun _ => ?_)
set_option maxHeartbeats 8000000 in
set_option maxRecDepth 100000 in
theorem slices_BinarySearch_int_int.calls (k : Nat) (A0 : Option Addr) (c0 : Nat) (l0 : List Int) (a1 : Int) (r1 : Int) (r2 : Bool) (w : World) (hr0 : Kd.C (Kd.int .i64) w A0 l0.length l0) (hc0 : l0.length ≤ c0) (h : slices_BinarySearch_int_int.f k l0 a1 = some (r1, r2)) :
  Calls Try.prog 70 #[.slice A0 l0.length c0, .int .i64 a1] w fun e w' => e = .returned (.tuple #[.int .i64 r1, .bool r2]) ∧ Drawn0 w w' := by
 have HR0 := mk0 hr0
 have HC0 := mk0 hc0
 clear hr0 hc0
 have H : (slices_BinarySearch_int_int.l0 k l0 a1 (l0.length : Int) 0 (l0.length : Int)) = some (r1, r2) := h
 clear h
 have H' := mk0 H
 clear H
 go_enter Try.func70, Try.ntmps70
 go_wp2
 go_loopg [7, 8] k (fun kq v7 v8 w' => ∃ (x7_1 : Int) (x8_1 : Int), v7 = .int .i64 x7_1 ∧ v8 = .int .i64 x8_1 ∧ Fc (slices_BinarySearch_int_int.l0 kq l0 a1 (l0.length : Int) x7_1 x8_1 = some (r1, r2)) ∧ Fc (kq ≤ k) ∧ Drawn0 w w')
 case atStart => exact ⟨(0), ((l0.length : Int)), (by first | rfl | (simp; done) | (simp [*]; done)), (by first | rfl | (simp; done) | (simp [*]; done)), H', ⟨Nat.le_refl _⟩, by repeat (first | exact Drawn0.refl _ | apply Drawn0.step)⟩
 case round =>
  clear H'
  obtain ⟨x7_1, x8_1, rfl, rfl, HA, HK1, ⟨m1, rfl⟩⟩ := hrel
  cases gk with
  | zero => exact absurd HA.out (by simp [slices_BinarySearch_int_int.l0])
  | succ k1 =>
   have H := HA.out
   clear HA
   simp only [slices_BinarySearch_int_int.l0] at H
   as_aux_lemma =>
    by_cases c3 : x7_1 < x8_1
    ·rw [if_pos c3] at H
     have c3b0 : decide (x7_1 < x8_1) = true := decide_eq_true c3
     clear c3
     obtain ⟨ji4, hji4⟩ : ∃ j_ : Int, (wrap64 ((IntKind.u64.wrap (wrap64 (x7_1 + x8_1))) / 2)) = j_ := ⟨_, rfl⟩
     replace H : (if 0 ≤ (ji4) then (if (ji4) < (l0.length : Int) then ((cmp_Less_int.f (rd l0 (ji4)) a1).bind fun t189 => (if t189 = true then (slices_BinarySearch_int_int.l0 k1 l0 a1 (l0.length : Int) (wrap64 ((ji4) + 1)) x8_1) else (slices_BinarySearch_int_int.l0 k1 l0 a1 (l0.length : Int) x7_1 ji4))) else (none)) else (none)) = some (r1, r2) := by first | (rw [hji4] at H; exact H) | (simp only [hji4] at H ⊢; exact H)
     have hji4w : (IntKind.i64.wrap ((IntKind.u64.wrap (wrap64 (x7_1 + x8_1))) / 2)) = ji4 := (i64_w _).trans hji4
     by_cases c5 : 0 ≤ (ji4)
     ·rw [if_pos c5] at H
      have c5b0 : decide (0 ≤ (ji4)) = true := decide_eq_true c5
      clear c5
      by_cases c6 : (ji4) < (l0.length : Int)
      ·rw [if_pos c6] at H
       have c6b0 : decide ((ji4) < (l0.length : Int)) = true := decide_eq_true c6
       clear c6
       replace H := Option.bind_eq_some_iff.mp H
       obtain ⟨t189, A70, H⟩ := H
       try dsimp only at H
       have A7 := mk0 A70
       clear A70
       by_cases c8 : t189 = true
       ·subst c8
        rw [if_pos rfl] at H
        have H' := mk0 H
        clear H
        have p188 : 0 ≤ ((ji4) : Int) := of_decide_eq_true (by first | (with_reducible assumption) | assumption)
        have q188 : (ji4) < (l0.length : Int) := of_decide_eq_true (by first | (with_reducible assumption) | assumption)
        obtain ⟨ad188, e188, hx188_0⟩ := Kd.at_int HR0.out (ji4) p188 q188
        cases e188
        replace p188 := eq_true p188
        replace q188 := eq_true q188
        go_wp2_with (first | ((with_reducible refine gate_callee (f := 125) rfl ?_); refine goesL_ (some 27) rfl rfl Try.func125 (by kernel_rfl) rfl #[.int .i64 (rd l0 (ji4)), .int .i64 a1] rfl (by (try simp only [List.map_toArray, List.map_cons, List.map_nil]); first | done | (simp only [hji4]; rfl) | rfl | (simp only [List.length_drop, List.length_take]; rfl)) ?_; (with_reducible refine (cmp_Less_int.calls (rd l0 (ji4)) a1 true _ A7.out).mono ?_); rintro e w' ⟨rfl, ⟨nd, rfl⟩⟩; refine ⟨_, rfl, ?_⟩))
        go_roundg k1
        case measure => have := HK1.out; omega
        case rel => exact ⟨(wrap64 ((ji4) + 1)), (x8_1), (by first | rfl | (simp; done) | (simp only [← hji4] <;> (first | rfl | simp)) | (simp [*]; done)), (by first | rfl | (simp; done) | (simp [*]; done)), H', ⟨by have := HK1.out; omega⟩, by repeat (first | exact Drawn0.refl _ | apply Drawn0.step)⟩
       ·replace c8 := Bool.eq_false_iff.mpr c8
        subst c8
        rw [if_neg (show ¬ (false = true) by decide)] at H
        have H' := mk0 H
        clear H
        have p188 : 0 ≤ ((ji4) : Int) := of_decide_eq_true (by first | (with_reducible assumption) | assumption)
        have q188 : (ji4) < (l0.length : Int) := of_decide_eq_true (by first | (with_reducible assumption) | assumption)
        obtain ⟨ad188, e188, hx188_0⟩ := Kd.at_int HR0.out (ji4) p188 q188
        cases e188
        replace p188 := eq_true p188
        replace q188 := eq_true q188
        go_wp2_with (first | ((with_reducible refine gate_callee (f := 125) rfl ?_); refine goesL_ (some 27) rfl rfl Try.func125 (by kernel_rfl) rfl #[.int .i64 (rd l0 (ji4)), .int .i64 a1] rfl (by (try simp only [List.map_toArray, List.map_cons, List.map_nil]); first | done | (simp only [hji4]; rfl) | rfl | (simp only [List.length_drop, List.length_take]; rfl)) ?_; (with_reducible refine (cmp_Less_int.calls (rd l0 (ji4)) a1 false _ A7.out).mono ?_); rintro e w' ⟨rfl, ⟨nd, rfl⟩⟩; refine ⟨_, rfl, ?_⟩))
        go_roundg k1
        case measure => have := HK1.out; omega
        case rel => exact ⟨(x7_1), (ji4), (by first | rfl | (simp; done) | (simp [*]; done)), (by first | rfl | (simp; done) | (simp only [← hji4] <;> (first | rfl | simp)) | (simp [*]; done)), H', ⟨by have := HK1.out; omega⟩, by repeat (first | exact Drawn0.refl _ | apply Drawn0.step)⟩
      ·rw [if_neg c6] at H
       exact absurd H (by simp)
     ·rw [if_neg c5] at H
      exact absurd H (by simp)
    ·rw [if_neg c3] at H
     have c3b0 : decide (x7_1 < x8_1) = false := decide_eq_false c3
     clear c3
     by_cases c9 : x7_1 < (l0.length : Int)
     ·rw [if_pos c9] at H
      have c9b0 : decide (x7_1 < (l0.length : Int)) = true := decide_eq_true c9
      clear c9
      by_cases c10 : 0 ≤ x7_1
      ·rw [if_pos c10] at H
       have c10b0 : decide (0 ≤ x7_1) = true := decide_eq_true c10
       clear c10
       by_cases c11 : x7_1 < (l0.length : Int)
       ·rw [if_pos c11] at H
        have c11b0 : decide (x7_1 < (l0.length : Int)) = true := decide_eq_true c11
        clear c11
        by_cases c12 : (rd l0 x7_1) = a1
        ·rw [if_pos c12] at H
         have c12b0 : ((rd l0 x7_1) == a1) = true := beq_iff_eq.mpr c12
         have c12b1 : ((rd l0 x7_1) != a1) = false := bne_eq_false_iff_eq.mpr c12
         clear c12
         simp only [Option.some.injEq, Prod.mk.injEq] at H
         obtain ⟨rfl, rfl⟩ := H
         have p190 : 0 ≤ (x7_1 : Int) := of_decide_eq_true (by first | (with_reducible assumption) | assumption)
         have q190 : x7_1 < (l0.length : Int) := of_decide_eq_true (by first | (with_reducible assumption) | assumption)
         obtain ⟨ad190, e190, hx190_0⟩ := Kd.at_int HR0.out x7_1 p190 q190
         cases e190
         replace p190 := eq_true p190
         replace q190 := eq_true q190
         go_wp2
         go_ret2
         exact ⟨by first | rfl | (simp; done) | (simp [*]; done), by repeat (first | exact Drawn0.refl _ | apply Drawn0.step)⟩
        ·rw [if_neg c12] at H
         have c12b0 : ((rd l0 x7_1) == a1) = false := beq_eq_false_iff_ne.mpr c12
         have c12b1 : ((rd l0 x7_1) != a1) = true := bne_iff_ne.mpr c12
         replace H := Option.bind_eq_some_iff.mp H
         obtain ⟨t192, A130, H⟩ := H
         try dsimp only at H
         have A13 := mk0 A130
         clear A130
         by_cases c14 : t192 = true
         ·subst c14
          rw [if_pos rfl] at H
          replace H := Option.bind_eq_some_iff.mp H
          obtain ⟨t193, A150, H⟩ := H
          try dsimp only at H
          have A15 := mk0 A150
          clear A150
          simp only [Option.some.injEq, Prod.mk.injEq] at H
          obtain ⟨rfl, rfl⟩ := H
          have p190 : 0 ≤ (x7_1 : Int) := of_decide_eq_true (by first | (with_reducible assumption) | assumption)
          have q190 : x7_1 < (l0.length : Int) := of_decide_eq_true (by first | (with_reducible assumption) | assumption)
          obtain ⟨ad190, e190, hx190_0⟩ := Kd.at_int HR0.out x7_1 p190 q190
          cases e190
          replace p190 := eq_true p190
          replace q190 := eq_true q190
          have p191 : 0 ≤ (x7_1 : Int) := of_decide_eq_true (by first | (with_reducible assumption) | assumption)
          have q191 : x7_1 < (l0.length : Int) := of_decide_eq_true (by first | (with_reducible assumption) | assumption)
          obtain ⟨ad191, e191, hx191_0⟩ := Kd.at_int HR0.out x7_1 p191 q191
          obtain rfl : ad190 = ad191 := (by injection e191)
          replace p191 := eq_true p191
          replace q191 := eq_true q191
          go_wp2_with (first | (go_at_call 126; (with_reducible refine (slices_isNaN_int.calls (rd l0 x7_1) true _ A13.out).mono ?_); rintro e w' ⟨rfl, ⟨nd, rfl⟩⟩) | (go_at_call 126; (with_reducible refine (slices_isNaN_int.calls a1 t193 _ A15.out).mono ?_); rintro e w' ⟨rfl, ⟨nd, rfl⟩⟩))
          go_ret2
          exact ⟨by first | rfl | (simp; done) | (simp [*]; done), by repeat (first | exact Drawn0.refl _ | apply Drawn0.step)⟩
         ·replace c14 := Bool.eq_false_iff.mpr c14
          subst c14
          rw [if_neg (show ¬ (false = true) by decide)] at H
          simp only [Option.some.injEq, Prod.mk.injEq] at H
          obtain ⟨rfl, rfl⟩ := H
          have p190 : 0 ≤ (x7_1 : Int) := of_decide_eq_true (by first | (with_reducible assumption) | assumption)
          have q190 : x7_1 < (l0.length : Int) := of_decide_eq_true (by first | (with_reducible assumption) | assumption)
          obtain ⟨ad190, e190, hx190_0⟩ := Kd.at_int HR0.out x7_1 p190 q190
          cases e190
          replace p190 := eq_true p190
          replace q190 := eq_true q190
          have p191 : 0 ≤ (x7_1 : Int) := of_decide_eq_true (by first | (with_reducible assumption) | assumption)
          have q191 : x7_1 < (l0.length : Int) := of_decide_eq_true (by first | (with_reducible assumption) | assumption)
          obtain ⟨ad191, e191, hx191_0⟩ := Kd.at_int HR0.out x7_1 p191 q191
          obtain rfl : ad190 = ad191 := (by injection e191)
          replace p191 := eq_true p191
          replace q191 := eq_true q191
          go_wp2_with (first | (go_at_call 126; (with_reducible refine (slices_isNaN_int.calls (rd l0 x7_1) false _ A13.out).mono ?_); rintro e w' ⟨rfl, ⟨nd, rfl⟩⟩))
          go_ret2
          exact ⟨by first | rfl | (simp; done) | (simp [*]; done), by repeat (first | exact Drawn0.refl _ | apply Drawn0.step)⟩
       ·rw [if_neg c11] at H
        exact absurd H (by simp)
      ·rw [if_neg c10] at H
       exact absurd H (by simp)
     ·rw [if_neg c9] at H
      have c9b0 : decide (x7_1 < (l0.length : Int)) = false := decide_eq_false c9
      clear c9
      simp only [Option.some.injEq, Prod.mk.injEq] at H
      obtain ⟨rfl, rfl⟩ := H
      go_wp2
      go_ret2
      exact ⟨by first | rfl | (simp; done) | (simp [*]; done), by repeat (first | exact Drawn0.refl _ | apply Drawn0.step)⟩

-- NOT PRINTED: function 127 (slices_overlaps_int)

-- NOT PRINTED: function 163 (slices_rotateLeft_int)

-- NOT PRINTED: function 128 (slices_rotateRight_int)

/-! ### slices_Insert_int_int: function 71 (by hand) -/
open HCopy in
set_option maxHeartbeats 2000000 in
set_option maxRecDepth 100000 in
/-- There is room, and the place is not the end. -/
theorem slices_Insert_int_int.room (g cap n i : Nat) (cur : Array Value) (inner xs : List Value) (g2 c2 : Nat) (cur2 : Array Value) (w : World)
    (hg : w.heap[g]? = some (.cells cur 3 (0, 0))) (hg2 : w.heap[g2]? = some (.cells cur2 3 (0, 0))) (hne : g2 ≠ g) (hi : i < n) (hroom : n + 1 ≤ cap) (hcm : cap ≤ maxLen)
    (hsz : cur.size = cap * 1) (hin : cur.toList.take (n * 1) = inner) (hsz2 : 1 ≤ cur2.size) (hin2 : cur2.toList.take 1 = xs) (h1 : ∀ v ∈ inner, v.oneCell' = true) (h2 : ∀ v ∈ xs, v.oneCell' = true) :
    Calls Try.prog 71 #[.slice (some ⟨g, 0, none⟩) n cap, .int .i64 i, .slice (some ⟨g2, 0, none⟩) 1 c2] w fun e w' =>
      ∃ cur' : Array Value, e = .returned (.slice (some ⟨g, 0, none⟩) (n + 1) cap) ∧ w' = w.drew.setRow g cur' ∧ cur'.size = cap * 1 ∧ cur'.toList.take ((n + 1) * 1) = inner.take (i * 1) ++ xs ++ inner.drop (i * 1) := by
  have hlen : inner.length = n * 1 := by rw [← hin, List.length_take, Array.length_toList, hsz]; omega
  have hxl : xs.length = 1 := by rw [← hin2, List.length_take, Array.length_toList]; omega
  have hmx : cap ≤ 9223372036854775807 := by unfold maxLen at hcm; omega
  have hu := Try.underlying24
  have hs : (Try.prog.info? 3).map (·.size) = some 1 := by
    have h := info3
    cases hq : Try.prog.info? 3 with
    | none => rw [hq] at h; simp at h
    | some i => rw [hq] at h; simp at h; simp [h.2.1]
  have hdl : (inner.drop (i * 1)).length = (n - i) * 1 := by rw [List.length_drop, hlen, Nat.sub_mul]
  -- the first copy
  obtain ⟨cur1, hcur1⟩ : ∃ c : Array Value, c = (cur.toList.take ((i + 1) * 1) ++ inner.drop (i * 1) ++ cur.toList.drop ((i + 1) * 1 + (inner.drop (i * 1)).length)).toArray := ⟨_, rfl⟩
  have hcp1 : ∀ ty dc sc, (Builtin.copy_ #[24, 24] ty #[.slice (some ⟨g, (i + 1) * 1, none⟩) (n - i) dc, .slice (some ⟨g, i * 1, none⟩) (n + 1 - i) sc]).run Try.prog w.drew = .ok (goInt (n - i : Nat)) (w.drew.setRow g cur1) := fun ty dc sc => by
    rw [hcur1]
    refine run_copy_k w.drew 24 24 ty 3 g ((i + 1) * 1) (n - i) dc ⟨g, i * 1, none⟩ (n + 1 - i) sc cur 3 (inner.drop (i * 1)) 1 (n - i) hu hs hg (by show _ = min _ _; omega) hdl (fun j v hj => ?_) (by rw [hdl, hsz]; omega) (fun v hv => h1 v (List.mem_of_mem_drop hv))
    rw [List.getElem?_drop, ← hin] at hj
    have hjl : i * 1 + j < n * 1 := by
      rcases Nat.lt_or_ge (i * 1 + j) (n * 1) with h | h
      · exact h
      · rw [List.getElem?_eq_none (by rw [List.length_take]; omega)] at hj; cases hj
    rw [List.getElem?_take_of_lt hjl] at hj
    rw [Addr.add_lit]
    exact (cell_of_row w g _ cur 3 (0, 0) hg).trans (by rw [← hj]; simp)
  have hsz1 : cur1.size = cap * 1 := by
    rw [hcur1]
    simp only [List.size_toArray, List.length_append, List.length_take, List.length_drop, Array.length_toList, hlen, hsz]
    omega
  have hW1 : (w.drew.setRow g cur1).heap[g]? = some (.cells cur1 3 (0, 0)) := setRow_heap w.drew g cur _ 3 _ hg
  have hW2 : (w.drew.setRow g cur1).heap[g2]? = some (.cells cur2 3 (0, 0)) := (setRow_other w.drew g g2 cur1 hne).trans hg2
  obtain ⟨W1, hW⟩ : ∃ W1, W1 = w.drew.setRow g cur1 := ⟨_, rfl⟩
  obtain ⟨cur', hcur'⟩ : ∃ c : Array Value, c = (cur1.toList.take (i * 1) ++ xs ++ cur1.toList.drop (i * 1 + xs.length)).toArray := ⟨_, rfl⟩
  have hcp2 : ∀ ty dc sc, (Builtin.copy_ #[24, 24] ty #[.slice (some ⟨g, i * 1, none⟩) (n + 1 - i) dc, .slice (some ⟨g2, 0, none⟩) 1 sc]).run Try.prog W1 = .ok (goInt (1 : Nat)) (W1.setRow g cur') := fun ty dc sc => by
    rw [hcur', hW]
    refine run_copy_k _ 24 24 ty 3 g (i * 1) (n + 1 - i) dc ⟨g2, 0, none⟩ 1 sc cur1 3 xs 1 1 hu hs hW1 (by show _ = min _ _; omega) (by rw [hxl]) (fun j v hj => ?_) (by rw [hxl, hsz1]; omega) h2
    rw [← hin2] at hj
    have hjl : j < 1 := by
      rcases Nat.lt_or_ge j 1 with h | h
      · exact h
      · rw [List.getElem?_eq_none (by rw [List.length_take]; omega)] at hj; cases hj
    rw [List.getElem?_take_of_lt hjl] at hj
    rw [Addr.add_lit]
    exact (cell_of_row _ g2 _ cur2 3 (0, 0) hW2).trans (by rw [← hj]; simp)
  have hov : ∀ lb cb, (callFunc 127 #[.slice (some ⟨g2, 0, none⟩) 1 c2, .slice (some ⟨g, (i + 1) * 1, none⟩) lb cb]).run Try.prog w = .ok (.value (.bool false)) w := fun lb cb => by
    rw [run_callFunc_extern Try.func127 (by kernel_rfl) (by kernel_rfl) (by kernel_rfl) (e := Extern.SlicesOverlaps.overlaps #[24, 24] #[4]) (by kernel_rfl),
      Lib.run_overlaps_apart w 24 4 3 hu 1 (fun w => by kernel_rfl) ⟨g2, 0, none⟩ ⟨g, (i + 1) * 1, none⟩ 1 c2 lb cb hne 3 3 cur2.size cur.size (by simp [World.shape?, hg2]) (by simp [World.shape?, hg]) (by omega) (by simp [World.frozen?, hg2]) (by simp [World.frozen?, hg2])]
    rfl
  have hfin : cur'.size = cap * 1 ∧ cur'.toList.take ((n + 1) * 1) = inner.take (i * 1) ++ xs ++ inner.drop (i * 1) := by
    constructor
    · rw [hcur']
      simp only [List.size_toArray, List.length_append, List.length_take, List.length_drop, Array.length_toList, hxl, hsz1]
      omega
    · have e1 : cur1.toList.take (i * 1) = inner.take (i * 1) := by
        rw [hcur1, ← hin]
        simp only [List.append_assoc]
        rw [List.take_append_of_le_length (by rw [List.length_take, Array.length_toList, hsz]; omega), List.take_take, List.take_take]
        congr 1
        omega
      have e2 : (cur1.toList.drop (i * 1 + 1)).take ((n - i) * 1) = inner.drop (i * 1) := by
        have h3 : (cur.toList.take ((i + 1) * 1)).length = i * 1 + 1 := by rw [List.length_take, Array.length_toList, hsz]; omega
        rw [hcur1]
        simp only [List.append_assoc]
        rw [← h3, List.drop_left, ← hdl, List.take_left]
      rw [hcur']
      simp only [List.append_assoc]
      have h4 : (cur1.toList.take (i * 1)).length = i * 1 := by rw [List.length_take, Array.length_toList, hsz1]; omega
      have e3 : (n + 1) * 1 = (cur1.toList.take (i * 1)).length + (xs.length + (n - i) * 1) := by rw [h4, hxl]; omega
      rw [e3, List.take_length_add_append, List.take_length_add_append, hxl, e2, e1]
  have HF := Aside0.mk hfin
  have HE := Aside0.mk (show W1.setRow g cur' = w.drew.setRow g cur' by rw [hW, setRow_setRow])
  rw [← hW] at hcp1
  clear hfin hcur' hW hW1 hW2 hsz1 hcur1 hdl hlen hxl hsz hin hsz2 hin2 h1 h2 hg hg2 hcm
  have hin' : (i : Int) ≤ (n : Int) + 1 := by omega
  have hb1 : ¬ ((i : Int) = (n : Int)) := by omega
  have hb2 : ¬ ((n : Int) + 1 > (cap : Int)) := by omega
  have hb7 : (0 : Int) ≤ (i : Int) + 1 := by omega
  have hb8 : i ≤ n := by omega
  have hb9 : i ≤ n + 1 := by omega
  have hb4 : ¬ (cap = i) := by omega
  have hb5 : ¬ (cap = i + 1) := by omega
  have hw1 : IntKind.i64.wrap ((i : Int) + 1) = (i : Int) + 1 := by rw [IntKind.wrap_i64]; omega
  have htn : ((i : Int) + 1).toNat = i + 1 := by omega
  simp only [Nat.mul_one] at hov hcp1 hcp2
  go_enter Try.func71, Try.ntmps71
  go_wp2_with (simp only [hov])
  go_region_law (refine step_copy_run rfl _ _ 24 24 rfl _ _ (by simp [Act.eval, Act.put]) (by simp [Act.eval, Act.put]) (hcp1 _ _ _) ?_)
  go_wp2_with (at_builtin; refine wpList_copy_run _ rfl _ _ 24 24 rfl _ _ rfl rfl (hcp2 _ _ _) ?_)
  go_ret
  exact ⟨cur', rfl, HE.out, HF.out.1, HF.out.2⟩
open HCopy in
set_option maxHeartbeats 2000000 in
set_option maxRecDepth 100000 in
/-- There is no room, and the place is not the end: a new row. -/
theorem slices_Insert_int_int.grow (g cap n i : Nat) (cur : Array Value) (inner xs : List Value) (g2 c2 : Nat) (cur2 : Array Value) (w : World)
    (hg : w.heap[g]? = some (.cells cur 3 (0, 0))) (hg2 : w.heap[g2]? = some (.cells cur2 3 (0, 0))) (hi : i < n) (hnc : n ≤ cap) (hroom : cap < n + 1) (hbig : n + 1 < 17592186044416)
    (hsz : cur.size = cap * 1) (hin : cur.toList.take (n * 1) = inner) (hsz2 : 1 ≤ cur2.size) (hin2 : cur2.toList.take 1 = xs) (h1 : ∀ v ∈ inner, v.oneCell' = true) (h2 : ∀ v ∈ xs, v.oneCell' = true) :
    Calls Try.prog 71 #[.slice (some ⟨g, 0, none⟩) n cap, .int .i64 i, .slice (some ⟨g2, 0, none⟩) 1 c2] w fun e w' =>
      ∃ (cap' : Nat) (cur' : Array Value), e = .returned (.slice (some ⟨w.heap.size, 0, none⟩) (n + 1) cap') ∧ n + 1 ≤ cap' ∧ cap' ≤ maxLen ∧ w'.heap[w.heap.size]? = some (.cells cur' 3 (0, 0)) ∧ Below w.heap.size w w' ∧ cur'.size = cap' * 1 ∧ cur'.toList.take ((n + 1) * 1) = inner.take (i * 1) ++ xs ++ inner.drop (i * 1) := by
  have hlen : inner.length = n * 1 := by rw [← hin, List.length_take, Array.length_toList, hsz]; omega
  have hxl : xs.length = 1 := by rw [← hin2, List.length_take, Array.length_toList]; omega
  have hu := Try.underlying24
  have hs : (Try.prog.info? 3).map (·.size) = some 1 := by
    have h := info3
    cases hq : Try.prog.info? 3 with
    | none => rw [hq] at h; simp at h
    | some i => rw [hq] at h; simp at h; simp [h.2.1]
  have hdl : (inner.drop (i * 1)).length = (n - i) * 1 := by rw [List.length_drop, hlen, Nat.sub_mul]
  have hgl : g < w.heap.size := blk_lt hg
  have hg2l : g2 < w.heap.size := blk_lt hg2
  obtain ⟨i0, hi0, hzz⟩ := Option.map_eq_some_iff.1 info3
  simp only [Prod.mk.injEq] at hzz
  obtain ⟨cap', hc1, hc2, happ⟩ := run_append_zeros_grow (P := Try.prog) w 24 3 24 3 i0 _ 1 8 hu Try.underlying3 hi0 hzz.1 hzz.2.1 hzz.2.2 (by rfl) (by omega) (by omega) g i cap cur hg (by rw [hsz]; omega) .i64 (n + 1 - i) (by omega) (by omega) (by omega)
  rw [show i + (n + 1 - i) = n + 1 by omega] at happ
  obtain ⟨cur0, hcur0⟩ : ∃ c : Array Value, c = ((cur.toList.take (i * 1)).toArray ++ Builtin.zeroCells ((.int .i64 0) : Value).cells (n + 1 - i) ++ Builtin.zeroCells ((.int .i64 0) : Value).cells (cap' - (i + (n + 1 - i)))) := ⟨_, rfl⟩
  have hsz0 : cur0.size = cap' * 1 := by
    rw [hcur0]
    simp only [Array.size_append, List.size_toArray, List.length_take, Array.length_toList, hsz, size_zeroCells, Value.cells, List.length_cons, List.length_nil]
    omega
  have ht0 : cur0.toList.take (i * 1) = inner.take (i * 1) := by
    rw [hcur0, ← hin]
    simp only [Array.toList_append, List.append_assoc]
    rw [List.take_append_of_le_length (by rw [List.length_take, Array.length_toList, hsz]; omega), List.take_take, List.take_take]
    congr 1
    omega
  rw [show cap' - (n + 1) = cap' - (i + (n + 1 - i)) by omega, ← hcur0] at happ
  obtain ⟨W0, hW0⟩ : ∃ W0, W0 = w.drew.alloc (.cells cur0 3) := ⟨_, rfl⟩
  have hB0 : Below w.heap.size w W0 := by rw [hW0]; exact below_alloc (below_drew (Below.refl _ _)) _
  have hh0 : W0.heap[w.heap.size]? = some (.cells cur0 3 (0, 0)) := by rw [hW0]; exact heap_alloc_new w.drew _
  have hg0 : W0.heap[g]? = some (.cells cur 3 (0, 0)) := (hB0.block g hgl).trans hg
  have hg20 : W0.heap[g2]? = some (.cells cur2 3 (0, 0)) := (hB0.block g2 hg2l).trans hg2
  -- the first copy: v
  obtain ⟨cur1, hcur1⟩ : ∃ c : Array Value, c = (cur0.toList.take (i * 1) ++ xs ++ cur0.toList.drop (i * 1 + xs.length)).toArray := ⟨_, rfl⟩
  have hcp1 : ∀ ty dc sc, (Builtin.copy_ #[24, 24] ty #[.slice (some ⟨w.heap.size, i * 1, none⟩) (n + 1 - i) dc, .slice (some ⟨g2, 0, none⟩) 1 sc]).run Try.prog W0 = .ok (goInt (1 : Nat)) (W0.setRow w.heap.size cur1) := fun ty dc sc => by
    rw [hcur1]
    refine run_copy_k _ 24 24 ty 3 w.heap.size (i * 1) (n + 1 - i) dc ⟨g2, 0, none⟩ 1 sc cur0 3 xs 1 1 hu hs hh0 (by show _ = min _ _; omega) (by rw [hxl]) (fun j v hj => ?_) (by rw [hxl, hsz0]; omega) h2
    rw [← hin2] at hj
    have hjl : j < 1 := by
      rcases Nat.lt_or_ge j 1 with h | h
      · exact h
      · rw [List.getElem?_eq_none (by rw [List.length_take]; omega)] at hj; cases hj
    rw [List.getElem?_take_of_lt hjl] at hj
    rw [Addr.add_lit]
    exact (cell_of_row _ g2 _ cur2 3 (0, 0) hg20).trans (by rw [← hj]; simp)
  have hsz1 : cur1.size = cap' * 1 := by
    rw [hcur1]
    simp only [List.size_toArray, List.length_append, List.length_take, List.length_drop, Array.length_toList, hxl, hsz0]
    omega
  obtain ⟨W1, hW1⟩ : ∃ W1, W1 = W0.setRow w.heap.size cur1 := ⟨_, rfl⟩
  have hB1 : Below w.heap.size w W1 := by rw [hW1]; exact below_setRow hB0 (Nat.le_refl _) _
  have hh1 : W1.heap[w.heap.size]? = some (.cells cur1 3 (0, 0)) := by rw [hW1]; exact setRow_heap W0 _ cur0 _ 3 _ hh0
  have hg1 : W1.heap[g]? = some (.cells cur 3 (0, 0)) := (hB1.block g hgl).trans hg
  rw [← hW1] at hcp1
  -- the second one: what stood from i on
  obtain ⟨cur', hcur'⟩ : ∃ c : Array Value, c = (cur1.toList.take ((i + 1) * 1) ++ inner.drop (i * 1) ++ cur1.toList.drop ((i + 1) * 1 + (inner.drop (i * 1)).length)).toArray := ⟨_, rfl⟩
  have hcp2 : ∀ ty dc sc, (Builtin.copy_ #[24, 24] ty #[.slice (some ⟨w.heap.size, (i + 1) * 1, none⟩) (n - i) dc, .slice (some ⟨g, i * 1, none⟩) (n - i) sc]).run Try.prog W1.drew = .ok (goInt (n - i : Nat)) (W1.drew.setRow w.heap.size cur') := fun ty dc sc => by
    rw [hcur']
    refine run_copy_k W1.drew 24 24 ty 3 w.heap.size ((i + 1) * 1) (n - i) dc ⟨g, i * 1, none⟩ (n - i) sc cur1 3 (inner.drop (i * 1)) 1 (n - i) hu hs hh1 (by show _ = min _ _; omega) hdl (fun j v hj => ?_) (by rw [hdl, hsz1]; omega) (fun v hv => h1 v (List.mem_of_mem_drop hv))
    rw [List.getElem?_drop, ← hin] at hj
    have hjl : i * 1 + j < n * 1 := by
      rcases Nat.lt_or_ge (i * 1 + j) (n * 1) with h | h
      · exact h
      · rw [List.getElem?_eq_none (by rw [List.length_take]; omega)] at hj; cases hj
    rw [List.getElem?_take_of_lt hjl] at hj
    rw [Addr.add_lit]
    exact (cell_of_row W1.drew g _ cur 3 (0, 0) hg1).trans (by rw [← hj]; simp)
  have hsz' : cur'.size = cap' * 1 := by
    rw [hcur']
    simp only [List.size_toArray, List.length_append, List.length_take, List.length_drop, Array.length_toList, hlen, hsz1]
    omega
  have hfin : cur'.toList.take ((n + 1) * 1) = inner.take (i * 1) ++ xs ++ inner.drop (i * 1) := by
    have h4 : (cur1.toList.take ((i + 1) * 1)) = inner.take (i * 1) ++ xs := by
      have h5 : (cur0.toList.take (i * 1)).length = i * 1 := by rw [List.length_take, Array.length_toList, hsz0]; omega
      rw [hcur1]
      simp only [List.append_assoc]
      rw [show (i + 1) * 1 = (cur0.toList.take (i * 1)).length + xs.length by rw [h5, hxl]; omega, List.take_length_add_append, List.take_left, ht0]
    have h6 : (inner.take (i * 1) ++ xs).length = (i + 1) * 1 := by rw [List.length_append, List.length_take, hlen, hxl]; omega
    rw [hcur', h4]
    simp only [List.append_assoc]
    rw [← List.append_assoc, show (n + 1) * 1 = (inner.take (i * 1) ++ xs).length + (inner.drop (i * 1)).length by rw [h6, hdl]; omega, List.take_length_add_append, List.take_left, List.append_assoc]
  obtain ⟨W2, hW2⟩ : ∃ W2, W2 = W1.drew.setRow w.heap.size cur' := ⟨_, rfl⟩
  have HF := Aside0.mk (show W2.heap[w.heap.size]? = some (.cells cur' 3 (0, 0)) ∧ Below w.heap.size w W2 ∧ cur'.size = cap' * 1 ∧ cur'.toList.take ((n + 1) * 1) = inner.take (i * 1) ++ xs ++ inner.drop (i * 1) from
    ⟨by rw [hW2]; exact setRow_heap W1.drew _ cur1 _ 3 _ hh1, by rw [hW2]; exact below_setRow (below_drew hB1) (Nat.le_refl _) _, hsz', hfin⟩)
  have HC := Aside0.mk (And.intro hc1 hc2)
  rw [← hW2] at hcp2
  rw [← hW0] at happ
  have hcx : cap ≤ 9223372036854775807 := by omega
  have hcy : cap' ≤ 9223372036854775807 := by unfold maxLen at hc2; omega
  have hcz : i + 1 ≤ cap' := by omega
  clear hfin hcur' hW0 hW1 hW2 hsz1 hcur1 hdl hlen hxl hsz hin hsz2 hin2 h1 h2 hg hg2 hc2 hB0 hh0 hg0 hg20 hB1 hh1 hg1 hsz' hsz0 ht0 hcur0 hi0 hzz
  have hin' : (i : Int) ≤ (n : Int) + 1 := by omega
  have hb1 : ¬ ((i : Int) = (n : Int)) := by omega
  have hb7 : (0 : Int) ≤ (i : Int) + 1 := by omega
  have hb8 : i ≤ n := by omega
  have hb9 : i ≤ n + 1 := by omega
  have hb4 : ¬ (cap = i) := by omega
  have hz3 : (cap : Int) < (n : Int) + 1 := by omega
  have hic : i ≤ cap := by omega
  have hb5 : ¬ (cap' = i) := by omega
  have hb6 : ¬ (cap' = i + 1) := by omega
  have hsub : (n : Int) + 1 - (i : Int) = ((n + 1 - i : Nat) : Int) := by omega
  have hw1 : IntKind.i64.wrap ((i : Int) + 1) = (i : Int) + 1 := by rw [IntKind.wrap_i64]; omega
  have htn : ((i : Int) + 1).toNat = i + 1 := by omega
  simp only [Nat.mul_one] at hcp1 hcp2
  go_enter Try.func71, Try.ntmps71
  go_wp2_with (first
    | (at_builtin; refine wpList_append_run _ rfl _ _ 24 3 rfl _ _ rfl rfl _ _ happ ?_)
    | (at_builtin; refine wpList_copy_run _ rfl _ _ 24 24 rfl _ _ rfl rfl (hcp1 _ _ _) ?_)
    | (at_builtin; refine wpList_copy_run _ rfl _ _ 24 24 rfl _ _ rfl rfl (hcp2 _ _ _) ?_))
  go_region_law (refine step_copy_run rfl _ _ 24 24 rfl _ _ (by simp [Act.eval, Act.put]) (by simp [Act.eval, Act.put]) (hcp2 _ _ _) ?_)
  go_wp2
  go_ret
  exact ⟨cap', cur', rfl, by have := HC.out.1; omega, HC.out.2, HF.out.1, HF.out.2.1, HF.out.2.2.1, HF.out.2.2.2⟩
def slices_Insert_int_int.f (l0 : List (Int)) (a1 : Int) (l2 : List (Int)) : Option (List (Int)) := if l2.length = 1 ∧ 0 ≤ a1 ∧ a1 ≤ l0.length ∧ l0.length + 1 < 17592186044416 then some (l0.take a1.toNat ++ l2 ++ l0.drop a1.toNat) else none
theorem slices_Insert_int_int.one {w : World} {base : Nat} {ok : Nat → Prop} {l : List (Int)} {cs : List Value} (h : Reps ((Kd.int .i64).M w base ok) 1 l cs) : ∀ u ∈ cs, u.oneCell' = true := by
  intro u hu
  obtain ⟨q, hq, rfl⟩ := List.mem_iff_getElem.1 hu
  have hql : q / 1 < l.length := by
    have := h.1
    omega
  have hc := h.2 (q / 1) _ (List.getElem?_eq_getElem hql)
  refine (Kd.int .i64).K_one ((Kd.int .i64).K_of_M hc) _ ?_
  rw [List.mem_iff_getElem?]
  refine ⟨q % 1, ?_⟩
  rw [List.getElem?_take, if_pos (Nat.mod_lt _ (by omega)), List.getElem?_drop, Nat.mul_comm, Nat.div_add_mod, List.getElem?_eq_getElem hq]
open HCopy in
theorem slices_Insert_int_int.reps {w w' : World} {base base' : Nat} {ok ok' : Nat → Prop} {l l2 : List (Int)} {cs ds : List Value} (i : Nat) (hi : i ≤ l.length) (h : Reps ((Kd.int .i64).M w base ok) 1 l cs) (h2 : Reps ((Kd.int .i64).M w' base' ok') 1 l2 ds) (hb : base' ≤ base) :
    Reps ((Kd.int .i64).M w' base' (fun _ => True)) 1 (l.take i ++ l2 ++ l.drop i) (cs.take (i * 1) ++ ds ++ cs.drop (i * 1)) :=
  Reps.append (Reps.append ((Reps.take h i hi).imp_ fun _ _ hm => flat_move rfl hb hm) (h2.imp_ fun _ _ hm => flat_move rfl (Nat.le_refl _) hm)) ((Reps.drop h i).imp_ fun _ _ hm => flat_move rfl hb hm)
open HCopy in
set_option maxHeartbeats 2000000 in
set_option maxRecDepth 100000 in
/-- The place is the end. -/
theorem slices_Insert_int_int.last (P0_ : Nat → Prop) (u9000_ : Value) (l0 : List (Int)) (P2_ : Nat → Prop) (u9001_ : Value) (x : (Int)) (w0 w : World) (hB : Below w0.heap.size w0 w) (ho0 : Kd.R (Kd.int .i64) 3 w w0.heap.size P0_ u9000_ l0) (ho2 : Kd.R (Kd.int .i64) 3 w w0.heap.size P2_ u9001_ [x]) (hlim : l0.length + 1 < 17592186044416) :
    Calls Try.prog 71 #[u9000_, .int .i64 l0.length, u9001_] w fun e w' => ∃ v0_, e = .returned v0_ ∧ Kd.R (Kd.int .i64) 3 w' w0.heap.size (fun k_ => ((P0_ k_ ∨ P2_ k_) ∨ w.heap.size ≤ k_)) v0_ (l0 ++ [x]) ∧ Below w0.heap.size w0 w' ∧ Kept w w' (fun k_ => P0_ k_ ∨ P2_ k_) := by
  obtain ⟨A2, c2, rfl, hc2, hC2⟩ := Kd.R_reads ho2
  obtain ⟨A0, c0, hu0, hc0, hC0⟩ := Kd.R_reads ho0
  obtain ⟨ad2, rfl, _⟩ := hC2.2.2 (by simp)
  have hoK : Kd.R (Kd.int .i64) 3 w w0.heap.size (fun k_ => ((P0_ k_ ∨ P2_ k_) ∨ w.heap.size ≤ k_)) u9000_ l0 := Kd.R_mono ho0 (fun k hk => .inl (.inl hk))
  have hP0 := Aside0.mk ho0.1
  have HO := Aside0.mk hoK
  have HC := Aside0.mk hC2
  have HBB := Aside0.mk hB
  have hlen : l0.length ≤ c0 := hc0
  clear ho0 ho2 hC0 hC2 hoK hB
  subst hu0
  go_enter Try.func71, Try.ntmps71
  go_wp2_with (at_builtin; (refine Kd.R_append_rows (Kd.int .i64) (w0 := w0) w0.heap.size rfl _ _ 24 3 ((.int .i64 0)) 8 rfl Try.underlying24 info3 rfl (by decide) (by omega) _ l0 [x] _ _ _ (fun k_ => ((P0_ k_ ∨ P2_ k_) ∨ w.heap.size ≤ k_)) (fun _ => False) rfl rfl HO.out HC.out (fun _ _ h => h) (fun _ h => h.elim) (fun k hk => .inr hk) HBB.out HBB.out.size (by show (l0.length + 1) * 8 ≤ 140737488355328; omega) ?_); intro v1 w1 ho hb hg hat)
  all_goals go_ret
  all_goals exact ⟨_, rfl, ho, hb, Kept.of_grown hg (Kept.refl _ _) (fun k hk => .inl (.inl (hP0.out k hk)))⟩
open HCopy in
theorem slices_Insert_int_int.calls (P0_ : Nat → Prop) (u9000_ : Value) (l0 : List (Int)) (a1 : Int) (P2_ : Nat → Prop) (u9001_ : Value) (l2 : List (Int)) (r : List (Int)) (w0 w : World) (hB : Below w0.heap.size w0 w) (ho0 : Kd.R (Kd.int .i64) 3 w w0.heap.size P0_ u9000_ l0) (hp0_2 : ∀ k_, P0_ k_ → ¬ P2_ k_) (ho2 : Kd.R (Kd.int .i64) 3 w w0.heap.size P2_ u9001_ l2) (hp2_0 : ∀ k_, P2_ k_ → ¬ P0_ k_) (h : slices_Insert_int_int.f l0 a1 l2 = some r) :
    Calls Try.prog 71 #[u9000_, .int .i64 a1, u9001_] w fun e w' => ∃ v0_, e = .returned v0_ ∧ Kd.R (Kd.int .i64) 3 w' w0.heap.size (fun k_ => ((P0_ k_ ∨ P2_ k_) ∨ w.heap.size ≤ k_)) v0_ r ∧ Below w0.heap.size w0 w' ∧ Kept w w' (fun k_ => P0_ k_ ∨ P2_ k_) := by
  unfold slices_Insert_int_int.f at h
  split at h
  case isFalse => cases h
  case isTrue hc =>
    obtain ⟨hl1, hi0, hil, hlim⟩ := hc
    obtain rfl := Option.some.inj h
    obtain ⟨i, rfl⟩ : ∃ i : Nat, a1 = (i : Int) := ⟨a1.toNat, by omega⟩
    obtain ⟨x, rfl⟩ := List.length_eq_one_iff.1 hl1
    clear h
    rw [Int.toNat_natCast]
    by_cases hin : i < l0.length
    · obtain ⟨hok2, inner2, ⟨hlen2, hcase2⟩, hr2⟩ := ho2
      rcases hcase2 with ⟨_, hn⟩ | ⟨g2, c2, cur2, rfl, hbg2, hg2, hnc2, hcm2, hsz2, ht2⟩
      · simp at hn
      obtain ⟨hok, inner, ⟨hlen, hcase⟩, hr⟩ := ho0
      rcases hcase with ⟨_, hn⟩ | ⟨g, cap, cur, rfl, hbg, hg, hnc, hcm, hsz, ht⟩
      · omega
      have hP0 : P0_ g := hok g (by simp [Value.ownBlock])
      have hP2 : P2_ g2 := hok2 g2 (by simp [Value.ownBlock])
      have hne : g2 ≠ g := fun e => hp0_2 g hP0 (e ▸ hP2)
      have hbw := hB.size
      have hR := fun (w' : World) => slices_Insert_int_int.reps (w' := w') (base' := w0.heap.size) (ok' := fun _ => True) i (by omega) hr (hr2.imp_ fun _ _ hm => flat_move (w1 := w') (base1 := w0.heap.size) (ok1 := fun _ => True) rfl (Nat.le_refl _) hm) (Nat.le_refl _)
      by_cases hroom : l0.length + 1 ≤ cap
      · refine (slices_Insert_int_int.room g cap l0.length i cur inner inner2 g2 c2 cur2 w hg hg2 hne hin hroom hcm hsz ht (by show 1 ≤ _; have : (Kd.int .i64).sz = 1 := rfl; rw [this] at hsz2; have : 1 ≤ c2 := hnc2; omega) ht2 (slices_Insert_int_int.one hr) (slices_Insert_int_int.one hr2)).mono ?_
        rintro e w' ⟨cur', rfl, rfl, hs', ht'⟩
        refine ⟨_, rfl, ?_, ?_, ?_⟩
        · exact row_R (Kd.int .i64) rfl (Nat.le_refl _) (setRow_heap w.drew g cur _ 3 _ hg) hbg (by simp; omega) hroom hcm hs' ht' (hR w) (.inl (.inl hP0))
        · exact below_setRow (below_drew hB) hbg _
        · exact ⟨by simp [World.setRow], fun k hk hn => setRow_other w.drew g k cur' (fun e => hn (.inl (e ▸ hP0)))⟩
      · refine (slices_Insert_int_int.grow g cap l0.length i cur inner inner2 g2 c2 cur2 w hg hg2 hin hnc (by omega) hlim hsz ht (by show 1 ≤ _; have : (Kd.int .i64).sz = 1 := rfl; rw [this] at hsz2; have : 1 ≤ c2 := hnc2; omega) ht2 (slices_Insert_int_int.one hr) (slices_Insert_int_int.one hr2)).mono ?_
        rintro e w' ⟨cap', cur', rfl, hc1, hc2', hh, hbb, hs', ht'⟩
        refine ⟨_, rfl, ?_, ?_, ?_⟩
        · exact row_R (Kd.int .i64) rfl (Nat.le_refl _) hh hbw (by simp; omega) hc1 hc2' hs' ht' (hR w) (.inr (Nat.le_refl _))
        · exact hB.trans (hbb.mono hbw)
        · exact Kept.of_below hbb _
    · obtain rfl : i = l0.length := by omega
      rw [List.take_length, List.drop_length, List.append_nil]
      exact slices_Insert_int_int.last P0_ u9000_ l0 P2_ u9001_ x w0 w hB ho0 ho2 hlim


end Go.Proofs.Ytoodkefpkgbjcaa.PPgb
