-- PRINTED by print.py (a twelfth state) out of the translation. Not trusted: Lean checks it.
import Derived.Shelf.SlSorted.Search
import Derived.Test.YtbaecdcfefmcgaaPPlcx0
import Derived.Test.YtbaecdcfefmcgaaPPlcx5
import Derived.Test.YtbaecdcfefmcgaaPPlcx10
namespace Go.Proofs.Ytbaecdcfefmcgaa.PPlc
open Go.RowKit Go.Proofs.YtbaecdcfefmcgaaW.PrintWords Go.Proofs.YtbaecdcfefmcgaaW.PrintLast Go.Proofs.YtbaecdcfefmcgaaW.PrintMore
attribute [local go_sem] max2_int min2_int max_two min_two max_three min_three max_four min_four   -- for this text's walks alone
set_option linter.unusedVariables false
set_option linter.unusedSimpArgs false

/-! ### quorumref8_Sum: function 61 -/
mutual
def quorumref8_Sum.l0 : Nat → List (S36) → Int → List (S36) → List Int → Option ((List (S36)))
 | 0, _, _, _, _ => none
 | k + 1, x3, x4, x223000, x223001 => if x4 < (x223000.length : Int) then (if 0 ≤ x4 then ((quorumref8_Last.f k x223000 x223001 ((rd_T36 x223000 x4).f0) ((rd_T36 x223000 x4).f1)).bind fun bt225 => (quorumref8_Sum.l1 k x3 x4 0 x223000 x223001 bt225.1 bt225.2.1 bt225.2.2.1 bt225.2.2.2.1)) else (none)) else (some x3)
def quorumref8_Sum.l1 : Nat → List (S36) → Int → Int → List (S36) → List Int → Int → ByteArray → ByteArray → Bool → Option ((List (S36)))
 | 0, _, _, _, _, _, _, _, _, _ => none
 | k + 1, x3, x4, x7, x223000, x223001, x231000, x231001, x231002, x231003 => if x7 < (x3.length : Int) then (if 0 ≤ x7 then (if ((rd_T36 x3 x7).f0) < x231000 then (quorumref8_Sum.j2 k x3 x4 x7 true x223000 x223001 x231000 x231001 x231002 x231003) else (if ((rd_T36 x3 x7).f0) = x231000 then (quorumref8_Sum.j2 k x3 x4 x7 (Op.bytesLess (((rd_T36 x3 x7).f1).toList) x231001.toList) x223000 x223001 x231000 x231001 x231002 x231003) else (quorumref8_Sum.j2 k x3 x4 x7 false x223000 x223001 x231000 x231001 x231002 x231003))) else (none)) else (quorumref8_Sum.j2 k x3 x4 x7 false x223000 x223001 x231000 x231001 x231002 x231003)
def quorumref8_Sum.j2 : Nat → List (S36) → Int → Int → Bool → List (S36) → List Int → Int → ByteArray → ByteArray → Bool → Option ((List (S36)))
 | 0, _, _, _, _, _, _, _, _, _, _ => none
 | k + 1, x3, x4, x7, x65, x223000, x223001, x231000, x231001, x231002, x231003 => if x65 = true then (quorumref8_Sum.l1 k x3 x4 (wrap64 (x7 + 1)) x223000 x223001 x231000 x231001 x231002 x231003) else (if x7 < (x3.length : Int) then (if 0 ≤ x7 then (if ((rd_T36 x3 x7).f0) = x231000 then (quorumref8_Sum.j3 k x3 x4 x7 (((rd_T36 x3 x7).f1).toList == x231001.toList) x223000 x223001 x231000 x231001 x231002 x231003) else (quorumref8_Sum.j3 k x3 x4 x7 false x223000 x223001 x231000 x231001 x231002 x231003)) else (none)) else (quorumref8_Sum.j3 k x3 x4 x7 false x223000 x223001 x231000 x231001 x231002 x231003))
def quorumref8_Sum.j3 : Nat → List (S36) → Int → Int → Bool → List (S36) → List Int → Int → ByteArray → ByteArray → Bool → Option ((List (S36)))
 | 0, _, _, _, _, _, _, _, _, _, _ => none
 | k + 1, x3, x4, x7, x91, x223000, x223001, x231000, x231001, x231002, x231003 => if x91 = true then (quorumref8_Sum.l0 k x3 (wrap64 (x4 + 1)) x223000 x223001) else (if 0 ≤ x7 then (if x7 ≤ (x3.length : Int) then ((quorumref0_CopyWrites.f k (x3.take (x7 : Int).toNat)).bind fun t240 => ((some (([(⟨x231000, x231001, x231002, x231003⟩ : S36)] : List (S36)) : List (S36))).bind fun y243 => (if t240.length + y243.length < 2932031007402 then ((some (t240 ++ y243 : List (S36))).bind fun y246 => ((some (x3.drop (x7 : Int).toNat : List (S36))).bind fun y249 => (if y246.length + y249.length < 2932031007402 then (quorumref8_Sum.l0 k (y246 ++ y249) (wrap64 (x4 + 1)) x223000 x223001) else (none)))) else (none)))) else (none)) else (none))
end
def quorumref8_Sum.f (k : Nat) (l0_0 : List (S36)) (l0_1 : List Int) : Option ((List (S36))) := quorumref8_Sum.l0 k ([] : List (S36)) 0 l0_0 l0_1
theorem quorumref8_Sum.mono_l : ∀ k, (∀ y0 y1 y2 y3, LeO (quorumref8_Sum.l0 k y0 y1 y2 y3) (quorumref8_Sum.l0 (k + 1) y0 y1 y2 y3)) ∧ (∀ y0 y1 y2 y3 y4 y5 y6 y7 y8, LeO (quorumref8_Sum.l1 k y0 y1 y2 y3 y4 y5 y6 y7 y8) (quorumref8_Sum.l1 (k + 1) y0 y1 y2 y3 y4 y5 y6 y7 y8)) ∧ (∀ y0 y1 y2 y3 y4 y5 y6 y7 y8 y9, LeO (quorumref8_Sum.j2 k y0 y1 y2 y3 y4 y5 y6 y7 y8 y9) (quorumref8_Sum.j2 (k + 1) y0 y1 y2 y3 y4 y5 y6 y7 y8 y9)) ∧ (∀ y0 y1 y2 y3 y4 y5 y6 y7 y8 y9, LeO (quorumref8_Sum.j3 k y0 y1 y2 y3 y4 y5 y6 y7 y8 y9) (quorumref8_Sum.j3 (k + 1) y0 y1 y2 y3 y4 y5 y6 y7 y8 y9))
 | 0 => ⟨fun _ _ _ _ r h => by simp [quorumref8_Sum.l0] at h, fun _ _ _ _ _ _ _ _ _ r h => by simp [quorumref8_Sum.l1] at h, fun _ _ _ _ _ _ _ _ _ _ r h => by simp [quorumref8_Sum.j2] at h, fun _ _ _ _ _ _ _ _ _ _ r h => by simp [quorumref8_Sum.j3] at h⟩
 | k + 1 => by
  obtain ⟨ih0, ih1, ih2, ih3⟩ := quorumref8_Sum.mono_l k
  refine ⟨?_, ?_, ?_, ?_⟩
  ·intro y0 y1 y2 y3
   unfold quorumref8_Sum.l0
   repeat' first
   | (with_reducible exact ih0 _ _ _ _)
   | (with_reducible exact ih1 _ _ _ _ _ _ _ _ _)
   | (with_reducible exact ih2 _ _ _ _ _ _ _ _ _ _)
   | (with_reducible exact ih3 _ _ _ _ _ _ _ _ _ _)
   | (with_reducible exact quorumref0_CopyWrites.mono _ _)
   | (with_reducible exact quorumref8_Last.mono _ _ _ _ _)
   | (with_reducible exact LeO.refl _)
   | (with_reducible exact LeO.none _)
   | (with_reducible refine LeO.ite ?_ ?_)
   | (with_reducible refine LeO.bind ?_ (fun _ => ?_))
   | exact ih0 _ _ _ _
   | exact ih1 _ _ _ _ _ _ _ _ _
   | exact ih2 _ _ _ _ _ _ _ _ _ _
   | exact ih3 _ _ _ _ _ _ _ _ _ _
   | exact quorumref0_CopyWrites.mono _ _
   | exact quorumref8_Last.mono _ _ _ _ _
   | exact LeO.none _
   | refine LeO.ite ?_ ?_
   | refine LeO.bind ?_ (fun _ => ?_)
  ·intro y0 y1 y2 y3 y4 y5 y6 y7 y8
   unfold quorumref8_Sum.l1
   repeat' first
   | (with_reducible exact ih0 _ _ _ _)
   | (with_reducible exact ih1 _ _ _ _ _ _ _ _ _)
   | (with_reducible exact ih2 _ _ _ _ _ _ _ _ _ _)
   | (with_reducible exact ih3 _ _ _ _ _ _ _ _ _ _)
   | (with_reducible exact quorumref0_CopyWrites.mono _ _)
   | (with_reducible exact quorumref8_Last.mono _ _ _ _ _)
   | (with_reducible exact LeO.refl _)
   | (with_reducible exact LeO.none _)
   | (with_reducible refine LeO.ite ?_ ?_)
   | (with_reducible refine LeO.bind ?_ (fun _ => ?_))
   | exact ih0 _ _ _ _
   | exact ih1 _ _ _ _ _ _ _ _ _
   | exact ih2 _ _ _ _ _ _ _ _ _ _
   | exact ih3 _ _ _ _ _ _ _ _ _ _
   | exact quorumref0_CopyWrites.mono _ _
   | exact quorumref8_Last.mono _ _ _ _ _
   | exact LeO.none _
   | refine LeO.ite ?_ ?_
   | refine LeO.bind ?_ (fun _ => ?_)
  ·intro y0 y1 y2 y3 y4 y5 y6 y7 y8 y9
   unfold quorumref8_Sum.j2
   repeat' first
   | (with_reducible exact ih0 _ _ _ _)
   | (with_reducible exact ih1 _ _ _ _ _ _ _ _ _)
   | (with_reducible exact ih2 _ _ _ _ _ _ _ _ _ _)
   | (with_reducible exact ih3 _ _ _ _ _ _ _ _ _ _)
   | (with_reducible exact quorumref0_CopyWrites.mono _ _)
   | (with_reducible exact quorumref8_Last.mono _ _ _ _ _)
   | (with_reducible exact LeO.refl _)
   | (with_reducible exact LeO.none _)
   | (with_reducible refine LeO.ite ?_ ?_)
   | (with_reducible refine LeO.bind ?_ (fun _ => ?_))
   | exact ih0 _ _ _ _
   | exact ih1 _ _ _ _ _ _ _ _ _
   | exact ih2 _ _ _ _ _ _ _ _ _ _
   | exact ih3 _ _ _ _ _ _ _ _ _ _
   | exact quorumref0_CopyWrites.mono _ _
   | exact quorumref8_Last.mono _ _ _ _ _
   | exact LeO.none _
   | refine LeO.ite ?_ ?_
   | refine LeO.bind ?_ (fun _ => ?_)
  ·intro y0 y1 y2 y3 y4 y5 y6 y7 y8 y9
   unfold quorumref8_Sum.j3
   repeat' first
   | (with_reducible exact ih0 _ _ _ _)
   | (with_reducible exact ih1 _ _ _ _ _ _ _ _ _)
   | (with_reducible exact ih2 _ _ _ _ _ _ _ _ _ _)
   | (with_reducible exact ih3 _ _ _ _ _ _ _ _ _ _)
   | (with_reducible exact quorumref0_CopyWrites.mono _ _)
   | (with_reducible exact quorumref8_Last.mono _ _ _ _ _)
   | (with_reducible exact LeO.refl _)
   | (with_reducible exact LeO.none _)
   | (with_reducible refine LeO.ite ?_ ?_)
   | (with_reducible refine LeO.bind ?_ (fun _ => ?_))
   | exact ih0 _ _ _ _
   | exact ih1 _ _ _ _ _ _ _ _ _
   | exact ih2 _ _ _ _ _ _ _ _ _ _
   | exact ih3 _ _ _ _ _ _ _ _ _ _
   | exact quorumref0_CopyWrites.mono _ _
   | exact quorumref8_Last.mono _ _ _ _ _
   | exact LeO.none _
   | refine LeO.ite ?_ ?_
   | refine LeO.bind ?_ (fun _ => ?_)
theorem quorumref8_Sum.mono : ∀ a0 a1 k, LeO (quorumref8_Sum.f k a0 a1) (quorumref8_Sum.f (k + 1) a0 a1) := by
 intro a0 a1 k
 obtain ⟨ih0, ih1, ih2, ih3⟩ := quorumref8_Sum.mono_l k
 unfold quorumref8_Sum.f
 repeat' first
   | (with_reducible exact ih0 _ _ _ _)
   | (with_reducible exact ih1 _ _ _ _ _ _ _ _ _)
   | (with_reducible exact ih2 _ _ _ _ _ _ _ _ _ _)
   | (with_reducible exact ih3 _ _ _ _ _ _ _ _ _ _)
   | (with_reducible exact quorumref0_CopyWrites.mono _ _)
   | (with_reducible exact quorumref8_Last.mono _ _ _ _ _)
   | (with_reducible exact LeO.refl _)
   | (with_reducible exact LeO.none _)
   | (with_reducible refine LeO.ite ?_ ?_)
   | (with_reducible refine LeO.bind ?_ (fun _ => ?_))
   | exact ih0 _ _ _ _
   | exact ih1 _ _ _ _ _ _ _ _ _
   | exact ih2 _ _ _ _ _ _ _ _ _ _
   | exact ih3 _ _ _ _ _ _ _ _ _ _
   | exact quorumref0_CopyWrites.mono _ _
   | exact quorumref8_Last.mono _ _ _ _ _
   | exact LeO.none _
   | refine LeO.ite ?_ ?_
   | refine LeO.bind ?_ (fun _ => ?_)
def quorumref8_Sum.T5 : Bool × List (List Nat × List Nat) := (true, [([], []), ([], []), ([1], [1]), ([], []), ([2, 3], [2, 3]), ([4], [4]), ([5], [5]), ([], []), ([7], [7]), ([], []), ([8, 9], [8, 9]), ([10], [10]), ([11], [11]), ([0, 6, 12], [0, 6, 12]), ([13], [13]), ([14], [14]), ([14], [14]), ([], []), ([17, 15, 13, 0, 1, 2, 3, 4, 5, 6, 7, 8, 9, 10, 11, 12, 13, 14, 15, 17], [15, 17]), ([16, 18, 0, 1, 2, 3, 4, 5, 6, 7, 8, 9, 10, 11, 12, 13, 14, 15, 16, 17, 18], [16])])
def quorumref8_Sum.B5 : List Nat := [0, 0, 2, 0, 14, 30, 62, 0, 128, 0, 896, 1920, 3968, 8191, 16383, 32767, 32767, 0, 196607, 524287]
theorem quorumref8_Sum.tab5 : rtab .any (opsOf Try.f61 5) = quorumref8_Sum.T5 := by kernel_rfl
theorem quorumref8_Sum.bits5 : waitsOk quorumref8_Sum.T5.2 quorumref8_Sum.B5 = true := by kernel_rfl
def quorumref8_Sum.T7 : Bool × List (List Nat × List Nat) := (true, [([], []), ([], []), ([1], [1]), ([0, 2], [0, 2]), ([3], [3]), ([4], [4]), ([4], [4]), ([5, 6, 4], [4, 5, 6]), ([7, 4], [4, 7]), ([8, 4], [4, 8]), ([4], [4]), ([10, 4], [4, 10]), ([9, 11, 4], [4, 9, 11]), ([12, 4, 4], [4, 12]), ([13], [13]), ([13], [13]), ([14, 15, 13], [13, 14, 15]), ([16, 13], [13, 16]), ([17, 13], [13, 17]), ([13], [13]), ([19, 13], [13, 19]), ([18, 20, 13], [13, 18, 20]), ([21, 13, 13], [13, 21]), ([22], [22]), ([22], [22]), ([23, 24, 22], [22, 23, 24]), ([25, 22], [22, 25]), ([26, 22], [22, 26]), ([22], [22]), ([28, 22], [22, 28]), ([27, 29, 22], [22, 27, 29]), ([22, 30, 13], [13, 22, 30]), ([13, 31, 4], [4, 13, 31]), ([4, 32], [4, 32])])
def quorumref8_Sum.B7 : List Nat := [0, 0, 2, 7, 15, 31, 31, 127, 255, 511, 31, 1055, 4095, 8191, 16383, 16383, 65535, 131071, 262143, 16383, 540671, 2097151, 4194303, 8388607, 8388607, 33554431, 67108863, 134217727, 8388607, 276824063, 1073741823, 2147483647, 4294967295, 8589934591]
theorem quorumref8_Sum.tab7 : rtab .any (opsOf Try.f61 7) = quorumref8_Sum.T7 := by kernel_rfl
theorem quorumref8_Sum.bits7 : waitsOk quorumref8_Sum.T7.2 quorumref8_Sum.B7 = true := by kernel_rfl
def quorumref8_Sum.T9 : Bool × List (List Nat × List Nat) := (true, [([], []), ([], []), ([1], [1]), ([0, 2], [0, 2]), ([3], [3]), ([4], [4]), ([4], [4]), ([5, 6, 4], [4, 5, 6]), ([7, 4], [4, 7]), ([8, 4], [4, 8]), ([4], [4]), ([10, 4], [4, 10]), ([9, 11, 4], [4, 9, 11]), ([4, 12], [4, 12]), ([13, 4], [13]), ([14], [14]), ([14], [14]), ([15, 16, 14], [14, 15, 16]), ([17, 14], [14, 17]), ([18, 14], [14, 18]), ([14], [14]), ([20, 14], [14, 20]), ([19, 21, 14], [14, 19, 21]), ([14, 22], [14, 22])])
def quorumref8_Sum.B9 : List Nat := [0, 0, 2, 7, 15, 31, 31, 127, 255, 511, 31, 1055, 4095, 8191, 16383, 32767, 32767, 131071, 262143, 524287, 32767, 1081343, 4194303, 8388607]
theorem quorumref8_Sum.tab9 : rtab .any (opsOf Try.f61 9) = quorumref8_Sum.T9 := by kernel_rfl
theorem quorumref8_Sum.bits9 : waitsOk quorumref8_Sum.T9.2 quorumref8_Sum.B9 = true := by kernel_rfl
def quorumref8_Sum.T10 : Bool × List (List Nat × List Nat) := (true, [([], []), ([], []), ([0, 1], [0, 1]), ([2], [2]), ([], []), ([4], [4]), ([3, 5, 3], [3, 5]), ([], []), ([], []), ([7, 8], [7, 8]), ([6, 9, 6], [6, 9]), ([10, 10, 0, 1, 2, 3, 4, 5, 6, 7, 8, 9, 10], [0, 7, 10])])
def quorumref8_Sum.B10 : List Nat := [0, 0, 3, 7, 0, 16, 63, 0, 0, 384, 1023, 2047]
theorem quorumref8_Sum.tab10 : rtab .any (opsOf Try.f61 10) = quorumref8_Sum.T10 := by kernel_rfl
theorem quorumref8_Sum.bits10 : waitsOk quorumref8_Sum.T10.2 quorumref8_Sum.B10 = true := by kernel_rfl
set_option maxHeartbeats 8000000 in
set_option maxRecDepth 100000 in
theorem quorumref8_Sum.calls (k : Nat) (A0_0 : Option Addr) (c0_0 : Nat) (l0_0 : List (S36)) (A0_1 : Option Addr) (c0_1 : Nat) (l0_1 : List Int) (r : List (S36)) (w : World) (hr0_0 : Kd.C k36 w A0_0 l0_0.length l0_0) (hc0_0 : l0_0.length ≤ c0_0) (hr0_1 : Kd.C (Kd.int .i64) w A0_1 l0_1.length l0_1) (hc0_1 : l0_1.length ≤ c0_1) (h : quorumref8_Sum.f k l0_0 l0_1 = some r) :
  Calls Try.prog 61 #[.agg #[.slice A0_0 l0_0.length c0_0, .slice A0_1 l0_1.length c0_1]] w fun e w' => ∃ v0_ : Value, e = .returned (v0_) ∧ Kd.R k36 36 w' w.heap.size (fun _ => True) v0_ r ∧ Below w.heap.size w w' := by
 have hu34 := Try.underlying34
 have hu36 := Try.underlying36
 have HR0_0 := mk0 hr0_0
 have HC0_0 := mk0 hc0_0
 clear hr0_0 hc0_0
 have HR0_1 := mk0 hr0_1
 have HC0_1 := mk0 hc0_1
 clear hr0_1 hc0_1
 have HB := mk0 (Below.refl w.heap.size w)
 have H : (quorumref8_Sum.l0 k ([] : List (S36)) 0 l0_0 l0_1) = some r := h
 clear h
 have H' := mk0 H
 clear H
 go_enter Try.func61, Try.ntmps61
 go_wp2_with (first | ((with_reducible refine gate_dst (N := 1) rfl ?_); refine bx_ (N := 1) (cs := #[.slice A0_0 l0_0.length c0_0, .slice A0_1 l0_1.length c0_1]) (t := 34) (h := ?_); intro gb222 hg w2 hbox hb; have n2_ := mk0 (gz_ HB hg); have n3_ := mk0 (gz_ HB hg); replace HB := mk0 (bt_ (b_ HB) hb); have BK222 := mk0 (hbox); have GW222 := n2_; have GE222 := n3_; clear n2_ n3_; clear hb hbox hg))
 go_loopg [3, 4] k (fun kq v3 v4 w' => ∃ (x3_1 : List (S36)) (x4_1 : Int), v4 = .int .i64 x4_1 ∧ Fc (quorumref8_Sum.l0 kq x3_1 x4_1 l0_0 l0_1 = some r) ∧ Fc (kq ≤ k) ∧ Fc (Kd.R k36 36 w' w.heap.size (fun _ => True) v3 x3_1) ∧ Fc (w'.heap[gb222]? = some (.cells #[(.slice A0_0 l0_0.length c0_0), (.slice A0_1 l0_1.length c0_1)] 34 (0, 0))) ∧ Fc (Below w.heap.size w w'))
 case atStart => exact ⟨(([] : List (S36))), (0), (by first | rfl | (simp; done) | (simp [*]; done)), H', ⟨Nat.le_refl _⟩, ⟨by first | exact Kd.R_nil _ _ _ _ _ | exact Kd.N_nil _ _ _ _ _ | exact Kd.V_nil _ _ _ _ _ | exact Kd.Q_nil _ _ _ _ _ | exact Kd.S_nil _ _ _ _ _⟩, ⟨h_ BK222⟩, ⟨b_ HB⟩⟩
 case round =>
  clear H'
  obtain ⟨x3_1, x4_1, rfl, HA, HK1, HO_3, BK222, HB⟩ := hrel
  cases gk with
  | zero => exact absurd HA.out (by simp [quorumref8_Sum.l0])
  | succ k1 =>
   have H := HA.out
   clear HA
   simp only [quorumref8_Sum.l0] at H
   as_aux_lemma =>
    by_cases c3 : x4_1 < (l0_0.length : Int)
    ·rw [if_pos c3] at H
     have c3b0 : decide (x4_1 < (l0_0.length : Int)) = true := decide_eq_true c3
     clear c3
     by_cases c4 : 0 ≤ x4_1
     ·rw [if_pos c4] at H
      have c4b0 : decide (0 ≤ x4_1) = true := decide_eq_true c4
      clear c4
      replace H := Option.bind_eq_some_iff.mp H
      obtain ⟨⟨t225, t226, t227, t228, t229⟩, A50, H⟩ := H
      try dsimp only at H
      have A5 := mk0 A50
      clear A50
      have H' := mk0 H
      clear H
      obtain ⟨hcz6_0, hcz6_1, hfz6_0, hfz6_1⟩ := c2_ BK222
      try go_wp2
      replace HO_3 := mk0 (Rd_ HO_3.out)
      replace BK222 := mk0 (bD_ BK222.out)
      replace HB := mk0 (b1_ HB.out)
      have p223 : 0 ≤ (x4_1 : Int) := of_decide_eq_true (by first | (with_reducible assumption) | assumption)
      have q223 : x4_1 < (l0_0.length : Int) := of_decide_eq_true (by first | (with_reducible assumption) | assumption)
      obtain ⟨ad223, e223, hx223_0, hx223_1, hx223_2, hx223_3⟩ := at_T36 HR0_0.out x4_1 p223 q223
      have hw223_3 := hx223_3
      have hw223_2 := hx223_2
      have hw223_1 := hx223_1
      have hw223_0 := hx223_0
      cases e223
      replace hx223_0 := (bc_ HB hx223_0 :)
      replace hx223_1 := (bc_ HB hx223_1 :)
      replace hx223_2 := (bc_ HB hx223_2 :)
      replace hx223_3 := (bc_ HB hx223_3 :)
      replace p223 := eq_true p223
      replace q223 := eq_true q223
      have p224 : 0 ≤ (x4_1 : Int) := of_decide_eq_true (by first | (with_reducible assumption) | assumption)
      have q224 : x4_1 < (l0_0.length : Int) := of_decide_eq_true (by first | (with_reducible assumption) | assumption)
      obtain ⟨ad224, e224, hx224_0, hx224_1, hx224_2, hx224_3⟩ := at_T36 HR0_0.out x4_1 p224 q224
      have hw224_3 := hx224_3
      have hw224_2 := hx224_2
      have hw224_1 := hx224_1
      have hw224_0 := hx224_0
      obtain rfl : ad223 = ad224 := (by injection e224)
      replace hx224_0 := (bc_ HB hx224_0 :)
      replace hx224_1 := (bc_ HB hx224_1 :)
      replace hx224_2 := (bc_ HB hx224_2 :)
      replace hx224_3 := (bc_ HB hx224_3 :)
      replace p224 := eq_true p224
      replace q224 := eq_true q224
      refine start_ (n := 20) (S := fun w' => w'.cell? ⟨gb222, 0, none⟩ = some (.slice (some ad223) l0_0.length c0_0) ∧ w'.cell? ⟨gb222, 1, none⟩ = some (.slice A0_1 l0_1.length c0_1) ∧ w'.cell? (ad223.add ((x4_1).toNat * 4)) = some (.int .i64 ((rd_T36 l0_0 x4_1).f0)) ∧ w'.cell? ⟨(ad223.add ((x4_1).toNat * 4)).block, (ad223.add ((x4_1).toNat * 4)).off + 1, none⟩ = some (.string ((rd_T36 l0_0 x4_1).f1)) ∧ w'.cell? ⟨(ad223.add ((x4_1).toNat * 4)).block, (ad223.add ((x4_1).toNat * 4)).off + 2, none⟩ = some (.string ((rd_T36 l0_0 x4_1).f2)) ∧ w'.cell? ⟨(ad223.add ((x4_1).toNat * 4)).block, (ad223.add ((x4_1).toNat * 4)).off + 3, none⟩ = some (.bool ((rd_T36 l0_0 x4_1).f3)) ∧ w'.cell? (ad223.add ((x4_1).toNat * 4)) = some (.int .i64 ((rd_T36 l0_0 x4_1).f0)) ∧ w'.cell? ⟨(ad223.add ((x4_1).toNat * 4)).block, (ad223.add ((x4_1).toNat * 4)).off + 1, none⟩ = some (.string ((rd_T36 l0_0 x4_1).f1)) ∧ w'.cell? ⟨(ad223.add ((x4_1).toNat * 4)).block, (ad223.add ((x4_1).toNat * 4)).off + 2, none⟩ = some (.string ((rd_T36 l0_0 x4_1).f2)) ∧ w'.cell? ⟨(ad223.add ((x4_1).toNat * 4)).block, (ad223.add ((x4_1).toNat * 4)).off + 3, none⟩ = some (.bool ((rd_T36 l0_0 x4_1).f3))) (ds := []) (bt 20 0) (by kernel_rfl) rfl rfl ⟨bk_ BK222 0, bk_ BK222 1, ((bc_ HB hw223_0 :)), ((bc_ HB hw223_1 :)), ((bc_ HB hw223_2 :)), ((bc_ HB hw223_3 :)), ((bc_ HB hw224_0 :)), ((bc_ HB hw224_1 :)), ((bc_ HB hw224_2 :)), ((bc_ HB hw224_3 :))⟩ (fun hHeld => ?_); refine with_tabW quorumref8_Sum.tab5 quorumref8_Sum.bits5 (fun HT_ HW_ => ?_)
      generalize wr.drew = w7 at HO_3 BK222 HB hx223_0 hx223_1 hx223_2 hx223_3 hx224_0 hx224_1 hx224_2 hx224_3 hHeld ⊢
      refine pq_ HT_.out 1 17 (bt 20 2) (h := ?_)
      refine pq_ HT_.out 3 19 (bt 20 10) (h := ?_)
      refine pq_ HT_.out 7 23 (bt 20 138) (h := ?_)
      refine pq_ HT_.out 9 25 (bt 20 650) (h := ?_)
      refine tq10_ HT_.out HW_.out 0 16 (bt 20 651) hHeld (h := ?_)
      refine tq10_ HT_.out HW_.out 2 18 (bt 20 655) hHeld (h := ?_)
      refine pq_ HT_.out 4 20 (bt 20 671) (h := ?_)
      refine pq_ HT_.out 5 21 (bt 20 703) (h := ?_)
      refine tq10_ HT_.out HW_.out 6 22 (bt 20 767) hHeld (h := ?_)
      refine tq10_ HT_.out HW_.out 8 24 (bt 20 1023) hHeld (h := ?_)
      refine pq_ HT_.out 10 26 (bt 20 2047) (h := ?_)
      refine pq_ HT_.out 11 27 (bt 20 4095) (h := ?_)
      refine tq10_ HT_.out HW_.out 12 28 (bt 20 8191) hHeld (h := ?_)
      refine join_ (σ := Nat) 2 (bt 20 262143) (fun s_ => [(29, .tuple #[.agg #[.int .i64 t225, .string t226, .string t227, .bool t228], .bool t229]), (5, .pointer (some ⟨s_, 0, none⟩)), (15, .tuple #[.agg #[.int .i64 t225, .string t226, .string t227, .bool t228], .bool t229]), (30, .agg #[.int .i64 t225, .string t226, .string t227, .bool t228]), (31, .bool t229)]) (fun s_ w' => (w'.cell? ⟨gb222, 0, none⟩ = some (.slice (some ad223) l0_0.length c0_0) ∧ w'.cell? ⟨gb222, 1, none⟩ = some (.slice A0_1 l0_1.length c0_1) ∧ w'.cell? (ad223.add ((x4_1).toNat * 4)) = some (.int .i64 ((rd_T36 l0_0 x4_1).f0)) ∧ w'.cell? ⟨(ad223.add ((x4_1).toNat * 4)).block, (ad223.add ((x4_1).toNat * 4)).off + 1, none⟩ = some (.string ((rd_T36 l0_0 x4_1).f1)) ∧ w'.cell? ⟨(ad223.add ((x4_1).toNat * 4)).block, (ad223.add ((x4_1).toNat * 4)).off + 2, none⟩ = some (.string ((rd_T36 l0_0 x4_1).f2)) ∧ w'.cell? ⟨(ad223.add ((x4_1).toNat * 4)).block, (ad223.add ((x4_1).toNat * 4)).off + 3, none⟩ = some (.bool ((rd_T36 l0_0 x4_1).f3)) ∧ w'.cell? (ad223.add ((x4_1).toNat * 4)) = some (.int .i64 ((rd_T36 l0_0 x4_1).f0)) ∧ w'.cell? ⟨(ad223.add ((x4_1).toNat * 4)).block, (ad223.add ((x4_1).toNat * 4)).off + 1, none⟩ = some (.string ((rd_T36 l0_0 x4_1).f1)) ∧ w'.cell? ⟨(ad223.add ((x4_1).toNat * 4)).block, (ad223.add ((x4_1).toNat * 4)).off + 2, none⟩ = some (.string ((rd_T36 l0_0 x4_1).f2)) ∧ w'.cell? ⟨(ad223.add ((x4_1).toNat * 4)).block, (ad223.add ((x4_1).toNat * 4)).off + 3, none⟩ = some (.bool ((rd_T36 l0_0 x4_1).f3))) ∧ (Kd.R k36 36 w' w.heap.size (fun k_ => k_ ≠ s_) u3 x3_1) ∧ (w'.heap[gb222]? = some (.cells #[.slice (some ad223) l0_0.length c0_0, .slice A0_1 l0_1.length c0_1] 34 (0, 0))) ∧ (w'.heap[s_]? = some (.cells #[.int .i64 0, .string (⟨#[]⟩ : ByteArray), .string (⟨#[]⟩ : ByteArray), .bool false] 36 (0, 0))) ∧ (w.heap.size ≤ s_) ∧ (w.heap.size ≤ s_) ∧ (gb222 ≠ s_) ∧ (s_ ≠ gb222) ∧ (Below w.heap.size w w')) ?_ ?_
      rotate_left
      ·intro hCont
       refine two_ (i := 13) (j := 17) (Ni := some 29) (Nj := some 5) (bt 20 16383) (bt 20 139263) rfl rfl rfl rfl (two_of HT_.out (by kernel_rfl)) (by decide) (by decide) (fun K hK => ?_) (fun K hK => ?_)
       ·skip
        refine goes_ Try.func17 (by kernel_rfl) rfl #[.agg #[.slice (some ad223) l0_0.length c0_0, .slice A0_1 l0_1.length c0_1], .int .i64 ((rd_T36 l0_0 x4_1).f0), .string ((rd_T36 l0_0 x4_1).f1)] (by rfl) rfl rfl (by (try simp only [List.map_toArray, List.map_cons, List.map_nil]); first | done | rfl | (simp only [List.length_drop, List.length_take]; rfl)) ?_
        with_reducible refine (quorumref8_Last.calls k1 _ _ l0_0 _ _ l0_1 ((rd_T36 l0_0 x4_1).f0) ((rd_T36 l0_0 x4_1).f1) t225 t226 t227 t228 t229 _ ?side1 ?side2 ?side3 ?side4 A5.out).mono ?_
        (case side1 => exact cb_ HR0_0 HB)
        (case side2 => exact HC0_0.out)
        (case side3 => exact cb_ HR0_1 HB)
        (case side4 => exact HC0_1.out)
        rintro e w8 ⟨rfl, hb⟩
        refine ⟨_, rfl, ?_⟩
        replace HO_3 := mk0 (Kd.R_below (r_ HO_3) hb)
        replace BK222 := mk0 (u_ BK222 hb)
        replace HB := mk0 (bt_ (b_ HB) hb)
        (try clear hb)
        (try clear hb2)
        (try clear hk)
        (try clear hi)
        refine hK.out _ _ ⟨bk_ BK222 0, bk_ BK222 1, ((bc_ HB hw223_0 :)), ((bc_ HB hw223_1 :)), ((bc_ HB hw223_2 :)), ((bc_ HB hw223_3 :)), ((bc_ HB hw224_0 :)), ((bc_ HB hw224_1 :)), ((bc_ HB hw224_2 :)), ((bc_ HB hw224_3 :))⟩ (fun hHeld => ?_)
        clear hK K
        refine norm_ (a' := ?_) ?_ ?_
        rotate_left
        ·show Act.put _ (some 29) _ = _
         simp only [z_]
         rfl
        refine pq_ HT_.out 14 15 (bt 20 32767) (h := ?_)
        refine pq_ HT_.out 15 30 (bt 20 65535) (h := ?_)
        refine pq_ HT_.out 16 31 (bt 20 131071) (h := ?_)
        refine one_ (i := 17) (N := some 5) (bt 20 262143) rfl rfl (one_of HT_.out (by kernel_rfl)) (by decide) (fun K hK => ?_)
        refine box_step ?hg (N := 5) ?hd (cs := #[.int .i64 0, .string (⟨#[]⟩ : ByteArray), .string (⟨#[]⟩ : ByteArray), .bool false]) (t := 36) ?hr ?_; (case hd => rfl); (case hg => rfl); (case hr => first | (go_simp; done) | (go_simp; rfl))
        intro gb230 hg w9 hbox hb
        have n4_ := mk0 (gz_ HB hg)
        have n5_ := mk0 (gz_ HB hg)
        have n6_ := mk0 (ne1_ BK222 hg)
        have n7_ := mk0 (ne2_ BK222 hg)
        replace HO_3 := mk0 (Kd.R_below (Kd.R_elderB (r_ HO_3) gb230 (Nat.le_of_eq hg.symm)) hb)
        replace BK222 := mk0 (u_ BK222 hb)
        replace HB := mk0 (bt_ (b_ HB) hb)
        have BK230 := mk0 (hbox)
        have GW230 := n4_
        have GE230 := n5_
        have NB222_230 := n6_
        have NB230_222 := n7_
        clear n4_ n5_ n6_ n7_ hb hbox hg
        refine hK.out _ _ ⟨bk_ BK222 0, bk_ BK222 1, ((bc_ HB hw223_0 :)), ((bc_ HB hw223_1 :)), ((bc_ HB hw223_2 :)), ((bc_ HB hw223_3 :)), ((bc_ HB hw224_0 :)), ((bc_ HB hw224_1 :)), ((bc_ HB hw224_2 :)), ((bc_ HB hw224_3 :))⟩ (fun hHeld => ?_)
        clear hK K
        refine norm_ (a' := ?_) ?_ ?_
        rotate_left
        ·show Act.put _ (some 5) _ = _
         simp only [z_]
         rfl
        exact norm_ (by simp only [putAll, Act.put, List.setIfInBounds_toArray, List.set_cons_zero, List.set_cons_succ]) (hCont (gb230) _ ⟨hHeld, (r2_ (Kd.R_mono HO_3.out (fun _ hk => hk.2))), (h_ BK222), (h_ BK230), GW230.out, GE230.out, NB222_230.out, NB230_222.out, (b_ HB)⟩)
       ·skip
        refine box_step ?hg (N := 5) ?hd (cs := #[.int .i64 0, .string (⟨#[]⟩ : ByteArray), .string (⟨#[]⟩ : ByteArray), .bool false]) (t := 36) ?hr ?_; (case hd => rfl); (case hg => rfl); (case hr => first | (go_simp; done) | (go_simp; rfl))
        intro gb230 hg w8 hbox hb
        have n4_ := mk0 (gz_ HB hg)
        have n5_ := mk0 (gz_ HB hg)
        have n6_ := mk0 (ne1_ BK222 hg)
        have n7_ := mk0 (ne2_ BK222 hg)
        replace HO_3 := mk0 (Kd.R_below (Kd.R_elderB (r_ HO_3) gb230 (Nat.le_of_eq hg.symm)) hb)
        replace BK222 := mk0 (u_ BK222 hb)
        replace HB := mk0 (bt_ (b_ HB) hb)
        have BK230 := mk0 (hbox)
        have GW230 := n4_
        have GE230 := n5_
        have NB222_230 := n6_
        have NB230_222 := n7_
        clear n4_ n5_ n6_ n7_ hb hbox hg
        refine hK.out _ _ ⟨bk_ BK222 0, bk_ BK222 1, ((bc_ HB hw223_0 :)), ((bc_ HB hw223_1 :)), ((bc_ HB hw223_2 :)), ((bc_ HB hw223_3 :)), ((bc_ HB hw224_0 :)), ((bc_ HB hw224_1 :)), ((bc_ HB hw224_2 :)), ((bc_ HB hw224_3 :))⟩ (fun hHeld => ?_)
        clear hK K
        refine norm_ (a' := ?_) ?_ ?_
        rotate_left
        ·show Act.put _ (some 5) _ = _
         simp only [z_]
         rfl
        refine one_ (i := 13) (N := some 29) (bt 20 147455) rfl rfl (one_of HT_.out (by kernel_rfl)) (by decide) (fun K hK => ?_)
        refine goes_ Try.func17 (by kernel_rfl) rfl #[.agg #[.slice (some ad223) l0_0.length c0_0, .slice A0_1 l0_1.length c0_1], .int .i64 ((rd_T36 l0_0 x4_1).f0), .string ((rd_T36 l0_0 x4_1).f1)] (by rfl) rfl rfl (by (try simp only [List.map_toArray, List.map_cons, List.map_nil]); first | done | rfl | (simp only [List.length_drop, List.length_take]; rfl)) ?_
        with_reducible refine (quorumref8_Last.calls k1 _ _ l0_0 _ _ l0_1 ((rd_T36 l0_0 x4_1).f0) ((rd_T36 l0_0 x4_1).f1) t225 t226 t227 t228 t229 _ ?side1 ?side2 ?side3 ?side4 A5.out).mono ?_
        (case side1 => exact cb_ HR0_0 HB)
        (case side2 => exact HC0_0.out)
        (case side3 => exact cb_ HR0_1 HB)
        (case side4 => exact HC0_1.out)
        rintro e w9 ⟨rfl, hb⟩
        refine ⟨_, rfl, ?_⟩
        replace HO_3 := mk0 (Kd.R_below (r_ HO_3) hb)
        replace BK222 := mk0 (u_ BK222 hb)
        replace BK230 := mk0 (blk_below (g := gb230) (o := .cells #[.int .i64 0, .string (⟨#[]⟩ : ByteArray), .string (⟨#[]⟩ : ByteArray), .bool false] 36 (0, 0)) (h_ BK230) hb)
        replace HB := mk0 (bt_ (b_ HB) hb)
        (try clear hb)
        (try clear hb2)
        (try clear hk)
        (try clear hi)
        refine hK.out _ _ ⟨bk_ BK222 0, bk_ BK222 1, ((bc_ HB hw223_0 :)), ((bc_ HB hw223_1 :)), ((bc_ HB hw223_2 :)), ((bc_ HB hw223_3 :)), ((bc_ HB hw224_0 :)), ((bc_ HB hw224_1 :)), ((bc_ HB hw224_2 :)), ((bc_ HB hw224_3 :))⟩ (fun hHeld => ?_)
        clear hK K
        refine norm_ (a' := ?_) ?_ ?_
        rotate_left
        ·show Act.put _ (some 29) _ = _
         simp only [z_]
         rfl
        refine pq_ HT_.out 14 15 (bt 20 163839) (h := ?_)
        refine pq_ HT_.out 15 30 (bt 20 196607) (h := ?_)
        refine pq_ HT_.out 16 31 (bt 20 262143) (h := ?_)
        exact norm_ (by simp only [putAll, Act.put, List.setIfInBounds_toArray, List.set_cons_zero, List.set_cons_succ]) (hCont (gb230) _ ⟨hHeld, (r2_ (Kd.R_mono HO_3.out (fun _ hk => hk.2))), (h_ BK222), (h_ BK230), GW230.out, GE230.out, NB222_230.out, NB230_222.out, (b_ HB)⟩)
      rintro gb230 w10 ⟨hS_, h0_, h1_, h2_, h3_, h4_, h5_, h6_, h7_⟩
      have n0_ : Fc (Kd.R k36 36 w10 w.heap.size (fun k_ => k_ ≠ gb230) u3 x3_1) := ⟨h0_⟩
      have n1_ : Fc (w10.heap[gb222]? = some (.cells #[.slice (some ad223) l0_0.length c0_0, .slice A0_1 l0_1.length c0_1] 34 (0, 0))) := ⟨h1_⟩
      have n2_ : Fc (w10.heap[gb230]? = some (.cells #[.int .i64 0, .string (⟨#[]⟩ : ByteArray), .string (⟨#[]⟩ : ByteArray), .bool false] 36 (0, 0))) := ⟨h2_⟩
      have n3_ : Fc (w.heap.size ≤ gb230) := ⟨h3_⟩
      have n4_ : Fc (w.heap.size ≤ gb230) := ⟨h4_⟩
      have n5_ : Fc (gb222 ≠ gb230) := ⟨h5_⟩
      have n6_ : Fc (gb230 ≠ gb222) := ⟨h6_⟩
      have n7_ : Fc (Below w.heap.size w w10) := ⟨h7_⟩
      clear HO_3 BK222 HB h0_ h1_ h2_ h3_ h4_ h5_ h6_ h7_
      have HO_3 := n0_
      have BK222 := n1_
      have BK230 := n2_
      have GW230 := n3_
      have GE230 := n4_
      have NB222_230 := n5_
      have NB230_222 := n6_
      have HB := n7_
      clear n0_ n1_ n2_ n3_ n4_ n5_ n6_ n7_
      have hHeld : w10.cell? ⟨gb222, 0, none⟩ = some (.slice (some ad223) l0_0.length c0_0) ∧ w10.cell? ⟨gb222, 1, none⟩ = some (.slice A0_1 l0_1.length c0_1) ∧ w10.cell? (ad223.add ((x4_1).toNat * 4)) = some (.int .i64 ((rd_T36 l0_0 x4_1).f0)) ∧ w10.cell? ⟨(ad223.add ((x4_1).toNat * 4)).block, (ad223.add ((x4_1).toNat * 4)).off + 1, none⟩ = some (.string ((rd_T36 l0_0 x4_1).f1)) ∧ w10.cell? ⟨(ad223.add ((x4_1).toNat * 4)).block, (ad223.add ((x4_1).toNat * 4)).off + 2, none⟩ = some (.string ((rd_T36 l0_0 x4_1).f2)) ∧ w10.cell? ⟨(ad223.add ((x4_1).toNat * 4)).block, (ad223.add ((x4_1).toNat * 4)).off + 3, none⟩ = some (.bool ((rd_T36 l0_0 x4_1).f3)) ∧ w10.cell? (ad223.add ((x4_1).toNat * 4)) = some (.int .i64 ((rd_T36 l0_0 x4_1).f0)) ∧ w10.cell? ⟨(ad223.add ((x4_1).toNat * 4)).block, (ad223.add ((x4_1).toNat * 4)).off + 1, none⟩ = some (.string ((rd_T36 l0_0 x4_1).f1)) ∧ w10.cell? ⟨(ad223.add ((x4_1).toNat * 4)).block, (ad223.add ((x4_1).toNat * 4)).off + 2, none⟩ = some (.string ((rd_T36 l0_0 x4_1).f2)) ∧ w10.cell? ⟨(ad223.add ((x4_1).toNat * 4)).block, (ad223.add ((x4_1).toNat * 4)).off + 3, none⟩ = some (.bool ((rd_T36 l0_0 x4_1).f3)) := hS_
      refine norm_ (a' := ?_) ?_ ?_
      rotate_left
      ·simp only [putAll, Act.put, List.setIfInBounds_toArray, List.set_cons_zero, List.set_cons_succ]
       rfl
      refine one_ (i := 18) (N := none) (bt 20 524287) rfl rfl (one_of HT_.out (by kernel_rfl)) (by decide) (fun K hK => ?_)
      have hs11 : w10.cell? ⟨gb230, 0, none⟩ = some (.int .i64 0) := bk_ BK230 0
      have hfs11 := blk_frozen BK230.out 0
      have hns11_0 := NB222_230.out
      have hms11_0 := NB230_222.out
      have hs12 : w10.cell? ⟨gb230, 1, none⟩ = some (.string (⟨#[]⟩ : ByteArray)) := bk_ BK230 1
      have hfs12 := blk_frozen BK230.out 1
      have hns12_0 := NB222_230.out
      have hms12_0 := NB230_222.out
      have hs13 : w10.cell? ⟨gb230, 2, none⟩ = some (.string (⟨#[]⟩ : ByteArray)) := bk_ BK230 2
      have hfs13 := blk_frozen BK230.out 2
      have hns13_0 := NB222_230.out
      have hms13_0 := NB230_222.out
      have hs14 : w10.cell? ⟨gb230, 3, none⟩ = some (.bool false) := bk_ BK230 3
      have hfs14 := blk_frozen BK230.out 3
      have hns14_0 := NB222_230.out
      have hms14_0 := NB230_222.out
      refine skip_ (w1 := ?_) (by rfl) rfl ?_ ?_
      rotate_left
      ·go_simp
       rfl
      refine hK.out _ _ ⟨(cf_ NB222_230.out ((cf_ NB222_230.out ((cf_ NB222_230.out (cf_ NB222_230.out hHeld.1)))))), (cf_ NB222_230.out ((cf_ NB222_230.out ((cf_ NB222_230.out (cf_ NB222_230.out hHeld.2.1)))))), (cf_ (nb_ hw223_0 GW230) ((cf_ (nb_ hw223_0 GW230) ((cf_ (nb_ hw223_0 GW230) (cf_ (nb_ hw223_0 GW230) hHeld.2.2.1)))))), (cf_ (nb_ hw223_1 GW230) ((cf_ (nb_ hw223_1 GW230) ((cf_ (nb_ hw223_1 GW230) (cf_ (nb_ hw223_1 GW230) hHeld.2.2.2.1)))))), (cf_ (nb_ hw223_2 GW230) ((cf_ (nb_ hw223_2 GW230) ((cf_ (nb_ hw223_2 GW230) (cf_ (nb_ hw223_2 GW230) hHeld.2.2.2.2.1)))))), (cf_ (nb_ hw223_3 GW230) ((cf_ (nb_ hw223_3 GW230) ((cf_ (nb_ hw223_3 GW230) (cf_ (nb_ hw223_3 GW230) hHeld.2.2.2.2.2.1)))))), (cf_ (nb_ hw224_0 GW230) ((cf_ (nb_ hw224_0 GW230) ((cf_ (nb_ hw224_0 GW230) (cf_ (nb_ hw224_0 GW230) hHeld.2.2.2.2.2.2.1)))))), (cf_ (nb_ hw224_1 GW230) ((cf_ (nb_ hw224_1 GW230) ((cf_ (nb_ hw224_1 GW230) (cf_ (nb_ hw224_1 GW230) hHeld.2.2.2.2.2.2.2.1)))))), (cf_ (nb_ hw224_2 GW230) ((cf_ (nb_ hw224_2 GW230) ((cf_ (nb_ hw224_2 GW230) (cf_ (nb_ hw224_2 GW230) hHeld.2.2.2.2.2.2.2.2.1)))))), (cf_ (nb_ hw224_3 GW230) ((cf_ (nb_ hw224_3 GW230) ((cf_ (nb_ hw224_3 GW230) (cf_ (nb_ hw224_3 GW230) hHeld.2.2.2.2.2.2.2.2.2))))))⟩ (fun hHeld => ?_)
      clear hK K
      refine pq_ HT_.out 19 6 (bt 20 1048575) (h := ?_)
      refine done_ (done_of HT_.out (by kernel_rfl)) ?_
      try go_wp2
      go_loopg [7] k1 (fun kq v7 w' => ∃ (x7_2 : Int), v7 = .int .i64 x7_2 ∧ Fc (quorumref8_Sum.l1 kq x3_1 x4_1 x7_2 l0_0 l0_1 t225 t226 t227 t228 = some r) ∧ Fc (kq ≤ k1) ∧ Fc (Kd.R k36 36 w' w.heap.size (fun k_ => k_ ≠ gb230) u3 x3_1) ∧ Fc (w'.heap[gb222]? = some (.cells #[(.slice (some ad223) l0_0.length c0_0), (.slice A0_1 l0_1.length c0_1)] 34 (0, 0))) ∧ Fc (w'.heap[gb230]? = some (.cells #[.int .i64 t225, .string t226, .string t227, .bool t228] 36 (0, 0))) ∧ Fc (Below w.heap.size w w'))
      case atStart => exact ⟨(0), (by first | rfl | (simp; done) | (simp [*]; done)), H', ⟨Nat.le_refl _⟩, ⟨by (with_reducible repeat (first | apply Ra_ | apply Rn_ | apply Rd_)); exact Kd.R_mono (Kd.R_far (p := ⟨gb230, 3, none⟩) (Kd.R_far (p := ⟨gb230, 2, none⟩) (Kd.R_far (p := ⟨gb230, 1, none⟩) (Kd.R_far (p := ⟨gb230, 0, none⟩) (Kd.R_mono HO_3.out (fun k_ hk => (⟨hk, hk⟩ : _ ∧ k_ ≠ gb230))) (fun _ hk => hk.2) (.int .i64 t225)) (fun _ hk => hk.2) (.string t226)) (fun _ hk => hk.2) (.string t227)) (fun _ hk => hk.2) (.bool t228)) (fun _ hk => hk.1)⟩, ⟨(fa_ (fa_ (fa_ (fa_ (h_ BK222) NB222_230.out) NB222_230.out) NB222_230.out) NB222_230.out)⟩, ⟨(pu_ (cs := #[.int .i64 t225, .string t226, .string t227, .bool false]) (pu_ (cs := #[.int .i64 t225, .string t226, .string (⟨#[]⟩ : ByteArray), .bool false]) (pu_ (cs := #[.int .i64 t225, .string (⟨#[]⟩ : ByteArray), .string (⟨#[]⟩ : ByteArray), .bool false]) (pu_ (cs := #[.int .i64 0, .string (⟨#[]⟩ : ByteArray), .string (⟨#[]⟩ : ByteArray), .bool false]) (h_ BK230)))))⟩, ⟨b_ HB⟩⟩
      case round =>
       clear H'
       try clear c3
       try clear c3b0
       try clear c4
       try clear c4b0
       try clear hcz6_0
       try clear hcz6_1
       try clear hfz6_0
       try clear hfz6_1
       try clear hx223_0
       try clear hx223_1
       try clear hx223_2
       try clear hx223_3
       try clear hx224_0
       try clear hx224_1
       try clear hx224_2
       try clear hx224_3
       try clear p223
       try clear p224
       try clear q223
       try clear q224
       obtain ⟨x7_2, rfl, HA, HK2, HO_3, BK222, BK230, HB⟩ := hrel
       cases gk with
       | zero => exact absurd HA.out (by simp [quorumref8_Sum.l1])
       | succ k2 =>
        have H := HA.out
        clear HA
        simp only [quorumref8_Sum.l1] at H
        as_aux_lemma =>
         have HC15 := mk0 H
         clear H
         go_upto_region 7 with (fail)
         go_cut [65] (fun v65 wc => ∃ (kq : Nat) (x65_14 : Bool), v65 = .bool x65_14 ∧ Fc (quorumref8_Sum.j2 kq x3_1 x4_1 x7_2 x65_14 l0_0 l0_1 t225 t226 t227 t228 = some r) ∧ Fc (kq ≤ k2) ∧ Fc (Kd.R k36 36 wc w.heap.size (fun k_ => k_ ≠ gb230) u3 x3_1) ∧ Fc (wc.heap[gb222]? = some (.cells #[(.slice (some ad223) l0_0.length c0_0), (.slice A0_1 l0_1.length c0_1)] 34 (0, 0))) ∧ Fc (wc.heap[gb230]? = some (.cells #[.int .i64 t225, .string t226, .string t227, .bool t228] 36 (0, 0))) ∧ Fc (Below w.heap.size w wc))
         case first =>
          have H := HC15.out
          clear HC15
          by_cases c16 : x7_2 < (x3_1.length : Int)
          ·rw [if_pos c16] at H
           have c16b0 : decide (x7_2 < (x3_1.length : Int)) = true := decide_eq_true c16
           clear c16
           (first | rw [c16b0] | (simp only [i64_w, i32_w]; rw [c16b0]) | skip)
           by_cases c17 : 0 ≤ x7_2
           ·rw [if_pos c17] at H
            have c17b0 : decide (0 ≤ x7_2) = true := decide_eq_true c17
            clear c17
            by_cases c18 : ((rd_T36 x3_1 x7_2).f0) < t225
            ·rw [if_pos c18] at H
             have c18b0 : decide (((rd_T36 x3_1 x7_2).f0) < t225) = true := decide_eq_true c18
             clear c18
             have H' := mk0 H
             clear H
             try go_wp2
             obtain ⟨Ao20, co20, eo20⟩ := Kd.R_slice HO_3.out
             (first | subst eo20 | (injection eo20 with f1_ f2_ f3_; have f4_ := f1_.symm; have f5_ := f3_.symm; clear f1_ f2_ f3_; subst f4_; subst f5_))
             have p231 : 0 ≤ (x7_2 : Int) := of_decide_eq_true (by first | (with_reducible assumption) | assumption)
             have q231 : x7_2 < (x3_1.length : Int) := of_decide_eq_true (by first | (with_reducible assumption) | assumption)
             obtain ⟨ad231, e231, hx231_0, hx231_1, hx231_2, hx231_3⟩ := at_T36 (Kd.R_reads' HO_3.out).2.2 x7_2 p231 q231
             cases e231
             replace p231 := eq_true p231
             replace q231 := eq_true q231
             have hs1_0 : wr.cell? ⟨gb230, 0, none⟩ = some (.int .i64 t225) := bk_ BK230 0
             have hs1_1 : wr.cell? ⟨gb230, 1, none⟩ = some (.string t226) := bk_ BK230 1
             have hs1_2 : wr.cell? ⟨gb230, 2, none⟩ = some (.string t227) := bk_ BK230 2
             have hs1_3 : wr.cell? ⟨gb230, 3, none⟩ = some (.bool t228) := bk_ BK230 3
             have hs1_4 : wr.cell? (ad231.add ((x7_2).toNat * 4)) = some (.int .i64 ((rd_T36 x3_1 x7_2).f0)) := hx231_0
             have hs1_5 : wr.cell? ⟨(ad231.add ((x7_2).toNat * 4)).block, (ad231.add ((x7_2).toNat * 4)).off + 1, none⟩ = some (.string ((rd_T36 x3_1 x7_2).f1)) := hx231_1
             have hs1_6 : wr.cell? ⟨(ad231.add ((x7_2).toNat * 4)).block, (ad231.add ((x7_2).toNat * 4)).off + 2, none⟩ = some (.string ((rd_T36 x3_1 x7_2).f2)) := hx231_2
             have hs1_7 : wr.cell? ⟨(ad231.add ((x7_2).toNat * 4)).block, (ad231.add ((x7_2).toNat * 4)).off + 3, none⟩ = some (.bool ((rd_T36 x3_1 x7_2).f3)) := hx231_3
             go_quiet (fail)
             clear hs1_0 hs1_1 hs1_2 hs1_3 hs1_4 hs1_5 hs1_6 hs1_7
             generalize hq_ : World.drewN wr _ = w19
             replace HO_3 := mk0 (Kd.R_at hq_ HO_3.out)
             replace BK222 := mk0 (blk_at hq_ BK222.out)
             replace BK230 := mk0 (blk_at hq_ BK230.out)
             replace HB := mk0 (below_at hq_ HB.out)
             try replace hx231_0 := cell_at hq_ hx231_0
             try replace hx231_1 := cell_at hq_ hx231_1
             try replace hx231_2 := cell_at hq_ hx231_2
             try replace hx231_3 := cell_at hq_ hx231_3
             clear hq_
             try go_wp2
             go_meet
             case rel => exact ⟨_, (true), (by first | rfl | (simp; done) | (simp [*]; done)), H', ⟨by have := HK1.out; have := HK2.out; first | omega | exact Nat.le_refl _⟩, ⟨by (with_reducible repeat (first | apply Ra_ | apply Rn_ | apply Rd_)); exact HO_3.out⟩, ⟨h_ BK222⟩, ⟨h_ BK230⟩, ⟨b_ HB⟩⟩
            ·rw [if_neg c18] at H
             have c18b0 : decide (((rd_T36 x3_1 x7_2).f0) < t225) = false := decide_eq_false c18
             clear c18
             by_cases c21 : ((rd_T36 x3_1 x7_2).f0) = t225
             ·rw [if_pos c21] at H
              have c21b0 : (((rd_T36 x3_1 x7_2).f0) == t225) = true := beq_iff_eq.mpr c21
              have c21b1 : (((rd_T36 x3_1 x7_2).f0) != t225) = false := bne_eq_false_iff_eq.mpr c21
              clear c21
              have H' := mk0 H
              clear H
              try go_wp2
              obtain ⟨Ao23, co23, eo23⟩ := Kd.R_slice HO_3.out
              (first | subst eo23 | (injection eo23 with f1_ f2_ f3_; have f4_ := f1_.symm; have f5_ := f3_.symm; clear f1_ f2_ f3_; subst f4_; subst f5_))
              have p231 : 0 ≤ (x7_2 : Int) := of_decide_eq_true (by first | (with_reducible assumption) | assumption)
              have q231 : x7_2 < (x3_1.length : Int) := of_decide_eq_true (by first | (with_reducible assumption) | assumption)
              obtain ⟨ad231, e231, hx231_0, hx231_1, hx231_2, hx231_3⟩ := at_T36 (Kd.R_reads' HO_3.out).2.2 x7_2 p231 q231
              cases e231
              replace p231 := eq_true p231
              replace q231 := eq_true q231
              have p232 : 0 ≤ (x7_2 : Int) := of_decide_eq_true (by first | (with_reducible assumption) | assumption)
              have q232 : x7_2 < (x3_1.length : Int) := of_decide_eq_true (by first | (with_reducible assumption) | assumption)
              obtain ⟨ad232, e232, hx232_0, hx232_1, hx232_2, hx232_3⟩ := at_T36 (Kd.R_reads' HO_3.out).2.2 x7_2 p232 q232
              obtain rfl : ad231 = ad232 := (by injection e232)
              replace p232 := eq_true p232
              replace q232 := eq_true q232
              have p233 : 0 ≤ (x7_2 : Int) := of_decide_eq_true (by first | (with_reducible assumption) | assumption)
              have q233 : x7_2 < (x3_1.length : Int) := of_decide_eq_true (by first | (with_reducible assumption) | assumption)
              obtain ⟨ad233, e233, hx233_0, hx233_1, hx233_2, hx233_3⟩ := at_T36 (Kd.R_reads' HO_3.out).2.2 x7_2 p233 q233
              obtain rfl : ad231 = ad233 := (by injection e233)
              replace p233 := eq_true p233
              replace q233 := eq_true q233
              have hs2_0 : wr.cell? ⟨gb230, 0, none⟩ = some (.int .i64 t225) := bk_ BK230 0
              have hs2_1 : wr.cell? ⟨gb230, 1, none⟩ = some (.string t226) := bk_ BK230 1
              have hs2_2 : wr.cell? ⟨gb230, 2, none⟩ = some (.string t227) := bk_ BK230 2
              have hs2_3 : wr.cell? ⟨gb230, 3, none⟩ = some (.bool t228) := bk_ BK230 3
              have hs2_4 : wr.cell? (ad231.add ((x7_2).toNat * 4)) = some (.int .i64 ((rd_T36 x3_1 x7_2).f0)) := hx231_0
              have hs2_5 : wr.cell? ⟨(ad231.add ((x7_2).toNat * 4)).block, (ad231.add ((x7_2).toNat * 4)).off + 1, none⟩ = some (.string ((rd_T36 x3_1 x7_2).f1)) := hx231_1
              have hs2_6 : wr.cell? ⟨(ad231.add ((x7_2).toNat * 4)).block, (ad231.add ((x7_2).toNat * 4)).off + 2, none⟩ = some (.string ((rd_T36 x3_1 x7_2).f2)) := hx231_2
              have hs2_7 : wr.cell? ⟨(ad231.add ((x7_2).toNat * 4)).block, (ad231.add ((x7_2).toNat * 4)).off + 3, none⟩ = some (.bool ((rd_T36 x3_1 x7_2).f3)) := hx231_3
              have hs2_8 : wr.cell? (ad231.add ((x7_2).toNat * 4)) = some (.int .i64 ((rd_T36 x3_1 x7_2).f0)) := hx232_0
              have hs2_9 : wr.cell? ⟨(ad231.add ((x7_2).toNat * 4)).block, (ad231.add ((x7_2).toNat * 4)).off + 1, none⟩ = some (.string ((rd_T36 x3_1 x7_2).f1)) := hx232_1
              have hs2_10 : wr.cell? ⟨(ad231.add ((x7_2).toNat * 4)).block, (ad231.add ((x7_2).toNat * 4)).off + 2, none⟩ = some (.string ((rd_T36 x3_1 x7_2).f2)) := hx232_2
              have hs2_11 : wr.cell? ⟨(ad231.add ((x7_2).toNat * 4)).block, (ad231.add ((x7_2).toNat * 4)).off + 3, none⟩ = some (.bool ((rd_T36 x3_1 x7_2).f3)) := hx232_3
              have hs2_12 : wr.cell? (ad231.add ((x7_2).toNat * 4)) = some (.int .i64 ((rd_T36 x3_1 x7_2).f0)) := hx233_0
              have hs2_13 : wr.cell? ⟨(ad231.add ((x7_2).toNat * 4)).block, (ad231.add ((x7_2).toNat * 4)).off + 1, none⟩ = some (.string ((rd_T36 x3_1 x7_2).f1)) := hx233_1
              have hs2_14 : wr.cell? ⟨(ad231.add ((x7_2).toNat * 4)).block, (ad231.add ((x7_2).toNat * 4)).off + 2, none⟩ = some (.string ((rd_T36 x3_1 x7_2).f2)) := hx233_2
              have hs2_15 : wr.cell? ⟨(ad231.add ((x7_2).toNat * 4)).block, (ad231.add ((x7_2).toNat * 4)).off + 3, none⟩ = some (.bool ((rd_T36 x3_1 x7_2).f3)) := hx233_3
              go_quiet (fail)
              clear hs2_0 hs2_1 hs2_2 hs2_3 hs2_4 hs2_5 hs2_6 hs2_7 hs2_8 hs2_9 hs2_10 hs2_11 hs2_12 hs2_13 hs2_14 hs2_15
              generalize hq_ : World.drewN wr _ = w22
              replace HO_3 := mk0 (Kd.R_at hq_ HO_3.out)
              replace BK222 := mk0 (blk_at hq_ BK222.out)
              replace BK230 := mk0 (blk_at hq_ BK230.out)
              replace HB := mk0 (below_at hq_ HB.out)
              try replace hx231_0 := cell_at hq_ hx231_0
              try replace hx231_1 := cell_at hq_ hx231_1
              try replace hx231_2 := cell_at hq_ hx231_2
              try replace hx231_3 := cell_at hq_ hx231_3
              try replace hx232_0 := cell_at hq_ hx232_0
              try replace hx232_1 := cell_at hq_ hx232_1
              try replace hx232_2 := cell_at hq_ hx232_2
              try replace hx232_3 := cell_at hq_ hx232_3
              try replace hx233_0 := cell_at hq_ hx233_0
              try replace hx233_1 := cell_at hq_ hx233_1
              try replace hx233_2 := cell_at hq_ hx233_2
              try replace hx233_3 := cell_at hq_ hx233_3
              clear hq_
              try go_wp2
              go_meet
              case rel => exact ⟨_, ((Op.bytesLess (((rd_T36 x3_1 x7_2).f1).toList) t226.toList)), (by first | rfl | (simp; done) | (simp [*]; done)), H', ⟨by have := HK1.out; have := HK2.out; first | omega | exact Nat.le_refl _⟩, ⟨by (with_reducible repeat (first | apply Ra_ | apply Rn_ | apply Rd_)); exact HO_3.out⟩, ⟨h_ BK222⟩, ⟨h_ BK230⟩, ⟨b_ HB⟩⟩
             ·rw [if_neg c21] at H
              have c21b0 : (((rd_T36 x3_1 x7_2).f0) == t225) = false := beq_eq_false_iff_ne.mpr c21
              have c21b1 : (((rd_T36 x3_1 x7_2).f0) != t225) = true := bne_iff_ne.mpr c21
              have H' := mk0 H
              clear H
              try go_wp2
              obtain ⟨Ao25, co25, eo25⟩ := Kd.R_slice HO_3.out
              (first | subst eo25 | (injection eo25 with f1_ f2_ f3_; have f4_ := f1_.symm; have f5_ := f3_.symm; clear f1_ f2_ f3_; subst f4_; subst f5_))
              have p231 : 0 ≤ (x7_2 : Int) := of_decide_eq_true (by first | (with_reducible assumption) | assumption)
              have q231 : x7_2 < (x3_1.length : Int) := of_decide_eq_true (by first | (with_reducible assumption) | assumption)
              obtain ⟨ad231, e231, hx231_0, hx231_1, hx231_2, hx231_3⟩ := at_T36 (Kd.R_reads' HO_3.out).2.2 x7_2 p231 q231
              cases e231
              replace p231 := eq_true p231
              replace q231 := eq_true q231
              have p232 : 0 ≤ (x7_2 : Int) := of_decide_eq_true (by first | (with_reducible assumption) | assumption)
              have q232 : x7_2 < (x3_1.length : Int) := of_decide_eq_true (by first | (with_reducible assumption) | assumption)
              obtain ⟨ad232, e232, hx232_0, hx232_1, hx232_2, hx232_3⟩ := at_T36 (Kd.R_reads' HO_3.out).2.2 x7_2 p232 q232
              obtain rfl : ad231 = ad232 := (by injection e232)
              replace p232 := eq_true p232
              replace q232 := eq_true q232
              have hs3_0 : wr.cell? ⟨gb230, 0, none⟩ = some (.int .i64 t225) := bk_ BK230 0
              have hs3_1 : wr.cell? ⟨gb230, 1, none⟩ = some (.string t226) := bk_ BK230 1
              have hs3_2 : wr.cell? ⟨gb230, 2, none⟩ = some (.string t227) := bk_ BK230 2
              have hs3_3 : wr.cell? ⟨gb230, 3, none⟩ = some (.bool t228) := bk_ BK230 3
              have hs3_4 : wr.cell? (ad231.add ((x7_2).toNat * 4)) = some (.int .i64 ((rd_T36 x3_1 x7_2).f0)) := hx231_0
              have hs3_5 : wr.cell? ⟨(ad231.add ((x7_2).toNat * 4)).block, (ad231.add ((x7_2).toNat * 4)).off + 1, none⟩ = some (.string ((rd_T36 x3_1 x7_2).f1)) := hx231_1
              have hs3_6 : wr.cell? ⟨(ad231.add ((x7_2).toNat * 4)).block, (ad231.add ((x7_2).toNat * 4)).off + 2, none⟩ = some (.string ((rd_T36 x3_1 x7_2).f2)) := hx231_2
              have hs3_7 : wr.cell? ⟨(ad231.add ((x7_2).toNat * 4)).block, (ad231.add ((x7_2).toNat * 4)).off + 3, none⟩ = some (.bool ((rd_T36 x3_1 x7_2).f3)) := hx231_3
              have hs3_8 : wr.cell? (ad231.add ((x7_2).toNat * 4)) = some (.int .i64 ((rd_T36 x3_1 x7_2).f0)) := hx232_0
              have hs3_9 : wr.cell? ⟨(ad231.add ((x7_2).toNat * 4)).block, (ad231.add ((x7_2).toNat * 4)).off + 1, none⟩ = some (.string ((rd_T36 x3_1 x7_2).f1)) := hx232_1
              have hs3_10 : wr.cell? ⟨(ad231.add ((x7_2).toNat * 4)).block, (ad231.add ((x7_2).toNat * 4)).off + 2, none⟩ = some (.string ((rd_T36 x3_1 x7_2).f2)) := hx232_2
              have hs3_11 : wr.cell? ⟨(ad231.add ((x7_2).toNat * 4)).block, (ad231.add ((x7_2).toNat * 4)).off + 3, none⟩ = some (.bool ((rd_T36 x3_1 x7_2).f3)) := hx232_3
              go_quiet (fail)
              clear hs3_0 hs3_1 hs3_2 hs3_3 hs3_4 hs3_5 hs3_6 hs3_7 hs3_8 hs3_9 hs3_10 hs3_11
              generalize hq_ : World.drewN wr _ = w24
              replace HO_3 := mk0 (Kd.R_at hq_ HO_3.out)
              replace BK222 := mk0 (blk_at hq_ BK222.out)
              replace BK230 := mk0 (blk_at hq_ BK230.out)
              replace HB := mk0 (below_at hq_ HB.out)
              try replace hx231_0 := cell_at hq_ hx231_0
              try replace hx231_1 := cell_at hq_ hx231_1
              try replace hx231_2 := cell_at hq_ hx231_2
              try replace hx231_3 := cell_at hq_ hx231_3
              try replace hx232_0 := cell_at hq_ hx232_0
              try replace hx232_1 := cell_at hq_ hx232_1
              try replace hx232_2 := cell_at hq_ hx232_2
              try replace hx232_3 := cell_at hq_ hx232_3
              clear hq_
              try go_wp2
              go_meet
              case rel => exact ⟨_, (false), (by first | rfl | (simp; done) | (simp [*]; done)), H', ⟨by have := HK1.out; have := HK2.out; first | omega | exact Nat.le_refl _⟩, ⟨by (with_reducible repeat (first | apply Ra_ | apply Rn_ | apply Rd_)); exact HO_3.out⟩, ⟨h_ BK222⟩, ⟨h_ BK230⟩, ⟨b_ HB⟩⟩
           ·rw [if_neg c17] at H
            exact absurd H (by simp)
          ·rw [if_neg c16] at H
           have c16b0 : decide (x7_2 < (x3_1.length : Int)) = false := decide_eq_false c16
           clear c16
           (first | rw [c16b0] | (simp only [i64_w, i32_w]; rw [c16b0]) | skip)
           have H' := mk0 H
           clear H
           try go_wp2
           obtain ⟨Ao27, co27, eo27⟩ := Kd.R_slice HO_3.out
           (first | subst eo27 | (injection eo27 with f1_ f2_ f3_; have f4_ := f1_.symm; have f5_ := f3_.symm; clear f1_ f2_ f3_; subst f4_; subst f5_))
           go_quiet (fail)
           generalize hq_ : World.drewN wr _ = w26
           replace HO_3 := mk0 (Kd.R_at hq_ HO_3.out)
           replace BK222 := mk0 (blk_at hq_ BK222.out)
           replace BK230 := mk0 (blk_at hq_ BK230.out)
           replace HB := mk0 (below_at hq_ HB.out)
           clear hq_
           try go_wp2
           go_meet
           case rel => exact ⟨_, (false), (by first | rfl | (simp; done) | (simp [*]; done)), H', ⟨by have := HK1.out; have := HK2.out; first | omega | exact Nat.le_refl _⟩, ⟨by (with_reducible repeat (first | apply Ra_ | apply Rn_ | apply Rd_)); exact HO_3.out⟩, ⟨h_ BK222⟩, ⟨h_ BK230⟩, ⟨b_ HB⟩⟩
         case rest =>
          clear HC15
          try clear c16
          try clear c16b0
          try clear c17
          try clear c21
          try clear c21b0
          try clear c21b1
          try clear hx231_0
          try clear hx231_1
          try clear hx231_2
          try clear hx231_3
          try clear hx232_0
          try clear hx232_1
          try clear hx232_2
          try clear hx232_3
          try clear p231
          try clear p232
          try clear q231
          try clear q232
          obtain ⟨kq, x65_14, rfl, HA, HJ14, HO_3, BK222, BK230, HB⟩ := hcut
          cases kq with
          | zero => exact absurd HA.out (by simp [quorumref8_Sum.j2])
          | succ kj14 =>
           have H := HA.out
           clear HA
           simp only [quorumref8_Sum.j2] at H
           as_aux_lemma =>
            by_cases c28 : x65_14 = true
            ·subst c28
             rw [if_pos rfl] at H
             have H' := mk0 H
             clear H
             go_wp2
             go_roundg kj14
             case measure => have := HK1.out; have := HK2.out; have := HJ14.out; omega
             case rel => exact ⟨(wrap64 (x7_2 + 1)), (by first | rfl | (simp; done) | (simp [*]; done)), H', ⟨by have := HK1.out; have := HK2.out; have := HJ14.out; omega⟩, ⟨by (with_reducible repeat (first | apply Ra_ | apply Rn_ | apply Rd_)); exact HO_3.out⟩, ⟨h_ BK222⟩, ⟨h_ BK230⟩, ⟨b_ HB⟩⟩
            ·replace c28 := Bool.eq_false_iff.mpr c28
             subst c28
             rw [if_neg (show ¬ (false = true) by decide)] at H
             have HC29 := mk0 H
             clear H
             go_upto_region 9 with (fail)
             go_cut [91] (fun v91 wc => ∃ (kq : Nat) (x91_28 : Bool), v91 = .bool x91_28 ∧ Fc (quorumref8_Sum.j3 kq x3_1 x4_1 x7_2 x91_28 l0_0 l0_1 t225 t226 t227 t228 = some r) ∧ Fc (kq ≤ kj14) ∧ Fc (Kd.R k36 36 wc w.heap.size (fun k_ => k_ ≠ gb230) u3 x3_1) ∧ Fc (wc.heap[gb222]? = some (.cells #[(.slice (some ad223) l0_0.length c0_0), (.slice A0_1 l0_1.length c0_1)] 34 (0, 0))) ∧ Fc (wc.heap[gb230]? = some (.cells #[.int .i64 t225, .string t226, .string t227, .bool t228] 36 (0, 0))) ∧ Fc (Below w.heap.size w wc))
             case first =>
              have H := HC29.out
              clear HC29
              by_cases c30 : x7_2 < (x3_1.length : Int)
              ·rw [if_pos c30] at H
               have c30b0 : decide (x7_2 < (x3_1.length : Int)) = true := decide_eq_true c30
               clear c30
               (first | rw [c30b0] | (simp only [i64_w, i32_w]; rw [c30b0]) | skip)
               by_cases c31 : 0 ≤ x7_2
               ·rw [if_pos c31] at H
                have c31b0 : decide (0 ≤ x7_2) = true := decide_eq_true c31
                clear c31
                by_cases c32 : ((rd_T36 x3_1 x7_2).f0) = t225
                ·rw [if_pos c32] at H
                 have c32b0 : (((rd_T36 x3_1 x7_2).f0) == t225) = true := beq_iff_eq.mpr c32
                 have c32b1 : (((rd_T36 x3_1 x7_2).f0) != t225) = false := bne_eq_false_iff_eq.mpr c32
                 clear c32
                 have H' := mk0 H
                 clear H
                 try go_wp2
                 obtain ⟨Ao34, co34, eo34⟩ := Kd.R_slice HO_3.out
                 (first | subst eo34 | (injection eo34 with f1_ f2_ f3_; have f4_ := f1_.symm; have f5_ := f3_.symm; clear f1_ f2_ f3_; subst f4_; subst f5_))
                 have p234 : 0 ≤ (x7_2 : Int) := of_decide_eq_true (by first | (with_reducible assumption) | assumption)
                 have q234 : x7_2 < (x3_1.length : Int) := of_decide_eq_true (by first | (with_reducible assumption) | assumption)
                 obtain ⟨ad234, e234, hx234_0, hx234_1, hx234_2, hx234_3⟩ := at_T36 (Kd.R_reads' HO_3.out).2.2 x7_2 p234 q234
                 cases e234
                 replace p234 := eq_true p234
                 replace q234 := eq_true q234
                 have p235 : 0 ≤ (x7_2 : Int) := of_decide_eq_true (by first | (with_reducible assumption) | assumption)
                 have q235 : x7_2 < (x3_1.length : Int) := of_decide_eq_true (by first | (with_reducible assumption) | assumption)
                 obtain ⟨ad235, e235, hx235_0, hx235_1, hx235_2, hx235_3⟩ := at_T36 (Kd.R_reads' HO_3.out).2.2 x7_2 p235 q235
                 obtain rfl : ad234 = ad235 := (by injection e235)
                 replace p235 := eq_true p235
                 replace q235 := eq_true q235
                 have hs5_0 : wc.cell? ⟨gb230, 0, none⟩ = some (.int .i64 t225) := bk_ BK230 0
                 have hs5_1 : wc.cell? ⟨gb230, 1, none⟩ = some (.string t226) := bk_ BK230 1
                 have hs5_2 : wc.cell? ⟨gb230, 2, none⟩ = some (.string t227) := bk_ BK230 2
                 have hs5_3 : wc.cell? ⟨gb230, 3, none⟩ = some (.bool t228) := bk_ BK230 3
                 have hs5_4 : wc.cell? (ad234.add ((x7_2).toNat * 4)) = some (.int .i64 ((rd_T36 x3_1 x7_2).f0)) := hx234_0
                 have hs5_5 : wc.cell? ⟨(ad234.add ((x7_2).toNat * 4)).block, (ad234.add ((x7_2).toNat * 4)).off + 1, none⟩ = some (.string ((rd_T36 x3_1 x7_2).f1)) := hx234_1
                 have hs5_6 : wc.cell? ⟨(ad234.add ((x7_2).toNat * 4)).block, (ad234.add ((x7_2).toNat * 4)).off + 2, none⟩ = some (.string ((rd_T36 x3_1 x7_2).f2)) := hx234_2
                 have hs5_7 : wc.cell? ⟨(ad234.add ((x7_2).toNat * 4)).block, (ad234.add ((x7_2).toNat * 4)).off + 3, none⟩ = some (.bool ((rd_T36 x3_1 x7_2).f3)) := hx234_3
                 have hs5_8 : wc.cell? (ad234.add ((x7_2).toNat * 4)) = some (.int .i64 ((rd_T36 x3_1 x7_2).f0)) := hx235_0
                 have hs5_9 : wc.cell? ⟨(ad234.add ((x7_2).toNat * 4)).block, (ad234.add ((x7_2).toNat * 4)).off + 1, none⟩ = some (.string ((rd_T36 x3_1 x7_2).f1)) := hx235_1
                 have hs5_10 : wc.cell? ⟨(ad234.add ((x7_2).toNat * 4)).block, (ad234.add ((x7_2).toNat * 4)).off + 2, none⟩ = some (.string ((rd_T36 x3_1 x7_2).f2)) := hx235_2
                 have hs5_11 : wc.cell? ⟨(ad234.add ((x7_2).toNat * 4)).block, (ad234.add ((x7_2).toNat * 4)).off + 3, none⟩ = some (.bool ((rd_T36 x3_1 x7_2).f3)) := hx235_3
                 go_quiet (fail)
                 clear hs5_0 hs5_1 hs5_2 hs5_3 hs5_4 hs5_5 hs5_6 hs5_7 hs5_8 hs5_9 hs5_10 hs5_11
                 generalize hq_ : World.drewN wc _ = w33
                 replace HO_3 := mk0 (Kd.R_at hq_ HO_3.out)
                 replace BK222 := mk0 (blk_at hq_ BK222.out)
                 replace BK230 := mk0 (blk_at hq_ BK230.out)
                 replace HB := mk0 (below_at hq_ HB.out)
                 try replace hx234_0 := cell_at hq_ hx234_0
                 try replace hx234_1 := cell_at hq_ hx234_1
                 try replace hx234_2 := cell_at hq_ hx234_2
                 try replace hx234_3 := cell_at hq_ hx234_3
                 try replace hx235_0 := cell_at hq_ hx235_0
                 try replace hx235_1 := cell_at hq_ hx235_1
                 try replace hx235_2 := cell_at hq_ hx235_2
                 try replace hx235_3 := cell_at hq_ hx235_3
                 clear hq_
                 try go_wp2
                 go_meet
                 case rel => exact ⟨_, ((((rd_T36 x3_1 x7_2).f1).toList == t226.toList)), (by first | rfl | (simp; done) | (simp [*]; done)), H', ⟨by have := HK1.out; have := HK2.out; have := HJ14.out; first | omega | exact Nat.le_refl _⟩, ⟨by (with_reducible repeat (first | apply Ra_ | apply Rn_ | apply Rd_)); exact HO_3.out⟩, ⟨h_ BK222⟩, ⟨h_ BK230⟩, ⟨b_ HB⟩⟩
                ·rw [if_neg c32] at H
                 have c32b0 : (((rd_T36 x3_1 x7_2).f0) == t225) = false := beq_eq_false_iff_ne.mpr c32
                 have c32b1 : (((rd_T36 x3_1 x7_2).f0) != t225) = true := bne_iff_ne.mpr c32
                 have H' := mk0 H
                 clear H
                 try go_wp2
                 obtain ⟨Ao36, co36, eo36⟩ := Kd.R_slice HO_3.out
                 (first | subst eo36 | (injection eo36 with f1_ f2_ f3_; have f4_ := f1_.symm; have f5_ := f3_.symm; clear f1_ f2_ f3_; subst f4_; subst f5_))
                 have p234 : 0 ≤ (x7_2 : Int) := of_decide_eq_true (by first | (with_reducible assumption) | assumption)
                 have q234 : x7_2 < (x3_1.length : Int) := of_decide_eq_true (by first | (with_reducible assumption) | assumption)
                 obtain ⟨ad234, e234, hx234_0, hx234_1, hx234_2, hx234_3⟩ := at_T36 (Kd.R_reads' HO_3.out).2.2 x7_2 p234 q234
                 cases e234
                 replace p234 := eq_true p234
                 replace q234 := eq_true q234
                 have hs6_0 : wc.cell? ⟨gb230, 0, none⟩ = some (.int .i64 t225) := bk_ BK230 0
                 have hs6_1 : wc.cell? ⟨gb230, 1, none⟩ = some (.string t226) := bk_ BK230 1
                 have hs6_2 : wc.cell? ⟨gb230, 2, none⟩ = some (.string t227) := bk_ BK230 2
                 have hs6_3 : wc.cell? ⟨gb230, 3, none⟩ = some (.bool t228) := bk_ BK230 3
                 have hs6_4 : wc.cell? (ad234.add ((x7_2).toNat * 4)) = some (.int .i64 ((rd_T36 x3_1 x7_2).f0)) := hx234_0
                 have hs6_5 : wc.cell? ⟨(ad234.add ((x7_2).toNat * 4)).block, (ad234.add ((x7_2).toNat * 4)).off + 1, none⟩ = some (.string ((rd_T36 x3_1 x7_2).f1)) := hx234_1
                 have hs6_6 : wc.cell? ⟨(ad234.add ((x7_2).toNat * 4)).block, (ad234.add ((x7_2).toNat * 4)).off + 2, none⟩ = some (.string ((rd_T36 x3_1 x7_2).f2)) := hx234_2
                 have hs6_7 : wc.cell? ⟨(ad234.add ((x7_2).toNat * 4)).block, (ad234.add ((x7_2).toNat * 4)).off + 3, none⟩ = some (.bool ((rd_T36 x3_1 x7_2).f3)) := hx234_3
                 go_quiet (fail)
                 clear hs6_0 hs6_1 hs6_2 hs6_3 hs6_4 hs6_5 hs6_6 hs6_7
                 generalize hq_ : World.drewN wc _ = w35
                 replace HO_3 := mk0 (Kd.R_at hq_ HO_3.out)
                 replace BK222 := mk0 (blk_at hq_ BK222.out)
                 replace BK230 := mk0 (blk_at hq_ BK230.out)
                 replace HB := mk0 (below_at hq_ HB.out)
                 try replace hx234_0 := cell_at hq_ hx234_0
                 try replace hx234_1 := cell_at hq_ hx234_1
                 try replace hx234_2 := cell_at hq_ hx234_2
                 try replace hx234_3 := cell_at hq_ hx234_3
                 clear hq_
                 try go_wp2
                 go_meet
                 case rel => exact ⟨_, (false), (by first | rfl | (simp; done) | (simp [*]; done)), H', ⟨by have := HK1.out; have := HK2.out; have := HJ14.out; first | omega | exact Nat.le_refl _⟩, ⟨by (with_reducible repeat (first | apply Ra_ | apply Rn_ | apply Rd_)); exact HO_3.out⟩, ⟨h_ BK222⟩, ⟨h_ BK230⟩, ⟨b_ HB⟩⟩
               ·rw [if_neg c31] at H
                exact absurd H (by simp)
              ·rw [if_neg c30] at H
               have c30b0 : decide (x7_2 < (x3_1.length : Int)) = false := decide_eq_false c30
               clear c30
               (first | rw [c30b0] | (simp only [i64_w, i32_w]; rw [c30b0]) | skip)
               have H' := mk0 H
               clear H
               try go_wp2
               obtain ⟨Ao38, co38, eo38⟩ := Kd.R_slice HO_3.out
               (first | subst eo38 | (injection eo38 with f1_ f2_ f3_; have f4_ := f1_.symm; have f5_ := f3_.symm; clear f1_ f2_ f3_; subst f4_; subst f5_))
               go_quiet (fail)
               generalize hq_ : World.drewN wc _ = w37
               replace HO_3 := mk0 (Kd.R_at hq_ HO_3.out)
               replace BK222 := mk0 (blk_at hq_ BK222.out)
               replace BK230 := mk0 (blk_at hq_ BK230.out)
               replace HB := mk0 (below_at hq_ HB.out)
               clear hq_
               try go_wp2
               go_meet
               case rel => exact ⟨_, (false), (by first | rfl | (simp; done) | (simp [*]; done)), H', ⟨by have := HK1.out; have := HK2.out; have := HJ14.out; first | omega | exact Nat.le_refl _⟩, ⟨by (with_reducible repeat (first | apply Ra_ | apply Rn_ | apply Rd_)); exact HO_3.out⟩, ⟨h_ BK222⟩, ⟨h_ BK230⟩, ⟨b_ HB⟩⟩
             case rest =>
              clear HC29
              try clear c3
              try clear c30
              try clear c30b0
              try clear c31
              try clear c31b0
              try clear c32
              try clear c32b0
              try clear c32b1
              try clear hx234_0
              try clear hx234_1
              try clear hx234_2
              try clear hx234_3
              try clear hx235_0
              try clear hx235_1
              try clear hx235_2
              try clear hx235_3
              try clear p234
              try clear p235
              try clear q234
              try clear q235
              obtain ⟨kq, x91_28, rfl, HA, HJ28, HO_3, BK222, BK230, HB⟩ := hcut
              cases kq with
              | zero => exact absurd HA.out (by simp [quorumref8_Sum.j3])
              | succ kj28 =>
               have H := HA.out
               clear HA
               simp only [quorumref8_Sum.j3] at H
               as_aux_lemma =>
                by_cases c39 : x91_28 = true
                ·subst c39
                 rw [if_pos rfl] at H
                 have H' := mk0 H
                 clear H
                 go_wp2
                 go_roundg kj28
                 case measure => have := HK1.out; have := HK2.out; have := HJ14.out; have := HJ28.out; omega
                 case rel => exact ⟨(x3_1), (wrap64 (x4_1 + 1)), (by first | rfl | (simp; done) | (simp [*]; done)), H', ⟨by have := HK1.out; have := HK2.out; have := HJ14.out; have := HJ28.out; omega⟩, ⟨by (with_reducible repeat (first | apply Ra_ | apply Rn_ | apply Rd_)); exact Kd.R_mono HO_3.out (fun _ hk => trivial)⟩, ⟨h_ BK222⟩, ⟨b_ HB⟩⟩
                ·replace c39 := Bool.eq_false_iff.mpr c39
                 subst c39
                 rw [if_neg (show ¬ (false = true) by decide)] at H
                 by_cases c40 : 0 ≤ x7_2
                 ·rw [if_pos c40] at H
                  have c40b0 := eq_true c40
                  have c40b1 : decide (0 ≤ x7_2) = true := decide_eq_true c40
                  clear c40
                  by_cases c41 : x7_2 ≤ (x3_1.length : Int)
                  ·rw [if_pos c41] at H
                   have c41b0 := eq_true c41
                   have c41b1 : decide (x7_2 ≤ (x3_1.length : Int)) = true := decide_eq_true c41
                   clear c41
                   obtain ⟨y236, hy236⟩ : ∃ y_ : List (S36), y_ = (x3_1.take (x7_2 : Int).toNat) := ⟨_, rfl⟩
                   replace H : ((quorumref0_CopyWrites.f kj28 y236).bind fun t240 => ((some (([(⟨t225, t226, t227, t228⟩ : S36)] : List (S36)) : List (S36))).bind fun y243 => (if t240.length + y243.length < 2932031007402 then ((some (t240 ++ y243 : List (S36))).bind fun y246 => ((some (x3_1.drop (x7_2 : Int).toNat : List (S36))).bind fun y249 => (if y246.length + y249.length < 2932031007402 then (quorumref8_Sum.l0 kj28 (y246 ++ y249) (wrap64 (x4_1 + 1)) l0_0 l0_1) else (none)))) else (none)))) = some r := by first | (rw [hy236]; with_reducible exact H) | (have H2_ := (Option.bind_some _ _).symm.trans H; rw [hy236]; with_reducible exact H2_) | (have H2_ := (Option.bind_some _ _).symm.trans H; with_reducible exact H2_) | with_reducible exact H | (rw [hy236]; exact H) | exact H
                   have Ny236 := mk0 hy236
                   clear hy236
                   replace H := Option.bind_eq_some_iff.mp H
                   obtain ⟨t240, A420, H⟩ := H
                   try dsimp only at H
                   have A42 := mk0 A420
                   clear A420
                   obtain ⟨y243, hy243⟩ : ∃ y_ : List (S36), y_ = (([(⟨t225, t226, t227, t228⟩ : S36)] : List (S36))) := ⟨_, rfl⟩
                   replace H : (if t240.length + y243.length < 2932031007402 then ((some (t240 ++ y243 : List (S36))).bind fun y246 => ((some (x3_1.drop (x7_2 : Int).toNat : List (S36))).bind fun y249 => (if y246.length + y249.length < 2932031007402 then (quorumref8_Sum.l0 kj28 (y246 ++ y249) (wrap64 (x4_1 + 1)) l0_0 l0_1) else (none)))) else (none)) = some r := by first | (rw [hy243]; with_reducible exact H) | (have H2_ := (Option.bind_some _ _).symm.trans H; rw [hy243]; with_reducible exact H2_) | (have H2_ := (Option.bind_some _ _).symm.trans H; with_reducible exact H2_) | with_reducible exact H | (rw [hy243]; exact H) | exact H
                   have Ny243 := mk0 hy243
                   clear hy243
                   by_cases c43 : t240.length + y243.length < 2932031007402
                   ·rw [if_pos c43] at H
                    have LMc43 := mk0 c43
                    clear c43
                    obtain ⟨y246, hy246⟩ : ∃ y_ : List (S36), y_ = (t240 ++ y243) := ⟨_, rfl⟩
                    replace H : ((some (x3_1.drop (x7_2 : Int).toNat : List (S36))).bind fun y249 => (if y246.length + y249.length < 2932031007402 then (quorumref8_Sum.l0 kj28 (y246 ++ y249) (wrap64 (x4_1 + 1)) l0_0 l0_1) else (none))) = some r := by first | (rw [hy246]; with_reducible exact H) | (have H2_ := (Option.bind_some _ _).symm.trans H; rw [hy246]; with_reducible exact H2_) | (have H2_ := (Option.bind_some _ _).symm.trans H; with_reducible exact H2_) | with_reducible exact H | (rw [hy246]; exact H) | exact H
                    have Ny246 := mk0 hy246
                    clear hy246
                    have c44b0 := eq_true (of_decide_eq_true (by first | (with_reducible assumption) | assumption) : 0 ≤ x7_2)
                    have c45b0 := eq_true (of_decide_eq_true (by first | (with_reducible assumption) | assumption) : x7_2 ≤ (x3_1.length : Int))
                    obtain ⟨y249, hy249⟩ : ∃ y_ : List (S36), y_ = (x3_1.drop (x7_2 : Int).toNat) := ⟨_, rfl⟩
                    replace H : (if y246.length + y249.length < 2932031007402 then (quorumref8_Sum.l0 kj28 (y246 ++ y249) (wrap64 (x4_1 + 1)) l0_0 l0_1) else (none)) = some r := by first | (rw [hy249]; with_reducible exact H) | (have H2_ := (Option.bind_some _ _).symm.trans H; rw [hy249]; with_reducible exact H2_) | (have H2_ := (Option.bind_some _ _).symm.trans H; with_reducible exact H2_) | with_reducible exact H | (rw [hy249]; exact H) | exact H
                    have Ny249 := mk0 hy249
                    clear hy249
                    by_cases c46 : y246.length + y249.length < 2932031007402
                    ·rw [if_pos c46] at H
                     have LMc46 := mk0 c46
                     clear c46
                     obtain ⟨y253, hy253⟩ : ∃ y_ : List (S36), y_ = (y246 ++ y249) := ⟨_, rfl⟩
                     replace H : (quorumref8_Sum.l0 kj28 y253 (wrap64 (x4_1 + 1)) l0_0 l0_1) = some r := by first | (rw [hy253]; with_reducible exact H) | (have H2_ := (Option.bind_some _ _).symm.trans H; rw [hy253]; with_reducible exact H2_) | (have H2_ := (Option.bind_some _ _).symm.trans H; with_reducible exact H2_) | with_reducible exact H | (rw [hy253]; exact H) | exact H
                     have Ny253 := mk0 hy253
                     clear hy253
                     have H' := mk0 H
                     clear H
                     try go_wp2
                     replace HO_3 := mk0 (Rd_ HO_3.out)
                     replace BK222 := mk0 (bD_ BK222.out)
                     replace BK230 := mk0 (bD_ BK230.out)
                     replace HB := mk0 (b1_ HB.out)
                     obtain ⟨Ao49, co49, eo49⟩ := Kd.R_slice HO_3.out
                     (first | subst eo49 | (injection eo49 with f1_ f2_ f3_; have f4_ := f1_.symm; have f5_ := f3_.symm; clear f1_ f2_ f3_; subst f4_; subst f5_))
                     have q48 : (x7_2 : Int) ≤ ((x3_1.length : Int) : Int) := of_decide_eq_true (by first | (with_reducible assumption) | assumption)
                     obtain ⟨i048, hi048, _, hsz48, _⟩ := info_parts info36
                     have hroom48 : x3_1.length ≤ co49 := (Kd.R_reads' HO_3.out).2.1
                     have hC48 : Kd.C k36 _ Ao49 x3_1.length x3_1 := (Kd.R_reads' HO_3.out).2.2
                     have hcut48 := cut_to (P := Try.prog) 32 36 .i64 Try.underlying32 hi048 Ao49 x3_1.length co49 x7_2 (of_decide_eq_true (by first | (with_reducible assumption) | assumption)) q48 hroom48
                     have hr48 := Kd.C_take (m := (x7_2 : Int).toNat) hC48 (by omega)
                     have hy48 : y236.length = (x7_2 : Int).toNat := (by rw [Ny236.out, List.length_take]; omega)
                     rw [← Ny236.out] at hr48
                     rw [← hy48] at hcut48
                     have HR239 := mk0 hr48
                     have HC239 := mk0 (show y236.length ≤ co49 from by omega)
                     clear hr48 hC48 hroom48 hi048 hsz48
                     have KY48 := mk0 hy48
                     clear hy48
                     have KL48 := mk0 (show (x7_2 : Int).toNat ≤ x3_1.length from by omega)
                     replace q48 := eq_true q48
                     have q50 : (x7_2 : Int) ≤ ((x3_1.length : Int) : Int) := of_decide_eq_true (by first | (with_reducible assumption) | assumption)
                     obtain ⟨i050, hi050, _, hsz50, _⟩ := info_parts info36
                     have hroom50 : x3_1.length ≤ co49 := (Kd.R_reads' HO_3.out).2.1
                     have hC50 : Kd.C k36 _ Ao49 x3_1.length x3_1 := (Kd.R_reads' HO_3.out).2.2
                     have q050 : (0 : Int) ≤ (x7_2 : Int) := of_decide_eq_true (by first | (with_reducible assumption) | assumption)
                     have hcut50 := cut_from (P := Try.prog) 32 36 .i64 Try.underlying32 hi050 4 hsz50 Ao49 x3_1.length co49 x7_2 q050 q50
                     have hr50 := Kd.C_drop (m := (x7_2 : Int).toNat) (c := co49) hC50 (by omega) hroom50
                     obtain ⟨A50, hA50⟩ : ∃ A1, A1 = (if co49 = (x7_2 : Int).toNat then Ao49 else (Ao49 : Option Addr).map (·.add ((x7_2 : Int).toNat * 4))) := ⟨_, rfl⟩
                     obtain ⟨c50, hc50⟩ : ∃ c1, c1 = co49 - (x7_2 : Int).toNat := ⟨_, rfl⟩
                     have hy50 : y249.length = x3_1.length - (x7_2 : Int).toNat := (by rw [Ny249.out, List.length_drop] <;> omega)
                     rw [show (x3_1).drop (x7_2 : Int).toNat = y249 from Ny249.out.symm] at hr50
                     replace hr50 : Kd.C k36 _ A50 y249.length y249 := (by rw [hA50]; exact hr50)
                     rw [← hy50, ← hA50, ← hc50] at hcut50
                     have HR252 := mk0 hr50
                     have HC252 := mk0 (show y249.length ≤ c50 from by rw [hy50, hc50]; exact Nat.sub_le_sub_right hroom50 _)
                     clear hr50 hC50 hroom50 hi050 hsz50 hc50
                     have KY50 := mk0 hy50
                     have KA50 := mk0 hA50
                     clear hy50 hA50
                     have KL50 := mk0 (show (x7_2 : Int).toNat ≤ x3_1.length from by omega)
                     replace q50 := eq_true q50
                     refine start_ (n := 12) (S := fun w' => w'.cell? ⟨gb230, 0, none⟩ = some (.int .i64 t225) ∧ w'.cell? ⟨gb230, 1, none⟩ = some (.string t226) ∧ w'.cell? ⟨gb230, 2, none⟩ = some (.string t227) ∧ w'.cell? ⟨gb230, 3, none⟩ = some (.bool t228)) (ds := []) (bt 12 0) (by kernel_rfl) rfl rfl ⟨bk_ BK230 0, bk_ BK230 1, bk_ BK230 2, bk_ BK230 3⟩ (fun hHeld => ?_); refine with_tabW quorumref8_Sum.tab10 quorumref8_Sum.bits10 (fun HT_ HW_ => ?_)
                     generalize wc.drew = w47 at HO_3 BK222 BK230 HB HR239 HR252 hHeld ⊢
                     refine pq_ HT_.out 0 92 (bt 12 1) (h := ?_)
                     refine pq_ HT_.out 1 93 (bt 12 3) (h := ?_)
                     refine pq_ HT_.out 2 94 (bt 12 7) (h := ?_)
                     refine pq_ HT_.out 7 99 (bt 12 135) (h := ?_)
                     refine pq_ HT_.out 8 100 (bt 12 391) (h := ?_)
                     refine pq_ HT_.out 9 101 (bt 12 903) (h := ?_)
                     refine tq4_ HT_.out HW_.out 4 96 (bt 12 919) hHeld (h := ?_)
                     refine join_ (σ := Value × Value) 3 (bt 12 959) (fun s_ => [(95, s_.1), (97, s_.2)]) (fun s_ w' => (w'.cell? ⟨gb230, 0, none⟩ = some (.int .i64 t225) ∧ w'.cell? ⟨gb230, 1, none⟩ = some (.string t226) ∧ w'.cell? ⟨gb230, 2, none⟩ = some (.string t227) ∧ w'.cell? ⟨gb230, 3, none⟩ = some (.bool t228)) ∧ (Kd.R k36 36 w' w.heap.size (fun k_ => some k_ ≠ (s_.2 : Value).ownBlock ∧ some k_ ≠ (.slice Ao49 x3_1.length co49 : Value).ownBlock ∧ k_ ≠ gb230) s_.1 t240) ∧ (Kd.R k36 36 w' w.heap.size (fun k_ => some k_ ≠ (s_.1 : Value).ownBlock ∧ some k_ ≠ (.slice Ao49 x3_1.length co49 : Value).ownBlock ∧ k_ ≠ gb230) s_.2 y243) ∧ (Kd.R k36 36 w' w.heap.size (fun k_ => some k_ ≠ (s_.1 : Value).ownBlock ∧ some k_ ≠ (s_.2 : Value).ownBlock ∧ k_ ≠ gb230) (.slice Ao49 x3_1.length co49) x3_1) ∧ (w'.heap[gb222]? = some (.cells #[.slice (some ad223) l0_0.length c0_0, .slice A0_1 l0_1.length c0_1] 34 (0, 0))) ∧ (w'.heap[gb230]? = some (.cells #[.int .i64 t225, .string t226, .string t227, .bool t228] 36 (0, 0))) ∧ (Below w.heap.size w w')) ?_ ?_
                     rotate_left
                     ·intro hCont
                      refine two_ (i := 3) (j := 5) (Ni := some 95) (Nj := some 97) (bt 12 927) (bt 12 951) rfl rfl rfl rfl (two_of HT_.out (by kernel_rfl)) (by decide) (by decide) (fun K hK => ?_) (fun K hK => ?_)
                      ·skip
                       refine goes_ Try.func50 (by kernel_rfl) rfl #[.slice Ao49 y236.length co49] (by rfl) rfl rfl (by (try simp only [List.map_toArray, List.map_cons, List.map_nil]); first | done | rfl | (simp only [List.length_drop, List.length_take]; rfl)) ?_
                       with_reducible refine (quorumref0_CopyWrites.calls kj28 _ _ y236 t240 _ ?side1 ?side2 A42.out).mono ?_
                       (case side1 => repeat (first | exact (by repeat (first | (with_reducible exact HR239.out) | (with_reducible refine Kd.C_alloc ?_ _) | (with_reducible refine Kd.C_drewN ?_ _) | (with_reducible refine Kd.C_drew ?_) | exact HR239.out)) | (with_reducible refine Kd.C_alloc ?_ _) | (with_reducible refine Kd.C_drewN ?_ _) | (with_reducible refine Kd.C_drew ?_)))
                       (case side2 => exact HC239.out)
                       rintro e w51 ⟨v241, rfl, ho0, hb⟩
                       refine ⟨_, rfl, ?_⟩
                       have n1_ := mk0 (Kd.R_lower (Kd.R_newB (Kd.R_new' ho0 (Kd.R_lt (r_ HO_3))) (g := gb230) (o := .cells #[.int .i64 t225, .string t226, .string t227, .bool t228] 36 (0, 0)) (h_ BK230)) (bz_ (b_ HB)))
                       replace HO_3 := mk0 (Kd.R_elder' (r_ HO_3) (Kd.R_base ho0) hb)
                       replace BK222 := mk0 (u_ BK222 hb)
                       replace BK230 := mk0 (u_ BK230 hb)
                       replace HR239 := mk0 (Kd.C_below (by (with_reducible repeat (first | refine Kd.C_drewN ?_ _ | refine Kd.C_drew ?_ | refine Kd.C_alloc ?_ _)); exact HR239.out) hb)
                       replace HR252 := mk0 (Kd.C_below (by (with_reducible repeat (first | refine Kd.C_drewN ?_ _ | refine Kd.C_drew ?_ | refine Kd.C_alloc ?_ _)); exact HR252.out) hb)
                       replace HB := mk0 (bt_ (b_ HB) hb)
                       have HO242 := n1_
                       clear n1_
                       (try clear hb)
                       (try clear hb2)
                       (try clear hk)
                       (try clear hi)
                       (try clear ho0)
                       refine hK.out _ _ ⟨bk_ BK230 0, bk_ BK230 1, bk_ BK230 2, bk_ BK230 3⟩ (fun hHeld => ?_)
                       clear hK K
                       refine norm_ (a' := ?_) ?_ ?_
                       rotate_left
                       ·show Act.put _ (some 95) _ = _
                        simp only [z_]
                        rfl
                       refine one_ (i := 5) (N := some 97) (bt 12 959) rfl rfl (one_of HT_.out (by kernel_rfl)) (by decide) (fun K hK => ?_)
                       refine Kd.R_lit_step k36 _ 36 ?hg (N := 97) ?hd (xs := ([(⟨t225, t226, t227, t228⟩ : S36)] : List (S36))) (inner := [.int .i64 t225, .string t226, .string t227, .bool t228]) (ok := fun _ => True) (okp := fun _ => True) ?hr ?hp (fun _ hk => hk) trivial (Below.refl _ _) (Nat.le_refl _) (by simp) ?_; (case hd => rfl); (case hg => rfl); (case hr => first | (go_simp; done) | (go_simp; rfl)); (case hp => exact (Reps.c4 (show Kd.M k36 _ _ _ (⟨t225, t226, t227, t228⟩ : S36) [.int .i64 t225, .string t226, .string t227, .bool t228] from (k36_mkM _ _ _ (⟨t225, t226, t227, t228⟩ : S36) )) (Reps.none _ _)))
                       intro v244 w52 ho53 hb hg_ hnew_
                       clear hg_ hnew_
                       (first | rw [← Ny243.out] at ho53 | (simp only [Int.reduceToNat] at ho53; rw [← Ny243.out] at ho53))
                       have n2_ := mk0 (Kd.R_lower (Kd.R_newB (Kd.R_new' (Kd.R_new' ho53 (Kd.R_lt (r_ HO_3))) (Kd.R_lt (r_ HO242))) (g := gb230) (o := .cells #[.int .i64 t225, .string t226, .string t227, .bool t228] 36 (0, 0)) (h_ BK230)) (bz_ (b_ HB)))
                       replace HO_3 := mk0 (Kd.R_elder' (r_ HO_3) (Kd.R_base ho53) hb)
                       replace HO242 := mk0 (Kd.R_elder' (r_ HO242) (Kd.R_base ho53) hb)
                       replace BK222 := mk0 (u_ BK222 hb)
                       replace BK230 := mk0 (u_ BK230 hb)
                       replace HR239 := mk0 (Kd.C_below (by (with_reducible repeat (first | refine Kd.C_drewN ?_ _ | refine Kd.C_drew ?_ | refine Kd.C_alloc ?_ _)); exact HR239.out) hb)
                       replace HR252 := mk0 (Kd.C_below (by (with_reducible repeat (first | refine Kd.C_drewN ?_ _ | refine Kd.C_drew ?_ | refine Kd.C_alloc ?_ _)); exact HR252.out) hb)
                       replace HB := mk0 (bt_ (b_ HB) hb)
                       have HO245 := n2_
                       clear n2_ hb ho53
                       refine hK.out _ _ ⟨bk_ BK230 0, bk_ BK230 1, bk_ BK230 2, bk_ BK230 3⟩ (fun hHeld => ?_)
                       clear hK K
                       refine norm_ (a' := ?_) ?_ ?_
                       rotate_left
                       ·show Act.put _ (some 97) _ = _
                        simp only [z_]
                        rfl
                       exact norm_ (by simp only [putAll, Act.put, List.setIfInBounds_toArray, List.set_cons_zero, List.set_cons_succ]) (hCont (v241, v244) _ ⟨hHeld, (r2_ (Kd.R_mono HO242.out (fun _ hk => ⟨hk.2, ⟨hk.1.1.2, hk.1.2⟩⟩))), (r2_ (Kd.R_mono HO245.out (fun _ hk => ⟨hk.1.2, ⟨hk.1.1.2, hk.2⟩⟩))), (r2_ (Kd.R_mono HO_3.out (fun _ hk => ⟨hk.1.2, ⟨hk.2, hk.1.1⟩⟩))), (h_ BK222), (h_ BK230), (b_ HB)⟩)
                      ·skip
                       refine Kd.R_lit_step k36 _ 36 ?hg (N := 97) ?hd (xs := ([(⟨t225, t226, t227, t228⟩ : S36)] : List (S36))) (inner := [.int .i64 t225, .string t226, .string t227, .bool t228]) (ok := fun _ => True) (okp := fun _ => True) ?hr ?hp (fun _ hk => hk) trivial (Below.refl _ _) (Nat.le_refl _) (by simp) ?_; (case hd => rfl); (case hg => rfl); (case hr => first | (go_simp; done) | (go_simp; rfl)); (case hp => exact (Reps.c4 (show Kd.M k36 _ _ _ (⟨t225, t226, t227, t228⟩ : S36) [.int .i64 t225, .string t226, .string t227, .bool t228] from (k36_mkM _ _ _ (⟨t225, t226, t227, t228⟩ : S36) )) (Reps.none _ _)))
                       intro v244 w51 ho52 hb hg_ hnew_
                       clear hg_ hnew_
                       (first | rw [← Ny243.out] at ho52 | (simp only [Int.reduceToNat] at ho52; rw [← Ny243.out] at ho52))
                       have n1_ := mk0 (Kd.R_lower (Kd.R_newB (Kd.R_new' ho52 (Kd.R_lt (r_ HO_3))) (g := gb230) (o := .cells #[.int .i64 t225, .string t226, .string t227, .bool t228] 36 (0, 0)) (h_ BK230)) (bz_ (b_ HB)))
                       replace HO_3 := mk0 (Kd.R_elder' (r_ HO_3) (Kd.R_base ho52) hb)
                       replace BK222 := mk0 (u_ BK222 hb)
                       replace BK230 := mk0 (u_ BK230 hb)
                       replace HR239 := mk0 (Kd.C_below (by (with_reducible repeat (first | refine Kd.C_drewN ?_ _ | refine Kd.C_drew ?_ | refine Kd.C_alloc ?_ _)); exact HR239.out) hb)
                       replace HR252 := mk0 (Kd.C_below (by (with_reducible repeat (first | refine Kd.C_drewN ?_ _ | refine Kd.C_drew ?_ | refine Kd.C_alloc ?_ _)); exact HR252.out) hb)
                       replace HB := mk0 (bt_ (b_ HB) hb)
                       have HO245 := n1_
                       clear n1_ hb ho52
                       refine hK.out _ _ ⟨bk_ BK230 0, bk_ BK230 1, bk_ BK230 2, bk_ BK230 3⟩ (fun hHeld => ?_)
                       clear hK K
                       refine norm_ (a' := ?_) ?_ ?_
                       rotate_left
                       ·show Act.put _ (some 97) _ = _
                        simp only [z_]
                        rfl
                       refine one_ (i := 3) (N := some 95) (bt 12 959) rfl rfl (one_of HT_.out (by kernel_rfl)) (by decide) (fun K hK => ?_)
                       refine goes_ Try.func50 (by kernel_rfl) rfl #[.slice Ao49 y236.length co49] (by rfl) rfl rfl (by (try simp only [List.map_toArray, List.map_cons, List.map_nil]); first | done | rfl | (simp only [List.length_drop, List.length_take]; rfl)) ?_
                       with_reducible refine (quorumref0_CopyWrites.calls kj28 _ _ y236 t240 _ ?side1 ?side2 A42.out).mono ?_
                       (case side1 => repeat (first | exact (by repeat (first | (with_reducible exact HR239.out) | (with_reducible refine Kd.C_alloc ?_ _) | (with_reducible refine Kd.C_drewN ?_ _) | (with_reducible refine Kd.C_drew ?_) | exact HR239.out)) | (with_reducible refine Kd.C_alloc ?_ _) | (with_reducible refine Kd.C_drewN ?_ _) | (with_reducible refine Kd.C_drew ?_)))
                       (case side2 => exact HC239.out)
                       rintro e w53 ⟨v241, rfl, ho0, hb⟩
                       refine ⟨_, rfl, ?_⟩
                       have n2_ := mk0 (Kd.R_lower (Kd.R_newB (Kd.R_new' (Kd.R_new' ho0 (Kd.R_lt (r_ HO_3))) (Kd.R_lt (r_ HO245))) (g := gb230) (o := .cells #[.int .i64 t225, .string t226, .string t227, .bool t228] 36 (0, 0)) (h_ BK230)) (bz_ (b_ HB)))
                       replace HO_3 := mk0 (Kd.R_elder' (r_ HO_3) (Kd.R_base ho0) hb)
                       replace HO245 := mk0 (Kd.R_elder' (r_ HO245) (Kd.R_base ho0) hb)
                       replace BK222 := mk0 (u_ BK222 hb)
                       replace BK230 := mk0 (u_ BK230 hb)
                       replace HR239 := mk0 (Kd.C_below (by (with_reducible repeat (first | refine Kd.C_drewN ?_ _ | refine Kd.C_drew ?_ | refine Kd.C_alloc ?_ _)); exact HR239.out) hb)
                       replace HR252 := mk0 (Kd.C_below (by (with_reducible repeat (first | refine Kd.C_drewN ?_ _ | refine Kd.C_drew ?_ | refine Kd.C_alloc ?_ _)); exact HR252.out) hb)
                       replace HB := mk0 (bt_ (b_ HB) hb)
                       have HO242 := n2_
                       clear n2_
                       (try clear hb)
                       (try clear hb2)
                       (try clear hk)
                       (try clear hi)
                       (try clear ho0)
                       refine hK.out _ _ ⟨bk_ BK230 0, bk_ BK230 1, bk_ BK230 2, bk_ BK230 3⟩ (fun hHeld => ?_)
                       clear hK K
                       refine norm_ (a' := ?_) ?_ ?_
                       rotate_left
                       ·show Act.put _ (some 95) _ = _
                        simp only [z_]
                        rfl
                       exact norm_ (by simp only [putAll, Act.put, List.setIfInBounds_toArray, List.set_cons_zero, List.set_cons_succ]) (hCont (v241, v244) _ ⟨hHeld, (r2_ (Kd.R_mono HO242.out (fun _ hk => ⟨hk.1.2, ⟨hk.1.1.2, hk.2⟩⟩))), (r2_ (Kd.R_mono HO245.out (fun _ hk => ⟨hk.2, ⟨hk.1.1.2, hk.1.2⟩⟩))), (r2_ (Kd.R_mono HO_3.out (fun _ hk => ⟨hk.2, ⟨hk.1.2, hk.1.1⟩⟩))), (h_ BK222), (h_ BK230), (b_ HB)⟩)
                     rintro ⟨v241, v244⟩ w54 ⟨hS_, h0_, h1_, h2_, h3_, h4_, h5_⟩
                     have n0_ : Fc (Kd.R k36 36 w54 w.heap.size (fun k_ => some k_ ≠ (v244 : Value).ownBlock ∧ some k_ ≠ (.slice Ao49 x3_1.length co49 : Value).ownBlock ∧ k_ ≠ gb230) v241 t240) := ⟨h0_⟩
                     have n1_ : Fc (Kd.R k36 36 w54 w.heap.size (fun k_ => some k_ ≠ (v241 : Value).ownBlock ∧ some k_ ≠ (.slice Ao49 x3_1.length co49 : Value).ownBlock ∧ k_ ≠ gb230) v244 y243) := ⟨h1_⟩
                     have n2_ : Fc (Kd.R k36 36 w54 w.heap.size (fun k_ => some k_ ≠ (v241 : Value).ownBlock ∧ some k_ ≠ (v244 : Value).ownBlock ∧ k_ ≠ gb230) (.slice Ao49 x3_1.length co49) x3_1) := ⟨h2_⟩
                     have n3_ : Fc (w54.heap[gb222]? = some (.cells #[.slice (some ad223) l0_0.length c0_0, .slice A0_1 l0_1.length c0_1] 34 (0, 0))) := ⟨h3_⟩
                     have n4_ : Fc (w54.heap[gb230]? = some (.cells #[.int .i64 t225, .string t226, .string t227, .bool t228] 36 (0, 0))) := ⟨h4_⟩
                     have n5_ : Fc (Below w.heap.size w w54) := ⟨h5_⟩
                     clear HO_3 BK222 BK230 HB h0_ h1_ h2_ h3_ h4_ h5_
                     have HO242 := n0_
                     have HO245 := n1_
                     have HO_3 := n2_
                     have BK222 := n3_
                     have BK230 := n4_
                     have HB := n5_
                     clear n0_ n1_ n2_ n3_ n4_ n5_
                     have hHeld : w54.cell? ⟨gb230, 0, none⟩ = some (.int .i64 t225) ∧ w54.cell? ⟨gb230, 1, none⟩ = some (.string t226) ∧ w54.cell? ⟨gb230, 2, none⟩ = some (.string t227) ∧ w54.cell? ⟨gb230, 3, none⟩ = some (.bool t228) := hS_
                     obtain ⟨Ao56, co56, eo56⟩ := Kd.R_slice HO245.out
                     (first | subst eo56 | (injection eo56 with f1_ f2_ f3_; have f4_ := f1_.symm; have f5_ := f3_.symm; clear f1_ f2_ f3_; subst f4_; subst f5_))
                     refine norm_ (a' := ?_) ?_ ?_
                     rotate_left
                     ·simp only [putAll, Act.put, List.setIfInBounds_toArray, List.set_cons_zero, List.set_cons_succ]
                      rfl
                     refine one_ (i := 6) (N := some 98) (bt 12 1023) rfl rfl (one_of HT_.out (by kernel_rfl)) (by decide) (fun K hK => ?_)
                     refine Kd.R_append_rows_step k36 (w0 := w) w.heap.size (by rfl) (.tmp 95) (.tmp 97) 32 36 (.agg #[(.int .i64 0), (.string ⟨#[]⟩), (.string ⟨#[]⟩), (.bool false)]) 48 rfl Try.underlying32 info36 rfl (by decide) (by omega) v241 t240 y243 _ _ _ (fun k_ => some k_ ≠ (.slice Ao49 x3_1.length co49 : Value).ownBlock ∧ some k_ ≠ (.slice Ao56 y243.length co56 : Value).ownBlock ∧ k_ ≠ gb230) (fun _ => False) rfl rfl ?aO ?aR (fun _ _ h => h) (fun _ h => h.elim) ?aF ?aB ?aS ?aL ?_
                     (case aR => repeat (first | exact (Kd.R_reads' HO245.out).2.2 | (with_reducible refine Kd.C_alloc ?_ _) | (with_reducible refine Kd.C_drewN ?_ _) | (with_reducible refine Kd.C_drew ?_)))
                     (case aB => exact (b_ HB))
                     (case aF => exact (fun k_ hk => ⟨Kd.fresh' (Kd.R_lt (r_ HO_3)) k_ hk, Kd.fresh' (Kd.R_lt (r_ HO245)) k_ hk, Kd.freshB (g := gb230) (o := .cells #[.int .i64 t225, .string t226, .string t227, .bool t228] 36 (0, 0)) (h_ BK230) k_ hk⟩))
                     (case aO => exact (r2_ (Kd.R_mono HO242.out (fun _ hk => ⟨hk.2.1, ⟨hk.1, hk.2.2⟩⟩))))
                     (case aS => exact (bz_ (b_ HB)))
                     (case aL => have := LMc43.out; omega)
                     intro v247 w55 ho hb hg hat
                     rw [← Ny246.out] at ho
                     replace HO_3 := mk0 (Kd.R_after (ok := (fun k_ => some k_ ≠ (.slice Ao56 y243.length co56 : Value).ownBlock ∧ k_ ≠ gb230)) (r2_ (Kd.R_mono HO_3.out (fun _ hk => ⟨⟨hk.2.1, hk.2.2⟩, hk.1⟩))) hg hat)
                     replace BK222 := mk0 (blk_grown (g := gb222) (o := .cells #[.slice (some ad223) l0_0.length c0_0, .slice A0_1 l0_1.length c0_1] 34 (0, 0)) (h_ BK222) hg (Kd.R_ne HO242.out BK222.out (by decide)))
                     replace BK230 := mk0 (blk_grown (g := gb230) (o := .cells #[.int .i64 t225, .string t226, .string t227, .bool t228] 36 (0, 0)) (h_ BK230) hg (Kd.R_away HO242.out (fun _ hk => hk.2.2)))
                     replace HO245 := mk0 (Kd.R_after (ok := (fun k_ => some k_ ≠ (.slice Ao49 x3_1.length co49 : Value).ownBlock ∧ k_ ≠ gb230)) (r2_ (Kd.R_mono HO245.out (fun _ hk => ⟨⟨hk.2.1, hk.2.2⟩, hk.1⟩))) hg hat)
                     replace HB := mk0 (hb)
                     have HO248 := mk0 (ho)
                     clear HO242
                     clear ho hb hg hat
                     refine hK.out _ _ ⟨bk_ BK230 0, bk_ BK230 1, bk_ BK230 2, bk_ BK230 3⟩ (fun hHeld => ?_)
                     clear hK K
                     refine norm_ (a' := ?_) ?_ ?_
                     rotate_left
                     ·show Act.put _ (some 98) _ = _
                      simp only [z_]
                      rfl
                     refine one_ (i := 10) (N := some 102) (bt 12 2047) rfl rfl (one_of HT_.out (by kernel_rfl)) (by decide) (fun K hK => ?_)
                     refine Kd.R_append_rows_step k36 (w0 := w) w.heap.size (by rfl) (.tmp 98) (.tmp 101) 32 36 (.agg #[(.int .i64 0), (.string ⟨#[]⟩), (.string ⟨#[]⟩), (.bool false)]) 48 rfl Try.underlying32 info36 rfl (by decide) (by omega) v247 y246 y249 _ _ _ (fun k_ => some k_ ≠ (.slice Ao49 x3_1.length co49 : Value).ownBlock ∧ some k_ ≠ (.slice Ao56 y243.length co56 : Value).ownBlock ∧ k_ ≠ gb230) (fun _ => False) rfl rfl ?aO ?aR (fun _ _ h => h) (fun _ h => h.elim) ?aF ?aB ?aS ?aL ?_
                     (case aR => repeat (first | exact (show Kd.C k36 w55 A50 y249.length y249 from by rw [Ny249.out, KA50.out]; exact Kd.C_drop (m := (x7_2 : Int).toNat) (c := co49) ((Kd.R_reads' (r_ HO_3)).2.2) KL50.out ((Kd.R_reads' HO_3.out).2.1)) | (with_reducible refine Kd.C_alloc ?_ _) | (with_reducible refine Kd.C_drewN ?_ _) | (with_reducible refine Kd.C_drew ?_)))
                     (case aB => exact (b_ HB))
                     (case aF => exact (fun k_ hk => ⟨Kd.fresh' (Kd.R_lt (r_ HO_3)) k_ hk, Kd.fresh' (Kd.R_lt (r_ HO245)) k_ hk, Kd.freshB (g := gb230) (o := .cells #[.int .i64 t225, .string t226, .string t227, .bool t228] 36 (0, 0)) (h_ BK230) k_ hk⟩))
                     (case aO => exact (r_ HO248))
                     (case aS => exact (bz_ (b_ HB)))
                     (case aL => have := LMc46.out; omega)
                     intro v254 w57 ho hb hg hat
                     rw [← Ny253.out] at ho
                     replace HO_3 := mk0 (Kd.R_after (ok := (fun k_ => some k_ ≠ (.slice Ao56 y243.length co56 : Value).ownBlock ∧ k_ ≠ gb230)) (r_ HO_3) hg hat)
                     replace BK222 := mk0 (blk_grown (g := gb222) (o := .cells #[.slice (some ad223) l0_0.length c0_0, .slice A0_1 l0_1.length c0_1] 34 (0, 0)) (h_ BK222) hg (Kd.R_ne HO248.out BK222.out (by decide)))
                     replace BK230 := mk0 (blk_grown (g := gb230) (o := .cells #[.int .i64 t225, .string t226, .string t227, .bool t228] 36 (0, 0)) (h_ BK230) hg (Kd.R_away HO248.out (fun _ hk => hk.2.2)))
                     replace HO245 := mk0 (Kd.R_after (ok := (fun k_ => some k_ ≠ (.slice Ao49 x3_1.length co49 : Value).ownBlock ∧ k_ ≠ gb230)) (r_ HO245) hg hat)
                     replace HB := mk0 (hb)
                     have HO255 := mk0 (ho)
                     clear HO248
                     clear ho hb hg hat
                     refine hK.out _ _ ⟨bk_ BK230 0, bk_ BK230 1, bk_ BK230 2, bk_ BK230 3⟩ (fun hHeld => ?_)
                     clear hK K
                     refine norm_ (a' := ?_) ?_ ?_
                     rotate_left
                     ·show Act.put _ (some 102) _ = _
                      simp only [z_]
                      rfl
                     refine pq_ HT_.out 11 3 (bt 12 4095) (h := ?_)
                     refine done_ (done_of HT_.out (by kernel_rfl)) ?_
                     try go_wp2
                     go_roundg kj28
                     case measure => have := HK1.out; have := HK2.out; have := HJ14.out; have := HJ28.out; omega
                     case rel => exact ⟨(y253), (wrap64 (x4_1 + 1)), (by first | rfl | (simp; done) | (simp [*]; done)), H', ⟨by have := HK1.out; have := HK2.out; have := HJ14.out; have := HJ28.out; omega⟩, ⟨by (with_reducible repeat (first | apply Ra_ | apply Rn_ | apply Rd_)); exact Kd.R_mono HO255.out (fun _ hk => trivial)⟩, ⟨h_ BK222⟩, ⟨b_ HB⟩⟩
                    ·rw [if_neg c46] at H
                     exact absurd H (by simp)
                   ·rw [if_neg c43] at H
                    exact absurd H (by simp)
                  ·rw [if_neg c41] at H
                   exact absurd H (by simp)
                 ·rw [if_neg c40] at H
                  exact absurd H (by simp)
     ·rw [if_neg c4] at H
      exact absurd H (by simp)
    ·rw [if_neg c3] at H
     have c3b0 : decide (x4_1 < (l0_0.length : Int)) = false := decide_eq_false c3
     clear c3
     obtain rfl := Option.some.inj H
     obtain ⟨hcz58_0, hcz58_1, hfz58_0, hfz58_1⟩ := c2_ BK222
     go_wp2
     go_ret
     exact ⟨_, by first | rfl | (simp [errW_none, errW_some] <;> rfl) | (simp [*, errW_none, errW_some] <;> rfl), by (with_reducible repeat (first | apply Ra_ | apply Rn_ | apply Rd_)); exact HO_3.out, b_ HB⟩

end Go.Proofs.Ytbaecdcfefmcgaa.PPlc
