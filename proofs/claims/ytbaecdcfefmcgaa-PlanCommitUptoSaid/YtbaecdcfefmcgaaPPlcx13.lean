-- PRINTED by print.py (a twelfth state) out of the translation. Not trusted: Lean checks it.
import Derived.Test.YtbaecdcfefmcgaaPPlcx0
import Derived.Test.YtbaecdcfefmcgaaPPlcx11
import Derived.Test.YtbaecdcfefmcgaaPPlcx12
import Derived.Great.BuildSlice
namespace Go.Proofs.Ytbaecdcfefmcgaa.PPlc
open Go.RowKit Go.Proofs.YtbaecdcfefmcgaaW.PrintWords Go.Proofs.YtbaecdcfefmcgaaW.PrintLast Go.Proofs.YtbaecdcfefmcgaaW.PrintMore
attribute [local go_sem] max2_int min2_int max_two min_two max_three min_three max_four min_four   -- for this text's walks alone
set_option linter.unusedVariables false
set_option linter.unusedSimpArgs false

theorem lock_built_L_ (a b : Int) (lo hi : ByteArray) (tp : Bool) (m : Int) : Try.prog.built 191 [(0, .int .i64 a), (1, .int .i64 b), (2, .agg #[.string lo, .string hi, .bool tp]), (3, .int .i64 m)] = some #[.int .i64 a, .int .i64 b, .string lo, .string hi, .bool tp, .int .i64 m] := by kernel_rfl
theorem fill6_L_ (z c0 c1 c2 c3 c4 c5 : Value) : Instr.fill (fun i => some (i * 6, 6)) ((Array.range (1 * 6)).map (z.cells[· % z.cells.size]!)) [(0, .agg #[c0, c1, c2, c3, c4, c5])] = some #[c0, c1, c2, c3, c4, c5] := by
  have h := Go.Great.fill_whole (s := 6) (by decide) [Value.agg #[c0, c1, c2, c3, c4, c5]] ((Array.range (1 * 6)).map (z.cells[· % z.cells.size]!)) (fun v hv => by obtain rfl := List.mem_singleton.1 hv; rfl) (by simp)
  simpa [Value.cells] using h
theorem bu_run_L_ {P : Program} {a : Act} {o : Oper} {w : World} (t : TypeId) (parts : Array (Nat × Operand)) (cells : Array Value) (ho : o.op = .build t parts) (hb : P.built t (parts.map fun (i, x) => (i, a.eval x)).toList = some cells) : (execOp a.eval o).run P w = .ok (.value (.agg cells)) w := by
  unfold execOp
  simp only [ho, Sem.run_bind, run_build w t _ cells hb, Result.andThen_ok, Sem.run_pure]
theorem bs_run_L_ {P : Program} {a : Act} {o : Oper} {w : World} (t e : TypeId) (parts : Array (Nat × Operand)) (cells : Array Value) (z : Value) (sz by_ : Nat) (ho : o.op = .buildSlice t 1 parts) (hu : P.underlying t = some (.slice e)) (hi : (P.info? e).map (fun i => (i.zero, i.size, i.bytes)) = some (some z, sz, by_)) (hsm : ¬ 1 * sz > 2 ^ 24) (hp : ¬ 1 * sz = 0)
    (hf : Instr.fill (fun i => some (i * sz, sz)) ((Array.range (1 * sz)).map (z.cells[· % z.cells.size]!)) (parts.map fun (i, x) => (i, a.eval x)).toList = some cells) : (execOp a.eval o).run P w = .ok (.value (.slice (some ⟨w.heap.size, 0, none⟩) 1 1)) (w.alloc (.cells cells e)) := by
  obtain ⟨ie, h1, h2⟩ := Option.map_eq_some_iff.1 hi
  simp only [Prod.mk.injEq] at h2
  obtain ⟨h3, rfl, _⟩ := h2
  unfold execOp
  simp only [ho, Sem.run_bind, run_buildSlice w t e 1 _ cells ie z hu h1 h3 hsm hp hf, Result.andThen_ok, Sem.run_pure]
/-! ### quorumref12_Locks: function 107 -/
mutual
def quorumref12_Locks.j0 : Nat → Int → Int → Bool → Int → Int → ByteArray → ByteArray → ByteArray → ByteArray → Bool → Int → Bool → List (S36) → List Int → Int → Int → ByteArray → ByteArray → Bool → Int → Option ((List (S191)))
 | 0, _, _, _, _, _, _, _, _, _, _, _, _, _, _, _, _, _, _, _, _ => none
 | k + 1, x2, x19, x25, x260000, x260001, x260002, x260003, x260004, x260005, x260006, x260007, x260008, x261000, x261001, x265000, x265001, x265002, x265003, x265004, x265005 => if x25 = true then (none) else (if x19 = 6 then ((quorumref1_None.f x260004 x260005 x260006).bind fun t271 => (if t271 = true then (some ([] : List (S191))) else (some (([(⟨x265000, x265001, (⟨x260004, x260005, x260006⟩ : S74), 1⟩ : S191)] : List (S191)))))) else (if x19 = 7 then ((quorumref1_All.f).bind fun bt275 => (some (([(⟨x265000, x265001, (⟨bt275.1, bt275.2.1, bt275.2.2⟩ : S74), x260007⟩ : S191)] : List (S191))))) else (if x19 = 11 then ((quorumref8_Sum.f k x261000 x261001).bind fun t281 => (quorumref12_Locks.l0 k x2 ([] : List (S191)) t281 0)) else (some ([] : List (S191))))))
def quorumref12_Locks.l0 : Nat → Int → List (S191) → List (S36) → Int → Option ((List (S191)))
 | 0, _, _, _, _ => none
 | k + 1, x2, x8, x9, x10 => if x10 < (x9.length : Int) then (if 0 ≤ x10 then ((quorumref1_One.f ((rd_T36 x9 x10).f1)).bind fun bt286 => (if x8.length < 2199023255552 then (quorumref12_Locks.l0 k x2 (x8 ++ [(⟨x2, (rd_T36 x9 x10).f0, (⟨bt286.1, bt286.2.1, bt286.2.2⟩ : S74), 3⟩ : S191)]) x9 (wrap64 (x10 + 1))) else (none))) else (none)) else (some x8)
end
def quorumref12_Locks.f (k : Nat) (a0_0 : Int) (a0_1 : Int) (a0_2 : ByteArray) (a0_3 : ByteArray) (a0_4 : ByteArray) (a0_5 : ByteArray) (a0_6 : Bool) (a0_7 : Int) (a0_8 : Bool) (l1_0 : List (S36)) (l1_1 : List Int) (a2 : Int) : Option ((List (S191))) := if a0_0 = 11 then ((quorumref1_One.f a0_2).bind fun bt261 => (if a0_0 = 1 then (some (([(⟨a2, a0_1, (⟨bt261.1, bt261.2.1, bt261.2.2⟩ : S74), 1⟩ : S191)] : List (S191)))) else (if a0_0 = 2 then (quorumref12_Locks.j0 k a2 a0_0 (a0_0 == 2) a0_0 a0_1 a0_2 a0_3 a0_4 a0_5 a0_6 a0_7 a0_8 l1_0 l1_1 a2 a0_1 bt261.1 bt261.2.1 bt261.2.2 2) else (if a0_0 = 3 then (quorumref12_Locks.j0 k a2 a0_0 (a0_0 == 3) a0_0 a0_1 a0_2 a0_3 a0_4 a0_5 a0_6 a0_7 a0_8 l1_0 l1_1 a2 a0_1 bt261.1 bt261.2.1 bt261.2.2 2) else (if a0_0 = 4 then (quorumref12_Locks.j0 k a2 a0_0 (a0_0 == 4) a0_0 a0_1 a0_2 a0_3 a0_4 a0_5 a0_6 a0_7 a0_8 l1_0 l1_1 a2 a0_1 bt261.1 bt261.2.1 bt261.2.2 2) else (quorumref12_Locks.j0 k a2 a0_0 (a0_0 == 5) a0_0 a0_1 a0_2 a0_3 a0_4 a0_5 a0_6 a0_7 a0_8 l1_0 l1_1 a2 a0_1 bt261.1 bt261.2.1 bt261.2.2 2)))))) else (none)
theorem quorumref12_Locks.mono_l : ∀ k, (∀ y0 y1 y2 y3 y4 y5 y6 y7 y8 y9 y10 y11 y12 y13 y14 y15 y16 y17 y18 y19, LeO (quorumref12_Locks.j0 k y0 y1 y2 y3 y4 y5 y6 y7 y8 y9 y10 y11 y12 y13 y14 y15 y16 y17 y18 y19) (quorumref12_Locks.j0 (k + 1) y0 y1 y2 y3 y4 y5 y6 y7 y8 y9 y10 y11 y12 y13 y14 y15 y16 y17 y18 y19)) ∧ (∀ y0 y1 y2 y3, LeO (quorumref12_Locks.l0 k y0 y1 y2 y3) (quorumref12_Locks.l0 (k + 1) y0 y1 y2 y3))
 | 0 => ⟨fun _ _ _ _ _ _ _ _ _ _ _ _ _ _ _ _ _ _ _ _ r h => by simp [quorumref12_Locks.j0] at h, fun _ _ _ _ r h => by simp [quorumref12_Locks.l0] at h⟩
 | k + 1 => by
  obtain ⟨ih0, ih1⟩ := quorumref12_Locks.mono_l k
  refine ⟨?_, ?_⟩
  ·intro y0 y1 y2 y3 y4 y5 y6 y7 y8 y9 y10 y11 y12 y13 y14 y15 y16 y17 y18 y19
   unfold quorumref12_Locks.j0
   repeat' first
   | (with_reducible exact ih0 _ _ _ _ _ _ _ _ _ _ _ _ _ _ _ _ _ _ _ _)
   | (with_reducible exact ih1 _ _ _ _)
   | (with_reducible exact quorumref8_Sum.mono _ _ _)
   | (with_reducible exact LeO.refl _)
   | (with_reducible exact LeO.none _)
   | (with_reducible refine LeO.ite ?_ ?_)
   | (with_reducible refine LeO.bind ?_ (fun _ => ?_))
   | exact ih0 _ _ _ _ _ _ _ _ _ _ _ _ _ _ _ _ _ _ _ _
   | exact ih1 _ _ _ _
   | exact quorumref8_Sum.mono _ _ _
   | exact LeO.none _
   | refine LeO.ite ?_ ?_
   | refine LeO.bind ?_ (fun _ => ?_)
  ·intro y0 y1 y2 y3
   unfold quorumref12_Locks.l0
   repeat' first
   | (with_reducible exact ih0 _ _ _ _ _ _ _ _ _ _ _ _ _ _ _ _ _ _ _ _)
   | (with_reducible exact ih1 _ _ _ _)
   | (with_reducible exact quorumref8_Sum.mono _ _ _)
   | (with_reducible exact LeO.refl _)
   | (with_reducible exact LeO.none _)
   | (with_reducible refine LeO.ite ?_ ?_)
   | (with_reducible refine LeO.bind ?_ (fun _ => ?_))
   | exact ih0 _ _ _ _ _ _ _ _ _ _ _ _ _ _ _ _ _ _ _ _
   | exact ih1 _ _ _ _
   | exact quorumref8_Sum.mono _ _ _
   | exact LeO.none _
   | refine LeO.ite ?_ ?_
   | refine LeO.bind ?_ (fun _ => ?_)
theorem quorumref12_Locks.mono : ∀ a0 a1 a2 a3 a4 a5 a6 a7 a8 a9 a10 a11 k, LeO (quorumref12_Locks.f k a0 a1 a2 a3 a4 a5 a6 a7 a8 a9 a10 a11) (quorumref12_Locks.f (k + 1) a0 a1 a2 a3 a4 a5 a6 a7 a8 a9 a10 a11) := by
 intro a0 a1 a2 a3 a4 a5 a6 a7 a8 a9 a10 a11 k
 obtain ⟨ih0, ih1⟩ := quorumref12_Locks.mono_l k
 unfold quorumref12_Locks.f
 repeat' first
   | (with_reducible exact ih0 _ _ _ _ _ _ _ _ _ _ _ _ _ _ _ _ _ _ _ _)
   | (with_reducible exact ih1 _ _ _ _)
   | (with_reducible exact quorumref8_Sum.mono _ _ _)
   | (with_reducible exact LeO.refl _)
   | (with_reducible exact LeO.none _)
   | (with_reducible refine LeO.ite ?_ ?_)
   | (with_reducible refine LeO.bind ?_ (fun _ => ?_))
   | exact ih0 _ _ _ _ _ _ _ _ _ _ _ _ _ _ _ _ _ _ _ _
   | exact ih1 _ _ _ _
   | exact quorumref8_Sum.mono _ _ _
   | exact LeO.none _
   | refine LeO.ite ?_ ?_
   | refine LeO.bind ?_ (fun _ => ?_)
def quorumref12_Locks.T1 : Bool × List (List Nat × List Nat) := (true, [([], []), ([], []), ([1], [1]), ([], []), ([3], [3]), ([4], [4]), ([0, 2, 5], [0, 2, 5]), ([], []), ([7, 6, 5, 0, 1, 2, 3, 4, 5, 6, 7], [6, 7])])
def quorumref12_Locks.B1 : List Nat := [0, 0, 2, 0, 8, 24, 63, 0, 255]
theorem quorumref12_Locks.tab1 : rtab .any (opsOf Try.f107 1) = quorumref12_Locks.T1 := by kernel_rfl
theorem quorumref12_Locks.bits1 : waitsOk quorumref12_Locks.T1.2 quorumref12_Locks.B1 = true := by kernel_rfl
def quorumref12_Locks.T25 : Bool × List (List Nat × List Nat) := (true, [([], []), ([], []), ([], []), ([], []), ([2, 3], [2, 3]), ([4], [4]), ([5], [5]), ([], []), ([], []), ([7, 8], [7, 8]), ([9], [9]), ([10], [10]), ([11], [11]), ([1, 6, 12], [1, 6, 12]), ([13], [13]), ([0, 14, 12], [0, 14]), ([15, 15, 0, 1, 2, 3, 4, 5, 6, 7, 8, 9, 10, 11, 12, 13, 14, 15], [0, 15])])
def quorumref12_Locks.B25 : List Nat := [0, 0, 0, 0, 12, 28, 60, 0, 0, 384, 896, 1920, 3968, 8190, 16382, 32767, 65535]
theorem quorumref12_Locks.tab25 : rtab .any (opsOf Try.f107 25) = quorumref12_Locks.T25 := by kernel_rfl
theorem quorumref12_Locks.bits25 : waitsOk quorumref12_Locks.T25.2 quorumref12_Locks.B25 = true := by kernel_rfl
set_option maxHeartbeats 8000000 in
set_option maxRecDepth 100000 in
theorem quorumref12_Locks.calls (k : Nat) (a0_0 : Int) (a0_1 : Int) (a0_2 : ByteArray) (a0_3 : ByteArray) (a0_4 : ByteArray) (a0_5 : ByteArray) (a0_6 : Bool) (a0_7 : Int) (a0_8 : Bool) (A1_0 : Option Addr) (c1_0 : Nat) (l1_0 : List (S36)) (A1_1 : Option Addr) (c1_1 : Nat) (l1_1 : List Int) (a2 : Int) (r : List (S191)) (w : World) (hr1_0 : Kd.C k36 w A1_0 l1_0.length l1_0) (hc1_0 : l1_0.length ≤ c1_0) (hr1_1 : Kd.C (Kd.int .i64) w A1_1 l1_1.length l1_1) (hc1_1 : l1_1.length ≤ c1_1) (h : quorumref12_Locks.f k a0_0 a0_1 a0_2 a0_3 a0_4 a0_5 a0_6 a0_7 a0_8 l1_0 l1_1 a2 = some r) :
  Calls Try.prog 107 #[.agg #[.int .i64 a0_0, .int .i64 a0_1, .string a0_2, .string a0_3, .string a0_4, .string a0_5, .bool a0_6, .int .i64 a0_7, .bool a0_8], .agg #[.slice A1_0 l1_0.length c1_0, .slice A1_1 l1_1.length c1_1], .int .i64 a2] w fun e w' => ∃ v0_ : Value, e = .returned (v0_) ∧ Kd.R k191 191 w' w.heap.size (fun _ => True) v0_ r ∧ Below w.heap.size w w' := by
 have hu101 := Try.underlying101
 have hu34 := Try.underlying34
 have hu191 := Try.underlying191
 have hu74 := Try.underlying74
 have HR1_0 := mk0 hr1_0
 have HC1_0 := mk0 hc1_0
 clear hr1_0 hc1_0
 have HR1_1 := mk0 hr1_1
 have HC1_1 := mk0 hc1_1
 clear hr1_1 hc1_1
 have HB := mk0 (Below.refl w.heap.size w)
 by_cases h11 : a0_0 = 11
 rotate_left
 ·unfold quorumref12_Locks.f at h; rw [if_neg h11] at h; exact absurd h (by simp)
 have K11 := mk0 h11
 have H : ((quorumref1_One.f a0_2).bind fun bt261 => (if a0_0 = 1 then (some (([(⟨a2, a0_1, (⟨bt261.1, bt261.2.1, bt261.2.2⟩ : S74), 1⟩ : S191)] : List (S191)))) else (if a0_0 = 2 then (quorumref12_Locks.j0 k a2 a0_0 (a0_0 == 2) a0_0 a0_1 a0_2 a0_3 a0_4 a0_5 a0_6 a0_7 a0_8 l1_0 l1_1 a2 a0_1 bt261.1 bt261.2.1 bt261.2.2 2) else (if a0_0 = 3 then (quorumref12_Locks.j0 k a2 a0_0 (a0_0 == 3) a0_0 a0_1 a0_2 a0_3 a0_4 a0_5 a0_6 a0_7 a0_8 l1_0 l1_1 a2 a0_1 bt261.1 bt261.2.1 bt261.2.2 2) else (if a0_0 = 4 then (quorumref12_Locks.j0 k a2 a0_0 (a0_0 == 4) a0_0 a0_1 a0_2 a0_3 a0_4 a0_5 a0_6 a0_7 a0_8 l1_0 l1_1 a2 a0_1 bt261.1 bt261.2.1 bt261.2.2 2) else (quorumref12_Locks.j0 k a2 a0_0 (a0_0 == 5) a0_0 a0_1 a0_2 a0_3 a0_4 a0_5 a0_6 a0_7 a0_8 l1_0 l1_1 a2 a0_1 bt261.1 bt261.2.1 bt261.2.2 2)))))) = some r := by unfold quorumref12_Locks.f at h; rw [if_pos h11] at h; exact h
 clear h11
 clear h
 replace H := Option.bind_eq_some_iff.mp H
 obtain ⟨⟨t261, t262, t263⟩, A40, H⟩ := H
 try dsimp only at H
 have A4 := mk0 A40
 clear A40
 by_cases c5 : a0_0 = 1
 ·exact absurd c5 (by have := K11.out; omega)
 ·rw [if_neg c5] at H
  have c5b0 : (a0_0 == 1) = false := beq_eq_false_iff_ne.mpr c5
  have c5b1 : (a0_0 != 1) = true := bne_iff_ne.mpr c5
  have HC25 := mk0 H
  clear H
  go_enter Try.func107, Try.ntmps107
  try go_wp2_with (first | ((with_reducible refine gate_dst (N := 3) rfl ?_); refine bx_ (N := 3) (cs := #[.int .i64 a0_0, .int .i64 a0_1, .string a0_2, .string a0_3, .string a0_4, .string a0_5, .bool a0_6, .int .i64 a0_7, .bool a0_8]) (t := 101) (h := ?_); intro gb259 hg w26 hbox hb; have n2_ := mk0 (gz_ HB hg); have n3_ := mk0 (gz_ HB hg); replace HB := mk0 (bt_ (b_ HB) hb); have BK259 := mk0 (hbox); have GW259 := n2_; have GE259 := n3_; clear n2_ n3_; clear hb hbox hg) | ((with_reducible refine gate_dst (N := 4) rfl ?_); refine bx_ (N := 4) (cs := #[.slice A1_0 l1_0.length c1_0, .slice A1_1 l1_1.length c1_1]) (t := 34) (h := ?_); intro gb260 hg w27 hbox hb; have n3_ := mk0 (gz_ HB hg); have n4_ := mk0 (gz_ HB hg); have n5_ := mk0 (ne1_ BK259 hg); have n6_ := mk0 (ne2_ BK259 hg); replace BK259 := mk0 (u_ BK259 hb); replace HB := mk0 (bt_ (b_ HB) hb); have BK260 := mk0 (hbox); have GW260 := n3_; have GE260 := n4_; have NB259_260 := n5_; have NB260_259 := n6_; clear n3_ n4_ n5_ n6_; clear hb hbox hg))
  replace BK259 := mk0 (bD_ BK259.out)
  replace BK260 := mk0 (bD_ BK260.out)
  replace HB := mk0 (b1_ HB.out)
  refine start_ (n := 9) (S := fun w' => w'.cell? ⟨gb259, 0, none⟩ = some (.int .i64 a0_0) ∧ w'.cell? ⟨gb259, 1, none⟩ = some (.int .i64 a0_1) ∧ w'.cell? ⟨gb259, 2, none⟩ = some (.string a0_2) ∧ w'.cell? ⟨gb259, 3, none⟩ = some (.string a0_3) ∧ w'.cell? ⟨gb259, 4, none⟩ = some (.string a0_4) ∧ w'.cell? ⟨gb259, 5, none⟩ = some (.string a0_5) ∧ w'.cell? ⟨gb259, 6, none⟩ = some (.bool a0_6) ∧ w'.cell? ⟨gb259, 7, none⟩ = some (.int .i64 a0_7) ∧ w'.cell? ⟨gb259, 8, none⟩ = some (.bool a0_8)) (ds := []) (bt 9 0) (by kernel_rfl) rfl rfl ⟨bk_ BK259 0, bk_ BK259 1, bk_ BK259 2, bk_ BK259 3, bk_ BK259 4, bk_ BK259 5, bk_ BK259 6, bk_ BK259 7, bk_ BK259 8⟩ (fun hHeld => ?_); refine with_tabW quorumref12_Locks.tab1 quorumref12_Locks.bits1 (fun HT_ HW_ => ?_)
  generalize w27.drew = w28 at BK259 BK260 HB hHeld ⊢
  refine pq_ HT_.out 0 11 (bt 9 1) (h := ?_)
  refine pq_ HT_.out 1 12 (bt 9 3) (h := ?_)
  refine pq_ HT_.out 3 14 (bt 9 11) (h := ?_)
  refine tq9_ HT_.out HW_.out 2 13 (bt 9 15) hHeld (h := ?_)
  refine tq9_ HT_.out HW_.out 4 15 (bt 9 31) hHeld (h := ?_)
  refine join_ (σ := Nat) 1 (bt 9 255) (fun s_ => [(16, .agg #[.string t261, .string t262, .bool t263]), (7, .pointer (some ⟨s_, 0, none⟩)), (17, .agg #[.int .i64 a2, .int .i64 a0_1, .string t261, .string t262, .bool t263, .int .i64 2])]) (fun s_ w' => (w'.cell? ⟨gb259, 0, none⟩ = some (.int .i64 a0_0) ∧ w'.cell? ⟨gb259, 1, none⟩ = some (.int .i64 a0_1) ∧ w'.cell? ⟨gb259, 2, none⟩ = some (.string a0_2) ∧ w'.cell? ⟨gb259, 3, none⟩ = some (.string a0_3) ∧ w'.cell? ⟨gb259, 4, none⟩ = some (.string a0_4) ∧ w'.cell? ⟨gb259, 5, none⟩ = some (.string a0_5) ∧ w'.cell? ⟨gb259, 6, none⟩ = some (.bool a0_6) ∧ w'.cell? ⟨gb259, 7, none⟩ = some (.int .i64 a0_7) ∧ w'.cell? ⟨gb259, 8, none⟩ = some (.bool a0_8)) ∧ (w'.heap[gb259]? = some (.cells #[.int .i64 a0_0, .int .i64 a0_1, .string a0_2, .string a0_3, .string a0_4, .string a0_5, .bool a0_6, .int .i64 a0_7, .bool a0_8] 101 (0, 0))) ∧ (w'.heap[gb260]? = some (.cells #[.slice A1_0 l1_0.length c1_0, .slice A1_1 l1_1.length c1_1] 34 (0, 0))) ∧ (w'.heap[s_]? = some (.cells #[.int .i64 0, .int .i64 0, .string (⟨#[]⟩ : ByteArray), .string (⟨#[]⟩ : ByteArray), .bool false, .int .i64 0] 191 (0, 0))) ∧ (w.heap.size ≤ s_) ∧ (w.heap.size ≤ s_) ∧ (gb259 ≠ s_) ∧ (s_ ≠ gb259) ∧ (gb260 ≠ s_) ∧ (s_ ≠ gb260) ∧ (Below w.heap.size w w')) ?_ ?_
  rotate_left
  ·intro hCont
   refine two_ (i := 5) (j := 7) (Ni := some 16) (Nj := some 7) (bt 9 63) (bt 9 159) rfl rfl rfl rfl (two_of HT_.out (by kernel_rfl)) (by decide) (by decide) (fun K hK => ?_) (fun K hK => ?_)
   ·skip
    refine goes_ Try.func153 (by kernel_rfl) rfl #[.string a0_2] (by rfl) rfl rfl (by (try simp only [List.map_toArray, List.map_cons, List.map_nil]); first | done | rfl | (simp only [List.length_drop, List.length_take]; rfl)) ?_
    with_reducible refine (quorumref1_One.calls a0_2 t261 t262 t263 _ A4.out).mono ?_
    rintro e w29 ⟨rfl, hb⟩
    refine ⟨_, rfl, ?_⟩
    replace BK259 := mk0 (u_ BK259 hb)
    replace BK260 := mk0 (u_ BK260 hb)
    replace HB := mk0 (bt_ (b_ HB) hb)
    (try clear hb)
    (try clear hb2)
    (try clear hk)
    (try clear hi)
    refine hK.out _ _ ⟨bk_ BK259 0, bk_ BK259 1, bk_ BK259 2, bk_ BK259 3, bk_ BK259 4, bk_ BK259 5, bk_ BK259 6, bk_ BK259 7, bk_ BK259 8⟩ (fun hHeld => ?_)
    clear hK K
    refine norm_ (a' := ?_) ?_ ?_
    rotate_left
    ·show Act.put _ (some 16) _ = _
     simp only [z_]
     rfl
    refine pq_ HT_.out 6 17 (bt 9 127) (h := ?_)
    refine one_ (i := 7) (N := some 7) (bt 9 255) rfl rfl (one_of HT_.out (by kernel_rfl)) (by decide) (fun K hK => ?_)
    refine box_step ?hg (N := 7) ?hd (cs := #[.int .i64 0, .int .i64 0, .string (⟨#[]⟩ : ByteArray), .string (⟨#[]⟩ : ByteArray), .bool false, .int .i64 0]) (t := 191) ?hr ?_; (case hd => rfl); (case hg => rfl); (case hr => first | (go_simp; done) | (go_simp; rfl))
    intro gb264 hg w30 hbox hb
    have n4_ := mk0 (gz_ HB hg)
    have n5_ := mk0 (gz_ HB hg)
    have n6_ := mk0 (ne1_ BK259 hg)
    have n7_ := mk0 (ne2_ BK259 hg)
    have n8_ := mk0 (ne1_ BK260 hg)
    have n9_ := mk0 (ne2_ BK260 hg)
    replace BK259 := mk0 (u_ BK259 hb)
    replace BK260 := mk0 (u_ BK260 hb)
    replace HB := mk0 (bt_ (b_ HB) hb)
    have BK264 := mk0 (hbox)
    have GW264 := n4_
    have GE264 := n5_
    have NB259_264 := n6_
    have NB264_259 := n7_
    have NB260_264 := n8_
    have NB264_260 := n9_
    clear n4_ n5_ n6_ n7_ n8_ n9_ hb hbox hg
    refine hK.out _ _ ⟨bk_ BK259 0, bk_ BK259 1, bk_ BK259 2, bk_ BK259 3, bk_ BK259 4, bk_ BK259 5, bk_ BK259 6, bk_ BK259 7, bk_ BK259 8⟩ (fun hHeld => ?_)
    clear hK K
    refine norm_ (a' := ?_) ?_ ?_
    rotate_left
    ·show Act.put _ (some 7) _ = _
     simp only [z_]
     rfl
    exact norm_ (by simp only [putAll, Act.put, List.setIfInBounds_toArray, List.set_cons_zero, List.set_cons_succ]) (hCont (gb264) _ ⟨hHeld, (h_ BK259), (h_ BK260), (h_ BK264), GW264.out, GE264.out, NB259_264.out, NB264_259.out, NB260_264.out, NB264_260.out, (b_ HB)⟩)
   ·skip
    refine box_step ?hg (N := 7) ?hd (cs := #[.int .i64 0, .int .i64 0, .string (⟨#[]⟩ : ByteArray), .string (⟨#[]⟩ : ByteArray), .bool false, .int .i64 0]) (t := 191) ?hr ?_; (case hd => rfl); (case hg => rfl); (case hr => first | (go_simp; done) | (go_simp; rfl))
    intro gb264 hg w29 hbox hb
    have n4_ := mk0 (gz_ HB hg)
    have n5_ := mk0 (gz_ HB hg)
    have n6_ := mk0 (ne1_ BK259 hg)
    have n7_ := mk0 (ne2_ BK259 hg)
    have n8_ := mk0 (ne1_ BK260 hg)
    have n9_ := mk0 (ne2_ BK260 hg)
    replace BK259 := mk0 (u_ BK259 hb)
    replace BK260 := mk0 (u_ BK260 hb)
    replace HB := mk0 (bt_ (b_ HB) hb)
    have BK264 := mk0 (hbox)
    have GW264 := n4_
    have GE264 := n5_
    have NB259_264 := n6_
    have NB264_259 := n7_
    have NB260_264 := n8_
    have NB264_260 := n9_
    clear n4_ n5_ n6_ n7_ n8_ n9_ hb hbox hg
    refine hK.out _ _ ⟨bk_ BK259 0, bk_ BK259 1, bk_ BK259 2, bk_ BK259 3, bk_ BK259 4, bk_ BK259 5, bk_ BK259 6, bk_ BK259 7, bk_ BK259 8⟩ (fun hHeld => ?_)
    clear hK K
    refine norm_ (a' := ?_) ?_ ?_
    rotate_left
    ·show Act.put _ (some 7) _ = _
     simp only [z_]
     rfl
    refine one_ (i := 5) (N := some 16) (bt 9 191) rfl rfl (one_of HT_.out (by kernel_rfl)) (by decide) (fun K hK => ?_)
    refine goes_ Try.func153 (by kernel_rfl) rfl #[.string a0_2] (by rfl) rfl rfl (by (try simp only [List.map_toArray, List.map_cons, List.map_nil]); first | done | rfl | (simp only [List.length_drop, List.length_take]; rfl)) ?_
    with_reducible refine (quorumref1_One.calls a0_2 t261 t262 t263 _ A4.out).mono ?_
    rintro e w30 ⟨rfl, hb⟩
    refine ⟨_, rfl, ?_⟩
    replace BK259 := mk0 (u_ BK259 hb)
    replace BK260 := mk0 (u_ BK260 hb)
    replace BK264 := mk0 (blk_below (g := gb264) (o := .cells #[.int .i64 0, .int .i64 0, .string (⟨#[]⟩ : ByteArray), .string (⟨#[]⟩ : ByteArray), .bool false, .int .i64 0] 191 (0, 0)) (h_ BK264) hb)
    replace HB := mk0 (bt_ (b_ HB) hb)
    (try clear hb)
    (try clear hb2)
    (try clear hk)
    (try clear hi)
    refine hK.out _ _ ⟨bk_ BK259 0, bk_ BK259 1, bk_ BK259 2, bk_ BK259 3, bk_ BK259 4, bk_ BK259 5, bk_ BK259 6, bk_ BK259 7, bk_ BK259 8⟩ (fun hHeld => ?_)
    clear hK K
    refine norm_ (a' := ?_) ?_ ?_
    rotate_left
    ·show Act.put _ (some 16) _ = _
     simp only [z_]
     rfl
    refine pq_ HT_.out 6 17 (bt 9 255) (h := ?_)
    exact norm_ (by simp only [putAll, Act.put, List.setIfInBounds_toArray, List.set_cons_zero, List.set_cons_succ]) (hCont (gb264) _ ⟨hHeld, (h_ BK259), (h_ BK260), (h_ BK264), GW264.out, GE264.out, NB259_264.out, NB264_259.out, NB260_264.out, NB264_260.out, (b_ HB)⟩)
  rintro gb264 w31 ⟨hS_, h0_, h1_, h2_, h3_, h4_, h5_, h6_, h7_, h8_, h9_⟩
  have n0_ : Fc (w31.heap[gb259]? = some (.cells #[.int .i64 a0_0, .int .i64 a0_1, .string a0_2, .string a0_3, .string a0_4, .string a0_5, .bool a0_6, .int .i64 a0_7, .bool a0_8] 101 (0, 0))) := ⟨h0_⟩
  have n1_ : Fc (w31.heap[gb260]? = some (.cells #[.slice A1_0 l1_0.length c1_0, .slice A1_1 l1_1.length c1_1] 34 (0, 0))) := ⟨h1_⟩
  have n2_ : Fc (w31.heap[gb264]? = some (.cells #[.int .i64 0, .int .i64 0, .string (⟨#[]⟩ : ByteArray), .string (⟨#[]⟩ : ByteArray), .bool false, .int .i64 0] 191 (0, 0))) := ⟨h2_⟩
  have n3_ : Fc (w.heap.size ≤ gb264) := ⟨h3_⟩
  have n4_ : Fc (w.heap.size ≤ gb264) := ⟨h4_⟩
  have n5_ : Fc (gb259 ≠ gb264) := ⟨h5_⟩
  have n6_ : Fc (gb264 ≠ gb259) := ⟨h6_⟩
  have n7_ : Fc (gb260 ≠ gb264) := ⟨h7_⟩
  have n8_ : Fc (gb264 ≠ gb260) := ⟨h8_⟩
  have n9_ : Fc (Below w.heap.size w w31) := ⟨h9_⟩
  clear BK259 BK260 HB h0_ h1_ h2_ h3_ h4_ h5_ h6_ h7_ h8_ h9_
  have BK259 := n0_
  have BK260 := n1_
  have BK264 := n2_
  have GW264 := n3_
  have GE264 := n4_
  have NB259_264 := n5_
  have NB264_259 := n6_
  have NB260_264 := n7_
  have NB264_260 := n8_
  have HB := n9_
  clear n0_ n1_ n2_ n3_ n4_ n5_ n6_ n7_ n8_ n9_
  have hHeld : w31.cell? ⟨gb259, 0, none⟩ = some (.int .i64 a0_0) ∧ w31.cell? ⟨gb259, 1, none⟩ = some (.int .i64 a0_1) ∧ w31.cell? ⟨gb259, 2, none⟩ = some (.string a0_2) ∧ w31.cell? ⟨gb259, 3, none⟩ = some (.string a0_3) ∧ w31.cell? ⟨gb259, 4, none⟩ = some (.string a0_4) ∧ w31.cell? ⟨gb259, 5, none⟩ = some (.string a0_5) ∧ w31.cell? ⟨gb259, 6, none⟩ = some (.bool a0_6) ∧ w31.cell? ⟨gb259, 7, none⟩ = some (.int .i64 a0_7) ∧ w31.cell? ⟨gb259, 8, none⟩ = some (.bool a0_8) := hS_
  refine norm_ (a' := ?_) ?_ ?_
  rotate_left
  ·simp only [putAll, Act.put, List.setIfInBounds_toArray, List.set_cons_zero, List.set_cons_succ]
   rfl
  refine one_ (i := 8) (N := none) (bt 9 511) rfl rfl (one_of HT_.out (by kernel_rfl)) (by decide) (fun K hK => ?_)
  have hs32 : w31.cell? ⟨gb264, 0, none⟩ = some (.int .i64 0) := bk_ BK264 0
  have hfs32 := blk_frozen BK264.out 0
  have hns32_0 := NB259_264.out
  have hns32_1 := NB260_264.out
  have hms32_0 := NB264_259.out
  have hms32_1 := NB264_260.out
  have hs33 : w31.cell? ⟨gb264, 1, none⟩ = some (.int .i64 0) := bk_ BK264 1
  have hfs33 := blk_frozen BK264.out 1
  have hns33_0 := NB259_264.out
  have hns33_1 := NB260_264.out
  have hms33_0 := NB264_259.out
  have hms33_1 := NB264_260.out
  have hs34 : w31.cell? ⟨gb264, 2, none⟩ = some (.string (⟨#[]⟩ : ByteArray)) := bk_ BK264 2
  have hfs34 := blk_frozen BK264.out 2
  have hns34_0 := NB259_264.out
  have hns34_1 := NB260_264.out
  have hms34_0 := NB264_259.out
  have hms34_1 := NB264_260.out
  have hs35 : w31.cell? ⟨gb264, 3, none⟩ = some (.string (⟨#[]⟩ : ByteArray)) := bk_ BK264 3
  have hfs35 := blk_frozen BK264.out 3
  have hns35_0 := NB259_264.out
  have hns35_1 := NB260_264.out
  have hms35_0 := NB264_259.out
  have hms35_1 := NB264_260.out
  have hs36 : w31.cell? ⟨gb264, 4, none⟩ = some (.bool false) := bk_ BK264 4
  have hfs36 := blk_frozen BK264.out 4
  have hns36_0 := NB259_264.out
  have hns36_1 := NB260_264.out
  have hms36_0 := NB264_259.out
  have hms36_1 := NB264_260.out
  have hs37 : w31.cell? ⟨gb264, 5, none⟩ = some (.int .i64 0) := bk_ BK264 5
  have hfs37 := blk_frozen BK264.out 5
  have hns37_0 := NB259_264.out
  have hns37_1 := NB260_264.out
  have hms37_0 := NB264_259.out
  have hms37_1 := NB264_260.out
  refine skip_ (w1 := ?_) (by rfl) rfl ?_ ?_
  rotate_left
  ·go_simp
   rfl
  refine hK.out _ _ ⟨(cf_ NB259_264.out ((cf_ NB259_264.out ((cf_ NB259_264.out ((cf_ NB259_264.out ((cf_ NB259_264.out (cf_ NB259_264.out hHeld.1)))))))))), (cf_ NB259_264.out ((cf_ NB259_264.out ((cf_ NB259_264.out ((cf_ NB259_264.out ((cf_ NB259_264.out (cf_ NB259_264.out hHeld.2.1)))))))))), (cf_ NB259_264.out ((cf_ NB259_264.out ((cf_ NB259_264.out ((cf_ NB259_264.out ((cf_ NB259_264.out (cf_ NB259_264.out hHeld.2.2.1)))))))))), (cf_ NB259_264.out ((cf_ NB259_264.out ((cf_ NB259_264.out ((cf_ NB259_264.out ((cf_ NB259_264.out (cf_ NB259_264.out hHeld.2.2.2.1)))))))))), (cf_ NB259_264.out ((cf_ NB259_264.out ((cf_ NB259_264.out ((cf_ NB259_264.out ((cf_ NB259_264.out (cf_ NB259_264.out hHeld.2.2.2.2.1)))))))))), (cf_ NB259_264.out ((cf_ NB259_264.out ((cf_ NB259_264.out ((cf_ NB259_264.out ((cf_ NB259_264.out (cf_ NB259_264.out hHeld.2.2.2.2.2.1)))))))))), (cf_ NB259_264.out ((cf_ NB259_264.out ((cf_ NB259_264.out ((cf_ NB259_264.out ((cf_ NB259_264.out (cf_ NB259_264.out hHeld.2.2.2.2.2.2.1)))))))))), (cf_ NB259_264.out ((cf_ NB259_264.out ((cf_ NB259_264.out ((cf_ NB259_264.out ((cf_ NB259_264.out (cf_ NB259_264.out hHeld.2.2.2.2.2.2.2.1)))))))))), (cf_ NB259_264.out ((cf_ NB259_264.out ((cf_ NB259_264.out ((cf_ NB259_264.out ((cf_ NB259_264.out (cf_ NB259_264.out hHeld.2.2.2.2.2.2.2.2))))))))))⟩ (fun hHeld => ?_)
  clear hK K
  refine done_ (done_of HT_.out (by kernel_rfl)) ?_
  have hnb38 := NB259_260.out
  have hnc38 := NB260_259.out
  have hnb39 := NB259_264.out
  have hnc39 := NB264_259.out
  obtain ⟨hcz40_0, hcz40_1, hcz40_2, hcz40_3, hcz40_4, hcz40_5, hcz40_6, hcz40_7, hcz40_8, hfz40_0, hfz40_1, hfz40_2, hfz40_3, hfz40_4, hfz40_5, hfz40_6, hfz40_7, hfz40_8⟩ := c9_ BK259
  go_upto_if 25 with (fail)
  go_cut [25] (fun v25 wc => ∃ (kq : Nat) (x25_24 : Bool), v25 = .bool x25_24 ∧ Fc (quorumref12_Locks.j0 kq a2 a0_0 x25_24 a0_0 a0_1 a0_2 a0_3 a0_4 a0_5 a0_6 a0_7 a0_8 l1_0 l1_1 a2 a0_1 t261 t262 t263 2 = some r) ∧ Fc (kq ≤ k) ∧ Fc (wc.heap[gb259]? = some (.cells #[.int .i64 a0_0, .int .i64 a0_1, .string a0_2, .string a0_3, .string a0_4, .string a0_5, .bool a0_6, .int .i64 a0_7, .bool a0_8] 101 (0, 0))) ∧ Fc (wc.heap[gb260]? = some (.cells #[(.slice A1_0 l1_0.length c1_0), (.slice A1_1 l1_1.length c1_1)] 34 (0, 0))) ∧ Fc (wc.heap[gb264]? = some (.cells #[.int .i64 a2, .int .i64 a0_1, .string t261, .string t262, .bool t263, .int .i64 2] 191 (0, 0))) ∧ Fc (Below w.heap.size w wc))
  case first =>
   have H := HC25.out
   clear HC25
   by_cases c41 : a0_0 = 2
   ·exact absurd c41 (by have := K11.out; omega)
   ·rw [if_neg c41] at H
    have c41b0 : (a0_0 == 2) = false := beq_eq_false_iff_ne.mpr c41
    have c41b1 : (a0_0 != 2) = true := bne_iff_ne.mpr c41
    (first | rw [c41b0] | (simp only [i64_w, i32_w]; rw [c41b0]) | skip)
    by_cases c42 : a0_0 = 3
    ·exact absurd c42 (by have := K11.out; omega)
    ·rw [if_neg c42] at H
     have c42b0 : (a0_0 == 3) = false := beq_eq_false_iff_ne.mpr c42
     have c42b1 : (a0_0 != 3) = true := bne_iff_ne.mpr c42
     by_cases c43 : a0_0 = 4
     ·exact absurd c43 (by have := K11.out; omega)
     ·rw [if_neg c43] at H
      have c43b0 : (a0_0 == 4) = false := beq_eq_false_iff_ne.mpr c43
      have c43b1 : (a0_0 != 4) = true := bne_iff_ne.mpr c43
      have H' := mk0 H
      clear H
      go_wp2
      go_meet
      case rel => exact ⟨_, ((a0_0 == 5)), (by first | rfl | (simp; done) | (simp [*]; done)), H', ⟨by first | omega | exact Nat.le_refl _⟩, ⟨(fa_ (fa_ (fa_ (fa_ (fa_ (fa_ (h_ BK259) NB259_264.out) NB259_264.out) NB259_264.out) NB259_264.out) NB259_264.out) NB259_264.out)⟩, ⟨(fa_ (fa_ (fa_ (fa_ (fa_ (fa_ (h_ BK260) NB260_264.out) NB260_264.out) NB260_264.out) NB260_264.out) NB260_264.out) NB260_264.out)⟩, ⟨(pu_ (cs := #[.int .i64 a2, .int .i64 a0_1, .string t261, .string t262, .bool t263, .int .i64 0]) (pu_ (cs := #[.int .i64 a2, .int .i64 a0_1, .string t261, .string t262, .bool false, .int .i64 0]) (pu_ (cs := #[.int .i64 a2, .int .i64 a0_1, .string t261, .string (⟨#[]⟩ : ByteArray), .bool false, .int .i64 0]) (pu_ (cs := #[.int .i64 a2, .int .i64 a0_1, .string (⟨#[]⟩ : ByteArray), .string (⟨#[]⟩ : ByteArray), .bool false, .int .i64 0]) (pu_ (cs := #[.int .i64 a2, .int .i64 0, .string (⟨#[]⟩ : ByteArray), .string (⟨#[]⟩ : ByteArray), .bool false, .int .i64 0]) (pu_ (cs := #[.int .i64 0, .int .i64 0, .string (⟨#[]⟩ : ByteArray), .string (⟨#[]⟩ : ByteArray), .bool false, .int .i64 0]) (h_ BK264)))))))⟩, ⟨b_ HB⟩⟩
  case rest =>
   clear HC25
   try clear c5
   try clear c5b0
   try clear c5b1
   try clear c6
   try clear c41
   try clear c41b0
   try clear c41b1
   try clear c42
   try clear c42b0
   try clear c42b1
   try clear c43
   try clear c43b0
   try clear c43b1
   try clear hcz20_0
   try clear hcz20_1
   try clear hcz20_2
   try clear hcz20_3
   try clear hcz20_4
   try clear hcz20_5
   try clear hcz20_6
   try clear hcz20_7
   try clear hcz20_8
   try clear hcz22_0
   try clear hcz22_1
   try clear hcz22_2
   try clear hcz22_3
   try clear hcz22_4
   try clear hcz22_5
   try clear hcz40_0
   try clear hcz40_1
   try clear hcz40_2
   try clear hcz40_3
   try clear hcz40_4
   try clear hcz40_5
   try clear hcz40_6
   try clear hcz40_7
   try clear hcz40_8
   try clear hfz20_0
   try clear hfz20_1
   try clear hfz20_2
   try clear hfz20_3
   try clear hfz20_4
   try clear hfz20_5
   try clear hfz20_6
   try clear hfz20_7
   try clear hfz20_8
   try clear hfz22_0
   try clear hfz22_1
   try clear hfz22_2
   try clear hfz22_3
   try clear hfz22_4
   try clear hfz22_5
   try clear hfz40_0
   try clear hfz40_1
   try clear hfz40_2
   try clear hfz40_3
   try clear hfz40_4
   try clear hfz40_5
   try clear hfz40_6
   try clear hfz40_7
   try clear hfz40_8
   obtain ⟨kq, x25_24, rfl, HA, HJ24, BK259, BK260, BK264, HB⟩ := hcut
   cases kq with
   | zero => exact absurd HA.out (by simp [quorumref12_Locks.j0])
   | succ kj24 =>
    have H := HA.out
    clear HA
    simp only [quorumref12_Locks.j0] at H
    as_aux_lemma =>
     by_cases c44 : x25_24 = true
     ·subst c44
      rw [if_pos rfl] at H
      exact absurd H (by simp)
     ·replace c44 := Bool.eq_false_iff.mpr c44
      subst c44
      rw [if_neg (show ¬ (false = true) by decide)] at H
      by_cases c50 : a0_0 = 6
      ·exact absurd c50 (by have := K11.out; omega)
      ·rw [if_neg c50] at H
       have c50b0 : (a0_0 == 6) = false := beq_eq_false_iff_ne.mpr c50
       have c50b1 : (a0_0 != 6) = true := bne_iff_ne.mpr c50
       by_cases c66 : a0_0 = 7
       ·exact absurd c66 (by have := K11.out; omega)
       ·rw [if_neg c66] at H
        have c66b0 : (a0_0 == 7) = false := beq_eq_false_iff_ne.mpr c66
        have c66b1 : (a0_0 != 7) = true := bne_iff_ne.mpr c66
        by_cases c79 : a0_0 = 11
        ·rw [if_pos c79] at H
         have c79b0 : (a0_0 == 11) = true := beq_iff_eq.mpr c79
         have c79b1 : (a0_0 != 11) = false := bne_eq_false_iff_eq.mpr c79
         clear c79
         replace H := Option.bind_eq_some_iff.mp H
         obtain ⟨t281, A800, H⟩ := H
         try dsimp only at H
         have A80 := mk0 A800
         clear A800
         have H' := mk0 H
         clear H
         have hnb81 := NB260_259.out
         have hnc81 := NB259_260.out
         have hnb82 := NB260_264.out
         have hnc82 := NB264_260.out
         obtain ⟨hcz83_0, hcz83_1, hfz83_0, hfz83_1⟩ := c2_ BK260
         go_wp2_with (first | ((with_reducible refine gate_callee (f := 61) rfl ?_); refine gL_ (some 55) Try.func61 #[.agg #[.slice A1_0 l1_0.length c1_0, .slice A1_1 l1_1.length c1_1]] (h := ?_); (with_reducible refine (quorumref8_Sum.calls kj24 _ _ l1_0 _ _ l1_1 t281 _ ?side1 ?side2 ?side3 ?side4 A80.out).mono ?_); (case side1 => exact cb_ HR1_0 HB); (case side2 => exact HC1_0.out); (case side3 => exact cb_ HR1_1 HB); (case side4 => exact HC1_1.out); rintro e w84 ⟨v282, rfl, ho0, hb⟩; refine ⟨_, rfl, ?_⟩; have n0_ := mk0 (Kd.R_lower ho0 (bz_ (b_ HB))); replace BK259 := mk0 (u_ BK259 hb); replace BK260 := mk0 (u_ BK260 hb); replace BK264 := mk0 (u_ BK264 hb); replace HB := mk0 (bt_ (b_ HB) hb); have HO283 := n0_; clear n0_; (try clear hb); (try clear ho0)))
         go_loopg [8, 10] kj24 (fun kq v8 v10 w' => ∃ (x8_2 : List (S191)) (x10_2 : Int), v10 = .int .i64 x10_2 ∧ Fc (quorumref12_Locks.l0 kq a2 x8_2 t281 x10_2 = some r) ∧ Fc (kq ≤ kj24) ∧ Fc (Kd.R k191 191 w' w.heap.size (fun k_ => k_ ≠ gb264) v8 x8_2) ∧ Fc (Kd.R k36 36 w' w.heap.size (fun _ => True) v282 t281) ∧ Fc (w'.heap[gb259]? = some (.cells #[.int .i64 a0_0, .int .i64 a0_1, .string a0_2, .string a0_3, .string a0_4, .string a0_5, .bool a0_6, .int .i64 a0_7, .bool a0_8] 101 (0, 0))) ∧ Fc (w'.heap[gb260]? = some (.cells #[(.slice A1_0 l1_0.length c1_0), (.slice A1_1 l1_1.length c1_1)] 34 (0, 0))) ∧ Fc (w'.heap[gb264]? = some (.cells #[.int .i64 a2, .int .i64 a0_1, .string t261, .string t262, .bool t263, .int .i64 2] 191 (0, 0))) ∧ Fc (Below w.heap.size w w'))
         case atStart => exact ⟨(([] : List (S191))), (0), (by first | rfl | (simp; done) | (simp [*]; done)), H', ⟨Nat.le_refl _⟩, ⟨by first | exact Kd.R_nil _ _ _ _ _ | exact Kd.N_nil _ _ _ _ _ | exact Kd.V_nil _ _ _ _ _ | exact Kd.Q_nil _ _ _ _ _ | exact Kd.S_nil _ _ _ _ _⟩, ⟨by (with_reducible repeat (first | apply Ra_ | apply Rn_ | apply Rd_)); exact HO283.out⟩, ⟨h_ BK259⟩, ⟨h_ BK260⟩, ⟨h_ BK264⟩, ⟨b_ HB⟩⟩
         case round =>
          clear H'
          try clear c5
          try clear c5b0
          try clear c5b1
          try clear c6
          try clear c41
          try clear c41b0
          try clear c41b1
          try clear c42
          try clear c42b0
          try clear c42b1
          try clear c43
          try clear c43b0
          try clear c43b1
          try clear c44
          try clear c50
          try clear c50b0
          try clear c50b1
          try clear c52
          try clear c66
          try clear c66b0
          try clear c66b1
          try clear c79
          try clear c79b0
          try clear c79b1
          try clear hcz20_0
          try clear hcz20_1
          try clear hcz20_2
          try clear hcz20_3
          try clear hcz20_4
          try clear hcz20_5
          try clear hcz20_6
          try clear hcz20_7
          try clear hcz20_8
          try clear hcz22_0
          try clear hcz22_1
          try clear hcz22_2
          try clear hcz22_3
          try clear hcz22_4
          try clear hcz22_5
          try clear hcz40_0
          try clear hcz40_1
          try clear hcz40_2
          try clear hcz40_3
          try clear hcz40_4
          try clear hcz40_5
          try clear hcz40_6
          try clear hcz40_7
          try clear hcz40_8
          try clear hcz47_0
          try clear hcz47_1
          try clear hcz47_2
          try clear hcz47_3
          try clear hcz47_4
          try clear hcz47_5
          try clear hcz55_0
          try clear hcz55_1
          try clear hcz55_2
          try clear hcz55_3
          try clear hcz55_4
          try clear hcz55_5
          try clear hcz55_6
          try clear hcz55_7
          try clear hcz55_8
          try clear hcz59_0
          try clear hcz59_1
          try clear hcz59_2
          try clear hcz59_3
          try clear hcz59_4
          try clear hcz59_5
          try clear hcz59_6
          try clear hcz59_7
          try clear hcz59_8
          try clear hcz61_0
          try clear hcz61_1
          try clear hcz61_2
          try clear hcz61_3
          try clear hcz61_4
          try clear hcz61_5
          try clear hcz61_6
          try clear hcz61_7
          try clear hcz61_8
          try clear hcz63_0
          try clear hcz63_1
          try clear hcz63_2
          try clear hcz63_3
          try clear hcz63_4
          try clear hcz63_5
          try clear hcz76_0
          try clear hcz76_1
          try clear hcz76_2
          try clear hcz76_3
          try clear hcz76_4
          try clear hcz76_5
          try clear hcz83_0
          try clear hcz83_1
          try clear hfz20_0
          try clear hfz20_1
          try clear hfz20_2
          try clear hfz20_3
          try clear hfz20_4
          try clear hfz20_5
          try clear hfz20_6
          try clear hfz20_7
          try clear hfz20_8
          try clear hfz22_0
          try clear hfz22_1
          try clear hfz22_2
          try clear hfz22_3
          try clear hfz22_4
          try clear hfz22_5
          try clear hfz40_0
          try clear hfz40_1
          try clear hfz40_2
          try clear hfz40_3
          try clear hfz40_4
          try clear hfz40_5
          try clear hfz40_6
          try clear hfz40_7
          try clear hfz40_8
          try clear hfz47_0
          try clear hfz47_1
          try clear hfz47_2
          try clear hfz47_3
          try clear hfz47_4
          try clear hfz47_5
          try clear hfz55_0
          try clear hfz55_1
          try clear hfz55_2
          try clear hfz55_3
          try clear hfz55_4
          try clear hfz55_5
          try clear hfz55_6
          try clear hfz55_7
          try clear hfz55_8
          try clear hfz59_0
          try clear hfz59_1
          try clear hfz59_2
          try clear hfz59_3
          try clear hfz59_4
          try clear hfz59_5
          try clear hfz59_6
          try clear hfz59_7
          try clear hfz59_8
          try clear hfz61_0
          try clear hfz61_1
          try clear hfz61_2
          try clear hfz61_3
          try clear hfz61_4
          try clear hfz61_5
          try clear hfz61_6
          try clear hfz61_7
          try clear hfz61_8
          try clear hfz63_0
          try clear hfz63_1
          try clear hfz63_2
          try clear hfz63_3
          try clear hfz63_4
          try clear hfz63_5
          try clear hfz76_0
          try clear hfz76_1
          try clear hfz76_2
          try clear hfz76_3
          try clear hfz76_4
          try clear hfz76_5
          try clear hfz83_0
          try clear hfz83_1
          obtain ⟨x8_2, x10_2, rfl, HA, HK2, HO_8, HO_9, BK259, BK260, BK264, HB⟩ := hrel
          cases gk with
          | zero => exact absurd HA.out (by simp [quorumref12_Locks.l0])
          | succ k2 =>
           have H := HA.out
           clear HA
           simp only [quorumref12_Locks.l0] at H
           as_aux_lemma =>
            by_cases c85 : x10_2 < (t281.length : Int)
            ·rw [if_pos c85] at H
             have c85b0 : decide (x10_2 < (t281.length : Int)) = true := decide_eq_true c85
             clear c85
             by_cases c86 : 0 ≤ x10_2
             ·rw [if_pos c86] at H
              have c86b0 : decide (0 ≤ x10_2) = true := decide_eq_true c86
              clear c86
              replace H := Option.bind_eq_some_iff.mp H
              obtain ⟨⟨t286, t287, t288⟩, A870, H⟩ := H
              try dsimp only at H
              have A87 := mk0 A870
              clear A870
              by_cases c88 : x8_2.length < 2199023255552
              ·rw [if_pos c88] at H
               have LMc88 := mk0 c88
               clear c88
               obtain ⟨y289, hy289⟩ : ∃ y_ : List (S191), y_ = (x8_2 ++ [(⟨a2, (rd_T36 t281 x10_2).f0, (⟨t286, t287, t288⟩ : S74), 3⟩ : S191)]) := ⟨_, rfl⟩
               replace H : (quorumref12_Locks.l0 k2 a2 y289 t281 (wrap64 (x10_2 + 1))) = some r := by first | (rw [hy289]; with_reducible exact H) | (have H2_ := (Option.bind_some _ _).symm.trans H; rw [hy289]; with_reducible exact H2_) | (have H2_ := (Option.bind_some _ _).symm.trans H; with_reducible exact H2_) | with_reducible exact H | (rw [hy289]; exact H) | exact H
               have Ny289 := mk0 hy289
               clear hy289
               have H' := mk0 H
               clear H
               obtain ⟨Ao89, co89, eo89⟩ := Kd.R_slice HO_9.out
               subst eo89
               try go_wp2
               replace HO_8 := mk0 (Rd_ HO_8.out)
               replace HO_9 := mk0 (Rd_ HO_9.out)
               replace BK259 := mk0 (bD_ BK259.out)
               replace BK260 := mk0 (bD_ BK260.out)
               replace BK264 := mk0 (bD_ BK264.out)
               replace HB := mk0 (b1_ HB.out)
               have p284 : 0 ≤ (x10_2 : Int) := of_decide_eq_true (by first | (with_reducible assumption) | assumption)
               have q284 : x10_2 < (t281.length : Int) := of_decide_eq_true (by first | (with_reducible assumption) | assumption)
               obtain ⟨ad284, e284, hx284_0, hx284_1, hx284_2, hx284_3⟩ := at_T36 (Kd.R_reads' HO_9.out).2.2 x10_2 p284 q284
               cases e284
               replace p284 := eq_true p284
               replace q284 := eq_true q284
               have p285 : 0 ≤ (x10_2 : Int) := of_decide_eq_true (by first | (with_reducible assumption) | assumption)
               have q285 : x10_2 < (t281.length : Int) := of_decide_eq_true (by first | (with_reducible assumption) | assumption)
               obtain ⟨ad285, e285, hx285_0, hx285_1, hx285_2, hx285_3⟩ := at_T36 (Kd.R_reads' HO_9.out).2.2 x10_2 p285 q285
               obtain rfl : ad284 = ad285 := (by injection e285)
               replace p285 := eq_true p285
               replace q285 := eq_true q285
               refine start_ (n := 17) (S := fun w' => w'.cell? (ad284.add ((x10_2).toNat * 4)) = some (.int .i64 ((rd_T36 t281 x10_2).f0)) ∧ w'.cell? ⟨(ad284.add ((x10_2).toNat * 4)).block, (ad284.add ((x10_2).toNat * 4)).off + 1, none⟩ = some (.string ((rd_T36 t281 x10_2).f1)) ∧ w'.cell? ⟨(ad284.add ((x10_2).toNat * 4)).block, (ad284.add ((x10_2).toNat * 4)).off + 2, none⟩ = some (.string ((rd_T36 t281 x10_2).f2)) ∧ w'.cell? ⟨(ad284.add ((x10_2).toNat * 4)).block, (ad284.add ((x10_2).toNat * 4)).off + 3, none⟩ = some (.bool ((rd_T36 t281 x10_2).f3)) ∧ w'.cell? (ad284.add ((x10_2).toNat * 4)) = some (.int .i64 ((rd_T36 t281 x10_2).f0)) ∧ w'.cell? ⟨(ad284.add ((x10_2).toNat * 4)).block, (ad284.add ((x10_2).toNat * 4)).off + 1, none⟩ = some (.string ((rd_T36 t281 x10_2).f1)) ∧ w'.cell? ⟨(ad284.add ((x10_2).toNat * 4)).block, (ad284.add ((x10_2).toNat * 4)).off + 2, none⟩ = some (.string ((rd_T36 t281 x10_2).f2)) ∧ w'.cell? ⟨(ad284.add ((x10_2).toNat * 4)).block, (ad284.add ((x10_2).toNat * 4)).off + 3, none⟩ = some (.bool ((rd_T36 t281 x10_2).f3))) (ds := [14, 15]) (bt 17 0) (by kernel_rfl) rfl rfl ⟨hx284_0, hx284_1, hx284_2, hx284_3, hx285_0, hx285_1, hx285_2, hx285_3⟩ (fun hHeld => ?_); refine with_tabW quorumref12_Locks.tab25 quorumref12_Locks.bits25 (fun HT_ HW_ => ?_)
               generalize wr.drew = w90 at HO_8 HO_9 BK259 BK260 BK264 HB hx284_0 hx284_1 hx284_2 hx284_3 hx285_0 hx285_1 hx285_2 hx285_3 hHeld ⊢
               refine pq_ HT_.out 0 62 (bt 17 1) (h := ?_)
               refine pq_ HT_.out 1 63 (bt 17 3) (h := ?_)
               refine pq_ HT_.out 2 64 (bt 17 7) (h := ?_)
               refine pq_ HT_.out 3 65 (bt 17 15) (h := ?_)
               refine pq_ HT_.out 4 66 (bt 17 31) (h := ?_)
               refine pq_ HT_.out 5 67 (bt 17 63) (h := ?_)
               refine pq_ HT_.out 7 69 (bt 17 191) (h := ?_)
               refine pq_ HT_.out 8 70 (bt 17 447) (h := ?_)
               refine pq_ HT_.out 9 71 (bt 17 959) (h := ?_)
               refine pq_ HT_.out 10 72 (bt 17 1983) (h := ?_)
               refine tq8_ HT_.out HW_.out 6 68 (bt 17 2047) hHeld (h := ?_)
               refine tq8_ HT_.out HW_.out 11 73 (bt 17 4095) hHeld (h := ?_)
               refine one_ (i := 12) (N := some 74) (bt 17 8191) rfl rfl (one_of HT_.out (by kernel_rfl)) (by decide) (fun K hK => ?_)
               refine goes_ Try.func153 (by kernel_rfl) rfl #[.string ((rd_T36 t281 x10_2).f1)] (by rfl) rfl rfl (by (try simp only [List.map_toArray, List.map_cons, List.map_nil]); first | done | rfl | (simp only [List.length_drop, List.length_take]; rfl)) ?_
               with_reducible refine (quorumref1_One.calls ((rd_T36 t281 x10_2).f1) t286 t287 t288 _ A87.out).mono ?_
               rintro e w91 ⟨rfl, hb⟩
               have HS0_ := (hb.cell (World.block_lt_of_cell? _ _ hHeld.1)).trans hHeld.1
               have HS1_ := (hb.cell (World.block_lt_of_cell? _ _ hHeld.2.1)).trans hHeld.2.1
               have HS2_ := (hb.cell (World.block_lt_of_cell? _ _ hHeld.2.2.1)).trans hHeld.2.2.1
               have HS3_ := (hb.cell (World.block_lt_of_cell? _ _ hHeld.2.2.2.1)).trans hHeld.2.2.2.1
               have HS4_ := (hb.cell (World.block_lt_of_cell? _ _ hHeld.2.2.2.2.1)).trans hHeld.2.2.2.2.1
               have HS5_ := (hb.cell (World.block_lt_of_cell? _ _ hHeld.2.2.2.2.2.1)).trans hHeld.2.2.2.2.2.1
               have HS6_ := (hb.cell (World.block_lt_of_cell? _ _ hHeld.2.2.2.2.2.2.1)).trans hHeld.2.2.2.2.2.2.1
               have HS7_ := (hb.cell (World.block_lt_of_cell? _ _ hHeld.2.2.2.2.2.2.2)).trans hHeld.2.2.2.2.2.2.2
               refine ⟨_, rfl, ?_⟩
               replace HO_8 := mk0 (Kd.R_below (r_ HO_8) hb)
               replace HO_9 := mk0 (Kd.R_below (r_ HO_9) hb)
               replace BK259 := mk0 (u_ BK259 hb)
               replace BK260 := mk0 (u_ BK260 hb)
               replace BK264 := mk0 (u_ BK264 hb)
               replace HB := mk0 (bt_ (b_ HB) hb)
               (try clear hb)
               (try clear hb2)
               (try clear hk)
               (try clear hi)
               refine hK.out _ _ ⟨HS0_, HS1_, HS2_, HS3_, HS4_, HS5_, HS6_, HS7_⟩ (fun hHeld => ?_)
               clear hK K
               refine norm_ (a' := ?_) ?_ ?_
               rotate_left
               ·show Act.put _ (some 74) _ = _
                simp only [z_]
                rfl
               refine pq_ HT_.out 13 75 (bt 17 16383) (v := .agg #[.int .i64 a2, .int .i64 ((rd_T36 t281 x10_2).f0), .string t286, .string t287, .bool t288, .int .i64 3]) (hy := by (intro w'; apply bu_run_L_ 191; (case ho => rfl); (case hb => (simp only [List.map_toArray, List.map_cons, List.map_nil]; exact lock_built_L_ a2 ((rd_T36 t281 x10_2).f0) t286 t287 t288 3)))) (h := ?_)
               refine last_ (i := 14) (N := some 76) (bt 17 32767) rfl rfl (one_of HT_.out (by kernel_rfl)) (by decide) (fun K hK => ?_)
               refine value_ (w1 := w91.alloc (.cells #[.int .i64 a2, .int .i64 ((rd_T36 t281 x10_2).f0), .string t286, .string t287, .bool t288, .int .i64 3] 191)) (v := .slice (some ⟨w91.heap.size, 0, none⟩) 1 1) (by rfl) rfl ?_ ?_
               ·apply bs_run_L_ 152 191 _ #[.int .i64 a2, .int .i64 ((rd_T36 t281 x10_2).f0), .string t286, .string t287, .bool t288, .int .i64 3] (.agg #[(.int .i64 0), (.int .i64 0), (.string ⟨#[]⟩), (.string ⟨#[]⟩), (.bool false), (.int .i64 0)]) 6 64
                case ho => rfl
                case hu => exact Try.underlying152
                case hi => exact info191
                case hsm => decide
                case hp => decide
                case hf => simp only [List.map_toArray, List.map_cons, List.map_nil]; exact fill6_L_ _ _ _ _ _ _ _
               refine hK.out _ _ ?_
               clear hK K
               refine norm_ (a' := ?_) ?_ ?_
               rotate_left
               ·show Act.put _ (some 76) _ = _
                simp only [z_]
                rfl
               refine last_ (i := 15) (N := some 77) (bt 17 65535) rfl rfl (one_of HT_.out (by kernel_rfl)) (by decide) (fun K hK => ?_)
               refine Kd.R_append_step k191 (w0 := w) w.heap.size (by rfl) (.tmp 62) (.tmp 76) 152 191 (.agg #[(.int .i64 0), (.int .i64 0), (.string ⟨#[]⟩), (.string ⟨#[]⟩), (.bool false), (.int .i64 0)]) 64 rfl Try.underlying152 info191 rfl (by decide) (by omega) u8 x8_2 (⟨a2, (rd_T36 t281 x10_2).f0, (⟨t286, t287, t288⟩ : S74), 3⟩ : S191) [.int .i64 a2, .int .i64 ((rd_T36 t281 x10_2).f0), .string t286, .string t287, .bool t288, .int .i64 3] (fun k_ => k_ ≠ gb264) (fun _ => False) rfl rfl ?aP (fun _ hk => hk.elim) ?aF ?aO ?aB ?aS ?aL ?_
               (case aP => exact k191_mkM _ _ _ (⟨a2, (rd_T36 t281 x10_2).f0, (⟨t286, t287, t288⟩ : S74), 3⟩ : S191))
               (case aB => exact (b_ HB))
               (case aF => exact (fun k_ hk => Kd.freshB (g := gb264) (o := .cells #[.int .i64 a2, .int .i64 a0_1, .string t261, .string t262, .bool t263, .int .i64 2] 191 (0, 0)) (h_ BK264) k_ hk))
               (case aO => exact (r_ HO_8))
               (case aS => exact (bz_ (b_ HB)))
               (case aL => have := LMc88.out; omega)
               intro v290 w92 ho hb hg hat
               rw [← Ny289.out] at ho
               replace HO_9 := mk0 (Kd.R_over' (r_ HO_9) (Kd.R_typed (r_ HO_8)) (by decide) hg)
               replace BK259 := mk0 (blk_grown (g := gb259) (o := .cells #[.int .i64 a0_0, .int .i64 a0_1, .string a0_2, .string a0_3, .string a0_4, .string a0_5, .bool a0_6, .int .i64 a0_7, .bool a0_8] 101 (0, 0)) (h_ BK259) hg (Kd.R_ne HO_8.out BK259.out (by decide)))
               replace BK260 := mk0 (blk_grown (g := gb260) (o := .cells #[.slice A1_0 l1_0.length c1_0, .slice A1_1 l1_1.length c1_1] 34 (0, 0)) (h_ BK260) hg (Kd.R_ne HO_8.out BK260.out (by decide)))
               replace BK264 := mk0 (blk_grown (g := gb264) (o := .cells #[.int .i64 a2, .int .i64 a0_1, .string t261, .string t262, .bool t263, .int .i64 2] 191 (0, 0)) (h_ BK264) hg (Kd.R_away HO_8.out (fun _ hk => hk)))
               replace HB := mk0 (hb)
               have HO291 := mk0 (ho)
               clear HO_8
               clear ho hb hg hat
               refine hK.out _ _ ?_
               clear hK K
               refine norm_ (a' := ?_) ?_ ?_
               rotate_left
               ·show Act.put _ (some 77) _ = _
                simp only [z_]
                rfl
               refine pq_ HT_.out 16 8 (bt 17 131071) (h := ?_)
               refine done_ (done_of HT_.out (by kernel_rfl)) ?_
               try go_wp2
               go_roundg k2
               case measure => have := HJ24.out; have := HK2.out; omega
               case rel => exact ⟨(y289), (wrap64 (x10_2 + 1)), (by first | rfl | (simp; done) | (simp [*]; done)), H', ⟨by have := HJ24.out; have := HK2.out; omega⟩, ⟨by (with_reducible repeat (first | apply Ra_ | apply Rn_ | apply Rd_)); exact HO291.out⟩, ⟨by (with_reducible repeat (first | apply Ra_ | apply Rn_ | apply Rd_)); exact HO_9.out⟩, ⟨h_ BK259⟩, ⟨h_ BK260⟩, ⟨h_ BK264⟩, ⟨b_ HB⟩⟩
              ·rw [if_neg c88] at H
               exact absurd H (by simp)
             ·rw [if_neg c86] at H
              exact absurd H (by simp)
            ·rw [if_neg c85] at H
             have c85b0 : decide (x10_2 < (t281.length : Int)) = false := decide_eq_false c85
             clear c85
             obtain rfl := Option.some.inj H
             obtain ⟨Ao93, co93, eo93⟩ := Kd.R_slice HO_9.out
             subst eo93
             go_wp2
             go_ret
             exact ⟨_, by first | rfl | (simp [errW_none, errW_some] <;> rfl) | (simp [*, errW_none, errW_some] <;> rfl), by (with_reducible repeat (first | apply Ra_ | apply Rn_ | apply Rd_)); exact Kd.R_mono HO_8.out (fun _ hk => trivial), b_ HB⟩
        ·rw [if_neg c79] at H
         have c79b0 : (a0_0 == 11) = false := beq_eq_false_iff_ne.mpr c79
         have c79b1 : (a0_0 != 11) = true := bne_iff_ne.mpr c79
         obtain rfl := Option.some.inj H
         go_wp2
         go_ret
         exact ⟨_, by first | rfl | (simp [errW_none, errW_some] <;> rfl) | (simp [*, errW_none, errW_some] <;> rfl), by first | exact Kd.R_nil _ _ _ _ _ | exact Kd.N_nil _ _ _ _ _ | exact Kd.V_nil _ _ _ _ _ | exact Kd.Q_nil _ _ _ _ _ | exact Kd.S_nil _ _ _ _ _, b_ HB⟩

end Go.Proofs.Ytbaecdcfefmcgaa.PPlc
