/- package tree: parts and level, walked (printed for a function of the same operations, turned onto the real one by mkmade.py). -/
import Derived.Test.YtkmkppchhdkipaaDoorPTrx22
import Derived.Test.YtkmkppchhdkipaaDoorPTrx3
import Derived.Test.YtkmkppchhdkipaaDoorHTr0
import Derived.Test.YtkmkppchhdkipaaDoorHApps
namespace Go.Proofs.YtkmkppchhdkipaaDoor.HMade
open Go.Lib Go.RowKit Go.Proofs.YtkmkppchhdkipaaDoorW.PrintWords Go.Proofs.YtkmkppchhdkipaaDoorW.PrintLast Go.Proofs.YtkmkppchhdkipaaDoorW.PrintMore Go.Proofs.YtkmkppchhdkipaaDoor.PTr Go.Proofs Go.Proofs.YtkmkppchhdkipaaDoor.HTree Go.Proofs.YtkmkppchhdkipaaDoor.HNum
set_option linter.unusedSimpArgs false
set_option linter.unusedVariables false
theorem own_head {ad : Addr} {n c : Nat} (h : ∃ g, ad = ⟨g, 0, none⟩) : some ad.block = (Value.slice (some ad) n c).ownBlock := by
  obtain ⟨g, rfl⟩ := h
  simp [Value.ownBlock]
structure S117 where
  f0 : Int
  f1 : Int
def z117 : S117 := ⟨(0 : Int), (0 : Int)⟩
def k117 : Kd S117 := Kd.iso (Kd.pair (Kd.int .i64) (Kd.int .i64)) (fun x : S117 => (x.f0, x.f1))
theorem k117_open {w : World} {x : S117} {cs : List Value} (h : k117.K w x cs) : cs = [.int .i64 x.f0, .int .i64 x.f1] := by
  obtain ⟨_, _, rfl, rfl, rfl⟩ := h
  exact rfl
theorem k117_openM {w : World} {base : Nat} {ok : Nat → Prop} {x : S117} {cs : List Value} (h : k117.M w base ok x cs) : cs = [.int .i64 x.f0, .int .i64 x.f1] := by
  obtain ⟨_, _, rfl, rfl, rfl⟩ := h
  exact rfl
theorem k117_mk (w : World) (x : S117)  : k117.K w x [.int .i64 x.f0, .int .i64 x.f1] := ⟨[.int .i64 x.f0], [.int .i64 x.f1], rfl, rfl, rfl⟩
theorem k117_mkM (w : World) (base : Nat) (ok : Nat → Prop) (x : S117)  : k117.M w base ok x [.int .i64 x.f0, .int .i64 x.f1] := ⟨[.int .i64 x.f0], [.int .i64 x.f1], rfl, rfl, rfl⟩
def rd_T117 (xs : List S117) (i : Int) : S117 := xs.getD i.toNat z117
theorem at_T117 {w : World} {A : Option Addr} {n : Nat} {xs : List S117} (h : Kd.C k117 w A n xs) (i : Int) (h0 : 0 ≤ i) (h1 : i < n) : ∃ ad , A = some ad ∧ w.cell? (ad.add (i.toNat * 2)) = some (.int .i64 (rd_T117 xs i).f0) ∧ w.cell? ⟨(ad.add (i.toNat * 2)).block, (ad.add (i.toNat * 2)).off + 1, none⟩ = some (.int .i64 (rd_T117 xs i).f1) := by
  obtain ⟨ad, c, e, _, hK, hc0⟩ := Kd.C_get h z117 i h0 h1
  have hc : ∀ j u, c[j]? = some u → w.cell? (ad.add (i.toNat * 2 + j)) = some u := hc0
  obtain rfl := k117_open hK
  exact ⟨ad, e, hc 0 _ rfl, by rw [← add_field _ _ 1 (by omega)]; exact hc 1 _ rfl⟩

theorem info117 : (Tryd.prog.info? 117).map (fun i => (i.zero, i.size, i.bytes)) = some (some (.agg #[(.int .i64 0), (.int .i64 0)]), 2, 16) := by kernel_rfl
/-! ### tree_parts: function 72 -/
def tree_parts.l0 : Nat → Int → List (S117) → Int → Int → Int → Option ((List (S117)))
 | 0, _, _, _, _, _ => none
 | k + 1, x0, x4, x5, x13, x14 => if x14 < x13 then (if x5 = 0 then (none) else (if x4.length < 8796093022208 then (tree_parts.l0 k x0 (x4 ++ [(⟨wrap64 (Int.tdiv (wrap64 (x14 * x0)) x5), wrap64 (Int.tdiv (wrap64 ((wrap64 (x14 + 1)) * x0)) x5)⟩ : S117)]) x5 x13 (wrap64 (x14 + 1))) else (none))) else (some x4)
def tree_parts.f (k : Nat) (a0 : Int) (a1 : Int) : Option ((List (S117))) := if a1 = 0 then (none) else (tree_parts.l0 k a0 ([] : List (S117)) (wrap64 (Int.tdiv (wrap64 ((wrap64 (a0 + a1)) - 1)) a1)) (wrap64 (Int.tdiv (wrap64 ((wrap64 (a0 + a1)) - 1)) a1)) 0)
theorem tree_parts.mono_l : ∀ k, (∀ y0 y1 y2 y3 y4, LeO (tree_parts.l0 k y0 y1 y2 y3 y4) (tree_parts.l0 (k + 1) y0 y1 y2 y3 y4))
 | 0 => fun _ _ _ _ _ r h => by simp [tree_parts.l0] at h
 | k + 1 => by
  have ih0 := tree_parts.mono_l k
  ·intro y0 y1 y2 y3 y4
   unfold tree_parts.l0
   repeat' first
   | (with_reducible exact ih0 _ _ _ _ _)
   | (with_reducible exact LeO.refl _)
   | (with_reducible exact LeO.none _)
   | (with_reducible refine LeO.ite ?_ ?_)
   | (with_reducible refine LeO.bind ?_ (fun _ => ?_))
   | exact ih0 _ _ _ _ _
   | exact LeO.none _
   | refine LeO.ite ?_ ?_
   | refine LeO.bind ?_ (fun _ => ?_)
theorem tree_parts.mono : ∀ a0 a1 k, LeO (tree_parts.f k a0 a1) (tree_parts.f (k + 1) a0 a1) := by
 intro a0 a1 k
 have ih0 := tree_parts.mono_l k
 unfold tree_parts.f
 repeat' first
   | (with_reducible exact ih0 _ _ _ _ _)
   | (with_reducible exact LeO.refl _)
   | (with_reducible exact LeO.none _)
   | (with_reducible refine LeO.ite ?_ ?_)
   | (with_reducible refine LeO.bind ?_ (fun _ => ?_))
   | exact ih0 _ _ _ _ _
   | exact LeO.none _
   | refine LeO.ite ?_ ?_
   | refine LeO.bind ?_ (fun _ => ?_)
def tree_parts.T5 : Bool × List (List Nat × List Nat) := (true, [([], []), ([], []), ([], []), ([1, 2], [1, 2]), ([], []), ([3, 4], [3, 4]), ([], []), ([6], [6]), ([], []), ([7, 8], [7, 8]), ([], []), ([9, 10], [9, 10]), ([5, 11], [5, 11]), ([12], [12]), ([0, 13], [0, 13]), ([14, 14, 0, 1, 2, 3, 4, 5, 6, 7, 8, 9, 10, 11, 12, 13, 14], [0, 14])])
def tree_parts.B5 : List Nat := [0, 0, 0, 6, 0, 30, 0, 64, 0, 448, 0, 1984, 4094, 8190, 16383, 32767]
theorem tree_parts.tab5 : rtab .any (opsOf Tryd.f72 5) = tree_parts.T5 := by kernel_rfl
theorem tree_parts.bits5 : waitsOk tree_parts.T5.2 tree_parts.B5 = true := by kernel_rfl
set_option maxHeartbeats 8000000 in
set_option maxRecDepth 100000 in
theorem tree_parts.calls (k : Nat) (a0 : Int) (a1 : Int) (r : List (S117)) (w : World) (h : tree_parts.f k a0 a1 = some r) :
  Calls Tryd.prog 72 #[.int .i64 a0, .int .i64 a1] w fun e w' => ∃ v0_ : Value, e = .returned (v0_) ∧ Kd.R k117 117 w' w.heap.size (fun _ => True) v0_ r ∧ Below w.heap.size w w' := by
 have hu117 := Tryd.underlying117
 have HB := mk0 (Below.refl w.heap.size w)
 have H : (if a1 = 0 then (none) else (tree_parts.l0 k a0 ([] : List (S117)) (wrap64 (Int.tdiv (wrap64 ((wrap64 (a0 + a1)) - 1)) a1)) (wrap64 (Int.tdiv (wrap64 ((wrap64 (a0 + a1)) - 1)) a1)) 0)) = some r := h
 clear h
 by_cases c3 : a1 = 0
 ·rw [if_pos c3] at H
  exact absurd H (by simp)
 ·rw [if_neg c3] at H
  have c3b0 : (a1 == 0) = false := beq_eq_false_iff_ne.mpr c3
  have c3b1 : (a1 != 0) = true := bne_iff_ne.mpr c3
  have H' := mk0 H
  clear H
  go_enter Tryd.func72, Tryd.ntmps72
  go_wp2
  go_loopg [4, 14] k (fun kq v4 v14 w' => ∃ (x4_1 : List (S117)) (x14_1 : Int), v14 = .int .i64 x14_1 ∧ Fc (tree_parts.l0 kq a0 x4_1 (wrap64 (Int.tdiv (wrap64 ((wrap64 (a0 + a1)) - 1)) a1)) (wrap64 (Int.tdiv (wrap64 ((wrap64 (a0 + a1)) - 1)) a1)) x14_1 = some r) ∧ Fc (kq ≤ k) ∧ Fc (Kd.R k117 117 w' w.heap.size (fun _ => True) v4 x4_1) ∧ Fc (Below w.heap.size w w'))
  case atStart => exact ⟨(([] : List (S117))), (0), (by first | rfl | (simp; done) | (simp [*]; done)), H', ⟨Nat.le_refl _⟩, ⟨by first | exact Kd.R_nil _ _ _ _ _ | exact Kd.N_nil _ _ _ _ _ | exact Kd.V_nil _ _ _ _ _ | exact Kd.Q_nil _ _ _ _ _ | exact Kd.S_nil _ _ _ _ _⟩, ⟨b_ HB⟩⟩
  case round =>
   clear H'
   try clear c3
   try clear c3b0
   try clear c3b1
   obtain ⟨x4_1, x14_1, rfl, HA, HK1, HO_4, HB⟩ := hrel
   cases gk with
   | zero => exact absurd HA.out (by simp [tree_parts.l0])
   | succ k1 =>
    have H := HA.out
    clear HA
    simp only [tree_parts.l0] at H
    as_aux_lemma =>
     by_cases c4 : x14_1 < (wrap64 (Int.tdiv (wrap64 ((wrap64 (a0 + a1)) - 1)) a1))
     ·rw [if_pos c4] at H
      have c4b0 : decide (x14_1 < (wrap64 (Int.tdiv (wrap64 ((wrap64 (a0 + a1)) - 1)) a1))) = true := decide_eq_true c4
      clear c4
      by_cases c5 : (wrap64 (Int.tdiv (wrap64 ((wrap64 (a0 + a1)) - 1)) a1)) = 0
      ·rw [if_pos c5] at H
       exact absurd H (by simp)
      ·rw [if_neg c5] at H
       have c5b0 : ((wrap64 (Int.tdiv (wrap64 ((wrap64 (a0 + a1)) - 1)) a1)) == 0) = false := beq_eq_false_iff_ne.mpr c5
       have c5b1 : ((wrap64 (Int.tdiv (wrap64 ((wrap64 (a0 + a1)) - 1)) a1)) != 0) = true := bne_iff_ne.mpr c5
       by_cases c6 : x4_1.length < 8796093022208
       ·rw [if_pos c6] at H
        have LMc6 := mk0 c6
        clear c6
        obtain ⟨y105, hy105⟩ : ∃ y_ : List (S117), y_ = (x4_1 ++ [(⟨wrap64 (Int.tdiv (wrap64 (x14_1 * a0)) (wrap64 (Int.tdiv (wrap64 ((wrap64 (a0 + a1)) - 1)) a1))), wrap64 (Int.tdiv (wrap64 ((wrap64 (x14_1 + 1)) * a0)) (wrap64 (Int.tdiv (wrap64 ((wrap64 (a0 + a1)) - 1)) a1)))⟩ : S117)]) := ⟨_, rfl⟩
        replace H : (tree_parts.l0 k1 a0 y105 (wrap64 (Int.tdiv (wrap64 ((wrap64 (a0 + a1)) - 1)) a1)) (wrap64 (Int.tdiv (wrap64 ((wrap64 (a0 + a1)) - 1)) a1)) (wrap64 (x14_1 + 1))) = some r := by first | (rw [hy105]; with_reducible exact H) | (have H2_ := (Option.bind_some _ _).symm.trans H; rw [hy105]; with_reducible exact H2_) | (have H2_ := (Option.bind_some _ _).symm.trans H; with_reducible exact H2_) | with_reducible exact H | (rw [hy105]; exact H) | exact H
        have Ny105 := mk0 hy105
        clear hy105
        have H' := mk0 H
        clear H
        try go_wp2
        replace HO_4 := mk0 (Rd_ HO_4.out)
        replace HB := mk0 (b1_ HB.out)
        refine start_ (n := 16) (S := fun w' => True) (ds := []) (bt 16 0) (by kernel_rfl) rfl rfl trivial (fun hHeld => ?_); refine with_tabW tree_parts.tab5 tree_parts.bits5 (fun HT_ HW_ => ?_)
        generalize wr.drew = w7 at HO_4 HB hHeld ⊢
        refine pq_ HT_.out 0 17 (bt 16 1) (h := ?_)
        refine pq_ HT_.out 1 18 (bt 16 3) (h := ?_)
        refine pq_ HT_.out 2 19 (bt 16 7) (h := ?_)
        refine pq_ HT_.out 3 20 (bt 16 15) (h := ?_)
        refine pq_ HT_.out 4 21 (bt 16 31) (h := ?_)
        refine pq_ HT_.out 5 22 (bt 16 63) (h := ?_)
        refine pq_ HT_.out 6 23 (bt 16 127) (h := ?_)
        refine pq_ HT_.out 7 24 (bt 16 255) (h := ?_)
        refine pq_ HT_.out 8 25 (bt 16 511) (h := ?_)
        refine pq_ HT_.out 9 26 (bt 16 1023) (h := ?_)
        refine pq_ HT_.out 10 27 (bt 16 2047) (h := ?_)
        refine pq_ HT_.out 11 28 (bt 16 4095) (h := ?_)
        refine pq_ HT_.out 12 29 (bt 16 8191) (h := ?_)
        refine one_ (i := 13) (N := some 30) (bt 16 16383) rfl rfl (one_of HT_.out (by kernel_rfl)) (by decide) (fun K hK => ?_)
        refine value_ (w1 := ?_) (v := ?_) (by rfl) rfl ?_ ?_
        rotate_left 2
        ·go_simp
         constructor
         ·rfl
         ·rfl
        refine hK.out _ _ trivial (fun hHeld => ?_)
        clear hK K
        refine norm_ (a' := ?_) ?_ ?_
        rotate_left
        ·show Act.put _ (some 30) _ = _
         simp only [z_]
         rfl
        refine one_ (i := 14) (N := some 31) (bt 16 32767) rfl rfl (one_of HT_.out (by kernel_rfl)) (by decide) (fun K hK => ?_)
        refine Kd.R_append_step k117 (w0 := w) w.heap.size (by rfl) (.tmp 17) (.tmp 30) 115 117 (.agg #[(.int .i64 0), (.int .i64 0)]) 16 rfl Tryd.underlying115 info117 rfl (by decide) (by omega) u4 x4_1 (⟨wrap64 (Int.tdiv (wrap64 (x14_1 * a0)) (wrap64 (Int.tdiv (wrap64 ((wrap64 (a0 + a1)) - 1)) a1))), wrap64 (Int.tdiv (wrap64 ((wrap64 (x14_1 + 1)) * a0)) (wrap64 (Int.tdiv (wrap64 ((wrap64 (a0 + a1)) - 1)) a1)))⟩ : S117) [.int .i64 (wrap64 (Int.tdiv (wrap64 (x14_1 * a0)) (wrap64 (Int.tdiv (wrap64 ((wrap64 (a0 + a1)) - 1)) a1)))), .int .i64 (wrap64 (Int.tdiv (wrap64 ((wrap64 (x14_1 + 1)) * a0)) (wrap64 (Int.tdiv (wrap64 ((wrap64 (a0 + a1)) - 1)) a1))))] (fun _ => True) (fun _ => False) rfl rfl ?aP (fun _ hk => hk.elim) ?aF ?aO ?aB ?aS ?aL ?_
        (case aP => exact k117_mkM _ _ _ (⟨wrap64 (Int.tdiv (wrap64 (x14_1 * a0)) (wrap64 (Int.tdiv (wrap64 ((wrap64 (a0 + a1)) - 1)) a1))), wrap64 (Int.tdiv (wrap64 ((wrap64 (x14_1 + 1)) * a0)) (wrap64 (Int.tdiv (wrap64 ((wrap64 (a0 + a1)) - 1)) a1)))⟩ : S117))
        (case aB => exact (b_ HB))
        (case aF => exact (fun _ _ => trivial))
        (case aO => exact (r_ HO_4))
        (case aS => exact (bz_ (b_ HB)))
        (case aL => have := LMc6.out; omega)
        intro v106 w8 ho hb hg hat
        rw [← Ny105.out] at ho
        replace HB := mk0 (hb)
        have HO107 := mk0 (ho)
        clear HO_4
        clear ho hb hg hat
        refine hK.out _ _ trivial (fun hHeld => ?_)
        clear hK K
        refine norm_ (a' := ?_) ?_ ?_
        rotate_left
        ·show Act.put _ (some 31) _ = _
         simp only [z_]
         rfl
        refine pq_ HT_.out 15 4 (bt 16 65535) (h := ?_)
        refine done_ (done_of HT_.out (by kernel_rfl)) ?_
        try go_wp2
        go_roundg k1
        case measure => have := HK1.out; omega
        case rel => exact ⟨(y105), (wrap64 (x14_1 + 1)), (by first | rfl | (simp; done) | (simp [*]; done)), H', ⟨by have := HK1.out; omega⟩, ⟨by (with_reducible repeat (first | apply Ra_ | apply Rn_ | apply Rd_)); exact HO107.out⟩, ⟨b_ HB⟩⟩
       ·rw [if_neg c6] at H
        exact absurd H (by simp)
     ·rw [if_neg c4] at H
      have c4b0 : decide (x14_1 < (wrap64 (Int.tdiv (wrap64 ((wrap64 (a0 + a1)) - 1)) a1))) = false := decide_eq_false c4
      clear c4
      obtain rfl := Option.some.inj H
      go_wp2
      go_ret
      exact ⟨_, by first | rfl | (simp [errW_none, errW_some] <;> rfl) | (simp [*, errW_none, errW_some] <;> rfl), by (with_reducible repeat (first | apply Ra_ | apply Rn_ | apply Rd_)); exact HO_4.out, b_ HB⟩

/-! ### tree_level: function 73 -/
def tree_level.l0 : Nat → List Int → List ByteArray → List (S117) → Int → Int → List Int → List ByteArray → List (S85) → Int → Option (List Int × List ByteArray × List (S85))
 | 0, _, _, _, _, _, _, _, _, _ => none
 | k + 1, x8, x9, x14, x15, x16, x66, x67, x110000, x110001 => if x16 < x15 then (if 0 ≤ x16 then (if x16 < (x14.length : Int) then (if 0 ≤ (wrap64 (((rd_T117 x14 x16).f0) + 1)) then (if (wrap64 (((rd_T117 x14 x16).f0) + 1)) ≤ ((rd_T117 x14 x16).f1) then (if ((rd_T117 x14 x16).f1) ≤ (x67.length : Int) then ((slices_Clone_string_string.f ((x67.take (((rd_T117 x14 x16).f1) : Int).toNat).drop ((wrap64 (((rd_T117 x14 x16).f0) + 1)) : Int).toNat)).bind fun t125 => (if 0 ≤ ((rd_T117 x14 x16).f0) then (if ((rd_T117 x14 x16).f0) ≤ ((rd_T117 x14 x16).f1) then (if ((rd_T117 x14 x16).f1) ≤ (x66.length : Int) then ((slices_Clone_int_int.f ((x66.take (((rd_T117 x14 x16).f1) : Int).toNat).drop (((rd_T117 x14 x16).f0) : Int).toNat)).bind fun t132 => (if x110000.length < 1759218604441 then ((some (x110000 ++ [(⟨t125, ([] : List Int), t132, false⟩ : S85)] : List (S85))).bind fun y135 => (if x8.length < 17592186044416 then (if ((rd_T117 x14 x16).f0) < (x67.length : Int) then (if x9.length < 8796093022208 then (tree_level.l0 k (x8 ++ [wrap64 ((y135.length : Int) - 1)]) (x9 ++ [rdOf ByteArray.empty x67 ((rd_T117 x14 x16).f0)]) x14 x15 (wrap64 (x16 + 1)) x66 x67 y135 x110001) else (none)) else (none)) else (none))) else (none))) else (none)) else (none)) else (none))) else (none)) else (none)) else (none)) else (none)) else (none)) else (some (x8, x9, x110000))
theorem tree_level.mono_l : ∀ k, (∀ y0 y1 y2 y3 y4 y5 y6 y7 y8, LeO (tree_level.l0 k y0 y1 y2 y3 y4 y5 y6 y7 y8) (tree_level.l0 (k + 1) y0 y1 y2 y3 y4 y5 y6 y7 y8))
 | 0 => fun _ _ _ _ _ _ _ _ _ r h => by simp [tree_level.l0] at h
 | k + 1 => by
  have ih0 := tree_level.mono_l k
  ·intro y0 y1 y2 y3 y4 y5 y6 y7 y8
   unfold tree_level.l0
   repeat' first
   | (with_reducible exact ih0 _ _ _ _ _ _ _ _ _)
   | (with_reducible exact tree_parts.mono _ _ _)
   | (with_reducible exact LeO.refl _)
   | (with_reducible exact LeO.none _)
   | (with_reducible refine LeO.ite ?_ ?_)
   | (with_reducible refine LeO.bind ?_ (fun _ => ?_))
   | exact ih0 _ _ _ _ _ _ _ _ _
   | exact tree_parts.mono _ _ _
   | exact LeO.none _
   | refine LeO.ite ?_ ?_
   | refine LeO.bind ?_ (fun _ => ?_)
def tree_level.T6 : Bool × List (List Nat × List Nat) := (true, [([], []), ([], []), ([1], [1]), ([2], [2]), ([3], [3]), ([], []), ([], []), ([6], [6]), ([7], [7]), ([], []), ([9], [9]), ([5, 8, 10], [5, 8, 10]), ([11], [11]), ([], []), ([], []), ([14], [14]), ([], []), ([16], [16]), ([13, 15, 17], [13, 15, 17]), ([18, 12], [18]), ([12, 19], [12, 19]), ([20], [20]), ([4, 21, 19], [4, 21]), ([0, 0, 1, 2, 3, 4, 5, 6, 7, 8, 9, 10, 11, 12, 13, 14, 15, 16, 17, 18, 19, 20, 21, 22], [0]), ([23, 0, 1, 2, 3, 4, 5, 6, 7, 8, 9, 10, 11, 12, 13, 14, 15, 16, 17, 18, 19, 20, 21, 22], [23]), ([24, 22, 22, 0, 1, 2, 3, 4, 5, 6, 7, 8, 9, 10, 11, 12, 13, 14, 15, 16, 17, 18, 19, 20, 21, 22], [22, 24])])
def tree_level.B6 : List Nat := [0, 0, 2, 6, 14, 0, 0, 64, 192, 0, 512, 2016, 4064, 0, 0, 16384, 0, 65536, 253952, 524256, 1048544, 2097120, 4194302, 8388607, 16777215, 33554431]
def tree_level.T7 : Bool × List (List Nat × List Nat) := (true, [([], []), ([], []), ([1], [1]), ([2], [2]), ([3], [3]), ([4], [4]), ([5], [5]), ([6], [6]), ([0, 7], [0, 7]), ([], []), ([], []), ([], []), ([11], [11]), ([10, 12], [10, 12]), ([13], [13]), ([14], [14]), ([9, 15, 8], [9, 15]), ([8, 16, 0, 1, 2, 3, 4, 5, 6, 7, 8], [0, 8]), ([16, 17, 0, 1, 2, 3, 4, 5, 6, 7, 8, 9, 10, 11, 12, 13, 14, 15, 16, 17], [9, 16])])
def tree_level.B7 : List Nat := [0, 0, 2, 6, 14, 30, 62, 126, 255, 0, 0, 0, 2048, 7168, 15360, 31744, 65535, 131071, 262143]
theorem tree_level.tab7 : rtab .any (opsOf Tryd.f73 7) = tree_level.T7 := by kernel_rfl
theorem tree_level.bits7 : waitsOk tree_level.T7.2 tree_level.B7 = true := by kernel_rfl
theorem tree_level.tab6 : rtab .any (opsOf Tryd.f73 6) = tree_level.T6 := by kernel_rfl
theorem tree_level.bits6 : waitsOk tree_level.T6.2 tree_level.B6 = true := by kernel_rfl
set_option maxHeartbeats 8000000 in
set_option maxRecDepth 100000 in
theorem tree_level.calls (k : Nat) (w W : World) (gb108 gb109 : Nat) (u0 : Value) (N0 : List S85) (Ao11 : Option Addr) (co11 : Nat) (t110 : List Int) (v114 : Value) (t113 : List ByteArray) (t116 : List S117) (r1 : List Int) (r2 : List ByteArray) (r3 : List S85)
 (HO112 : Fc (Kd.R (Kd.int .i64) 3 W w.heap.size (fun _ => True) (.slice Ao11 t110.length co11) t110)) (HO115 : Fc (Kd.R Kd.string 9 W w.heap.size (fun _ => True) v114 t113))
 (HON : Fc (Kd.S k85 85 W w.heap.size (fun k_ => some k_ ≠ ((.slice Ao11 t110.length co11) : Value).ownBlock ∧ some k_ ≠ (v114 : Value).ownBlock) u0 N0)) (BK109 : Fc (W.heap[gb109]? = some (.cells #[u0, .int .i64 0, .slice none 0 0] 25 (0, 0)))) (GE109 : Fc (w.heap.size ≤ gb109)) (BK108 : Fc (W.heap[gb108]? = some (.cells #[.slice none 0 0, .int .i64 0, .slice none 0 0] 25 (0, 0)))) (GE108 : Fc (w.heap.size ≤ gb108)) (NB108_109 : Fc (gb108 ≠ gb109)) (NB109_108 : Fc (gb109 ≠ gb108)) (HB : Fc (Below w.heap.size w W))
 (A6 : Fc (tree_parts.f k (t110.length : Int) 5 = some t116)) (H' : Fc (tree_level.l0 k ([] : List Int) ([] : List ByteArray) t116 (t116.length : Int) 0 t110 t113 N0 0 = some (r1, r2, r3))) :
 Calls Tryd.prog 73 #[.pointer (some ⟨gb109, 0, none⟩), .slice Ao11 t110.length co11, v114] W fun e w' => ∃ v0_ v1_ u_ : Value, e = .returned (.tuple #[v0_, v1_]) ∧ Kd.R (Kd.int .i64) 3 w' w.heap.size (fun _ => True) v0_ r1 ∧ Kd.R Kd.string 9 w' w.heap.size (fun _ => True) v1_ r2 ∧ Kd.S k85 85 w' w.heap.size (fun k_ => some k_ ≠ (v0_ : Value).ownBlock ∧ some k_ ≠ (v1_ : Value).ownBlock) u_ r3 ∧ w'.heap[gb108]? = some (.cells #[.slice none 0 0, .int .i64 0, .slice none 0 0] 25 (0, 0)) ∧ w'.heap[gb109]? = some (.cells #[u_, .int .i64 0, .slice none 0 0] 25 (0, 0)) ∧ Below w.heap.size w w' := by
 have hu25 := Tryd.underlying25
 have hu117 := Tryd.underlying117
 have hu85 := Tryd.underlying85
 have GW109 := GE109
 have GW108 := GE108
 have BK1 := HB
 go_enter Tryd.func73, Tryd.ntmps73
 go_wp2_with (first | ((with_reducible refine gate_callee (f := 72) rfl ?_); refine gL_ (some 14) Tryd.func72 #[.int .i64 (t110.length : Int), .int .i64 5] (h := ?_); (with_reducible refine (tree_parts.calls k (t110.length : Int) 5 t116 _ A6.out).mono ?_); rintro e w12 ⟨v117, rfl, ho0, hb⟩; refine ⟨_, rfl, ?_⟩; have n2_ := mk0 (Kd.R_lower ho0 (bz_ (b_ HB))); replace HO112 := mk0 (Kd.R_below (r_ HO112) hb); replace HO115 := mk0 (Kd.R_below (r_ HO115) hb); replace BK108 := mk0 (u_ BK108 hb); replace BK109 := mk0 (u_ BK109 hb); replace HON := mk0 (Kd.S_below (s_ HON) hb); replace HB := mk0 (bt_ (b_ HB) hb); have HO118 := n2_; clear n2_; (try clear hb); (try clear ho0); obtain ⟨Ao13, co13, eo13⟩ := Kd.R_slice HO118.out; subst eo13))
 go_loopg [8, 9, 16] k (fun kq v8 v9 v16 w' => ∃ (x8_1 : List Int) (x9_1 : List ByteArray) (x16_1 : Int) (x110000_1 : List (S85)) (u110000 : Value), v16 = .int .i64 x16_1 ∧ Fc (tree_level.l0 kq x8_1 x9_1 t116 (t116.length : Int) x16_1 t110 t113 x110000_1 0 = some (r1, r2, r3)) ∧ Fc (kq ≤ k) ∧ Fc (Kd.R (Kd.int .i64) 3 w' w.heap.size (fun k_ => some k_ ≠ ((.slice Ao11 t110.length co11) : Value).ownBlock) v8 x8_1) ∧ Fc (Kd.R Kd.string 9 w' w.heap.size (fun k_ => some k_ ≠ (v114 : Value).ownBlock) v9 x9_1) ∧ Fc (Kd.R k117 117 w' w.heap.size (fun _ => True) (.slice Ao13 t116.length co13) t116) ∧ Fc (Kd.R (Kd.int .i64) 3 w' w.heap.size (fun k_ => some k_ ≠ (v8 : Value).ownBlock) (.slice Ao11 t110.length co11) t110) ∧ Fc (Kd.R Kd.string 9 w' w.heap.size (fun k_ => some k_ ≠ (v9 : Value).ownBlock) v114 t113) ∧ Fc (Kd.S k85 85 w' w.heap.size (fun k_ => some k_ ≠ (v8 : Value).ownBlock ∧ some k_ ≠ (v9 : Value).ownBlock ∧ some k_ ≠ ((.slice Ao11 t110.length co11) : Value).ownBlock ∧ some k_ ≠ (v114 : Value).ownBlock) u110000 x110000_1) ∧ Fc (w'.heap[gb108]? = some (.cells #[(.slice none 0 0), .int .i64 0, (.slice none 0 0)] 25 (0, 0))) ∧ Fc (w'.heap[gb109]? = some (.cells #[u110000, .int .i64 0, (.slice none 0 0)] 25 (0, 0))) ∧ Fc (Below w.heap.size w w'))
 case atStart => exact ⟨(([] : List Int)), (([] : List ByteArray)), (0), N0, u0, rfl, H', ⟨Nat.le_refl _⟩, ⟨Kd.R_nil _ _ _ _ _⟩, ⟨Kd.R_nil _ _ _ _ _⟩, ⟨by (with_reducible repeat (first | apply Ra_ | apply Rn_ | apply Rd_)); exact HO118.out⟩, ⟨by (with_reducible repeat (first | apply Ra_ | apply Rn_ | apply Rd_)); exact Kd.R_mono HO112.out (fun _ hk => (by simp [Value.ownBlock]))⟩, ⟨by (with_reducible repeat (first | apply Ra_ | apply Rn_ | apply Rd_)); exact Kd.R_mono HO115.out (fun _ hk => (by simp [Value.ownBlock]))⟩, ⟨by (with_reducible repeat (first | apply Kd.S_alloc | apply Kd.S_drewN | apply Kd.S_drew)); exact Kd.S_mono HON.out (fun _ hk => ⟨by simp [Value.ownBlock], by simp [Value.ownBlock], hk.1, hk.2⟩)⟩, ⟨h_ BK108⟩, ⟨h_ BK109⟩, ⟨b_ HB⟩⟩
 case round =>
  clear H'
  obtain ⟨x8_1, x9_1, x16_1, x110000_1, u110000, rfl, HA, HK1, HO_8, HO_9, HO_14, HO_66, HO_67, HO_110000, BK108, BK109, HB⟩ := hrel
  cases gk with
  | zero => exact absurd HA.out (by simp [tree_level.l0])
  | succ k1 =>
   have H := HA.out
   clear HA
   simp only [tree_level.l0] at H
   as_aux_lemma =>
    by_cases c14 : x16_1 < (t116.length : Int)
    ·rw [if_pos c14] at H
     have c14b0 : decide (x16_1 < (t116.length : Int)) = true := decide_eq_true c14
     clear c14
     by_cases c15 : 0 ≤ x16_1
     ·rw [if_pos c15] at H
      have c15b0 : decide (0 ≤ x16_1) = true := decide_eq_true c15
      clear c15
      by_cases c16 : x16_1 < (t116.length : Int)
      ·rw [if_pos c16] at H
       have c16b0 : decide (x16_1 < (t116.length : Int)) = true := decide_eq_true c16
       clear c16
       obtain ⟨ji17, hji17⟩ : ∃ j_ : Int, (wrap64 (((rd_T117 t116 x16_1).f0) + 1)) = j_ := ⟨_, rfl⟩
       replace H : (if 0 ≤ (ji17) then (if (ji17) ≤ ((rd_T117 t116 x16_1).f1) then (if ((rd_T117 t116 x16_1).f1) ≤ (t113.length : Int) then ((slices_Clone_string_string.f ((t113.take (((rd_T117 t116 x16_1).f1) : Int).toNat).drop ((ji17) : Int).toNat)).bind fun t125 => (if 0 ≤ ((rd_T117 t116 x16_1).f0) then (if ((rd_T117 t116 x16_1).f0) ≤ ((rd_T117 t116 x16_1).f1) then (if ((rd_T117 t116 x16_1).f1) ≤ (t110.length : Int) then ((slices_Clone_int_int.f ((t110.take (((rd_T117 t116 x16_1).f1) : Int).toNat).drop (((rd_T117 t116 x16_1).f0) : Int).toNat)).bind fun t132 => (if x110000_1.length < 1759218604441 then ((some (x110000_1 ++ [(⟨t125, ([] : List Int), t132, false⟩ : S85)] : List (S85))).bind fun y135 => (if x8_1.length < 17592186044416 then (if ((rd_T117 t116 x16_1).f0) < (t113.length : Int) then (if x9_1.length < 8796093022208 then (tree_level.l0 k1 (x8_1 ++ [wrap64 ((y135.length : Int) - 1)]) (x9_1 ++ [rdOf ByteArray.empty t113 ((rd_T117 t116 x16_1).f0)]) t116 (t116.length : Int) (wrap64 (x16_1 + 1)) t110 t113 y135 0) else (none)) else (none)) else (none))) else (none))) else (none)) else (none)) else (none))) else (none)) else (none)) else (none)) = some (r1, r2, r3) := by first | (rw [hji17] at H; exact H) | (simp only [hji17] at H ⊢; exact H)
       have hji17w : (IntKind.i64.wrap (((rd_T117 t116 x16_1).f0) + 1)) = ji17 := (i64_w _).trans hji17
       by_cases c18 : 0 ≤ (ji17)
       ·rw [if_pos c18] at H
        have c18b0 := eq_true c18
        have c18b1 : decide (0 ≤ (ji17)) = true := decide_eq_true c18
        clear c18
        by_cases c19 : (ji17) ≤ ((rd_T117 t116 x16_1).f1)
        ·rw [if_pos c19] at H
         have c19b0 := eq_true c19
         have c19b1 : decide ((ji17) ≤ ((rd_T117 t116 x16_1).f1)) = true := decide_eq_true c19
         clear c19
         by_cases c20 : ((rd_T117 t116 x16_1).f1) ≤ (t113.length : Int)
         ·rw [if_pos c20] at H
          have c20b0 := eq_true c20
          have c20b1 : decide (((rd_T117 t116 x16_1).f1) ≤ (t113.length : Int)) = true := decide_eq_true c20
          clear c20
          obtain ⟨y121, hy121⟩ : ∃ y_ : List ByteArray, y_ = ((t113.take (((rd_T117 t116 x16_1).f1) : Int).toNat).drop ((ji17) : Int).toNat) := ⟨_, rfl⟩
          replace H : ((slices_Clone_string_string.f y121).bind fun t125 => (if 0 ≤ ((rd_T117 t116 x16_1).f0) then (if ((rd_T117 t116 x16_1).f0) ≤ ((rd_T117 t116 x16_1).f1) then (if ((rd_T117 t116 x16_1).f1) ≤ (t110.length : Int) then ((slices_Clone_int_int.f ((t110.take (((rd_T117 t116 x16_1).f1) : Int).toNat).drop (((rd_T117 t116 x16_1).f0) : Int).toNat)).bind fun t132 => (if x110000_1.length < 1759218604441 then ((some (x110000_1 ++ [(⟨t125, ([] : List Int), t132, false⟩ : S85)] : List (S85))).bind fun y135 => (if x8_1.length < 17592186044416 then (if ((rd_T117 t116 x16_1).f0) < (t113.length : Int) then (if x9_1.length < 8796093022208 then (tree_level.l0 k1 (x8_1 ++ [wrap64 ((y135.length : Int) - 1)]) (x9_1 ++ [rdOf ByteArray.empty t113 ((rd_T117 t116 x16_1).f0)]) t116 (t116.length : Int) (wrap64 (x16_1 + 1)) t110 t113 y135 0) else (none)) else (none)) else (none))) else (none))) else (none)) else (none)) else (none))) = some (r1, r2, r3) := by first | (rw [hy121]; with_reducible exact H) | (have H2_ := (Option.bind_some _ _).symm.trans H; rw [hy121]; with_reducible exact H2_) | (have H2_ := (Option.bind_some _ _).symm.trans H; with_reducible exact H2_) | with_reducible exact H | (rw [hy121]; exact H) | exact H
          have Ny121 := mk0 hy121
          clear hy121
          replace H := Option.bind_eq_some_iff.mp H
          obtain ⟨t125, A210, H⟩ := H
          try dsimp only at H
          have A21 := mk0 A210
          clear A210
          by_cases c22 : 0 ≤ ((rd_T117 t116 x16_1).f0)
          ·rw [if_pos c22] at H
           have c22b0 := eq_true c22
           have c22b1 : decide (0 ≤ ((rd_T117 t116 x16_1).f0)) = true := decide_eq_true c22
           clear c22
           by_cases c23 : ((rd_T117 t116 x16_1).f0) ≤ ((rd_T117 t116 x16_1).f1)
           ·rw [if_pos c23] at H
            have c23b0 := eq_true c23
            have c23b1 : decide (((rd_T117 t116 x16_1).f0) ≤ ((rd_T117 t116 x16_1).f1)) = true := decide_eq_true c23
            clear c23
            by_cases c24 : ((rd_T117 t116 x16_1).f1) ≤ (t110.length : Int)
            ·rw [if_pos c24] at H
             have c24b0 := eq_true c24
             have c24b1 : decide (((rd_T117 t116 x16_1).f1) ≤ (t110.length : Int)) = true := decide_eq_true c24
             clear c24
             obtain ⟨y128, hy128⟩ : ∃ y_ : List Int, y_ = ((t110.take (((rd_T117 t116 x16_1).f1) : Int).toNat).drop (((rd_T117 t116 x16_1).f0) : Int).toNat) := ⟨_, rfl⟩
             replace H : ((slices_Clone_int_int.f y128).bind fun t132 => (if x110000_1.length < 1759218604441 then ((some (x110000_1 ++ [(⟨t125, ([] : List Int), t132, false⟩ : S85)] : List (S85))).bind fun y135 => (if x8_1.length < 17592186044416 then (if ((rd_T117 t116 x16_1).f0) < (t113.length : Int) then (if x9_1.length < 8796093022208 then (tree_level.l0 k1 (x8_1 ++ [wrap64 ((y135.length : Int) - 1)]) (x9_1 ++ [rdOf ByteArray.empty t113 ((rd_T117 t116 x16_1).f0)]) t116 (t116.length : Int) (wrap64 (x16_1 + 1)) t110 t113 y135 0) else (none)) else (none)) else (none))) else (none))) = some (r1, r2, r3) := by first | (rw [hy128]; with_reducible exact H) | (have H2_ := (Option.bind_some _ _).symm.trans H; rw [hy128]; with_reducible exact H2_) | (have H2_ := (Option.bind_some _ _).symm.trans H; with_reducible exact H2_) | with_reducible exact H | (rw [hy128]; exact H) | exact H
             have Ny128 := mk0 hy128
             clear hy128
             replace H := Option.bind_eq_some_iff.mp H
             obtain ⟨t132, A250, H⟩ := H
             try dsimp only at H
             have A25 := mk0 A250
             clear A250
             by_cases c26 : x110000_1.length < 1759218604441
             ·rw [if_pos c26] at H
              have LMc26 := mk0 c26
              clear c26
              obtain ⟨y135, hy135⟩ : ∃ y_ : List (S85), y_ = (x110000_1 ++ [(⟨t125, ([] : List Int), t132, false⟩ : S85)]) := ⟨_, rfl⟩
              replace H : (if x8_1.length < 17592186044416 then (if ((rd_T117 t116 x16_1).f0) < (t113.length : Int) then (if x9_1.length < 8796093022208 then (tree_level.l0 k1 (x8_1 ++ [wrap64 ((y135.length : Int) - 1)]) (x9_1 ++ [rdOf ByteArray.empty t113 ((rd_T117 t116 x16_1).f0)]) t116 (t116.length : Int) (wrap64 (x16_1 + 1)) t110 t113 y135 0) else (none)) else (none)) else (none)) = some (r1, r2, r3) := by first | (rw [hy135]; with_reducible exact H) | (have H2_ := (Option.bind_some _ _).symm.trans H; rw [hy135]; with_reducible exact H2_) | (have H2_ := (Option.bind_some _ _).symm.trans H; with_reducible exact H2_) | with_reducible exact H | (rw [hy135]; exact H) | exact H
              have Ny135 := mk0 hy135
              clear hy135
              by_cases c27 : x8_1.length < 17592186044416
              ·rw [if_pos c27] at H
               have LMc27 := mk0 c27
               clear c27
               obtain ⟨y138, hy138⟩ : ∃ y_ : List Int, y_ = (x8_1 ++ [wrap64 ((y135.length : Int) - 1)]) := ⟨_, rfl⟩
               replace H : (if ((rd_T117 t116 x16_1).f0) < (t113.length : Int) then (if x9_1.length < 8796093022208 then (tree_level.l0 k1 y138 (x9_1 ++ [rdOf ByteArray.empty t113 ((rd_T117 t116 x16_1).f0)]) t116 (t116.length : Int) (wrap64 (x16_1 + 1)) t110 t113 y135 0) else (none)) else (none)) = some (r1, r2, r3) := by first | (rw [hy138]; with_reducible exact H) | (have H2_ := (Option.bind_some _ _).symm.trans H; rw [hy138]; with_reducible exact H2_) | (have H2_ := (Option.bind_some _ _).symm.trans H; with_reducible exact H2_) | with_reducible exact H | (rw [hy138]; exact H) | exact H
               have Ny138 := mk0 hy138
               clear hy138
               by_cases c28 : ((rd_T117 t116 x16_1).f0) < (t113.length : Int)
               ·rw [if_pos c28] at H
                have c28b0 : decide (((rd_T117 t116 x16_1).f0) < (t113.length : Int)) = true := decide_eq_true c28
                clear c28
                by_cases c29 : x9_1.length < 8796093022208
                ·rw [if_pos c29] at H
                 have LMc29 := mk0 c29
                 clear c29
                 obtain ⟨y142, hy142⟩ : ∃ y_ : List ByteArray, y_ = (x9_1 ++ [rdOf ByteArray.empty t113 ((rd_T117 t116 x16_1).f0)]) := ⟨_, rfl⟩
                 replace H : (tree_level.l0 k1 y138 y142 t116 (t116.length : Int) (wrap64 (x16_1 + 1)) t110 t113 y135 0) = some (r1, r2, r3) := by first | (rw [hy142]; with_reducible exact H) | (have H2_ := (Option.bind_some _ _).symm.trans H; rw [hy142]; with_reducible exact H2_) | (have H2_ := (Option.bind_some _ _).symm.trans H; with_reducible exact H2_) | with_reducible exact H | (rw [hy142]; exact H) | exact H
                 have Ny142 := mk0 hy142
                 clear hy142
                 have H' := mk0 H
                 clear H
                 have p119 : 0 ≤ (x16_1 : Int) := of_decide_eq_true (by first | (with_reducible assumption) | assumption)
                 have q119 : x16_1 < (t116.length : Int) := of_decide_eq_true (by first | (with_reducible assumption) | assumption)
                 (try (obtain ⟨Aq_, cq_, eq_⟩ := Kd.R_slice HO_14.out; subst eq_))
                 obtain ⟨ad119, e119, hx119_0, hx119_1⟩ := at_T117 (Kd.R_reads' HO_14.out).2.2 x16_1 p119 q119
                 cases e119
                 replace p119 := eq_true p119
                 replace q119 := eq_true q119
                 try go_wp2_with (first | ((with_reducible refine gate_dst (N := 11) rfl ?_); refine bx_ (N := 11) (cs := #[.int .i64 0, .int .i64 0]) (t := 117) (h := ?_); intro gb120 hg w30 hbox hb; have n10_ := mk0 (gz_ HB hg); have n11_ := mk0 (gz_ HB hg); have n12_ := mk0 (ne1_ BK108 hg); have n13_ := mk0 (ne2_ BK108 hg); have n14_ := mk0 (ne1_ BK109 hg); have n15_ := mk0 (ne2_ BK109 hg); replace HO_8 := mk0 (Kd.R_below (r_ HO_8) hb); replace HO_9 := mk0 (Kd.R_below (r_ HO_9) hb); replace HO_14 := mk0 (Kd.R_below (Kd.R_elderB (r_ HO_14) gb120 (Nat.le_of_eq hg.symm)) hb); replace HO_66 := mk0 (Kd.R_below (r_ HO_66) hb); replace HO_67 := mk0 (Kd.R_below (r_ HO_67) hb); replace HO_110000 := mk0 (Kd.S_below (s_ HO_110000) hb); replace BK108 := mk0 (u_ BK108 hb); replace BK109 := mk0 (u_ BK109 hb); replace HB := mk0 (bt_ (b_ HB) hb); have BK120 := mk0 (hbox); have GW120 := n10_; have GE120 := n11_; have NB108_120 := n12_; have NB120_108 := n13_; have NB109_120 := n14_; have NB120_109 := n15_; clear n10_ n11_ n12_ n13_ n14_ n15_ hb hbox hg; have hnb31 := NB120_108.out; have hnc31 := NB108_120.out; have hnb32 := NB120_109.out; have hnc32 := NB109_120.out; obtain ⟨hcz33_0, hcz33_1, hfz33_0, hfz33_1⟩ := c2_ BK120))
                 have n0_ : Fc (Kd.R (Kd.int .i64) 3 ((w30.setCell ⟨gb120, 0, none⟩ (.int .i64 ((rd_T117 t116 x16_1).f0))).setCell ⟨gb120, 1, none⟩ (.int .i64 ((rd_T117 t116 x16_1).f1))) w.heap.size (fun k_ => some k_ ≠ (.slice Ao11 t110.length co11 : Value).ownBlock) u8 x8_1) := ⟨by (with_reducible repeat (first | apply Ra_ | apply Rn_ | apply Rd_)); exact Kd.R_mono (Kd.R_far (p := ⟨gb120, 1, none⟩) (Kd.R_far (p := ⟨gb120, 0, none⟩) (Kd.R_types HO_8.out BK120.out (by decide)) (fun _ hk => hk.2) (.int .i64 ((rd_T117 t116 x16_1).f0))) (fun _ hk => hk.2) (.int .i64 ((rd_T117 t116 x16_1).f1))) (fun _ hk => hk.1)⟩
                 have n1_ : Fc (Kd.R Kd.string 9 ((w30.setCell ⟨gb120, 0, none⟩ (.int .i64 ((rd_T117 t116 x16_1).f0))).setCell ⟨gb120, 1, none⟩ (.int .i64 ((rd_T117 t116 x16_1).f1))) w.heap.size (fun k_ => some k_ ≠ (v114 : Value).ownBlock) u9 x9_1) := ⟨by (with_reducible repeat (first | apply Ra_ | apply Rn_ | apply Rd_)); exact Kd.R_mono (Kd.R_far (p := ⟨gb120, 1, none⟩) (Kd.R_far (p := ⟨gb120, 0, none⟩) (Kd.R_types HO_9.out BK120.out (by decide)) (fun _ hk => hk.2) (.int .i64 ((rd_T117 t116 x16_1).f0))) (fun _ hk => hk.2) (.int .i64 ((rd_T117 t116 x16_1).f1))) (fun _ hk => hk.1)⟩
                 have n2_ : Fc (Kd.R k117 117 ((w30.setCell ⟨gb120, 0, none⟩ (.int .i64 ((rd_T117 t116 x16_1).f0))).setCell ⟨gb120, 1, none⟩ (.int .i64 ((rd_T117 t116 x16_1).f1))) w.heap.size (fun k_ => k_ ≠ gb120) (.slice (some ad119) t116.length co13) t116) := ⟨by (with_reducible repeat (first | apply Ra_ | apply Rn_ | apply Rd_)); exact Kd.R_mono (Kd.R_far (p := ⟨gb120, 1, none⟩) (Kd.R_far (p := ⟨gb120, 0, none⟩) (Kd.R_mono HO_14.out (fun k_ hk => (⟨hk, hk.2⟩ : _ ∧ k_ ≠ gb120))) (fun _ hk => hk.2) (.int .i64 ((rd_T117 t116 x16_1).f0))) (fun _ hk => hk.2) (.int .i64 ((rd_T117 t116 x16_1).f1))) (fun _ hk => hk.1.2)⟩
                 have n3_ : Fc (Kd.R (Kd.int .i64) 3 ((w30.setCell ⟨gb120, 0, none⟩ (.int .i64 ((rd_T117 t116 x16_1).f0))).setCell ⟨gb120, 1, none⟩ (.int .i64 ((rd_T117 t116 x16_1).f1))) w.heap.size (fun k_ => some k_ ≠ (u8 : Value).ownBlock) (.slice Ao11 t110.length co11) t110) := ⟨by (with_reducible repeat (first | apply Ra_ | apply Rn_ | apply Rd_)); exact Kd.R_mono (Kd.R_far (p := ⟨gb120, 1, none⟩) (Kd.R_far (p := ⟨gb120, 0, none⟩) (Kd.R_types HO_66.out BK120.out (by decide)) (fun _ hk => hk.2) (.int .i64 ((rd_T117 t116 x16_1).f0))) (fun _ hk => hk.2) (.int .i64 ((rd_T117 t116 x16_1).f1))) (fun _ hk => hk.1)⟩
                 have n4_ : Fc (Kd.R Kd.string 9 ((w30.setCell ⟨gb120, 0, none⟩ (.int .i64 ((rd_T117 t116 x16_1).f0))).setCell ⟨gb120, 1, none⟩ (.int .i64 ((rd_T117 t116 x16_1).f1))) w.heap.size (fun k_ => some k_ ≠ (u9 : Value).ownBlock) v114 t113) := ⟨by (with_reducible repeat (first | apply Ra_ | apply Rn_ | apply Rd_)); exact Kd.R_mono (Kd.R_far (p := ⟨gb120, 1, none⟩) (Kd.R_far (p := ⟨gb120, 0, none⟩) (Kd.R_types HO_67.out BK120.out (by decide)) (fun _ hk => hk.2) (.int .i64 ((rd_T117 t116 x16_1).f0))) (fun _ hk => hk.2) (.int .i64 ((rd_T117 t116 x16_1).f1))) (fun _ hk => hk.1)⟩
                 have n5_ : Fc (Kd.S k85 85 ((w30.setCell ⟨gb120, 0, none⟩ (.int .i64 ((rd_T117 t116 x16_1).f0))).setCell ⟨gb120, 1, none⟩ (.int .i64 ((rd_T117 t116 x16_1).f1))) w.heap.size (fun k_ => some k_ ≠ (u8 : Value).ownBlock ∧ some k_ ≠ (u9 : Value).ownBlock ∧ some k_ ≠ (.slice Ao11 t110.length co11 : Value).ownBlock ∧ some k_ ≠ (v114 : Value).ownBlock) u110000 x110000_1) := ⟨by (with_reducible repeat (first | apply Kd.S_alloc | apply Kd.S_drewN | apply Kd.S_drew)); exact Kd.S_mono (Kd.S_far (p := ⟨gb120, 1, none⟩) (Kd.S_far (p := ⟨gb120, 0, none⟩) (Kd.S_types HO_110000.out BK120.out (by decide)) (fun _ hk => hk.2) (.int .i64 ((rd_T117 t116 x16_1).f0))) (fun _ hk => hk.2) (.int .i64 ((rd_T117 t116 x16_1).f1))) (fun _ hk => ⟨hk.1.1, ⟨hk.1.2.1, ⟨hk.1.2.2.1, hk.1.2.2.2⟩⟩⟩)⟩
                 have n6_ : Fc (((w30.setCell ⟨gb120, 0, none⟩ (.int .i64 ((rd_T117 t116 x16_1).f0))).setCell ⟨gb120, 1, none⟩ (.int .i64 ((rd_T117 t116 x16_1).f1))).heap[gb108]? = some (.cells #[.slice none 0 0, .int .i64 0, .slice none 0 0] 25 (0, 0))) := ⟨(fa_ (fa_ (h_ BK108) NB108_120.out) NB108_120.out)⟩
                 have n7_ : Fc (((w30.setCell ⟨gb120, 0, none⟩ (.int .i64 ((rd_T117 t116 x16_1).f0))).setCell ⟨gb120, 1, none⟩ (.int .i64 ((rd_T117 t116 x16_1).f1))).heap[gb109]? = some (.cells #[u110000, .int .i64 0, .slice none 0 0] 25 (0, 0))) := ⟨(fa_ (fa_ (h_ BK109) NB109_120.out) NB109_120.out)⟩
                 have n8_ : Fc (((w30.setCell ⟨gb120, 0, none⟩ (.int .i64 ((rd_T117 t116 x16_1).f0))).setCell ⟨gb120, 1, none⟩ (.int .i64 ((rd_T117 t116 x16_1).f1))).heap[gb120]? = some (.cells #[.int .i64 ((rd_T117 t116 x16_1).f0), .int .i64 ((rd_T117 t116 x16_1).f1)] 117 (0, 0))) := ⟨(pu_ (cs := #[.int .i64 ((rd_T117 t116 x16_1).f0), .int .i64 0]) (pu_ (cs := #[.int .i64 0, .int .i64 0]) (h_ BK120)))⟩
                 have n9_ : Fc (Below w.heap.size w ((w30.setCell ⟨gb120, 0, none⟩ (.int .i64 ((rd_T117 t116 x16_1).f0))).setCell ⟨gb120, 1, none⟩ (.int .i64 ((rd_T117 t116 x16_1).f1)))) := ⟨b_ HB⟩
                 (try clear HO_8)
                 (try clear HO_9)
                 (try clear HO_14)
                 (try clear HO_66)
                 (try clear HO_67)
                 (try clear HO_110000)
                 (try clear BK108)
                 (try clear BK109)
                 (try clear BK120)
                 (try clear HB)
                 generalize ((w30.setCell ⟨gb120, 0, none⟩ (.int .i64 ((rd_T117 t116 x16_1).f0))).setCell ⟨gb120, 1, none⟩ (.int .i64 ((rd_T117 t116 x16_1).f1))) = w34 at n0_ n1_ n2_ n3_ n4_ n5_ n6_ n7_ n8_ n9_ ⊢
                 have HO_8 := n0_
                 have HO_9 := n1_
                 have HO_14 := n2_
                 have HO_66 := n3_
                 have HO_67 := n4_
                 have HO_110000 := n5_
                 have BK108 := n6_
                 have BK109 := n7_
                 have BK120 := n8_
                 have HB := n9_
                 clear n0_ n1_ n2_ n3_ n4_ n5_ n6_ n7_ n8_ n9_
                 replace HO_8 := mk0 (Rd_ HO_8.out)
                 replace HO_9 := mk0 (Rd_ HO_9.out)
                 replace HO_14 := mk0 (Rd_ HO_14.out)
                 replace HO_66 := mk0 (Rd_ HO_66.out)
                 replace HO_67 := mk0 (Rd_ HO_67.out)
                 replace HO_110000 := mk0 (Kd.S_drew HO_110000.out)
                 replace BK108 := mk0 (bD_ BK108.out)
                 replace BK109 := mk0 (bD_ BK109.out)
                 replace BK120 := mk0 (bD_ BK120.out)
                 replace HB := mk0 (b1_ HB.out)
                 obtain ⟨Ao37, co37, eo37⟩ := Kd.R_slice HO_67.out
                 (first | subst eo37 | (injection eo37 with f1_ f2_ f3_; have f4_ := f1_.symm; have f5_ := f3_.symm; clear f1_ f2_ f3_; subst f4_; subst f5_))
                 have q36 : (((rd_T117 t116 x16_1).f1) : Int) ≤ ((t113.length : Int) : Int) := of_decide_eq_true (by first | (with_reducible assumption) | assumption)
                 obtain ⟨i036, hi036, _, hsz36, _⟩ := info_parts info9
                 have hroom36 : t113.length ≤ co37 := (Kd.R_reads' HO_67.out).2.1
                 have hC36 : Kd.C Kd.string _ Ao37 t113.length t113 := (Kd.R_reads' HO_67.out).2.2
                 have ql36 : ((ji17) : Int) ≤ (((rd_T117 t116 x16_1).f1) : Int) := of_decide_eq_true (by first | (with_reducible assumption) | assumption)
                 have q036 : (0 : Int) ≤ ((ji17) : Int) := of_decide_eq_true (by first | (with_reducible assumption) | assumption)
                 have hcut36 := cut_mid (P := Tryd.prog) 83 9 .i64 .i64 Tryd.underlying83 hi036 1 hsz36 Ao37 t113.length co37 (ji17) ((rd_T117 t116 x16_1).f1) q036 ql36 q36 hroom36
                 have hr36 := Kd.C_mid (lo := ((ji17) : Int).toNat) (hi := (((rd_T117 t116 x16_1).f1) : Int).toNat) (c := co37) hC36 (by omega) (by omega) hroom36
                 obtain ⟨A36, hA36⟩ : ∃ A1, A1 = (if co37 = ((ji17) : Int).toNat then Ao37 else (Ao37 : Option Addr).map (·.add (((ji17) : Int).toNat * 1))) := ⟨_, rfl⟩
                 obtain ⟨c36, hc36⟩ : ∃ c1, c1 = co37 - ((ji17) : Int).toNat := ⟨_, rfl⟩
                 have hy36 : y121.length = (((rd_T117 t116 x16_1).f1) : Int).toNat - ((ji17) : Int).toNat := (by rw [Ny121.out, List.length_drop, List.length_take] <;> omega)
                 rw [show ((t113).take (((rd_T117 t116 x16_1).f1) : Int).toNat).drop ((ji17) : Int).toNat = y121 from Ny121.out.symm] at hr36
                 replace hr36 : Kd.C Kd.string _ A36 y121.length y121 := (by rw [hA36]; exact hr36)
                 rw [← hy36, ← hA36, ← hc36] at hcut36
                 have HR124 := mk0 hr36
                 have HC124 := mk0 (show y121.length ≤ c36 from by rw [hy36, hc36]; exact Nat.sub_le_sub_right (Nat.le_trans (by omega) hroom36) _)
                 clear hr36 hC36 hroom36 hi036 hsz36 hc36
                 have KY36 := mk0 hy36
                 have KA36 := mk0 hA36
                 clear hy36 hA36
                 have KL36 := mk0 (show (((rd_T117 t116 x16_1).f1) : Int).toNat ≤ t113.length from by omega)
                 have KM36 := mk0 (show ((ji17) : Int).toNat ≤ (((rd_T117 t116 x16_1).f1) : Int).toNat from by omega)
                 replace q36 := eq_true q36
                 have q38 : (((rd_T117 t116 x16_1).f1) : Int) ≤ ((t110.length : Int) : Int) := of_decide_eq_true (by first | (with_reducible assumption) | assumption)
                 obtain ⟨i038, hi038, _, hsz38, _⟩ := info_parts info3
                 have hroom38 : t110.length ≤ co11 := (Kd.R_reads' HO_66.out).2.1
                 have hC38 : Kd.C (Kd.int .i64) _ Ao11 t110.length t110 := (Kd.R_reads' HO_66.out).2.2
                 have ql38 : (((rd_T117 t116 x16_1).f0) : Int) ≤ (((rd_T117 t116 x16_1).f1) : Int) := of_decide_eq_true (by first | (with_reducible assumption) | assumption)
                 have q038 : (0 : Int) ≤ (((rd_T117 t116 x16_1).f0) : Int) := of_decide_eq_true (by first | (with_reducible assumption) | assumption)
                 have hcut38 := cut_mid (P := Tryd.prog) 23 3 .i64 .i64 Tryd.underlying23 hi038 1 hsz38 Ao11 t110.length co11 ((rd_T117 t116 x16_1).f0) ((rd_T117 t116 x16_1).f1) q038 ql38 q38 hroom38
                 have hr38 := Kd.C_mid (lo := (((rd_T117 t116 x16_1).f0) : Int).toNat) (hi := (((rd_T117 t116 x16_1).f1) : Int).toNat) (c := co11) hC38 (by omega) (by omega) hroom38
                 obtain ⟨A38, hA38⟩ : ∃ A1, A1 = (if co11 = (((rd_T117 t116 x16_1).f0) : Int).toNat then Ao11 else (Ao11 : Option Addr).map (·.add ((((rd_T117 t116 x16_1).f0) : Int).toNat * 1))) := ⟨_, rfl⟩
                 obtain ⟨c38, hc38⟩ : ∃ c1, c1 = co11 - (((rd_T117 t116 x16_1).f0) : Int).toNat := ⟨_, rfl⟩
                 have hy38 : y128.length = (((rd_T117 t116 x16_1).f1) : Int).toNat - (((rd_T117 t116 x16_1).f0) : Int).toNat := (by rw [Ny128.out, List.length_drop, List.length_take] <;> omega)
                 rw [show ((t110).take (((rd_T117 t116 x16_1).f1) : Int).toNat).drop (((rd_T117 t116 x16_1).f0) : Int).toNat = y128 from Ny128.out.symm] at hr38
                 replace hr38 : Kd.C (Kd.int .i64) _ A38 y128.length y128 := (by rw [hA38]; exact hr38)
                 rw [← hy38, ← hA38, ← hc38] at hcut38
                 have HR131 := mk0 hr38
                 have HC131 := mk0 (show y128.length ≤ c38 from by rw [hy38, hc38]; exact Nat.sub_le_sub_right (Nat.le_trans (by omega) hroom38) _)
                 clear hr38 hC38 hroom38 hi038 hsz38 hc38
                 have KY38 := mk0 hy38
                 have KA38 := mk0 hA38
                 clear hy38 hA38
                 have KL38 := mk0 (show (((rd_T117 t116 x16_1).f1) : Int).toNat ≤ t110.length from by omega)
                 have KM38 := mk0 (show (((rd_T117 t116 x16_1).f0) : Int).toNat ≤ (((rd_T117 t116 x16_1).f1) : Int).toNat from by omega)
                 replace q38 := eq_true q38
                 refine start_ (n := 26) (S := fun w' => w'.cell? ⟨gb109, 0, none⟩ = some (u110000) ∧ w'.cell? ⟨gb109, 1, none⟩ = some (.int .i64 0) ∧ w'.cell? ⟨gb109, 2, none⟩ = some (.slice none 0 0) ∧ w'.cell? ⟨gb120, 0, none⟩ = some (.int .i64 ((rd_T117 t116 x16_1).f0)) ∧ w'.cell? ⟨gb120, 1, none⟩ = some (.int .i64 ((rd_T117 t116 x16_1).f1))) (ds := [25]) (bt 26 0) (by kernel_rfl) rfl rfl ⟨bk_ BK109 0, bk_ BK109 1, bk_ BK109 2, bk_ BK120 0, bk_ BK120 1⟩ (fun hHeld => ?_); refine with_tabW tree_level.tab6 tree_level.bits6 (fun HT_ HW_ => ?_)
                 generalize w34.drew = w35 at HO_8 HO_9 HO_14 HO_66 HO_67 HO_110000 BK108 BK109 BK120 HB HR124 HR131 hHeld ⊢
                 refine pq_ HT_.out 0 20 (bt 26 1) (h := ?_)
                 refine pq_ HT_.out 1 21 (bt 26 3) (h := ?_)
                 refine pq_ HT_.out 2 22 (bt 26 7) (h := ?_)
                 refine pq_ HT_.out 3 23 (bt 26 15) (h := ?_)
                 refine pq_ HT_.out 5 25 (bt 26 47) (h := ?_)
                 refine pq_ HT_.out 6 26 (bt 26 111) (h := ?_)
                 refine pq_ HT_.out 9 29 (bt 26 623) (h := ?_)
                 refine pq_ HT_.out 13 33 (bt 26 8815) (h := ?_)
                 refine pq_ HT_.out 14 34 (bt 26 25199) (h := ?_)
                 refine pq_ HT_.out 16 36 (bt 26 90735) (h := ?_)
                 refine tq5_ HT_.out HW_.out 4 24 (bt 26 90751) hHeld (h := ?_)
                 refine tq5_ HT_.out HW_.out 7 27 (bt 26 90879) hHeld (h := ?_)
                 refine pq_ HT_.out 8 28 (bt 26 91135) (h := ?_)
                 refine tq5_ HT_.out HW_.out 10 30 (bt 26 92159) hHeld (h := ?_)
                 refine pq_ HT_.out 11 31 (bt 26 94207) (h := ?_)
                 refine tq5_ HT_.out HW_.out 15 35 (bt 26 126975) hHeld (h := ?_)
                 refine tq5_ HT_.out HW_.out 17 37 (bt 26 258047) hHeld (h := ?_)
                 refine pq_ HT_.out 18 38 (bt 26 520191) (h := ?_)
                 refine one_ (i := 12) (N := some 32) (bt 26 524287) rfl rfl (one_of HT_.out (by kernel_rfl)) (by decide) (fun K hK => ?_)
                 refine goes_ Tryd.func89 (by kernel_rfl) rfl #[.slice A36 y121.length c36] (by rfl) rfl rfl (by (try simp only [List.map_toArray, List.map_cons, List.map_nil]); first | done | rfl | (simp only [List.length_drop, List.length_take]; rfl)) ?_
                 with_reducible refine (slices_Clone_string_string.calls _ _ y121 t125 _ ?side1 ?side2 A21.out).mono ?_
                 (case side1 => repeat (first | exact (by repeat (first | (with_reducible exact HR124.out) | (with_reducible refine Kd.C_alloc ?_ _) | (with_reducible refine Kd.C_drewN ?_ _) | (with_reducible refine Kd.C_drew ?_) | exact HR124.out)) | (with_reducible refine Kd.C_alloc ?_ _) | (with_reducible refine Kd.C_drewN ?_ _) | (with_reducible refine Kd.C_drew ?_)))
                 (case side2 => exact HC124.out)
                 rintro e w39 ⟨v126, rfl, ho0, hb⟩
                 refine ⟨_, rfl, ?_⟩
                 have n6_ := mk0 (Kd.R_lower (Kd.R_new' (Kd.R_new' ho0 (Kd.R_lt (r_ HO_9))) (Kd.R_lt (r_ HO_67))) (bz_ (b_ HB)))
                 replace HO_8 := mk0 (Kd.R_below (r_ HO_8) hb)
                 replace HO_9 := mk0 (Kd.R_elder' (r_ HO_9) (Kd.R_base ho0) hb)
                 replace HO_14 := mk0 (Kd.R_below (r_ HO_14) hb)
                 replace HO_66 := mk0 (Kd.R_below (r_ HO_66) hb)
                 replace HO_67 := mk0 (Kd.R_elder' (r_ HO_67) (Kd.R_base ho0) hb)
                 replace HO_110000 := mk0 (Kd.S_elder' (s_ HO_110000) (Kd.R_base ho0) hb)
                 replace BK108 := mk0 (u_ BK108 hb)
                 replace BK109 := mk0 (u_ BK109 hb)
                 replace BK120 := mk0 (u_ BK120 hb)
                 replace HR124 := mk0 (Kd.C_below (by (with_reducible repeat (first | refine Kd.C_drewN ?_ _ | refine Kd.C_drew ?_ | refine Kd.C_alloc ?_ _)); exact HR124.out) hb)
                 replace HR131 := mk0 (Kd.C_below (by (with_reducible repeat (first | refine Kd.C_drewN ?_ _ | refine Kd.C_drew ?_ | refine Kd.C_alloc ?_ _)); exact HR131.out) hb)
                 replace HB := mk0 (bt_ (b_ HB) hb)
                 have HO127 := n6_
                 clear n6_
                 (try clear hb)
                 (try clear hb2)
                 (try clear hk)
                 (try clear hi)
                 (try clear ho0)
                 refine hK.out _ _ ⟨bk_ BK109 0, bk_ BK109 1, bk_ BK109 2, bk_ BK120 0, bk_ BK120 1⟩ (fun hHeld => ?_)
                 clear hK K
                 refine norm_ (a' := ?_) ?_ ?_
                 rotate_left
                 ·show Act.put _ (some 32) _ = _
                  simp only [z_]
                  rfl
                 refine one_ (i := 19) (N := some 39) (bt 26 1048575) rfl rfl (one_of HT_.out (by kernel_rfl)) (by decide) (fun K hK => ?_)
                 refine goes_ Tryd.func90 (by kernel_rfl) rfl #[.slice A38 y128.length c38] (by rfl) rfl rfl (by (try simp only [List.map_toArray, List.map_cons, List.map_nil]); first | done | rfl | (simp only [List.length_drop, List.length_take]; rfl)) ?_
                 with_reducible refine (slices_Clone_int_int.calls _ _ y128 t132 _ ?side1 ?side2 A25.out).mono ?_
                 (case side1 => repeat (first | exact (by repeat (first | (with_reducible exact HR131.out) | (with_reducible refine Kd.C_alloc ?_ _) | (with_reducible refine Kd.C_drewN ?_ _) | (with_reducible refine Kd.C_drew ?_) | exact HR131.out)) | (with_reducible refine Kd.C_alloc ?_ _) | (with_reducible refine Kd.C_drewN ?_ _) | (with_reducible refine Kd.C_drew ?_)))
                 (case side2 => exact HC131.out)
                 rintro e w40 ⟨v133, rfl, ho0, hb⟩
                 refine ⟨_, rfl, ?_⟩
                 have n7_ := mk0 (Kd.R_lower (Kd.R_new' (Kd.R_new' ho0 (Kd.R_lt (r_ HO_8))) (Kd.R_lt (r_ HO_66))) (bz_ (b_ HB)))
                 replace HO_8 := mk0 (Kd.R_elder' (r_ HO_8) (Kd.R_base ho0) hb)
                 replace HO_9 := mk0 (Kd.R_below (r_ HO_9) hb)
                 replace HO_14 := mk0 (Kd.R_below (r_ HO_14) hb)
                 replace HO_66 := mk0 (Kd.R_elder' (r_ HO_66) (Kd.R_base ho0) hb)
                 replace HO_67 := mk0 (Kd.R_below (r_ HO_67) hb)
                 replace HO_110000 := mk0 (Kd.S_elder' (s_ HO_110000) (Kd.R_base ho0) hb)
                 replace HO127 := mk0 (Kd.R_below (r_ HO127) hb)
                 replace BK108 := mk0 (u_ BK108 hb)
                 replace BK109 := mk0 (u_ BK109 hb)
                 replace BK120 := mk0 (u_ BK120 hb)
                 replace HR124 := mk0 (Kd.C_below (by (with_reducible repeat (first | refine Kd.C_drewN ?_ _ | refine Kd.C_drew ?_ | refine Kd.C_alloc ?_ _)); exact HR124.out) hb)
                 replace HR131 := mk0 (Kd.C_below (by (with_reducible repeat (first | refine Kd.C_drewN ?_ _ | refine Kd.C_drew ?_ | refine Kd.C_alloc ?_ _)); exact HR131.out) hb)
                 replace HB := mk0 (bt_ (b_ HB) hb)
                 have HO134 := n7_
                 clear n7_
                 (try clear hb)
                 (try clear hb2)
                 (try clear hk)
                 (try clear hi)
                 (try clear ho0)
                 obtain ⟨Ao41, co41, eo41⟩ := Kd.R_slice HO134.out
                 (first | subst eo41 | (injection eo41 with f1_ f2_ f3_; have f4_ := f1_.symm; have f5_ := f3_.symm; clear f1_ f2_ f3_; subst f4_; subst f5_))
                 obtain ⟨Ao42, co42, eo42⟩ := Kd.R_slice HO127.out
                 (first | subst eo42 | (injection eo42 with f1_ f2_ f3_; have f4_ := f1_.symm; have f5_ := f3_.symm; clear f1_ f2_ f3_; subst f4_; subst f5_))
                 refine hK.out _ _ ⟨bk_ BK109 0, bk_ BK109 1, bk_ BK109 2, bk_ BK120 0, bk_ BK120 1⟩ (fun hHeld => ?_)
                 clear hK K
                 refine norm_ (a' := ?_) ?_ ?_
                 rotate_left
                 ·show Act.put _ (some 39) _ = _
                  simp only [z_]
                  rfl
                 refine pq_ HT_.out 20 40 (bt 26 2097151) (h := ?_)
                 refine one_ (i := 21) (N := some 41) (bt 26 4194303) rfl rfl (one_of HT_.out (by kernel_rfl)) (by decide) (fun K hK => ?_)
                 refine value_ (w1 := ?_) (v := ?_) (by rfl) rfl ?_ ?_
                 rotate_left 2
                 ·go_simp
                  constructor
                  ·rfl
                  ·rfl
                 refine hK.out _ _ ⟨(blk_cell (bA_ BK109.out _) 0).trans rfl, (blk_cell (bA_ BK109.out _) 1).trans rfl, (blk_cell (bA_ BK109.out _) 2).trans rfl, (blk_cell (bA_ BK120.out _) 0).trans rfl, (blk_cell (bA_ BK120.out _) 1).trans rfl⟩ (fun hHeld => ?_)
                 clear hK K
                 refine norm_ (a' := ?_) ?_ ?_
                 rotate_left
                 ·show Act.put _ (some 41) _ = _
                  simp only [z_]
                  rfl
                 refine one_ (i := 22) (N := some 42) (bt 26 8388607) rfl rfl (one_of HT_.out (by kernel_rfl)) (by decide) (fun K hK => ?_)
                 refine Kd.S_append_step k85 (w0 := w) w.heap.size (by rfl) (.tmp 24) (.tmp 41) 22 85 (.agg #[(.slice none 0 0), (.slice none 0 0), (.slice none 0 0), (.bool false)]) 80 rfl Tryd.underlying22 info85 rfl (by decide) (by omega) u110000 x110000_1 (⟨t125, ([] : List Int), t132, false⟩ : S85) [.slice Ao42 t125.length co42, .slice none 0 0, .slice Ao41 t132.length co41, .bool false] (fun k_ => some k_ ≠ (u8 : Value).ownBlock ∧ some k_ ≠ (u9 : Value).ownBlock ∧ some k_ ≠ (.slice Ao11 t110.length co11 : Value).ownBlock ∧ some k_ ≠ (.slice Ao37 t113.length co37 : Value).ownBlock) (fun k_ => some k_ = (.slice Ao42 t125.length co42 : Value).ownBlock ∨ some k_ = (.slice Ao41 t132.length co41 : Value).ownBlock) rfl rfl ?aP (fun k_ hk_ => hk_.elim (fun h_ => ((Kd.R_mono (ok' := fun k_ => ((fun k_ => some k_ ≠ (u8 : Value).ownBlock ∧ some k_ ≠ (u9 : Value).ownBlock ∧ some k_ ≠ (.slice Ao11 t110.length co11 : Value).ownBlock ∧ some k_ ≠ (.slice Ao37 t113.length co37 : Value).ownBlock)) k_ ∧ some k_ ≠ (u110000 : Value).ownBlock) (Kd.R_apart' (Kd.R_apart' (Kd.R_apart' (HO127.out) (Kd.R_typed HO_8.out) (by decide)) (Kd.R_typed HO_66.out) (by decide)) (Kd.S_typed HO_110000.out) (by decide)) (fun k_ hk => ⟨⟨hk.1.1.2, ⟨hk.1.1.1.1.2, ⟨hk.1.2, hk.1.1.1.2⟩⟩⟩, hk.2⟩))).1 k_ h_.symm) (fun h_ => ((Kd.R_mono (ok' := fun k_ => ((fun k_ => some k_ ≠ (u8 : Value).ownBlock ∧ some k_ ≠ (u9 : Value).ownBlock ∧ some k_ ≠ (.slice Ao11 t110.length co11 : Value).ownBlock ∧ some k_ ≠ (.slice Ao37 t113.length co37 : Value).ownBlock)) k_ ∧ some k_ ≠ (u110000 : Value).ownBlock) (Kd.R_apart' (Kd.R_apart' (Kd.R_apart' (HO134.out) (Kd.R_typed HO_9.out) (by decide)) (Kd.R_typed HO_67.out) (by decide)) (Kd.S_typed HO_110000.out) (by decide)) (fun k_ hk => ⟨⟨hk.1.1.1.1.2, ⟨hk.1.1.2, ⟨hk.1.1.1.2, hk.1.2⟩⟩⟩, hk.2⟩))).1 k_ h_.symm)) ?aF ?aO ?aB ?aS ?aL ?_
                 (case aP => exact k85_mkM _ _ _ (⟨t125, ([] : List Int), t132, false⟩ : S85) (Kd.R_mono (Kd.R_tight rfl (Kd.R_mono (ok' := fun k_ => ((fun k_ => some k_ ≠ (u8 : Value).ownBlock ∧ some k_ ≠ (u9 : Value).ownBlock ∧ some k_ ≠ (.slice Ao11 t110.length co11 : Value).ownBlock ∧ some k_ ≠ (.slice Ao37 t113.length co37 : Value).ownBlock)) k_ ∧ some k_ ≠ (u110000 : Value).ownBlock) (Kd.R_apart' (Kd.R_apart' (Kd.R_apart' (HO127.out) (Kd.R_typed HO_8.out) (by decide)) (Kd.R_typed HO_66.out) (by decide)) (Kd.S_typed HO_110000.out) (by decide)) (fun k_ hk => ⟨⟨hk.1.1.2, ⟨hk.1.1.1.1.2, ⟨hk.1.2, hk.1.1.1.2⟩⟩⟩, hk.2⟩))) (fun _ h_ => Or.inl h_)) (Kd.R_nil _ _ _ _ _) (Kd.R_mono (Kd.R_tight rfl (Kd.R_mono (ok' := fun k_ => ((fun k_ => some k_ ≠ (u8 : Value).ownBlock ∧ some k_ ≠ (u9 : Value).ownBlock ∧ some k_ ≠ (.slice Ao11 t110.length co11 : Value).ownBlock ∧ some k_ ≠ (.slice Ao37 t113.length co37 : Value).ownBlock)) k_ ∧ some k_ ≠ (u110000 : Value).ownBlock) (Kd.R_apart' (Kd.R_apart' (Kd.R_apart' (HO134.out) (Kd.R_typed HO_9.out) (by decide)) (Kd.R_typed HO_67.out) (by decide)) (Kd.S_typed HO_110000.out) (by decide)) (fun k_ hk => ⟨⟨hk.1.1.1.1.2, ⟨hk.1.1.2, ⟨hk.1.1.1.2, hk.1.2⟩⟩⟩, hk.2⟩))) (fun _ h_ => Or.inr (h_))))
                 (case aB => exact (b_ HB))
                 (case aF => exact (fun k_ hk => ⟨Kd.fresh' (Kd.R_lt (r_ HO_8)) k_ hk, Kd.fresh' (Kd.R_lt (r_ HO_9)) k_ hk, Kd.fresh' (Kd.R_lt (r_ HO_66)) k_ hk, Kd.fresh' (Kd.R_lt (r_ HO_67)) k_ hk⟩))
                 (case aO => exact (s2_ (Kd.S_mono HO_110000.out (fun k_ hk => ⟨⟨hk.1.1.1, ⟨hk.1.1.2.1, ⟨hk.1.1.2.2.1, hk.1.1.2.2.2⟩⟩⟩, fun e_ => e_.elim (fun h_ => hk.1.2 h_) (fun h_ => hk.2 h_)⟩))))
                 (case aS => exact (bz_ (b_ HB)))
                 (case aL => have := LMc26.out; omega)
                 intro v136 w43 ho hb hg hat
                 rw [← Ny135.out] at ho
                 have n9_ := mk0 ((show Kd.C Kd.string w43 A36 y121.length y121 from by rw [Ny121.out, KA36.out]; exact Kd.C_mid (lo := ((ji17) : Int).toNat) (hi := (((rd_T117 t116 x16_1).f1) : Int).toNat) (c := co37) ((Kd.R_reads' (Kd.R_over' (r_ HO_67) (Kd.S_typed (s_ HO_110000)) (by decide) hg)).2.2) KM36.out KL36.out ((Kd.R_reads' (Kd.R_over' (r_ HO_67) (Kd.S_typed (s_ HO_110000)) (by decide) hg)).2.1)))
                 have n10_ := mk0 ((show Kd.C (Kd.int .i64) w43 A38 y128.length y128 from by rw [Ny128.out, KA38.out]; exact Kd.C_mid (lo := (((rd_T117 t116 x16_1).f0) : Int).toNat) (hi := (((rd_T117 t116 x16_1).f1) : Int).toNat) (c := co11) ((Kd.R_reads' (Kd.R_over' (r_ HO_66) (Kd.S_typed (s_ HO_110000)) (by decide) hg)).2.2) KM38.out KL38.out ((Kd.R_reads' (Kd.R_over' (r_ HO_66) (Kd.S_typed (s_ HO_110000)) (by decide) hg)).2.1)))
                 replace HO_8 := mk0 (Kd.R_over' (r_ HO_8) (Kd.S_typed (s_ HO_110000)) (by decide) hg)
                 replace HO_9 := mk0 (Kd.R_over' (r_ HO_9) (Kd.S_typed (s_ HO_110000)) (by decide) hg)
                 replace HO_14 := mk0 (Kd.R_over' (r_ HO_14) (Kd.S_typed (s_ HO_110000)) (by decide) hg)
                 replace HO_66 := mk0 (Kd.R_over' (r_ HO_66) (Kd.S_typed (s_ HO_110000)) (by decide) hg)
                 replace HO_67 := mk0 (Kd.R_over' (r_ HO_67) (Kd.S_typed (s_ HO_110000)) (by decide) hg)
                 replace BK108 := mk0 (blk_grown (g := gb108) (o := .cells #[.slice none 0 0, .int .i64 0, .slice none 0 0] 25 (0, 0)) (h_ BK108) hg (Kd.S_ne HO_110000.out BK108.out (by decide)))
                 replace BK109 := mk0 (blk_grown (g := gb109) (o := .cells #[u110000, .int .i64 0, .slice none 0 0] 25 (0, 0)) (h_ BK109) hg (Kd.S_ne HO_110000.out BK109.out (by decide)))
                 replace BK120 := mk0 (blk_grown (g := gb120) (o := .cells #[.int .i64 ((rd_T117 t116 x16_1).f0), .int .i64 ((rd_T117 t116 x16_1).f1)] 117 (0, 0)) (h_ BK120) hg (Kd.S_ne HO_110000.out BK120.out (by decide)))
                 replace HB := mk0 (hb)
                 have HO137 := mk0 (ho)
                 clear HR124 HR131 HO_110000 HO127 HO134
                 have HR124 := n9_
                 have HR131 := n10_
                 clear n9_ n10_ ho hb hg hat
                 obtain ⟨Ao44, co44, eo44⟩ := Kd.S_slice HO137.out
                 (first | subst eo44 | (injection eo44 with f1_ f2_ f3_; have f4_ := f1_.symm; have f5_ := f3_.symm; clear f1_ f2_ f3_; subst f4_; subst f5_))
                 refine hK.out _ _ ⟨bk_ BK109 0, bk_ BK109 1, bk_ BK109 2, bk_ BK120 0, bk_ BK120 1⟩ (fun hHeld => ?_)
                 clear hK K
                 refine norm_ (a' := ?_) ?_ ?_
                 rotate_left
                 ·show Act.put _ (some 42) _ = _
                  simp only [z_]
                  rfl
                 refine pq_ HT_.out 23 43 (bt 26 16777215) (h := ?_)
                 refine pq_ HT_.out 24 44 (bt 26 33554431) (h := ?_)
                 refine last_ (i := 25) (N := none) (bt 26 67108863) rfl rfl (one_of HT_.out (by kernel_rfl)) (by decide) (fun K hK => ?_)
                 have hs45 : w43.cell? ⟨gb109, 0, none⟩ = some (u110000) := bk_ BK109 0
                 have hfs45 := blk_frozen BK109.out 0
                 have hns45_0 := NB108_109.out
                 have hns45_2 := NB120_109.out
                 have hms45_0 := NB109_108.out
                 have hms45_2 := NB109_120.out
                 refine skip_ (w1 := ?_) (by rfl) rfl ?_ ?_
                 rotate_left
                 ·go_simp
                  rfl
                 refine hK.out _ _ ?_
                 clear hK K
                 refine done_ (done_of HT_.out (by kernel_rfl)) ?_
                 try go_wp2
                 have m0_ : Fc (Kd.R (Kd.int .i64) 3 (w43.setCell ⟨gb109, 0, none⟩ (.slice Ao44 y135.length co44)) w.heap.size (fun k_ => some k_ ≠ (.slice Ao11 t110.length co11 : Value).ownBlock) u8 x8_1) := ⟨Kd.R_mono (Kd.R_far (p := ⟨gb109, 0, none⟩) (Kd.R_types HO_8.out BK109.out (by decide)) (fun _ hk => hk.2) (.slice Ao44 y135.length co44)) (fun _ hk => hk.1.1)⟩
                 have m1_ : Fc (Kd.R Kd.string 9 (w43.setCell ⟨gb109, 0, none⟩ (.slice Ao44 y135.length co44)) w.heap.size (fun k_ => some k_ ≠ (.slice Ao37 t113.length co37 : Value).ownBlock) u9 x9_1) := ⟨Kd.R_mono (Kd.R_far (p := ⟨gb109, 0, none⟩) (Kd.R_types HO_9.out BK109.out (by decide)) (fun _ hk => hk.2) (.slice Ao44 y135.length co44)) (fun _ hk => hk.1.1)⟩
                 have m2_ : Fc (Kd.R k117 117 (w43.setCell ⟨gb109, 0, none⟩ (.slice Ao44 y135.length co44)) w.heap.size (fun _ => True) (.slice (some ad119) t116.length co13) t116) := ⟨Kd.R_mono (Kd.R_far (p := ⟨gb109, 0, none⟩) (Kd.R_types HO_14.out BK109.out (by decide)) (fun _ hk => hk.2) (.slice Ao44 y135.length co44)) (fun _ hk => trivial)⟩
                 have m3_ : Fc (Kd.R (Kd.int .i64) 3 (w43.setCell ⟨gb109, 0, none⟩ (.slice Ao44 y135.length co44)) w.heap.size (fun k_ => some k_ ≠ (u8 : Value).ownBlock) (.slice Ao11 t110.length co11) t110) := ⟨Kd.R_mono (Kd.R_far (p := ⟨gb109, 0, none⟩) (Kd.R_types HO_66.out BK109.out (by decide)) (fun _ hk => hk.2) (.slice Ao44 y135.length co44)) (fun _ hk => hk.1.1)⟩
                 have m4_ : Fc (Kd.R Kd.string 9 (w43.setCell ⟨gb109, 0, none⟩ (.slice Ao44 y135.length co44)) w.heap.size (fun k_ => some k_ ≠ (u9 : Value).ownBlock) (.slice Ao37 t113.length co37) t113) := ⟨Kd.R_mono (Kd.R_far (p := ⟨gb109, 0, none⟩) (Kd.R_types HO_67.out BK109.out (by decide)) (fun _ hk => hk.2) (.slice Ao44 y135.length co44)) (fun _ hk => hk.1.1)⟩
                 have m5_ : Fc (Kd.S k85 85 (w43.setCell ⟨gb109, 0, none⟩ (.slice Ao44 y135.length co44)) w.heap.size (fun k_ => some k_ ≠ (u8 : Value).ownBlock ∧ some k_ ≠ (u9 : Value).ownBlock ∧ some k_ ≠ (.slice Ao11 t110.length co11 : Value).ownBlock ∧ some k_ ≠ (.slice Ao37 t113.length co37 : Value).ownBlock) (.slice Ao44 y135.length co44) y135) := ⟨Kd.S_mono (Kd.S_far (p := ⟨gb109, 0, none⟩) (Kd.S_types HO137.out BK109.out (by decide)) (fun _ hk => hk.2) (.slice Ao44 y135.length co44)) (fun _ hk => hk.1)⟩
                 have m6_ : Fc ((w43.setCell ⟨gb109, 0, none⟩ (.slice Ao44 y135.length co44)).heap[gb120]? = some (.cells #[.int .i64 ((rd_T117 t116 x16_1).f0), .int .i64 ((rd_T117 t116 x16_1).f1)] 117 (0, 0))) := ⟨fa_ (h_ BK120) NB120_109.out⟩
                 have m7_ : Fc (Below w.heap.size w (w43.setCell ⟨gb109, 0, none⟩ (.slice Ao44 y135.length co44))) := ⟨b_ HB⟩
                 have m8_ : Fc ((w43.setCell ⟨gb109, 0, none⟩ (.slice Ao44 y135.length co44)).heap[gb108]? = some (.cells #[.slice none 0 0, .int .i64 0, .slice none 0 0] 25 (0, 0))) := ⟨fa_ (h_ BK108) NB108_109.out⟩
                 have m9_ : Fc ((w43.setCell ⟨gb109, 0, none⟩ (.slice Ao44 y135.length co44)).heap[gb109]? = some (.cells #[.slice Ao44 y135.length co44, .int .i64 0, .slice none 0 0] 25 (0, 0))) := ⟨pu_ (cs := #[u110000, .int .i64 0, .slice none 0 0]) (h_ BK109)⟩
                 clear HO_8 HO_9 HO_14 HO_66 HO_67 HO137 BK120 HB BK108 BK109 HR124 HR131
                 generalize (w43.setCell ⟨gb109, 0, none⟩ (.slice Ao44 y135.length co44)) = w46 at m0_ m1_ m2_ m3_ m4_ m5_ m6_ m7_ m8_ m9_ ⊢
                 have HO_8 := mk0 (Rd_ m0_.out)
                 have HO_9 := mk0 (Rd_ m1_.out)
                 have HO_14 := mk0 (Rd_ m2_.out)
                 have HO_66 := mk0 (Rd_ m3_.out)
                 have HO_67 := mk0 (Rd_ m4_.out)
                 have HO137 := mk0 (Kd.S_drew m5_.out)
                 have BK120 := mk0 (bD_ m6_.out)
                 have HB := mk0 (b1_ m7_.out)
                 have BK108 := mk0 (bD_ m8_.out)
                 have BK109 := mk0 (bD_ m9_.out)
                 clear m0_ m1_ m2_ m3_ m4_ m5_ m6_ m7_ m8_ m9_
                 have p141 : 0 ≤ (((rd_T117 t116 x16_1).f0) : Int) := of_decide_eq_true (by first | (with_reducible assumption) | assumption)
                 have q141 : ((rd_T117 t116 x16_1).f0) < (t113.length : Int) := of_decide_eq_true (by first | (with_reducible assumption) | assumption)
                 obtain ⟨ad141, e141, hx141_0⟩ := Kd.at_string (Kd.R_reads' HO_67.out).2.2 ((rd_T117 t116 x16_1).f0) p141 q141
                 cases e141
                 have hblk : some ad141.block = (Value.slice (some ad141) t113.length co37).ownBlock := own_head (Kd.R_head HO_67.out)
                 have hlt141 := World.block_lt_of_cell? _ _ hx141_0
                 replace p141 := eq_true p141
                 replace q141 := eq_true q141
                 have HLC := mk0 hx141_0
                 clear hx141_0
                 refine start_ (n := 19) (S := fun w' => w'.cell? ⟨gb109, 0, none⟩ = some (.slice Ao44 y135.length co44) ∧ w'.cell? ⟨gb120, 0, none⟩ = some (.int .i64 ((rd_T117 t116 x16_1).f0)) ∧ w'.cell? ⟨gb120, 1, none⟩ = some (.int .i64 ((rd_T117 t116 x16_1).f1)) ∧ w'.cell? (ad141.add (((rd_T117 t116 x16_1).f0)).toNat) = some (.string (rdOf ByteArray.empty t113 ((rd_T117 t116 x16_1).f0)))) (ds := []) (bt 19 0) (by kernel_rfl) rfl rfl ⟨bk_ BK109 0, bk_ BK120 0, bk_ BK120 1, HLC.out⟩ (fun hHeld => ?_); refine with_tabW tree_level.tab7 tree_level.bits7 (fun HT_ HW_ => ?_)
                 generalize w46.drew = w47 at HO_8 HO_9 HO_14 HO_66 HO_67 HO137 BK108 BK120 HB BK109 HLC hHeld hlt141 ⊢
                 refine pq_ HT_.out 0 45 (bt 19 1) (h := ?_)
                 refine pq_ HT_.out 1 46 (bt 19 3) (h := ?_)
                 refine pq_ HT_.out 2 47 (bt 19 7) (h := ?_)
                 refine pq_ HT_.out 3 48 (bt 19 15) (h := ?_)
                 refine tq4_ HT_.out HW_.out 4 49 (bt 19 31) hHeld (h := ?_)
                 refine pq_ HT_.out 5 50 (bt 19 63) (h := ?_)
                 refine pq_ HT_.out 6 51 (bt 19 127) (h := ?_)
                 refine pq_ HT_.out 9 54 (bt 19 639) (h := ?_)
                 refine pq_ HT_.out 10 55 (bt 19 1663) (h := ?_)
                 refine pq_ HT_.out 11 56 (bt 19 3711) (h := ?_)
                 refine tq4_ HT_.out HW_.out 12 57 (bt 19 7807) hHeld (h := ?_)
                 refine pq_ HT_.out 13 58 (bt 19 15999) (h := ?_)
                 refine tq4_ HT_.out HW_.out 14 59 (bt 19 32383) hHeld (h := ?_)
                 have hT8 := Kd.R_typed HO_8.out
                 have hT9 := Kd.R_typed HO_9.out
                 refine HApps.two_apps (Kd.int .i64) Kd.string (w0 := w) (W0 := w47) (base := w.heap.size) 7 8 15 16 52 53 60 61 45 54 51 59 (v1 := u8) (v2 := u9) (xs1 := x8_1) (xs2 := x9_1) (x1 := wrap64 ((y135.length : Int) - 1)) (x2 := rdOf ByteArray.empty t113 ((rd_T117 t116 x16_1).f0)) (c1 := .int .i64 (wrap64 ((y135.length : Int) - 1))) (c2 := .string (rdOf ByteArray.empty t113 ((rd_T117 t116 x16_1).f0))) (t1 := 23) (e1 := 3) (t2 := 83) (e2 := 9) (bt 19 32511) (bt 19 65151) (bt 19 32767) (bt 19 65279) (bt 19 65535) (bt 19 131071) rfl rfl rfl rfl rfl rfl rfl rfl rfl rfl rfl rfl (two_of HT_.out (by kernel_rfl)) (two_of HT_.out (by kernel_rfl)) (one_of HT_.out (by kernel_rfl)) (one_of HT_.out (by kernel_rfl)) (one_of HT_.out (by kernel_rfl)) (one_of HT_.out (by kernel_rfl)) (by decide) rfl rfl (fun a' h W => HApps.lit_run rfl Tryd.underlying23 info3 rfl h) (fun a' h W => HApps.lit_run rfl Tryd.underlying83 info9 rfl h) rfl rfl rfl rfl ⟨show 52 < 65 by decide, show 60 < 65 by decide, by decide⟩ Tryd.underlying23 Tryd.underlying83 info3 info9 rfl rfl (by decide) (by decide) (fun _ => rfl) (fun _ => rfl) HO_8.out HO_9.out HB.out HB.out.size (by have := LMc27.out; omega) (by have := LMc29.out; omega) ?hS ?hK
                 case hS => exact fun W hM => ⟨bk_ (mk0 (hM.blk BK109.out (Kd.R_ne HO_8.out BK109.out (by decide)) (Kd.R_ne HO_9.out BK109.out (by decide)))) 0, bk_ (mk0 (hM.blk BK120.out (Kd.R_ne HO_8.out BK120.out (by decide)) (Kd.R_ne HO_9.out BK120.out (by decide)))) 0, bk_ (mk0 (hM.blk BK120.out (Kd.R_ne HO_8.out BK120.out (by decide)) (Kd.R_ne HO_9.out BK120.out (by decide)))) 1, (hM.cell hlt141 (by rw [add_block, hblk]; exact fun e => ((Kd.R_apart' HO_67.out hT8 (by decide)).1 ad141.block hblk.symm).2 (hblk.trans e)) (by rw [add_block, hblk]; exact fun e => HO_67.out.1 ad141.block hblk.symm (hblk.trans e))).trans HLC.out⟩
                 intro k1_ k2_ v139 v143 w49 hF hHeld
                 have HO140 := mk0 (hF.one (ok := fun k_ => some k_ ≠ (.slice Ao11 t110.length co11 : Value).ownBlock) HO_8.out.1 (Kd.fresh' (Kd.R_lt HO_66.out)))
                 have HO144 := mk0 (hF.two (ok := fun k_ => some k_ ≠ (.slice (some ad141) t113.length co37 : Value).ownBlock) HO_9.out.1 (Kd.fresh' (Kd.R_lt HO_67.out)))
                 have n0_ := mk0 (Kd.R_mono (ok' := fun _ => True) (hF.R (Kd.R_apart' (Kd.R_apart' HO_14.out hT8 (by decide)) hT9 (by decide)) (fun k hk => ⟨hk.1.2, hk.2⟩)) (fun _ _ => trivial))
                 have n1_ := mk0 (Kd.R_mono (ok' := fun k_ => some k_ ≠ (v139 : Value).ownBlock) (hF.R (Kd.R_apart' HO_66.out hT9 (by decide)) (fun k hk => hk)) (fun _ hk => hk.2.1))
                 have n2_ := mk0 (Kd.R_mono (ok' := fun k_ => some k_ ≠ (v143 : Value).ownBlock) (hF.R (Kd.R_apart' HO_67.out hT8 (by decide)) (fun k hk => ⟨hk.2, hk.1⟩)) (fun _ hk => hk.2.2))
                 have n3_ := mk0 (Kd.S_mono (ok' := fun k_ => some k_ ≠ (v139 : Value).ownBlock ∧ some k_ ≠ (v143 : Value).ownBlock ∧ some k_ ≠ (.slice Ao11 t110.length co11 : Value).ownBlock ∧ some k_ ≠ (.slice (some ad141) t113.length co37 : Value).ownBlock) (hF.S HO137.out (fun k hk => ⟨hk.1, hk.2.1⟩)) (fun _ hk => ⟨hk.2.1, hk.2.2, hk.1.2.2⟩))
                 have n4_ := mk0 (hF.2.2.2.blk BK109.out (Kd.R_ne HO_8.out BK109.out (by decide)) (Kd.R_ne HO_9.out BK109.out (by decide)))
                 have n5_ := mk0 hF.2.2.1
                 have n6_ := mk0 (hF.2.2.2.blk BK108.out (Kd.R_ne HO_8.out BK108.out (by decide)) (Kd.R_ne HO_9.out BK108.out (by decide)))
                 rw [← Ny138.out] at HO140
                 rw [← Ny142.out] at HO144
                 clear hF HO_8 HO_9 HO_14 HO_66 HO_67 HO137 BK108 BK109 BK120 HB HLC hblk hlt141 hT8 hT9
                 have HO_14 := n0_; have HO_66 := n1_; have HO_67 := n2_; have HO137 := n3_; have BK109 := n4_; have HB := n5_; have BK108 := n6_
                 clear n0_ n1_ n2_ n3_ n4_ n5_ n6_
                 refine norm_ (a' := ?_) ?_ ?_
                 rotate_left
                 ·simp only [z_]
                  rfl
                 refine pq_ HT_.out 17 8 (bt 19 262143) (h := ?_)
                 refine pq_ HT_.out 18 9 (bt 19 524287) (h := ?_)
                 refine done_ (done_of HT_.out (by kernel_rfl)) ?_
                 try go_wp2
                 go_roundg k1
                 case measure => have := HK1.out; omega
                 case rel => exact ⟨y138, y142, wrap64 (x16_1 + 1), y135, .slice Ao44 y135.length co44, (by first | rfl | (simp; done) | (simp [*]; done)), H', ⟨by have := HK1.out; omega⟩, HO140, HO144, HO_14, HO_66, HO_67, HO137, BK108, BK109, HB⟩
                ·rw [if_neg c29] at H
                 exact absurd H (by simp)
               ·rw [if_neg c28] at H
                exact absurd H (by simp)
              ·rw [if_neg c27] at H
               exact absurd H (by simp)
             ·rw [if_neg c26] at H
              exact absurd H (by simp)
            ·rw [if_neg c24] at H
             exact absurd H (by simp)
           ·rw [if_neg c23] at H
            exact absurd H (by simp)
          ·rw [if_neg c22] at H
           exact absurd H (by simp)
         ·rw [if_neg c20] at H
          exact absurd H (by simp)
        ·rw [if_neg c19] at H
         exact absurd H (by simp)
       ·rw [if_neg c18] at H
        exact absurd H (by simp)
      ·rw [if_neg c16] at H
       exact absurd H (by simp)
     ·rw [if_neg c15] at H
      exact absurd H (by simp)
    ·rw [if_neg c14] at H
     have c14b0 : decide (x16_1 < (t116.length : Int)) = false := decide_eq_false c14
     clear c14
     simp only [Option.some.injEq, Prod.mk.injEq] at H
     obtain ⟨rfl, rfl, rfl⟩ := H
     go_wp2
     go_ret2
     exact ⟨_, _, _, by first | rfl | (simp <;> rfl), Kd.R_mono HO_8.out (fun _ hk => trivial), Kd.R_mono HO_9.out (fun _ hk => trivial), Kd.S_mono HO_110000.out (fun _ hk => ⟨hk.1, hk.2.1⟩), h_ BK108, h_ BK109, b_ HB⟩

end Go.Proofs.YtkmkppchhdkipaaDoor.HMade
