-- PRINTED by print.py (a twelfth state) out of the translation. Not trusted: Lean checks it.
import Derived.Test.YtkmkppchhdkipaaDoorPTrx0
import Derived.Test.YtkmkppchhdkipaaDoorPTrx1
import Derived.Test.YtkmkppchhdkipaaDoorPTrx2
import Derived.Test.YtkmkppchhdkipaaDoorPTrx22
import Derived.Test.YtkmkppchhdkipaaDoorPTrx3
import Derived.Test.YtkmkppchhdkipaaDoorPTrx33
import Derived.Test.YtkmkppchhdkipaaDoorPTrx44
import Derived.Test.YtkmkppchhdkipaaDoorPTrx4
namespace Go.Proofs.YtkmkppchhdkipaaDoor.PTr
open Go.RowKit Go.Proofs.YtkmkppchhdkipaaDoorW.PrintWords Go.Proofs.YtkmkppchhdkipaaDoorW.PrintLast Go.Proofs.YtkmkppchhdkipaaDoorW.PrintMore
attribute [local go_sem] max2_int min2_int max_two min_two max_three min_three max_four min_four   -- for this text's walks alone
set_option linter.unusedVariables false
set_option linter.unusedSimpArgs false

/-! ### quorumlaw6_grown: function 46 -/
noncomputable def quorumlaw6_grown.l0 : Nat → Int → Int → Int → List (S85) → Int → List Int → Option ((List (S85)) × Int × List Int × Bool)
 | 0, _, _, _, _, _, _ => none
 | k + 1, x0, x1, x7, x250000, x250001, x250002 => if x7 < x0 then ((quorumlaw6_way_at.f x1 x7 x0).bind fun t250 => ((quorumlaw6_digits.f k (wrap64 (100 + t250))).bind fun t251 => (if 1 + t251.size ≤ 9223372036854775807 then ((tree_Add.f k x250000 x250001 x250002 ((⟨#[107]⟩ : ByteArray) ++ t251) t250).bind fun bt252 => ((quorumlaw6_num.f bt252.2.2.2).bind fun t261 => (if t261 = 0 then (quorumlaw6_grown.l0 k x0 x1 (wrap64 (x7 + 1)) bt252.1 bt252.2.1 bt252.2.2.1) else (some (x250000, x250001, x250002, false))))) else (none)))) else ((quorumref6_Tree.f x250000 x250001 x250002).bind fun bt262 => (if bt262.2.2 = true then (some (x250000, x250001, x250002, ((bt262.1.length : Int) == x0))) else (some (x250000, x250001, x250002, false))))
noncomputable def quorumlaw6_grown.f (k : Nat) (a0 : Int) (a1 : Int) : Option ((List (S85)) × Int × List Int × Bool) := (tree_New.f).bind fun bt242 => (quorumlaw6_grown.l0 k a0 a1 0 bt242.1 bt242.2.1 bt242.2.2)
theorem quorumlaw6_grown.mono_l : ∀ k, (∀ y0 y1 y2 y3 y4 y5, LeO (quorumlaw6_grown.l0 k y0 y1 y2 y3 y4 y5) (quorumlaw6_grown.l0 (k + 1) y0 y1 y2 y3 y4 y5))
 | 0 => fun _ _ _ _ _ _ r h => by simp [quorumlaw6_grown.l0] at h
 | k + 1 => by
  have ih0 := quorumlaw6_grown.mono_l k
  ·intro y0 y1 y2 y3 y4 y5
   unfold quorumlaw6_grown.l0
   repeat' first
   | (with_reducible exact ih0 _ _ _ _ _ _)
   | (with_reducible exact quorumlaw6_digits.mono _ _)
   | (with_reducible exact tree_Add.mono _ _ _ _ _ _)
   | (with_reducible exact LeO.refl _)
   | (with_reducible exact LeO.none _)
   | (with_reducible refine LeO.ite ?_ ?_)
   | (with_reducible refine LeO.bind ?_ (fun _ => ?_))
   | exact ih0 _ _ _ _ _ _
   | exact quorumlaw6_digits.mono _ _
   | exact tree_Add.mono _ _ _ _ _ _
   | exact LeO.none _
   | refine LeO.ite ?_ ?_
   | refine LeO.bind ?_ (fun _ => ?_)
theorem quorumlaw6_grown.mono : ∀ a0 a1 k, LeO (quorumlaw6_grown.f k a0 a1) (quorumlaw6_grown.f (k + 1) a0 a1) := by
 intro a0 a1 k
 have ih0 := quorumlaw6_grown.mono_l k
 unfold quorumlaw6_grown.f
 repeat' first
   | (with_reducible exact ih0 _ _ _ _ _ _)
   | (with_reducible exact quorumlaw6_digits.mono _ _)
   | (with_reducible exact tree_Add.mono _ _ _ _ _ _)
   | (with_reducible exact LeO.refl _)
   | (with_reducible exact LeO.none _)
   | (with_reducible refine LeO.ite ?_ ?_)
   | (with_reducible refine LeO.bind ?_ (fun _ => ?_))
   | exact ih0 _ _ _ _ _ _
   | exact quorumlaw6_digits.mono _ _
   | exact tree_Add.mono _ _ _ _ _ _
   | exact LeO.none _
   | refine LeO.ite ?_ ?_
   | refine LeO.bind ?_ (fun _ => ?_)
noncomputable def quorumlaw6_grown.T6 : Bool × List (List Nat × List Nat) := (true, [([], []), ([], []), ([1], [1]), ([2], [2]), ([3], [3]), ([], []), ([0, 4, 5, 3], [0, 4, 5]), ([6], [6]), ([7], [7]), ([7], [7]), ([], []), ([10, 8, 6, 0, 1, 2, 3, 4, 5, 6, 7, 8, 10], [8, 10]), ([9, 11, 0, 1, 2, 3, 4, 5, 6, 7, 8, 9, 10, 11], [9])])
noncomputable def quorumlaw6_grown.B6 : List Nat := [0, 0, 2, 6, 14, 0, 63, 127, 255, 255, 0, 1535, 4095]
theorem quorumlaw6_grown.tab6 : rtab .any (opsOf Tryd.f46 6) = quorumlaw6_grown.T6 := by kernel_rfl
theorem quorumlaw6_grown.bits6 : waitsOk quorumlaw6_grown.T6.2 quorumlaw6_grown.B6 = true := by kernel_rfl
set_option maxHeartbeats 8000000 in
set_option maxRecDepth 100000 in
theorem quorumlaw6_grown.calls (k : Nat) (a0 : Int) (a1 : Int) (r1 : List (S85)) (r2 : Int) (r3 : List Int) (r4 : Bool) (w : World) (h : quorumlaw6_grown.f k a0 a1 = some (r1, r2, r3, r4)) :
  Calls Tryd.prog 46 #[.int .i64 a0, .int .i64 a1] w fun e w' => ∃ v0_ v2_ : Value, e = .returned (.tuple #[.agg #[v0_, .int .i64 r2, v2_], .bool r4]) ∧ Kd.S k85 85 w' w.heap.size (fun k_ => some k_ ≠ (v2_ : Value).ownBlock) v0_ r1 ∧ Kd.R (Kd.int .i64) 3 w' w.heap.size (fun _ => True) v2_ r3 ∧ Below w.heap.size w w' := by
 have hu25 := Tryd.underlying25
 have HB := mk0 (Below.refl w.heap.size w)
 have H : ((tree_New.f).bind fun bt242 => (quorumlaw6_grown.l0 k a0 a1 0 bt242.1 bt242.2.1 bt242.2.2)) = some (r1, r2, r3, r4) := h
 clear h
 replace H := Option.bind_eq_some_iff.mp H
 obtain ⟨⟨t242, t245, t246⟩, A30, H⟩ := H
 try dsimp only at H
 have A3 := mk0 A30
 clear A30
 have H' := mk0 H
 clear H
 go_enter Tryd.func46, Tryd.ntmps46
 go_wp2_with (first | ((with_reducible refine gate_dst (N := 4) rfl ?_); (try (refine gate_guard (by rfl) ?_; dsimp only)); refine bx_ (N := 4) (cs := #[.slice none 0 0, .int .i64 0, .slice none 0 0]) (t := 25) (h := ?_); intro gb241 hg w4 hbox hb; have n2_ := mk0 (gz_ HB hg); have n3_ := mk0 (gz_ HB hg); replace HB := mk0 (bt_ (b_ HB) hb); have BK241 := mk0 (hbox); have GW241 := n2_; have GE241 := n3_; clear n2_ n3_; clear hb hbox hg) | ((with_reducible refine gate_callee (f := 20) rfl ?_); refine gL_ (some 14) Tryd.func20 #[] (h := ?_); (with_reducible refine (tree_New.calls  t242 t245 t246 _ A3.out).mono ?_); rintro e w5 ⟨v243, v247, rfl, ho0, ho1, hb⟩; refine ⟨_, rfl, ?_⟩; have n0_ := mk0 (Kd.S_lower ho0 (bz_ (b_ HB))); have n1_ := mk0 (Kd.R_lower ho1 (bz_ (b_ HB))); replace BK241 := mk0 (u_ BK241 hb); replace HB := mk0 (bt_ (b_ HB) hb); have HO244 := n0_; have HO248 := n1_; clear n0_ n1_; (try clear hb); (try clear ho0); (try clear ho1)) | ((with_reducible refine gate_dst (N := 6) rfl ?_); (try (refine gate_guard (by rfl) ?_; dsimp only)); refine bx_ (N := 6) (cs := #[.slice none 0 0, .int .i64 0, .slice none 0 0]) (t := 25) (h := ?_); intro gb249 hg w6 hbox hb; have n5_ := mk0 (gz_ HB hg); have n6_ := mk0 (gz_ HB hg); have n7_ := mk0 (ne1_ BK241 hg); have n8_ := mk0 (ne2_ BK241 hg); replace HO244 := mk0 (Kd.S_below (s_ HO244) hb); replace HO248 := mk0 (Kd.R_below (r_ HO248) hb); replace BK241 := mk0 (u_ BK241 hb); replace HB := mk0 (bt_ (b_ HB) hb); have BK249 := mk0 (hbox); have GW249 := n5_; have GE249 := n6_; have NB241_249 := n7_; have NB249_241 := n8_; clear n5_ n6_ n7_ n8_ hb hbox hg; obtain ⟨Ao7, co7, eo7⟩ := Kd.S_slice HO244.out; subst eo7; have hnb8 := NB249_241.out; have hnc8 := NB241_249.out; obtain ⟨hcz9_0, hcz9_1, hcz9_2, hfz9_0, hfz9_1, hfz9_2⟩ := c3_ BK249; obtain ⟨Ao10, co10, eo10⟩ := Kd.R_slice HO248.out; subst eo10))
 go_loopg [7] k (fun kq v7 w' => ∃ (x7_1 : Int) (x242001_1 : Int) (x250000_1 : List (S85)) (x250001_1 : Int) (x250002_1 : List Int) (u250000 : Value) (u250002 : Value), v7 = .int .i64 x7_1 ∧ Fc (quorumlaw6_grown.l0 kq a0 a1 x7_1 x250000_1 x250001_1 x250002_1 = some (r1, r2, r3, r4)) ∧ Fc (kq ≤ k) ∧ Fc (Kd.S k85 85 w' w.heap.size (fun k_ => some k_ ≠ (u250002 : Value).ownBlock) u250000 x250000_1) ∧ Fc (Kd.R (Kd.int .i64) 3 w' w.heap.size (fun _ => True) u250002 x250002_1) ∧ Fc (w'.heap[gb241]? = some (.cells #[(.slice none 0 0), .int .i64 x242001_1, (.slice none 0 0)] 25 (0, 0))) ∧ Fc (w'.heap[gb249]? = some (.cells #[u250000, .int .i64 x250001_1, u250002] 25 (0, 0))) ∧ Fc (Below w.heap.size w w'))
 case atStart => exact ⟨(0), (0), (t242), (t245), (t246), (.slice Ao7 t242.length co7), (.slice Ao10 t246.length co10), (by first | rfl | (simp; done) | (simp [*]; done)), H', ⟨Nat.le_refl _⟩, ⟨by (with_reducible repeat (first | apply Kd.S_alloc | apply Kd.S_drewN | apply Kd.S_drew)); exact Kd.S_mono (Kd.S_far (p := ⟨gb249, 2, none⟩) (Kd.S_far (p := ⟨gb249, 1, none⟩) (Kd.S_far (p := ⟨gb249, 0, none⟩) (Kd.S_types HO244.out BK249.out (by decide)) (fun _ hk => hk.2) (.slice Ao7 t242.length co7)) (fun _ hk => hk.2) (.int .i64 t245)) (fun _ hk => hk.2) (.slice Ao10 t246.length co10)) (fun _ hk => hk.1)⟩, ⟨by (with_reducible repeat (first | apply Ra_ | apply Rn_ | apply Rd_)); exact Kd.R_mono (Kd.R_far (p := ⟨gb249, 2, none⟩) (Kd.R_far (p := ⟨gb249, 1, none⟩) (Kd.R_far (p := ⟨gb249, 0, none⟩) (Kd.R_types HO248.out BK249.out (by decide)) (fun _ hk => hk.2) (.slice Ao7 t242.length co7)) (fun _ hk => hk.2) (.int .i64 t245)) (fun _ hk => hk.2) (.slice Ao10 t246.length co10)) (fun _ hk => trivial)⟩, ⟨(fa_ (fa_ (fa_ (h_ BK241) NB241_249.out) NB241_249.out) NB241_249.out)⟩, ⟨(pu_ (cs := #[.slice Ao7 t242.length co7, .int .i64 t245, .slice none 0 0]) (pu_ (cs := #[.slice Ao7 t242.length co7, .int .i64 0, .slice none 0 0]) (pu_ (cs := #[.slice none 0 0, .int .i64 0, .slice none 0 0]) (h_ BK249))))⟩, ⟨b_ HB⟩⟩
 case round =>
  clear H'
  try clear hcz9_0
  try clear hcz9_1
  try clear hcz9_2
  try clear hfz9_0
  try clear hfz9_1
  try clear hfz9_2
  obtain ⟨x7_1, x242001_1, x250000_1, x250001_1, x250002_1, u250000, u250002, rfl, HA, HK1, HO_250000, HO_250002, BK241, BK249, HB⟩ := hrel
  cases gk with
  | zero => exact absurd HA.out (by simp [quorumlaw6_grown.l0])
  | succ k1 =>
   have H := HA.out
   clear HA
   simp only [quorumlaw6_grown.l0] at H
   as_aux_lemma =>
    by_cases c11 : x7_1 < a0
    ·rw [if_pos c11] at H
     have c11b0 : decide (x7_1 < a0) = true := decide_eq_true c11
     clear c11
     replace H := Option.bind_eq_some_iff.mp H
     obtain ⟨t250, A120, H⟩ := H
     try dsimp only at H
     have A12 := mk0 A120
     clear A120
     replace H := Option.bind_eq_some_iff.mp H
     obtain ⟨t251, A130, H⟩ := H
     try dsimp only at H
     have A13 := mk0 A130
     clear A130
     by_cases c14 : 1 + t251.size ≤ 9223372036854775807
     ·rw [if_pos c14] at H
      have c14b0 := eq_true c14
      have c14b1 : decide (1 + t251.size ≤ 9223372036854775807) = true := decide_eq_true c14
      try have c14b2 : (9223372036854775807 < 1 + t251.size) = False := eq_false (Nat.not_lt.2 c14)
      replace H := Option.bind_eq_some_iff.mp H
      obtain ⟨⟨t252, t255, t256, t259⟩, A150, H⟩ := H
      try dsimp only at H
      have A15 := mk0 A150
      clear A150
      replace H := Option.bind_eq_some_iff.mp H
      obtain ⟨t261, A160, H⟩ := H
      try dsimp only at H
      have A16 := mk0 A160
      clear A160
      by_cases c17 : t261 = 0
      ·rw [if_pos c17] at H
       have c17b0 : (t261 == 0) = true := beq_iff_eq.mpr c17
       have c17b1 : (t261 != 0) = false := bne_eq_false_iff_eq.mpr c17
       clear c17
       have H' := mk0 H
       clear H
       try go_wp2_with (first | ((with_reducible refine gate_callee (f := 47) rfl ?_); refine gL_ (some 23) Tryd.func47 #[.int .i64 a1, .int .i64 x7_1, .int .i64 a0] (h := ?_); (with_reducible refine (quorumlaw6_way_at.calls a1 x7_1 a0 t250 _ A12.out).mono ?_); rintro e w' ⟨rfl, ⟨nd, rfl⟩⟩; refine ⟨_, rfl, ?_⟩; (try (rw [drewN_self wr]; generalize hq_ : World.drewN wr _ = wr; have n0_ : Fc (Kd.S k85 85 wr w.heap.size (fun k_ => some k_ ≠ (u250002 : Value).ownBlock) u250000 x250000_1) := ⟨by rw [← hq_]; exact (s_ HO_250000)⟩; have n1_ : Fc (Kd.R (Kd.int .i64) 3 wr w.heap.size (fun _ => True) u250002 x250002_1) := ⟨by rw [← hq_]; exact (r_ HO_250002)⟩; have n2_ : Fc (wr.heap[gb241]? = some (.cells #[.slice none 0 0, .int .i64 x242001_1, .slice none 0 0] 25 (0, 0))) := ⟨by rw [← hq_]; exact (h_ BK241)⟩; have n3_ : Fc (wr.heap[gb249]? = some (.cells #[u250000, .int .i64 x250001_1, u250002] 25 (0, 0))) := ⟨by rw [← hq_]; exact (h_ BK249)⟩; have n4_ : Fc (Below w.heap.size w wr) := ⟨by rw [← hq_]; exact (b_ HB)⟩; clear HO_250000 HO_250002 BK241 BK249 HB hq_; have HO_250000 := n0_; have HO_250002 := n1_; have BK241 := n2_; have BK249 := n3_; have HB := n4_; clear n0_ n1_ n2_ n3_ n4_)); obtain ⟨Ao18, co18, eo18⟩ := Kd.S_slice HO_250000.out; subst eo18; obtain ⟨Ao19, co19, eo19⟩ := Kd.R_slice HO_250002.out; subst eo19))
       replace HO_250000 := mk0 (Kd.S_drew HO_250000.out)
       replace HO_250002 := mk0 (Rd_ HO_250002.out)
       replace BK241 := mk0 (bD_ BK241.out)
       replace BK249 := mk0 (bD_ BK249.out)
       replace HB := mk0 (b1_ HB.out)
       refine start_ (n := 13) (S := fun w' => w'.cell? ⟨gb249, 0, none⟩ = some (.slice Ao18 x250000_1.length co18) ∧ w'.cell? ⟨gb249, 1, none⟩ = some (.int .i64 x250001_1) ∧ w'.cell? ⟨gb249, 2, none⟩ = some (.slice Ao19 x250002_1.length co19)) (ds := []) (bt 13 0) (by kernel_rfl) rfl rfl ⟨bk_ BK249 0, bk_ BK249 1, bk_ BK249 2⟩ (fun hHeld => ?_); refine with_tabW quorumlaw6_grown.tab6 quorumlaw6_grown.bits6 (fun HT_ HW_ => ?_)
       generalize wr.drew = w20 at HO_250000 HO_250002 BK241 BK249 HB hHeld ⊢
       refine pq_ HT_.out 1 26 (bt 13 2) (h := ?_)
       refine pq_ HT_.out 2 27 (bt 13 6) (h := ?_)
       refine pq_ HT_.out 5 30 (bt 13 38) (h := ?_)
       refine tq3_ HT_.out HW_.out 0 25 (bt 13 39) hHeld (h := ?_)
       refine join_ (σ := Value × Value × Nat) 2 (bt 13 2047) (fun s_ => [(28, .string t251), (31, .tuple #[.agg #[s_.1, .int .i64 t255, s_.2.1], .int .i64 t259]), (9, .pointer (some ⟨s_.2.2, 0, none⟩)), (29, .string ((⟨#[107]⟩ : ByteArray) ++ t251)), (24, .tuple #[.agg #[s_.1, .int .i64 t255, s_.2.1], .int .i64 t259]), (32, .agg #[s_.1, .int .i64 t255, s_.2.1]), (33, .int .i64 t259)]) (fun s_ w' => (w'.cell? ⟨gb249, 0, none⟩ = some (.slice Ao18 x250000_1.length co18) ∧ w'.cell? ⟨gb249, 1, none⟩ = some (.int .i64 x250001_1) ∧ w'.cell? ⟨gb249, 2, none⟩ = some (.slice Ao19 x250002_1.length co19)) ∧ (Kd.S k85 85 w' w.heap.size (fun k_ => some k_ ≠ (s_.2.1 : Value).ownBlock ∧ some k_ ≠ (.slice Ao18 x250000_1.length co18 : Value).ownBlock ∧ some k_ ≠ (.slice Ao19 x250002_1.length co19 : Value).ownBlock) s_.1 t252) ∧ (Kd.R (Kd.int .i64) 3 w' w.heap.size (fun k_ => some k_ ≠ (.slice Ao19 x250002_1.length co19 : Value).ownBlock) s_.2.1 t256) ∧ (Kd.S k85 85 w' w.heap.size (fun k_ => some k_ ≠ (s_.1 : Value).ownBlock ∧ some k_ ≠ (s_.2.1 : Value).ownBlock ∧ some k_ ≠ (.slice Ao19 x250002_1.length co19 : Value).ownBlock) (.slice Ao18 x250000_1.length co18) x250000_1) ∧ (Kd.R (Kd.int .i64) 3 w' w.heap.size (fun k_ => some k_ ≠ (s_.2.1 : Value).ownBlock) (.slice Ao19 x250002_1.length co19) x250002_1) ∧ (w'.heap[gb241]? = some (.cells #[.slice none 0 0, .int .i64 x242001_1, .slice none 0 0] 25 (0, 0))) ∧ (w'.heap[gb249]? = some (.cells #[.slice Ao18 x250000_1.length co18, .int .i64 x250001_1, .slice Ao19 x250002_1.length co19] 25 (0, 0))) ∧ (w'.heap[s_.2.2]? = some (.cells #[.slice none 0 0, .int .i64 0, .slice none 0 0] 25 (0, 0))) ∧ (w.heap.size ≤ s_.2.2) ∧ (w.heap.size ≤ s_.2.2) ∧ (gb241 ≠ s_.2.2) ∧ (s_.2.2 ≠ gb241) ∧ (gb249 ≠ s_.2.2) ∧ (s_.2.2 ≠ gb249) ∧ (Below w.heap.size w w')) ?_ ?_
       rotate_left
       ·intro hCont
        refine two_ (i := 3) (j := 10) (Ni := some 28) (Nj := some 9) (bt 13 47) (bt 13 1063) rfl rfl rfl rfl (two_of HT_.out (by kernel_rfl)) (by decide) (by decide) (fun K hK => ?_) (fun K hK => ?_)
        ·skip
         refine goes_ Tryd.func22 (by kernel_rfl) rfl #[.int .i64 (wrap64 (100 + t250))] (by rfl) rfl rfl (by (try simp only [List.map_toArray, List.map_cons, List.map_nil]); first | done | rfl | (simp only [List.length_drop, List.length_take]; rfl)) ?_
         with_reducible refine (quorumlaw6_digits.calls k1 (wrap64 (100 + t250)) t251 _ A13.out).mono ?_
         rintro e w21 ⟨rfl, hb⟩
         refine ⟨_, rfl, ?_⟩
         replace HO_250000 := mk0 (Kd.S_below (s_ HO_250000) hb)
         replace HO_250002 := mk0 (Kd.R_below (r_ HO_250002) hb)
         replace BK241 := mk0 (u_ BK241 hb)
         replace BK249 := mk0 (u_ BK249 hb)
         replace HB := mk0 (bt_ (b_ HB) hb)
         (try clear hb)
         (try clear hb2)
         (try clear hk)
         (try clear hi)
         refine hK.out _ _ ⟨bk_ BK249 0, bk_ BK249 1, bk_ BK249 2⟩ (fun hHeld => ?_)
         clear hK K
         refine norm_ (a' := ?_) ?_ ?_
         rotate_left
         ·show Act.put _ (some 28) _ = _
          simp only [z_]
          rfl
         refine pq_ HT_.out 4 29 (bt 13 63) (h := ?_)
         refine two_ (i := 6) (j := 10) (Ni := some 31) (Nj := some 9) (bt 13 127) (bt 13 1087) rfl rfl rfl rfl (two_of HT_.out (by kernel_rfl)) (by decide) (by decide) (fun K hK => ?_) (fun K hK => ?_)
         ·skip
          refine goes_ Tryd.func21 (by kernel_rfl) rfl #[.agg #[.slice Ao18 x250000_1.length co18, .int .i64 x250001_1, .slice Ao19 x250002_1.length co19], .string ((⟨#[107]⟩ : ByteArray) ++ t251), .int .i64 t250] (by rfl) rfl rfl (by (try simp only [List.map_toArray, List.map_cons, List.map_nil]); first | done | rfl | (simp only [List.length_drop, List.length_take]; rfl)) ?_
          with_reducible refine (tree_Add.calls k1 _ _ x250000_1 x250001_1 _ _ x250002_1 ((⟨#[107]⟩ : ByteArray) ++ t251) t250 t252 t255 t256 t259 _ ?side1 ?side2 ?side3 ?side4 A15.out).mono ?_
          (case side1 => repeat (first | exact (Kd.S_reads' HO_250000.out).2.2 | (with_reducible refine Kd.C_alloc ?_ _) | (with_reducible refine Kd.C_drewN ?_ _) | (with_reducible refine Kd.C_drew ?_)))
          (case side2 => exact (Kd.S_reads' HO_250000.out).2.1)
          (case side3 => exact cr_ HO_250002)
          (case side4 => exact (Kd.R_reads' HO_250002.out).2.1)
          rintro e w22 ⟨v253, v257, rfl, ho0, ho1, hb⟩
          refine ⟨_, rfl, ?_⟩
          have n2_ := mk0 (Kd.S_lower (Kd.S_new' (Kd.S_new' ho0 (Kd.S_lt (s_ HO_250000))) (Kd.R_lt (r_ HO_250002))) (bz_ (b_ HB)))
          have n3_ := mk0 (Kd.R_lower (Kd.R_new' ho1 (Kd.R_lt (r_ HO_250002))) (bz_ (b_ HB)))
          replace HO_250000 := mk0 (Kd.S_mono (Kd.S_told (Kd.S_told (Kd.S_old (s_ HO_250000) hb) (Kd.S_base ho0)) (Kd.R_base ho1)) (fun _ h_ => h_.1))
          replace HO_250002 := mk0 (Kd.R_elder' (r_ HO_250002) (Kd.R_base ho1) hb)
          replace BK241 := mk0 (u_ BK241 hb)
          replace BK249 := mk0 (u_ BK249 hb)
          replace HB := mk0 (bt_ (b_ HB) hb)
          have HO254 := n2_
          have HO258 := n3_
          clear n2_ n3_
          (try clear hb)
          (try clear hb2)
          (try clear hk)
          (try clear hi)
          (try clear ho0)
          (try clear ho1)
          refine hK.out _ _ ⟨bk_ BK249 0, bk_ BK249 1, bk_ BK249 2⟩ (fun hHeld => ?_)
          clear hK K
          refine norm_ (a' := ?_) ?_ ?_
          rotate_left
          ·show Act.put _ (some 31) _ = _
           simp only [z_]
           rfl
          refine pq_ HT_.out 7 24 (bt 13 255) (h := ?_)
          refine pq_ HT_.out 8 32 (bt 13 511) (h := ?_)
          refine pq_ HT_.out 9 33 (bt 13 1023) (h := ?_)
          refine one_ (i := 10) (N := some 9) (bt 13 2047) rfl rfl (one_of HT_.out (by kernel_rfl)) (by decide) (fun K hK => ?_)
          refine box_step ?hg (N := 9) ?hd (cs := #[.slice none 0 0, .int .i64 0, .slice none 0 0]) (t := 25) ?hr ?_; (case hd => rfl); (case hg => rfl); (case hr => first | (go_simp; done) | (go_simp; rfl))
          intro gb260 hg w23 hbox hb
          have n8_ := mk0 (gz_ HB hg)
          have n9_ := mk0 (gz_ HB hg)
          have n10_ := mk0 (ne1_ BK241 hg)
          have n11_ := mk0 (ne2_ BK241 hg)
          have n12_ := mk0 (ne1_ BK249 hg)
          have n13_ := mk0 (ne2_ BK249 hg)
          replace HO_250000 := mk0 (Kd.S_below (s_ HO_250000) hb)
          replace HO_250002 := mk0 (Kd.R_below (r_ HO_250002) hb)
          replace HO254 := mk0 (Kd.S_below (s_ HO254) hb)
          replace HO258 := mk0 (Kd.R_below (r_ HO258) hb)
          replace BK241 := mk0 (u_ BK241 hb)
          replace BK249 := mk0 (u_ BK249 hb)
          replace HB := mk0 (bt_ (b_ HB) hb)
          have BK260 := mk0 (hbox)
          have GW260 := n8_
          have GE260 := n9_
          have NB241_260 := n10_
          have NB260_241 := n11_
          have NB249_260 := n12_
          have NB260_249 := n13_
          clear n8_ n9_ n10_ n11_ n12_ n13_ hb hbox hg
          refine hK.out _ _ ⟨bk_ BK249 0, bk_ BK249 1, bk_ BK249 2⟩ (fun hHeld => ?_)
          clear hK K
          refine norm_ (a' := ?_) ?_ ?_
          rotate_left
          ·show Act.put _ (some 9) _ = _
           simp only [z_]
           rfl
          exact norm_ (by simp only [putAll, Act.put, List.setIfInBounds_toArray, List.set_cons_zero, List.set_cons_succ]) (hCont (v253, v257, gb260) _ ⟨hHeld, (s2_ (Kd.S_mono HO254.out (fun _ hk => ⟨hk.1.1, ⟨hk.1.2, hk.2⟩⟩))), (r2_ (Kd.R_mono HO258.out (fun _ hk => hk.2))), (s2_ (Kd.S_mono HO_250000.out (fun _ hk => ⟨hk.1.2, ⟨hk.2, hk.1.1⟩⟩))), (r2_ (Kd.R_mono HO_250002.out (fun _ hk => hk.2))), (h_ BK241), (h_ BK249), (h_ BK260), GW260.out, GE260.out, NB241_260.out, NB260_241.out, NB249_260.out, NB260_249.out, (b_ HB)⟩)
         ·skip
          refine box_step ?hg (N := 9) ?hd (cs := #[.slice none 0 0, .int .i64 0, .slice none 0 0]) (t := 25) ?hr ?_; (case hd => rfl); (case hg => rfl); (case hr => first | (go_simp; done) | (go_simp; rfl))
          intro gb260 hg w22 hbox hb
          have n6_ := mk0 (gz_ HB hg)
          have n7_ := mk0 (gz_ HB hg)
          have n8_ := mk0 (ne1_ BK241 hg)
          have n9_ := mk0 (ne2_ BK241 hg)
          have n10_ := mk0 (ne1_ BK249 hg)
          have n11_ := mk0 (ne2_ BK249 hg)
          replace HO_250000 := mk0 (Kd.S_below (s_ HO_250000) hb)
          replace HO_250002 := mk0 (Kd.R_below (r_ HO_250002) hb)
          replace BK241 := mk0 (u_ BK241 hb)
          replace BK249 := mk0 (u_ BK249 hb)
          replace HB := mk0 (bt_ (b_ HB) hb)
          have BK260 := mk0 (hbox)
          have GW260 := n6_
          have GE260 := n7_
          have NB241_260 := n8_
          have NB260_241 := n9_
          have NB249_260 := n10_
          have NB260_249 := n11_
          clear n6_ n7_ n8_ n9_ n10_ n11_ hb hbox hg
          refine hK.out _ _ ⟨bk_ BK249 0, bk_ BK249 1, bk_ BK249 2⟩ (fun hHeld => ?_)
          clear hK K
          refine norm_ (a' := ?_) ?_ ?_
          rotate_left
          ·show Act.put _ (some 9) _ = _
           simp only [z_]
           rfl
          refine one_ (i := 6) (N := some 31) (bt 13 1151) rfl rfl (one_of HT_.out (by kernel_rfl)) (by decide) (fun K hK => ?_)
          refine goes_ Tryd.func21 (by kernel_rfl) rfl #[.agg #[.slice Ao18 x250000_1.length co18, .int .i64 x250001_1, .slice Ao19 x250002_1.length co19], .string ((⟨#[107]⟩ : ByteArray) ++ t251), .int .i64 t250] (by rfl) rfl rfl (by (try simp only [List.map_toArray, List.map_cons, List.map_nil]); first | done | rfl | (simp only [List.length_drop, List.length_take]; rfl)) ?_
          with_reducible refine (tree_Add.calls k1 _ _ x250000_1 x250001_1 _ _ x250002_1 ((⟨#[107]⟩ : ByteArray) ++ t251) t250 t252 t255 t256 t259 _ ?side1 ?side2 ?side3 ?side4 A15.out).mono ?_
          (case side1 => repeat (first | exact (Kd.S_reads' HO_250000.out).2.2 | (with_reducible refine Kd.C_alloc ?_ _) | (with_reducible refine Kd.C_drewN ?_ _) | (with_reducible refine Kd.C_drew ?_)))
          (case side2 => exact (Kd.S_reads' HO_250000.out).2.1)
          (case side3 => exact cr_ HO_250002)
          (case side4 => exact (Kd.R_reads' HO_250002.out).2.1)
          rintro e w23 ⟨v253, v257, rfl, ho0, ho1, hb⟩
          refine ⟨_, rfl, ?_⟩
          have n2_ := mk0 (Kd.S_lower (Kd.S_new' (Kd.S_new' ho0 (Kd.S_lt (s_ HO_250000))) (Kd.R_lt (r_ HO_250002))) (bz_ (b_ HB)))
          have n3_ := mk0 (Kd.R_lower (Kd.R_new' ho1 (Kd.R_lt (r_ HO_250002))) (bz_ (b_ HB)))
          replace HO_250000 := mk0 (Kd.S_mono (Kd.S_told (Kd.S_told (Kd.S_old (s_ HO_250000) hb) (Kd.S_base ho0)) (Kd.R_base ho1)) (fun _ h_ => h_.1))
          replace HO_250002 := mk0 (Kd.R_elder' (r_ HO_250002) (Kd.R_base ho1) hb)
          replace BK241 := mk0 (u_ BK241 hb)
          replace BK249 := mk0 (u_ BK249 hb)
          replace BK260 := mk0 (u_ BK260 hb)
          replace HB := mk0 (bt_ (b_ HB) hb)
          have HO254 := n2_
          have HO258 := n3_
          clear n2_ n3_
          (try clear hb)
          (try clear hb2)
          (try clear hk)
          (try clear hi)
          (try clear ho0)
          (try clear ho1)
          refine hK.out _ _ ⟨bk_ BK249 0, bk_ BK249 1, bk_ BK249 2⟩ (fun hHeld => ?_)
          clear hK K
          refine norm_ (a' := ?_) ?_ ?_
          rotate_left
          ·show Act.put _ (some 31) _ = _
           simp only [z_]
           rfl
          refine pq_ HT_.out 7 24 (bt 13 1279) (h := ?_)
          refine pq_ HT_.out 8 32 (bt 13 1535) (h := ?_)
          refine pq_ HT_.out 9 33 (bt 13 2047) (h := ?_)
          exact norm_ (by simp only [putAll, Act.put, List.setIfInBounds_toArray, List.set_cons_zero, List.set_cons_succ]) (hCont (v253, v257, gb260) _ ⟨hHeld, (s2_ (Kd.S_mono HO254.out (fun _ hk => ⟨hk.1.1, ⟨hk.1.2, hk.2⟩⟩))), (r2_ (Kd.R_mono HO258.out (fun _ hk => hk.2))), (s2_ (Kd.S_mono HO_250000.out (fun _ hk => ⟨hk.1.2, ⟨hk.2, hk.1.1⟩⟩))), (r2_ (Kd.R_mono HO_250002.out (fun _ hk => hk.2))), (h_ BK241), (h_ BK249), (h_ BK260), GW260.out, GE260.out, NB241_260.out, NB260_241.out, NB249_260.out, NB260_249.out, (b_ HB)⟩)
        ·skip
         refine box_step ?hg (N := 9) ?hd (cs := #[.slice none 0 0, .int .i64 0, .slice none 0 0]) (t := 25) ?hr ?_; (case hd => rfl); (case hg => rfl); (case hr => first | (go_simp; done) | (go_simp; rfl))
         intro gb260 hg w21 hbox hb
         have n6_ := mk0 (gz_ HB hg)
         have n7_ := mk0 (gz_ HB hg)
         have n8_ := mk0 (ne1_ BK241 hg)
         have n9_ := mk0 (ne2_ BK241 hg)
         have n10_ := mk0 (ne1_ BK249 hg)
         have n11_ := mk0 (ne2_ BK249 hg)
         replace HO_250000 := mk0 (Kd.S_below (s_ HO_250000) hb)
         replace HO_250002 := mk0 (Kd.R_below (r_ HO_250002) hb)
         replace BK241 := mk0 (u_ BK241 hb)
         replace BK249 := mk0 (u_ BK249 hb)
         replace HB := mk0 (bt_ (b_ HB) hb)
         have BK260 := mk0 (hbox)
         have GW260 := n6_
         have GE260 := n7_
         have NB241_260 := n8_
         have NB260_241 := n9_
         have NB249_260 := n10_
         have NB260_249 := n11_
         clear n6_ n7_ n8_ n9_ n10_ n11_ hb hbox hg
         refine hK.out _ _ ⟨bk_ BK249 0, bk_ BK249 1, bk_ BK249 2⟩ (fun hHeld => ?_)
         clear hK K
         refine norm_ (a' := ?_) ?_ ?_
         rotate_left
         ·show Act.put _ (some 9) _ = _
          simp only [z_]
          rfl
         refine one_ (i := 3) (N := some 28) (bt 13 1071) rfl rfl (one_of HT_.out (by kernel_rfl)) (by decide) (fun K hK => ?_)
         refine goes_ Tryd.func22 (by kernel_rfl) rfl #[.int .i64 (wrap64 (100 + t250))] (by rfl) rfl rfl (by (try simp only [List.map_toArray, List.map_cons, List.map_nil]); first | done | rfl | (simp only [List.length_drop, List.length_take]; rfl)) ?_
         with_reducible refine (quorumlaw6_digits.calls k1 (wrap64 (100 + t250)) t251 _ A13.out).mono ?_
         rintro e w22 ⟨rfl, hb⟩
         refine ⟨_, rfl, ?_⟩
         replace HO_250000 := mk0 (Kd.S_below (s_ HO_250000) hb)
         replace HO_250002 := mk0 (Kd.R_below (r_ HO_250002) hb)
         replace BK241 := mk0 (u_ BK241 hb)
         replace BK249 := mk0 (u_ BK249 hb)
         replace BK260 := mk0 (u_ BK260 hb)
         replace HB := mk0 (bt_ (b_ HB) hb)
         (try clear hb)
         (try clear hb2)
         (try clear hk)
         (try clear hi)
         refine hK.out _ _ ⟨bk_ BK249 0, bk_ BK249 1, bk_ BK249 2⟩ (fun hHeld => ?_)
         clear hK K
         refine norm_ (a' := ?_) ?_ ?_
         rotate_left
         ·show Act.put _ (some 28) _ = _
          simp only [z_]
          rfl
         refine pq_ HT_.out 4 29 (bt 13 1087) (h := ?_)
         refine one_ (i := 6) (N := some 31) (bt 13 1151) rfl rfl (one_of HT_.out (by kernel_rfl)) (by decide) (fun K hK => ?_)
         refine goes_ Tryd.func21 (by kernel_rfl) rfl #[.agg #[.slice Ao18 x250000_1.length co18, .int .i64 x250001_1, .slice Ao19 x250002_1.length co19], .string ((⟨#[107]⟩ : ByteArray) ++ t251), .int .i64 t250] (by rfl) rfl rfl (by (try simp only [List.map_toArray, List.map_cons, List.map_nil]); first | done | rfl | (simp only [List.length_drop, List.length_take]; rfl)) ?_
         with_reducible refine (tree_Add.calls k1 _ _ x250000_1 x250001_1 _ _ x250002_1 ((⟨#[107]⟩ : ByteArray) ++ t251) t250 t252 t255 t256 t259 _ ?side1 ?side2 ?side3 ?side4 A15.out).mono ?_
         (case side1 => repeat (first | exact (Kd.S_reads' HO_250000.out).2.2 | (with_reducible refine Kd.C_alloc ?_ _) | (with_reducible refine Kd.C_drewN ?_ _) | (with_reducible refine Kd.C_drew ?_)))
         (case side2 => exact (Kd.S_reads' HO_250000.out).2.1)
         (case side3 => exact cr_ HO_250002)
         (case side4 => exact (Kd.R_reads' HO_250002.out).2.1)
         rintro e w23 ⟨v253, v257, rfl, ho0, ho1, hb⟩
         refine ⟨_, rfl, ?_⟩
         have n2_ := mk0 (Kd.S_lower (Kd.S_new' (Kd.S_new' ho0 (Kd.S_lt (s_ HO_250000))) (Kd.R_lt (r_ HO_250002))) (bz_ (b_ HB)))
         have n3_ := mk0 (Kd.R_lower (Kd.R_new' ho1 (Kd.R_lt (r_ HO_250002))) (bz_ (b_ HB)))
         replace HO_250000 := mk0 (Kd.S_mono (Kd.S_told (Kd.S_told (Kd.S_old (s_ HO_250000) hb) (Kd.S_base ho0)) (Kd.R_base ho1)) (fun _ h_ => h_.1))
         replace HO_250002 := mk0 (Kd.R_elder' (r_ HO_250002) (Kd.R_base ho1) hb)
         replace BK241 := mk0 (u_ BK241 hb)
         replace BK249 := mk0 (u_ BK249 hb)
         replace BK260 := mk0 (u_ BK260 hb)
         replace HB := mk0 (bt_ (b_ HB) hb)
         have HO254 := n2_
         have HO258 := n3_
         clear n2_ n3_
         (try clear hb)
         (try clear hb2)
         (try clear hk)
         (try clear hi)
         (try clear ho0)
         (try clear ho1)
         refine hK.out _ _ ⟨bk_ BK249 0, bk_ BK249 1, bk_ BK249 2⟩ (fun hHeld => ?_)
         clear hK K
         refine norm_ (a' := ?_) ?_ ?_
         rotate_left
         ·show Act.put _ (some 31) _ = _
          simp only [z_]
          rfl
         refine pq_ HT_.out 7 24 (bt 13 1279) (h := ?_)
         refine pq_ HT_.out 8 32 (bt 13 1535) (h := ?_)
         refine pq_ HT_.out 9 33 (bt 13 2047) (h := ?_)
         exact norm_ (by simp only [putAll, Act.put, List.setIfInBounds_toArray, List.set_cons_zero, List.set_cons_succ]) (hCont (v253, v257, gb260) _ ⟨hHeld, (s2_ (Kd.S_mono HO254.out (fun _ hk => ⟨hk.1.1, ⟨hk.1.2, hk.2⟩⟩))), (r2_ (Kd.R_mono HO258.out (fun _ hk => hk.2))), (s2_ (Kd.S_mono HO_250000.out (fun _ hk => ⟨hk.1.2, ⟨hk.2, hk.1.1⟩⟩))), (r2_ (Kd.R_mono HO_250002.out (fun _ hk => hk.2))), (h_ BK241), (h_ BK249), (h_ BK260), GW260.out, GE260.out, NB241_260.out, NB260_241.out, NB249_260.out, NB260_249.out, (b_ HB)⟩)
       rintro ⟨v253, v257, gb260⟩ w24 ⟨hS_, h0_, h1_, h2_, h3_, h4_, h5_, h6_, h7_, h8_, h9_, h10_, h11_, h12_, h13_⟩
       have n0_ : Fc (Kd.S k85 85 w24 w.heap.size (fun k_ => some k_ ≠ (v257 : Value).ownBlock ∧ some k_ ≠ (.slice Ao18 x250000_1.length co18 : Value).ownBlock ∧ some k_ ≠ (.slice Ao19 x250002_1.length co19 : Value).ownBlock) v253 t252) := ⟨h0_⟩
       have n1_ : Fc (Kd.R (Kd.int .i64) 3 w24 w.heap.size (fun k_ => some k_ ≠ (.slice Ao19 x250002_1.length co19 : Value).ownBlock) v257 t256) := ⟨h1_⟩
       have n2_ : Fc (Kd.S k85 85 w24 w.heap.size (fun k_ => some k_ ≠ (v253 : Value).ownBlock ∧ some k_ ≠ (v257 : Value).ownBlock ∧ some k_ ≠ (.slice Ao19 x250002_1.length co19 : Value).ownBlock) (.slice Ao18 x250000_1.length co18) x250000_1) := ⟨h2_⟩
       have n3_ : Fc (Kd.R (Kd.int .i64) 3 w24 w.heap.size (fun k_ => some k_ ≠ (v257 : Value).ownBlock) (.slice Ao19 x250002_1.length co19) x250002_1) := ⟨h3_⟩
       have n4_ : Fc (w24.heap[gb241]? = some (.cells #[.slice none 0 0, .int .i64 x242001_1, .slice none 0 0] 25 (0, 0))) := ⟨h4_⟩
       have n5_ : Fc (w24.heap[gb249]? = some (.cells #[.slice Ao18 x250000_1.length co18, .int .i64 x250001_1, .slice Ao19 x250002_1.length co19] 25 (0, 0))) := ⟨h5_⟩
       have n6_ : Fc (w24.heap[gb260]? = some (.cells #[.slice none 0 0, .int .i64 0, .slice none 0 0] 25 (0, 0))) := ⟨h6_⟩
       have n7_ : Fc (w.heap.size ≤ gb260) := ⟨h7_⟩
       have n8_ : Fc (w.heap.size ≤ gb260) := ⟨h8_⟩
       have n9_ : Fc (gb241 ≠ gb260) := ⟨h9_⟩
       have n10_ : Fc (gb260 ≠ gb241) := ⟨h10_⟩
       have n11_ : Fc (gb249 ≠ gb260) := ⟨h11_⟩
       have n12_ : Fc (gb260 ≠ gb249) := ⟨h12_⟩
       have n13_ : Fc (Below w.heap.size w w24) := ⟨h13_⟩
       clear HO_250000 HO_250002 BK241 BK249 HB h0_ h1_ h2_ h3_ h4_ h5_ h6_ h7_ h8_ h9_ h10_ h11_ h12_ h13_
       have HO254 := n0_
       have HO258 := n1_
       have HO_250000 := n2_
       have HO_250002 := n3_
       have BK241 := n4_
       have BK249 := n5_
       have BK260 := n6_
       have GW260 := n7_
       have GE260 := n8_
       have NB241_260 := n9_
       have NB260_241 := n10_
       have NB249_260 := n11_
       have NB260_249 := n12_
       have HB := n13_
       clear n0_ n1_ n2_ n3_ n4_ n5_ n6_ n7_ n8_ n9_ n10_ n11_ n12_ n13_
       have hHeld : w24.cell? ⟨gb249, 0, none⟩ = some (.slice Ao18 x250000_1.length co18) ∧ w24.cell? ⟨gb249, 1, none⟩ = some (.int .i64 x250001_1) ∧ w24.cell? ⟨gb249, 2, none⟩ = some (.slice Ao19 x250002_1.length co19) := hS_
       obtain ⟨Ao25, co25, eo25⟩ := Kd.S_slice HO254.out
       (first | subst eo25 | (injection eo25 with f1_ f2_ f3_; have f4_ := f1_.symm; have f5_ := f3_.symm; clear f1_ f2_ f3_; subst f4_; subst f5_))
       obtain ⟨Ao28, co28, eo28⟩ := Kd.R_slice HO258.out
       (first | subst eo28 | (injection eo28 with f1_ f2_ f3_; have f4_ := f1_.symm; have f5_ := f3_.symm; clear f1_ f2_ f3_; subst f4_; subst f5_))
       refine norm_ (a' := ?_) ?_ ?_
       rotate_left
       ·simp only [putAll, Act.put, List.setIfInBounds_toArray, List.set_cons_zero, List.set_cons_succ]
        rfl
       refine one_ (i := 11) (N := none) (bt 13 4095) rfl rfl (one_of HT_.out (by kernel_rfl)) (by decide) (fun K hK => ?_)
       have hs26 : w24.cell? ⟨gb260, 0, none⟩ = some (.slice none 0 0) := bk_ BK260 0
       have hfs26 := blk_frozen BK260.out 0
       have hns26_0 := NB241_260.out
       have hns26_1 := NB249_260.out
       have hms26_0 := NB260_241.out
       have hms26_1 := NB260_249.out
       have hs27 : w24.cell? ⟨gb260, 1, none⟩ = some (.int .i64 0) := bk_ BK260 1
       have hfs27 := blk_frozen BK260.out 1
       have hns27_0 := NB241_260.out
       have hns27_1 := NB249_260.out
       have hms27_0 := NB260_241.out
       have hms27_1 := NB260_249.out
       have hs29 : w24.cell? ⟨gb260, 2, none⟩ = some (.slice none 0 0) := bk_ BK260 2
       have hfs29 := blk_frozen BK260.out 2
       have hns29_0 := NB241_260.out
       have hns29_1 := NB249_260.out
       have hms29_0 := NB260_241.out
       have hms29_1 := NB260_249.out
       refine skip_ (w1 := ?_) (by rfl) rfl ?_ ?_
       rotate_left
       ·go_simp
        rfl
       refine hK.out _ _ ⟨(cf_ NB249_260.out ((cf_ NB249_260.out (cf_ NB249_260.out hHeld.1)))), (cf_ NB249_260.out ((cf_ NB249_260.out (cf_ NB249_260.out hHeld.2.1)))), (cf_ NB249_260.out ((cf_ NB249_260.out (cf_ NB249_260.out hHeld.2.2))))⟩ (fun hHeld => ?_)
       clear hK K
       refine pq_ HT_.out 12 10 (bt 13 8191) (h := ?_)
       refine done_ (done_of HT_.out (by kernel_rfl)) ?_
       try go_wp2_with (first | ((with_reducible refine gate_callee (f := 23) rfl ?_); refine gL_ (some 35) Tryd.func23 #[.int .i64 t259] (h := ?_); (with_reducible refine (quorumlaw6_num.calls t259 t261 _ A16.out).mono ?_); rintro e w' ⟨rfl, ⟨nd, rfl⟩⟩; refine ⟨_, rfl, ?_⟩; have hnb30 := NB260_241.out; have hnc30 := NB241_260.out; have hnb31 := NB260_249.out; have hnc31 := NB249_260.out; obtain ⟨hcz32_0, hcz32_1, hcz32_2, hfz32_0, hfz32_1, hfz32_2⟩ := c3_ BK260; have hnb33 := NB249_241.out; have hnc33 := NB241_249.out; obtain ⟨hcz34_0, hcz34_1, hcz34_2, hfz34_0, hfz34_1, hfz34_2⟩ := c3_ BK249))
       go_roundg k1
       case measure => have := HK1.out; omega
       case rel => exact ⟨(wrap64 (x7_1 + 1)), (x242001_1), (t252), (t255), (t256), (.slice Ao25 t252.length co25), (.slice Ao28 t256.length co28), (by first | rfl | (simp; done) | (simp [*]; done)), H', ⟨by have := HK1.out; omega⟩, ⟨by (with_reducible repeat (first | apply Kd.S_alloc | apply Kd.S_drewN | apply Kd.S_drew)); exact Kd.S_mono (Kd.S_far (p := ⟨gb249, 2, none⟩) (Kd.S_far (p := ⟨gb249, 1, none⟩) (Kd.S_far (p := ⟨gb249, 0, none⟩) (Kd.S_far (p := ⟨gb260, 2, none⟩) (Kd.S_far (p := ⟨gb260, 1, none⟩) (Kd.S_far (p := ⟨gb260, 0, none⟩) (Kd.S_types (Kd.S_types HO254.out BK260.out (by decide)) BK249.out (by decide)) (fun _ hk => hk.1.2) (.slice Ao25 t252.length co25)) (fun _ hk => hk.1.2) (.int .i64 t255)) (fun _ hk => hk.1.2) (.slice Ao28 t256.length co28)) (fun _ hk => hk.2) (.slice Ao25 t252.length co25)) (fun _ hk => hk.2) (.int .i64 t255)) (fun _ hk => hk.2) (.slice Ao28 t256.length co28)) (fun _ hk => hk.1.1.1)⟩, ⟨by (with_reducible repeat (first | apply Ra_ | apply Rn_ | apply Rd_)); exact Kd.R_mono (Kd.R_far (p := ⟨gb249, 2, none⟩) (Kd.R_far (p := ⟨gb249, 1, none⟩) (Kd.R_far (p := ⟨gb249, 0, none⟩) (Kd.R_far (p := ⟨gb260, 2, none⟩) (Kd.R_far (p := ⟨gb260, 1, none⟩) (Kd.R_far (p := ⟨gb260, 0, none⟩) (Kd.R_types (Kd.R_types HO258.out BK260.out (by decide)) BK249.out (by decide)) (fun _ hk => hk.1.2) (.slice Ao25 t252.length co25)) (fun _ hk => hk.1.2) (.int .i64 t255)) (fun _ hk => hk.1.2) (.slice Ao28 t256.length co28)) (fun _ hk => hk.2) (.slice Ao25 t252.length co25)) (fun _ hk => hk.2) (.int .i64 t255)) (fun _ hk => hk.2) (.slice Ao28 t256.length co28)) (fun _ hk => trivial)⟩, ⟨(fa_ (fa_ (fa_ (fa_ (fa_ (fa_ (h_ BK241) NB241_260.out) NB241_260.out) NB241_260.out) NB241_249.out) NB241_249.out) NB241_249.out)⟩, ⟨(pu_ (cs := #[.slice Ao25 t252.length co25, .int .i64 t255, .slice Ao19 x250002_1.length co19]) (pu_ (cs := #[.slice Ao25 t252.length co25, .int .i64 x250001_1, .slice Ao19 x250002_1.length co19]) (pu_ (cs := #[.slice Ao18 x250000_1.length co18, .int .i64 x250001_1, .slice Ao19 x250002_1.length co19]) (fa_ (fa_ (fa_ (h_ BK249) NB249_260.out) NB249_260.out) NB249_260.out))))⟩, ⟨b_ HB⟩⟩
      ·rw [if_neg c17] at H
       have c17b0 : (t261 == 0) = false := beq_eq_false_iff_ne.mpr c17
       have c17b1 : (t261 != 0) = true := bne_iff_ne.mpr c17
       simp only [Option.some.injEq, Prod.mk.injEq] at H
       obtain ⟨rfl, rfl, rfl, rfl⟩ := H
       try go_wp2_with (first | ((with_reducible refine gate_callee (f := 47) rfl ?_); refine gL_ (some 23) Tryd.func47 #[.int .i64 a1, .int .i64 x7_1, .int .i64 a0] (h := ?_); (with_reducible refine (quorumlaw6_way_at.calls a1 x7_1 a0 t250 _ A12.out).mono ?_); rintro e w' ⟨rfl, ⟨nd, rfl⟩⟩; refine ⟨_, rfl, ?_⟩; (try (rw [drewN_self wr]; generalize hq_ : World.drewN wr _ = wr; have n0_ : Fc (Kd.S k85 85 wr w.heap.size (fun k_ => some k_ ≠ (u250002 : Value).ownBlock) u250000 x250000_1) := ⟨by rw [← hq_]; exact (s_ HO_250000)⟩; have n1_ : Fc (Kd.R (Kd.int .i64) 3 wr w.heap.size (fun _ => True) u250002 x250002_1) := ⟨by rw [← hq_]; exact (r_ HO_250002)⟩; have n2_ : Fc (wr.heap[gb241]? = some (.cells #[.slice none 0 0, .int .i64 x242001_1, .slice none 0 0] 25 (0, 0))) := ⟨by rw [← hq_]; exact (h_ BK241)⟩; have n3_ : Fc (wr.heap[gb249]? = some (.cells #[u250000, .int .i64 x250001_1, u250002] 25 (0, 0))) := ⟨by rw [← hq_]; exact (h_ BK249)⟩; have n4_ : Fc (Below w.heap.size w wr) := ⟨by rw [← hq_]; exact (b_ HB)⟩; clear HO_250000 HO_250002 BK241 BK249 HB hq_; have HO_250000 := n0_; have HO_250002 := n1_; have BK241 := n2_; have BK249 := n3_; have HB := n4_; clear n0_ n1_ n2_ n3_ n4_)); obtain ⟨Ao35, co35, eo35⟩ := Kd.S_slice HO_250000.out; subst eo35; obtain ⟨Ao36, co36, eo36⟩ := Kd.R_slice HO_250002.out; subst eo36))
       replace HO_250000 := mk0 (Kd.S_drew HO_250000.out)
       replace HO_250002 := mk0 (Rd_ HO_250002.out)
       replace BK241 := mk0 (bD_ BK241.out)
       replace BK249 := mk0 (bD_ BK249.out)
       replace HB := mk0 (b1_ HB.out)
       refine start_ (n := 13) (S := fun w' => w'.cell? ⟨gb249, 0, none⟩ = some (.slice Ao35 x250000_1.length co35) ∧ w'.cell? ⟨gb249, 1, none⟩ = some (.int .i64 x250001_1) ∧ w'.cell? ⟨gb249, 2, none⟩ = some (.slice Ao36 x250002_1.length co36)) (ds := []) (bt 13 0) (by kernel_rfl) rfl rfl ⟨bk_ BK249 0, bk_ BK249 1, bk_ BK249 2⟩ (fun hHeld => ?_); refine with_tabW quorumlaw6_grown.tab6 quorumlaw6_grown.bits6 (fun HT_ HW_ => ?_)
       generalize wr.drew = w37 at HO_250000 HO_250002 BK241 BK249 HB hHeld ⊢
       refine pq_ HT_.out 1 26 (bt 13 2) (h := ?_)
       refine pq_ HT_.out 2 27 (bt 13 6) (h := ?_)
       refine pq_ HT_.out 5 30 (bt 13 38) (h := ?_)
       refine tq3_ HT_.out HW_.out 0 25 (bt 13 39) hHeld (h := ?_)
       refine join_ (σ := Value × Value × Nat) 2 (bt 13 2047) (fun s_ => [(28, .string t251), (31, .tuple #[.agg #[s_.1, .int .i64 t255, s_.2.1], .int .i64 t259]), (9, .pointer (some ⟨s_.2.2, 0, none⟩)), (29, .string ((⟨#[107]⟩ : ByteArray) ++ t251)), (24, .tuple #[.agg #[s_.1, .int .i64 t255, s_.2.1], .int .i64 t259]), (32, .agg #[s_.1, .int .i64 t255, s_.2.1]), (33, .int .i64 t259)]) (fun s_ w' => (w'.cell? ⟨gb249, 0, none⟩ = some (.slice Ao35 x250000_1.length co35) ∧ w'.cell? ⟨gb249, 1, none⟩ = some (.int .i64 x250001_1) ∧ w'.cell? ⟨gb249, 2, none⟩ = some (.slice Ao36 x250002_1.length co36)) ∧ (Kd.S k85 85 w' w.heap.size (fun k_ => some k_ ≠ (s_.2.1 : Value).ownBlock ∧ some k_ ≠ (.slice Ao35 x250000_1.length co35 : Value).ownBlock ∧ some k_ ≠ (.slice Ao36 x250002_1.length co36 : Value).ownBlock) s_.1 t252) ∧ (Kd.R (Kd.int .i64) 3 w' w.heap.size (fun k_ => some k_ ≠ (.slice Ao36 x250002_1.length co36 : Value).ownBlock) s_.2.1 t256) ∧ (Kd.S k85 85 w' w.heap.size (fun k_ => some k_ ≠ (s_.1 : Value).ownBlock ∧ some k_ ≠ (s_.2.1 : Value).ownBlock ∧ some k_ ≠ (.slice Ao36 x250002_1.length co36 : Value).ownBlock) (.slice Ao35 x250000_1.length co35) x250000_1) ∧ (Kd.R (Kd.int .i64) 3 w' w.heap.size (fun k_ => some k_ ≠ (s_.2.1 : Value).ownBlock) (.slice Ao36 x250002_1.length co36) x250002_1) ∧ (w'.heap[gb241]? = some (.cells #[.slice none 0 0, .int .i64 x242001_1, .slice none 0 0] 25 (0, 0))) ∧ (w'.heap[gb249]? = some (.cells #[.slice Ao35 x250000_1.length co35, .int .i64 x250001_1, .slice Ao36 x250002_1.length co36] 25 (0, 0))) ∧ (w'.heap[s_.2.2]? = some (.cells #[.slice none 0 0, .int .i64 0, .slice none 0 0] 25 (0, 0))) ∧ (w.heap.size ≤ s_.2.2) ∧ (w.heap.size ≤ s_.2.2) ∧ (gb241 ≠ s_.2.2) ∧ (s_.2.2 ≠ gb241) ∧ (gb249 ≠ s_.2.2) ∧ (s_.2.2 ≠ gb249) ∧ (Below w.heap.size w w')) ?_ ?_
       rotate_left
       ·intro hCont
        refine two_ (i := 3) (j := 10) (Ni := some 28) (Nj := some 9) (bt 13 47) (bt 13 1063) rfl rfl rfl rfl (two_of HT_.out (by kernel_rfl)) (by decide) (by decide) (fun K hK => ?_) (fun K hK => ?_)
        ·skip
         refine goes_ Tryd.func22 (by kernel_rfl) rfl #[.int .i64 (wrap64 (100 + t250))] (by rfl) rfl rfl (by (try simp only [List.map_toArray, List.map_cons, List.map_nil]); first | done | rfl | (simp only [List.length_drop, List.length_take]; rfl)) ?_
         with_reducible refine (quorumlaw6_digits.calls k1 (wrap64 (100 + t250)) t251 _ A13.out).mono ?_
         rintro e w38 ⟨rfl, hb⟩
         refine ⟨_, rfl, ?_⟩
         replace HO_250000 := mk0 (Kd.S_below (s_ HO_250000) hb)
         replace HO_250002 := mk0 (Kd.R_below (r_ HO_250002) hb)
         replace BK241 := mk0 (u_ BK241 hb)
         replace BK249 := mk0 (u_ BK249 hb)
         replace HB := mk0 (bt_ (b_ HB) hb)
         (try clear hb)
         (try clear hb2)
         (try clear hk)
         (try clear hi)
         refine hK.out _ _ ⟨bk_ BK249 0, bk_ BK249 1, bk_ BK249 2⟩ (fun hHeld => ?_)
         clear hK K
         refine norm_ (a' := ?_) ?_ ?_
         rotate_left
         ·show Act.put _ (some 28) _ = _
          simp only [z_]
          rfl
         refine pq_ HT_.out 4 29 (bt 13 63) (h := ?_)
         refine two_ (i := 6) (j := 10) (Ni := some 31) (Nj := some 9) (bt 13 127) (bt 13 1087) rfl rfl rfl rfl (two_of HT_.out (by kernel_rfl)) (by decide) (by decide) (fun K hK => ?_) (fun K hK => ?_)
         ·skip
          refine goes_ Tryd.func21 (by kernel_rfl) rfl #[.agg #[.slice Ao35 x250000_1.length co35, .int .i64 x250001_1, .slice Ao36 x250002_1.length co36], .string ((⟨#[107]⟩ : ByteArray) ++ t251), .int .i64 t250] (by rfl) rfl rfl (by (try simp only [List.map_toArray, List.map_cons, List.map_nil]); first | done | rfl | (simp only [List.length_drop, List.length_take]; rfl)) ?_
          with_reducible refine (tree_Add.calls k1 _ _ x250000_1 x250001_1 _ _ x250002_1 ((⟨#[107]⟩ : ByteArray) ++ t251) t250 t252 t255 t256 t259 _ ?side1 ?side2 ?side3 ?side4 A15.out).mono ?_
          (case side1 => repeat (first | exact (Kd.S_reads' HO_250000.out).2.2 | (with_reducible refine Kd.C_alloc ?_ _) | (with_reducible refine Kd.C_drewN ?_ _) | (with_reducible refine Kd.C_drew ?_)))
          (case side2 => exact (Kd.S_reads' HO_250000.out).2.1)
          (case side3 => exact cr_ HO_250002)
          (case side4 => exact (Kd.R_reads' HO_250002.out).2.1)
          rintro e w39 ⟨v253, v257, rfl, ho0, ho1, hb⟩
          refine ⟨_, rfl, ?_⟩
          have n2_ := mk0 (Kd.S_lower (Kd.S_new' (Kd.S_new' ho0 (Kd.S_lt (s_ HO_250000))) (Kd.R_lt (r_ HO_250002))) (bz_ (b_ HB)))
          have n3_ := mk0 (Kd.R_lower (Kd.R_new' ho1 (Kd.R_lt (r_ HO_250002))) (bz_ (b_ HB)))
          replace HO_250000 := mk0 (Kd.S_mono (Kd.S_told (Kd.S_told (Kd.S_old (s_ HO_250000) hb) (Kd.S_base ho0)) (Kd.R_base ho1)) (fun _ h_ => h_.1))
          replace HO_250002 := mk0 (Kd.R_elder' (r_ HO_250002) (Kd.R_base ho1) hb)
          replace BK241 := mk0 (u_ BK241 hb)
          replace BK249 := mk0 (u_ BK249 hb)
          replace HB := mk0 (bt_ (b_ HB) hb)
          have HO254 := n2_
          have HO258 := n3_
          clear n2_ n3_
          (try clear hb)
          (try clear hb2)
          (try clear hk)
          (try clear hi)
          (try clear ho0)
          (try clear ho1)
          refine hK.out _ _ ⟨bk_ BK249 0, bk_ BK249 1, bk_ BK249 2⟩ (fun hHeld => ?_)
          clear hK K
          refine norm_ (a' := ?_) ?_ ?_
          rotate_left
          ·show Act.put _ (some 31) _ = _
           simp only [z_]
           rfl
          refine pq_ HT_.out 7 24 (bt 13 255) (h := ?_)
          refine pq_ HT_.out 8 32 (bt 13 511) (h := ?_)
          refine pq_ HT_.out 9 33 (bt 13 1023) (h := ?_)
          refine one_ (i := 10) (N := some 9) (bt 13 2047) rfl rfl (one_of HT_.out (by kernel_rfl)) (by decide) (fun K hK => ?_)
          refine box_step ?hg (N := 9) ?hd (cs := #[.slice none 0 0, .int .i64 0, .slice none 0 0]) (t := 25) ?hr ?_; (case hd => rfl); (case hg => rfl); (case hr => first | (go_simp; done) | (go_simp; rfl))
          intro gb260 hg w40 hbox hb
          have n8_ := mk0 (gz_ HB hg)
          have n9_ := mk0 (gz_ HB hg)
          have n10_ := mk0 (ne1_ BK241 hg)
          have n11_ := mk0 (ne2_ BK241 hg)
          have n12_ := mk0 (ne1_ BK249 hg)
          have n13_ := mk0 (ne2_ BK249 hg)
          replace HO_250000 := mk0 (Kd.S_below (s_ HO_250000) hb)
          replace HO_250002 := mk0 (Kd.R_below (r_ HO_250002) hb)
          replace HO254 := mk0 (Kd.S_below (s_ HO254) hb)
          replace HO258 := mk0 (Kd.R_below (r_ HO258) hb)
          replace BK241 := mk0 (u_ BK241 hb)
          replace BK249 := mk0 (u_ BK249 hb)
          replace HB := mk0 (bt_ (b_ HB) hb)
          have BK260 := mk0 (hbox)
          have GW260 := n8_
          have GE260 := n9_
          have NB241_260 := n10_
          have NB260_241 := n11_
          have NB249_260 := n12_
          have NB260_249 := n13_
          clear n8_ n9_ n10_ n11_ n12_ n13_ hb hbox hg
          refine hK.out _ _ ⟨bk_ BK249 0, bk_ BK249 1, bk_ BK249 2⟩ (fun hHeld => ?_)
          clear hK K
          refine norm_ (a' := ?_) ?_ ?_
          rotate_left
          ·show Act.put _ (some 9) _ = _
           simp only [z_]
           rfl
          exact norm_ (by simp only [putAll, Act.put, List.setIfInBounds_toArray, List.set_cons_zero, List.set_cons_succ]) (hCont (v253, v257, gb260) _ ⟨hHeld, (s2_ (Kd.S_mono HO254.out (fun _ hk => ⟨hk.1.1, ⟨hk.1.2, hk.2⟩⟩))), (r2_ (Kd.R_mono HO258.out (fun _ hk => hk.2))), (s2_ (Kd.S_mono HO_250000.out (fun _ hk => ⟨hk.1.2, ⟨hk.2, hk.1.1⟩⟩))), (r2_ (Kd.R_mono HO_250002.out (fun _ hk => hk.2))), (h_ BK241), (h_ BK249), (h_ BK260), GW260.out, GE260.out, NB241_260.out, NB260_241.out, NB249_260.out, NB260_249.out, (b_ HB)⟩)
         ·skip
          refine box_step ?hg (N := 9) ?hd (cs := #[.slice none 0 0, .int .i64 0, .slice none 0 0]) (t := 25) ?hr ?_; (case hd => rfl); (case hg => rfl); (case hr => first | (go_simp; done) | (go_simp; rfl))
          intro gb260 hg w39 hbox hb
          have n6_ := mk0 (gz_ HB hg)
          have n7_ := mk0 (gz_ HB hg)
          have n8_ := mk0 (ne1_ BK241 hg)
          have n9_ := mk0 (ne2_ BK241 hg)
          have n10_ := mk0 (ne1_ BK249 hg)
          have n11_ := mk0 (ne2_ BK249 hg)
          replace HO_250000 := mk0 (Kd.S_below (s_ HO_250000) hb)
          replace HO_250002 := mk0 (Kd.R_below (r_ HO_250002) hb)
          replace BK241 := mk0 (u_ BK241 hb)
          replace BK249 := mk0 (u_ BK249 hb)
          replace HB := mk0 (bt_ (b_ HB) hb)
          have BK260 := mk0 (hbox)
          have GW260 := n6_
          have GE260 := n7_
          have NB241_260 := n8_
          have NB260_241 := n9_
          have NB249_260 := n10_
          have NB260_249 := n11_
          clear n6_ n7_ n8_ n9_ n10_ n11_ hb hbox hg
          refine hK.out _ _ ⟨bk_ BK249 0, bk_ BK249 1, bk_ BK249 2⟩ (fun hHeld => ?_)
          clear hK K
          refine norm_ (a' := ?_) ?_ ?_
          rotate_left
          ·show Act.put _ (some 9) _ = _
           simp only [z_]
           rfl
          refine one_ (i := 6) (N := some 31) (bt 13 1151) rfl rfl (one_of HT_.out (by kernel_rfl)) (by decide) (fun K hK => ?_)
          refine goes_ Tryd.func21 (by kernel_rfl) rfl #[.agg #[.slice Ao35 x250000_1.length co35, .int .i64 x250001_1, .slice Ao36 x250002_1.length co36], .string ((⟨#[107]⟩ : ByteArray) ++ t251), .int .i64 t250] (by rfl) rfl rfl (by (try simp only [List.map_toArray, List.map_cons, List.map_nil]); first | done | rfl | (simp only [List.length_drop, List.length_take]; rfl)) ?_
          with_reducible refine (tree_Add.calls k1 _ _ x250000_1 x250001_1 _ _ x250002_1 ((⟨#[107]⟩ : ByteArray) ++ t251) t250 t252 t255 t256 t259 _ ?side1 ?side2 ?side3 ?side4 A15.out).mono ?_
          (case side1 => repeat (first | exact (Kd.S_reads' HO_250000.out).2.2 | (with_reducible refine Kd.C_alloc ?_ _) | (with_reducible refine Kd.C_drewN ?_ _) | (with_reducible refine Kd.C_drew ?_)))
          (case side2 => exact (Kd.S_reads' HO_250000.out).2.1)
          (case side3 => exact cr_ HO_250002)
          (case side4 => exact (Kd.R_reads' HO_250002.out).2.1)
          rintro e w40 ⟨v253, v257, rfl, ho0, ho1, hb⟩
          refine ⟨_, rfl, ?_⟩
          have n2_ := mk0 (Kd.S_lower (Kd.S_new' (Kd.S_new' ho0 (Kd.S_lt (s_ HO_250000))) (Kd.R_lt (r_ HO_250002))) (bz_ (b_ HB)))
          have n3_ := mk0 (Kd.R_lower (Kd.R_new' ho1 (Kd.R_lt (r_ HO_250002))) (bz_ (b_ HB)))
          replace HO_250000 := mk0 (Kd.S_mono (Kd.S_told (Kd.S_told (Kd.S_old (s_ HO_250000) hb) (Kd.S_base ho0)) (Kd.R_base ho1)) (fun _ h_ => h_.1))
          replace HO_250002 := mk0 (Kd.R_elder' (r_ HO_250002) (Kd.R_base ho1) hb)
          replace BK241 := mk0 (u_ BK241 hb)
          replace BK249 := mk0 (u_ BK249 hb)
          replace BK260 := mk0 (u_ BK260 hb)
          replace HB := mk0 (bt_ (b_ HB) hb)
          have HO254 := n2_
          have HO258 := n3_
          clear n2_ n3_
          (try clear hb)
          (try clear hb2)
          (try clear hk)
          (try clear hi)
          (try clear ho0)
          (try clear ho1)
          refine hK.out _ _ ⟨bk_ BK249 0, bk_ BK249 1, bk_ BK249 2⟩ (fun hHeld => ?_)
          clear hK K
          refine norm_ (a' := ?_) ?_ ?_
          rotate_left
          ·show Act.put _ (some 31) _ = _
           simp only [z_]
           rfl
          refine pq_ HT_.out 7 24 (bt 13 1279) (h := ?_)
          refine pq_ HT_.out 8 32 (bt 13 1535) (h := ?_)
          refine pq_ HT_.out 9 33 (bt 13 2047) (h := ?_)
          exact norm_ (by simp only [putAll, Act.put, List.setIfInBounds_toArray, List.set_cons_zero, List.set_cons_succ]) (hCont (v253, v257, gb260) _ ⟨hHeld, (s2_ (Kd.S_mono HO254.out (fun _ hk => ⟨hk.1.1, ⟨hk.1.2, hk.2⟩⟩))), (r2_ (Kd.R_mono HO258.out (fun _ hk => hk.2))), (s2_ (Kd.S_mono HO_250000.out (fun _ hk => ⟨hk.1.2, ⟨hk.2, hk.1.1⟩⟩))), (r2_ (Kd.R_mono HO_250002.out (fun _ hk => hk.2))), (h_ BK241), (h_ BK249), (h_ BK260), GW260.out, GE260.out, NB241_260.out, NB260_241.out, NB249_260.out, NB260_249.out, (b_ HB)⟩)
        ·skip
         refine box_step ?hg (N := 9) ?hd (cs := #[.slice none 0 0, .int .i64 0, .slice none 0 0]) (t := 25) ?hr ?_; (case hd => rfl); (case hg => rfl); (case hr => first | (go_simp; done) | (go_simp; rfl))
         intro gb260 hg w38 hbox hb
         have n6_ := mk0 (gz_ HB hg)
         have n7_ := mk0 (gz_ HB hg)
         have n8_ := mk0 (ne1_ BK241 hg)
         have n9_ := mk0 (ne2_ BK241 hg)
         have n10_ := mk0 (ne1_ BK249 hg)
         have n11_ := mk0 (ne2_ BK249 hg)
         replace HO_250000 := mk0 (Kd.S_below (s_ HO_250000) hb)
         replace HO_250002 := mk0 (Kd.R_below (r_ HO_250002) hb)
         replace BK241 := mk0 (u_ BK241 hb)
         replace BK249 := mk0 (u_ BK249 hb)
         replace HB := mk0 (bt_ (b_ HB) hb)
         have BK260 := mk0 (hbox)
         have GW260 := n6_
         have GE260 := n7_
         have NB241_260 := n8_
         have NB260_241 := n9_
         have NB249_260 := n10_
         have NB260_249 := n11_
         clear n6_ n7_ n8_ n9_ n10_ n11_ hb hbox hg
         refine hK.out _ _ ⟨bk_ BK249 0, bk_ BK249 1, bk_ BK249 2⟩ (fun hHeld => ?_)
         clear hK K
         refine norm_ (a' := ?_) ?_ ?_
         rotate_left
         ·show Act.put _ (some 9) _ = _
          simp only [z_]
          rfl
         refine one_ (i := 3) (N := some 28) (bt 13 1071) rfl rfl (one_of HT_.out (by kernel_rfl)) (by decide) (fun K hK => ?_)
         refine goes_ Tryd.func22 (by kernel_rfl) rfl #[.int .i64 (wrap64 (100 + t250))] (by rfl) rfl rfl (by (try simp only [List.map_toArray, List.map_cons, List.map_nil]); first | done | rfl | (simp only [List.length_drop, List.length_take]; rfl)) ?_
         with_reducible refine (quorumlaw6_digits.calls k1 (wrap64 (100 + t250)) t251 _ A13.out).mono ?_
         rintro e w39 ⟨rfl, hb⟩
         refine ⟨_, rfl, ?_⟩
         replace HO_250000 := mk0 (Kd.S_below (s_ HO_250000) hb)
         replace HO_250002 := mk0 (Kd.R_below (r_ HO_250002) hb)
         replace BK241 := mk0 (u_ BK241 hb)
         replace BK249 := mk0 (u_ BK249 hb)
         replace BK260 := mk0 (u_ BK260 hb)
         replace HB := mk0 (bt_ (b_ HB) hb)
         (try clear hb)
         (try clear hb2)
         (try clear hk)
         (try clear hi)
         refine hK.out _ _ ⟨bk_ BK249 0, bk_ BK249 1, bk_ BK249 2⟩ (fun hHeld => ?_)
         clear hK K
         refine norm_ (a' := ?_) ?_ ?_
         rotate_left
         ·show Act.put _ (some 28) _ = _
          simp only [z_]
          rfl
         refine pq_ HT_.out 4 29 (bt 13 1087) (h := ?_)
         refine one_ (i := 6) (N := some 31) (bt 13 1151) rfl rfl (one_of HT_.out (by kernel_rfl)) (by decide) (fun K hK => ?_)
         refine goes_ Tryd.func21 (by kernel_rfl) rfl #[.agg #[.slice Ao35 x250000_1.length co35, .int .i64 x250001_1, .slice Ao36 x250002_1.length co36], .string ((⟨#[107]⟩ : ByteArray) ++ t251), .int .i64 t250] (by rfl) rfl rfl (by (try simp only [List.map_toArray, List.map_cons, List.map_nil]); first | done | rfl | (simp only [List.length_drop, List.length_take]; rfl)) ?_
         with_reducible refine (tree_Add.calls k1 _ _ x250000_1 x250001_1 _ _ x250002_1 ((⟨#[107]⟩ : ByteArray) ++ t251) t250 t252 t255 t256 t259 _ ?side1 ?side2 ?side3 ?side4 A15.out).mono ?_
         (case side1 => repeat (first | exact (Kd.S_reads' HO_250000.out).2.2 | (with_reducible refine Kd.C_alloc ?_ _) | (with_reducible refine Kd.C_drewN ?_ _) | (with_reducible refine Kd.C_drew ?_)))
         (case side2 => exact (Kd.S_reads' HO_250000.out).2.1)
         (case side3 => exact cr_ HO_250002)
         (case side4 => exact (Kd.R_reads' HO_250002.out).2.1)
         rintro e w40 ⟨v253, v257, rfl, ho0, ho1, hb⟩
         refine ⟨_, rfl, ?_⟩
         have n2_ := mk0 (Kd.S_lower (Kd.S_new' (Kd.S_new' ho0 (Kd.S_lt (s_ HO_250000))) (Kd.R_lt (r_ HO_250002))) (bz_ (b_ HB)))
         have n3_ := mk0 (Kd.R_lower (Kd.R_new' ho1 (Kd.R_lt (r_ HO_250002))) (bz_ (b_ HB)))
         replace HO_250000 := mk0 (Kd.S_mono (Kd.S_told (Kd.S_told (Kd.S_old (s_ HO_250000) hb) (Kd.S_base ho0)) (Kd.R_base ho1)) (fun _ h_ => h_.1))
         replace HO_250002 := mk0 (Kd.R_elder' (r_ HO_250002) (Kd.R_base ho1) hb)
         replace BK241 := mk0 (u_ BK241 hb)
         replace BK249 := mk0 (u_ BK249 hb)
         replace BK260 := mk0 (u_ BK260 hb)
         replace HB := mk0 (bt_ (b_ HB) hb)
         have HO254 := n2_
         have HO258 := n3_
         clear n2_ n3_
         (try clear hb)
         (try clear hb2)
         (try clear hk)
         (try clear hi)
         (try clear ho0)
         (try clear ho1)
         refine hK.out _ _ ⟨bk_ BK249 0, bk_ BK249 1, bk_ BK249 2⟩ (fun hHeld => ?_)
         clear hK K
         refine norm_ (a' := ?_) ?_ ?_
         rotate_left
         ·show Act.put _ (some 31) _ = _
          simp only [z_]
          rfl
         refine pq_ HT_.out 7 24 (bt 13 1279) (h := ?_)
         refine pq_ HT_.out 8 32 (bt 13 1535) (h := ?_)
         refine pq_ HT_.out 9 33 (bt 13 2047) (h := ?_)
         exact norm_ (by simp only [putAll, Act.put, List.setIfInBounds_toArray, List.set_cons_zero, List.set_cons_succ]) (hCont (v253, v257, gb260) _ ⟨hHeld, (s2_ (Kd.S_mono HO254.out (fun _ hk => ⟨hk.1.1, ⟨hk.1.2, hk.2⟩⟩))), (r2_ (Kd.R_mono HO258.out (fun _ hk => hk.2))), (s2_ (Kd.S_mono HO_250000.out (fun _ hk => ⟨hk.1.2, ⟨hk.2, hk.1.1⟩⟩))), (r2_ (Kd.R_mono HO_250002.out (fun _ hk => hk.2))), (h_ BK241), (h_ BK249), (h_ BK260), GW260.out, GE260.out, NB241_260.out, NB260_241.out, NB249_260.out, NB260_249.out, (b_ HB)⟩)
       rintro ⟨v253, v257, gb260⟩ w41 ⟨hS_, h0_, h1_, h2_, h3_, h4_, h5_, h6_, h7_, h8_, h9_, h10_, h11_, h12_, h13_⟩
       have n0_ : Fc (Kd.S k85 85 w41 w.heap.size (fun k_ => some k_ ≠ (v257 : Value).ownBlock ∧ some k_ ≠ (.slice Ao35 x250000_1.length co35 : Value).ownBlock ∧ some k_ ≠ (.slice Ao36 x250002_1.length co36 : Value).ownBlock) v253 t252) := ⟨h0_⟩
       have n1_ : Fc (Kd.R (Kd.int .i64) 3 w41 w.heap.size (fun k_ => some k_ ≠ (.slice Ao36 x250002_1.length co36 : Value).ownBlock) v257 t256) := ⟨h1_⟩
       have n2_ : Fc (Kd.S k85 85 w41 w.heap.size (fun k_ => some k_ ≠ (v253 : Value).ownBlock ∧ some k_ ≠ (v257 : Value).ownBlock ∧ some k_ ≠ (.slice Ao36 x250002_1.length co36 : Value).ownBlock) (.slice Ao35 x250000_1.length co35) x250000_1) := ⟨h2_⟩
       have n3_ : Fc (Kd.R (Kd.int .i64) 3 w41 w.heap.size (fun k_ => some k_ ≠ (v257 : Value).ownBlock) (.slice Ao36 x250002_1.length co36) x250002_1) := ⟨h3_⟩
       have n4_ : Fc (w41.heap[gb241]? = some (.cells #[.slice none 0 0, .int .i64 x242001_1, .slice none 0 0] 25 (0, 0))) := ⟨h4_⟩
       have n5_ : Fc (w41.heap[gb249]? = some (.cells #[.slice Ao35 x250000_1.length co35, .int .i64 x250001_1, .slice Ao36 x250002_1.length co36] 25 (0, 0))) := ⟨h5_⟩
       have n6_ : Fc (w41.heap[gb260]? = some (.cells #[.slice none 0 0, .int .i64 0, .slice none 0 0] 25 (0, 0))) := ⟨h6_⟩
       have n7_ : Fc (w.heap.size ≤ gb260) := ⟨h7_⟩
       have n8_ : Fc (w.heap.size ≤ gb260) := ⟨h8_⟩
       have n9_ : Fc (gb241 ≠ gb260) := ⟨h9_⟩
       have n10_ : Fc (gb260 ≠ gb241) := ⟨h10_⟩
       have n11_ : Fc (gb249 ≠ gb260) := ⟨h11_⟩
       have n12_ : Fc (gb260 ≠ gb249) := ⟨h12_⟩
       have n13_ : Fc (Below w.heap.size w w41) := ⟨h13_⟩
       clear HO_250000 HO_250002 BK241 BK249 HB h0_ h1_ h2_ h3_ h4_ h5_ h6_ h7_ h8_ h9_ h10_ h11_ h12_ h13_
       have HO254 := n0_
       have HO258 := n1_
       have HO_250000 := n2_
       have HO_250002 := n3_
       have BK241 := n4_
       have BK249 := n5_
       have BK260 := n6_
       have GW260 := n7_
       have GE260 := n8_
       have NB241_260 := n9_
       have NB260_241 := n10_
       have NB249_260 := n11_
       have NB260_249 := n12_
       have HB := n13_
       clear n0_ n1_ n2_ n3_ n4_ n5_ n6_ n7_ n8_ n9_ n10_ n11_ n12_ n13_
       have hHeld : w41.cell? ⟨gb249, 0, none⟩ = some (.slice Ao35 x250000_1.length co35) ∧ w41.cell? ⟨gb249, 1, none⟩ = some (.int .i64 x250001_1) ∧ w41.cell? ⟨gb249, 2, none⟩ = some (.slice Ao36 x250002_1.length co36) := hS_
       obtain ⟨Ao42, co42, eo42⟩ := Kd.S_slice HO254.out
       (first | subst eo42 | (injection eo42 with f1_ f2_ f3_; have f4_ := f1_.symm; have f5_ := f3_.symm; clear f1_ f2_ f3_; subst f4_; subst f5_))
       obtain ⟨Ao45, co45, eo45⟩ := Kd.R_slice HO258.out
       (first | subst eo45 | (injection eo45 with f1_ f2_ f3_; have f4_ := f1_.symm; have f5_ := f3_.symm; clear f1_ f2_ f3_; subst f4_; subst f5_))
       refine norm_ (a' := ?_) ?_ ?_
       rotate_left
       ·simp only [putAll, Act.put, List.setIfInBounds_toArray, List.set_cons_zero, List.set_cons_succ]
        rfl
       refine one_ (i := 11) (N := none) (bt 13 4095) rfl rfl (one_of HT_.out (by kernel_rfl)) (by decide) (fun K hK => ?_)
       have hs43 : w41.cell? ⟨gb260, 0, none⟩ = some (.slice none 0 0) := bk_ BK260 0
       have hfs43 := blk_frozen BK260.out 0
       have hns43_0 := NB241_260.out
       have hns43_1 := NB249_260.out
       have hms43_0 := NB260_241.out
       have hms43_1 := NB260_249.out
       have hs44 : w41.cell? ⟨gb260, 1, none⟩ = some (.int .i64 0) := bk_ BK260 1
       have hfs44 := blk_frozen BK260.out 1
       have hns44_0 := NB241_260.out
       have hns44_1 := NB249_260.out
       have hms44_0 := NB260_241.out
       have hms44_1 := NB260_249.out
       have hs46 : w41.cell? ⟨gb260, 2, none⟩ = some (.slice none 0 0) := bk_ BK260 2
       have hfs46 := blk_frozen BK260.out 2
       have hns46_0 := NB241_260.out
       have hns46_1 := NB249_260.out
       have hms46_0 := NB260_241.out
       have hms46_1 := NB260_249.out
       refine skip_ (w1 := ?_) (by rfl) rfl ?_ ?_
       rotate_left
       ·go_simp
        rfl
       refine hK.out _ _ ⟨(cf_ NB249_260.out ((cf_ NB249_260.out (cf_ NB249_260.out hHeld.1)))), (cf_ NB249_260.out ((cf_ NB249_260.out (cf_ NB249_260.out hHeld.2.1)))), (cf_ NB249_260.out ((cf_ NB249_260.out (cf_ NB249_260.out hHeld.2.2))))⟩ (fun hHeld => ?_)
       clear hK K
       refine pq_ HT_.out 12 10 (bt 13 8191) (h := ?_)
       refine done_ (done_of HT_.out (by kernel_rfl)) ?_
       try go_wp2_with (first | ((with_reducible refine gate_callee (f := 23) rfl ?_); refine gL_ (some 35) Tryd.func23 #[.int .i64 t259] (h := ?_); (with_reducible refine (quorumlaw6_num.calls t259 t261 _ A16.out).mono ?_); rintro e w' ⟨rfl, ⟨nd, rfl⟩⟩; refine ⟨_, rfl, ?_⟩; have hnb47 := NB249_241.out; have hnc47 := NB241_249.out; have hnb48 := NB249_260.out; have hnc48 := NB260_249.out; obtain ⟨hcz49_0, hcz49_1, hcz49_2, hfz49_0, hfz49_1, hfz49_2⟩ := c3_ BK249; have hnb50 := NB241_260.out; have hnc50 := NB260_241.out; obtain ⟨hcz51_0, hcz51_1, hcz51_2, hfz51_0, hfz51_1, hfz51_2⟩ := c3_ BK241))
       refine bodyPost_ret (results_ct rfl _ _ gb241 25 #[.slice Ao35 x250000_1.length co35, .int .i64 x250001_1, .slice Ao36 x250002_1.length co36] (0, 0) _ rfl (pu_ (cs := #[.slice Ao35 x250000_1.length co35, .int .i64 x250001_1, .slice none 0 0]) (pu_ (cs := #[.slice Ao35 x250000_1.length co35, .int .i64 x242001_1, .slice none 0 0]) (pu_ (cs := #[.slice none 0 0, .int .i64 x242001_1, .slice none 0 0]) (fa_ (fa_ (fa_ (h_ BK241) NB241_260.out) NB241_260.out) NB241_260.out)))) Tryd.underlying25 rfl (by kernel_rfl)) rfl ?_
       exact ⟨_, _, by first | rfl | (simp [errW_none, errW_some] <;> rfl) | (simp [*, errW_none, errW_some] <;> rfl), by (with_reducible repeat (first | apply Kd.S_alloc | apply Kd.S_drewN | apply Kd.S_drew)); exact Kd.S_mono (Kd.S_far (p := ⟨gb241, 2, none⟩) (Kd.S_far (p := ⟨gb241, 1, none⟩) (Kd.S_far (p := ⟨gb241, 0, none⟩) (Kd.S_far (p := ⟨gb260, 2, none⟩) (Kd.S_far (p := ⟨gb260, 1, none⟩) (Kd.S_far (p := ⟨gb260, 0, none⟩) (Kd.S_types (Kd.S_types HO_250000.out BK260.out (by decide)) BK241.out (by decide)) (fun _ hk => hk.1.2) (.slice Ao42 t252.length co42)) (fun _ hk => hk.1.2) (.int .i64 t255)) (fun _ hk => hk.1.2) (.slice Ao45 t256.length co45)) (fun _ hk => hk.2) (.slice Ao35 x250000_1.length co35)) (fun _ hk => hk.2) (.int .i64 x250001_1)) (fun _ hk => hk.2) (.slice Ao36 x250002_1.length co36)) (fun _ hk => hk.1.1.2.2), by (with_reducible repeat (first | apply Ra_ | apply Rn_ | apply Rd_)); exact Kd.R_mono (Kd.R_far (p := ⟨gb241, 2, none⟩) (Kd.R_far (p := ⟨gb241, 1, none⟩) (Kd.R_far (p := ⟨gb241, 0, none⟩) (Kd.R_far (p := ⟨gb260, 2, none⟩) (Kd.R_far (p := ⟨gb260, 1, none⟩) (Kd.R_far (p := ⟨gb260, 0, none⟩) (Kd.R_types (Kd.R_types HO_250002.out BK260.out (by decide)) BK241.out (by decide)) (fun _ hk => hk.1.2) (.slice Ao42 t252.length co42)) (fun _ hk => hk.1.2) (.int .i64 t255)) (fun _ hk => hk.1.2) (.slice Ao45 t256.length co45)) (fun _ hk => hk.2) (.slice Ao35 x250000_1.length co35)) (fun _ hk => hk.2) (.int .i64 x250001_1)) (fun _ hk => hk.2) (.slice Ao36 x250002_1.length co36)) (fun _ hk => trivial), b_ HB⟩
     ·rw [if_neg c14] at H
      exact absurd H (by simp)
    ·rw [if_neg c11] at H
     have c11b0 : decide (x7_1 < a0) = false := decide_eq_false c11
     clear c11
     replace H := Option.bind_eq_some_iff.mp H
     obtain ⟨⟨t262, t265, t266⟩, A520, H⟩ := H
     try dsimp only at H
     have A52 := mk0 A520
     clear A520
     by_cases c53 : t266 = true
     ·subst c53
      rw [if_pos rfl] at H
      simp only [Option.some.injEq, Prod.mk.injEq] at H
      obtain ⟨rfl, rfl, rfl, rfl⟩ := H
      have hnb54 := NB249_241.out
      have hnc54 := NB241_249.out
      obtain ⟨hcz55_0, hcz55_1, hcz55_2, hfz55_0, hfz55_1, hfz55_2⟩ := c3_ BK249
      obtain ⟨Ao56, co56, eo56⟩ := Kd.S_slice HO_250000.out
      subst eo56
      obtain ⟨Ao57, co57, eo57⟩ := Kd.R_slice HO_250002.out
      subst eo57
      go_wp2_with (first | ((with_reducible refine gate_callee (f := 28) rfl ?_); refine gL_ (some 41) Tryd.func28 #[.agg #[.slice Ao56 x250000_1.length co56, .int .i64 x250001_1, .slice Ao57 x250002_1.length co57]] (h := ?_); (with_reducible refine (quorumref6_Tree.calls _ _ x250000_1 x250001_1 _ _ x250002_1 t262 t265 true _ ?side1 ?side2 ?side3 ?side4 A52.out).mono ?_); (case side1 => repeat (first | exact (Kd.S_reads' HO_250000.out).2.2 | (with_reducible refine Kd.C_alloc ?_ _) | (with_reducible refine Kd.C_drewN ?_ _) | (with_reducible refine Kd.C_drew ?_))); (case side2 => exact (Kd.S_reads' HO_250000.out).2.1); (case side3 => exact cr_ HO_250002); (case side4 => exact (Kd.R_reads' HO_250002.out).2.1); rintro e w58 ⟨v263, rfl, ho0, hb⟩; refine ⟨_, rfl, ?_⟩; have n2_ := mk0 (Kd.R_lower ho0 (bz_ (b_ HB))); replace HO_250000 := mk0 (Kd.S_below (s_ HO_250000) hb); replace HO_250002 := mk0 (Kd.R_below (r_ HO_250002) hb); replace BK241 := mk0 (u_ BK241 hb); replace BK249 := mk0 (u_ BK249 hb); replace HB := mk0 (bt_ (b_ HB) hb); have HO264 := n2_; clear n2_; (try clear hb); (try clear ho0); obtain ⟨hcz59_0, hcz59_1, hcz59_2, hfz59_0, hfz59_1, hfz59_2⟩ := c3_ BK249; obtain ⟨Ao60, co60, eo60⟩ := Kd.R_slice HO264.out; subst eo60; obtain ⟨hcz61_0, hcz61_1, hcz61_2, hfz61_0, hfz61_1, hfz61_2⟩ := c3_ BK241))
      refine bodyPost_ret (results_ct rfl _ _ gb241 25 #[.slice Ao56 x250000_1.length co56, .int .i64 x250001_1, .slice Ao57 x250002_1.length co57] (0, 0) _ rfl (pu_ (cs := #[.slice Ao56 x250000_1.length co56, .int .i64 x250001_1, .slice none 0 0]) (pu_ (cs := #[.slice Ao56 x250000_1.length co56, .int .i64 x242001_1, .slice none 0 0]) (pu_ (cs := #[.slice none 0 0, .int .i64 x242001_1, .slice none 0 0]) (h_ BK241)))) Tryd.underlying25 rfl (by kernel_rfl)) rfl ?_
      exact ⟨_, _, by first | rfl | (simp [errW_none, errW_some] <;> rfl) | (simp [*, errW_none, errW_some] <;> rfl), by (with_reducible repeat (first | apply Kd.S_alloc | apply Kd.S_drewN | apply Kd.S_drew)); exact Kd.S_mono (Kd.S_far (p := ⟨gb241, 2, none⟩) (Kd.S_far (p := ⟨gb241, 1, none⟩) (Kd.S_far (p := ⟨gb241, 0, none⟩) (Kd.S_types HO_250000.out BK241.out (by decide)) (fun _ hk => hk.2) (.slice Ao56 x250000_1.length co56)) (fun _ hk => hk.2) (.int .i64 x250001_1)) (fun _ hk => hk.2) (.slice Ao57 x250002_1.length co57)) (fun _ hk => hk.1), by (with_reducible repeat (first | apply Ra_ | apply Rn_ | apply Rd_)); exact Kd.R_mono (Kd.R_far (p := ⟨gb241, 2, none⟩) (Kd.R_far (p := ⟨gb241, 1, none⟩) (Kd.R_far (p := ⟨gb241, 0, none⟩) (Kd.R_types HO_250002.out BK241.out (by decide)) (fun _ hk => hk.2) (.slice Ao56 x250000_1.length co56)) (fun _ hk => hk.2) (.int .i64 x250001_1)) (fun _ hk => hk.2) (.slice Ao57 x250002_1.length co57)) (fun _ hk => trivial), b_ HB⟩
     ·replace c53 := Bool.eq_false_iff.mpr c53
      subst c53
      rw [if_neg (show ¬ (false = true) by decide)] at H
      simp only [Option.some.injEq, Prod.mk.injEq] at H
      obtain ⟨rfl, rfl, rfl, rfl⟩ := H
      have hnb62 := NB249_241.out
      have hnc62 := NB241_249.out
      obtain ⟨hcz63_0, hcz63_1, hcz63_2, hfz63_0, hfz63_1, hfz63_2⟩ := c3_ BK249
      obtain ⟨Ao64, co64, eo64⟩ := Kd.S_slice HO_250000.out
      subst eo64
      obtain ⟨Ao65, co65, eo65⟩ := Kd.R_slice HO_250002.out
      subst eo65
      go_wp2_with (first | ((with_reducible refine gate_callee (f := 28) rfl ?_); refine gL_ (some 41) Tryd.func28 #[.agg #[.slice Ao64 x250000_1.length co64, .int .i64 x250001_1, .slice Ao65 x250002_1.length co65]] (h := ?_); (with_reducible refine (quorumref6_Tree.calls _ _ x250000_1 x250001_1 _ _ x250002_1 t262 t265 false _ ?side1 ?side2 ?side3 ?side4 A52.out).mono ?_); (case side1 => repeat (first | exact (Kd.S_reads' HO_250000.out).2.2 | (with_reducible refine Kd.C_alloc ?_ _) | (with_reducible refine Kd.C_drewN ?_ _) | (with_reducible refine Kd.C_drew ?_))); (case side2 => exact (Kd.S_reads' HO_250000.out).2.1); (case side3 => exact cr_ HO_250002); (case side4 => exact (Kd.R_reads' HO_250002.out).2.1); rintro e w66 ⟨v263, rfl, ho0, hb⟩; refine ⟨_, rfl, ?_⟩; have n2_ := mk0 (Kd.R_lower ho0 (bz_ (b_ HB))); replace HO_250000 := mk0 (Kd.S_below (s_ HO_250000) hb); replace HO_250002 := mk0 (Kd.R_below (r_ HO_250002) hb); replace BK241 := mk0 (u_ BK241 hb); replace BK249 := mk0 (u_ BK249 hb); replace HB := mk0 (bt_ (b_ HB) hb); have HO264 := n2_; clear n2_; (try clear hb); (try clear ho0); obtain ⟨hcz67_0, hcz67_1, hcz67_2, hfz67_0, hfz67_1, hfz67_2⟩ := c3_ BK249; obtain ⟨hcz68_0, hcz68_1, hcz68_2, hfz68_0, hfz68_1, hfz68_2⟩ := c3_ BK241))
      refine bodyPost_ret (results_ct rfl _ _ gb241 25 #[.slice Ao64 x250000_1.length co64, .int .i64 x250001_1, .slice Ao65 x250002_1.length co65] (0, 0) _ rfl (pu_ (cs := #[.slice Ao64 x250000_1.length co64, .int .i64 x250001_1, .slice none 0 0]) (pu_ (cs := #[.slice Ao64 x250000_1.length co64, .int .i64 x242001_1, .slice none 0 0]) (pu_ (cs := #[.slice none 0 0, .int .i64 x242001_1, .slice none 0 0]) (h_ BK241)))) Tryd.underlying25 rfl (by kernel_rfl)) rfl ?_
      exact ⟨_, _, by first | rfl | (simp [errW_none, errW_some] <;> rfl) | (simp [*, errW_none, errW_some] <;> rfl), by (with_reducible repeat (first | apply Kd.S_alloc | apply Kd.S_drewN | apply Kd.S_drew)); exact Kd.S_mono (Kd.S_far (p := ⟨gb241, 2, none⟩) (Kd.S_far (p := ⟨gb241, 1, none⟩) (Kd.S_far (p := ⟨gb241, 0, none⟩) (Kd.S_types HO_250000.out BK241.out (by decide)) (fun _ hk => hk.2) (.slice Ao64 x250000_1.length co64)) (fun _ hk => hk.2) (.int .i64 x250001_1)) (fun _ hk => hk.2) (.slice Ao65 x250002_1.length co65)) (fun _ hk => hk.1), by (with_reducible repeat (first | apply Ra_ | apply Rn_ | apply Rd_)); exact Kd.R_mono (Kd.R_far (p := ⟨gb241, 2, none⟩) (Kd.R_far (p := ⟨gb241, 1, none⟩) (Kd.R_far (p := ⟨gb241, 0, none⟩) (Kd.R_types HO_250002.out BK241.out (by decide)) (fun _ hk => hk.2) (.slice Ao64 x250000_1.length co64)) (fun _ hk => hk.2) (.int .i64 x250001_1)) (fun _ hk => hk.2) (.slice Ao65 x250002_1.length co65)) (fun _ hk => trivial), b_ HB⟩

end Go.Proofs.YtkmkppchhdkipaaDoor.PTr
