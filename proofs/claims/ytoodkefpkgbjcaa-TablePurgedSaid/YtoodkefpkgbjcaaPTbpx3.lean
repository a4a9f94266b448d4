-- PRINTED by print.py (a twelfth state) out of the translation. Not trusted: Lean checks it.
import Derived.Test.YtoodkefpkgbjcaaPTbpx0
import Derived.Test.YtoodkefpkgbjcaaPTbpx2
namespace Go.Proofs.Ytoodkefpkgbjcaa.PTbp
open Go.RowKit Go.Proofs.YtoodkefpkgbjcaaW.PrintWords Go.Proofs.YtoodkefpkgbjcaaW.PrintLast Go.Proofs.YtoodkefpkgbjcaaW.PrintMore
attribute [local go_sem] max2_int min2_int max_two min_two max_three min_three max_four min_four   -- for this text's walks alone
set_option linter.unusedVariables false
set_option linter.unusedSimpArgs false

/-! ### quorumlaw9_Heavy: function 45 -/
def quorumlaw9_Heavy.l0 : Nat → Int → Int → List (S30) → List (S141) → Option (Bool)
 | 0, _, _, _, _ => none
 | k + 1, x3, x4, x109000, x109001 => if x4 < (x109001.length : Int) then (if x3 < 1048576 then (if 0 ≤ x4 then (quorumlaw9_Heavy.l0 k (wrap64 (x3 + (wrap64 (Int.tdiv (wrap64 ((wrap64 ((wrap64 ((((rd_T141 x109001 x4).f3).size : Int) + (((rd_T141 x109001 x4).f4.f1).size : Int))) + (((rd_T141 x109001 x4).f5.f0).size : Int))) + (((rd_T141 x109001 x4).f5.f1).size : Int))) 8)))) (wrap64 (x4 + 1)) x109000 x109001) else (none)) else (some (decide (x3 > 700)))) else (some (decide (x3 > 700)))
def quorumlaw9_Heavy.f (k : Nat) (l0_0 : List (S30)) (l0_1 : List (S141)) : Option (Bool) := (quorumlaw0_TableWeight.f k l0_0).bind fun t109 => (quorumlaw9_Heavy.l0 k (wrap64 (t109 + (l0_1.length : Int))) 0 l0_0 l0_1)
theorem quorumlaw9_Heavy.mono_l : ∀ k, (∀ y0 y1 y2 y3, LeO (quorumlaw9_Heavy.l0 k y0 y1 y2 y3) (quorumlaw9_Heavy.l0 (k + 1) y0 y1 y2 y3))
 | 0 => fun _ _ _ _ r h => by simp [quorumlaw9_Heavy.l0] at h
 | k + 1 => by
  have ih0 := quorumlaw9_Heavy.mono_l k
  ·intro y0 y1 y2 y3
   unfold quorumlaw9_Heavy.l0
   repeat' first
   | (with_reducible exact ih0 _ _ _ _)
   | (with_reducible exact quorumlaw0_TableWeight.mono _ _)
   | (with_reducible exact LeO.refl _)
   | (with_reducible exact LeO.none _)
   | (with_reducible refine LeO.ite ?_ ?_)
   | (with_reducible refine LeO.bind ?_ (fun _ => ?_))
   | exact ih0 _ _ _ _
   | exact quorumlaw0_TableWeight.mono _ _
   | exact LeO.none _
   | refine LeO.ite ?_ ?_
   | refine LeO.bind ?_ (fun _ => ?_)
theorem quorumlaw9_Heavy.mono : ∀ a0 a1 k, LeO (quorumlaw9_Heavy.f k a0 a1) (quorumlaw9_Heavy.f (k + 1) a0 a1) := by
 intro a0 a1 k
 have ih0 := quorumlaw9_Heavy.mono_l k
 unfold quorumlaw9_Heavy.f
 repeat' first
   | (with_reducible exact ih0 _ _ _ _)
   | (with_reducible exact quorumlaw0_TableWeight.mono _ _)
   | (with_reducible exact LeO.refl _)
   | (with_reducible exact LeO.none _)
   | (with_reducible refine LeO.ite ?_ ?_)
   | (with_reducible refine LeO.bind ?_ (fun _ => ?_))
   | exact ih0 _ _ _ _
   | exact quorumlaw0_TableWeight.mono _ _
   | exact LeO.none _
   | refine LeO.ite ?_ ?_
   | refine LeO.bind ?_ (fun _ => ?_)
def quorumlaw9_Heavy.T1 : Bool × List (List Nat × List Nat) := (true, [([], []), ([0], [0]), ([1], [1]), ([], []), ([3], [3]), ([4], [4]), ([2, 5], [2, 5]), ([6, 2, 0, 1, 2, 3, 4, 5, 6], [6])])
def quorumlaw9_Heavy.B1 : List Nat := [0, 1, 3, 0, 8, 24, 63, 127]
theorem quorumlaw9_Heavy.tab1 : rtab .any (opsOf Try.f45 1) = quorumlaw9_Heavy.T1 := by kernel_rfl
theorem quorumlaw9_Heavy.bits1 : waitsOk quorumlaw9_Heavy.T1.2 quorumlaw9_Heavy.B1 = true := by kernel_rfl
def quorumlaw9_Heavy.T5 : Bool × List (List Nat × List Nat) := (true, [([], []), ([], []), ([1], [1]), ([], []), ([2, 3], [2, 3]), ([4], [4]), ([5], [5]), ([6], [6]), ([], []), ([8], [8]), ([], []), ([9, 10], [9, 10]), ([11], [11]), ([12], [12]), ([13], [13]), ([14], [14]), ([7, 15], [7, 15]), ([], []), ([17], [17]), ([], []), ([18, 19], [18, 19]), ([20], [20]), ([21], [21]), ([22], [22]), ([23], [23]), ([16, 24], [16, 24]), ([], []), ([26], [26]), ([], []), ([27, 28], [27, 28]), ([29], [29]), ([30], [30]), ([31], [31]), ([32], [32]), ([25, 33], [25, 33]), ([34], [34]), ([0, 35], [0, 35]), ([36, 0, 1, 2, 3, 4, 5, 6, 7, 8, 9, 10, 11, 12, 13, 14, 15, 16, 17, 18, 19, 20, 21, 22, 23, 24, 25, 26, 27, 28, 29, 30, 31, 32, 33, 34, 35, 36], [0, 36])])
def quorumlaw9_Heavy.B5 : List Nat := [0, 0, 2, 0, 14, 30, 62, 126, 0, 256, 0, 1792, 3840, 7936, 16128, 32512, 65534, 0, 131072, 0, 917504, 1966080, 4063232, 8257536, 16646144, 33554430, 0, 67108864, 0, 469762048, 1006632960, 2080374784, 4227858432, 8522825728, 17179869182, 34359738366, 68719476735, 137438953471]
theorem quorumlaw9_Heavy.tab5 : rtab .any (opsOf Try.f45 5) = quorumlaw9_Heavy.T5 := by kernel_rfl
theorem quorumlaw9_Heavy.bits5 : waitsOk quorumlaw9_Heavy.T5.2 quorumlaw9_Heavy.B5 = true := by kernel_rfl
set_option maxHeartbeats 8000000 in
set_option maxRecDepth 100000 in
theorem quorumlaw9_Heavy.calls (k : Nat) (A0_0 : Option Addr) (c0_0 : Nat) (l0_0 : List (S30)) (A0_1 : Option Addr) (c0_1 : Nat) (l0_1 : List (S141)) (r : Bool) (w : World) (hr0_0 : Kd.C k30 w A0_0 l0_0.length l0_0) (hc0_0 : l0_0.length ≤ c0_0) (hr0_1 : Kd.C k141 w A0_1 l0_1.length l0_1) (hc0_1 : l0_1.length ≤ c0_1) (h : quorumlaw9_Heavy.f k l0_0 l0_1 = some r) :
  Calls Try.prog 45 #[.agg #[.slice A0_0 l0_0.length c0_0, .slice A0_1 l0_1.length c0_1]] w fun e w' => e = .returned (.bool r) ∧ Below w.heap.size w w' := by
 have hu82 := Try.underlying82
 have hu79 := Try.underlying79
 have HR0_0 := mk0 hr0_0
 have HC0_0 := mk0 hc0_0
 clear hr0_0 hc0_0
 have HR0_1 := mk0 hr0_1
 have HC0_1 := mk0 hc0_1
 clear hr0_1 hc0_1
 have HB := mk0 (Below.refl w.heap.size w)
 have H : ((quorumlaw0_TableWeight.f k l0_0).bind fun t109 => (quorumlaw9_Heavy.l0 k (wrap64 (t109 + (l0_1.length : Int))) 0 l0_0 l0_1)) = some r := h
 clear h
 replace H := Option.bind_eq_some_iff.mp H
 obtain ⟨t109, A20, H⟩ := H
 try dsimp only at H
 have A2 := mk0 A20
 clear A20
 have H' := mk0 H
 clear H
 go_enter Try.func45, Try.ntmps45
 try go_wp2_with (first | ((with_reducible refine gate_dst (N := 1) rfl ?_); refine bx_ (N := 1) (cs := #[.slice A0_0 l0_0.length c0_0, .slice A0_1 l0_1.length c0_1]) (t := 82) (h := ?_); intro gb108 hg w3 hbox hb; have n2_ := mk0 (gz_ HB hg); have n3_ := mk0 (gz_ HB hg); replace HB := mk0 (bt_ (b_ HB) hb); have BK108 := mk0 (hbox); have GW108 := n2_; have GE108 := n3_; clear n2_ n3_; clear hb hbox hg))
 replace BK108 := mk0 (bD_ BK108.out)
 replace HB := mk0 (b1_ HB.out)
 refine start_ (n := 8) (S := fun w' => w'.cell? ⟨gb108, 0, none⟩ = some (.slice A0_0 l0_0.length c0_0) ∧ w'.cell? ⟨gb108, 1, none⟩ = some (.slice A0_1 l0_1.length c0_1)) (ds := []) (bt 8 0) (by kernel_rfl) rfl rfl ⟨bk_ BK108 0, bk_ BK108 1⟩ (fun hHeld => ?_); refine with_tabW quorumlaw9_Heavy.tab1 quorumlaw9_Heavy.bits1 (fun HT_ HW_ => ?_)
 generalize w3.drew = w4 at BK108 HB hHeld ⊢
 refine pq_ HT_.out 0 5 (bt 8 1) (h := ?_)
 refine pq_ HT_.out 3 8 (bt 8 9) (h := ?_)
 refine tq2_ HT_.out HW_.out 1 6 (bt 8 11) hHeld (h := ?_)
 refine tq2_ HT_.out HW_.out 4 9 (bt 8 27) hHeld (h := ?_)
 refine pq_ HT_.out 5 10 (bt 8 59) (h := ?_)
 refine one_ (i := 2) (N := some 7) (bt 8 63) rfl rfl (one_of HT_.out (by kernel_rfl)) (by decide) (fun K hK => ?_)
 refine goes_ Try.func58 (by kernel_rfl) rfl #[.agg #[.slice A0_0 l0_0.length c0_0]] (by rfl) rfl rfl (by (try simp only [List.map_toArray, List.map_cons, List.map_nil]); first | done | rfl | (simp only [List.length_drop, List.length_take]; rfl)) ?_
 with_reducible refine (quorumlaw0_TableWeight.calls k _ _ l0_0 t109 _ ?side1 ?side2 A2.out).mono ?_
 (case side1 => exact cb_ HR0_0 HB)
 (case side2 => exact HC0_0.out)
 rintro e w5 ⟨rfl, hb⟩
 refine ⟨_, rfl, ?_⟩
 replace BK108 := mk0 (u_ BK108 hb)
 replace HB := mk0 (bt_ (b_ HB) hb)
 (try clear hb)
 (try clear hb2)
 (try clear hk)
 (try clear hi)
 refine hK.out _ _ ⟨bk_ BK108 0, bk_ BK108 1⟩ (fun hHeld => ?_)
 clear hK K
 refine norm_ (a' := ?_) ?_ ?_
 rotate_left
 ·show Act.put _ (some 7) _ = _
  simp only [z_]
  rfl
 refine pq_ HT_.out 6 11 (bt 8 127) (h := ?_)
 refine pq_ HT_.out 7 3 (bt 8 255) (h := ?_)
 refine done_ (done_of HT_.out (by kernel_rfl)) ?_
 try go_wp2
 go_loopg [3, 4] k (fun kq v3 v4 w' => ∃ (x3_1 : Int) (x4_1 : Int), v3 = .int .i64 x3_1 ∧ v4 = .int .i64 x4_1 ∧ Fc (quorumlaw9_Heavy.l0 kq x3_1 x4_1 l0_0 l0_1 = some r) ∧ Fc (kq ≤ k) ∧ Fc (w'.heap[gb108]? = some (.cells #[(.slice A0_0 l0_0.length c0_0), (.slice A0_1 l0_1.length c0_1)] 82 (0, 0))) ∧ Fc (Below w.heap.size w w'))
 case atStart => exact ⟨(wrap64 (t109 + (l0_1.length : Int))), (0), (by first | rfl | (simp; done) | (simp [*]; done)), (by first | rfl | (simp; done) | (simp [*]; done)), H', ⟨Nat.le_refl _⟩, ⟨h_ BK108⟩, ⟨b_ HB⟩⟩
 case round =>
  clear H'
  obtain ⟨x3_1, x4_1, rfl, rfl, HA, HK1, BK108, HB⟩ := hrel
  cases gk with
  | zero => exact absurd HA.out (by simp [quorumlaw9_Heavy.l0])
  | succ k1 =>
   have H := HA.out
   clear HA
   simp only [quorumlaw9_Heavy.l0] at H
   as_aux_lemma =>
    by_cases c6 : x4_1 < (l0_1.length : Int)
    ·rw [if_pos c6] at H
     have c6b0 : decide (x4_1 < (l0_1.length : Int)) = true := decide_eq_true c6
     clear c6
     by_cases c7 : x3_1 < 1048576
     ·rw [if_pos c7] at H
      have c7b0 : decide (x3_1 < 1048576) = true := decide_eq_true c7
      clear c7
      by_cases c8 : 0 ≤ x4_1
      ·rw [if_pos c8] at H
       have c8b0 : decide (0 ≤ x4_1) = true := decide_eq_true c8
       clear c8
       have H' := mk0 H
       clear H
       obtain ⟨hcz9_0, hcz9_1, hfz9_0, hfz9_1⟩ := c2_ BK108
       try go_wp2
       have p110 : 0 ≤ (x4_1 : Int) := of_decide_eq_true (by first | (with_reducible assumption) | assumption)
       have q110 : x4_1 < (l0_1.length : Int) := of_decide_eq_true (by first | (with_reducible assumption) | assumption)
       obtain ⟨ad110, e110, hx110_0, hx110_1, hx110_2, hx110_3, hx110_4, hx110_5, hx110_6, hx110_7, hx110_8, hx110_9, hx110_10⟩ := at_T141 HR0_1.out x4_1 p110 q110
       have hw110_10 := hx110_10
       have hw110_9 := hx110_9
       have hw110_8 := hx110_8
       have hw110_7 := hx110_7
       have hw110_6 := hx110_6
       have hw110_5 := hx110_5
       have hw110_4 := hx110_4
       have hw110_3 := hx110_3
       have hw110_2 := hx110_2
       have hw110_1 := hx110_1
       have hw110_0 := hx110_0
       cases e110
       replace hx110_0 := bc_ HB hx110_0
       replace hx110_1 := bc_ HB hx110_1
       replace hx110_2 := bc_ HB hx110_2
       replace hx110_3 := bc_ HB hx110_3
       replace hx110_4 := bc_ HB hx110_4
       replace hx110_5 := bc_ HB hx110_5
       replace hx110_6 := bc_ HB hx110_6
       replace hx110_7 := bc_ HB hx110_7
       replace hx110_8 := bc_ HB hx110_8
       replace hx110_9 := bc_ HB hx110_9
       replace hx110_10 := bc_ HB hx110_10
       replace p110 := eq_true p110
       replace q110 := eq_true q110
       have p111 : 0 ≤ (x4_1 : Int) := of_decide_eq_true (by first | (with_reducible assumption) | assumption)
       have q111 : x4_1 < (l0_1.length : Int) := of_decide_eq_true (by first | (with_reducible assumption) | assumption)
       obtain ⟨ad111, e111, hx111_0, hx111_1, hx111_2, hx111_3, hx111_4, hx111_5, hx111_6, hx111_7, hx111_8, hx111_9, hx111_10⟩ := at_T141 HR0_1.out x4_1 p111 q111
       have hw111_10 := hx111_10
       have hw111_9 := hx111_9
       have hw111_8 := hx111_8
       have hw111_7 := hx111_7
       have hw111_6 := hx111_6
       have hw111_5 := hx111_5
       have hw111_4 := hx111_4
       have hw111_3 := hx111_3
       have hw111_2 := hx111_2
       have hw111_1 := hx111_1
       have hw111_0 := hx111_0
       obtain rfl : ad110 = ad111 := (by injection e111)
       replace hx111_0 := bc_ HB hx111_0
       replace hx111_1 := bc_ HB hx111_1
       replace hx111_2 := bc_ HB hx111_2
       replace hx111_3 := bc_ HB hx111_3
       replace hx111_4 := bc_ HB hx111_4
       replace hx111_5 := bc_ HB hx111_5
       replace hx111_6 := bc_ HB hx111_6
       replace hx111_7 := bc_ HB hx111_7
       replace hx111_8 := bc_ HB hx111_8
       replace hx111_9 := bc_ HB hx111_9
       replace hx111_10 := bc_ HB hx111_10
       replace p111 := eq_true p111
       replace q111 := eq_true q111
       have p112 : 0 ≤ (x4_1 : Int) := of_decide_eq_true (by first | (with_reducible assumption) | assumption)
       have q112 : x4_1 < (l0_1.length : Int) := of_decide_eq_true (by first | (with_reducible assumption) | assumption)
       obtain ⟨ad112, e112, hx112_0, hx112_1, hx112_2, hx112_3, hx112_4, hx112_5, hx112_6, hx112_7, hx112_8, hx112_9, hx112_10⟩ := at_T141 HR0_1.out x4_1 p112 q112
       have hw112_10 := hx112_10
       have hw112_9 := hx112_9
       have hw112_8 := hx112_8
       have hw112_7 := hx112_7
       have hw112_6 := hx112_6
       have hw112_5 := hx112_5
       have hw112_4 := hx112_4
       have hw112_3 := hx112_3
       have hw112_2 := hx112_2
       have hw112_1 := hx112_1
       have hw112_0 := hx112_0
       obtain rfl : ad110 = ad112 := (by injection e112)
       replace hx112_0 := bc_ HB hx112_0
       replace hx112_1 := bc_ HB hx112_1
       replace hx112_2 := bc_ HB hx112_2
       replace hx112_3 := bc_ HB hx112_3
       replace hx112_4 := bc_ HB hx112_4
       replace hx112_5 := bc_ HB hx112_5
       replace hx112_6 := bc_ HB hx112_6
       replace hx112_7 := bc_ HB hx112_7
       replace hx112_8 := bc_ HB hx112_8
       replace hx112_9 := bc_ HB hx112_9
       replace hx112_10 := bc_ HB hx112_10
       replace p112 := eq_true p112
       replace q112 := eq_true q112
       have p113 : 0 ≤ (x4_1 : Int) := of_decide_eq_true (by first | (with_reducible assumption) | assumption)
       have q113 : x4_1 < (l0_1.length : Int) := of_decide_eq_true (by first | (with_reducible assumption) | assumption)
       obtain ⟨ad113, e113, hx113_0, hx113_1, hx113_2, hx113_3, hx113_4, hx113_5, hx113_6, hx113_7, hx113_8, hx113_9, hx113_10⟩ := at_T141 HR0_1.out x4_1 p113 q113
       have hw113_10 := hx113_10
       have hw113_9 := hx113_9
       have hw113_8 := hx113_8
       have hw113_7 := hx113_7
       have hw113_6 := hx113_6
       have hw113_5 := hx113_5
       have hw113_4 := hx113_4
       have hw113_3 := hx113_3
       have hw113_2 := hx113_2
       have hw113_1 := hx113_1
       have hw113_0 := hx113_0
       obtain rfl : ad110 = ad113 := (by injection e113)
       replace hx113_0 := bc_ HB hx113_0
       replace hx113_1 := bc_ HB hx113_1
       replace hx113_2 := bc_ HB hx113_2
       replace hx113_3 := bc_ HB hx113_3
       replace hx113_4 := bc_ HB hx113_4
       replace hx113_5 := bc_ HB hx113_5
       replace hx113_6 := bc_ HB hx113_6
       replace hx113_7 := bc_ HB hx113_7
       replace hx113_8 := bc_ HB hx113_8
       replace hx113_9 := bc_ HB hx113_9
       replace hx113_10 := bc_ HB hx113_10
       replace p113 := eq_true p113
       replace q113 := eq_true q113
       have hs1_0 : wr.cell? ⟨gb108, 0, none⟩ = some (.slice A0_0 l0_0.length c0_0) := bk_ BK108 0
       have hs1_1 : wr.cell? ⟨gb108, 1, none⟩ = some (.slice (some ad110) l0_1.length c0_1) := bk_ BK108 1
       have hs1_2 : wr.cell? (ad110.add ((x4_1).toNat * 11)) = some (.int .i64 ((rd_T141 l0_1 x4_1).f0)) := (bc_ HB hw110_0)
       have hs1_3 : wr.cell? ⟨(ad110.add ((x4_1).toNat * 11)).block, (ad110.add ((x4_1).toNat * 11)).off + 1, none⟩ = some (.int .i64 ((rd_T141 l0_1 x4_1).f1)) := (bc_ HB hw110_1)
       have hs1_4 : wr.cell? ⟨(ad110.add ((x4_1).toNat * 11)).block, (ad110.add ((x4_1).toNat * 11)).off + 2, none⟩ = some (.int .i64 ((rd_T141 l0_1 x4_1).f2)) := (bc_ HB hw110_2)
       have hs1_5 : wr.cell? ⟨(ad110.add ((x4_1).toNat * 11)).block, (ad110.add ((x4_1).toNat * 11)).off + 3, none⟩ = some (.string ((rd_T141 l0_1 x4_1).f3)) := (bc_ HB hw110_3)
       have hs1_6 : wr.cell? ⟨(ad110.add ((x4_1).toNat * 11)).block, (ad110.add ((x4_1).toNat * 11)).off + 4, none⟩ = some (.int .i64 ((rd_T141 l0_1 x4_1).f4.f0)) := (bc_ HB hw110_4)
       have hs1_7 : wr.cell? ⟨(ad110.add ((x4_1).toNat * 11)).block, (ad110.add ((x4_1).toNat * 11)).off + 5, none⟩ = some (.string ((rd_T141 l0_1 x4_1).f4.f1)) := (bc_ HB hw110_5)
       have hs1_8 : wr.cell? ⟨(ad110.add ((x4_1).toNat * 11)).block, (ad110.add ((x4_1).toNat * 11)).off + 6, none⟩ = some (.bool ((rd_T141 l0_1 x4_1).f4.f2)) := (bc_ HB hw110_6)
       have hs1_9 : wr.cell? ⟨(ad110.add ((x4_1).toNat * 11)).block, (ad110.add ((x4_1).toNat * 11)).off + 7, none⟩ = some (.string ((rd_T141 l0_1 x4_1).f5.f0)) := (bc_ HB hw110_7)
       have hs1_10 : wr.cell? ⟨(ad110.add ((x4_1).toNat * 11)).block, (ad110.add ((x4_1).toNat * 11)).off + 8, none⟩ = some (.string ((rd_T141 l0_1 x4_1).f5.f1)) := (bc_ HB hw110_8)
       have hs1_11 : wr.cell? ⟨(ad110.add ((x4_1).toNat * 11)).block, (ad110.add ((x4_1).toNat * 11)).off + 9, none⟩ = some (.bool ((rd_T141 l0_1 x4_1).f5.f2)) := (bc_ HB hw110_9)
       have hs1_12 : wr.cell? ⟨(ad110.add ((x4_1).toNat * 11)).block, (ad110.add ((x4_1).toNat * 11)).off + 10, none⟩ = some (.bool ((rd_T141 l0_1 x4_1).f6)) := (bc_ HB hw110_10)
       have hs1_13 : wr.cell? (ad110.add ((x4_1).toNat * 11)) = some (.int .i64 ((rd_T141 l0_1 x4_1).f0)) := (bc_ HB hw111_0)
       have hs1_14 : wr.cell? ⟨(ad110.add ((x4_1).toNat * 11)).block, (ad110.add ((x4_1).toNat * 11)).off + 1, none⟩ = some (.int .i64 ((rd_T141 l0_1 x4_1).f1)) := (bc_ HB hw111_1)
       have hs1_15 : wr.cell? ⟨(ad110.add ((x4_1).toNat * 11)).block, (ad110.add ((x4_1).toNat * 11)).off + 2, none⟩ = some (.int .i64 ((rd_T141 l0_1 x4_1).f2)) := (bc_ HB hw111_2)
       have hs1_16 : wr.cell? ⟨(ad110.add ((x4_1).toNat * 11)).block, (ad110.add ((x4_1).toNat * 11)).off + 3, none⟩ = some (.string ((rd_T141 l0_1 x4_1).f3)) := (bc_ HB hw111_3)
       have hs1_17 : wr.cell? ⟨(ad110.add ((x4_1).toNat * 11)).block, (ad110.add ((x4_1).toNat * 11)).off + 4, none⟩ = some (.int .i64 ((rd_T141 l0_1 x4_1).f4.f0)) := (bc_ HB hw111_4)
       have hs1_18 : wr.cell? ⟨(ad110.add ((x4_1).toNat * 11)).block, (ad110.add ((x4_1).toNat * 11)).off + 5, none⟩ = some (.string ((rd_T141 l0_1 x4_1).f4.f1)) := (bc_ HB hw111_5)
       have hs1_19 : wr.cell? ⟨(ad110.add ((x4_1).toNat * 11)).block, (ad110.add ((x4_1).toNat * 11)).off + 6, none⟩ = some (.bool ((rd_T141 l0_1 x4_1).f4.f2)) := (bc_ HB hw111_6)
       have hs1_20 : wr.cell? ⟨(ad110.add ((x4_1).toNat * 11)).block, (ad110.add ((x4_1).toNat * 11)).off + 7, none⟩ = some (.string ((rd_T141 l0_1 x4_1).f5.f0)) := (bc_ HB hw111_7)
       have hs1_21 : wr.cell? ⟨(ad110.add ((x4_1).toNat * 11)).block, (ad110.add ((x4_1).toNat * 11)).off + 8, none⟩ = some (.string ((rd_T141 l0_1 x4_1).f5.f1)) := (bc_ HB hw111_8)
       have hs1_22 : wr.cell? ⟨(ad110.add ((x4_1).toNat * 11)).block, (ad110.add ((x4_1).toNat * 11)).off + 9, none⟩ = some (.bool ((rd_T141 l0_1 x4_1).f5.f2)) := (bc_ HB hw111_9)
       have hs1_23 : wr.cell? ⟨(ad110.add ((x4_1).toNat * 11)).block, (ad110.add ((x4_1).toNat * 11)).off + 10, none⟩ = some (.bool ((rd_T141 l0_1 x4_1).f6)) := (bc_ HB hw111_10)
       have hs1_24 : wr.cell? (ad110.add ((x4_1).toNat * 11)) = some (.int .i64 ((rd_T141 l0_1 x4_1).f0)) := (bc_ HB hw112_0)
       have hs1_25 : wr.cell? ⟨(ad110.add ((x4_1).toNat * 11)).block, (ad110.add ((x4_1).toNat * 11)).off + 1, none⟩ = some (.int .i64 ((rd_T141 l0_1 x4_1).f1)) := (bc_ HB hw112_1)
       have hs1_26 : wr.cell? ⟨(ad110.add ((x4_1).toNat * 11)).block, (ad110.add ((x4_1).toNat * 11)).off + 2, none⟩ = some (.int .i64 ((rd_T141 l0_1 x4_1).f2)) := (bc_ HB hw112_2)
       have hs1_27 : wr.cell? ⟨(ad110.add ((x4_1).toNat * 11)).block, (ad110.add ((x4_1).toNat * 11)).off + 3, none⟩ = some (.string ((rd_T141 l0_1 x4_1).f3)) := (bc_ HB hw112_3)
       have hs1_28 : wr.cell? ⟨(ad110.add ((x4_1).toNat * 11)).block, (ad110.add ((x4_1).toNat * 11)).off + 4, none⟩ = some (.int .i64 ((rd_T141 l0_1 x4_1).f4.f0)) := (bc_ HB hw112_4)
       have hs1_29 : wr.cell? ⟨(ad110.add ((x4_1).toNat * 11)).block, (ad110.add ((x4_1).toNat * 11)).off + 5, none⟩ = some (.string ((rd_T141 l0_1 x4_1).f4.f1)) := (bc_ HB hw112_5)
       have hs1_30 : wr.cell? ⟨(ad110.add ((x4_1).toNat * 11)).block, (ad110.add ((x4_1).toNat * 11)).off + 6, none⟩ = some (.bool ((rd_T141 l0_1 x4_1).f4.f2)) := (bc_ HB hw112_6)
       have hs1_31 : wr.cell? ⟨(ad110.add ((x4_1).toNat * 11)).block, (ad110.add ((x4_1).toNat * 11)).off + 7, none⟩ = some (.string ((rd_T141 l0_1 x4_1).f5.f0)) := (bc_ HB hw112_7)
       have hs1_32 : wr.cell? ⟨(ad110.add ((x4_1).toNat * 11)).block, (ad110.add ((x4_1).toNat * 11)).off + 8, none⟩ = some (.string ((rd_T141 l0_1 x4_1).f5.f1)) := (bc_ HB hw112_8)
       have hs1_33 : wr.cell? ⟨(ad110.add ((x4_1).toNat * 11)).block, (ad110.add ((x4_1).toNat * 11)).off + 9, none⟩ = some (.bool ((rd_T141 l0_1 x4_1).f5.f2)) := (bc_ HB hw112_9)
       have hs1_34 : wr.cell? ⟨(ad110.add ((x4_1).toNat * 11)).block, (ad110.add ((x4_1).toNat * 11)).off + 10, none⟩ = some (.bool ((rd_T141 l0_1 x4_1).f6)) := (bc_ HB hw112_10)
       have hs1_35 : wr.cell? (ad110.add ((x4_1).toNat * 11)) = some (.int .i64 ((rd_T141 l0_1 x4_1).f0)) := (bc_ HB hw113_0)
       have hs1_36 : wr.cell? ⟨(ad110.add ((x4_1).toNat * 11)).block, (ad110.add ((x4_1).toNat * 11)).off + 1, none⟩ = some (.int .i64 ((rd_T141 l0_1 x4_1).f1)) := (bc_ HB hw113_1)
       have hs1_37 : wr.cell? ⟨(ad110.add ((x4_1).toNat * 11)).block, (ad110.add ((x4_1).toNat * 11)).off + 2, none⟩ = some (.int .i64 ((rd_T141 l0_1 x4_1).f2)) := (bc_ HB hw113_2)
       have hs1_38 : wr.cell? ⟨(ad110.add ((x4_1).toNat * 11)).block, (ad110.add ((x4_1).toNat * 11)).off + 3, none⟩ = some (.string ((rd_T141 l0_1 x4_1).f3)) := (bc_ HB hw113_3)
       have hs1_39 : wr.cell? ⟨(ad110.add ((x4_1).toNat * 11)).block, (ad110.add ((x4_1).toNat * 11)).off + 4, none⟩ = some (.int .i64 ((rd_T141 l0_1 x4_1).f4.f0)) := (bc_ HB hw113_4)
       have hs1_40 : wr.cell? ⟨(ad110.add ((x4_1).toNat * 11)).block, (ad110.add ((x4_1).toNat * 11)).off + 5, none⟩ = some (.string ((rd_T141 l0_1 x4_1).f4.f1)) := (bc_ HB hw113_5)
       have hs1_41 : wr.cell? ⟨(ad110.add ((x4_1).toNat * 11)).block, (ad110.add ((x4_1).toNat * 11)).off + 6, none⟩ = some (.bool ((rd_T141 l0_1 x4_1).f4.f2)) := (bc_ HB hw113_6)
       have hs1_42 : wr.cell? ⟨(ad110.add ((x4_1).toNat * 11)).block, (ad110.add ((x4_1).toNat * 11)).off + 7, none⟩ = some (.string ((rd_T141 l0_1 x4_1).f5.f0)) := (bc_ HB hw113_7)
       have hs1_43 : wr.cell? ⟨(ad110.add ((x4_1).toNat * 11)).block, (ad110.add ((x4_1).toNat * 11)).off + 8, none⟩ = some (.string ((rd_T141 l0_1 x4_1).f5.f1)) := (bc_ HB hw113_8)
       have hs1_44 : wr.cell? ⟨(ad110.add ((x4_1).toNat * 11)).block, (ad110.add ((x4_1).toNat * 11)).off + 9, none⟩ = some (.bool ((rd_T141 l0_1 x4_1).f5.f2)) := (bc_ HB hw113_9)
       have hs1_45 : wr.cell? ⟨(ad110.add ((x4_1).toNat * 11)).block, (ad110.add ((x4_1).toNat * 11)).off + 10, none⟩ = some (.bool ((rd_T141 l0_1 x4_1).f6)) := (bc_ HB hw113_10)
       go_quiet (fail)
       clear hs1_0 hs1_1 hs1_2 hs1_3 hs1_4 hs1_5 hs1_6 hs1_7 hs1_8 hs1_9 hs1_10 hs1_11 hs1_12 hs1_13 hs1_14 hs1_15 hs1_16 hs1_17 hs1_18 hs1_19 hs1_20 hs1_21 hs1_22 hs1_23 hs1_24 hs1_25 hs1_26 hs1_27 hs1_28 hs1_29 hs1_30 hs1_31 hs1_32 hs1_33 hs1_34 hs1_35 hs1_36 hs1_37 hs1_38 hs1_39 hs1_40 hs1_41 hs1_42 hs1_43 hs1_44 hs1_45
       generalize hq_ : World.drewN wr _ = w10
       replace BK108 := mk0 (blk_at hq_ BK108.out)
       replace HB := mk0 (below_at hq_ HB.out)
       try replace hx110_0 := cell_at hq_ hx110_0
       try replace hx110_1 := cell_at hq_ hx110_1
       try replace hx110_10 := cell_at hq_ hx110_10
       try replace hx110_2 := cell_at hq_ hx110_2
       try replace hx110_3 := cell_at hq_ hx110_3
       try replace hx110_4 := cell_at hq_ hx110_4
       try replace hx110_5 := cell_at hq_ hx110_5
       try replace hx110_6 := cell_at hq_ hx110_6
       try replace hx110_7 := cell_at hq_ hx110_7
       try replace hx110_8 := cell_at hq_ hx110_8
       try replace hx110_9 := cell_at hq_ hx110_9
       try replace hx111_0 := cell_at hq_ hx111_0
       try replace hx111_1 := cell_at hq_ hx111_1
       try replace hx111_10 := cell_at hq_ hx111_10
       try replace hx111_2 := cell_at hq_ hx111_2
       try replace hx111_3 := cell_at hq_ hx111_3
       try replace hx111_4 := cell_at hq_ hx111_4
       try replace hx111_5 := cell_at hq_ hx111_5
       try replace hx111_6 := cell_at hq_ hx111_6
       try replace hx111_7 := cell_at hq_ hx111_7
       try replace hx111_8 := cell_at hq_ hx111_8
       try replace hx111_9 := cell_at hq_ hx111_9
       try replace hx112_0 := cell_at hq_ hx112_0
       try replace hx112_1 := cell_at hq_ hx112_1
       try replace hx112_10 := cell_at hq_ hx112_10
       try replace hx112_2 := cell_at hq_ hx112_2
       try replace hx112_3 := cell_at hq_ hx112_3
       try replace hx112_4 := cell_at hq_ hx112_4
       try replace hx112_5 := cell_at hq_ hx112_5
       try replace hx112_6 := cell_at hq_ hx112_6
       try replace hx112_7 := cell_at hq_ hx112_7
       try replace hx112_8 := cell_at hq_ hx112_8
       try replace hx112_9 := cell_at hq_ hx112_9
       try replace hx113_0 := cell_at hq_ hx113_0
       try replace hx113_1 := cell_at hq_ hx113_1
       try replace hx113_10 := cell_at hq_ hx113_10
       try replace hx113_2 := cell_at hq_ hx113_2
       try replace hx113_3 := cell_at hq_ hx113_3
       try replace hx113_4 := cell_at hq_ hx113_4
       try replace hx113_5 := cell_at hq_ hx113_5
       try replace hx113_6 := cell_at hq_ hx113_6
       try replace hx113_7 := cell_at hq_ hx113_7
       try replace hx113_8 := cell_at hq_ hx113_8
       try replace hx113_9 := cell_at hq_ hx113_9
       clear hq_
       try go_wp2
       go_roundg k1
       case measure => have := HK1.out; omega
       case rel => exact ⟨(wrap64 (x3_1 + (wrap64 (Int.tdiv (wrap64 ((wrap64 ((wrap64 ((((rd_T141 l0_1 x4_1).f3).size : Int) + (((rd_T141 l0_1 x4_1).f4.f1).size : Int))) + (((rd_T141 l0_1 x4_1).f5.f0).size : Int))) + (((rd_T141 l0_1 x4_1).f5.f1).size : Int))) 8)))), (wrap64 (x4_1 + 1)), (by first | rfl | (simp; done) | (simp [*]; done)), (by first | rfl | (simp; done) | (simp [*]; done)), H', ⟨by have := HK1.out; omega⟩, ⟨h_ BK108⟩, ⟨b_ HB⟩⟩
      ·rw [if_neg c8] at H
       exact absurd H (by simp)
     ·rw [if_neg c7] at H
      have c7b0 : decide (x3_1 < 1048576) = false := decide_eq_false c7
      clear c7
      obtain rfl := Option.some.inj H
      obtain ⟨hcz11_0, hcz11_1, hfz11_0, hfz11_1⟩ := c2_ BK108
      go_wp2
      go_ret
      exact ⟨by first | rfl | (simp [errW_none, errW_some] <;> rfl) | (simp [*, errW_none, errW_some] <;> rfl), b_ HB⟩
    ·rw [if_neg c6] at H
     have c6b0 : decide (x4_1 < (l0_1.length : Int)) = false := decide_eq_false c6
     clear c6
     obtain rfl := Option.some.inj H
     obtain ⟨hcz12_0, hcz12_1, hfz12_0, hfz12_1⟩ := c2_ BK108
     go_wp2
     go_ret
     exact ⟨by first | rfl | (simp [errW_none, errW_some] <;> rfl) | (simp [*, errW_none, errW_some] <;> rfl), b_ HB⟩

/-! ### quorumref0_Between: function 67 -/
def quorumref0_Between.f (a0 : Int) (a1 : Int) (a2 : Int) : Option (Bool) := if a0 ≥ a1 then (some (decide (a0 ≤ a2))) else (some false)
set_option maxHeartbeats 8000000 in
set_option maxRecDepth 100000 in
theorem quorumref0_Between.calls (a0 : Int) (a1 : Int) (a2 : Int) (r : Bool) (w : World) (h : quorumref0_Between.f a0 a1 a2 = some r) :
  Calls Try.prog 67 #[.int .i64 a0, .int .i64 a1, .int .i64 a2] w fun e w' => e = .returned (.bool r) ∧ Drawn0 w w' := by
 have H : (if a0 ≥ a1 then (some (decide (a0 ≤ a2))) else (some false)) = some r := h
 clear h
 by_cases c4 : a0 ≥ a1
 ·rw [if_pos c4] at H
  have c4b0 : decide (a1 ≤ a0) = true := decide_eq_true c4
  clear c4
  obtain rfl := Option.some.inj H
  go_enter Try.func67, Try.ntmps67
  go_wp2
  go_ret
  exact ⟨by first | rfl | (simp; done) | (simp [*]; done), by repeat (first | exact Drawn0.refl _ | apply Drawn0.step)⟩
 ·rw [if_neg c4] at H
  have c4b0 : decide (a1 ≤ a0) = false := decide_eq_false c4
  clear c4
  obtain rfl := Option.some.inj H
  go_enter Try.func67, Try.ntmps67
  go_wp2
  go_ret
  exact ⟨by first | rfl | (simp; done) | (simp [*]; done), by repeat (first | exact Drawn0.refl _ | apply Drawn0.step)⟩

/-! ### quorumref1_Key: function 29 -/
def quorumref1_Key.f (a0 : ByteArray) : Option (Bool) := (quorumref0_Between.f (a0.size : Int) 1 12).bind fun t114 => (some t114)
set_option maxHeartbeats 8000000 in
set_option maxRecDepth 100000 in
theorem quorumref1_Key.calls (a0 : ByteArray) (r : Bool) (w : World) (h : quorumref1_Key.f a0 = some r) :
  Calls Try.prog 29 #[.string a0] w fun e w' => e = .returned (.bool r) ∧ Drawn0 w w' := by
 have H : ((quorumref0_Between.f (a0.size : Int) 1 12).bind fun t114 => (some t114)) = some r := h
 clear h
 replace H := Option.bind_eq_some_iff.mp H
 obtain ⟨t114, A20, H⟩ := H
 try dsimp only at H
 have A2 := mk0 A20
 clear A20
 obtain rfl := Option.some.inj H
 go_enter Try.func29, Try.ntmps29
 go_wp2_with (first | ((with_reducible refine gate_callee (f := 67) rfl ?_); refine gL_ (some 5) Try.func67 #[.int .i64 (a0.size : Int), .int .i64 1, .int .i64 12] (h := ?_); (with_reducible refine (quorumref0_Between.calls (a0.size : Int) 1 12 t114 _ A2.out).mono ?_); rintro e w' ⟨rfl, ⟨nd, rfl⟩⟩; refine ⟨_, rfl, ?_⟩))
 go_ret
 exact ⟨by first | rfl | (simp; done) | (simp [*]; done), by repeat (first | exact Drawn0.refl _ | apply Drawn0.step)⟩

/-! ### quorumref1_Value: function 68 -/
def quorumref1_Value.f (a0 : ByteArray) : Option (Bool) := some (decide ((a0.size : Int) ≤ 20))
set_option maxHeartbeats 8000000 in
set_option maxRecDepth 100000 in
theorem quorumref1_Value.calls (a0 : ByteArray) (r : Bool) (w : World) (h : quorumref1_Value.f a0 = some r) :
  Calls Try.prog 68 #[.string a0] w fun e w' => e = .returned (.bool r) ∧ Drawn0 w w' := by
 have H : (some (decide ((a0.size : Int) ≤ 20))) = some r := h
 clear h
 obtain rfl := Option.some.inj H
 go_enter Try.func68, Try.ntmps68
 go_wp2
 go_ret
 exact ⟨by first | rfl | (simp; done) | (simp [*]; done), by repeat (first | exact Drawn0.refl _ | apply Drawn0.step)⟩

/-! ### quorumref8_Version: function 30 -/
def quorumref8_Version.f (a0_0 : Int) (a0_1 : ByteArray) (a0_2 : Bool) : Option (Bool) := (quorumref0_Between.f a0_0 1 1073741824).bind fun t116 => (if t116 = true then ((quorumref1_Value.f a0_1).bind fun t117 => (if t117 = true then (if a0_2 = true then (some (a0_1.toList == ([] : List UInt8))) else (some true)) else (some false))) else (some false))
set_option maxHeartbeats 8000000 in
set_option maxRecDepth 100000 in
theorem quorumref8_Version.calls (a0_0 : Int) (a0_1 : ByteArray) (a0_2 : Bool) (r : Bool) (w : World) (h : quorumref8_Version.f a0_0 a0_1 a0_2 = some r) :
  Calls Try.prog 30 #[.agg #[.int .i64 a0_0, .string a0_1, .bool a0_2]] w fun e w' => e = .returned (.bool r) ∧ Below w.heap.size w w' := by
 have hu39 := Try.underlying39
 have HB := mk0 (Below.refl w.heap.size w)
 have H : ((quorumref0_Between.f a0_0 1 1073741824).bind fun t116 => (if t116 = true then ((quorumref1_Value.f a0_1).bind fun t117 => (if t117 = true then (if a0_2 = true then (some (a0_1.toList == ([] : List UInt8))) else (some true)) else (some false))) else (some false))) = some r := h
 clear h
 replace H := Option.bind_eq_some_iff.mp H
 obtain ⟨t116, A20, H⟩ := H
 try dsimp only at H
 have A2 := mk0 A20
 clear A20
 by_cases c3 : t116 = true
 ·subst c3
  rw [if_pos rfl] at H
  replace H := Option.bind_eq_some_iff.mp H
  obtain ⟨t117, A40, H⟩ := H
  try dsimp only at H
  have A4 := mk0 A40
  clear A40
  by_cases c5 : t117 = true
  ·subst c5
   rw [if_pos rfl] at H
   by_cases c6 : a0_2 = true
   ·subst c6
    rw [if_pos rfl] at H
    obtain rfl := Option.some.inj H
    go_enter Try.func30, Try.ntmps30
    go_wp2_with (first | ((with_reducible refine gate_dst (N := 1) rfl ?_); refine bx_ (N := 1) (cs := #[.int .i64 a0_0, .string a0_1, .bool true]) (t := 39) (h := ?_); intro gb115 hg w7 hbox hb; have n2_ := mk0 (gz_ HB hg); have n3_ := mk0 (gz_ HB hg); replace HB := mk0 (bt_ (b_ HB) hb); have BK115 := mk0 (hbox); have GW115 := n2_; have GE115 := n3_; clear n2_ n3_ hb hbox hg; obtain ⟨hcz8_0, hcz8_1, hcz8_2, hfz8_0, hfz8_1, hfz8_2⟩ := c3_ BK115) | ((with_reducible refine gate_callee (f := 67) rfl ?_); refine gL_ (some 5) Try.func67 #[.int .i64 a0_0, .int .i64 1, .int .i64 1073741824] (h := ?_); (with_reducible refine (quorumref0_Between.calls a0_0 1 1073741824 true _ A2.out).mono ?_); rintro e w' ⟨rfl, ⟨nd, rfl⟩⟩; refine ⟨_, rfl, ?_⟩) | (go_at_call 68; (with_reducible refine (quorumref1_Value.calls a0_1 true _ A4.out).mono ?_); rintro e w' ⟨rfl, ⟨nd, rfl⟩⟩))
    go_ret
    exact ⟨by first | rfl | (simp [errW_none, errW_some] <;> rfl) | (simp [*, errW_none, errW_some] <;> rfl), b_ HB⟩
   ·replace c6 := Bool.eq_false_iff.mpr c6
    subst c6
    rw [if_neg (show ¬ (false = true) by decide)] at H
    obtain rfl := Option.some.inj H
    go_enter Try.func30, Try.ntmps30
    go_wp2_with (first | ((with_reducible refine gate_dst (N := 1) rfl ?_); refine bx_ (N := 1) (cs := #[.int .i64 a0_0, .string a0_1, .bool false]) (t := 39) (h := ?_); intro gb115 hg w9 hbox hb; have n2_ := mk0 (gz_ HB hg); have n3_ := mk0 (gz_ HB hg); replace HB := mk0 (bt_ (b_ HB) hb); have BK115 := mk0 (hbox); have GW115 := n2_; have GE115 := n3_; clear n2_ n3_ hb hbox hg; obtain ⟨hcz10_0, hcz10_1, hcz10_2, hfz10_0, hfz10_1, hfz10_2⟩ := c3_ BK115) | ((with_reducible refine gate_callee (f := 67) rfl ?_); refine gL_ (some 5) Try.func67 #[.int .i64 a0_0, .int .i64 1, .int .i64 1073741824] (h := ?_); (with_reducible refine (quorumref0_Between.calls a0_0 1 1073741824 true _ A2.out).mono ?_); rintro e w' ⟨rfl, ⟨nd, rfl⟩⟩; refine ⟨_, rfl, ?_⟩) | (go_at_call 68; (with_reducible refine (quorumref1_Value.calls a0_1 true _ A4.out).mono ?_); rintro e w' ⟨rfl, ⟨nd, rfl⟩⟩))
    go_ret
    exact ⟨by first | rfl | (simp [errW_none, errW_some] <;> rfl) | (simp [*, errW_none, errW_some] <;> rfl), b_ HB⟩
  ·replace c5 := Bool.eq_false_iff.mpr c5
   subst c5
   rw [if_neg (show ¬ (false = true) by decide)] at H
   obtain rfl := Option.some.inj H
   go_enter Try.func30, Try.ntmps30
   go_wp2_with (first | ((with_reducible refine gate_dst (N := 1) rfl ?_); refine bx_ (N := 1) (cs := #[.int .i64 a0_0, .string a0_1, .bool a0_2]) (t := 39) (h := ?_); intro gb115 hg w11 hbox hb; have n2_ := mk0 (gz_ HB hg); have n3_ := mk0 (gz_ HB hg); replace HB := mk0 (bt_ (b_ HB) hb); have BK115 := mk0 (hbox); have GW115 := n2_; have GE115 := n3_; clear n2_ n3_ hb hbox hg; obtain ⟨hcz12_0, hcz12_1, hcz12_2, hfz12_0, hfz12_1, hfz12_2⟩ := c3_ BK115) | ((with_reducible refine gate_callee (f := 67) rfl ?_); refine gL_ (some 5) Try.func67 #[.int .i64 a0_0, .int .i64 1, .int .i64 1073741824] (h := ?_); (with_reducible refine (quorumref0_Between.calls a0_0 1 1073741824 true _ A2.out).mono ?_); rintro e w' ⟨rfl, ⟨nd, rfl⟩⟩; refine ⟨_, rfl, ?_⟩) | (go_at_call 68; (with_reducible refine (quorumref1_Value.calls a0_1 false _ A4.out).mono ?_); rintro e w' ⟨rfl, ⟨nd, rfl⟩⟩))
   go_ret
   exact ⟨by first | rfl | (simp [errW_none, errW_some] <;> rfl) | (simp [*, errW_none, errW_some] <;> rfl), b_ HB⟩
 ·replace c3 := Bool.eq_false_iff.mpr c3
  subst c3
  rw [if_neg (show ¬ (false = true) by decide)] at H
  obtain rfl := Option.some.inj H
  go_enter Try.func30, Try.ntmps30
  go_wp2_with (first | ((with_reducible refine gate_dst (N := 1) rfl ?_); refine bx_ (N := 1) (cs := #[.int .i64 a0_0, .string a0_1, .bool a0_2]) (t := 39) (h := ?_); intro gb115 hg w13 hbox hb; have n2_ := mk0 (gz_ HB hg); have n3_ := mk0 (gz_ HB hg); replace HB := mk0 (bt_ (b_ HB) hb); have BK115 := mk0 (hbox); have GW115 := n2_; have GE115 := n3_; clear n2_ n3_ hb hbox hg; obtain ⟨hcz14_0, hcz14_1, hcz14_2, hfz14_0, hfz14_1, hfz14_2⟩ := c3_ BK115) | ((with_reducible refine gate_callee (f := 67) rfl ?_); refine gL_ (some 5) Try.func67 #[.int .i64 a0_0, .int .i64 1, .int .i64 1073741824] (h := ?_); (with_reducible refine (quorumref0_Between.calls a0_0 1 1073741824 false _ A2.out).mono ?_); rintro e w' ⟨rfl, ⟨nd, rfl⟩⟩; refine ⟨_, rfl, ?_⟩))
  go_ret
  exact ⟨by first | rfl | (simp [errW_none, errW_some] <;> rfl) | (simp [*, errW_none, errW_some] <;> rfl), b_ HB⟩

end Go.Proofs.Ytoodkefpkgbjcaa.PTbp
