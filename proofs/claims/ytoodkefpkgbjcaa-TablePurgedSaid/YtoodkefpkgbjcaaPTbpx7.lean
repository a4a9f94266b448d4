-- PRINTED by print.py (a twelfth state) out of the translation. Not trusted: Lean checks it.
import Derived.Shelf.SlSorted.Search
import Derived.Test.YtoodkefpkgbjcaaPTbpx0
import Derived.Test.YtoodkefpkgbjcaaPTbpx6
namespace Go.Proofs.Ytoodkefpkgbjcaa.PTbp
open Go.RowKit Go.Proofs.YtoodkefpkgbjcaaW.PrintWords Go.Proofs.YtoodkefpkgbjcaaW.PrintLast Go.Proofs.YtoodkefpkgbjcaaW.PrintMore
attribute [local go_sem] max2_int min2_int max_two min_two max_three min_three max_four min_four   -- for this text's walks alone
set_option linter.unusedVariables false
set_option linter.unusedSimpArgs false

/-! ### table_May: function 89 -/
def table_May.l0 : Nat → List (S30) → Int → Int → List (S30) → Option (Bool)
 | 0, _, _, _, _ => none
 | k + 1, x6, x7, x8, x144000 => if x8 < x7 then (if 0 ≤ x8 then (if x8 < (x6.length : Int) then ((chain_May.f k ((rd_T30 x6 x8).f0) ((rd_T30 x6 x8).f1)).bind fun t146 => (if t146 = true then (if x8 > 0 then (if 0 ≤ (wrap64 (x8 - 1)) then (if (wrap64 (x8 - 1)) < (x144000.length : Int) then (if ((Op.bytesLess (((rd_T30 x144000 (wrap64 (x8 - 1))).f0).toList) (((rd_T30 x6 x8).f0).toList)) = true) then (table_May.l0 k x6 x7 (wrap64 (x8 + 1)) x144000) else (some false)) else (none)) else (none)) else (table_May.l0 k x6 x7 (wrap64 (x8 + 1)) x144000)) else (some false))) else (none)) else (none)) else ((table_Rooms.f k x144000).bind fun t148 => (some (decide (t148 ≤ 64))))
def table_May.f (k : Nat) (l0_0 : List (S30)) : Option (Bool) := table_May.l0 k l0_0 (l0_0.length : Int) 0 l0_0
theorem table_May.mono_l : ∀ k, (∀ y0 y1 y2 y3, LeO (table_May.l0 k y0 y1 y2 y3) (table_May.l0 (k + 1) y0 y1 y2 y3))
 | 0 => fun _ _ _ _ r h => by simp [table_May.l0] at h
 | k + 1 => by
  have ih0 := table_May.mono_l k
  ·intro y0 y1 y2 y3
   unfold table_May.l0
   repeat' first
   | (with_reducible exact ih0 _ _ _ _)
   | (with_reducible exact chain_May.mono _ _ _)
   | (with_reducible exact table_Rooms.mono _ _)
   | (with_reducible exact LeO.refl _)
   | (with_reducible exact LeO.none _)
   | (with_reducible refine LeO.ite ?_ ?_)
   | (with_reducible refine LeO.bind ?_ (fun _ => ?_))
   | exact ih0 _ _ _ _
   | exact chain_May.mono _ _ _
   | exact table_Rooms.mono _ _
   | exact LeO.none _
   | refine LeO.ite ?_ ?_
   | refine LeO.bind ?_ (fun _ => ?_)
theorem table_May.mono : ∀ a0 k, LeO (table_May.f k a0) (table_May.f (k + 1) a0) := by
 intro a0 k
 have ih0 := table_May.mono_l k
 unfold table_May.f
 repeat' first
   | (with_reducible exact ih0 _ _ _ _)
   | (with_reducible exact chain_May.mono _ _ _)
   | (with_reducible exact table_Rooms.mono _ _)
   | (with_reducible exact LeO.refl _)
   | (with_reducible exact LeO.none _)
   | (with_reducible refine LeO.ite ?_ ?_)
   | (with_reducible refine LeO.bind ?_ (fun _ => ?_))
   | exact ih0 _ _ _ _
   | exact chain_May.mono _ _ _
   | exact table_Rooms.mono _ _
   | exact LeO.none _
   | refine LeO.ite ?_ ?_
   | refine LeO.bind ?_ (fun _ => ?_)
def table_May.T4 : Bool × List (List Nat × List Nat) := (true, [([], []), ([0], [0]), ([1], [1]), ([2, 1], [2]), ([3], [3]), ([4, 3], [3, 4]), ([5, 3, 3], [3, 5]), ([6], [6]), ([7, 6], [6, 7]), ([6], [6]), ([9, 6], [6, 9]), ([6], [6]), ([11, 6], [6, 11]), ([10, 12, 6], [6, 10, 12]), ([13, 6], [6, 13]), ([14, 6], [6, 14]), ([8, 15, 6], [6, 8, 15]), ([6, 16, 3], [3, 6, 16]), ([3, 17], [3, 17])])
def table_May.B4 : List Nat := [0, 1, 3, 7, 15, 31, 63, 127, 255, 127, 639, 127, 2175, 7807, 15999, 32383, 65535, 131071, 262143]
theorem table_May.tab4 : rtab .any (opsOf Try.f89 4) = table_May.T4 := by kernel_rfl
theorem table_May.bits4 : waitsOk table_May.T4.2 table_May.B4 = true := by kernel_rfl
set_option maxHeartbeats 8000000 in
set_option maxRecDepth 100000 in
theorem table_May.calls (k : Nat) (A0_0 : Option Addr) (c0_0 : Nat) (l0_0 : List (S30)) (r : Bool) (w : World) (hr0_0 : Kd.C k30 w A0_0 l0_0.length l0_0) (hc0_0 : l0_0.length ≤ c0_0) (h : table_May.f k l0_0 = some r) :
  Calls Try.prog 89 #[.agg #[.slice A0_0 l0_0.length c0_0]] w fun e w' => e = .returned (.bool r) ∧ Below w.heap.size w w' := by
 have hu79 := Try.underlying79
 have hu30 := Try.underlying30
 have HR0_0 := mk0 hr0_0
 have HC0_0 := mk0 hc0_0
 clear hr0_0 hc0_0
 have HB := mk0 (Below.refl w.heap.size w)
 have H : (table_May.l0 k l0_0 (l0_0.length : Int) 0 l0_0) = some r := h
 clear h
 have H' := mk0 H
 clear H
 go_enter Try.func89, Try.ntmps89
 go_wp2_with (first | ((with_reducible refine gate_dst (N := 1) rfl ?_); refine bx_ (N := 1) (cs := #[.slice A0_0 l0_0.length c0_0]) (t := 79) (h := ?_); intro gb143 hg w2 hbox hb; have n2_ := mk0 (gz_ HB hg); have n3_ := mk0 (gz_ HB hg); replace HB := mk0 (bt_ (b_ HB) hb); have BK143 := mk0 (hbox); have GW143 := n2_; have GE143 := n3_; clear n2_ n3_ hb hbox hg; obtain ⟨hcz3_0, hfz3_0⟩ := c1_ BK143))
 go_loopg [8] k (fun kq v8 w' => ∃ (x8_1 : Int), v8 = .int .i64 x8_1 ∧ Fc (table_May.l0 kq l0_0 (l0_0.length : Int) x8_1 l0_0 = some r) ∧ Fc (kq ≤ k) ∧ Fc (w'.heap[gb143]? = some (.cells #[(.slice A0_0 l0_0.length c0_0)] 79 (0, 0))) ∧ Fc (Below w.heap.size w w'))
 case atStart => exact ⟨(0), (by first | rfl | (simp; done) | (simp [*]; done)), H', ⟨Nat.le_refl _⟩, ⟨h_ BK143⟩, ⟨b_ HB⟩⟩
 case round =>
  clear H'
  try clear hcz3_0
  try clear hfz3_0
  obtain ⟨x8_1, rfl, HA, HK1, BK143, HB⟩ := hrel
  cases gk with
  | zero => exact absurd HA.out (by simp [table_May.l0])
  | succ k1 =>
   have H := HA.out
   clear HA
   simp only [table_May.l0] at H
   as_aux_lemma =>
    by_cases c4 : x8_1 < (l0_0.length : Int)
    ·rw [if_pos c4] at H
     have c4b0 : decide (x8_1 < (l0_0.length : Int)) = true := decide_eq_true c4
     clear c4
     by_cases c5 : 0 ≤ x8_1
     ·rw [if_pos c5] at H
      have c5b0 : decide (0 ≤ x8_1) = true := decide_eq_true c5
      clear c5
      by_cases c6 : x8_1 < (l0_0.length : Int)
      ·rw [if_pos c6] at H
       have c6b0 : decide (x8_1 < (l0_0.length : Int)) = true := decide_eq_true c6
       clear c6
       replace H := Option.bind_eq_some_iff.mp H
       obtain ⟨t146, A70, H⟩ := H
       try dsimp only at H
       have A7 := mk0 A70
       clear A70
       by_cases c8 : t146 = true
       ·subst c8
        rw [if_pos rfl] at H
        by_cases c9 : x8_1 > 0
        ·rw [if_pos c9] at H
         have c9b0 : decide (0 < x8_1) = true := decide_eq_true c9
         clear c9
         obtain ⟨ji10, hji10⟩ : ∃ j_ : Int, (wrap64 (x8_1 - 1)) = j_ := ⟨_, rfl⟩
         replace H : (if 0 ≤ (ji10) then (if (ji10) < (l0_0.length : Int) then (if ((Op.bytesLess (((rd_T30 l0_0 (ji10)).f0).toList) (((rd_T30 l0_0 x8_1).f0).toList)) = true) then (table_May.l0 k1 l0_0 (l0_0.length : Int) (wrap64 (x8_1 + 1)) l0_0) else (some false)) else (none)) else (none)) = some r := by first | (rw [hji10] at H; exact H) | (simp only [hji10] at H ⊢; exact H)
         (try rw [hji10] at A7)
         have hji10w : (IntKind.i64.wrap (x8_1 - 1)) = ji10 := (i64_w _).trans hji10
         by_cases c11 : 0 ≤ (ji10)
         ·rw [if_pos c11] at H
          have c11b0 : decide (0 ≤ (ji10)) = true := decide_eq_true c11
          clear c11
          by_cases c12 : (ji10) < (l0_0.length : Int)
          ·rw [if_pos c12] at H
           have c12b0 : decide ((ji10) < (l0_0.length : Int)) = true := decide_eq_true c12
           clear c12
           by_cases c13 : ((Op.bytesLess (((rd_T30 l0_0 (ji10)).f0).toList) (((rd_T30 l0_0 x8_1).f0).toList)) = true)
           ·rw [if_pos c13] at H
            have c13b0 : (Op.bytesLess (((rd_T30 l0_0 (ji10)).f0).toList) (((rd_T30 l0_0 x8_1).f0).toList)) = true := c13
            have c13l0 : (Op.bytesLess (((rd_T30 l0_0 x8_1).f0).toList) (((rd_T30 l0_0 (ji10)).f0).toList) || (((rd_T30 l0_0 x8_1).f0).toList) == (((rd_T30 l0_0 (ji10)).f0).toList)) = false := by rw [leq_, c13b0]; rfl
            clear c13
            have H' := mk0 H
            clear H
            have p144 : 0 ≤ (x8_1 : Int) := of_decide_eq_true (by first | (with_reducible assumption) | assumption)
            have q144 : x8_1 < (l0_0.length : Int) := of_decide_eq_true (by first | (with_reducible assumption) | assumption)
            obtain ⟨ad144, A144_1, c144_1, e144, hx144_0, hx144_1, hl144_1, hi144_1⟩ := at_T30 HR0_0.out x8_1 p144 q144
            cases e144
            replace hx144_0 := bc_ HB hx144_0
            replace hx144_1 := bc_ HB hx144_1
            have HR144_1 := mk0 hi144_1
            have HC144_1 := mk0 hl144_1
            clear hi144_1 hl144_1
            replace p144 := eq_true p144
            replace q144 := eq_true q144
            try go_wp2_with (first | ((with_reducible refine gate_dst (N := 4) rfl ?_); refine bx_ (N := 4) (cs := #[.string (⟨#[]⟩ : ByteArray), .slice none 0 0]) (t := 30) (h := ?_); intro gb145 hg w14 hbox hb; have n3_ := mk0 (gz_ HB hg); have n4_ := mk0 (gz_ HB hg); have n5_ := mk0 (ne1_ BK143 hg); have n6_ := mk0 (ne2_ BK143 hg); replace BK143 := mk0 (u_ BK143 hb); replace HB := mk0 (bt_ (b_ HB) hb); have BK145 := mk0 (hbox); have GW145 := n3_; have GE145 := n4_; have NB143_145 := n5_; have NB145_143 := n6_; clear n3_ n4_ n5_ n6_ hb hbox hg; have hnb15 := NB145_143.out; have hnc15 := NB143_145.out; obtain ⟨hcz16_0, hcz16_1, hfz16_0, hfz16_1⟩ := c2_ BK145))
            have n0_ : Fc (((w14.setCell ⟨gb145, 0, none⟩ (.string ((rd_T30 l0_0 x8_1).f0))).setCell ⟨gb145, 1, none⟩ (.slice A144_1 ((rd_T30 l0_0 x8_1).f1).length c144_1)).heap[gb143]? = some (.cells #[.slice (some ad144) l0_0.length c0_0] 79 (0, 0))) := ⟨(fa_ (fa_ (h_ BK143) NB143_145.out) NB143_145.out)⟩
            have n1_ : Fc (((w14.setCell ⟨gb145, 0, none⟩ (.string ((rd_T30 l0_0 x8_1).f0))).setCell ⟨gb145, 1, none⟩ (.slice A144_1 ((rd_T30 l0_0 x8_1).f1).length c144_1)).heap[gb145]? = some (.cells #[.string ((rd_T30 l0_0 x8_1).f0), .slice A144_1 ((rd_T30 l0_0 x8_1).f1).length c144_1] 30 (0, 0))) := ⟨(pu_ (cs := #[.string ((rd_T30 l0_0 x8_1).f0), .slice none 0 0]) (pu_ (cs := #[.string (⟨#[]⟩ : ByteArray), .slice none 0 0]) (h_ BK145)))⟩
            have n2_ : Fc (Below w.heap.size w ((w14.setCell ⟨gb145, 0, none⟩ (.string ((rd_T30 l0_0 x8_1).f0))).setCell ⟨gb145, 1, none⟩ (.slice A144_1 ((rd_T30 l0_0 x8_1).f1).length c144_1))) := ⟨b_ HB⟩
            (try clear BK143)
            (try clear BK145)
            (try clear HB)
            generalize ((w14.setCell ⟨gb145, 0, none⟩ (.string ((rd_T30 l0_0 x8_1).f0))).setCell ⟨gb145, 1, none⟩ (.slice A144_1 ((rd_T30 l0_0 x8_1).f1).length c144_1)) = w17 at n0_ n1_ n2_ ⊢
            have BK143 := n0_
            have BK145 := n1_
            have HB := n2_
            clear n0_ n1_ n2_
            replace BK143 := mk0 (bD_ BK143.out)
            replace BK145 := mk0 (bD_ BK145.out)
            replace HB := mk0 (b1_ HB.out)
            have p147 : 0 ≤ ((ji10) : Int) := of_decide_eq_true (by first | (with_reducible assumption) | assumption)
            have q147 : (ji10) < (l0_0.length : Int) := of_decide_eq_true (by first | (with_reducible assumption) | assumption)
            obtain ⟨ad147, A147_1, c147_1, e147, hx147_0, hx147_1, hl147_1, hi147_1⟩ := at_T30 HR0_0.out (ji10) p147 q147
            have hw147_1 := hx147_1
            have hw147_0 := hx147_0
            obtain rfl : ad144 = ad147 := (by injection e147)
            replace hx147_0 := bc_ HB hx147_0
            replace hx147_1 := bc_ HB hx147_1
            have HR147_1 := mk0 hi147_1
            have HC147_1 := mk0 hl147_1
            clear hi147_1 hl147_1
            replace p147 := eq_true p147
            replace q147 := eq_true q147
            refine start_ (n := 19) (S := fun w' => w'.cell? ⟨gb145, 0, none⟩ = some (.string ((rd_T30 l0_0 x8_1).f0)) ∧ w'.cell? ⟨gb145, 1, none⟩ = some (.slice A144_1 ((rd_T30 l0_0 x8_1).f1).length c144_1) ∧ w'.cell? ⟨gb143, 0, none⟩ = some (.slice (some ad144) l0_0.length c0_0) ∧ w'.cell? (ad144.add (((ji10)).toNat * 2)) = some (.string ((rd_T30 l0_0 (ji10)).f0)) ∧ w'.cell? ⟨(ad144.add (((ji10)).toNat * 2)).block, (ad144.add (((ji10)).toNat * 2)).off + 1, none⟩ = some (.slice A147_1 ((rd_T30 l0_0 (ji10)).f1).length c147_1)) (ds := []) (bt 19 0) (by kernel_rfl) rfl rfl ⟨bk_ BK145 0, bk_ BK145 1, bk_ BK143 0, (bc_ HB hw147_0), (bc_ HB hw147_1)⟩ (fun hHeld => ?_); refine with_tabW table_May.tab4 table_May.bits4 (fun HT_ HW_ => ?_)
            generalize w17.drew = w18 at BK143 BK145 HB HR147_1 hx147_0 hx147_1 hHeld ⊢
            refine tq5_ HT_.out HW_.out 0 13 (bt 19 1) hHeld (h := ?_)
            refine one_ (i := 1) (N := some 14) (bt 19 3) rfl rfl (one_of HT_.out (by kernel_rfl)) (by decide) (fun K hK => ?_)
            refine goes_ Try.func61 (by kernel_rfl) rfl #[.agg #[.string ((rd_T30 l0_0 x8_1).f0), .slice A144_1 ((rd_T30 l0_0 x8_1).f1).length c144_1]] (by rfl) rfl rfl (by (try simp only [List.map_toArray, List.map_cons, List.map_nil]); first | done | rfl | (simp only [List.length_drop, List.length_take]; rfl)) ?_
            with_reducible refine (chain_May.calls k1 ((rd_T30 l0_0 x8_1).f0) _ _ ((rd_T30 l0_0 x8_1).f1) true _ ?side1 ?side2 A7.out).mono ?_
            (case side1 => exact cb_ HR144_1 HB)
            (case side2 => exact HC144_1.out)
            rintro e w19 ⟨rfl, hb⟩
            refine ⟨_, rfl, ?_⟩
            replace BK143 := mk0 (u_ BK143 hb)
            replace BK145 := mk0 (u_ BK145 hb)
            replace HB := mk0 (bt_ (b_ HB) hb)
            (try clear hb)
            (try clear hb2)
            (try clear hk)
            (try clear hi)
            refine hK.out _ _ ⟨bk_ BK145 0, bk_ BK145 1, bk_ BK143 0, (bc_ HB hw147_0), (bc_ HB hw147_1)⟩ (fun hHeld => ?_)
            clear hK K
            refine norm_ (a' := ?_) ?_ ?_
            rotate_left
            ·show Act.put _ (some 14) _ = _
             simp only [z_]
             rfl
            refine pq_ HT_.out 2 15 (bt 19 7) (h := ?_)
            refine pq_ HT_.out 3 16 (bt 19 15) (h := ?_)
            refine pq_ HT_.out 4 17 (bt 19 31) (h := ?_)
            refine pq_ HT_.out 5 18 (bt 19 63) (h := ?_)
            refine pq_ HT_.out 6 19 (bt 19 127) (h := ?_)
            refine pq_ HT_.out 7 20 (bt 19 255) (h := ?_)
            refine pq_ HT_.out 9 22 (bt 19 767) (h := ?_)
            refine pq_ HT_.out 11 24 (bt 19 2815) (h := ?_)
            refine pq_ HT_.out 12 25 (bt 19 6911) (h := ?_)
            refine tq5_ HT_.out HW_.out 8 21 (bt 19 7167) hHeld (h := ?_)
            refine tq5_ HT_.out HW_.out 10 23 (bt 19 8191) hHeld (h := ?_)
            refine pq_ HT_.out 13 26 (bt 19 16383) (h := ?_)
            refine pq_ HT_.out 14 27 (bt 19 32767) (h := ?_)
            refine tq5_ HT_.out HW_.out 15 28 (bt 19 65535) hHeld (h := ?_)
            refine pq_ HT_.out 16 29 (bt 19 131071) (h := ?_)
            refine pq_ HT_.out 17 30 (bt 19 262143) (h := ?_)
            refine pq_ HT_.out 18 31 (bt 19 524287) (h := ?_)
            refine done_ (done_of HT_.out (by kernel_rfl)) ?_
            try go_wp2
            go_roundg k1
            case measure => have := HK1.out; omega
            case rel => exact ⟨(wrap64 (x8_1 + 1)), (by first | rfl | (simp; done) | (simp [*]; done)), H', ⟨by have := HK1.out; omega⟩, ⟨h_ BK143⟩, ⟨b_ HB⟩⟩
           ·rw [if_neg c13] at H
            have c13b0 : (Op.bytesLess (((rd_T30 l0_0 (ji10)).f0).toList) (((rd_T30 l0_0 x8_1).f0).toList)) = false := by simpa using c13
            have c13l0 : (Op.bytesLess (((rd_T30 l0_0 x8_1).f0).toList) (((rd_T30 l0_0 (ji10)).f0).toList) || (((rd_T30 l0_0 x8_1).f0).toList) == (((rd_T30 l0_0 (ji10)).f0).toList)) = true := by rw [leq_, c13b0]; rfl
            clear c13
            obtain rfl := Option.some.inj H
            have p144 : 0 ≤ (x8_1 : Int) := of_decide_eq_true (by first | (with_reducible assumption) | assumption)
            have q144 : x8_1 < (l0_0.length : Int) := of_decide_eq_true (by first | (with_reducible assumption) | assumption)
            obtain ⟨ad144, A144_1, c144_1, e144, hx144_0, hx144_1, hl144_1, hi144_1⟩ := at_T30 HR0_0.out x8_1 p144 q144
            cases e144
            replace hx144_0 := bc_ HB hx144_0
            replace hx144_1 := bc_ HB hx144_1
            have HR144_1 := mk0 hi144_1
            have HC144_1 := mk0 hl144_1
            clear hi144_1 hl144_1
            replace p144 := eq_true p144
            replace q144 := eq_true q144
            try go_wp2_with (first | ((with_reducible refine gate_dst (N := 4) rfl ?_); refine bx_ (N := 4) (cs := #[.string (⟨#[]⟩ : ByteArray), .slice none 0 0]) (t := 30) (h := ?_); intro gb145 hg w20 hbox hb; have n3_ := mk0 (gz_ HB hg); have n4_ := mk0 (gz_ HB hg); have n5_ := mk0 (ne1_ BK143 hg); have n6_ := mk0 (ne2_ BK143 hg); replace BK143 := mk0 (u_ BK143 hb); replace HB := mk0 (bt_ (b_ HB) hb); have BK145 := mk0 (hbox); have GW145 := n3_; have GE145 := n4_; have NB143_145 := n5_; have NB145_143 := n6_; clear n3_ n4_ n5_ n6_ hb hbox hg; have hnb21 := NB145_143.out; have hnc21 := NB143_145.out; obtain ⟨hcz22_0, hcz22_1, hfz22_0, hfz22_1⟩ := c2_ BK145))
            have n0_ : Fc (((w20.setCell ⟨gb145, 0, none⟩ (.string ((rd_T30 l0_0 x8_1).f0))).setCell ⟨gb145, 1, none⟩ (.slice A144_1 ((rd_T30 l0_0 x8_1).f1).length c144_1)).heap[gb143]? = some (.cells #[.slice (some ad144) l0_0.length c0_0] 79 (0, 0))) := ⟨(fa_ (fa_ (h_ BK143) NB143_145.out) NB143_145.out)⟩
            have n1_ : Fc (((w20.setCell ⟨gb145, 0, none⟩ (.string ((rd_T30 l0_0 x8_1).f0))).setCell ⟨gb145, 1, none⟩ (.slice A144_1 ((rd_T30 l0_0 x8_1).f1).length c144_1)).heap[gb145]? = some (.cells #[.string ((rd_T30 l0_0 x8_1).f0), .slice A144_1 ((rd_T30 l0_0 x8_1).f1).length c144_1] 30 (0, 0))) := ⟨(pu_ (cs := #[.string ((rd_T30 l0_0 x8_1).f0), .slice none 0 0]) (pu_ (cs := #[.string (⟨#[]⟩ : ByteArray), .slice none 0 0]) (h_ BK145)))⟩
            have n2_ : Fc (Below w.heap.size w ((w20.setCell ⟨gb145, 0, none⟩ (.string ((rd_T30 l0_0 x8_1).f0))).setCell ⟨gb145, 1, none⟩ (.slice A144_1 ((rd_T30 l0_0 x8_1).f1).length c144_1))) := ⟨b_ HB⟩
            (try clear BK143)
            (try clear BK145)
            (try clear HB)
            generalize ((w20.setCell ⟨gb145, 0, none⟩ (.string ((rd_T30 l0_0 x8_1).f0))).setCell ⟨gb145, 1, none⟩ (.slice A144_1 ((rd_T30 l0_0 x8_1).f1).length c144_1)) = w23 at n0_ n1_ n2_ ⊢
            have BK143 := n0_
            have BK145 := n1_
            have HB := n2_
            clear n0_ n1_ n2_
            replace BK143 := mk0 (bD_ BK143.out)
            replace BK145 := mk0 (bD_ BK145.out)
            replace HB := mk0 (b1_ HB.out)
            have p147 : 0 ≤ ((ji10) : Int) := of_decide_eq_true (by first | (with_reducible assumption) | assumption)
            have q147 : (ji10) < (l0_0.length : Int) := of_decide_eq_true (by first | (with_reducible assumption) | assumption)
            obtain ⟨ad147, A147_1, c147_1, e147, hx147_0, hx147_1, hl147_1, hi147_1⟩ := at_T30 HR0_0.out (ji10) p147 q147
            have hw147_1 := hx147_1
            have hw147_0 := hx147_0
            obtain rfl : ad144 = ad147 := (by injection e147)
            replace hx147_0 := bc_ HB hx147_0
            replace hx147_1 := bc_ HB hx147_1
            have HR147_1 := mk0 hi147_1
            have HC147_1 := mk0 hl147_1
            clear hi147_1 hl147_1
            replace p147 := eq_true p147
            replace q147 := eq_true q147
            refine start_ (n := 19) (S := fun w' => w'.cell? ⟨gb145, 0, none⟩ = some (.string ((rd_T30 l0_0 x8_1).f0)) ∧ w'.cell? ⟨gb145, 1, none⟩ = some (.slice A144_1 ((rd_T30 l0_0 x8_1).f1).length c144_1) ∧ w'.cell? ⟨gb143, 0, none⟩ = some (.slice (some ad144) l0_0.length c0_0) ∧ w'.cell? (ad144.add (((ji10)).toNat * 2)) = some (.string ((rd_T30 l0_0 (ji10)).f0)) ∧ w'.cell? ⟨(ad144.add (((ji10)).toNat * 2)).block, (ad144.add (((ji10)).toNat * 2)).off + 1, none⟩ = some (.slice A147_1 ((rd_T30 l0_0 (ji10)).f1).length c147_1)) (ds := []) (bt 19 0) (by kernel_rfl) rfl rfl ⟨bk_ BK145 0, bk_ BK145 1, bk_ BK143 0, (bc_ HB hw147_0), (bc_ HB hw147_1)⟩ (fun hHeld => ?_); refine with_tabW table_May.tab4 table_May.bits4 (fun HT_ HW_ => ?_)
            generalize w23.drew = w24 at BK143 BK145 HB HR147_1 hx147_0 hx147_1 hHeld ⊢
            refine tq5_ HT_.out HW_.out 0 13 (bt 19 1) hHeld (h := ?_)
            refine one_ (i := 1) (N := some 14) (bt 19 3) rfl rfl (one_of HT_.out (by kernel_rfl)) (by decide) (fun K hK => ?_)
            refine goes_ Try.func61 (by kernel_rfl) rfl #[.agg #[.string ((rd_T30 l0_0 x8_1).f0), .slice A144_1 ((rd_T30 l0_0 x8_1).f1).length c144_1]] (by rfl) rfl rfl (by (try simp only [List.map_toArray, List.map_cons, List.map_nil]); first | done | rfl | (simp only [List.length_drop, List.length_take]; rfl)) ?_
            with_reducible refine (chain_May.calls k1 ((rd_T30 l0_0 x8_1).f0) _ _ ((rd_T30 l0_0 x8_1).f1) true _ ?side1 ?side2 A7.out).mono ?_
            (case side1 => exact cb_ HR144_1 HB)
            (case side2 => exact HC144_1.out)
            rintro e w25 ⟨rfl, hb⟩
            refine ⟨_, rfl, ?_⟩
            replace BK143 := mk0 (u_ BK143 hb)
            replace BK145 := mk0 (u_ BK145 hb)
            replace HB := mk0 (bt_ (b_ HB) hb)
            (try clear hb)
            (try clear hb2)
            (try clear hk)
            (try clear hi)
            refine hK.out _ _ ⟨bk_ BK145 0, bk_ BK145 1, bk_ BK143 0, (bc_ HB hw147_0), (bc_ HB hw147_1)⟩ (fun hHeld => ?_)
            clear hK K
            refine norm_ (a' := ?_) ?_ ?_
            rotate_left
            ·show Act.put _ (some 14) _ = _
             simp only [z_]
             rfl
            refine pq_ HT_.out 2 15 (bt 19 7) (h := ?_)
            refine pq_ HT_.out 3 16 (bt 19 15) (h := ?_)
            refine pq_ HT_.out 4 17 (bt 19 31) (h := ?_)
            refine pq_ HT_.out 5 18 (bt 19 63) (h := ?_)
            refine pq_ HT_.out 6 19 (bt 19 127) (h := ?_)
            refine pq_ HT_.out 7 20 (bt 19 255) (h := ?_)
            refine pq_ HT_.out 9 22 (bt 19 767) (h := ?_)
            refine pq_ HT_.out 11 24 (bt 19 2815) (h := ?_)
            refine pq_ HT_.out 12 25 (bt 19 6911) (h := ?_)
            refine tq5_ HT_.out HW_.out 8 21 (bt 19 7167) hHeld (h := ?_)
            refine tq5_ HT_.out HW_.out 10 23 (bt 19 8191) hHeld (h := ?_)
            refine pq_ HT_.out 13 26 (bt 19 16383) (h := ?_)
            refine pq_ HT_.out 14 27 (bt 19 32767) (h := ?_)
            refine tq5_ HT_.out HW_.out 15 28 (bt 19 65535) hHeld (h := ?_)
            refine pq_ HT_.out 16 29 (bt 19 131071) (h := ?_)
            refine pq_ HT_.out 17 30 (bt 19 262143) (h := ?_)
            refine pq_ HT_.out 18 31 (bt 19 524287) (h := ?_)
            refine done_ (done_of HT_.out (by kernel_rfl)) ?_
            try go_wp2
            go_ret
            exact ⟨by first | rfl | (simp [errW_none, errW_some] <;> rfl) | (simp only [← hji10]; first | rfl | (simp [errW_none, errW_some] <;> rfl)) | (simp [*, errW_none, errW_some] <;> rfl), b_ HB⟩
          ·rw [if_neg c12] at H
           exact absurd H (by simp)
         ·rw [if_neg c11] at H
          exact absurd H (by simp)
        ·rw [if_neg c9] at H
         have c9b0 : decide (0 < x8_1) = false := decide_eq_false c9
         clear c9
         have H' := mk0 H
         clear H
         have p144 : 0 ≤ (x8_1 : Int) := of_decide_eq_true (by first | (with_reducible assumption) | assumption)
         have q144 : x8_1 < (l0_0.length : Int) := of_decide_eq_true (by first | (with_reducible assumption) | assumption)
         obtain ⟨ad144, A144_1, c144_1, e144, hx144_0, hx144_1, hl144_1, hi144_1⟩ := at_T30 HR0_0.out x8_1 p144 q144
         cases e144
         replace hx144_0 := bc_ HB hx144_0
         replace hx144_1 := bc_ HB hx144_1
         have HR144_1 := mk0 hi144_1
         have HC144_1 := mk0 hl144_1
         clear hi144_1 hl144_1
         replace p144 := eq_true p144
         replace q144 := eq_true q144
         try go_wp2_with (first | ((with_reducible refine gate_dst (N := 4) rfl ?_); refine bx_ (N := 4) (cs := #[.string (⟨#[]⟩ : ByteArray), .slice none 0 0]) (t := 30) (h := ?_); intro gb145 hg w26 hbox hb; have n3_ := mk0 (gz_ HB hg); have n4_ := mk0 (gz_ HB hg); have n5_ := mk0 (ne1_ BK143 hg); have n6_ := mk0 (ne2_ BK143 hg); replace BK143 := mk0 (u_ BK143 hb); replace HB := mk0 (bt_ (b_ HB) hb); have BK145 := mk0 (hbox); have GW145 := n3_; have GE145 := n4_; have NB143_145 := n5_; have NB145_143 := n6_; clear n3_ n4_ n5_ n6_ hb hbox hg; have hnb27 := NB145_143.out; have hnc27 := NB143_145.out; obtain ⟨hcz28_0, hcz28_1, hfz28_0, hfz28_1⟩ := c2_ BK145))
         have n0_ : Fc (((w26.setCell ⟨gb145, 0, none⟩ (.string ((rd_T30 l0_0 x8_1).f0))).setCell ⟨gb145, 1, none⟩ (.slice A144_1 ((rd_T30 l0_0 x8_1).f1).length c144_1)).heap[gb143]? = some (.cells #[.slice (some ad144) l0_0.length c0_0] 79 (0, 0))) := ⟨(fa_ (fa_ (h_ BK143) NB143_145.out) NB143_145.out)⟩
         have n1_ : Fc (((w26.setCell ⟨gb145, 0, none⟩ (.string ((rd_T30 l0_0 x8_1).f0))).setCell ⟨gb145, 1, none⟩ (.slice A144_1 ((rd_T30 l0_0 x8_1).f1).length c144_1)).heap[gb145]? = some (.cells #[.string ((rd_T30 l0_0 x8_1).f0), .slice A144_1 ((rd_T30 l0_0 x8_1).f1).length c144_1] 30 (0, 0))) := ⟨(pu_ (cs := #[.string ((rd_T30 l0_0 x8_1).f0), .slice none 0 0]) (pu_ (cs := #[.string (⟨#[]⟩ : ByteArray), .slice none 0 0]) (h_ BK145)))⟩
         have n2_ : Fc (Below w.heap.size w ((w26.setCell ⟨gb145, 0, none⟩ (.string ((rd_T30 l0_0 x8_1).f0))).setCell ⟨gb145, 1, none⟩ (.slice A144_1 ((rd_T30 l0_0 x8_1).f1).length c144_1))) := ⟨b_ HB⟩
         (try clear BK143)
         (try clear BK145)
         (try clear HB)
         generalize ((w26.setCell ⟨gb145, 0, none⟩ (.string ((rd_T30 l0_0 x8_1).f0))).setCell ⟨gb145, 1, none⟩ (.slice A144_1 ((rd_T30 l0_0 x8_1).f1).length c144_1)) = w29 at n0_ n1_ n2_ ⊢
         have BK143 := n0_
         have BK145 := n1_
         have HB := n2_
         clear n0_ n1_ n2_
         replace BK143 := mk0 (bD_ BK143.out)
         replace BK145 := mk0 (bD_ BK145.out)
         replace HB := mk0 (b1_ HB.out)
         refine start_ (n := 19) (S := fun w' => w'.cell? ⟨gb145, 0, none⟩ = some (.string ((rd_T30 l0_0 x8_1).f0)) ∧ w'.cell? ⟨gb145, 1, none⟩ = some (.slice A144_1 ((rd_T30 l0_0 x8_1).f1).length c144_1)) (ds := []) (bt 19 0) (by kernel_rfl) rfl rfl ⟨bk_ BK145 0, bk_ BK145 1⟩ (fun hHeld => ?_); refine with_tabW table_May.tab4 table_May.bits4 (fun HT_ HW_ => ?_)
         generalize w29.drew = w30 at BK143 BK145 HB hHeld ⊢
         refine tq2_ HT_.out HW_.out 0 13 (bt 19 1) hHeld (h := ?_)
         refine one_ (i := 1) (N := some 14) (bt 19 3) rfl rfl (one_of HT_.out (by kernel_rfl)) (by decide) (fun K hK => ?_)
         refine goes_ Try.func61 (by kernel_rfl) rfl #[.agg #[.string ((rd_T30 l0_0 x8_1).f0), .slice A144_1 ((rd_T30 l0_0 x8_1).f1).length c144_1]] (by rfl) rfl rfl (by (try simp only [List.map_toArray, List.map_cons, List.map_nil]); first | done | rfl | (simp only [List.length_drop, List.length_take]; rfl)) ?_
         with_reducible refine (chain_May.calls k1 ((rd_T30 l0_0 x8_1).f0) _ _ ((rd_T30 l0_0 x8_1).f1) true _ ?side1 ?side2 A7.out).mono ?_
         (case side1 => exact cb_ HR144_1 HB)
         (case side2 => exact HC144_1.out)
         rintro e w31 ⟨rfl, hb⟩
         refine ⟨_, rfl, ?_⟩
         replace BK143 := mk0 (u_ BK143 hb)
         replace BK145 := mk0 (u_ BK145 hb)
         replace HB := mk0 (bt_ (b_ HB) hb)
         (try clear hb)
         (try clear hb2)
         (try clear hk)
         (try clear hi)
         refine hK.out _ _ ⟨bk_ BK145 0, bk_ BK145 1⟩ (fun hHeld => ?_)
         clear hK K
         refine norm_ (a' := ?_) ?_ ?_
         rotate_left
         ·show Act.put _ (some 14) _ = _
          simp only [z_]
          rfl
         refine pq_ HT_.out 2 15 (bt 19 7) (h := ?_)
         refine pq_ HT_.out 3 16 (bt 19 15) (h := ?_)
         refine pq_ HT_.out 4 17 (bt 19 31) (h := ?_)
         refine pq_ HT_.out 5 18 (bt 19 63) (h := ?_)
         refine pq_ HT_.out 6 19 (bt 19 127) (h := ?_)
         refine uq_ HT_.out 7 20 (bt 19 255) (h := ?_)
         refine uq_ HT_.out 8 21 (bt 19 511) (h := ?_)
         refine uq_ HT_.out 9 22 (bt 19 1023) (h := ?_)
         refine uq_ HT_.out 10 23 (bt 19 2047) (h := ?_)
         refine uq_ HT_.out 11 24 (bt 19 4095) (h := ?_)
         refine uq_ HT_.out 12 25 (bt 19 8191) (h := ?_)
         refine uq_ HT_.out 13 26 (bt 19 16383) (h := ?_)
         refine uq_ HT_.out 14 27 (bt 19 32767) (h := ?_)
         refine uq_ HT_.out 15 28 (bt 19 65535) (h := ?_)
         refine uq_ HT_.out 16 29 (bt 19 131071) (h := ?_)
         refine pq_ HT_.out 17 30 (bt 19 262143) (h := ?_)
         refine pq_ HT_.out 18 31 (bt 19 524287) (h := ?_)
         refine done_ (done_of HT_.out (by kernel_rfl)) ?_
         try go_wp2
         go_roundg k1
         case measure => have := HK1.out; omega
         case rel => exact ⟨(wrap64 (x8_1 + 1)), (by first | rfl | (simp; done) | (simp [*]; done)), H', ⟨by have := HK1.out; omega⟩, ⟨h_ BK143⟩, ⟨b_ HB⟩⟩
       ·replace c8 := Bool.eq_false_iff.mpr c8
        subst c8
        rw [if_neg (show ¬ (false = true) by decide)] at H
        obtain rfl := Option.some.inj H
        have p144 : 0 ≤ (x8_1 : Int) := of_decide_eq_true (by first | (with_reducible assumption) | assumption)
        have q144 : x8_1 < (l0_0.length : Int) := of_decide_eq_true (by first | (with_reducible assumption) | assumption)
        obtain ⟨ad144, A144_1, c144_1, e144, hx144_0, hx144_1, hl144_1, hi144_1⟩ := at_T30 HR0_0.out x8_1 p144 q144
        cases e144
        replace hx144_0 := bc_ HB hx144_0
        replace hx144_1 := bc_ HB hx144_1
        have HR144_1 := mk0 hi144_1
        have HC144_1 := mk0 hl144_1
        clear hi144_1 hl144_1
        replace p144 := eq_true p144
        replace q144 := eq_true q144
        try go_wp2_with (first | ((with_reducible refine gate_dst (N := 4) rfl ?_); refine bx_ (N := 4) (cs := #[.string (⟨#[]⟩ : ByteArray), .slice none 0 0]) (t := 30) (h := ?_); intro gb145 hg w32 hbox hb; have n3_ := mk0 (gz_ HB hg); have n4_ := mk0 (gz_ HB hg); have n5_ := mk0 (ne1_ BK143 hg); have n6_ := mk0 (ne2_ BK143 hg); replace BK143 := mk0 (u_ BK143 hb); replace HB := mk0 (bt_ (b_ HB) hb); have BK145 := mk0 (hbox); have GW145 := n3_; have GE145 := n4_; have NB143_145 := n5_; have NB145_143 := n6_; clear n3_ n4_ n5_ n6_ hb hbox hg; have hnb33 := NB145_143.out; have hnc33 := NB143_145.out; obtain ⟨hcz34_0, hcz34_1, hfz34_0, hfz34_1⟩ := c2_ BK145))
        have n0_ : Fc (((w32.setCell ⟨gb145, 0, none⟩ (.string ((rd_T30 l0_0 x8_1).f0))).setCell ⟨gb145, 1, none⟩ (.slice A144_1 ((rd_T30 l0_0 x8_1).f1).length c144_1)).heap[gb143]? = some (.cells #[.slice (some ad144) l0_0.length c0_0] 79 (0, 0))) := ⟨(fa_ (fa_ (h_ BK143) NB143_145.out) NB143_145.out)⟩
        have n1_ : Fc (((w32.setCell ⟨gb145, 0, none⟩ (.string ((rd_T30 l0_0 x8_1).f0))).setCell ⟨gb145, 1, none⟩ (.slice A144_1 ((rd_T30 l0_0 x8_1).f1).length c144_1)).heap[gb145]? = some (.cells #[.string ((rd_T30 l0_0 x8_1).f0), .slice A144_1 ((rd_T30 l0_0 x8_1).f1).length c144_1] 30 (0, 0))) := ⟨(pu_ (cs := #[.string ((rd_T30 l0_0 x8_1).f0), .slice none 0 0]) (pu_ (cs := #[.string (⟨#[]⟩ : ByteArray), .slice none 0 0]) (h_ BK145)))⟩
        have n2_ : Fc (Below w.heap.size w ((w32.setCell ⟨gb145, 0, none⟩ (.string ((rd_T30 l0_0 x8_1).f0))).setCell ⟨gb145, 1, none⟩ (.slice A144_1 ((rd_T30 l0_0 x8_1).f1).length c144_1))) := ⟨b_ HB⟩
        (try clear BK143)
        (try clear BK145)
        (try clear HB)
        generalize ((w32.setCell ⟨gb145, 0, none⟩ (.string ((rd_T30 l0_0 x8_1).f0))).setCell ⟨gb145, 1, none⟩ (.slice A144_1 ((rd_T30 l0_0 x8_1).f1).length c144_1)) = w35 at n0_ n1_ n2_ ⊢
        have BK143 := n0_
        have BK145 := n1_
        have HB := n2_
        clear n0_ n1_ n2_
        replace BK143 := mk0 (bD_ BK143.out)
        replace BK145 := mk0 (bD_ BK145.out)
        replace HB := mk0 (b1_ HB.out)
        refine start_ (n := 19) (S := fun w' => w'.cell? ⟨gb145, 0, none⟩ = some (.string ((rd_T30 l0_0 x8_1).f0)) ∧ w'.cell? ⟨gb145, 1, none⟩ = some (.slice A144_1 ((rd_T30 l0_0 x8_1).f1).length c144_1)) (ds := []) (bt 19 0) (by kernel_rfl) rfl rfl ⟨bk_ BK145 0, bk_ BK145 1⟩ (fun hHeld => ?_); refine with_tabW table_May.tab4 table_May.bits4 (fun HT_ HW_ => ?_)
        generalize w35.drew = w36 at BK143 BK145 HB hHeld ⊢
        refine tq2_ HT_.out HW_.out 0 13 (bt 19 1) hHeld (h := ?_)
        refine one_ (i := 1) (N := some 14) (bt 19 3) rfl rfl (one_of HT_.out (by kernel_rfl)) (by decide) (fun K hK => ?_)
        refine goes_ Try.func61 (by kernel_rfl) rfl #[.agg #[.string ((rd_T30 l0_0 x8_1).f0), .slice A144_1 ((rd_T30 l0_0 x8_1).f1).length c144_1]] (by rfl) rfl rfl (by (try simp only [List.map_toArray, List.map_cons, List.map_nil]); first | done | rfl | (simp only [List.length_drop, List.length_take]; rfl)) ?_
        with_reducible refine (chain_May.calls k1 ((rd_T30 l0_0 x8_1).f0) _ _ ((rd_T30 l0_0 x8_1).f1) false _ ?side1 ?side2 A7.out).mono ?_
        (case side1 => exact cb_ HR144_1 HB)
        (case side2 => exact HC144_1.out)
        rintro e w37 ⟨rfl, hb⟩
        refine ⟨_, rfl, ?_⟩
        replace BK143 := mk0 (u_ BK143 hb)
        replace BK145 := mk0 (u_ BK145 hb)
        replace HB := mk0 (bt_ (b_ HB) hb)
        (try clear hb)
        (try clear hb2)
        (try clear hk)
        (try clear hi)
        refine hK.out _ _ ⟨bk_ BK145 0, bk_ BK145 1⟩ (fun hHeld => ?_)
        clear hK K
        refine norm_ (a' := ?_) ?_ ?_
        rotate_left
        ·show Act.put _ (some 14) _ = _
         simp only [z_]
         rfl
        refine pq_ HT_.out 2 15 (bt 19 7) (h := ?_)
        refine pq_ HT_.out 3 16 (bt 19 15) (h := ?_)
        refine uq_ HT_.out 4 17 (bt 19 31) (h := ?_)
        refine uq_ HT_.out 5 18 (bt 19 63) (h := ?_)
        refine uq_ HT_.out 6 19 (bt 19 127) (h := ?_)
        refine uq_ HT_.out 7 20 (bt 19 255) (h := ?_)
        refine uq_ HT_.out 8 21 (bt 19 511) (h := ?_)
        refine uq_ HT_.out 9 22 (bt 19 1023) (h := ?_)
        refine uq_ HT_.out 10 23 (bt 19 2047) (h := ?_)
        refine uq_ HT_.out 11 24 (bt 19 4095) (h := ?_)
        refine uq_ HT_.out 12 25 (bt 19 8191) (h := ?_)
        refine uq_ HT_.out 13 26 (bt 19 16383) (h := ?_)
        refine uq_ HT_.out 14 27 (bt 19 32767) (h := ?_)
        refine uq_ HT_.out 15 28 (bt 19 65535) (h := ?_)
        refine uq_ HT_.out 16 29 (bt 19 131071) (h := ?_)
        refine uq_ HT_.out 17 30 (bt 19 262143) (h := ?_)
        refine pq_ HT_.out 18 31 (bt 19 524287) (h := ?_)
        refine done_ (done_of HT_.out (by kernel_rfl)) ?_
        try go_wp2
        go_ret
        exact ⟨by first | rfl | (simp [errW_none, errW_some] <;> rfl) | (simp [*, errW_none, errW_some] <;> rfl), b_ HB⟩
      ·rw [if_neg c6] at H
       exact absurd H (by simp)
     ·rw [if_neg c5] at H
      exact absurd H (by simp)
    ·rw [if_neg c4] at H
     have c4b0 : decide (x8_1 < (l0_0.length : Int)) = false := decide_eq_false c4
     clear c4
     replace H := Option.bind_eq_some_iff.mp H
     obtain ⟨t148, A380, H⟩ := H
     try dsimp only at H
     have A38 := mk0 A380
     clear A380
     obtain rfl := Option.some.inj H
     obtain ⟨hcz39_0, hfz39_0⟩ := c1_ BK143
     go_wp2_with (first | ((with_reducible refine gate_callee (f := 134) rfl ?_); refine gL_ (some 34) Try.func134 #[.agg #[.slice A0_0 l0_0.length c0_0]] (h := ?_); (with_reducible refine (table_Rooms.calls k1 _ _ l0_0 t148 _ ?side1 ?side2 A38.out).mono ?_); (case side1 => exact cb_ HR0_0 HB); (case side2 => exact HC0_0.out); rintro e w40 ⟨rfl, hb⟩; refine ⟨_, rfl, ?_⟩; replace BK143 := mk0 (u_ BK143 hb); replace HB := mk0 (bt_ (b_ HB) hb); (try clear hb)))
     go_ret
     exact ⟨by first | rfl | (simp [errW_none, errW_some] <;> rfl) | (simp [*, errW_none, errW_some] <;> rfl), b_ HB⟩

-- NOT PRINTED: function 157 (api_Version_157)

/-! ### chain_place: function 120 (by hand) -/
def idxRes_v {α : Type} (pred : α → Bool) (l : List α) : Int := if l.findIdx pred < l.length then (l.findIdx pred : Int) else -1
set_option maxHeartbeats 800000 in
set_option maxRecDepth 100000 in
theorem idx_v.calls_ (pred : S39 → Bool) (F : Nat) (cap : Value) (A0 : Option Addr) (c0 : Nat) (l0 : List S39) (w : World) (hr0 : Kd.C k39 w A0 l0.length l0) (hc0 : l0.length ≤ c0)
    (eg : ∀ args w, (callFunc F args).run Try.prog w = .ok (.enter F args) w)
    (HP : ∀ (x : S39) (W : World), Below w.heap.size w W → Calls Try.prog F #[.agg #[.int .i64 x.f0, .string x.f1, .bool x.f2], cap] W fun e W' => e = .returned (.bool (pred x)) ∧ Below w.heap.size w W') :
    Calls Try.prog 157 #[.slice A0 l0.length c0, .func (Fn.func F) #[] #[cap]] w fun e w' => e = .returned (.int .i64 (idxRes_v pred l0)) ∧ Below w.heap.size w w' := by
  have HR0 := Aside0.mk hr0
  have HC0 := Aside0.mk hc0
  have hlen := hr0.2.1
  clear hr0 hc0
  have HPA := Aside0.mk HP
  clear HP
  have HB := Aside0.mk (Below.refl w.heap.size w)
  go_enter Try.func157, Try.ntmps157
  go_wp2
  go_loopg [5, 8] l0.length (fun kq _ v8 w' => ∃ (i : Nat), v8 = .int .i64 i ∧ Aside0 (kq + i = l0.length) ∧ Aside0 (∀ j (h2 : j < l0.length) (h : j < i), pred (l0[j]) = false) ∧ Aside0 (Below w.heap.size w w'))
  case atStart => exact ⟨0, rfl, ⟨by omega⟩, ⟨fun j _ h => by omega⟩, HB⟩
  case round =>
    clear HB
    obtain ⟨i, rfl, HK, HN, HB⟩ := hrel
    by_cases hi : i < l0.length
    · have p200 : (0:Int) ≤ (i : Int) := by omega
      have q200 : (i:Int) < (l0.length : Int) := by omega
      obtain ⟨ad200, e200, hx200_0, hx200_1, hx200_2⟩ := at_T39 HR0.out (i:Int) p200 q200
      cases e200
      replace hx200_0 := (HB.out.cell (World.block_lt_of_cell? w _ hx200_0)).trans hx200_0
      replace hx200_1 := (HB.out.cell (World.block_lt_of_cell? w _ hx200_1)).trans hx200_1
      replace hx200_2 := (HB.out.cell (World.block_lt_of_cell? w _ hx200_2)).trans hx200_2
      simp only [Int.toNat_natCast] at hx200_0 hx200_1 hx200_2
      have hcall := HPA.out (rd_T39 l0 i) wr HB.out
      have hrd : rd_T39 l0 i = l0[i] := by simp [rd_T39, hi]
      have HRD := Aside0.mk hrd
      clear hrd
      cases hq : pred (rd_T39 l0 i) with
      | true =>
        rw [hq] at hcall
        have HQ := Aside0.mk hq
        clear hq
        go_wp2_with ((with_reducible refine hcall.mono ?_); rintro e w' ⟨rfl, hb'⟩)
        go_ret
        have e1 : l0.findIdx pred = i := (List.findIdx_eq hi).2 ⟨by rw [← HRD.out]; exact HQ.out, fun j hj => HN.out j (by omega) hj⟩
        exact ⟨by unfold idxRes_v; rw [e1, if_pos hi]; rfl, hb'⟩
      | false =>
        rw [hq] at hcall
        have HQ := Aside0.mk hq
        clear hq
        go_wp2_with ((with_reducible refine hcall.mono ?_); rintro e w' ⟨rfl, hb'⟩)
        go_roundg (gk - 1)
        case measure => have := HK.out; omega
        case rel =>
          refine ⟨i + 1, by go_num, ⟨by have := HK.out; omega⟩, ⟨fun j h2 h => ?_⟩, ⟨hb'⟩⟩
          rcases Nat.lt_or_ge j i with hj | hj
          · exact HN.out j h2 hj
          · obtain rfl : j = i := by omega
            rw [← HRD.out]; exact HQ.out
    · have hltz : ¬ (i : Int) < (l0.length : Int) := by omega
      go_wp2
      go_ret
      have hil : i = l0.length := by have := HK.out; omega
      have e1 : l0.findIdx pred = l0.length := List.findIdx_eq_length.2 (fun x hx => by
        obtain ⟨j, hj, rfl⟩ := List.mem_iff_getElem.1 hx
        exact HN.out j hj (by omega))
      exact ⟨by unfold idxRes_v; rw [e1, if_neg (Nat.lt_irrefl _)]; rfl, HB.out⟩
set_option maxHeartbeats 400000 in
theorem chain_place.clo (n : Int) (B : Nat) (w : World) (hB : B < w.heap.size) (hcell : w.cell? ⟨B, 0, none⟩ = some (.int .i64 n)) (x : S39) (W : World) (hb : Below w.heap.size w W) :
    Calls Try.prog 158 #[.agg #[.int .i64 x.f0, .string x.f1, .bool x.f2], .pointer (some ⟨B, 0, none⟩)] W fun e W' => e = .returned (.bool (decide (x.f0 ≤ n))) ∧ Below w.heap.size w W' := by
  have hc : W.cell? ⟨B, 0, none⟩ = some (.int .i64 n) := (hb.cell (p := ⟨B, 0, none⟩) hB).trans hcell
  have hBW : B < W.heap.size := Nat.lt_of_lt_of_le hB hb.size
  have hne : B ≠ W.heap.size := by omega
  go_enter Try.func158, Try.ntmps158
  go_wp2
  all_goals (go_ret; exact ⟨by simp_all, hb.alloc hb.size _⟩)

def chain_place.f (a0_0 : ByteArray) (l0_1 : List S39) (a1 : Int) : Option Int := some (l0_1.findIdx (fun v => decide (v.f0 ≤ a1)) : Int)
set_option maxHeartbeats 800000 in
set_option maxRecDepth 100000 in
theorem chain_place.calls (a0_0 : ByteArray) (A0_1 : Option Addr) (c0_1 : Nat) (l0_1 : List S39) (a1 : Int) (r : Int) (w : World) (hr0_1 : Kd.C k39 w A0_1 l0_1.length l0_1) (hc0_1 : l0_1.length ≤ c0_1) (h : chain_place.f a0_0 l0_1 a1 = some r) :
    Calls Try.prog 120 #[.agg #[.string a0_0, .slice A0_1 l0_1.length c0_1], .int .i64 a1] w fun e w' => e = .returned (.int .i64 r) ∧ Below w.heap.size w w' := by
  have hu31 := Try.underlying30
  have eg : ∀ args w, (callFunc 158 args).run Try.prog w = .ok (.enter 158 args) w := enters_of Try.func158 (by kernel_rfl) rfl
  have hmf : ∀ (fn : Fn) (first cap : Array Value) (w : World), (Instr.makeFunc fn first cap).run Try.prog w = .ok (.func fn first cap) w := fun _ _ _ _ => rfl
  have hw2 : Below w.heap.size w ((w.alloc (.cells #[.string a0_0, .slice A0_1 l0_1.length c0_1] 30)).alloc (.cells #[.int .i64 a1] 3)) := below_alloc (below_alloc (Below.refl _ _) _) _
  have hcon := idx_v.calls_ (fun v => decide (v.f0 ≤ a1)) 158 (.pointer (some ⟨w.heap.size + 1, 0, none⟩)) A0_1 c0_1 l0_1 ((w.alloc (.cells #[.string a0_0, .slice A0_1 l0_1.length c0_1] 30)).alloc (.cells #[.int .i64 a1] 3))
    (Kd.C_below hr0_1 hw2) hc0_1 eg (chain_place.clo a1 (w.heap.size + 1) _ (by simp) (by rw [World.cell?_alloc_at _ _ _ _ (by simp)]; rfl))
  have HW2 := Aside0.mk hw2
  have hlen := hr0_1.2.1
  clear hr0_1 hc0_1 hw2 eg
  have hr : ((l0_1.findIdx (fun v => decide (v.f0 ≤ a1)) : Nat) : Int) = r := Option.some.inj h
  clear h
  have hle : l0_1.findIdx (fun v => decide (v.f0 ≤ a1)) ≤ l0_1.length := List.findIdx_le_length
  by_cases hlt : l0_1.findIdx (fun v => decide (v.f0 ≤ a1)) < l0_1.length
  · have e1 : idxRes_v (fun v : S39 => decide (v.f0 ≤ a1)) l0_1 = r := by unfold idxRes_v; rw [if_pos hlt]; exact hr
    rw [e1] at hcon
    have h0 : ¬ r < 0 := by omega
    clear hr hlt hle e1
    go_enter Try.func120, Try.ntmps120
    go_wp2_with ((with_reducible refine hcon.mono ?_); rintro e w' ⟨rfl, hb'⟩)
    go_ret
    exact ⟨rfl, HW2.out.trans (hb'.mono (by simp; omega))⟩
  · have e1 : idxRes_v (fun v : S39 => decide (v.f0 ≤ a1)) l0_1 = -1 := by unfold idxRes_v; rw [if_neg hlt]
    rw [e1] at hcon
    have hr2 := Aside0.mk (show r = l0_1.length by omega)
    clear hr hlt hle e1
    have hcb : ∀ w', Below ((w.alloc (.cells #[.string a0_0, .slice A0_1 l0_1.length c0_1] 30)).alloc (.cells #[.int .i64 a1] 3)).heap.size ((w.alloc (.cells #[.string a0_0, .slice A0_1 l0_1.length c0_1] 30)).alloc (.cells #[.int .i64 a1] 3)) w' → w'.cell? ⟨w.heap.size, 1, none⟩ = some (.slice A0_1 l0_1.length c0_1) := fun w' hb => by
      rw [hb.cell (p := ⟨w.heap.size, 1, none⟩) (by simp; omega), World.cell?_alloc_past _ _ _ (by simp), World.cell?_alloc_at _ _ _ _ rfl]; rfl
    have HCB := Aside0.mk hcb
    clear hcb
    go_enter Try.func120, Try.ntmps120
    go_wp2_with ((with_reducible refine hcon.mono ?_); rintro e w' ⟨rfl, hb'⟩; have hc1 := HCB.out _ hb')
    go_ret
    exact ⟨by rw [hr2.out]; rfl, HW2.out.trans (hb'.mono (by simp; omega))⟩


/-! ### api_Version_123: function 123 (by hand) -/
def api_Version_123.f (l0 : List (S39)) : Option (List (S39)) := if l0.length < 4398046511104 then some l0 else none
theorem kd_empty_39 (w : World) : k39.R 39 (w.alloc (.cells #[] 39)) w.heap.size (fun _ => True) (.slice (some ⟨w.heap.size, 0, none⟩) 0 0) [] := by
  refine ⟨fun _ _ => trivial, [], ⟨by simp, .inr ⟨w.heap.size, 0, #[], rfl, Nat.le_refl _, heap_alloc_new w _, Nat.le_refl _, by decide, by simp, by simp⟩⟩, ?_⟩
  exact Reps.none _ _
set_option maxHeartbeats 800000 in
set_option maxRecDepth 100000 in
theorem api_Version_123.calls (A0 : Option Addr) (c0 : Nat) (l0 : List (S39)) (r : List (S39)) (w : World) (hr0 : Kd.C k39 w A0 l0.length l0) (hc0 : l0.length ≤ c0) (h : api_Version_123.f l0 = some r) :
    Calls Try.prog 123 #[.slice A0 l0.length c0] w fun e w' => ∃ v0_ : Value, e = .returned (v0_) ∧ Kd.R k39 39 w' w.heap.size (fun _ => True) v0_ r ∧ Below w.heap.size w w' := by
  have HC0 := Aside0.mk hc0
  clear hc0
  unfold api_Version_123.f at h
  split at h
  · obtain rfl := Option.some.inj h
    rename_i hlt
    clear h
    rcases A0 with _ | ad
    · have hl : l0 = [] := by
        rcases Nat.eq_zero_or_pos l0.length with h0 | h0
        · exact List.eq_nil_of_length_eq_zero h0
        · obtain ⟨ad, e, _⟩ := hr0.2.2 h0
          cases e
      subst hl
      have HN := fun w : World => Lib.run_eql_slice_nil (P := Try.prog) w 23 39 none 0 c0 0 0 Try.underlying23
      go_enter Try.func123, Try.ntmps123
      go_wp2
      go_ret
      exact ⟨_, rfl, Kd.R_nil _ _ _ _ _, Below.refl _ _⟩
    · have HN := fun w : World => Lib.run_eql_slice_nil (P := Try.prog) w 23 39 (some ad) l0.length c0 0 0 Try.underlying23
      have HR0 := Aside0.mk hr0
      clear hr0
      have HO := Aside0.mk (kd_empty_39 w)
      go_enter Try.func123, Try.ntmps123
      go_wp2_with (first | ((with_reducible refine gate_builtin (b := .append) (xs := #[.tmp 5, .tmp 6]) rfl ?_); at_builtin; refine Kd.R_append_rows k39 (w0 := w) w.heap.size rfl (.tmp 5) (.tmp 6) 23 39 (.agg #[(.int .i64 0), (.string ⟨#[]⟩), (.bool false)]) 32 rfl Try.underlying23 info39 rfl (by decide) (by omega) (.slice (some ⟨w.heap.size, 0, none⟩) 0 0) ([] : List (S39)) l0 _ _ _ (fun _ => True) (fun _ => False) rfl rfl ?aO ?aR (fun _ _ h => h) (fun _ h => h.elim) ?aF ?aB ?aS ?aL ?_; (case aR => exact (Kd.C_below HR0.out (below_alloc (Below.refl _ _) _))); (case aB => exact (below_alloc (Below.refl _ _) _)); (case aF => exact (fun _ _ => trivial)); (case aO => exact HO.out); (case aS => simp); (case aL => simp; omega); intro v1 w1 ho hb hg hat; clear hg hat))
      go_ret
      exact ⟨_, rfl, ho, hb⟩
  · cases h


/-! ### chain_Own: function 121 -/
def chain_Own.f (a0_0 : ByteArray) (l0_1 : List (S39)) : Option (ByteArray × (List (S39))) := (api_Version_123.f l0_1).bind fun t151 => (some (a0_0, t151))
set_option maxHeartbeats 8000000 in
set_option maxRecDepth 100000 in
theorem chain_Own.calls (a0_0 : ByteArray) (A0_1 : Option Addr) (c0_1 : Nat) (l0_1 : List (S39)) (r1 : ByteArray) (r2 : List (S39)) (w : World) (hr0_1 : Kd.C k39 w A0_1 l0_1.length l0_1) (hc0_1 : l0_1.length ≤ c0_1) (h : chain_Own.f a0_0 l0_1 = some (r1, r2)) :
  Calls Try.prog 121 #[.agg #[.string a0_0, .slice A0_1 l0_1.length c0_1]] w fun e w' => ∃ v1_ : Value, e = .returned (.agg #[.string r1, v1_]) ∧ Kd.R k39 39 w' w.heap.size (fun _ => True) v1_ r2 ∧ Below w.heap.size w w' := by
 have hu30 := Try.underlying30
 have HR0_1 := mk0 hr0_1
 have HC0_1 := mk0 hc0_1
 clear hr0_1 hc0_1
 have HB := mk0 (Below.refl w.heap.size w)
 have H : ((api_Version_123.f l0_1).bind fun t151 => (some (a0_0, t151))) = some (r1, r2) := h
 clear h
 replace H := Option.bind_eq_some_iff.mp H
 obtain ⟨t151, A20, H⟩ := H
 try dsimp only at H
 have A2 := mk0 A20
 clear A20
 simp only [Option.some.injEq, Prod.mk.injEq] at H
 obtain ⟨rfl, rfl⟩ := H
 go_enter Try.func121, Try.ntmps121
 go_wp2_with (first | ((with_reducible refine gate_dst (N := 1) rfl ?_); refine bx_ (N := 1) (cs := #[.string a0_0, .slice A0_1 l0_1.length c0_1]) (t := 30) (h := ?_); intro gb149 hg w3 hbox hb; have n2_ := mk0 (gz_ HB hg); have n3_ := mk0 (gz_ HB hg); replace HB := mk0 (bt_ (b_ HB) hb); have BK149 := mk0 (hbox); have GW149 := n2_; have GE149 := n3_; clear n2_ n3_; clear hb hbox hg) | ((with_reducible refine gate_dst (N := 2) rfl ?_); refine bx_ (N := 2) (cs := #[.string (⟨#[]⟩ : ByteArray), .slice none 0 0]) (t := 30) (h := ?_); intro gb150 hg w4 hbox hb; have n3_ := mk0 (gz_ HB hg); have n4_ := mk0 (gz_ HB hg); have n5_ := mk0 (ne1_ BK149 hg); have n6_ := mk0 (ne2_ BK149 hg); replace BK149 := mk0 (u_ BK149 hb); replace HB := mk0 (bt_ (b_ HB) hb); have BK150 := mk0 (hbox); have GW150 := n3_; have GE150 := n4_; have NB149_150 := n5_; have NB150_149 := n6_; clear n3_ n4_ n5_ n6_ hb hbox hg; have hnb5 := NB149_150.out; have hnc5 := NB150_149.out; obtain ⟨hcz6_0, hcz6_1, hfz6_0, hfz6_1⟩ := c2_ BK149) | ((with_reducible refine gate_callee (f := 123) rfl ?_); refine gL_ (some 5) Try.func123 #[.slice A0_1 l0_1.length c0_1] (h := ?_); (with_reducible refine (api_Version_123.calls _ _ l0_1 t151 _ ?side1 ?side2 A2.out).mono ?_); (case side1 => exact cb_ HR0_1 HB); (case side2 => exact HC0_1.out); rintro e w7 ⟨v152, rfl, ho0, hb⟩; refine ⟨_, rfl, ?_⟩; have n0_ := mk0 (Kd.R_lower ho0 (bz_ (b_ HB))); replace BK149 := mk0 (u_ BK149 hb); replace BK150 := mk0 (blk_below (g := gb150) (o := .cells #[.string (⟨#[]⟩ : ByteArray), .slice none 0 0] 30 (0, 0)) (h_ BK150) hb); replace HB := mk0 (bt_ (b_ HB) hb); have HO153 := n0_; clear n0_; (try clear hb); (try clear ho0); obtain ⟨Ao8, co8, eo8⟩ := Kd.R_slice HO153.out; subst eo8; obtain ⟨hcz9_0, hcz9_1, hfz9_0, hfz9_1⟩ := c2_ BK149; obtain ⟨hcz10_0, hcz10_1, hfz10_0, hfz10_1⟩ := c2_ BK150))
 refine bodyPost_ret (results_cell_row rfl _ _ gb150 30 #[.string a0_0, .slice Ao8 t151.length co8] (0, 0) _ rfl (pu_ (cs := #[.string a0_0, .slice none 0 0]) (pu_ (cs := #[.string (⟨#[]⟩ : ByteArray), .slice none 0 0]) (fa_ (h_ BK150) NB150_149.out))) Try.underlying30 rfl (by kernel_rfl)) rfl ?_
 exact ⟨_, by first | rfl | (simp [errW_none, errW_some] <;> rfl) | (simp [*, errW_none, errW_some] <;> rfl), by (with_reducible repeat (first | apply Ra_ | apply Rn_ | apply Rd_)); exact Kd.R_mono (Kd.R_far (p := ⟨gb150, 1, none⟩) (Kd.R_far (p := ⟨gb150, 0, none⟩) (Kd.R_far (p := ⟨gb149, 1, none⟩) (Kd.R_types (Kd.R_types HO153.out BK149.out (by decide)) BK150.out (by decide)) (fun _ hk => hk.1.2) (.slice Ao8 t151.length co8)) (fun _ hk => hk.2) (.string a0_0)) (fun _ hk => hk.2) (.slice Ao8 t151.length co8)) (fun _ hk => trivial), b_ HB⟩

/-! ### chain_Left: function 63 -/
def chain_Left.f (a0_0 : ByteArray) (l0_1 : List (S39)) (a1 : Int) : Option (ByteArray × (List (S39))) := (chain_Own.f a0_0 l0_1).bind fun bt156 => ((chain_place.f bt156.1 bt156.2 a1).bind fun t160 => (if t160 < (bt156.2.length : Int) then (if 0 ≤ t160 then (if ((rd_T39 bt156.2 t160).f2 = true) then (if t160 ≤ (bt156.2.length : Int) then ((some (bt156.2.take (t160 : Int).toNat : List (S39))).bind fun y162 => (if (y162.length : Int) = 0 then (some ((⟨#[]⟩ : ByteArray), ([] : List (S39)))) else (some (bt156.1, y162)))) else (none)) else (if 0 ≤ (wrap64 (t160 + 1)) then (if (wrap64 (t160 + 1)) ≤ (bt156.2.length : Int) then ((some (bt156.2.take ((wrap64 (t160 + 1)) : Int).toNat : List (S39))).bind fun y165 => (if (y165.length : Int) = 0 then (some ((⟨#[]⟩ : ByteArray), ([] : List (S39)))) else (some (bt156.1, y165)))) else (none)) else (none))) else (none)) else (if (bt156.2.length : Int) = 0 then (some ((⟨#[]⟩ : ByteArray), ([] : List (S39)))) else (some (bt156.1, bt156.2)))))
set_option maxHeartbeats 8000000 in
set_option maxRecDepth 100000 in
theorem chain_Left.calls (a0_0 : ByteArray) (A0_1 : Option Addr) (c0_1 : Nat) (l0_1 : List (S39)) (a1 : Int) (r1 : ByteArray) (r2 : List (S39)) (w : World) (hr0_1 : Kd.C k39 w A0_1 l0_1.length l0_1) (hc0_1 : l0_1.length ≤ c0_1) (h : chain_Left.f a0_0 l0_1 a1 = some (r1, r2)) :
  Calls Try.prog 63 #[.agg #[.string a0_0, .slice A0_1 l0_1.length c0_1], .int .i64 a1] w fun e w' => ∃ v1_ : Value, e = .returned (.agg #[.string r1, v1_]) ∧ Kd.R k39 39 w' w.heap.size (fun _ => True) v1_ r2 ∧ Below w.heap.size w w' := by
 have hu30 := Try.underlying30
 have HR0_1 := mk0 hr0_1
 have HC0_1 := mk0 hc0_1
 clear hr0_1 hc0_1
 have HB := mk0 (Below.refl w.heap.size w)
 have H : ((chain_Own.f a0_0 l0_1).bind fun bt156 => ((chain_place.f bt156.1 bt156.2 a1).bind fun t160 => (if t160 < (bt156.2.length : Int) then (if 0 ≤ t160 then (if ((rd_T39 bt156.2 t160).f2 = true) then (if t160 ≤ (bt156.2.length : Int) then ((some (bt156.2.take (t160 : Int).toNat : List (S39))).bind fun y162 => (if (y162.length : Int) = 0 then (some ((⟨#[]⟩ : ByteArray), ([] : List (S39)))) else (some (bt156.1, y162)))) else (none)) else (if 0 ≤ (wrap64 (t160 + 1)) then (if (wrap64 (t160 + 1)) ≤ (bt156.2.length : Int) then ((some (bt156.2.take ((wrap64 (t160 + 1)) : Int).toNat : List (S39))).bind fun y165 => (if (y165.length : Int) = 0 then (some ((⟨#[]⟩ : ByteArray), ([] : List (S39)))) else (some (bt156.1, y165)))) else (none)) else (none))) else (none)) else (if (bt156.2.length : Int) = 0 then (some ((⟨#[]⟩ : ByteArray), ([] : List (S39)))) else (some (bt156.1, bt156.2)))))) = some (r1, r2) := h
 clear h
 replace H := Option.bind_eq_some_iff.mp H
 obtain ⟨⟨t156, t157⟩, A30, H⟩ := H
 try dsimp only at H
 have A3 := mk0 A30
 clear A30
 replace H := Option.bind_eq_some_iff.mp H
 obtain ⟨t160, A40, H⟩ := H
 try dsimp only at H
 have A4 := mk0 A40
 clear A40
 by_cases c5 : t160 < (t157.length : Int)
 focus
  rw [if_pos c5] at H
  have c5b0 : decide (t160 < (t157.length : Int)) = true := decide_eq_true c5
  clear c5
  by_cases c6 : 0 ≤ t160
  focus
   rw [if_pos c6] at H
   have c6b0 : decide (0 ≤ t160) = true := decide_eq_true c6
   clear c6
   obtain ⟨bq7, hbq7⟩ : ∃ b_ : Bool, b_ = ((rd_T39 t157 t160).f2) := ⟨_, rfl⟩
   replace H : (if (bq7 = true) then (if t160 ≤ (t157.length : Int) then ((some (t157.take (t160 : Int).toNat : List (S39))).bind fun y162 => (if (y162.length : Int) = 0 then (some ((⟨#[]⟩ : ByteArray), ([] : List (S39)))) else (some (t156, y162)))) else (none)) else (if 0 ≤ (wrap64 (t160 + 1)) then (if (wrap64 (t160 + 1)) ≤ (t157.length : Int) then ((some (t157.take ((wrap64 (t160 + 1)) : Int).toNat : List (S39))).bind fun y165 => (if (y165.length : Int) = 0 then (some ((⟨#[]⟩ : ByteArray), ([] : List (S39)))) else (some (t156, y165)))) else (none)) else (none))) = some (r1, r2) := by rw [← hbq7] at H; exact H
   have Nbq7 := mk0 hbq7
   clear hbq7
   by_cases c8 : (bq7 = true)
   focus
    subst c8
    rw [if_pos rfl] at H
    by_cases c9 : t160 ≤ (t157.length : Int)
    focus
     rw [if_pos c9] at H
     have c9b0 := eq_true c9
     have c9b1 : decide (t160 ≤ (t157.length : Int)) = true := decide_eq_true c9
     clear c9
     obtain ⟨y162, hy162⟩ : ∃ y_ : List (S39), y_ = (t157.take (t160 : Int).toNat) := ⟨_, rfl⟩
     replace H : (if (y162.length : Int) = 0 then (some ((⟨#[]⟩ : ByteArray), ([] : List (S39)))) else (some (t156, y162))) = some (r1, r2) := by first | (rw [hy162]; with_reducible exact H) | (have H2_ := (Option.bind_some _ _).symm.trans H; rw [hy162]; with_reducible exact H2_) | (have H2_ := (Option.bind_some _ _).symm.trans H; with_reducible exact H2_) | with_reducible exact H | (rw [hy162]; exact H) | exact H
     have Ny162 := mk0 hy162
     clear hy162
     by_cases c10 : (y162.length : Int) = 0
     focus
      rw [if_pos c10] at H
      have c10b0 : ((y162.length : Int) == 0) = true := beq_iff_eq.mpr c10
      have c10b1 : ((y162.length : Int) != 0) = false := bne_eq_false_iff_eq.mpr c10
      clear c10
      simp only [Option.some.injEq, Prod.mk.injEq] at H
      obtain ⟨rfl, rfl⟩ := H
      go_enter Try.func63, Try.ntmps63
     rotate_left 1
     focus
      rw [if_neg c10] at H
      have c10b0 : ((y162.length : Int) == 0) = false := beq_eq_false_iff_ne.mpr c10
      have c10b1 : ((y162.length : Int) != 0) = true := bne_iff_ne.mpr c10
      have c10b2 : ¬ (y162 = []) := fun h_ => c10 (by rw [h_]; rfl)
      simp only [Option.some.injEq, Prod.mk.injEq] at H
      obtain ⟨rfl, rfl⟩ := H
      go_enter Try.func63, Try.ntmps63
     rotate_right 1
    rotate_left 2
    ·rw [if_neg c9] at H
     exact absurd H (by simp)
   rotate_left 2
   focus
    replace c8 := Bool.eq_false_iff.mpr c8
    subst c8
    rw [if_neg (show ¬ (false = true) by decide)] at H
    obtain ⟨ji33, hji33⟩ : ∃ j_ : Int, (wrap64 (t160 + 1)) = j_ := ⟨_, rfl⟩
    replace H : (if 0 ≤ (ji33) then (if (ji33) ≤ (t157.length : Int) then ((some (t157.take ((ji33) : Int).toNat : List (S39))).bind fun y165 => (if (y165.length : Int) = 0 then (some ((⟨#[]⟩ : ByteArray), ([] : List (S39)))) else (some (t156, y165)))) else (none)) else (none)) = some (r1, r2) := by first | (rw [hji33] at H; exact H) | (simp only [hji33] at H ⊢; exact H)
    (try rw [hji33] at A3)
    (try rw [hji33] at A4)
    have hji33w : (IntKind.i64.wrap (t160 + 1)) = ji33 := (i64_w _).trans hji33
    by_cases c34 : 0 ≤ (ji33)
    focus
     rw [if_pos c34] at H
     have c34b0 := eq_true c34
     have c34b1 : decide (0 ≤ (ji33)) = true := decide_eq_true c34
     clear c34
     by_cases c35 : (ji33) ≤ (t157.length : Int)
     focus
      rw [if_pos c35] at H
      have c35b0 := eq_true c35
      have c35b1 : decide ((ji33) ≤ (t157.length : Int)) = true := decide_eq_true c35
      clear c35
      obtain ⟨y165, hy165⟩ : ∃ y_ : List (S39), y_ = (t157.take ((ji33) : Int).toNat) := ⟨_, rfl⟩
      replace H : (if (y165.length : Int) = 0 then (some ((⟨#[]⟩ : ByteArray), ([] : List (S39)))) else (some (t156, y165))) = some (r1, r2) := by first | (rw [hy165]; with_reducible exact H) | (have H2_ := (Option.bind_some _ _).symm.trans H; rw [hy165]; with_reducible exact H2_) | (have H2_ := (Option.bind_some _ _).symm.trans H; with_reducible exact H2_) | with_reducible exact H | (rw [hy165]; exact H) | exact H
      have Ny165 := mk0 hy165
      clear hy165
      by_cases c36 : (y165.length : Int) = 0
      focus
       rw [if_pos c36] at H
       have c36b0 : ((y165.length : Int) == 0) = true := beq_iff_eq.mpr c36
       have c36b1 : ((y165.length : Int) != 0) = false := bne_eq_false_iff_eq.mpr c36
       clear c36
       simp only [Option.some.injEq, Prod.mk.injEq] at H
       obtain ⟨rfl, rfl⟩ := H
       go_enter Try.func63, Try.ntmps63
      rotate_left 1
      focus
       rw [if_neg c36] at H
       have c36b0 : ((y165.length : Int) == 0) = false := beq_eq_false_iff_ne.mpr c36
       have c36b1 : ((y165.length : Int) != 0) = true := bne_iff_ne.mpr c36
       have c36b2 : ¬ (y165 = []) := fun h_ => c36 (by rw [h_]; rfl)
       simp only [Option.some.injEq, Prod.mk.injEq] at H
       obtain ⟨rfl, rfl⟩ := H
       go_enter Try.func63, Try.ntmps63
      rotate_right 1
     rotate_left 2
     ·rw [if_neg c35] at H
      exact absurd H (by simp)
    rotate_left 2
    ·rw [if_neg c34] at H
     exact absurd H (by simp)
   rotate_right 2
  rotate_left 4
  ·rw [if_neg c6] at H
   exact absurd H (by simp)
 rotate_left 4
 focus
  rw [if_neg c5] at H
  have c5b0 : decide (t160 < (t157.length : Int)) = false := decide_eq_false c5
  clear c5
  by_cases c59 : (t157.length : Int) = 0
  focus
   rw [if_pos c59] at H
   have c59b0 : ((t157.length : Int) == 0) = true := beq_iff_eq.mpr c59
   have c59b1 : ((t157.length : Int) != 0) = false := bne_eq_false_iff_eq.mpr c59
   clear c59
   simp only [Option.some.injEq, Prod.mk.injEq] at H
   obtain ⟨rfl, rfl⟩ := H
   go_enter Try.func63, Try.ntmps63
  rotate_left 1
  focus
   rw [if_neg c59] at H
   have c59b0 : ((t157.length : Int) == 0) = false := beq_eq_false_iff_ne.mpr c59
   have c59b1 : ((t157.length : Int) != 0) = true := bne_iff_ne.mpr c59
   have c59b2 : ¬ (t157 = []) := fun h_ => c59 (by rw [h_]; rfl)
   simp only [Option.some.injEq, Prod.mk.injEq] at H
   obtain ⟨rfl, rfl⟩ := H
   go_enter Try.func63, Try.ntmps63
  rotate_right 1
 rotate_right 4
 all_goals go_wp2_with (first | ((with_reducible refine gate_dst (N := 2) rfl ?_); refine bx_ (N := 2) (cs := #[.string a0_0, .slice A0_1 l0_1.length c0_1]) (t := 30) (h := ?_); intro gb154 hg w37 hbox hb; have n2_ := mk0 (gz_ HB hg); have n3_ := mk0 (gz_ HB hg); replace HB := mk0 (bt_ (b_ HB) hb); have BK154 := mk0 (hbox); have GW154 := n2_; have GE154 := n3_; clear n2_ n3_; clear hb hbox hg) | ((with_reducible refine gate_dst (N := 4) rfl ?_); refine bx_ (N := 4) (cs := #[.string (⟨#[]⟩ : ByteArray), .slice none 0 0]) (t := 30) (h := ?_); intro gb155 hg w38 hbox hb; have n3_ := mk0 (gz_ HB hg); have n4_ := mk0 (gz_ HB hg); have n5_ := mk0 (ne1_ BK154 hg); have n6_ := mk0 (ne2_ BK154 hg); replace BK154 := mk0 (u_ BK154 hb); replace HB := mk0 (bt_ (b_ HB) hb); have BK155 := mk0 (hbox); have GW155 := n3_; have GE155 := n4_; have NB154_155 := n5_; have NB155_154 := n6_; clear n3_ n4_ n5_ n6_ hb hbox hg; have hnb39 := NB154_155.out; have hnc39 := NB155_154.out; obtain ⟨hcz40_0, hcz40_1, hfz40_0, hfz40_1⟩ := c2_ BK154) | ((with_reducible refine gate_callee (f := 121) rfl ?_); refine gL_ (some 7) Try.func121 #[.agg #[.string a0_0, .slice A0_1 l0_1.length c0_1]] (h := ?_); (with_reducible refine (chain_Own.calls a0_0 _ _ l0_1 t156 t157 _ ?side1 ?side2 A3.out).mono ?_); (case side1 => exact cb_ HR0_1 HB); (case side2 => exact HC0_1.out); rintro e w41 ⟨v158, rfl, ho0, hb⟩; refine ⟨_, rfl, ?_⟩; have n0_ := mk0 (Kd.R_lower ho0 (bz_ (b_ HB))); replace BK154 := mk0 (u_ BK154 hb); replace BK155 := mk0 (blk_below (g := gb155) (o := .cells #[.string (⟨#[]⟩ : ByteArray), .slice none 0 0] 30 (0, 0)) (h_ BK155) hb); replace HB := mk0 (bt_ (b_ HB) hb); have HO159 := n0_; clear n0_; (try clear hb); (try clear ho0); obtain ⟨hcz42_0, hcz42_1, hfz42_0, hfz42_1⟩ := c2_ BK154; obtain ⟨Ao43, co43, eo43⟩ := Kd.R_slice HO159.out; subst eo43) | ((with_reducible refine gate_callee (f := 120) rfl ?_); refine gL_ (some 10) Try.func120 #[.agg #[.string t156, .slice Ao43 t157.length co43], .int .i64 a1] (h := ?_); (with_reducible refine (chain_place.calls t156 _ _ t157 a1 t160 _ ?side1 ?side2 A4.out).mono ?_); (case side1 => refine (Kd.R_reads' (e := 39) (base := w.heap.size) (ok := fun k_ => True) (n := t157.length) (c := co43) ?_).2.2; exact (r2_ (Kd.R_mono (Kd.R_far (p := ⟨gb154, 1, none⟩) (Kd.R_far (p := ⟨gb154, 0, none⟩) (Kd.R_types HO159.out BK154.out (by decide)) (fun _ hk => hk.2) (.string t156)) (fun _ hk => hk.2) (.slice Ao43 t157.length co43)) (fun _ h_ => h_.1)))); (case side2 => exact (Kd.R_reads' HO159.out).2.1); rintro e w44 ⟨rfl, hb⟩; refine ⟨_, rfl, ?_⟩; have n0_ := mk0 (Kd.R_below (r2_ (Kd.R_mono (Kd.R_far (p := ⟨gb154, 1, none⟩) (Kd.R_far (p := ⟨gb154, 0, none⟩) (Kd.R_types HO159.out BK154.out (by decide)) (fun _ hk => hk.2) (.string t156)) (fun _ hk => hk.2) (.slice Ao43 t157.length co43)) (fun _ h_ => h_.1))) hb); replace BK154 := mk0 (blk_below (g := gb154) (o := .cells #[.string t156, .slice Ao43 t157.length co43] 30 (0, 0)) (pu_ (cs := #[.string t156, .slice A0_1 l0_1.length c0_1]) (pu_ (cs := #[.string a0_0, .slice A0_1 l0_1.length c0_1]) (h_ BK154))) hb); replace BK155 := mk0 (blk_below (g := gb155) (o := .cells #[.string (⟨#[]⟩ : ByteArray), .slice none 0 0] 30 (0, 0)) (fa_ (fa_ (h_ BK155) NB155_154.out) NB155_154.out) hb); replace HB := mk0 (bt_ (b_ HB) hb); clear HO159; have HO159 := n0_; clear n0_; (try clear hb); obtain ⟨hcz45_0, hcz45_1, hfz45_0, hfz45_1⟩ := c2_ BK154; have p161 : 0 ≤ (t160 : Int) := of_decide_eq_true (by first | (with_reducible assumption) | assumption); have q161 : t160 < (t157.length : Int) := of_decide_eq_true (by first | (with_reducible assumption) | assumption); obtain ⟨ad161, e161, hx161_0, hx161_1, hx161_2⟩ := at_T39 (Kd.R_reads' HO159.out).2.2 t160 p161 q161; (try rw [← Nbq7.out] at hx161_2); cases e161; replace p161 := eq_true p161; replace q161 := eq_true q161; have q46 : ((ji33) : Int) ≤ ((t157.length : Int) : Int) := of_decide_eq_true (by first | (with_reducible assumption) | assumption); obtain ⟨i046, hi046, _, hsz46, _⟩ := info_parts info39; have hcut46 := cut_to (P := Try.prog) 23 39 .i64 Try.underlying23 hi046 (some ad161) t157.length co43 (ji33) (of_decide_eq_true (by first | (with_reducible assumption) | assumption)) q46 (Kd.R_reads' HO159.out).2.1; have hr46 := Kd.R_take (m := ((ji33) : Int).toNat) HO159.out (by omega); have hy46 : y165.length = ((ji33) : Int).toNat := (by rw [Ny165.out, List.length_take]; omega); rw [← Ny165.out] at hr46; rw [← hy46] at hr46 hcut46; clear hy46 hi046 hsz46 HO159; have HO167 := mk0 hr46; clear hr46; replace q46 := eq_true q46; obtain ⟨hcz47_0, hcz47_1, hfz47_0, hfz47_1⟩ := c2_ BK155) | ((with_reducible refine gate_callee (f := 120) rfl ?_); refine gL_ (some 10) Try.func120 #[.agg #[.string t156, .slice Ao43 t157.length co43], .int .i64 a1] (h := ?_); (with_reducible refine (chain_place.calls t156 _ _ t157 a1 t160 _ ?side1 ?side2 A4.out).mono ?_); (case side1 => refine (Kd.R_reads' (e := 39) (base := w.heap.size) (ok := fun k_ => True) (n := t157.length) (c := co43) ?_).2.2; exact (r2_ (Kd.R_mono (Kd.R_far (p := ⟨gb154, 1, none⟩) (Kd.R_far (p := ⟨gb154, 0, none⟩) (Kd.R_types HO159.out BK154.out (by decide)) (fun _ hk => hk.2) (.string t156)) (fun _ hk => hk.2) (.slice Ao43 t157.length co43)) (fun _ h_ => h_.1)))); (case side2 => exact (Kd.R_reads' HO159.out).2.1); rintro e w18 ⟨rfl, hb⟩; refine ⟨_, rfl, ?_⟩; have n0_ := mk0 (Kd.R_below (r2_ (Kd.R_mono (Kd.R_far (p := ⟨gb154, 1, none⟩) (Kd.R_far (p := ⟨gb154, 0, none⟩) (Kd.R_types HO159.out BK154.out (by decide)) (fun _ hk => hk.2) (.string t156)) (fun _ hk => hk.2) (.slice Ao43 t157.length co43)) (fun _ h_ => h_.1))) hb); replace BK154 := mk0 (blk_below (g := gb154) (o := .cells #[.string t156, .slice Ao43 t157.length co43] 30 (0, 0)) (pu_ (cs := #[.string t156, .slice A0_1 l0_1.length c0_1]) (pu_ (cs := #[.string a0_0, .slice A0_1 l0_1.length c0_1]) (h_ BK154))) hb); replace BK155 := mk0 (blk_below (g := gb155) (o := .cells #[.string (⟨#[]⟩ : ByteArray), .slice none 0 0] 30 (0, 0)) (fa_ (fa_ (h_ BK155) NB155_154.out) NB155_154.out) hb); replace HB := mk0 (bt_ (b_ HB) hb); clear HO159; have HO159 := n0_; clear n0_; (try clear hb); obtain ⟨hcz19_0, hcz19_1, hfz19_0, hfz19_1⟩ := c2_ BK154; have p161 : 0 ≤ (t160 : Int) := of_decide_eq_true (by first | (with_reducible assumption) | assumption); have q161 : t160 < (t157.length : Int) := of_decide_eq_true (by first | (with_reducible assumption) | assumption); obtain ⟨ad161, e161, hx161_0, hx161_1, hx161_2⟩ := at_T39 (Kd.R_reads' HO159.out).2.2 t160 p161 q161; (try rw [← Nbq7.out] at hx161_2); cases e161; replace p161 := eq_true p161; replace q161 := eq_true q161; have q20 : (t160 : Int) ≤ ((t157.length : Int) : Int) := of_decide_eq_true (by first | (with_reducible assumption) | assumption); obtain ⟨i020, hi020, _, hsz20, _⟩ := info_parts info39; have hcut20 := cut_to (P := Try.prog) 23 39 .i64 Try.underlying23 hi020 (some ad161) t157.length co43 t160 (of_decide_eq_true (by first | (with_reducible assumption) | assumption)) q20 (Kd.R_reads' HO159.out).2.1; have hr20 := Kd.R_take (m := (t160 : Int).toNat) HO159.out (by omega); have hy20 : y162.length = (t160 : Int).toNat := (by rw [Ny162.out, List.length_take]; omega); rw [← Ny162.out] at hr20; rw [← hy20] at hr20 hcut20; clear hy20 hi020 hsz20 HO159; have HO164 := mk0 hr20; clear hr20; replace q20 := eq_true q20; obtain ⟨hcz21_0, hcz21_1, hfz21_0, hfz21_1⟩ := c2_ BK155) | ((with_reducible refine gate_callee (f := 120) rfl ?_); refine gL_ (some 10) Try.func120 #[.agg #[.string t156, .slice Ao43 t157.length co43], .int .i64 a1] (h := ?_); (with_reducible refine (chain_place.calls t156 _ _ t157 a1 t160 _ ?side1 ?side2 A4.out).mono ?_); (case side1 => refine (Kd.R_reads' (e := 39) (base := w.heap.size) (ok := fun k_ => True) (n := t157.length) (c := co43) ?_).2.2; exact (r2_ (Kd.R_mono (Kd.R_far (p := ⟨gb154, 1, none⟩) (Kd.R_far (p := ⟨gb154, 0, none⟩) (Kd.R_types HO159.out BK154.out (by decide)) (fun _ hk => hk.2) (.string t156)) (fun _ hk => hk.2) (.slice Ao43 t157.length co43)) (fun _ h_ => h_.1)))); (case side2 => exact (Kd.R_reads' HO159.out).2.1); rintro e w29 ⟨rfl, hb⟩; refine ⟨_, rfl, ?_⟩; have n0_ := mk0 (Kd.R_below (r2_ (Kd.R_mono (Kd.R_far (p := ⟨gb154, 1, none⟩) (Kd.R_far (p := ⟨gb154, 0, none⟩) (Kd.R_types HO159.out BK154.out (by decide)) (fun _ hk => hk.2) (.string t156)) (fun _ hk => hk.2) (.slice Ao43 t157.length co43)) (fun _ h_ => h_.1))) hb); replace BK154 := mk0 (blk_below (g := gb154) (o := .cells #[.string t156, .slice Ao43 t157.length co43] 30 (0, 0)) (pu_ (cs := #[.string t156, .slice A0_1 l0_1.length c0_1]) (pu_ (cs := #[.string a0_0, .slice A0_1 l0_1.length c0_1]) (h_ BK154))) hb); replace BK155 := mk0 (blk_below (g := gb155) (o := .cells #[.string (⟨#[]⟩ : ByteArray), .slice none 0 0] 30 (0, 0)) (fa_ (fa_ (h_ BK155) NB155_154.out) NB155_154.out) hb); replace HB := mk0 (bt_ (b_ HB) hb); clear HO159; have HO159 := n0_; clear n0_; (try clear hb); obtain ⟨hcz30_0, hcz30_1, hfz30_0, hfz30_1⟩ := c2_ BK154; have p161 : 0 ≤ (t160 : Int) := of_decide_eq_true (by first | (with_reducible assumption) | assumption); have q161 : t160 < (t157.length : Int) := of_decide_eq_true (by first | (with_reducible assumption) | assumption); obtain ⟨ad161, e161, hx161_0, hx161_1, hx161_2⟩ := at_T39 (Kd.R_reads' HO159.out).2.2 t160 p161 q161; (try rw [← Nbq7.out] at hx161_2); cases e161; replace p161 := eq_true p161; replace q161 := eq_true q161; have q31 : (t160 : Int) ≤ ((t157.length : Int) : Int) := of_decide_eq_true (by first | (with_reducible assumption) | assumption); obtain ⟨i031, hi031, _, hsz31, _⟩ := info_parts info39; have hcut31 := cut_to (P := Try.prog) 23 39 .i64 Try.underlying23 hi031 (some ad161) t157.length co43 t160 (of_decide_eq_true (by first | (with_reducible assumption) | assumption)) q31 (Kd.R_reads' HO159.out).2.1; have hr31 := Kd.R_take (m := (t160 : Int).toNat) HO159.out (by omega); have hy31 : y162.length = (t160 : Int).toNat := (by rw [Ny162.out, List.length_take]; omega); rw [← Ny162.out] at hr31; rw [← hy31] at hr31 hcut31; clear hy31 hi031 hsz31 HO159; have HO164 := mk0 hr31; clear hr31; replace q31 := eq_true q31; obtain ⟨hcz32_0, hcz32_1, hfz32_0, hfz32_1⟩ := c2_ BK155) | ((with_reducible refine gate_callee (f := 120) rfl ?_); refine gL_ (some 10) Try.func120 #[.agg #[.string t156, .slice Ao43 t157.length co43], .int .i64 a1] (h := ?_); (with_reducible refine (chain_place.calls t156 _ _ t157 a1 t160 _ ?side1 ?side2 A4.out).mono ?_); (case side1 => refine (Kd.R_reads' (e := 39) (base := w.heap.size) (ok := fun k_ => True) (n := t157.length) (c := co43) ?_).2.2; exact (r2_ (Kd.R_mono (Kd.R_far (p := ⟨gb154, 1, none⟩) (Kd.R_far (p := ⟨gb154, 0, none⟩) (Kd.R_types HO159.out BK154.out (by decide)) (fun _ hk => hk.2) (.string t156)) (fun _ hk => hk.2) (.slice Ao43 t157.length co43)) (fun _ h_ => h_.1)))); (case side2 => exact (Kd.R_reads' HO159.out).2.1); rintro e w67 ⟨rfl, hb⟩; refine ⟨_, rfl, ?_⟩; have n0_ := mk0 (Kd.R_below (r2_ (Kd.R_mono (Kd.R_far (p := ⟨gb154, 1, none⟩) (Kd.R_far (p := ⟨gb154, 0, none⟩) (Kd.R_types HO159.out BK154.out (by decide)) (fun _ hk => hk.2) (.string t156)) (fun _ hk => hk.2) (.slice Ao43 t157.length co43)) (fun _ h_ => h_.1))) hb); replace BK154 := mk0 (blk_below (g := gb154) (o := .cells #[.string t156, .slice Ao43 t157.length co43] 30 (0, 0)) (pu_ (cs := #[.string t156, .slice A0_1 l0_1.length c0_1]) (pu_ (cs := #[.string a0_0, .slice A0_1 l0_1.length c0_1]) (h_ BK154))) hb); replace BK155 := mk0 (blk_below (g := gb155) (o := .cells #[.string (⟨#[]⟩ : ByteArray), .slice none 0 0] 30 (0, 0)) (fa_ (fa_ (h_ BK155) NB155_154.out) NB155_154.out) hb); replace HB := mk0 (bt_ (b_ HB) hb); clear HO159; have HO159 := n0_; clear n0_; (try clear hb); obtain ⟨hcz68_0, hcz68_1, hfz68_0, hfz68_1⟩ := c2_ BK154; obtain ⟨hcz69_0, hcz69_1, hfz69_0, hfz69_1⟩ := c2_ BK155) | ((with_reducible refine gate_callee (f := 120) rfl ?_); refine gL_ (some 10) Try.func120 #[.agg #[.string t156, .slice Ao43 t157.length co43], .int .i64 a1] (h := ?_); (with_reducible refine (chain_place.calls t156 _ _ t157 a1 t160 _ ?side1 ?side2 A4.out).mono ?_); (case side1 => refine (Kd.R_reads' (e := 39) (base := w.heap.size) (ok := fun k_ => True) (n := t157.length) (c := co43) ?_).2.2; exact (r2_ (Kd.R_mono (Kd.R_far (p := ⟨gb154, 1, none⟩) (Kd.R_far (p := ⟨gb154, 0, none⟩) (Kd.R_types HO159.out BK154.out (by decide)) (fun _ hk => hk.2) (.string t156)) (fun _ hk => hk.2) (.slice Ao43 t157.length co43)) (fun _ h_ => h_.1)))); (case side2 => exact (Kd.R_reads' HO159.out).2.1); rintro e w77 ⟨rfl, hb⟩; refine ⟨_, rfl, ?_⟩; have n0_ := mk0 (Kd.R_below (r2_ (Kd.R_mono (Kd.R_far (p := ⟨gb154, 1, none⟩) (Kd.R_far (p := ⟨gb154, 0, none⟩) (Kd.R_types HO159.out BK154.out (by decide)) (fun _ hk => hk.2) (.string t156)) (fun _ hk => hk.2) (.slice Ao43 t157.length co43)) (fun _ h_ => h_.1))) hb); replace BK154 := mk0 (blk_below (g := gb154) (o := .cells #[.string t156, .slice Ao43 t157.length co43] 30 (0, 0)) (pu_ (cs := #[.string t156, .slice A0_1 l0_1.length c0_1]) (pu_ (cs := #[.string a0_0, .slice A0_1 l0_1.length c0_1]) (h_ BK154))) hb); replace BK155 := mk0 (blk_below (g := gb155) (o := .cells #[.string (⟨#[]⟩ : ByteArray), .slice none 0 0] 30 (0, 0)) (fa_ (fa_ (h_ BK155) NB155_154.out) NB155_154.out) hb); replace HB := mk0 (bt_ (b_ HB) hb); clear HO159; have HO159 := n0_; clear n0_; (try clear hb); obtain ⟨hcz78_0, hcz78_1, hfz78_0, hfz78_1⟩ := c2_ BK154; obtain ⟨hcz79_0, hcz79_1, hfz79_0, hfz79_1⟩ := c2_ BK155))
 ·refine bodyPost_ret (results_cell_row rfl _ _ gb155 30 #[.string (⟨#[]⟩ : ByteArray), .slice none 0 0] (0, 0) _ rfl (pu_ (cs := #[.string (⟨#[]⟩ : ByteArray), .slice none 0 0]) (pu_ (cs := #[.string (⟨#[]⟩ : ByteArray), .slice none 0 0]) (fa_ (h_ BK155) NB155_154.out))) Try.underlying30 rfl (by kernel_rfl)) rfl ?_
  exact ⟨_, by first | rfl | (simp [errW_none, errW_some] <;> rfl) | (simp [*, errW_none, errW_some] <;> rfl), by first | exact Kd.R_nil _ _ _ _ _ | exact Kd.N_nil _ _ _ _ _ | exact Kd.V_nil _ _ _ _ _ | exact Kd.Q_nil _ _ _ _ _ | exact Kd.S_nil _ _ _ _ _, b_ HB⟩
 ·refine bodyPost_ret (results_cell_row rfl _ _ gb155 30 #[.string t156, .slice (some ad161) y162.length co43] (0, 0) _ rfl (pu_ (cs := #[.string t156, .slice none 0 0]) (pu_ (cs := #[.string (⟨#[]⟩ : ByteArray), .slice none 0 0]) (fa_ (h_ BK155) NB155_154.out))) Try.underlying30 rfl (by kernel_rfl)) rfl ?_
  exact ⟨_, by first | rfl | (simp [errW_none, errW_some] <;> rfl) | (simp [*, errW_none, errW_some] <;> rfl), by (with_reducible repeat (first | apply Ra_ | apply Rn_ | apply Rd_)); exact Kd.R_mono (Kd.R_far (p := ⟨gb155, 1, none⟩) (Kd.R_far (p := ⟨gb155, 0, none⟩) (Kd.R_far (p := ⟨gb154, 1, none⟩) (Kd.R_types (Kd.R_types HO164.out BK154.out (by decide)) BK155.out (by decide)) (fun _ hk => hk.1.2) (.slice (some ad161) y162.length co43)) (fun _ hk => hk.2) (.string t156)) (fun _ hk => hk.2) (.slice (some ad161) y162.length co43)) (fun _ hk => trivial), b_ HB⟩
 ·refine bodyPost_ret (results_cell_row rfl _ _ gb155 30 #[.string (⟨#[]⟩ : ByteArray), .slice none 0 0] (0, 0) _ rfl (pu_ (cs := #[.string (⟨#[]⟩ : ByteArray), .slice none 0 0]) (pu_ (cs := #[.string (⟨#[]⟩ : ByteArray), .slice none 0 0]) (fa_ (h_ BK155) NB155_154.out))) Try.underlying30 rfl (by kernel_rfl)) rfl ?_
  exact ⟨_, by first | rfl | (simp [errW_none, errW_some] <;> rfl) | (simp only [← hji33]; first | rfl | (simp [errW_none, errW_some] <;> rfl)) | (simp [*, errW_none, errW_some] <;> rfl), by first | exact Kd.R_nil _ _ _ _ _ | exact Kd.N_nil _ _ _ _ _ | exact Kd.V_nil _ _ _ _ _ | exact Kd.Q_nil _ _ _ _ _ | exact Kd.S_nil _ _ _ _ _, b_ HB⟩
 ·refine bodyPost_ret (results_cell_row rfl _ _ gb155 30 #[.string t156, .slice (some ad161) y165.length co43] (0, 0) _ rfl (pu_ (cs := #[.string t156, .slice none 0 0]) (pu_ (cs := #[.string (⟨#[]⟩ : ByteArray), .slice none 0 0]) (fa_ (h_ BK155) NB155_154.out))) Try.underlying30 rfl (by kernel_rfl)) rfl ?_
  exact ⟨_, by first | rfl | (simp [errW_none, errW_some] <;> rfl) | (simp only [← hji33]; first | rfl | (simp [errW_none, errW_some] <;> rfl)) | (simp [*, errW_none, errW_some] <;> rfl), by (with_reducible repeat (first | apply Ra_ | apply Rn_ | apply Rd_)); exact Kd.R_mono (Kd.R_far (p := ⟨gb155, 1, none⟩) (Kd.R_far (p := ⟨gb155, 0, none⟩) (Kd.R_far (p := ⟨gb154, 1, none⟩) (Kd.R_types (Kd.R_types HO167.out BK154.out (by decide)) BK155.out (by decide)) (fun _ hk => hk.1.2) (.slice (some ad161) y165.length co43)) (fun _ hk => hk.2) (.string t156)) (fun _ hk => hk.2) (.slice (some ad161) y165.length co43)) (fun _ hk => trivial), b_ HB⟩
 ·refine bodyPost_ret (results_cell_row rfl _ _ gb155 30 #[.string (⟨#[]⟩ : ByteArray), .slice none 0 0] (0, 0) _ rfl (pu_ (cs := #[.string (⟨#[]⟩ : ByteArray), .slice none 0 0]) (pu_ (cs := #[.string (⟨#[]⟩ : ByteArray), .slice none 0 0]) (h_ BK155))) Try.underlying30 rfl (by kernel_rfl)) rfl ?_
  exact ⟨_, by first | rfl | (simp [errW_none, errW_some] <;> rfl) | (simp [*, errW_none, errW_some] <;> rfl), by first | exact Kd.R_nil _ _ _ _ _ | exact Kd.N_nil _ _ _ _ _ | exact Kd.V_nil _ _ _ _ _ | exact Kd.Q_nil _ _ _ _ _ | exact Kd.S_nil _ _ _ _ _, b_ HB⟩
 ·refine bodyPost_ret (results_cell_row rfl _ _ gb155 30 #[.string t156, .slice Ao43 t157.length co43] (0, 0) _ rfl (pu_ (cs := #[.string t156, .slice none 0 0]) (pu_ (cs := #[.string (⟨#[]⟩ : ByteArray), .slice none 0 0]) (h_ BK155))) Try.underlying30 rfl (by kernel_rfl)) rfl ?_
  exact ⟨_, by first | rfl | (simp [errW_none, errW_some] <;> rfl) | (simp [*, errW_none, errW_some] <;> rfl), by (with_reducible repeat (first | apply Ra_ | apply Rn_ | apply Rd_)); exact Kd.R_mono (Kd.R_far (p := ⟨gb155, 1, none⟩) (Kd.R_far (p := ⟨gb155, 0, none⟩) (Kd.R_types HO159.out BK155.out (by decide)) (fun _ hk => hk.2) (.string t156)) (fun _ hk => hk.2) (.slice Ao43 t157.length co43)) (fun _ hk => trivial), b_ HB⟩

end Go.Proofs.Ytoodkefpkgbjcaa.PTbp
