-- PRINTED by print.py (a twelfth state) out of the translation. Not trusted: Lean checks it.
import Derived.Shelf.SlSorted.Search
import Derived.Test.YtbaecdcfefmcgaaPVrsx0
import Derived.Test.YtbaecdcfefmcgaaPVrsx2
namespace Go.Proofs.Ytbaecdcfefmcgaa.PVrs
open Go.RowKit Go.Proofs.YtbaecdcfefmcgaaW.PrintWords Go.Proofs.YtbaecdcfefmcgaaW.PrintLast Go.Proofs.YtbaecdcfefmcgaaW.PrintMore
attribute [local go_sem] max2_int min2_int max_two min_two max_three min_three max_four min_four   -- for this text's walks alone
set_option linter.unusedVariables false
set_option linter.unusedSimpArgs false

/-! ### table_May: function 95 -/
mutual
def table_May.l0 : Nat → List (S99) → Int → Int → List (S99) → Option (Bool)
 | 0, _, _, _, _ => none
 | k + 1, x6, x7, x8, x116000 => if x8 < x7 then (if 0 ≤ x8 then (if x8 < (x6.length : Int) then ((chain_May.f k ((rd_T99 x6 x8).f0) ((rd_T99 x6 x8).f1)).bind fun t118 => (if t118 = true then (if x8 > 0 then (if 0 ≤ (wrap64 (x8 - 1)) then (if (wrap64 (x8 - 1)) < (x116000.length : Int) then (table_May.j1 k x6 x7 x8 (!(Op.bytesLess (((rd_T99 x116000 (wrap64 (x8 - 1))).f0).toList) (((rd_T99 x6 x8).f0).toList))) x116000) else (none)) else (none)) else (table_May.j1 k x6 x7 x8 false x116000)) else (table_May.j1 k x6 x7 x8 true x116000))) else (none)) else (none)) else ((table_Rooms.f k x116000).bind fun t120 => (some (decide (t120 ≤ 64))))
def table_May.j1 : Nat → List (S99) → Int → Int → Bool → List (S99) → Option (Bool)
 | 0, _, _, _, _, _ => none
 | k + 1, x6, x7, x8, x31, x116000 => if x31 = true then (some false) else (table_May.l0 k x6 x7 (wrap64 (x8 + 1)) x116000)
end
def table_May.f (k : Nat) (l0_0 : List (S99)) : Option (Bool) := table_May.l0 k l0_0 (l0_0.length : Int) 0 l0_0
theorem table_May.mono_l : ∀ k, (∀ y0 y1 y2 y3, LeO (table_May.l0 k y0 y1 y2 y3) (table_May.l0 (k + 1) y0 y1 y2 y3)) ∧ (∀ y0 y1 y2 y3 y4, LeO (table_May.j1 k y0 y1 y2 y3 y4) (table_May.j1 (k + 1) y0 y1 y2 y3 y4))
 | 0 => ⟨fun _ _ _ _ r h => by simp [table_May.l0] at h, fun _ _ _ _ _ r h => by simp [table_May.j1] at h⟩
 | k + 1 => by
  obtain ⟨ih0, ih1⟩ := table_May.mono_l k
  refine ⟨?_, ?_⟩
  ·intro y0 y1 y2 y3
   unfold table_May.l0
   repeat' first
   | (with_reducible exact ih0 _ _ _ _)
   | (with_reducible exact ih1 _ _ _ _ _)
   | (with_reducible exact chain_May.mono _ _ _)
   | (with_reducible exact table_Rooms.mono _ _)
   | (with_reducible exact LeO.refl _)
   | (with_reducible exact LeO.none _)
   | (with_reducible refine LeO.ite ?_ ?_)
   | (with_reducible refine LeO.bind ?_ (fun _ => ?_))
   | exact ih0 _ _ _ _
   | exact ih1 _ _ _ _ _
   | exact chain_May.mono _ _ _
   | exact table_Rooms.mono _ _
   | exact LeO.none _
   | refine LeO.ite ?_ ?_
   | refine LeO.bind ?_ (fun _ => ?_)
  ·intro y0 y1 y2 y3 y4
   unfold table_May.j1
   repeat' first
   | (with_reducible exact ih0 _ _ _ _)
   | (with_reducible exact ih1 _ _ _ _ _)
   | (with_reducible exact chain_May.mono _ _ _)
   | (with_reducible exact table_Rooms.mono _ _)
   | (with_reducible exact LeO.refl _)
   | (with_reducible exact LeO.none _)
   | (with_reducible refine LeO.ite ?_ ?_)
   | (with_reducible refine LeO.bind ?_ (fun _ => ?_))
   | exact ih0 _ _ _ _
   | exact ih1 _ _ _ _ _
   | exact chain_May.mono _ _ _
   | exact table_Rooms.mono _ _
   | exact LeO.none _
   | refine LeO.ite ?_ ?_
   | refine LeO.bind ?_ (fun _ => ?_)
theorem table_May.mono : ∀ a0 k, LeO (table_May.f k a0) (table_May.f (k + 1) a0) := by
 intro a0 k
 obtain ⟨ih0, ih1⟩ := table_May.mono_l k
 unfold table_May.f
 repeat' first
   | (with_reducible exact ih0 _ _ _ _)
   | (with_reducible exact ih1 _ _ _ _ _)
   | (with_reducible exact chain_May.mono _ _ _)
   | (with_reducible exact table_Rooms.mono _ _)
   | (with_reducible exact LeO.refl _)
   | (with_reducible exact LeO.none _)
   | (with_reducible refine LeO.ite ?_ ?_)
   | (with_reducible refine LeO.bind ?_ (fun _ => ?_))
   | exact ih0 _ _ _ _
   | exact ih1 _ _ _ _ _
   | exact chain_May.mono _ _ _
   | exact table_Rooms.mono _ _
   | exact LeO.none _
   | refine LeO.ite ?_ ?_
   | refine LeO.bind ?_ (fun _ => ?_)
def table_May.T4 : Bool × List (List Nat × List Nat) := (true, [([], []), ([0], [0]), ([1], [1]), ([2, 1], [2]), ([3], [3]), ([4, 3], [3, 4]), ([5, 3, 3], [3, 5]), ([6], [6]), ([7, 6], [6, 7]), ([6], [6]), ([9, 6], [6, 9]), ([6], [6]), ([11, 6], [6, 11]), ([10, 12, 6], [6, 10, 12]), ([13, 6], [6, 13]), ([14, 6], [6, 14]), ([8, 15, 6], [6, 8, 15]), ([6, 16, 3], [3, 6, 16]), ([3, 17], [3, 17])])
def table_May.B4 : List Nat := [0, 1, 3, 7, 15, 31, 63, 127, 255, 127, 639, 127, 2175, 7807, 15999, 32383, 65535, 131071, 262143]
theorem table_May.tab4 : rtab .any (opsOf Try.f95 4) = table_May.T4 := by kernel_rfl
theorem table_May.bits4 : waitsOk table_May.T4.2 table_May.B4 = true := by kernel_rfl
set_option maxHeartbeats 8000000 in
set_option maxRecDepth 100000 in
theorem table_May.calls (k : Nat) (A0_0 : Option Addr) (c0_0 : Nat) (l0_0 : List (S99)) (r : Bool) (w : World) (hr0_0 : Kd.C k99 w A0_0 l0_0.length l0_0) (hc0_0 : l0_0.length ≤ c0_0) (h : table_May.f k l0_0 = some r) :
  Calls Try.prog 95 #[.agg #[.slice A0_0 l0_0.length c0_0]] w fun e w' => e = .returned (.bool r) ∧ Below w.heap.size w w' := by
 have hu47 := Try.underlying47
 have hu99 := Try.underlying99
 have HR0_0 := mk0 hr0_0
 have HC0_0 := mk0 hc0_0
 clear hr0_0 hc0_0
 have HB := mk0 (Below.refl w.heap.size w)
 have H : (table_May.l0 k l0_0 (l0_0.length : Int) 0 l0_0) = some r := h
 clear h
 have H' := mk0 H
 clear H
 go_enter Try.func95, Try.ntmps95
 go_wp2_with (first | ((with_reducible refine gate_dst (N := 1) rfl ?_); refine bx_ (N := 1) (cs := #[.slice A0_0 l0_0.length c0_0]) (t := 47) (h := ?_); intro gb115 hg w2 hbox hb; have n2_ := mk0 (gz_ HB hg); have n3_ := mk0 (gz_ HB hg); replace HB := mk0 (bt_ (b_ HB) hb); have BK115 := mk0 (hbox); have GW115 := n2_; have GE115 := n3_; clear n2_ n3_ hb hbox hg; obtain ⟨hcz3_0, hfz3_0⟩ := c1_ BK115))
 go_loopg [8] k (fun kq v8 w' => ∃ (x8_1 : Int), v8 = .int .i64 x8_1 ∧ Fc (table_May.l0 kq l0_0 (l0_0.length : Int) x8_1 l0_0 = some r) ∧ Fc (kq ≤ k) ∧ Fc (w'.heap[gb115]? = some (.cells #[(.slice A0_0 l0_0.length c0_0)] 47 (0, 0))) ∧ Fc (Below w.heap.size w w'))
 case atStart => exact ⟨(0), (by first | rfl | (simp; done) | (simp [*]; done)), H', ⟨Nat.le_refl _⟩, ⟨h_ BK115⟩, ⟨b_ HB⟩⟩
 case round =>
  clear H'
  try clear hcz3_0
  try clear hfz3_0
  obtain ⟨x8_1, rfl, HA, HK1, BK115, HB⟩ := hrel
  cases gk with
  | zero => exact absurd HA.out (by simp [table_May.l0])
  | succ k1 =>
   have H := HA.out
   clear HA
   simp only [table_May.l0] at H
   as_aux_lemma =>
    by_cases c4 : x8_1 < (l0_0.length : Int)
    ·rw [if_pos c4] at H
     have c4b0 : decide (x8_1 < (l0_0.length : Int)) = true := decide_eq_true c4
     clear c4
     by_cases c5 : 0 ≤ x8_1
     ·rw [if_pos c5] at H
      have c5b0 : decide (0 ≤ x8_1) = true := decide_eq_true c5
      clear c5
      by_cases c6 : x8_1 < (l0_0.length : Int)
      ·rw [if_pos c6] at H
       have c6b0 : decide (x8_1 < (l0_0.length : Int)) = true := decide_eq_true c6
       clear c6
       have HC7 := mk0 H
       clear H
       have p116 : 0 ≤ (x8_1 : Int) := of_decide_eq_true (by first | (with_reducible assumption) | assumption)
       have q116 : x8_1 < (l0_0.length : Int) := of_decide_eq_true (by first | (with_reducible assumption) | assumption)
       obtain ⟨ad116, A116_1, c116_1, e116, hx116_0, hx116_1, hl116_1, hi116_1⟩ := at_T99 HR0_0.out x8_1 p116 q116
       cases e116
       replace hx116_0 := (bc_ HB hx116_0 :)
       replace hx116_1 := (bc_ HB hx116_1 :)
       have HR116_1 := mk0 hi116_1
       have HC116_1 := mk0 hl116_1
       clear hi116_1 hl116_1
       replace p116 := eq_true p116
       replace q116 := eq_true q116
       go_upto_region 4 with (first | ((with_reducible refine gate_dst (N := 4) rfl ?_); refine bx_ (N := 4) (cs := #[.string (⟨#[]⟩ : ByteArray), .slice none 0 0]) (t := 99) (h := ?_); intro gb117 hg w8 hbox hb; have n3_ := mk0 (gz_ HB hg); have n4_ := mk0 (gz_ HB hg); have n5_ := mk0 (ne1_ BK115 hg); have n6_ := mk0 (ne2_ BK115 hg); replace BK115 := mk0 (u_ BK115 hb); replace HB := mk0 (bt_ (b_ HB) hb); have BK117 := mk0 (hbox); have GW117 := n3_; have GE117 := n4_; have NB115_117 := n5_; have NB117_115 := n6_; clear n3_ n4_ n5_ n6_ hb hbox hg; have hnb9 := NB117_115.out; have hnc9 := NB115_117.out; obtain ⟨hcz10_0, hcz10_1, hfz10_0, hfz10_1⟩ := c2_ BK117))
       (try simp only [Act.put, List.setIfInBounds_toArray, List.set_cons_zero, List.set_cons_succ])
       go_cut [31] (fun v31 wc => ∃ (kq : Nat) (x31_6 : Bool), v31 = .bool x31_6 ∧ Fc (table_May.j1 kq l0_0 (l0_0.length : Int) x8_1 x31_6 l0_0 = some r) ∧ Fc (kq ≤ k1) ∧ Fc (wc.heap[gb115]? = some (.cells #[(.slice (some ad116) l0_0.length c0_0)] 47 (0, 0))) ∧ Fc (wc.heap[gb117]? = some (.cells #[.string ((rd_T99 l0_0 x8_1).f0), (.slice A116_1 ((rd_T99 l0_0 x8_1).f1).length c116_1)] 99 (0, 0))) ∧ Fc (Below w.heap.size w wc))
       case first =>
        have H := HC7.out
        clear HC7
        replace H := Option.bind_eq_some_iff.mp H
        obtain ⟨t118, A110, H⟩ := H
        try dsimp only at H
        have A11 := mk0 A110
        clear A110
        by_cases c12 : t118 = true
        ·subst c12
         rw [if_pos rfl] at H
         by_cases c13 : x8_1 > 0
         ·rw [if_pos c13] at H
          have c13b0 : decide (0 < x8_1) = true := decide_eq_true c13
          clear c13
          (first | rw [c13b0] | (simp only [i64_w, i32_w]; rw [c13b0]) | skip)
          obtain ⟨ji14, hji14⟩ : ∃ j_ : Int, (wrap64 (x8_1 - 1)) = j_ := ⟨_, rfl⟩
          replace H : (if 0 ≤ (ji14) then (if (ji14) < (l0_0.length : Int) then (table_May.j1 k1 l0_0 (l0_0.length : Int) x8_1 (!(Op.bytesLess (((rd_T99 l0_0 (ji14)).f0).toList) (((rd_T99 l0_0 x8_1).f0).toList))) l0_0) else (none)) else (none)) = some r := by first | (rw [hji14] at H; exact H) | (simp only [hji14] at H ⊢; exact H)
          (try rw [hji14] at A11)
          have hji14w : (IntKind.i64.wrap (x8_1 - 1)) = ji14 := (i64_w _).trans hji14
          by_cases c15 : 0 ≤ (ji14)
          ·rw [if_pos c15] at H
           have c15b0 : decide (0 ≤ (ji14)) = true := decide_eq_true c15
           clear c15
           by_cases c16 : (ji14) < (l0_0.length : Int)
           ·rw [if_pos c16] at H
            have c16b0 : decide ((ji14) < (l0_0.length : Int)) = true := decide_eq_true c16
            clear c16
            have H' := mk0 H
            clear H
            try go_wp2
            have n0_ : Fc (((w8.setCell ⟨gb117, 0, none⟩ (.string ((rd_T99 l0_0 x8_1).f0))).setCell ⟨gb117, 1, none⟩ (.slice A116_1 ((rd_T99 l0_0 x8_1).f1).length c116_1)).heap[gb115]? = some (.cells #[.slice (some ad116) l0_0.length c0_0] 47 (0, 0))) := ⟨(fa_ (fa_ (h_ BK115) NB115_117.out) NB115_117.out)⟩
            have n1_ : Fc (((w8.setCell ⟨gb117, 0, none⟩ (.string ((rd_T99 l0_0 x8_1).f0))).setCell ⟨gb117, 1, none⟩ (.slice A116_1 ((rd_T99 l0_0 x8_1).f1).length c116_1)).heap[gb117]? = some (.cells #[.string ((rd_T99 l0_0 x8_1).f0), .slice A116_1 ((rd_T99 l0_0 x8_1).f1).length c116_1] 99 (0, 0))) := ⟨(pu_ (cs := #[.string ((rd_T99 l0_0 x8_1).f0), .slice none 0 0]) (pu_ (cs := #[.string (⟨#[]⟩ : ByteArray), .slice none 0 0]) (h_ BK117)))⟩
            have n2_ : Fc (Below w.heap.size w ((w8.setCell ⟨gb117, 0, none⟩ (.string ((rd_T99 l0_0 x8_1).f0))).setCell ⟨gb117, 1, none⟩ (.slice A116_1 ((rd_T99 l0_0 x8_1).f1).length c116_1))) := ⟨b_ HB⟩
            (try clear BK115)
            (try clear BK117)
            (try clear HB)
            generalize ((w8.setCell ⟨gb117, 0, none⟩ (.string ((rd_T99 l0_0 x8_1).f0))).setCell ⟨gb117, 1, none⟩ (.slice A116_1 ((rd_T99 l0_0 x8_1).f1).length c116_1)) = w17 at n0_ n1_ n2_ ⊢
            have BK115 := n0_
            have BK117 := n1_
            have HB := n2_
            clear n0_ n1_ n2_
            replace BK115 := mk0 (bD_ BK115.out)
            replace BK117 := mk0 (bD_ BK117.out)
            replace HB := mk0 (b1_ HB.out)
            have p119 : 0 ≤ ((ji14) : Int) := of_decide_eq_true (by first | (with_reducible assumption) | assumption)
            have q119 : (ji14) < (l0_0.length : Int) := of_decide_eq_true (by first | (with_reducible assumption) | assumption)
            obtain ⟨ad119, A119_1, c119_1, e119, hx119_0, hx119_1, hl119_1, hi119_1⟩ := at_T99 HR0_0.out (ji14) p119 q119
            have hw119_1 := hx119_1
            have hw119_0 := hx119_0
            obtain rfl : ad116 = ad119 := (by injection e119)
            replace hx119_0 := (bc_ HB hx119_0 :)
            replace hx119_1 := (bc_ HB hx119_1 :)
            have HR119_1 := mk0 hi119_1
            have HC119_1 := mk0 hl119_1
            clear hi119_1 hl119_1
            replace p119 := eq_true p119
            replace q119 := eq_true q119
            refine start_ (n := 19) (S := fun w' => w'.cell? ⟨gb117, 0, none⟩ = some (.string ((rd_T99 l0_0 x8_1).f0)) ∧ w'.cell? ⟨gb117, 1, none⟩ = some (.slice A116_1 ((rd_T99 l0_0 x8_1).f1).length c116_1) ∧ w'.cell? ⟨gb115, 0, none⟩ = some (.slice (some ad116) l0_0.length c0_0) ∧ w'.cell? (ad116.add (((ji14)).toNat * 2)) = some (.string ((rd_T99 l0_0 (ji14)).f0)) ∧ w'.cell? ⟨(ad116.add (((ji14)).toNat * 2)).block, (ad116.add (((ji14)).toNat * 2)).off + 1, none⟩ = some (.slice A119_1 ((rd_T99 l0_0 (ji14)).f1).length c119_1)) (ds := []) (bt 19 0) (by kernel_rfl) rfl rfl ⟨bk_ BK117 0, bk_ BK117 1, bk_ BK115 0, ((bc_ HB hw119_0 :)), ((bc_ HB hw119_1 :))⟩ (fun hHeld => ?_); refine with_tabW table_May.tab4 table_May.bits4 (fun HT_ HW_ => ?_)
            generalize w17.drew = w18 at BK115 BK117 HB HR119_1 hx119_0 hx119_1 hHeld ⊢
            refine tq5_ HT_.out HW_.out 0 13 (bt 19 1) hHeld (h := ?_)
            refine one_ (i := 1) (N := some 14) (bt 19 3) rfl rfl (one_of HT_.out (by kernel_rfl)) (by decide) (fun K hK => ?_)
            refine goes_ Try.func144 (by kernel_rfl) rfl #[.agg #[.string ((rd_T99 l0_0 x8_1).f0), .slice A116_1 ((rd_T99 l0_0 x8_1).f1).length c116_1]] (by rfl) rfl rfl (by (try simp only [List.map_toArray, List.map_cons, List.map_nil]); first | done | rfl | (simp only [List.length_drop, List.length_take]; rfl)) ?_
            with_reducible refine (chain_May.calls k1 ((rd_T99 l0_0 x8_1).f0) _ _ ((rd_T99 l0_0 x8_1).f1) true _ ?side1 ?side2 A11.out).mono ?_
            (case side1 => exact cb_ HR116_1 HB)
            (case side2 => exact HC116_1.out)
            rintro e w19 ⟨rfl, hb⟩
            refine ⟨_, rfl, ?_⟩
            replace BK115 := mk0 (u_ BK115 hb)
            replace BK117 := mk0 (u_ BK117 hb)
            replace HB := mk0 (bt_ (b_ HB) hb)
            (try clear hb)
            (try clear hb2)
            (try clear hk)
            (try clear hi)
            refine hK.out _ _ ⟨bk_ BK117 0, bk_ BK117 1, bk_ BK115 0, ((bc_ HB hw119_0 :)), ((bc_ HB hw119_1 :))⟩ (fun hHeld => ?_)
            clear hK K
            refine norm_ (a' := ?_) ?_ ?_
            rotate_left
            ·show Act.put _ (some 14) _ = _
             simp only [z_]
             rfl
            refine pq_ HT_.out 2 15 (bt 19 7) (h := ?_)
            refine pq_ HT_.out 3 16 (bt 19 15) (h := ?_)
            refine pq_ HT_.out 4 17 (bt 19 31) (h := ?_)
            refine pq_ HT_.out 5 18 (bt 19 63) (h := ?_)
            refine pq_ HT_.out 6 19 (bt 19 127) (h := ?_)
            refine pq_ HT_.out 7 20 (bt 19 255) (h := ?_)
            refine pq_ HT_.out 9 22 (bt 19 767) (h := ?_)
            refine pq_ HT_.out 11 24 (bt 19 2815) (h := ?_)
            refine pq_ HT_.out 12 25 (bt 19 6911) (h := ?_)
            refine tq5_ HT_.out HW_.out 8 21 (bt 19 7167) hHeld (h := ?_)
            refine tq5_ HT_.out HW_.out 10 23 (bt 19 8191) hHeld (h := ?_)
            refine pq_ HT_.out 13 26 (bt 19 16383) (h := ?_)
            refine pq_ HT_.out 14 27 (bt 19 32767) (h := ?_)
            refine tq5_ HT_.out HW_.out 15 28 (bt 19 65535) hHeld (h := ?_)
            refine pq_ HT_.out 16 29 (bt 19 131071) (h := ?_)
            refine pq_ HT_.out 17 30 (bt 19 262143) (h := ?_)
            refine pq_ HT_.out 18 31 (bt 19 524287) (h := ?_)
            refine done_ (done_of HT_.out (by kernel_rfl)) ?_
            try go_wp2
            go_meet
            case rel => exact ⟨_, (!(Op.bytesLess (((rd_T99 l0_0 (ji14)).f0).toList) (((rd_T99 l0_0 x8_1).f0).toList))), (by first | rfl | (simp; done) | (simp only [← hji14] <;> (first | rfl | (simp [leq_]; done) | (simp; done))) | (simp [*]; done)), H', ⟨by have := HK1.out; first | omega | exact Nat.le_refl _⟩, ⟨h_ BK115⟩, ⟨h_ BK117⟩, ⟨b_ HB⟩⟩
           ·rw [if_neg c16] at H
            exact absurd H (by simp)
          ·rw [if_neg c15] at H
           exact absurd H (by simp)
         ·rw [if_neg c13] at H
          have c13b0 : decide (0 < x8_1) = false := decide_eq_false c13
          clear c13
          (first | rw [c13b0] | (simp only [i64_w, i32_w]; rw [c13b0]) | skip)
          have H' := mk0 H
          clear H
          try go_wp2
          have n0_ : Fc (((w8.setCell ⟨gb117, 0, none⟩ (.string ((rd_T99 l0_0 x8_1).f0))).setCell ⟨gb117, 1, none⟩ (.slice A116_1 ((rd_T99 l0_0 x8_1).f1).length c116_1)).heap[gb115]? = some (.cells #[.slice (some ad116) l0_0.length c0_0] 47 (0, 0))) := ⟨(fa_ (fa_ (h_ BK115) NB115_117.out) NB115_117.out)⟩
          have n1_ : Fc (((w8.setCell ⟨gb117, 0, none⟩ (.string ((rd_T99 l0_0 x8_1).f0))).setCell ⟨gb117, 1, none⟩ (.slice A116_1 ((rd_T99 l0_0 x8_1).f1).length c116_1)).heap[gb117]? = some (.cells #[.string ((rd_T99 l0_0 x8_1).f0), .slice A116_1 ((rd_T99 l0_0 x8_1).f1).length c116_1] 99 (0, 0))) := ⟨(pu_ (cs := #[.string ((rd_T99 l0_0 x8_1).f0), .slice none 0 0]) (pu_ (cs := #[.string (⟨#[]⟩ : ByteArray), .slice none 0 0]) (h_ BK117)))⟩
          have n2_ : Fc (Below w.heap.size w ((w8.setCell ⟨gb117, 0, none⟩ (.string ((rd_T99 l0_0 x8_1).f0))).setCell ⟨gb117, 1, none⟩ (.slice A116_1 ((rd_T99 l0_0 x8_1).f1).length c116_1))) := ⟨b_ HB⟩
          (try clear BK115)
          (try clear BK117)
          (try clear HB)
          generalize ((w8.setCell ⟨gb117, 0, none⟩ (.string ((rd_T99 l0_0 x8_1).f0))).setCell ⟨gb117, 1, none⟩ (.slice A116_1 ((rd_T99 l0_0 x8_1).f1).length c116_1)) = w20 at n0_ n1_ n2_ ⊢
          have BK115 := n0_
          have BK117 := n1_
          have HB := n2_
          clear n0_ n1_ n2_
          replace BK115 := mk0 (bD_ BK115.out)
          replace BK117 := mk0 (bD_ BK117.out)
          replace HB := mk0 (b1_ HB.out)
          refine start_ (n := 19) (S := fun w' => w'.cell? ⟨gb117, 0, none⟩ = some (.string ((rd_T99 l0_0 x8_1).f0)) ∧ w'.cell? ⟨gb117, 1, none⟩ = some (.slice A116_1 ((rd_T99 l0_0 x8_1).f1).length c116_1)) (ds := []) (bt 19 0) (by kernel_rfl) rfl rfl ⟨bk_ BK117 0, bk_ BK117 1⟩ (fun hHeld => ?_); refine with_tabW table_May.tab4 table_May.bits4 (fun HT_ HW_ => ?_)
          generalize w20.drew = w21 at BK115 BK117 HB hHeld ⊢
          refine tq2_ HT_.out HW_.out 0 13 (bt 19 1) hHeld (h := ?_)
          refine one_ (i := 1) (N := some 14) (bt 19 3) rfl rfl (one_of HT_.out (by kernel_rfl)) (by decide) (fun K hK => ?_)
          refine goes_ Try.func144 (by kernel_rfl) rfl #[.agg #[.string ((rd_T99 l0_0 x8_1).f0), .slice A116_1 ((rd_T99 l0_0 x8_1).f1).length c116_1]] (by rfl) rfl rfl (by (try simp only [List.map_toArray, List.map_cons, List.map_nil]); first | done | rfl | (simp only [List.length_drop, List.length_take]; rfl)) ?_
          with_reducible refine (chain_May.calls k1 ((rd_T99 l0_0 x8_1).f0) _ _ ((rd_T99 l0_0 x8_1).f1) true _ ?side1 ?side2 A11.out).mono ?_
          (case side1 => exact cb_ HR116_1 HB)
          (case side2 => exact HC116_1.out)
          rintro e w22 ⟨rfl, hb⟩
          refine ⟨_, rfl, ?_⟩
          replace BK115 := mk0 (u_ BK115 hb)
          replace BK117 := mk0 (u_ BK117 hb)
          replace HB := mk0 (bt_ (b_ HB) hb)
          (try clear hb)
          (try clear hb2)
          (try clear hk)
          (try clear hi)
          refine hK.out _ _ ⟨bk_ BK117 0, bk_ BK117 1⟩ (fun hHeld => ?_)
          clear hK K
          refine norm_ (a' := ?_) ?_ ?_
          rotate_left
          ·show Act.put _ (some 14) _ = _
           simp only [z_]
           rfl
          refine pq_ HT_.out 2 15 (bt 19 7) (h := ?_)
          refine pq_ HT_.out 3 16 (bt 19 15) (h := ?_)
          refine pq_ HT_.out 4 17 (bt 19 31) (h := ?_)
          refine pq_ HT_.out 5 18 (bt 19 63) (h := ?_)
          refine pq_ HT_.out 6 19 (bt 19 127) (h := ?_)
          refine uq_ HT_.out 7 20 (bt 19 255) (h := ?_)
          refine uq_ HT_.out 8 21 (bt 19 511) (h := ?_)
          refine uq_ HT_.out 9 22 (bt 19 1023) (h := ?_)
          refine uq_ HT_.out 10 23 (bt 19 2047) (h := ?_)
          refine uq_ HT_.out 11 24 (bt 19 4095) (h := ?_)
          refine uq_ HT_.out 12 25 (bt 19 8191) (h := ?_)
          refine uq_ HT_.out 13 26 (bt 19 16383) (h := ?_)
          refine uq_ HT_.out 14 27 (bt 19 32767) (h := ?_)
          refine uq_ HT_.out 15 28 (bt 19 65535) (h := ?_)
          refine uq_ HT_.out 16 29 (bt 19 131071) (h := ?_)
          refine pq_ HT_.out 17 30 (bt 19 262143) (h := ?_)
          refine pq_ HT_.out 18 31 (bt 19 524287) (h := ?_)
          refine done_ (done_of HT_.out (by kernel_rfl)) ?_
          try go_wp2
          go_meet
          case rel => exact ⟨_, (false), (by first | rfl | (simp; done) | (simp [*]; done)), H', ⟨by have := HK1.out; first | omega | exact Nat.le_refl _⟩, ⟨h_ BK115⟩, ⟨h_ BK117⟩, ⟨b_ HB⟩⟩
        ·replace c12 := Bool.eq_false_iff.mpr c12
         subst c12
         rw [if_neg (show ¬ (false = true) by decide)] at H
         have H' := mk0 H
         clear H
         try go_wp2
         have n0_ : Fc (((w8.setCell ⟨gb117, 0, none⟩ (.string ((rd_T99 l0_0 x8_1).f0))).setCell ⟨gb117, 1, none⟩ (.slice A116_1 ((rd_T99 l0_0 x8_1).f1).length c116_1)).heap[gb115]? = some (.cells #[.slice (some ad116) l0_0.length c0_0] 47 (0, 0))) := ⟨(fa_ (fa_ (h_ BK115) NB115_117.out) NB115_117.out)⟩
         have n1_ : Fc (((w8.setCell ⟨gb117, 0, none⟩ (.string ((rd_T99 l0_0 x8_1).f0))).setCell ⟨gb117, 1, none⟩ (.slice A116_1 ((rd_T99 l0_0 x8_1).f1).length c116_1)).heap[gb117]? = some (.cells #[.string ((rd_T99 l0_0 x8_1).f0), .slice A116_1 ((rd_T99 l0_0 x8_1).f1).length c116_1] 99 (0, 0))) := ⟨(pu_ (cs := #[.string ((rd_T99 l0_0 x8_1).f0), .slice none 0 0]) (pu_ (cs := #[.string (⟨#[]⟩ : ByteArray), .slice none 0 0]) (h_ BK117)))⟩
         have n2_ : Fc (Below w.heap.size w ((w8.setCell ⟨gb117, 0, none⟩ (.string ((rd_T99 l0_0 x8_1).f0))).setCell ⟨gb117, 1, none⟩ (.slice A116_1 ((rd_T99 l0_0 x8_1).f1).length c116_1))) := ⟨b_ HB⟩
         (try clear BK115)
         (try clear BK117)
         (try clear HB)
         generalize ((w8.setCell ⟨gb117, 0, none⟩ (.string ((rd_T99 l0_0 x8_1).f0))).setCell ⟨gb117, 1, none⟩ (.slice A116_1 ((rd_T99 l0_0 x8_1).f1).length c116_1)) = w23 at n0_ n1_ n2_ ⊢
         have BK115 := n0_
         have BK117 := n1_
         have HB := n2_
         clear n0_ n1_ n2_
         replace BK115 := mk0 (bD_ BK115.out)
         replace BK117 := mk0 (bD_ BK117.out)
         replace HB := mk0 (b1_ HB.out)
         refine start_ (n := 19) (S := fun w' => w'.cell? ⟨gb117, 0, none⟩ = some (.string ((rd_T99 l0_0 x8_1).f0)) ∧ w'.cell? ⟨gb117, 1, none⟩ = some (.slice A116_1 ((rd_T99 l0_0 x8_1).f1).length c116_1)) (ds := []) (bt 19 0) (by kernel_rfl) rfl rfl ⟨bk_ BK117 0, bk_ BK117 1⟩ (fun hHeld => ?_); refine with_tabW table_May.tab4 table_May.bits4 (fun HT_ HW_ => ?_)
         generalize w23.drew = w24 at BK115 BK117 HB hHeld ⊢
         refine tq2_ HT_.out HW_.out 0 13 (bt 19 1) hHeld (h := ?_)
         refine one_ (i := 1) (N := some 14) (bt 19 3) rfl rfl (one_of HT_.out (by kernel_rfl)) (by decide) (fun K hK => ?_)
         refine goes_ Try.func144 (by kernel_rfl) rfl #[.agg #[.string ((rd_T99 l0_0 x8_1).f0), .slice A116_1 ((rd_T99 l0_0 x8_1).f1).length c116_1]] (by rfl) rfl rfl (by (try simp only [List.map_toArray, List.map_cons, List.map_nil]); first | done | rfl | (simp only [List.length_drop, List.length_take]; rfl)) ?_
         with_reducible refine (chain_May.calls k1 ((rd_T99 l0_0 x8_1).f0) _ _ ((rd_T99 l0_0 x8_1).f1) false _ ?side1 ?side2 A11.out).mono ?_
         (case side1 => exact cb_ HR116_1 HB)
         (case side2 => exact HC116_1.out)
         rintro e w25 ⟨rfl, hb⟩
         refine ⟨_, rfl, ?_⟩
         replace BK115 := mk0 (u_ BK115 hb)
         replace BK117 := mk0 (u_ BK117 hb)
         replace HB := mk0 (bt_ (b_ HB) hb)
         (try clear hb)
         (try clear hb2)
         (try clear hk)
         (try clear hi)
         refine hK.out _ _ ⟨bk_ BK117 0, bk_ BK117 1⟩ (fun hHeld => ?_)
         clear hK K
         refine norm_ (a' := ?_) ?_ ?_
         rotate_left
         ·show Act.put _ (some 14) _ = _
          simp only [z_]
          rfl
         refine pq_ HT_.out 2 15 (bt 19 7) (h := ?_)
         refine pq_ HT_.out 3 16 (bt 19 15) (h := ?_)
         refine uq_ HT_.out 4 17 (bt 19 31) (h := ?_)
         refine uq_ HT_.out 5 18 (bt 19 63) (h := ?_)
         refine uq_ HT_.out 6 19 (bt 19 127) (h := ?_)
         refine uq_ HT_.out 7 20 (bt 19 255) (h := ?_)
         refine uq_ HT_.out 8 21 (bt 19 511) (h := ?_)
         refine uq_ HT_.out 9 22 (bt 19 1023) (h := ?_)
         refine uq_ HT_.out 10 23 (bt 19 2047) (h := ?_)
         refine uq_ HT_.out 11 24 (bt 19 4095) (h := ?_)
         refine uq_ HT_.out 12 25 (bt 19 8191) (h := ?_)
         refine uq_ HT_.out 13 26 (bt 19 16383) (h := ?_)
         refine uq_ HT_.out 14 27 (bt 19 32767) (h := ?_)
         refine uq_ HT_.out 15 28 (bt 19 65535) (h := ?_)
         refine uq_ HT_.out 16 29 (bt 19 131071) (h := ?_)
         refine uq_ HT_.out 17 30 (bt 19 262143) (h := ?_)
         refine pq_ HT_.out 18 31 (bt 19 524287) (h := ?_)
         refine done_ (done_of HT_.out (by kernel_rfl)) ?_
         try go_wp2
         go_meet
         case rel => exact ⟨_, (true), (by first | rfl | (simp; done) | (simp [*]; done)), H', ⟨by have := HK1.out; first | omega | exact Nat.le_refl _⟩, ⟨h_ BK115⟩, ⟨h_ BK117⟩, ⟨b_ HB⟩⟩
       case rest =>
        clear HC7
        try clear p1
        try clear c4
        try clear c4b0
        try clear c5
        try clear c5b0
        try clear c6
        try clear c6b0
        try clear c12
        try clear c13
        try clear c13b0
        try clear c15
        try clear c15b0
        try clear c16
        try clear c16b0
        try clear hcz10_0
        try clear hcz10_1
        try clear hfz10_0
        try clear hfz10_1
        try clear hx116_0
        try clear hx116_1
        try clear hx119_0
        try clear hx119_1
        try clear p116
        try clear p119
        try clear q116
        try clear q119
        obtain ⟨kq, x31_6, rfl, HA, HJ6, BK115, BK117, HB⟩ := hcut
        cases kq with
        | zero => exact absurd HA.out (by simp [table_May.j1])
        | succ kj6 =>
         have H := HA.out
         clear HA
         simp only [table_May.j1] at H
         as_aux_lemma =>
          by_cases c26 : x31_6 = true
          ·subst c26
           rw [if_pos rfl] at H
           obtain rfl := Option.some.inj H
           go_wp2
           go_ret
           exact ⟨by first | rfl | (simp [errW_none, errW_some] <;> rfl) | (simp [*, errW_none, errW_some] <;> rfl), b_ HB⟩
          ·replace c26 := Bool.eq_false_iff.mpr c26
           subst c26
           rw [if_neg (show ¬ (false = true) by decide)] at H
           have H' := mk0 H
           clear H
           go_wp2
           go_roundg kj6
           case measure => have := HK1.out; have := HJ6.out; omega
           case rel => exact ⟨(wrap64 (x8_1 + 1)), (by first | rfl | (simp; done) | (simp [*]; done)), H', ⟨by have := HK1.out; have := HJ6.out; omega⟩, ⟨h_ BK115⟩, ⟨b_ HB⟩⟩
      ·rw [if_neg c6] at H
       exact absurd H (by simp)
     ·rw [if_neg c5] at H
      exact absurd H (by simp)
    ·rw [if_neg c4] at H
     have c4b0 : decide (x8_1 < (l0_0.length : Int)) = false := decide_eq_false c4
     clear c4
     replace H := Option.bind_eq_some_iff.mp H
     obtain ⟨t120, A270, H⟩ := H
     try dsimp only at H
     have A27 := mk0 A270
     clear A270
     obtain rfl := Option.some.inj H
     obtain ⟨hcz28_0, hfz28_0⟩ := c1_ BK115
     go_wp2_with (first | ((with_reducible refine gate_callee (f := 122) rfl ?_); refine gL_ (some 34) Try.func122 #[.agg #[.slice A0_0 l0_0.length c0_0]] (h := ?_); (with_reducible refine (table_Rooms.calls k1 _ _ l0_0 t120 _ ?side1 ?side2 A27.out).mono ?_); (case side1 => exact cb_ HR0_0 HB); (case side2 => exact HC0_0.out); rintro e w29 ⟨rfl, hb⟩; refine ⟨_, rfl, ?_⟩; replace BK115 := mk0 (u_ BK115 hb); replace HB := mk0 (bt_ (b_ HB) hb); (try clear hb)))
     go_ret
     exact ⟨by first | rfl | (simp [errW_none, errW_some] <;> rfl) | (simp [*, errW_none, errW_some] <;> rfl), b_ HB⟩

/-! ### view_May_1: function 94 -/
def view_May_1.f (k : Nat) (l0_0 : List (S99)) : Option (Bool) := (table_May.f k l0_0).bind fun t122 => (some (!t122))
theorem view_May_1.mono : ∀ a0 k, LeO (view_May_1.f k a0) (view_May_1.f (k + 1) a0) := by
 intro a0 k
 unfold view_May_1.f
 repeat' first
   | (with_reducible exact table_May.mono _ _)
   | (with_reducible exact LeO.refl _)
   | (with_reducible exact LeO.none _)
   | (with_reducible refine LeO.ite ?_ ?_)
   | (with_reducible refine LeO.bind ?_ (fun _ => ?_))
   | exact table_May.mono _ _
   | exact LeO.none _
   | refine LeO.ite ?_ ?_
   | refine LeO.bind ?_ (fun _ => ?_)
set_option maxHeartbeats 8000000 in
set_option maxRecDepth 100000 in
theorem view_May_1.calls (k : Nat) (A0_0 : Option Addr) (c0_0 : Nat) (l0_0 : List (S99)) (r : Bool) (w : World) (hr0_0 : Kd.C k99 w A0_0 l0_0.length l0_0) (hc0_0 : l0_0.length ≤ c0_0) (h : view_May_1.f k l0_0 = some r) :
  Calls Try.prog 94 #[.agg #[.slice A0_0 l0_0.length c0_0]] w fun e w' => e = .returned (.bool r) ∧ Below w.heap.size w w' := by
 have hu47 := Try.underlying47
 have HR0_0 := mk0 hr0_0
 have HC0_0 := mk0 hc0_0
 clear hr0_0 hc0_0
 have HB := mk0 (Below.refl w.heap.size w)
 have H : ((table_May.f k l0_0).bind fun t122 => (some (!t122))) = some r := h
 clear h
 replace H := Option.bind_eq_some_iff.mp H
 obtain ⟨t122, A20, H⟩ := H
 try dsimp only at H
 have A2 := mk0 A20
 clear A20
 obtain rfl := Option.some.inj H
 go_enter Try.func94, Try.ntmps94
 go_wp2_with (first | ((with_reducible refine gate_dst (N := 1) rfl ?_); refine bx_ (N := 1) (cs := #[.slice A0_0 l0_0.length c0_0]) (t := 47) (h := ?_); intro gb121 hg w3 hbox hb; have n2_ := mk0 (gz_ HB hg); have n3_ := mk0 (gz_ HB hg); replace HB := mk0 (bt_ (b_ HB) hb); have BK121 := mk0 (hbox); have GW121 := n2_; have GE121 := n3_; clear n2_ n3_ hb hbox hg; obtain ⟨hcz4_0, hfz4_0⟩ := c1_ BK121) | ((with_reducible refine gate_callee (f := 95) rfl ?_); refine gL_ (some 4) Try.func95 #[.agg #[.slice A0_0 l0_0.length c0_0]] (h := ?_); (with_reducible refine (table_May.calls k _ _ l0_0 t122 _ ?side1 ?side2 A2.out).mono ?_); (case side1 => exact cb_ HR0_0 HB); (case side2 => exact HC0_0.out); rintro e w5 ⟨rfl, hb⟩; refine ⟨_, rfl, ?_⟩; replace BK121 := mk0 (u_ BK121 hb); replace HB := mk0 (bt_ (b_ HB) hb); (try clear hb)))
 go_ret
 exact ⟨by first | rfl | (simp [errW_none, errW_some] <;> rfl) | (simp [*, errW_none, errW_some] <;> rfl), b_ HB⟩

end Go.Proofs.Ytbaecdcfefmcgaa.PVrs
