-- PRINTED by print.py (a twelfth state) out of the translation. Not trusted: Lean checks it.
import Derived.Shelf.SlSorted.Search
import Derived.Test.YtbaecdcfefmcgaaPVowx0
import Derived.Test.YtbaecdcfefmcgaaPVowx1
namespace Go.Proofs.Ytbaecdcfefmcgaa.PVow
open Go.RowKit Go.Proofs.YtbaecdcfefmcgaaW.PrintWords Go.Proofs.YtbaecdcfefmcgaaW.PrintLast Go.Proofs.YtbaecdcfefmcgaaW.PrintMore
attribute [local go_sem] max2_int min2_int max_two min_two max_three min_three max_four min_four   -- for this text's walks alone
set_option linter.unusedVariables false
set_option linter.unusedSimpArgs false

/-! ### table_May: function 95 -/
def table_May.l0 : Nat → List (S99) → Int → Int → List (S99) → Option (Bool)
 | 0, _, _, _, _ => none
 | k + 1, x6, x7, x8, x113000 => if x8 < x7 then (if 0 ≤ x8 then (if x8 < (x6.length : Int) then ((chain_May.f k ((rd_T99 x6 x8).f0) ((rd_T99 x6 x8).f1)).bind fun t115 => (if t115 = true then (if x8 > 0 then (if 0 ≤ (wrap64 (x8 - 1)) then (if (wrap64 (x8 - 1)) < (x113000.length : Int) then (if ((Op.bytesLess (((rd_T99 x113000 (wrap64 (x8 - 1))).f0).toList) (((rd_T99 x6 x8).f0).toList)) = true) then (table_May.l0 k x6 x7 (wrap64 (x8 + 1)) x113000) else (some false)) else (none)) else (none)) else (table_May.l0 k x6 x7 (wrap64 (x8 + 1)) x113000)) else (some false))) else (none)) else (none)) else ((table_Rooms.f k x113000).bind fun t117 => (some (decide (t117 ≤ 64))))
def table_May.f (k : Nat) (l0_0 : List (S99)) : Option (Bool) := table_May.l0 k l0_0 (l0_0.length : Int) 0 l0_0
theorem table_May.mono_l : ∀ k, (∀ y0 y1 y2 y3, LeO (table_May.l0 k y0 y1 y2 y3) (table_May.l0 (k + 1) y0 y1 y2 y3))
 | 0 => fun _ _ _ _ r h => by simp [table_May.l0] at h
 | k + 1 => by
  have ih0 := table_May.mono_l k
  ·intro y0 y1 y2 y3
   unfold table_May.l0
   repeat' first
   | (with_reducible exact ih0 _ _ _ _)
   | (with_reducible exact chain_May.mono _ _ _)
   | (with_reducible exact table_Rooms.mono _ _)
   | (with_reducible exact LeO.refl _)
   | (with_reducible exact LeO.none _)
   | (with_reducible refine LeO.ite ?_ ?_)
   | (with_reducible refine LeO.bind ?_ (fun _ => ?_))
   | exact ih0 _ _ _ _
   | exact chain_May.mono _ _ _
   | exact table_Rooms.mono _ _
   | exact LeO.none _
   | refine LeO.ite ?_ ?_
   | refine LeO.bind ?_ (fun _ => ?_)
theorem table_May.mono : ∀ a0 k, LeO (table_May.f k a0) (table_May.f (k + 1) a0) := by
 intro a0 k
 have ih0 := table_May.mono_l k
 unfold table_May.f
 repeat' first
   | (with_reducible exact ih0 _ _ _ _)
   | (with_reducible exact chain_May.mono _ _ _)
   | (with_reducible exact table_Rooms.mono _ _)
   | (with_reducible exact LeO.refl _)
   | (with_reducible exact LeO.none _)
   | (with_reducible refine LeO.ite ?_ ?_)
   | (with_reducible refine LeO.bind ?_ (fun _ => ?_))
   | exact ih0 _ _ _ _
   | exact chain_May.mono _ _ _
   | exact table_Rooms.mono _ _
   | exact LeO.none _
   | refine LeO.ite ?_ ?_
   | refine LeO.bind ?_ (fun _ => ?_)
def table_May.T4 : Bool × List (List Nat × List Nat) := (true, [([], []), ([0], [0]), ([1], [1]), ([2, 1], [2]), ([3], [3]), ([4, 3], [3, 4]), ([5, 3, 3], [3, 5]), ([6], [6]), ([7, 6], [6, 7]), ([6], [6]), ([9, 6], [6, 9]), ([6], [6]), ([11, 6], [6, 11]), ([10, 12, 6], [6, 10, 12]), ([13, 6], [6, 13]), ([14, 6], [6, 14]), ([8, 15, 6], [6, 8, 15]), ([6, 16, 3], [3, 6, 16]), ([3, 17], [3, 17])])
def table_May.B4 : List Nat := [0, 1, 3, 7, 15, 31, 63, 127, 255, 127, 639, 127, 2175, 7807, 15999, 32383, 65535, 131071, 262143]
theorem table_May.tab4 : rtab .any (opsOf Try.f95 4) = table_May.T4 := by kernel_rfl
theorem table_May.bits4 : waitsOk table_May.T4.2 table_May.B4 = true := by kernel_rfl
set_option maxHeartbeats 8000000 in
set_option maxRecDepth 100000 in
theorem table_May.calls (k : Nat) (A0_0 : Option Addr) (c0_0 : Nat) (l0_0 : List (S99)) (r : Bool) (w : World) (hr0_0 : Kd.C k99 w A0_0 l0_0.length l0_0) (hc0_0 : l0_0.length ≤ c0_0) (h : table_May.f k l0_0 = some r) :
  Calls Try.prog 95 #[.agg #[.slice A0_0 l0_0.length c0_0]] w fun e w' => e = .returned (.bool r) ∧ Below w.heap.size w w' := by
 have hu47 := Try.underlying47
 have hu99 := Try.underlying99
 have HR0_0 := mk0 hr0_0
 have HC0_0 := mk0 hc0_0
 clear hr0_0 hc0_0
 have HB := mk0 (Below.refl w.heap.size w)
 have H : (table_May.l0 k l0_0 (l0_0.length : Int) 0 l0_0) = some r := h
 clear h
 have H' := mk0 H
 clear H
 go_enter Try.func95, Try.ntmps95
 go_wp2_with (first | ((with_reducible refine gate_dst (N := 1) rfl ?_); refine bx_ (N := 1) (cs := #[.slice A0_0 l0_0.length c0_0]) (t := 47) (h := ?_); intro gb112 hg w2 hbox hb; have n2_ := mk0 (gz_ HB hg); have n3_ := mk0 (gz_ HB hg); replace HB := mk0 (bt_ (b_ HB) hb); have BK112 := mk0 (hbox); have GW112 := n2_; have GE112 := n3_; clear n2_ n3_ hb hbox hg; obtain ⟨hcz3_0, hfz3_0⟩ := c1_ BK112))
 go_loopg [8] k (fun kq v8 w' => ∃ (x8_1 : Int), v8 = .int .i64 x8_1 ∧ Fc (table_May.l0 kq l0_0 (l0_0.length : Int) x8_1 l0_0 = some r) ∧ Fc (kq ≤ k) ∧ Fc (w'.heap[gb112]? = some (.cells #[(.slice A0_0 l0_0.length c0_0)] 47 (0, 0))) ∧ Fc (Below w.heap.size w w'))
 case atStart => exact ⟨(0), (by first | rfl | (simp; done) | (simp [*]; done)), H', ⟨Nat.le_refl _⟩, ⟨h_ BK112⟩, ⟨b_ HB⟩⟩
 case round =>
  clear H'
  try clear hcz3_0
  try clear hfz3_0
  obtain ⟨x8_1, rfl, HA, HK1, BK112, HB⟩ := hrel
  cases gk with
  | zero => exact absurd HA.out (by simp [table_May.l0])
  | succ k1 =>
   have H := HA.out
   clear HA
   simp only [table_May.l0] at H
   as_aux_lemma =>
    by_cases c4 : x8_1 < (l0_0.length : Int)
    ·rw [if_pos c4] at H
     have c4b0 : decide (x8_1 < (l0_0.length : Int)) = true := decide_eq_true c4
     clear c4
     by_cases c5 : 0 ≤ x8_1
     ·rw [if_pos c5] at H
      have c5b0 : decide (0 ≤ x8_1) = true := decide_eq_true c5
      clear c5
      by_cases c6 : x8_1 < (l0_0.length : Int)
      ·rw [if_pos c6] at H
       have c6b0 : decide (x8_1 < (l0_0.length : Int)) = true := decide_eq_true c6
       clear c6
       replace H := Option.bind_eq_some_iff.mp H
       obtain ⟨t115, A70, H⟩ := H
       try dsimp only at H
       have A7 := mk0 A70
       clear A70
       by_cases c8 : t115 = true
       ·subst c8
        rw [if_pos rfl] at H
        by_cases c9 : x8_1 > 0
        ·rw [if_pos c9] at H
         have c9b0 : decide (0 < x8_1) = true := decide_eq_true c9
         clear c9
         obtain ⟨ji10, hji10⟩ : ∃ j_ : Int, (wrap64 (x8_1 - 1)) = j_ := ⟨_, rfl⟩
         replace H : (if 0 ≤ (ji10) then (if (ji10) < (l0_0.length : Int) then (if ((Op.bytesLess (((rd_T99 l0_0 (ji10)).f0).toList) (((rd_T99 l0_0 x8_1).f0).toList)) = true) then (table_May.l0 k1 l0_0 (l0_0.length : Int) (wrap64 (x8_1 + 1)) l0_0) else (some false)) else (none)) else (none)) = some r := by first | (rw [hji10] at H; exact H) | (simp only [hji10] at H ⊢; exact H)
         (try rw [hji10] at A7)
         have hji10w : (IntKind.i64.wrap (x8_1 - 1)) = ji10 := (i64_w _).trans hji10
         by_cases c11 : 0 ≤ (ji10)
         ·rw [if_pos c11] at H
          have c11b0 : decide (0 ≤ (ji10)) = true := decide_eq_true c11
          clear c11
          by_cases c12 : (ji10) < (l0_0.length : Int)
          ·rw [if_pos c12] at H
           have c12b0 : decide ((ji10) < (l0_0.length : Int)) = true := decide_eq_true c12
           clear c12
           by_cases c13 : ((Op.bytesLess (((rd_T99 l0_0 (ji10)).f0).toList) (((rd_T99 l0_0 x8_1).f0).toList)) = true)
           ·rw [if_pos c13] at H
            have c13b0 : (Op.bytesLess (((rd_T99 l0_0 (ji10)).f0).toList) (((rd_T99 l0_0 x8_1).f0).toList)) = true := c13
            have c13l0 : (Op.bytesLess (((rd_T99 l0_0 x8_1).f0).toList) (((rd_T99 l0_0 (ji10)).f0).toList) || (((rd_T99 l0_0 x8_1).f0).toList) == (((rd_T99 l0_0 (ji10)).f0).toList)) = false := by rw [leq_, c13b0]; rfl
            clear c13
            have H' := mk0 H
            clear H
            have p113 : 0 ≤ (x8_1 : Int) := of_decide_eq_true (by first | (with_reducible assumption) | assumption)
            have q113 : x8_1 < (l0_0.length : Int) := of_decide_eq_true (by first | (with_reducible assumption) | assumption)
            obtain ⟨ad113, A113_1, c113_1, e113, hx113_0, hx113_1, hl113_1, hi113_1⟩ := at_T99 HR0_0.out x8_1 p113 q113
            cases e113
            replace hx113_0 := (bc_ HB hx113_0 :)
            replace hx113_1 := (bc_ HB hx113_1 :)
            have HR113_1 := mk0 hi113_1
            have HC113_1 := mk0 hl113_1
            clear hi113_1 hl113_1
            replace p113 := eq_true p113
            replace q113 := eq_true q113
            try go_wp2_with (first | ((with_reducible refine gate_dst (N := 4) rfl ?_); refine bx_ (N := 4) (cs := #[.string (⟨#[]⟩ : ByteArray), .slice none 0 0]) (t := 99) (h := ?_); intro gb114 hg w14 hbox hb; have n3_ := mk0 (gz_ HB hg); have n4_ := mk0 (gz_ HB hg); have n5_ := mk0 (ne1_ BK112 hg); have n6_ := mk0 (ne2_ BK112 hg); replace BK112 := mk0 (u_ BK112 hb); replace HB := mk0 (bt_ (b_ HB) hb); have BK114 := mk0 (hbox); have GW114 := n3_; have GE114 := n4_; have NB112_114 := n5_; have NB114_112 := n6_; clear n3_ n4_ n5_ n6_ hb hbox hg; have hnb15 := NB114_112.out; have hnc15 := NB112_114.out; obtain ⟨hcz16_0, hcz16_1, hfz16_0, hfz16_1⟩ := c2_ BK114))
            have n0_ : Fc (((w14.setCell ⟨gb114, 0, none⟩ (.string ((rd_T99 l0_0 x8_1).f0))).setCell ⟨gb114, 1, none⟩ (.slice A113_1 ((rd_T99 l0_0 x8_1).f1).length c113_1)).heap[gb112]? = some (.cells #[.slice (some ad113) l0_0.length c0_0] 47 (0, 0))) := ⟨(fa_ (fa_ (h_ BK112) NB112_114.out) NB112_114.out)⟩
            have n1_ : Fc (((w14.setCell ⟨gb114, 0, none⟩ (.string ((rd_T99 l0_0 x8_1).f0))).setCell ⟨gb114, 1, none⟩ (.slice A113_1 ((rd_T99 l0_0 x8_1).f1).length c113_1)).heap[gb114]? = some (.cells #[.string ((rd_T99 l0_0 x8_1).f0), .slice A113_1 ((rd_T99 l0_0 x8_1).f1).length c113_1] 99 (0, 0))) := ⟨(pu_ (cs := #[.string ((rd_T99 l0_0 x8_1).f0), .slice none 0 0]) (pu_ (cs := #[.string (⟨#[]⟩ : ByteArray), .slice none 0 0]) (h_ BK114)))⟩
            have n2_ : Fc (Below w.heap.size w ((w14.setCell ⟨gb114, 0, none⟩ (.string ((rd_T99 l0_0 x8_1).f0))).setCell ⟨gb114, 1, none⟩ (.slice A113_1 ((rd_T99 l0_0 x8_1).f1).length c113_1))) := ⟨b_ HB⟩
            (try clear BK112)
            (try clear BK114)
            (try clear HB)
            generalize ((w14.setCell ⟨gb114, 0, none⟩ (.string ((rd_T99 l0_0 x8_1).f0))).setCell ⟨gb114, 1, none⟩ (.slice A113_1 ((rd_T99 l0_0 x8_1).f1).length c113_1)) = w17 at n0_ n1_ n2_ ⊢
            have BK112 := n0_
            have BK114 := n1_
            have HB := n2_
            clear n0_ n1_ n2_
            replace BK112 := mk0 (bD_ BK112.out)
            replace BK114 := mk0 (bD_ BK114.out)
            replace HB := mk0 (b1_ HB.out)
            have p116 : 0 ≤ ((ji10) : Int) := of_decide_eq_true (by first | (with_reducible assumption) | assumption)
            have q116 : (ji10) < (l0_0.length : Int) := of_decide_eq_true (by first | (with_reducible assumption) | assumption)
            obtain ⟨ad116, A116_1, c116_1, e116, hx116_0, hx116_1, hl116_1, hi116_1⟩ := at_T99 HR0_0.out (ji10) p116 q116
            have hw116_1 := hx116_1
            have hw116_0 := hx116_0
            obtain rfl : ad113 = ad116 := (by injection e116)
            replace hx116_0 := (bc_ HB hx116_0 :)
            replace hx116_1 := (bc_ HB hx116_1 :)
            have HR116_1 := mk0 hi116_1
            have HC116_1 := mk0 hl116_1
            clear hi116_1 hl116_1
            replace p116 := eq_true p116
            replace q116 := eq_true q116
            refine start_ (n := 19) (S := fun w' => w'.cell? ⟨gb114, 0, none⟩ = some (.string ((rd_T99 l0_0 x8_1).f0)) ∧ w'.cell? ⟨gb114, 1, none⟩ = some (.slice A113_1 ((rd_T99 l0_0 x8_1).f1).length c113_1) ∧ w'.cell? ⟨gb112, 0, none⟩ = some (.slice (some ad113) l0_0.length c0_0) ∧ w'.cell? (ad113.add (((ji10)).toNat * 2)) = some (.string ((rd_T99 l0_0 (ji10)).f0)) ∧ w'.cell? ⟨(ad113.add (((ji10)).toNat * 2)).block, (ad113.add (((ji10)).toNat * 2)).off + 1, none⟩ = some (.slice A116_1 ((rd_T99 l0_0 (ji10)).f1).length c116_1)) (ds := []) (bt 19 0) (by kernel_rfl) rfl rfl ⟨bk_ BK114 0, bk_ BK114 1, bk_ BK112 0, ((bc_ HB hw116_0 :)), ((bc_ HB hw116_1 :))⟩ (fun hHeld => ?_); refine with_tabW table_May.tab4 table_May.bits4 (fun HT_ HW_ => ?_)
            generalize w17.drew = w18 at BK112 BK114 HB HR116_1 hx116_0 hx116_1 hHeld ⊢
            refine tq5_ HT_.out HW_.out 0 13 (bt 19 1) hHeld (h := ?_)
            refine one_ (i := 1) (N := some 14) (bt 19 3) rfl rfl (one_of HT_.out (by kernel_rfl)) (by decide) (fun K hK => ?_)
            refine goes_ Try.func144 (by kernel_rfl) rfl #[.agg #[.string ((rd_T99 l0_0 x8_1).f0), .slice A113_1 ((rd_T99 l0_0 x8_1).f1).length c113_1]] (by rfl) rfl rfl (by (try simp only [List.map_toArray, List.map_cons, List.map_nil]); first | done | rfl | (simp only [List.length_drop, List.length_take]; rfl)) ?_
            with_reducible refine (chain_May.calls k1 ((rd_T99 l0_0 x8_1).f0) _ _ ((rd_T99 l0_0 x8_1).f1) true _ ?side1 ?side2 A7.out).mono ?_
            (case side1 => exact cb_ HR113_1 HB)
            (case side2 => exact HC113_1.out)
            rintro e w19 ⟨rfl, hb⟩
            refine ⟨_, rfl, ?_⟩
            replace BK112 := mk0 (u_ BK112 hb)
            replace BK114 := mk0 (u_ BK114 hb)
            replace HB := mk0 (bt_ (b_ HB) hb)
            (try clear hb)
            (try clear hb2)
            (try clear hk)
            (try clear hi)
            refine hK.out _ _ ⟨bk_ BK114 0, bk_ BK114 1, bk_ BK112 0, ((bc_ HB hw116_0 :)), ((bc_ HB hw116_1 :))⟩ (fun hHeld => ?_)
            clear hK K
            refine norm_ (a' := ?_) ?_ ?_
            rotate_left
            ·show Act.put _ (some 14) _ = _
             simp only [z_]
             rfl
            refine pq_ HT_.out 2 15 (bt 19 7) (h := ?_)
            refine pq_ HT_.out 3 16 (bt 19 15) (h := ?_)
            refine pq_ HT_.out 4 17 (bt 19 31) (h := ?_)
            refine pq_ HT_.out 5 18 (bt 19 63) (h := ?_)
            refine pq_ HT_.out 6 19 (bt 19 127) (h := ?_)
            refine pq_ HT_.out 7 20 (bt 19 255) (h := ?_)
            refine pq_ HT_.out 9 22 (bt 19 767) (h := ?_)
            refine pq_ HT_.out 11 24 (bt 19 2815) (h := ?_)
            refine pq_ HT_.out 12 25 (bt 19 6911) (h := ?_)
            refine tq5_ HT_.out HW_.out 8 21 (bt 19 7167) hHeld (h := ?_)
            refine tq5_ HT_.out HW_.out 10 23 (bt 19 8191) hHeld (h := ?_)
            refine pq_ HT_.out 13 26 (bt 19 16383) (h := ?_)
            refine pq_ HT_.out 14 27 (bt 19 32767) (h := ?_)
            refine tq5_ HT_.out HW_.out 15 28 (bt 19 65535) hHeld (h := ?_)
            refine pq_ HT_.out 16 29 (bt 19 131071) (h := ?_)
            refine pq_ HT_.out 17 30 (bt 19 262143) (h := ?_)
            refine pq_ HT_.out 18 31 (bt 19 524287) (h := ?_)
            refine done_ (done_of HT_.out (by kernel_rfl)) ?_
            try go_wp2
            go_roundg k1
            case measure => have := HK1.out; omega
            case rel => exact ⟨(wrap64 (x8_1 + 1)), (by first | rfl | (simp; done) | (simp [*]; done)), H', ⟨by have := HK1.out; omega⟩, ⟨h_ BK112⟩, ⟨b_ HB⟩⟩
           ·rw [if_neg c13] at H
            have c13b0 : (Op.bytesLess (((rd_T99 l0_0 (ji10)).f0).toList) (((rd_T99 l0_0 x8_1).f0).toList)) = false := by simpa using c13
            have c13l0 : (Op.bytesLess (((rd_T99 l0_0 x8_1).f0).toList) (((rd_T99 l0_0 (ji10)).f0).toList) || (((rd_T99 l0_0 x8_1).f0).toList) == (((rd_T99 l0_0 (ji10)).f0).toList)) = true := by rw [leq_, c13b0]; rfl
            clear c13
            obtain rfl := Option.some.inj H
            have p113 : 0 ≤ (x8_1 : Int) := of_decide_eq_true (by first | (with_reducible assumption) | assumption)
            have q113 : x8_1 < (l0_0.length : Int) := of_decide_eq_true (by first | (with_reducible assumption) | assumption)
            obtain ⟨ad113, A113_1, c113_1, e113, hx113_0, hx113_1, hl113_1, hi113_1⟩ := at_T99 HR0_0.out x8_1 p113 q113
            cases e113
            replace hx113_0 := (bc_ HB hx113_0 :)
            replace hx113_1 := (bc_ HB hx113_1 :)
            have HR113_1 := mk0 hi113_1
            have HC113_1 := mk0 hl113_1
            clear hi113_1 hl113_1
            replace p113 := eq_true p113
            replace q113 := eq_true q113
            try go_wp2_with (first | ((with_reducible refine gate_dst (N := 4) rfl ?_); refine bx_ (N := 4) (cs := #[.string (⟨#[]⟩ : ByteArray), .slice none 0 0]) (t := 99) (h := ?_); intro gb114 hg w20 hbox hb; have n3_ := mk0 (gz_ HB hg); have n4_ := mk0 (gz_ HB hg); have n5_ := mk0 (ne1_ BK112 hg); have n6_ := mk0 (ne2_ BK112 hg); replace BK112 := mk0 (u_ BK112 hb); replace HB := mk0 (bt_ (b_ HB) hb); have BK114 := mk0 (hbox); have GW114 := n3_; have GE114 := n4_; have NB112_114 := n5_; have NB114_112 := n6_; clear n3_ n4_ n5_ n6_ hb hbox hg; have hnb21 := NB114_112.out; have hnc21 := NB112_114.out; obtain ⟨hcz22_0, hcz22_1, hfz22_0, hfz22_1⟩ := c2_ BK114))
            have n0_ : Fc (((w20.setCell ⟨gb114, 0, none⟩ (.string ((rd_T99 l0_0 x8_1).f0))).setCell ⟨gb114, 1, none⟩ (.slice A113_1 ((rd_T99 l0_0 x8_1).f1).length c113_1)).heap[gb112]? = some (.cells #[.slice (some ad113) l0_0.length c0_0] 47 (0, 0))) := ⟨(fa_ (fa_ (h_ BK112) NB112_114.out) NB112_114.out)⟩
            have n1_ : Fc (((w20.setCell ⟨gb114, 0, none⟩ (.string ((rd_T99 l0_0 x8_1).f0))).setCell ⟨gb114, 1, none⟩ (.slice A113_1 ((rd_T99 l0_0 x8_1).f1).length c113_1)).heap[gb114]? = some (.cells #[.string ((rd_T99 l0_0 x8_1).f0), .slice A113_1 ((rd_T99 l0_0 x8_1).f1).length c113_1] 99 (0, 0))) := ⟨(pu_ (cs := #[.string ((rd_T99 l0_0 x8_1).f0), .slice none 0 0]) (pu_ (cs := #[.string (⟨#[]⟩ : ByteArray), .slice none 0 0]) (h_ BK114)))⟩
            have n2_ : Fc (Below w.heap.size w ((w20.setCell ⟨gb114, 0, none⟩ (.string ((rd_T99 l0_0 x8_1).f0))).setCell ⟨gb114, 1, none⟩ (.slice A113_1 ((rd_T99 l0_0 x8_1).f1).length c113_1))) := ⟨b_ HB⟩
            (try clear BK112)
            (try clear BK114)
            (try clear HB)
            generalize ((w20.setCell ⟨gb114, 0, none⟩ (.string ((rd_T99 l0_0 x8_1).f0))).setCell ⟨gb114, 1, none⟩ (.slice A113_1 ((rd_T99 l0_0 x8_1).f1).length c113_1)) = w23 at n0_ n1_ n2_ ⊢
            have BK112 := n0_
            have BK114 := n1_
            have HB := n2_
            clear n0_ n1_ n2_
            replace BK112 := mk0 (bD_ BK112.out)
            replace BK114 := mk0 (bD_ BK114.out)
            replace HB := mk0 (b1_ HB.out)
            have p116 : 0 ≤ ((ji10) : Int) := of_decide_eq_true (by first | (with_reducible assumption) | assumption)
            have q116 : (ji10) < (l0_0.length : Int) := of_decide_eq_true (by first | (with_reducible assumption) | assumption)
            obtain ⟨ad116, A116_1, c116_1, e116, hx116_0, hx116_1, hl116_1, hi116_1⟩ := at_T99 HR0_0.out (ji10) p116 q116
            have hw116_1 := hx116_1
            have hw116_0 := hx116_0
            obtain rfl : ad113 = ad116 := (by injection e116)
            replace hx116_0 := (bc_ HB hx116_0 :)
            replace hx116_1 := (bc_ HB hx116_1 :)
            have HR116_1 := mk0 hi116_1
            have HC116_1 := mk0 hl116_1
            clear hi116_1 hl116_1
            replace p116 := eq_true p116
            replace q116 := eq_true q116
            refine start_ (n := 19) (S := fun w' => w'.cell? ⟨gb114, 0, none⟩ = some (.string ((rd_T99 l0_0 x8_1).f0)) ∧ w'.cell? ⟨gb114, 1, none⟩ = some (.slice A113_1 ((rd_T99 l0_0 x8_1).f1).length c113_1) ∧ w'.cell? ⟨gb112, 0, none⟩ = some (.slice (some ad113) l0_0.length c0_0) ∧ w'.cell? (ad113.add (((ji10)).toNat * 2)) = some (.string ((rd_T99 l0_0 (ji10)).f0)) ∧ w'.cell? ⟨(ad113.add (((ji10)).toNat * 2)).block, (ad113.add (((ji10)).toNat * 2)).off + 1, none⟩ = some (.slice A116_1 ((rd_T99 l0_0 (ji10)).f1).length c116_1)) (ds := []) (bt 19 0) (by kernel_rfl) rfl rfl ⟨bk_ BK114 0, bk_ BK114 1, bk_ BK112 0, ((bc_ HB hw116_0 :)), ((bc_ HB hw116_1 :))⟩ (fun hHeld => ?_); refine with_tabW table_May.tab4 table_May.bits4 (fun HT_ HW_ => ?_)
            generalize w23.drew = w24 at BK112 BK114 HB HR116_1 hx116_0 hx116_1 hHeld ⊢
            refine tq5_ HT_.out HW_.out 0 13 (bt 19 1) hHeld (h := ?_)
            refine one_ (i := 1) (N := some 14) (bt 19 3) rfl rfl (one_of HT_.out (by kernel_rfl)) (by decide) (fun K hK => ?_)
            refine goes_ Try.func144 (by kernel_rfl) rfl #[.agg #[.string ((rd_T99 l0_0 x8_1).f0), .slice A113_1 ((rd_T99 l0_0 x8_1).f1).length c113_1]] (by rfl) rfl rfl (by (try simp only [List.map_toArray, List.map_cons, List.map_nil]); first | done | rfl | (simp only [List.length_drop, List.length_take]; rfl)) ?_
            with_reducible refine (chain_May.calls k1 ((rd_T99 l0_0 x8_1).f0) _ _ ((rd_T99 l0_0 x8_1).f1) true _ ?side1 ?side2 A7.out).mono ?_
            (case side1 => exact cb_ HR113_1 HB)
            (case side2 => exact HC113_1.out)
            rintro e w25 ⟨rfl, hb⟩
            refine ⟨_, rfl, ?_⟩
            replace BK112 := mk0 (u_ BK112 hb)
            replace BK114 := mk0 (u_ BK114 hb)
            replace HB := mk0 (bt_ (b_ HB) hb)
            (try clear hb)
            (try clear hb2)
            (try clear hk)
            (try clear hi)
            refine hK.out _ _ ⟨bk_ BK114 0, bk_ BK114 1, bk_ BK112 0, ((bc_ HB hw116_0 :)), ((bc_ HB hw116_1 :))⟩ (fun hHeld => ?_)
            clear hK K
            refine norm_ (a' := ?_) ?_ ?_
            rotate_left
            ·show Act.put _ (some 14) _ = _
             simp only [z_]
             rfl
            refine pq_ HT_.out 2 15 (bt 19 7) (h := ?_)
            refine pq_ HT_.out 3 16 (bt 19 15) (h := ?_)
            refine pq_ HT_.out 4 17 (bt 19 31) (h := ?_)
            refine pq_ HT_.out 5 18 (bt 19 63) (h := ?_)
            refine pq_ HT_.out 6 19 (bt 19 127) (h := ?_)
            refine pq_ HT_.out 7 20 (bt 19 255) (h := ?_)
            refine pq_ HT_.out 9 22 (bt 19 767) (h := ?_)
            refine pq_ HT_.out 11 24 (bt 19 2815) (h := ?_)
            refine pq_ HT_.out 12 25 (bt 19 6911) (h := ?_)
            refine tq5_ HT_.out HW_.out 8 21 (bt 19 7167) hHeld (h := ?_)
            refine tq5_ HT_.out HW_.out 10 23 (bt 19 8191) hHeld (h := ?_)
            refine pq_ HT_.out 13 26 (bt 19 16383) (h := ?_)
            refine pq_ HT_.out 14 27 (bt 19 32767) (h := ?_)
            refine tq5_ HT_.out HW_.out 15 28 (bt 19 65535) hHeld (h := ?_)
            refine pq_ HT_.out 16 29 (bt 19 131071) (h := ?_)
            refine pq_ HT_.out 17 30 (bt 19 262143) (h := ?_)
            refine pq_ HT_.out 18 31 (bt 19 524287) (h := ?_)
            refine done_ (done_of HT_.out (by kernel_rfl)) ?_
            try go_wp2
            go_ret
            exact ⟨by first | rfl | (simp [errW_none, errW_some] <;> rfl) | (simp only [← hji10]; first | rfl | (simp [errW_none, errW_some] <;> rfl)) | (simp [*, errW_none, errW_some] <;> rfl), b_ HB⟩
          ·rw [if_neg c12] at H
           exact absurd H (by simp)
         ·rw [if_neg c11] at H
          exact absurd H (by simp)
        ·rw [if_neg c9] at H
         have c9b0 : decide (0 < x8_1) = false := decide_eq_false c9
         clear c9
         have H' := mk0 H
         clear H
         have p113 : 0 ≤ (x8_1 : Int) := of_decide_eq_true (by first | (with_reducible assumption) | assumption)
         have q113 : x8_1 < (l0_0.length : Int) := of_decide_eq_true (by first | (with_reducible assumption) | assumption)
         obtain ⟨ad113, A113_1, c113_1, e113, hx113_0, hx113_1, hl113_1, hi113_1⟩ := at_T99 HR0_0.out x8_1 p113 q113
         cases e113
         replace hx113_0 := (bc_ HB hx113_0 :)
         replace hx113_1 := (bc_ HB hx113_1 :)
         have HR113_1 := mk0 hi113_1
         have HC113_1 := mk0 hl113_1
         clear hi113_1 hl113_1
         replace p113 := eq_true p113
         replace q113 := eq_true q113
         try go_wp2_with (first | ((with_reducible refine gate_dst (N := 4) rfl ?_); refine bx_ (N := 4) (cs := #[.string (⟨#[]⟩ : ByteArray), .slice none 0 0]) (t := 99) (h := ?_); intro gb114 hg w26 hbox hb; have n3_ := mk0 (gz_ HB hg); have n4_ := mk0 (gz_ HB hg); have n5_ := mk0 (ne1_ BK112 hg); have n6_ := mk0 (ne2_ BK112 hg); replace BK112 := mk0 (u_ BK112 hb); replace HB := mk0 (bt_ (b_ HB) hb); have BK114 := mk0 (hbox); have GW114 := n3_; have GE114 := n4_; have NB112_114 := n5_; have NB114_112 := n6_; clear n3_ n4_ n5_ n6_ hb hbox hg; have hnb27 := NB114_112.out; have hnc27 := NB112_114.out; obtain ⟨hcz28_0, hcz28_1, hfz28_0, hfz28_1⟩ := c2_ BK114))
         have n0_ : Fc (((w26.setCell ⟨gb114, 0, none⟩ (.string ((rd_T99 l0_0 x8_1).f0))).setCell ⟨gb114, 1, none⟩ (.slice A113_1 ((rd_T99 l0_0 x8_1).f1).length c113_1)).heap[gb112]? = some (.cells #[.slice (some ad113) l0_0.length c0_0] 47 (0, 0))) := ⟨(fa_ (fa_ (h_ BK112) NB112_114.out) NB112_114.out)⟩
         have n1_ : Fc (((w26.setCell ⟨gb114, 0, none⟩ (.string ((rd_T99 l0_0 x8_1).f0))).setCell ⟨gb114, 1, none⟩ (.slice A113_1 ((rd_T99 l0_0 x8_1).f1).length c113_1)).heap[gb114]? = some (.cells #[.string ((rd_T99 l0_0 x8_1).f0), .slice A113_1 ((rd_T99 l0_0 x8_1).f1).length c113_1] 99 (0, 0))) := ⟨(pu_ (cs := #[.string ((rd_T99 l0_0 x8_1).f0), .slice none 0 0]) (pu_ (cs := #[.string (⟨#[]⟩ : ByteArray), .slice none 0 0]) (h_ BK114)))⟩
         have n2_ : Fc (Below w.heap.size w ((w26.setCell ⟨gb114, 0, none⟩ (.string ((rd_T99 l0_0 x8_1).f0))).setCell ⟨gb114, 1, none⟩ (.slice A113_1 ((rd_T99 l0_0 x8_1).f1).length c113_1))) := ⟨b_ HB⟩
         (try clear BK112)
         (try clear BK114)
         (try clear HB)
         generalize ((w26.setCell ⟨gb114, 0, none⟩ (.string ((rd_T99 l0_0 x8_1).f0))).setCell ⟨gb114, 1, none⟩ (.slice A113_1 ((rd_T99 l0_0 x8_1).f1).length c113_1)) = w29 at n0_ n1_ n2_ ⊢
         have BK112 := n0_
         have BK114 := n1_
         have HB := n2_
         clear n0_ n1_ n2_
         replace BK112 := mk0 (bD_ BK112.out)
         replace BK114 := mk0 (bD_ BK114.out)
         replace HB := mk0 (b1_ HB.out)
         refine start_ (n := 19) (S := fun w' => w'.cell? ⟨gb114, 0, none⟩ = some (.string ((rd_T99 l0_0 x8_1).f0)) ∧ w'.cell? ⟨gb114, 1, none⟩ = some (.slice A113_1 ((rd_T99 l0_0 x8_1).f1).length c113_1)) (ds := []) (bt 19 0) (by kernel_rfl) rfl rfl ⟨bk_ BK114 0, bk_ BK114 1⟩ (fun hHeld => ?_); refine with_tabW table_May.tab4 table_May.bits4 (fun HT_ HW_ => ?_)
         generalize w29.drew = w30 at BK112 BK114 HB hHeld ⊢
         refine tq2_ HT_.out HW_.out 0 13 (bt 19 1) hHeld (h := ?_)
         refine one_ (i := 1) (N := some 14) (bt 19 3) rfl rfl (one_of HT_.out (by kernel_rfl)) (by decide) (fun K hK => ?_)
         refine goes_ Try.func144 (by kernel_rfl) rfl #[.agg #[.string ((rd_T99 l0_0 x8_1).f0), .slice A113_1 ((rd_T99 l0_0 x8_1).f1).length c113_1]] (by rfl) rfl rfl (by (try simp only [List.map_toArray, List.map_cons, List.map_nil]); first | done | rfl | (simp only [List.length_drop, List.length_take]; rfl)) ?_
         with_reducible refine (chain_May.calls k1 ((rd_T99 l0_0 x8_1).f0) _ _ ((rd_T99 l0_0 x8_1).f1) true _ ?side1 ?side2 A7.out).mono ?_
         (case side1 => exact cb_ HR113_1 HB)
         (case side2 => exact HC113_1.out)
         rintro e w31 ⟨rfl, hb⟩
         refine ⟨_, rfl, ?_⟩
         replace BK112 := mk0 (u_ BK112 hb)
         replace BK114 := mk0 (u_ BK114 hb)
         replace HB := mk0 (bt_ (b_ HB) hb)
         (try clear hb)
         (try clear hb2)
         (try clear hk)
         (try clear hi)
         refine hK.out _ _ ⟨bk_ BK114 0, bk_ BK114 1⟩ (fun hHeld => ?_)
         clear hK K
         refine norm_ (a' := ?_) ?_ ?_
         rotate_left
         ·show Act.put _ (some 14) _ = _
          simp only [z_]
          rfl
         refine pq_ HT_.out 2 15 (bt 19 7) (h := ?_)
         refine pq_ HT_.out 3 16 (bt 19 15) (h := ?_)
         refine pq_ HT_.out 4 17 (bt 19 31) (h := ?_)
         refine pq_ HT_.out 5 18 (bt 19 63) (h := ?_)
         refine pq_ HT_.out 6 19 (bt 19 127) (h := ?_)
         refine uq_ HT_.out 7 20 (bt 19 255) (h := ?_)
         refine uq_ HT_.out 8 21 (bt 19 511) (h := ?_)
         refine uq_ HT_.out 9 22 (bt 19 1023) (h := ?_)
         refine uq_ HT_.out 10 23 (bt 19 2047) (h := ?_)
         refine uq_ HT_.out 11 24 (bt 19 4095) (h := ?_)
         refine uq_ HT_.out 12 25 (bt 19 8191) (h := ?_)
         refine uq_ HT_.out 13 26 (bt 19 16383) (h := ?_)
         refine uq_ HT_.out 14 27 (bt 19 32767) (h := ?_)
         refine uq_ HT_.out 15 28 (bt 19 65535) (h := ?_)
         refine uq_ HT_.out 16 29 (bt 19 131071) (h := ?_)
         refine pq_ HT_.out 17 30 (bt 19 262143) (h := ?_)
         refine pq_ HT_.out 18 31 (bt 19 524287) (h := ?_)
         refine done_ (done_of HT_.out (by kernel_rfl)) ?_
         try go_wp2
         go_roundg k1
         case measure => have := HK1.out; omega
         case rel => exact ⟨(wrap64 (x8_1 + 1)), (by first | rfl | (simp; done) | (simp [*]; done)), H', ⟨by have := HK1.out; omega⟩, ⟨h_ BK112⟩, ⟨b_ HB⟩⟩
       ·replace c8 := Bool.eq_false_iff.mpr c8
        subst c8
        rw [if_neg (show ¬ (false = true) by decide)] at H
        obtain rfl := Option.some.inj H
        have p113 : 0 ≤ (x8_1 : Int) := of_decide_eq_true (by first | (with_reducible assumption) | assumption)
        have q113 : x8_1 < (l0_0.length : Int) := of_decide_eq_true (by first | (with_reducible assumption) | assumption)
        obtain ⟨ad113, A113_1, c113_1, e113, hx113_0, hx113_1, hl113_1, hi113_1⟩ := at_T99 HR0_0.out x8_1 p113 q113
        cases e113
        replace hx113_0 := (bc_ HB hx113_0 :)
        replace hx113_1 := (bc_ HB hx113_1 :)
        have HR113_1 := mk0 hi113_1
        have HC113_1 := mk0 hl113_1
        clear hi113_1 hl113_1
        replace p113 := eq_true p113
        replace q113 := eq_true q113
        try go_wp2_with (first | ((with_reducible refine gate_dst (N := 4) rfl ?_); refine bx_ (N := 4) (cs := #[.string (⟨#[]⟩ : ByteArray), .slice none 0 0]) (t := 99) (h := ?_); intro gb114 hg w32 hbox hb; have n3_ := mk0 (gz_ HB hg); have n4_ := mk0 (gz_ HB hg); have n5_ := mk0 (ne1_ BK112 hg); have n6_ := mk0 (ne2_ BK112 hg); replace BK112 := mk0 (u_ BK112 hb); replace HB := mk0 (bt_ (b_ HB) hb); have BK114 := mk0 (hbox); have GW114 := n3_; have GE114 := n4_; have NB112_114 := n5_; have NB114_112 := n6_; clear n3_ n4_ n5_ n6_ hb hbox hg; have hnb33 := NB114_112.out; have hnc33 := NB112_114.out; obtain ⟨hcz34_0, hcz34_1, hfz34_0, hfz34_1⟩ := c2_ BK114))
        have n0_ : Fc (((w32.setCell ⟨gb114, 0, none⟩ (.string ((rd_T99 l0_0 x8_1).f0))).setCell ⟨gb114, 1, none⟩ (.slice A113_1 ((rd_T99 l0_0 x8_1).f1).length c113_1)).heap[gb112]? = some (.cells #[.slice (some ad113) l0_0.length c0_0] 47 (0, 0))) := ⟨(fa_ (fa_ (h_ BK112) NB112_114.out) NB112_114.out)⟩
        have n1_ : Fc (((w32.setCell ⟨gb114, 0, none⟩ (.string ((rd_T99 l0_0 x8_1).f0))).setCell ⟨gb114, 1, none⟩ (.slice A113_1 ((rd_T99 l0_0 x8_1).f1).length c113_1)).heap[gb114]? = some (.cells #[.string ((rd_T99 l0_0 x8_1).f0), .slice A113_1 ((rd_T99 l0_0 x8_1).f1).length c113_1] 99 (0, 0))) := ⟨(pu_ (cs := #[.string ((rd_T99 l0_0 x8_1).f0), .slice none 0 0]) (pu_ (cs := #[.string (⟨#[]⟩ : ByteArray), .slice none 0 0]) (h_ BK114)))⟩
        have n2_ : Fc (Below w.heap.size w ((w32.setCell ⟨gb114, 0, none⟩ (.string ((rd_T99 l0_0 x8_1).f0))).setCell ⟨gb114, 1, none⟩ (.slice A113_1 ((rd_T99 l0_0 x8_1).f1).length c113_1))) := ⟨b_ HB⟩
        (try clear BK112)
        (try clear BK114)
        (try clear HB)
        generalize ((w32.setCell ⟨gb114, 0, none⟩ (.string ((rd_T99 l0_0 x8_1).f0))).setCell ⟨gb114, 1, none⟩ (.slice A113_1 ((rd_T99 l0_0 x8_1).f1).length c113_1)) = w35 at n0_ n1_ n2_ ⊢
        have BK112 := n0_
        have BK114 := n1_
        have HB := n2_
        clear n0_ n1_ n2_
        replace BK112 := mk0 (bD_ BK112.out)
        replace BK114 := mk0 (bD_ BK114.out)
        replace HB := mk0 (b1_ HB.out)
        refine start_ (n := 19) (S := fun w' => w'.cell? ⟨gb114, 0, none⟩ = some (.string ((rd_T99 l0_0 x8_1).f0)) ∧ w'.cell? ⟨gb114, 1, none⟩ = some (.slice A113_1 ((rd_T99 l0_0 x8_1).f1).length c113_1)) (ds := []) (bt 19 0) (by kernel_rfl) rfl rfl ⟨bk_ BK114 0, bk_ BK114 1⟩ (fun hHeld => ?_); refine with_tabW table_May.tab4 table_May.bits4 (fun HT_ HW_ => ?_)
        generalize w35.drew = w36 at BK112 BK114 HB hHeld ⊢
        refine tq2_ HT_.out HW_.out 0 13 (bt 19 1) hHeld (h := ?_)
        refine one_ (i := 1) (N := some 14) (bt 19 3) rfl rfl (one_of HT_.out (by kernel_rfl)) (by decide) (fun K hK => ?_)
        refine goes_ Try.func144 (by kernel_rfl) rfl #[.agg #[.string ((rd_T99 l0_0 x8_1).f0), .slice A113_1 ((rd_T99 l0_0 x8_1).f1).length c113_1]] (by rfl) rfl rfl (by (try simp only [List.map_toArray, List.map_cons, List.map_nil]); first | done | rfl | (simp only [List.length_drop, List.length_take]; rfl)) ?_
        with_reducible refine (chain_May.calls k1 ((rd_T99 l0_0 x8_1).f0) _ _ ((rd_T99 l0_0 x8_1).f1) false _ ?side1 ?side2 A7.out).mono ?_
        (case side1 => exact cb_ HR113_1 HB)
        (case side2 => exact HC113_1.out)
        rintro e w37 ⟨rfl, hb⟩
        refine ⟨_, rfl, ?_⟩
        replace BK112 := mk0 (u_ BK112 hb)
        replace BK114 := mk0 (u_ BK114 hb)
        replace HB := mk0 (bt_ (b_ HB) hb)
        (try clear hb)
        (try clear hb2)
        (try clear hk)
        (try clear hi)
        refine hK.out _ _ ⟨bk_ BK114 0, bk_ BK114 1⟩ (fun hHeld => ?_)
        clear hK K
        refine norm_ (a' := ?_) ?_ ?_
        rotate_left
        ·show Act.put _ (some 14) _ = _
         simp only [z_]
         rfl
        refine pq_ HT_.out 2 15 (bt 19 7) (h := ?_)
        refine pq_ HT_.out 3 16 (bt 19 15) (h := ?_)
        refine uq_ HT_.out 4 17 (bt 19 31) (h := ?_)
        refine uq_ HT_.out 5 18 (bt 19 63) (h := ?_)
        refine uq_ HT_.out 6 19 (bt 19 127) (h := ?_)
        refine uq_ HT_.out 7 20 (bt 19 255) (h := ?_)
        refine uq_ HT_.out 8 21 (bt 19 511) (h := ?_)
        refine uq_ HT_.out 9 22 (bt 19 1023) (h := ?_)
        refine uq_ HT_.out 10 23 (bt 19 2047) (h := ?_)
        refine uq_ HT_.out 11 24 (bt 19 4095) (h := ?_)
        refine uq_ HT_.out 12 25 (bt 19 8191) (h := ?_)
        refine uq_ HT_.out 13 26 (bt 19 16383) (h := ?_)
        refine uq_ HT_.out 14 27 (bt 19 32767) (h := ?_)
        refine uq_ HT_.out 15 28 (bt 19 65535) (h := ?_)
        refine uq_ HT_.out 16 29 (bt 19 131071) (h := ?_)
        refine uq_ HT_.out 17 30 (bt 19 262143) (h := ?_)
        refine pq_ HT_.out 18 31 (bt 19 524287) (h := ?_)
        refine done_ (done_of HT_.out (by kernel_rfl)) ?_
        try go_wp2
        go_ret
        exact ⟨by first | rfl | (simp [errW_none, errW_some] <;> rfl) | (simp [*, errW_none, errW_some] <;> rfl), b_ HB⟩
      ·rw [if_neg c6] at H
       exact absurd H (by simp)
     ·rw [if_neg c5] at H
      exact absurd H (by simp)
    ·rw [if_neg c4] at H
     have c4b0 : decide (x8_1 < (l0_0.length : Int)) = false := decide_eq_false c4
     clear c4
     replace H := Option.bind_eq_some_iff.mp H
     obtain ⟨t117, A380, H⟩ := H
     try dsimp only at H
     have A38 := mk0 A380
     clear A380
     obtain rfl := Option.some.inj H
     obtain ⟨hcz39_0, hfz39_0⟩ := c1_ BK112
     go_wp2_with (first | ((with_reducible refine gate_callee (f := 122) rfl ?_); refine gL_ (some 34) Try.func122 #[.agg #[.slice A0_0 l0_0.length c0_0]] (h := ?_); (with_reducible refine (table_Rooms.calls k1 _ _ l0_0 t117 _ ?side1 ?side2 A38.out).mono ?_); (case side1 => exact cb_ HR0_0 HB); (case side2 => exact HC0_0.out); rintro e w40 ⟨rfl, hb⟩; refine ⟨_, rfl, ?_⟩; replace BK112 := mk0 (u_ BK112 hb); replace HB := mk0 (bt_ (b_ HB) hb); (try clear hb)))
     go_ret
     exact ⟨by first | rfl | (simp [errW_none, errW_some] <;> rfl) | (simp [*, errW_none, errW_some] <;> rfl), b_ HB⟩

/-! ### view_May_1: function 94 -/
def view_May_1.f (k : Nat) (l0_0 : List (S99)) : Option (Bool) := (table_May.f k l0_0).bind fun t119 => (some (!t119))
theorem view_May_1.mono : ∀ a0 k, LeO (view_May_1.f k a0) (view_May_1.f (k + 1) a0) := by
 intro a0 k
 unfold view_May_1.f
 repeat' first
   | (with_reducible exact table_May.mono _ _)
   | (with_reducible exact LeO.refl _)
   | (with_reducible exact LeO.none _)
   | (with_reducible refine LeO.ite ?_ ?_)
   | (with_reducible refine LeO.bind ?_ (fun _ => ?_))
   | exact table_May.mono _ _
   | exact LeO.none _
   | refine LeO.ite ?_ ?_
   | refine LeO.bind ?_ (fun _ => ?_)
set_option maxHeartbeats 8000000 in
set_option maxRecDepth 100000 in
theorem view_May_1.calls (k : Nat) (A0_0 : Option Addr) (c0_0 : Nat) (l0_0 : List (S99)) (r : Bool) (w : World) (hr0_0 : Kd.C k99 w A0_0 l0_0.length l0_0) (hc0_0 : l0_0.length ≤ c0_0) (h : view_May_1.f k l0_0 = some r) :
  Calls Try.prog 94 #[.agg #[.slice A0_0 l0_0.length c0_0]] w fun e w' => e = .returned (.bool r) ∧ Below w.heap.size w w' := by
 have hu47 := Try.underlying47
 have HR0_0 := mk0 hr0_0
 have HC0_0 := mk0 hc0_0
 clear hr0_0 hc0_0
 have HB := mk0 (Below.refl w.heap.size w)
 have H : ((table_May.f k l0_0).bind fun t119 => (some (!t119))) = some r := h
 clear h
 replace H := Option.bind_eq_some_iff.mp H
 obtain ⟨t119, A20, H⟩ := H
 try dsimp only at H
 have A2 := mk0 A20
 clear A20
 obtain rfl := Option.some.inj H
 go_enter Try.func94, Try.ntmps94
 go_wp2_with (first | ((with_reducible refine gate_dst (N := 1) rfl ?_); refine bx_ (N := 1) (cs := #[.slice A0_0 l0_0.length c0_0]) (t := 47) (h := ?_); intro gb118 hg w3 hbox hb; have n2_ := mk0 (gz_ HB hg); have n3_ := mk0 (gz_ HB hg); replace HB := mk0 (bt_ (b_ HB) hb); have BK118 := mk0 (hbox); have GW118 := n2_; have GE118 := n3_; clear n2_ n3_ hb hbox hg; obtain ⟨hcz4_0, hfz4_0⟩ := c1_ BK118) | ((with_reducible refine gate_callee (f := 95) rfl ?_); refine gL_ (some 4) Try.func95 #[.agg #[.slice A0_0 l0_0.length c0_0]] (h := ?_); (with_reducible refine (table_May.calls k _ _ l0_0 t119 _ ?side1 ?side2 A2.out).mono ?_); (case side1 => exact cb_ HR0_0 HB); (case side2 => exact HC0_0.out); rintro e w5 ⟨rfl, hb⟩; refine ⟨_, rfl, ?_⟩; replace BK118 := mk0 (u_ BK118 hb); replace HB := mk0 (bt_ (b_ HB) hb); (try clear hb)))
 go_ret
 exact ⟨by first | rfl | (simp [errW_none, errW_some] <;> rfl) | (simp [*, errW_none, errW_some] <;> rfl), b_ HB⟩

/-! ### quorumlaw0_TableWeight: function 69 -/
mutual
def quorumlaw0_TableWeight.l0 : Nat → Int → Int → List (S99) → Option (Int)
 | 0, _, _, _ => none
 | k + 1, x3, x4, x121000 => if x4 < (x121000.length : Int) then (quorumlaw0_TableWeight.j1 k x3 x4 (decide (x3 < 1048576)) x121000) else (quorumlaw0_TableWeight.j1 k x3 x4 false x121000)
def quorumlaw0_TableWeight.j1 : Nat → Int → Int → Bool → List (S99) → Option (Int)
 | 0, _, _, _, _ => none
 | k + 1, x3, x4, x17, x121000 => if x17 = true then (if 0 ≤ x4 then (if x4 < (x121000.length : Int) then (quorumlaw0_TableWeight.l1 k (wrap64 ((wrap64 (x3 + (((rd_T99 x121000 x4).f1).length : Int))) + (wrap64 ((((rd_T99 x121000 x4).f0).size : Int) / 8)))) x4 0 x121000) else (none)) else (none)) else (some x3)
def quorumlaw0_TableWeight.l1 : Nat → Int → Int → Int → List (S99) → Option (Int)
 | 0, _, _, _, _ => none
 | k + 1, x3, x4, x5, x121000 => if 0 ≤ x4 then (if x4 < (x121000.length : Int) then (if x5 < (((rd_T99 x121000 x4).f1).length : Int) then (if x3 < 1048576 then (if 0 ≤ x5 then (quorumlaw0_TableWeight.l1 k (wrap64 (x3 + (wrap64 ((((rd_T72 ((rd_T99 x121000 x4).f1) x5).f1).size : Int) / 8)))) x4 (wrap64 (x5 + 1)) x121000) else (none)) else (quorumlaw0_TableWeight.l0 k x3 (wrap64 (x4 + 1)) x121000)) else (quorumlaw0_TableWeight.l0 k x3 (wrap64 (x4 + 1)) x121000)) else (none)) else (none)
end
def quorumlaw0_TableWeight.f (k : Nat) (l0_0 : List (S99)) : Option (Int) := quorumlaw0_TableWeight.l0 k (l0_0.length : Int) 0 l0_0
theorem quorumlaw0_TableWeight.mono_l : ∀ k, (∀ y0 y1 y2, LeO (quorumlaw0_TableWeight.l0 k y0 y1 y2) (quorumlaw0_TableWeight.l0 (k + 1) y0 y1 y2)) ∧ (∀ y0 y1 y2 y3, LeO (quorumlaw0_TableWeight.j1 k y0 y1 y2 y3) (quorumlaw0_TableWeight.j1 (k + 1) y0 y1 y2 y3)) ∧ (∀ y0 y1 y2 y3, LeO (quorumlaw0_TableWeight.l1 k y0 y1 y2 y3) (quorumlaw0_TableWeight.l1 (k + 1) y0 y1 y2 y3))
 | 0 => ⟨fun _ _ _ r h => by simp [quorumlaw0_TableWeight.l0] at h, fun _ _ _ _ r h => by simp [quorumlaw0_TableWeight.j1] at h, fun _ _ _ _ r h => by simp [quorumlaw0_TableWeight.l1] at h⟩
 | k + 1 => by
  obtain ⟨ih0, ih1, ih2⟩ := quorumlaw0_TableWeight.mono_l k
  refine ⟨?_, ?_, ?_⟩
  ·intro y0 y1 y2
   unfold quorumlaw0_TableWeight.l0
   repeat' first
   | (with_reducible exact ih0 _ _ _)
   | (with_reducible exact ih1 _ _ _ _)
   | (with_reducible exact ih2 _ _ _ _)
   | (with_reducible exact LeO.refl _)
   | (with_reducible exact LeO.none _)
   | (with_reducible refine LeO.ite ?_ ?_)
   | (with_reducible refine LeO.bind ?_ (fun _ => ?_))
   | exact ih0 _ _ _
   | exact ih1 _ _ _ _
   | exact ih2 _ _ _ _
   | exact LeO.none _
   | refine LeO.ite ?_ ?_
   | refine LeO.bind ?_ (fun _ => ?_)
  ·intro y0 y1 y2 y3
   unfold quorumlaw0_TableWeight.j1
   repeat' first
   | (with_reducible exact ih0 _ _ _)
   | (with_reducible exact ih1 _ _ _ _)
   | (with_reducible exact ih2 _ _ _ _)
   | (with_reducible exact LeO.refl _)
   | (with_reducible exact LeO.none _)
   | (with_reducible refine LeO.ite ?_ ?_)
   | (with_reducible refine LeO.bind ?_ (fun _ => ?_))
   | exact ih0 _ _ _
   | exact ih1 _ _ _ _
   | exact ih2 _ _ _ _
   | exact LeO.none _
   | refine LeO.ite ?_ ?_
   | refine LeO.bind ?_ (fun _ => ?_)
  ·intro y0 y1 y2 y3
   unfold quorumlaw0_TableWeight.l1
   repeat' first
   | (with_reducible exact ih0 _ _ _)
   | (with_reducible exact ih1 _ _ _ _)
   | (with_reducible exact ih2 _ _ _ _)
   | (with_reducible exact LeO.refl _)
   | (with_reducible exact LeO.none _)
   | (with_reducible refine LeO.ite ?_ ?_)
   | (with_reducible refine LeO.bind ?_ (fun _ => ?_))
   | exact ih0 _ _ _
   | exact ih1 _ _ _ _
   | exact ih2 _ _ _ _
   | exact LeO.none _
   | refine LeO.ite ?_ ?_
   | refine LeO.bind ?_ (fun _ => ?_)
theorem quorumlaw0_TableWeight.mono : ∀ a0 k, LeO (quorumlaw0_TableWeight.f k a0) (quorumlaw0_TableWeight.f (k + 1) a0) := by
 intro a0 k
 obtain ⟨ih0, ih1, ih2⟩ := quorumlaw0_TableWeight.mono_l k
 unfold quorumlaw0_TableWeight.f
 repeat' first
   | (with_reducible exact ih0 _ _ _)
   | (with_reducible exact ih1 _ _ _ _)
   | (with_reducible exact ih2 _ _ _ _)
   | (with_reducible exact LeO.refl _)
   | (with_reducible exact LeO.none _)
   | (with_reducible refine LeO.ite ?_ ?_)
   | (with_reducible refine LeO.bind ?_ (fun _ => ?_))
   | exact ih0 _ _ _
   | exact ih1 _ _ _ _
   | exact ih2 _ _ _ _
   | exact LeO.none _
   | refine LeO.ite ?_ ?_
   | refine LeO.bind ?_ (fun _ => ?_)
set_option maxHeartbeats 8000000 in
set_option maxRecDepth 100000 in
theorem quorumlaw0_TableWeight.calls (k : Nat) (A0_0 : Option Addr) (c0_0 : Nat) (l0_0 : List (S99)) (r : Int) (w : World) (hr0_0 : Kd.C k99 w A0_0 l0_0.length l0_0) (hc0_0 : l0_0.length ≤ c0_0) (h : quorumlaw0_TableWeight.f k l0_0 = some r) :
  Calls Try.prog 69 #[.agg #[.slice A0_0 l0_0.length c0_0]] w fun e w' => e = .returned (.int .i64 r) ∧ Below w.heap.size w w' := by
 have hu47 := Try.underlying47
 have HR0_0 := mk0 hr0_0
 have HC0_0 := mk0 hc0_0
 clear hr0_0 hc0_0
 have HB := mk0 (Below.refl w.heap.size w)
 have H : (quorumlaw0_TableWeight.l0 k (l0_0.length : Int) 0 l0_0) = some r := h
 clear h
 have H' := mk0 H
 clear H
 go_enter Try.func69, Try.ntmps69
 go_wp2_with (first | ((with_reducible refine gate_dst (N := 1) rfl ?_); refine bx_ (N := 1) (cs := #[.slice A0_0 l0_0.length c0_0]) (t := 47) (h := ?_); intro gb120 hg w2 hbox hb; have n2_ := mk0 (gz_ HB hg); have n3_ := mk0 (gz_ HB hg); replace HB := mk0 (bt_ (b_ HB) hb); have BK120 := mk0 (hbox); have GW120 := n2_; have GE120 := n3_; clear n2_ n3_ hb hbox hg; obtain ⟨hcz3_0, hfz3_0⟩ := c1_ BK120))
 repeat (go_quiet (first | ((with_reducible refine gate_dst (N := 1) rfl ?_); refine bx_ (N := 1) (cs := #[.slice A0_0 l0_0.length c0_0]) (t := 47) (h := ?_); intro gb120 hg w2 hbox hb; have n2_ := mk0 (gz_ HB hg); have n3_ := mk0 (gz_ HB hg); replace HB := mk0 (bt_ (b_ HB) hb); have BK120 := mk0 (hbox); have GW120 := n2_; have GE120 := n3_; clear n2_ n3_ hb hbox hg; obtain ⟨hcz3_0, hfz3_0⟩ := c1_ BK120)); try go_wp2_with (first | ((with_reducible refine gate_dst (N := 1) rfl ?_); refine bx_ (N := 1) (cs := #[.slice A0_0 l0_0.length c0_0]) (t := 47) (h := ?_); intro gb120 hg w2 hbox hb; have n2_ := mk0 (gz_ HB hg); have n3_ := mk0 (gz_ HB hg); replace HB := mk0 (bt_ (b_ HB) hb); have BK120 := mk0 (hbox); have GW120 := n2_; have GE120 := n3_; clear n2_ n3_ hb hbox hg; obtain ⟨hcz3_0, hfz3_0⟩ := c1_ BK120)))
 go_loopg [3, 4] k (fun kq v3 v4 w' => ∃ (x3_1 : Int) (x4_1 : Int), v3 = .int .i64 x3_1 ∧ v4 = .int .i64 x4_1 ∧ Fc (quorumlaw0_TableWeight.l0 kq x3_1 x4_1 l0_0 = some r) ∧ Fc (kq ≤ k) ∧ Fc (w'.heap[gb120]? = some (.cells #[(.slice A0_0 l0_0.length c0_0)] 47 (0, 0))) ∧ Fc (Below w.heap.size w w'))
 case atStart => exact ⟨((l0_0.length : Int)), (0), (by first | rfl | (simp; done) | (simp [*]; done)), (by first | rfl | (simp; done) | (simp [*]; done)), H', ⟨Nat.le_refl _⟩, ⟨h_ BK120⟩, ⟨b_ HB⟩⟩
 case round =>
  clear H'
  try clear hcz3_0
  try clear hfz3_0
  obtain ⟨x3_1, x4_1, rfl, rfl, HA, HK1, BK120, HB⟩ := hrel
  cases gk with
  | zero => exact absurd HA.out (by simp [quorumlaw0_TableWeight.l0])
  | succ k1 =>
   have H := HA.out
   clear HA
   simp only [quorumlaw0_TableWeight.l0] at H
   as_aux_lemma =>
    have HC4 := mk0 H
    clear H
    go_upto_region 3 with (fail)
    repeat (go_quiet (fail); go_upto_region 3 with (fail))
    go_cut [17] (fun v17 wc => ∃ (kq : Nat) (x17_3 : Bool), v17 = .bool x17_3 ∧ Fc (quorumlaw0_TableWeight.j1 kq x3_1 x4_1 x17_3 l0_0 = some r) ∧ Fc (kq ≤ k1) ∧ Fc (wc.heap[gb120]? = some (.cells #[(.slice A0_0 l0_0.length c0_0)] 47 (0, 0))) ∧ Fc (Below w.heap.size w wc))
    case first =>
     have H := HC4.out
     clear HC4
     by_cases c5 : x4_1 < (l0_0.length : Int)
     ·rw [if_pos c5] at H
      have c5b0 : decide (x4_1 < (l0_0.length : Int)) = true := decide_eq_true c5
      clear c5
      (first | rw [c5b0] | (simp only [i64_w, i32_w]; rw [c5b0]) | skip)
      have H' := mk0 H
      clear H
      obtain ⟨hcz6_0, hfz6_0⟩ := c1_ BK120
      go_wp2
      repeat (go_quiet (fail); try go_wp2)
      go_meet
      case rel => exact ⟨_, (decide (x3_1 < 1048576)), (by first | rfl | (simp; done) | (simp [*]; done)), H', ⟨by have := HK1.out; first | omega | exact Nat.le_refl _⟩, ⟨h_ BK120⟩, ⟨b_ HB⟩⟩
     ·rw [if_neg c5] at H
      have c5b0 : decide (x4_1 < (l0_0.length : Int)) = false := decide_eq_false c5
      clear c5
      (first | rw [c5b0] | (simp only [i64_w, i32_w]; rw [c5b0]) | skip)
      have H' := mk0 H
      clear H
      obtain ⟨hcz7_0, hfz7_0⟩ := c1_ BK120
      go_wp2
      repeat (go_quiet (fail); try go_wp2)
      go_meet
      case rel => exact ⟨_, (false), (by first | rfl | (simp; done) | (simp [*]; done)), H', ⟨by have := HK1.out; first | omega | exact Nat.le_refl _⟩, ⟨h_ BK120⟩, ⟨b_ HB⟩⟩
    case rest =>
     clear HC4
     try clear c5
     try clear c5b0
     try clear hcz3_0
     try clear hcz6_0
     try clear hcz7_0
     try clear hfz3_0
     try clear hfz6_0
     try clear hfz7_0
     obtain ⟨kq, x17_3, rfl, HA, HJ3, BK120, HB⟩ := hcut
     cases kq with
     | zero => exact absurd HA.out (by simp [quorumlaw0_TableWeight.j1])
     | succ kj3 =>
      have H := HA.out
      clear HA
      simp only [quorumlaw0_TableWeight.j1] at H
      as_aux_lemma =>
       by_cases c8 : x17_3 = true
       ·subst c8
        rw [if_pos rfl] at H
        by_cases c9 : 0 ≤ x4_1
        ·rw [if_pos c9] at H
         have c9b0 : decide (0 ≤ x4_1) = true := decide_eq_true c9
         clear c9
         by_cases c10 : x4_1 < (l0_0.length : Int)
         ·rw [if_pos c10] at H
          have c10b0 : decide (x4_1 < (l0_0.length : Int)) = true := decide_eq_true c10
          clear c10
          have H' := mk0 H
          clear H
          obtain ⟨hcz11_0, hfz11_0⟩ := c1_ BK120
          have p121 : 0 ≤ (x4_1 : Int) := of_decide_eq_true (by first | (with_reducible assumption) | assumption)
          have q121 : x4_1 < (l0_0.length : Int) := of_decide_eq_true (by first | (with_reducible assumption) | assumption)
          obtain ⟨ad121, A121_1, c121_1, e121, hx121_0, hx121_1, hl121_1, hi121_1⟩ := at_T99 HR0_0.out x4_1 p121 q121
          cases e121
          replace hx121_0 := (bc_ HB hx121_0 :)
          replace hx121_1 := (bc_ HB hx121_1 :)
          have HR121_1 := mk0 hi121_1
          have HC121_1 := mk0 hl121_1
          clear hi121_1 hl121_1
          replace p121 := eq_true p121
          replace q121 := eq_true q121
          have p122 : 0 ≤ (x4_1 : Int) := of_decide_eq_true (by first | (with_reducible assumption) | assumption)
          have q122 : x4_1 < (l0_0.length : Int) := of_decide_eq_true (by first | (with_reducible assumption) | assumption)
          obtain ⟨ad122, A122_1, c122_1, e122, hx122_0, hx122_1, hl122_1, hi122_1⟩ := at_T99 HR0_0.out x4_1 p122 q122
          obtain rfl : ad121 = ad122 := (by injection e122)
          replace hx122_0 := (bc_ HB hx122_0 :)
          replace hx122_1 := (bc_ HB hx122_1 :)
          have HR122_1 := mk0 hi122_1
          have HC122_1 := mk0 hl122_1
          clear hi122_1 hl122_1
          replace p122 := eq_true p122
          replace q122 := eq_true q122
          have ea_ := Option.some.inj (hx121_1.symm.trans hx122_1)
          injection ea_ with ea_ en_ ec_
          subst ea_
          subst ec_
          clear en_
          go_wp2
          repeat (go_quiet (fail); try go_wp2)
          go_loopg [3, 5] kj3 (fun kq v3 v5 w' => ∃ (x3_3 : Int) (x5_3 : Int), v3 = .int .i64 x3_3 ∧ v5 = .int .i64 x5_3 ∧ Fc (quorumlaw0_TableWeight.l1 kq x3_3 x4_1 x5_3 l0_0 = some r) ∧ Fc (kq ≤ kj3) ∧ Fc (w'.heap[gb120]? = some (.cells #[(.slice (some ad121) l0_0.length c0_0)] 47 (0, 0))) ∧ Fc (Below w.heap.size w w'))
          case atStart => exact ⟨(wrap64 ((wrap64 (x3_1 + (((rd_T99 l0_0 x4_1).f1).length : Int))) + (wrap64 ((((rd_T99 l0_0 x4_1).f0).size : Int) / 8)))), (0), (by first | rfl | (simp; done) | (simp [*]; done)), (by first | rfl | (simp; done) | (simp [*]; done)), H', ⟨Nat.le_refl _⟩, ⟨h_ BK120⟩, ⟨b_ HB⟩⟩
          case round =>
           clear H'
           try clear c5
           try clear c5b0
           try clear c8
           try clear c9
           try clear c9b0
           try clear c10
           try clear c10b0
           try clear hcz11_0
           try clear hcz3_0
           try clear hcz6_0
           try clear hcz7_0
           try clear hfz11_0
           try clear hfz3_0
           try clear hfz6_0
           try clear hfz7_0
           try clear hx121_0
           try clear hx121_1
           try clear hx122_0
           try clear hx122_1
           try clear p121
           try clear p122
           try clear q121
           try clear q122
           obtain ⟨x3_3, x5_3, rfl, rfl, HA, HK3, BK120, HB⟩ := hrel
           cases gk with
           | zero => exact absurd HA.out (by simp [quorumlaw0_TableWeight.l1])
           | succ k3 =>
            have H := HA.out
            clear HA
            simp only [quorumlaw0_TableWeight.l1] at H
            as_aux_lemma =>
             by_cases c12 : 0 ≤ x4_1
             ·rw [if_pos c12] at H
              have c12b0 : decide (0 ≤ x4_1) = true := decide_eq_true c12
              clear c12
              by_cases c13 : x4_1 < (l0_0.length : Int)
              ·rw [if_pos c13] at H
               have c13b0 : decide (x4_1 < (l0_0.length : Int)) = true := decide_eq_true c13
               clear c13
               by_cases c14 : x5_3 < (((rd_T99 l0_0 x4_1).f1).length : Int)
               ·rw [if_pos c14] at H
                have c14b0 : decide (x5_3 < (((rd_T99 l0_0 x4_1).f1).length : Int)) = true := decide_eq_true c14
                clear c14
                by_cases c15 : x3_3 < 1048576
                ·rw [if_pos c15] at H
                 have c15b0 : decide (x3_3 < 1048576) = true := decide_eq_true c15
                 clear c15
                 by_cases c16 : 0 ≤ x5_3
                 ·rw [if_pos c16] at H
                  have c16b0 : decide (0 ≤ x5_3) = true := decide_eq_true c16
                  clear c16
                  have H' := mk0 H
                  clear H
                  obtain ⟨hcz17_0, hfz17_0⟩ := c1_ BK120
                  have p123 : 0 ≤ (x4_1 : Int) := of_decide_eq_true (by first | (with_reducible assumption) | assumption)
                  have q123 : x4_1 < (l0_0.length : Int) := of_decide_eq_true (by first | (with_reducible assumption) | assumption)
                  obtain ⟨ad123, A123_1, c123_1, e123, hx123_0, hx123_1, hl123_1, hi123_1⟩ := at_T99 HR0_0.out x4_1 p123 q123
                  obtain rfl : ad121 = ad123 := (by injection e123)
                  replace hx123_0 := (bc_ HB hx123_0 :)
                  replace hx123_1 := (bc_ HB hx123_1 :)
                  have HR123_1 := mk0 hi123_1
                  have HC123_1 := mk0 hl123_1
                  clear hi123_1 hl123_1
                  replace p123 := eq_true p123
                  replace q123 := eq_true q123
                  have p124 : 0 ≤ (x4_1 : Int) := of_decide_eq_true (by first | (with_reducible assumption) | assumption)
                  have q124 : x4_1 < (l0_0.length : Int) := of_decide_eq_true (by first | (with_reducible assumption) | assumption)
                  obtain ⟨ad124, A124_1, c124_1, e124, hx124_0, hx124_1, hl124_1, hi124_1⟩ := at_T99 HR0_0.out x4_1 p124 q124
                  obtain rfl : ad121 = ad124 := (by injection e124)
                  replace hx124_0 := (bc_ HB hx124_0 :)
                  replace hx124_1 := (bc_ HB hx124_1 :)
                  have HR124_1 := mk0 hi124_1
                  have HC124_1 := mk0 hl124_1
                  clear hi124_1 hl124_1
                  replace p124 := eq_true p124
                  replace q124 := eq_true q124
                  have ea_ := Option.some.inj (hx123_1.symm.trans hx124_1)
                  injection ea_ with ea_ en_ ec_
                  subst ea_
                  subst ec_
                  clear en_
                  have p125 : 0 ≤ (x5_3 : Int) := of_decide_eq_true (by first | (with_reducible assumption) | assumption)
                  have q125 : x5_3 < (((rd_T99 l0_0 x4_1).f1).length : Int) := of_decide_eq_true (by first | (with_reducible assumption) | assumption)
                  obtain ⟨ad125, e125, hx125_0, hx125_1, hx125_2⟩ := at_T72 HR124_1.out x5_3 p125 q125
                  cases e125
                  replace hx125_0 := (bc_ HB hx125_0 :)
                  replace hx125_1 := (bc_ HB hx125_1 :)
                  replace hx125_2 := (bc_ HB hx125_2 :)
                  replace p125 := eq_true p125
                  replace q125 := eq_true q125
                  go_wp2
                  repeat (go_quiet (fail); try go_wp2)
                  go_roundg k3
                  case measure => have := HK1.out; have := HJ3.out; have := HK3.out; omega
                  case rel => exact ⟨(wrap64 (x3_3 + (wrap64 ((((rd_T72 ((rd_T99 l0_0 x4_1).f1) x5_3).f1).size : Int) / 8)))), (wrap64 (x5_3 + 1)), (by first | rfl | (simp; done) | (simp [*]; done)), (by first | rfl | (simp; done) | (simp [*]; done)), H', ⟨by have := HK1.out; have := HJ3.out; have := HK3.out; omega⟩, ⟨h_ BK120⟩, ⟨b_ HB⟩⟩
                 ·rw [if_neg c16] at H
                  exact absurd H (by simp)
                ·rw [if_neg c15] at H
                 have c15b0 : decide (x3_3 < 1048576) = false := decide_eq_false c15
                 clear c15
                 have H' := mk0 H
                 clear H
                 obtain ⟨hcz18_0, hfz18_0⟩ := c1_ BK120
                 have p123 : 0 ≤ (x4_1 : Int) := of_decide_eq_true (by first | (with_reducible assumption) | assumption)
                 have q123 : x4_1 < (l0_0.length : Int) := of_decide_eq_true (by first | (with_reducible assumption) | assumption)
                 obtain ⟨ad123, A123_1, c123_1, e123, hx123_0, hx123_1, hl123_1, hi123_1⟩ := at_T99 HR0_0.out x4_1 p123 q123
                 obtain rfl : ad121 = ad123 := (by injection e123)
                 replace hx123_0 := (bc_ HB hx123_0 :)
                 replace hx123_1 := (bc_ HB hx123_1 :)
                 have HR123_1 := mk0 hi123_1
                 have HC123_1 := mk0 hl123_1
                 clear hi123_1 hl123_1
                 replace p123 := eq_true p123
                 replace q123 := eq_true q123
                 go_wp2
                 repeat (go_quiet (fail); try go_wp2)
                 go_roundg k3
                 case measure => have := HK1.out; have := HJ3.out; have := HK3.out; omega
                 case rel => exact ⟨(x3_3), (wrap64 (x4_1 + 1)), (by first | rfl | (simp; done) | (simp [*]; done)), (by first | rfl | (simp; done) | (simp [*]; done)), H', ⟨by have := HK1.out; have := HJ3.out; have := HK3.out; omega⟩, ⟨h_ BK120⟩, ⟨b_ HB⟩⟩
               ·rw [if_neg c14] at H
                have c14b0 : decide (x5_3 < (((rd_T99 l0_0 x4_1).f1).length : Int)) = false := decide_eq_false c14
                clear c14
                have H' := mk0 H
                clear H
                obtain ⟨hcz19_0, hfz19_0⟩ := c1_ BK120
                have p123 : 0 ≤ (x4_1 : Int) := of_decide_eq_true (by first | (with_reducible assumption) | assumption)
                have q123 : x4_1 < (l0_0.length : Int) := of_decide_eq_true (by first | (with_reducible assumption) | assumption)
                obtain ⟨ad123, A123_1, c123_1, e123, hx123_0, hx123_1, hl123_1, hi123_1⟩ := at_T99 HR0_0.out x4_1 p123 q123
                obtain rfl : ad121 = ad123 := (by injection e123)
                replace hx123_0 := (bc_ HB hx123_0 :)
                replace hx123_1 := (bc_ HB hx123_1 :)
                have HR123_1 := mk0 hi123_1
                have HC123_1 := mk0 hl123_1
                clear hi123_1 hl123_1
                replace p123 := eq_true p123
                replace q123 := eq_true q123
                go_wp2
                repeat (go_quiet (fail); try go_wp2)
                go_roundg k3
                case measure => have := HK1.out; have := HJ3.out; have := HK3.out; omega
                case rel => exact ⟨(x3_3), (wrap64 (x4_1 + 1)), (by first | rfl | (simp; done) | (simp [*]; done)), (by first | rfl | (simp; done) | (simp [*]; done)), H', ⟨by have := HK1.out; have := HJ3.out; have := HK3.out; omega⟩, ⟨h_ BK120⟩, ⟨b_ HB⟩⟩
              ·rw [if_neg c13] at H
               exact absurd H (by simp)
             ·rw [if_neg c12] at H
              exact absurd H (by simp)
         ·rw [if_neg c10] at H
          exact absurd H (by simp)
        ·rw [if_neg c9] at H
         exact absurd H (by simp)
       ·replace c8 := Bool.eq_false_iff.mpr c8
        subst c8
        rw [if_neg (show ¬ (false = true) by decide)] at H
        obtain rfl := Option.some.inj H
        go_wp2
        repeat (go_quiet (fail); try go_wp2)
        go_ret
        exact ⟨by first | rfl | (simp [errW_none, errW_some] <;> rfl) | (simp [*, errW_none, errW_some] <;> rfl), b_ HB⟩

end Go.Proofs.Ytbaecdcfefmcgaa.PVow
