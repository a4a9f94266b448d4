-- PRINTED by print.py (a twelfth state) out of the translation. Not trusted: Lean checks it.
import Derived.Test.YtoodkefpkgbjcaaPChtx0
import Derived.Test.YtoodkefpkgbjcaaPChtx3
namespace Go.Proofs.Ytoodkefpkgbjcaa.PCht
open Go.RowKit Go.Proofs.YtoodkefpkgbjcaaW.PrintWords Go.Proofs.YtoodkefpkgbjcaaW.PrintLast Go.Proofs.YtoodkefpkgbjcaaW.PrintMore
attribute [local go_sem] max2_int min2_int max_two min_two max_three min_three max_four min_four   -- for this text's walks alone
set_option linter.unusedVariables false
set_option linter.unusedSimpArgs false

/-! ### chain_May: function 61 -/
def chain_May.l0 : Nat → List (S39) → Int → Int → ByteArray → List (S39) → Option (Bool)
 | 0, _, _, _, _, _ => none
 | k + 1, x6, x7, x8, x131000, x131001 => if x8 < x7 then (if 0 ≤ x8 then (if x8 < (x6.length : Int) then ((chain_version.f ((rd_T39 x6 x8).f0) ((rd_T39 x6 x8).f1) ((rd_T39 x6 x8).f2)).bind fun t133 => (if t133 = true then (if x8 > 0 then (if 0 ≤ (wrap64 (x8 - 1)) then (if (wrap64 (x8 - 1)) < (x131001.length : Int) then (if ((rd_T39 x6 x8).f0) ≥ ((rd_T39 x131001 (wrap64 (x8 - 1))).f0) then (some false) else (chain_May.l0 k x6 x7 (wrap64 (x8 + 1)) x131000 x131001)) else (none)) else (none)) else (chain_May.l0 k x6 x7 (wrap64 (x8 + 1)) x131000 x131001)) else (some false))) else (none)) else (none)) else ((key_Is.f x131000).bind fun t135 => (if t135 = true then (some (decide ((x131001.length : Int) > 0))) else (some false)))
def chain_May.f (k : Nat) (a0_0 : ByteArray) (l0_1 : List (S39)) : Option (Bool) := chain_May.l0 k l0_1 (l0_1.length : Int) 0 a0_0 l0_1
theorem chain_May.mono_l : ∀ k, (∀ y0 y1 y2 y3 y4, LeO (chain_May.l0 k y0 y1 y2 y3 y4) (chain_May.l0 (k + 1) y0 y1 y2 y3 y4))
 | 0 => fun _ _ _ _ _ r h => by simp [chain_May.l0] at h
 | k + 1 => by
  have ih0 := chain_May.mono_l k
  ·intro y0 y1 y2 y3 y4
   unfold chain_May.l0
   repeat' first
   | (with_reducible exact ih0 _ _ _ _ _)
   | (with_reducible exact LeO.refl _)
   | (with_reducible exact LeO.none _)
   | (with_reducible refine LeO.ite ?_ ?_)
   | (with_reducible refine LeO.bind ?_ (fun _ => ?_))
   | exact ih0 _ _ _ _ _
   | exact LeO.none _
   | refine LeO.ite ?_ ?_
   | refine LeO.bind ?_ (fun _ => ?_)
theorem chain_May.mono : ∀ a0 a1 k, LeO (chain_May.f k a0 a1) (chain_May.f (k + 1) a0 a1) := by
 intro a0 a1 k
 have ih0 := chain_May.mono_l k
 unfold chain_May.f
 repeat' first
   | (with_reducible exact ih0 _ _ _ _ _)
   | (with_reducible exact LeO.refl _)
   | (with_reducible exact LeO.none _)
   | (with_reducible refine LeO.ite ?_ ?_)
   | (with_reducible refine LeO.bind ?_ (fun _ => ?_))
   | exact ih0 _ _ _ _ _
   | exact LeO.none _
   | refine LeO.ite ?_ ?_
   | refine LeO.bind ?_ (fun _ => ?_)
def chain_May.T4 : Bool × List (List Nat × List Nat) := (true, [([], []), ([0], [0]), ([1], [1]), ([2, 1], [2]), ([3], [3]), ([4, 3], [3, 4]), ([5, 3, 3], [3, 5]), ([6], [6]), ([7, 6], [6, 7]), ([6], [6]), ([9, 6], [6, 9]), ([6], [6]), ([11, 6], [6, 11]), ([10, 12, 6], [6, 10, 12]), ([13, 6], [6, 13]), ([14, 6], [6, 14]), ([8, 15, 6], [6, 8, 15]), ([6, 16, 3], [3, 6, 16]), ([3, 17], [3, 17])])
def chain_May.B4 : List Nat := [0, 1, 3, 7, 15, 31, 63, 127, 255, 127, 639, 127, 2175, 7807, 15999, 32383, 65535, 131071, 262143]
theorem chain_May.tab4 : rtab .any (opsOf Try.f61 4) = chain_May.T4 := by kernel_rfl
theorem chain_May.bits4 : waitsOk chain_May.T4.2 chain_May.B4 = true := by kernel_rfl
set_option maxHeartbeats 8000000 in
set_option maxRecDepth 100000 in
theorem chain_May.calls (k : Nat) (a0_0 : ByteArray) (A0_1 : Option Addr) (c0_1 : Nat) (l0_1 : List (S39)) (r : Bool) (w : World) (hr0_1 : Kd.C k39 w A0_1 l0_1.length l0_1) (hc0_1 : l0_1.length ≤ c0_1) (h : chain_May.f k a0_0 l0_1 = some r) :
  Calls Try.prog 61 #[.agg #[.string a0_0, .slice A0_1 l0_1.length c0_1]] w fun e w' => e = .returned (.bool r) ∧ Below w.heap.size w w' := by
 have hu30 := Try.underlying30
 have hu39 := Try.underlying39
 have HR0_1 := mk0 hr0_1
 have HC0_1 := mk0 hc0_1
 clear hr0_1 hc0_1
 have HB := mk0 (Below.refl w.heap.size w)
 have H : (chain_May.l0 k l0_1 (l0_1.length : Int) 0 a0_0 l0_1) = some r := h
 clear h
 have H' := mk0 H
 clear H
 go_enter Try.func61, Try.ntmps61
 go_wp2_with (first | ((with_reducible refine gate_dst (N := 1) rfl ?_); (try (refine gate_guard (by rfl) ?_; dsimp only)); refine bx_ (N := 1) (cs := #[.string a0_0, .slice A0_1 l0_1.length c0_1]) (t := 30) (h := ?_); intro gb130 hg w2 hbox hb; have n2_ := mk0 (gz_ HB hg); have n3_ := mk0 (gz_ HB hg); replace HB := mk0 (bt_ (b_ HB) hb); have BK130 := mk0 (hbox); have GW130 := n2_; have GE130 := n3_; clear n2_ n3_ hb hbox hg; obtain ⟨hcz3_0, hcz3_1, hfz3_0, hfz3_1⟩ := c2_ BK130))
 go_loopg [8] k (fun kq v8 w' => ∃ (x8_1 : Int), v8 = .int .i64 x8_1 ∧ Fc (chain_May.l0 kq l0_1 (l0_1.length : Int) x8_1 a0_0 l0_1 = some r) ∧ Fc (kq ≤ k) ∧ Fc (w'.heap[gb130]? = some (.cells #[.string a0_0, (.slice A0_1 l0_1.length c0_1)] 30 (0, 0))) ∧ Fc (Below w.heap.size w w'))
 case atStart => exact ⟨(0), (by first | rfl | (simp; done) | (simp [*]; done)), H', ⟨Nat.le_refl _⟩, ⟨h_ BK130⟩, ⟨b_ HB⟩⟩
 case round =>
  clear H'
  try clear hcz3_0
  try clear hcz3_1
  try clear hfz3_0
  try clear hfz3_1
  obtain ⟨x8_1, rfl, HA, HK1, BK130, HB⟩ := hrel
  cases gk with
  | zero => exact absurd HA.out (by simp [chain_May.l0])
  | succ k1 =>
   have H := HA.out
   clear HA
   simp only [chain_May.l0] at H
   as_aux_lemma =>
    by_cases c4 : x8_1 < (l0_1.length : Int)
    ·rw [if_pos c4] at H
     have c4b0 : decide (x8_1 < (l0_1.length : Int)) = true := decide_eq_true c4
     clear c4
     by_cases c5 : 0 ≤ x8_1
     ·rw [if_pos c5] at H
      have c5b0 : decide (0 ≤ x8_1) = true := decide_eq_true c5
      clear c5
      by_cases c6 : x8_1 < (l0_1.length : Int)
      ·rw [if_pos c6] at H
       have c6b0 : decide (x8_1 < (l0_1.length : Int)) = true := decide_eq_true c6
       clear c6
       replace H := Option.bind_eq_some_iff.mp H
       obtain ⟨t133, A70, H⟩ := H
       try dsimp only at H
       have A7 := mk0 A70
       clear A70
       by_cases c8 : t133 = true
       ·subst c8
        rw [if_pos rfl] at H
        by_cases c9 : x8_1 > 0
        ·rw [if_pos c9] at H
         have c9b0 : decide (0 < x8_1) = true := decide_eq_true c9
         clear c9
         obtain ⟨ji10, hji10⟩ : ∃ j_ : Int, (wrap64 (x8_1 - 1)) = j_ := ⟨_, rfl⟩
         replace H : (if 0 ≤ (ji10) then (if (ji10) < (l0_1.length : Int) then (if ((rd_T39 l0_1 x8_1).f0) ≥ ((rd_T39 l0_1 (ji10)).f0) then (some false) else (chain_May.l0 k1 l0_1 (l0_1.length : Int) (wrap64 (x8_1 + 1)) a0_0 l0_1)) else (none)) else (none)) = some r := by first | (rw [hji10] at H; exact H) | (simp only [hji10] at H ⊢; exact H)
         (try rw [hji10] at A7)
         have hji10w : (IntKind.i64.wrap (x8_1 - 1)) = ji10 := (i64_w _).trans hji10
         by_cases c11 : 0 ≤ (ji10)
         ·rw [if_pos c11] at H
          have c11b0 : decide (0 ≤ (ji10)) = true := decide_eq_true c11
          clear c11
          by_cases c12 : (ji10) < (l0_1.length : Int)
          ·rw [if_pos c12] at H
           have c12b0 : decide ((ji10) < (l0_1.length : Int)) = true := decide_eq_true c12
           clear c12
           by_cases c13 : ((rd_T39 l0_1 x8_1).f0) ≥ ((rd_T39 l0_1 (ji10)).f0)
           ·rw [if_pos c13] at H
            have c13b0 : decide (((rd_T39 l0_1 (ji10)).f0) ≤ ((rd_T39 l0_1 x8_1).f0)) = true := decide_eq_true c13
            clear c13
            obtain rfl := Option.some.inj H
            have p131 : 0 ≤ (x8_1 : Int) := of_decide_eq_true (by first | (with_reducible assumption) | assumption)
            have q131 : x8_1 < (l0_1.length : Int) := of_decide_eq_true (by first | (with_reducible assumption) | assumption)
            obtain ⟨ad131, e131, hx131_0, hx131_1, hx131_2⟩ := at_T39 HR0_1.out x8_1 p131 q131
            cases e131
            replace hx131_0 := bc_ HB hx131_0
            replace hx131_1 := bc_ HB hx131_1
            replace hx131_2 := bc_ HB hx131_2
            replace p131 := eq_true p131
            replace q131 := eq_true q131
            try go_wp2_with (first | ((with_reducible refine gate_dst (N := 4) rfl ?_); (try (refine gate_guard (by rfl) ?_; dsimp only)); refine bx_ (N := 4) (cs := #[.int .i64 0, .string (⟨#[]⟩ : ByteArray), .bool false]) (t := 39) (h := ?_); intro gb132 hg w14 hbox hb; have n3_ := mk0 (gz_ HB hg); have n4_ := mk0 (gz_ HB hg); have n5_ := mk0 (ne1_ BK130 hg); have n6_ := mk0 (ne2_ BK130 hg); replace BK130 := mk0 (u_ BK130 hb); replace HB := mk0 (bt_ (b_ HB) hb); have BK132 := mk0 (hbox); have GW132 := n3_; have GE132 := n4_; have NB130_132 := n5_; have NB132_130 := n6_; clear n3_ n4_ n5_ n6_ hb hbox hg; have hnb15 := NB132_130.out; have hnc15 := NB130_132.out; obtain ⟨hcz16_0, hcz16_1, hcz16_2, hfz16_0, hfz16_1, hfz16_2⟩ := c3_ BK132))
            have n0_ : Fc ((((w14.setCell ⟨gb132, 0, none⟩ (.int .i64 ((rd_T39 l0_1 x8_1).f0))).setCell ⟨gb132, 1, none⟩ (.string ((rd_T39 l0_1 x8_1).f1))).setCell ⟨gb132, 2, none⟩ (.bool ((rd_T39 l0_1 x8_1).f2))).heap[gb130]? = some (.cells #[.string a0_0, .slice (some ad131) l0_1.length c0_1] 30 (0, 0))) := ⟨(fa_ (fa_ (fa_ (h_ BK130) NB130_132.out) NB130_132.out) NB130_132.out)⟩
            have n1_ : Fc ((((w14.setCell ⟨gb132, 0, none⟩ (.int .i64 ((rd_T39 l0_1 x8_1).f0))).setCell ⟨gb132, 1, none⟩ (.string ((rd_T39 l0_1 x8_1).f1))).setCell ⟨gb132, 2, none⟩ (.bool ((rd_T39 l0_1 x8_1).f2))).heap[gb132]? = some (.cells #[.int .i64 ((rd_T39 l0_1 x8_1).f0), .string ((rd_T39 l0_1 x8_1).f1), .bool ((rd_T39 l0_1 x8_1).f2)] 39 (0, 0))) := ⟨(pu_ (cs := #[.int .i64 ((rd_T39 l0_1 x8_1).f0), .string ((rd_T39 l0_1 x8_1).f1), .bool false]) (pu_ (cs := #[.int .i64 ((rd_T39 l0_1 x8_1).f0), .string (⟨#[]⟩ : ByteArray), .bool false]) (pu_ (cs := #[.int .i64 0, .string (⟨#[]⟩ : ByteArray), .bool false]) (h_ BK132))))⟩
            have n2_ : Fc (Below w.heap.size w (((w14.setCell ⟨gb132, 0, none⟩ (.int .i64 ((rd_T39 l0_1 x8_1).f0))).setCell ⟨gb132, 1, none⟩ (.string ((rd_T39 l0_1 x8_1).f1))).setCell ⟨gb132, 2, none⟩ (.bool ((rd_T39 l0_1 x8_1).f2)))) := ⟨b_ HB⟩
            (try clear BK130)
            (try clear BK132)
            (try clear HB)
            generalize (((w14.setCell ⟨gb132, 0, none⟩ (.int .i64 ((rd_T39 l0_1 x8_1).f0))).setCell ⟨gb132, 1, none⟩ (.string ((rd_T39 l0_1 x8_1).f1))).setCell ⟨gb132, 2, none⟩ (.bool ((rd_T39 l0_1 x8_1).f2))) = w17 at n0_ n1_ n2_ ⊢
            have BK130 := n0_
            have BK132 := n1_
            have HB := n2_
            clear n0_ n1_ n2_
            replace BK130 := mk0 (bD_ BK130.out)
            replace BK132 := mk0 (bD_ BK132.out)
            replace HB := mk0 (b1_ HB.out)
            have p134 : 0 ≤ ((ji10) : Int) := of_decide_eq_true (by first | (with_reducible assumption) | assumption)
            have q134 : (ji10) < (l0_1.length : Int) := of_decide_eq_true (by first | (with_reducible assumption) | assumption)
            obtain ⟨ad134, e134, hx134_0, hx134_1, hx134_2⟩ := at_T39 HR0_1.out (ji10) p134 q134
            have hw134_2 := hx134_2
            have hw134_1 := hx134_1
            have hw134_0 := hx134_0
            obtain rfl : ad131 = ad134 := (by injection e134)
            replace hx134_0 := bc_ HB hx134_0
            replace hx134_1 := bc_ HB hx134_1
            replace hx134_2 := bc_ HB hx134_2
            replace p134 := eq_true p134
            replace q134 := eq_true q134
            refine start_ (n := 19) (S := fun w' => w'.cell? ⟨gb132, 0, none⟩ = some (.int .i64 ((rd_T39 l0_1 x8_1).f0)) ∧ w'.cell? ⟨gb132, 1, none⟩ = some (.string ((rd_T39 l0_1 x8_1).f1)) ∧ w'.cell? ⟨gb132, 2, none⟩ = some (.bool ((rd_T39 l0_1 x8_1).f2)) ∧ w'.cell? ⟨gb130, 0, none⟩ = some (.string a0_0) ∧ w'.cell? ⟨gb130, 1, none⟩ = some (.slice (some ad131) l0_1.length c0_1) ∧ w'.cell? (ad131.add (((ji10)).toNat * 3)) = some (.int .i64 ((rd_T39 l0_1 (ji10)).f0)) ∧ w'.cell? ⟨(ad131.add (((ji10)).toNat * 3)).block, (ad131.add (((ji10)).toNat * 3)).off + 1, none⟩ = some (.string ((rd_T39 l0_1 (ji10)).f1)) ∧ w'.cell? ⟨(ad131.add (((ji10)).toNat * 3)).block, (ad131.add (((ji10)).toNat * 3)).off + 2, none⟩ = some (.bool ((rd_T39 l0_1 (ji10)).f2))) (ds := []) (bt 19 0) (by kernel_rfl) rfl rfl ⟨bk_ BK132 0, bk_ BK132 1, bk_ BK132 2, bk_ BK130 0, bk_ BK130 1, (bc_ HB hw134_0), (bc_ HB hw134_1), (bc_ HB hw134_2)⟩ (fun hHeld => ?_); refine with_tabW chain_May.tab4 chain_May.bits4 (fun HT_ HW_ => ?_)
            generalize w17.drew = w18 at BK130 BK132 HB hx134_0 hx134_1 hx134_2 hHeld ⊢
            refine tq8_ HT_.out HW_.out 0 13 (bt 19 1) hHeld (h := ?_)
            refine one_ (i := 1) (N := some 14) (bt 19 3) rfl rfl (one_of HT_.out (by kernel_rfl)) (by decide) (fun K hK => ?_)
            refine goes_ Try.func118 (by kernel_rfl) rfl #[.agg #[.int .i64 ((rd_T39 l0_1 x8_1).f0), .string ((rd_T39 l0_1 x8_1).f1), .bool ((rd_T39 l0_1 x8_1).f2)]] (by rfl) rfl rfl (by (try simp only [List.map_toArray, List.map_cons, List.map_nil]); first | done | rfl | (simp only [List.length_drop, List.length_take]; rfl)) ?_
            with_reducible refine (chain_version.calls ((rd_T39 l0_1 x8_1).f0) ((rd_T39 l0_1 x8_1).f1) ((rd_T39 l0_1 x8_1).f2) true _ A7.out).mono ?_
            rintro e w19 ⟨rfl, hb⟩
            refine ⟨_, rfl, ?_⟩
            replace BK130 := mk0 (u_ BK130 hb)
            replace BK132 := mk0 (u_ BK132 hb)
            replace HB := mk0 (bt_ (b_ HB) hb)
            (try clear hb)
            (try clear hb2)
            (try clear hk)
            (try clear hi)
            refine hK.out _ _ ⟨bk_ BK132 0, bk_ BK132 1, bk_ BK132 2, bk_ BK130 0, bk_ BK130 1, (bc_ HB hw134_0), (bc_ HB hw134_1), (bc_ HB hw134_2)⟩ (fun hHeld => ?_)
            clear hK K
            refine norm_ (a' := ?_) ?_ ?_
            rotate_left
            ·show Act.put _ (some 14) _ = _
             simp only [z_]
             rfl
            refine pq_ HT_.out 2 15 (bt 19 7) (h := ?_)
            refine pq_ HT_.out 3 16 (bt 19 15) (h := ?_)
            refine pq_ HT_.out 4 17 (bt 19 31) (h := ?_)
            refine pq_ HT_.out 5 18 (bt 19 63) (h := ?_)
            refine pq_ HT_.out 6 19 (bt 19 127) (h := ?_)
            refine pq_ HT_.out 7 20 (bt 19 255) (h := ?_)
            refine pq_ HT_.out 9 22 (bt 19 767) (h := ?_)
            refine pq_ HT_.out 11 24 (bt 19 2815) (h := ?_)
            refine pq_ HT_.out 12 25 (bt 19 6911) (h := ?_)
            refine tq8_ HT_.out HW_.out 8 21 (bt 19 7167) hHeld (h := ?_)
            refine tq8_ HT_.out HW_.out 10 23 (bt 19 8191) hHeld (h := ?_)
            refine pq_ HT_.out 13 26 (bt 19 16383) (h := ?_)
            refine pq_ HT_.out 14 27 (bt 19 32767) (h := ?_)
            refine tq8_ HT_.out HW_.out 15 28 (bt 19 65535) hHeld (h := ?_)
            refine pq_ HT_.out 16 29 (bt 19 131071) (h := ?_)
            refine pq_ HT_.out 17 30 (bt 19 262143) (h := ?_)
            refine pq_ HT_.out 18 31 (bt 19 524287) (h := ?_)
            refine done_ (done_of HT_.out (by kernel_rfl)) ?_
            try go_wp2
            go_ret
            exact ⟨by first | rfl | (simp [errW_none, errW_some] <;> rfl) | (simp only [← hji10]; first | rfl | (simp [errW_none, errW_some] <;> rfl)) | (simp [*, errW_none, errW_some] <;> rfl), b_ HB⟩
           ·rw [if_neg c13] at H
            have c13b0 : decide (((rd_T39 l0_1 (ji10)).f0) ≤ ((rd_T39 l0_1 x8_1).f0)) = false := decide_eq_false c13
            clear c13
            have H' := mk0 H
            clear H
            have p131 : 0 ≤ (x8_1 : Int) := of_decide_eq_true (by first | (with_reducible assumption) | assumption)
            have q131 : x8_1 < (l0_1.length : Int) := of_decide_eq_true (by first | (with_reducible assumption) | assumption)
            obtain ⟨ad131, e131, hx131_0, hx131_1, hx131_2⟩ := at_T39 HR0_1.out x8_1 p131 q131
            cases e131
            replace hx131_0 := bc_ HB hx131_0
            replace hx131_1 := bc_ HB hx131_1
            replace hx131_2 := bc_ HB hx131_2
            replace p131 := eq_true p131
            replace q131 := eq_true q131
            try go_wp2_with (first | ((with_reducible refine gate_dst (N := 4) rfl ?_); (try (refine gate_guard (by rfl) ?_; dsimp only)); refine bx_ (N := 4) (cs := #[.int .i64 0, .string (⟨#[]⟩ : ByteArray), .bool false]) (t := 39) (h := ?_); intro gb132 hg w20 hbox hb; have n3_ := mk0 (gz_ HB hg); have n4_ := mk0 (gz_ HB hg); have n5_ := mk0 (ne1_ BK130 hg); have n6_ := mk0 (ne2_ BK130 hg); replace BK130 := mk0 (u_ BK130 hb); replace HB := mk0 (bt_ (b_ HB) hb); have BK132 := mk0 (hbox); have GW132 := n3_; have GE132 := n4_; have NB130_132 := n5_; have NB132_130 := n6_; clear n3_ n4_ n5_ n6_ hb hbox hg; have hnb21 := NB132_130.out; have hnc21 := NB130_132.out; obtain ⟨hcz22_0, hcz22_1, hcz22_2, hfz22_0, hfz22_1, hfz22_2⟩ := c3_ BK132))
            have n0_ : Fc ((((w20.setCell ⟨gb132, 0, none⟩ (.int .i64 ((rd_T39 l0_1 x8_1).f0))).setCell ⟨gb132, 1, none⟩ (.string ((rd_T39 l0_1 x8_1).f1))).setCell ⟨gb132, 2, none⟩ (.bool ((rd_T39 l0_1 x8_1).f2))).heap[gb130]? = some (.cells #[.string a0_0, .slice (some ad131) l0_1.length c0_1] 30 (0, 0))) := ⟨(fa_ (fa_ (fa_ (h_ BK130) NB130_132.out) NB130_132.out) NB130_132.out)⟩
            have n1_ : Fc ((((w20.setCell ⟨gb132, 0, none⟩ (.int .i64 ((rd_T39 l0_1 x8_1).f0))).setCell ⟨gb132, 1, none⟩ (.string ((rd_T39 l0_1 x8_1).f1))).setCell ⟨gb132, 2, none⟩ (.bool ((rd_T39 l0_1 x8_1).f2))).heap[gb132]? = some (.cells #[.int .i64 ((rd_T39 l0_1 x8_1).f0), .string ((rd_T39 l0_1 x8_1).f1), .bool ((rd_T39 l0_1 x8_1).f2)] 39 (0, 0))) := ⟨(pu_ (cs := #[.int .i64 ((rd_T39 l0_1 x8_1).f0), .string ((rd_T39 l0_1 x8_1).f1), .bool false]) (pu_ (cs := #[.int .i64 ((rd_T39 l0_1 x8_1).f0), .string (⟨#[]⟩ : ByteArray), .bool false]) (pu_ (cs := #[.int .i64 0, .string (⟨#[]⟩ : ByteArray), .bool false]) (h_ BK132))))⟩
            have n2_ : Fc (Below w.heap.size w (((w20.setCell ⟨gb132, 0, none⟩ (.int .i64 ((rd_T39 l0_1 x8_1).f0))).setCell ⟨gb132, 1, none⟩ (.string ((rd_T39 l0_1 x8_1).f1))).setCell ⟨gb132, 2, none⟩ (.bool ((rd_T39 l0_1 x8_1).f2)))) := ⟨b_ HB⟩
            (try clear BK130)
            (try clear BK132)
            (try clear HB)
            generalize (((w20.setCell ⟨gb132, 0, none⟩ (.int .i64 ((rd_T39 l0_1 x8_1).f0))).setCell ⟨gb132, 1, none⟩ (.string ((rd_T39 l0_1 x8_1).f1))).setCell ⟨gb132, 2, none⟩ (.bool ((rd_T39 l0_1 x8_1).f2))) = w23 at n0_ n1_ n2_ ⊢
            have BK130 := n0_
            have BK132 := n1_
            have HB := n2_
            clear n0_ n1_ n2_
            replace BK130 := mk0 (bD_ BK130.out)
            replace BK132 := mk0 (bD_ BK132.out)
            replace HB := mk0 (b1_ HB.out)
            have p134 : 0 ≤ ((ji10) : Int) := of_decide_eq_true (by first | (with_reducible assumption) | assumption)
            have q134 : (ji10) < (l0_1.length : Int) := of_decide_eq_true (by first | (with_reducible assumption) | assumption)
            obtain ⟨ad134, e134, hx134_0, hx134_1, hx134_2⟩ := at_T39 HR0_1.out (ji10) p134 q134
            have hw134_2 := hx134_2
            have hw134_1 := hx134_1
            have hw134_0 := hx134_0
            obtain rfl : ad131 = ad134 := (by injection e134)
            replace hx134_0 := bc_ HB hx134_0
            replace hx134_1 := bc_ HB hx134_1
            replace hx134_2 := bc_ HB hx134_2
            replace p134 := eq_true p134
            replace q134 := eq_true q134
            refine start_ (n := 19) (S := fun w' => w'.cell? ⟨gb132, 0, none⟩ = some (.int .i64 ((rd_T39 l0_1 x8_1).f0)) ∧ w'.cell? ⟨gb132, 1, none⟩ = some (.string ((rd_T39 l0_1 x8_1).f1)) ∧ w'.cell? ⟨gb132, 2, none⟩ = some (.bool ((rd_T39 l0_1 x8_1).f2)) ∧ w'.cell? ⟨gb130, 0, none⟩ = some (.string a0_0) ∧ w'.cell? ⟨gb130, 1, none⟩ = some (.slice (some ad131) l0_1.length c0_1) ∧ w'.cell? (ad131.add (((ji10)).toNat * 3)) = some (.int .i64 ((rd_T39 l0_1 (ji10)).f0)) ∧ w'.cell? ⟨(ad131.add (((ji10)).toNat * 3)).block, (ad131.add (((ji10)).toNat * 3)).off + 1, none⟩ = some (.string ((rd_T39 l0_1 (ji10)).f1)) ∧ w'.cell? ⟨(ad131.add (((ji10)).toNat * 3)).block, (ad131.add (((ji10)).toNat * 3)).off + 2, none⟩ = some (.bool ((rd_T39 l0_1 (ji10)).f2))) (ds := []) (bt 19 0) (by kernel_rfl) rfl rfl ⟨bk_ BK132 0, bk_ BK132 1, bk_ BK132 2, bk_ BK130 0, bk_ BK130 1, (bc_ HB hw134_0), (bc_ HB hw134_1), (bc_ HB hw134_2)⟩ (fun hHeld => ?_); refine with_tabW chain_May.tab4 chain_May.bits4 (fun HT_ HW_ => ?_)
            generalize w23.drew = w24 at BK130 BK132 HB hx134_0 hx134_1 hx134_2 hHeld ⊢
            refine tq8_ HT_.out HW_.out 0 13 (bt 19 1) hHeld (h := ?_)
            refine one_ (i := 1) (N := some 14) (bt 19 3) rfl rfl (one_of HT_.out (by kernel_rfl)) (by decide) (fun K hK => ?_)
            refine goes_ Try.func118 (by kernel_rfl) rfl #[.agg #[.int .i64 ((rd_T39 l0_1 x8_1).f0), .string ((rd_T39 l0_1 x8_1).f1), .bool ((rd_T39 l0_1 x8_1).f2)]] (by rfl) rfl rfl (by (try simp only [List.map_toArray, List.map_cons, List.map_nil]); first | done | rfl | (simp only [List.length_drop, List.length_take]; rfl)) ?_
            with_reducible refine (chain_version.calls ((rd_T39 l0_1 x8_1).f0) ((rd_T39 l0_1 x8_1).f1) ((rd_T39 l0_1 x8_1).f2) true _ A7.out).mono ?_
            rintro e w25 ⟨rfl, hb⟩
            refine ⟨_, rfl, ?_⟩
            replace BK130 := mk0 (u_ BK130 hb)
            replace BK132 := mk0 (u_ BK132 hb)
            replace HB := mk0 (bt_ (b_ HB) hb)
            (try clear hb)
            (try clear hb2)
            (try clear hk)
            (try clear hi)
            refine hK.out _ _ ⟨bk_ BK132 0, bk_ BK132 1, bk_ BK132 2, bk_ BK130 0, bk_ BK130 1, (bc_ HB hw134_0), (bc_ HB hw134_1), (bc_ HB hw134_2)⟩ (fun hHeld => ?_)
            clear hK K
            refine norm_ (a' := ?_) ?_ ?_
            rotate_left
            ·show Act.put _ (some 14) _ = _
             simp only [z_]
             rfl
            refine pq_ HT_.out 2 15 (bt 19 7) (h := ?_)
            refine pq_ HT_.out 3 16 (bt 19 15) (h := ?_)
            refine pq_ HT_.out 4 17 (bt 19 31) (h := ?_)
            refine pq_ HT_.out 5 18 (bt 19 63) (h := ?_)
            refine pq_ HT_.out 6 19 (bt 19 127) (h := ?_)
            refine pq_ HT_.out 7 20 (bt 19 255) (h := ?_)
            refine pq_ HT_.out 9 22 (bt 19 767) (h := ?_)
            refine pq_ HT_.out 11 24 (bt 19 2815) (h := ?_)
            refine pq_ HT_.out 12 25 (bt 19 6911) (h := ?_)
            refine tq8_ HT_.out HW_.out 8 21 (bt 19 7167) hHeld (h := ?_)
            refine tq8_ HT_.out HW_.out 10 23 (bt 19 8191) hHeld (h := ?_)
            refine pq_ HT_.out 13 26 (bt 19 16383) (h := ?_)
            refine pq_ HT_.out 14 27 (bt 19 32767) (h := ?_)
            refine tq8_ HT_.out HW_.out 15 28 (bt 19 65535) hHeld (h := ?_)
            refine pq_ HT_.out 16 29 (bt 19 131071) (h := ?_)
            refine pq_ HT_.out 17 30 (bt 19 262143) (h := ?_)
            refine pq_ HT_.out 18 31 (bt 19 524287) (h := ?_)
            refine done_ (done_of HT_.out (by kernel_rfl)) ?_
            try go_wp2
            go_roundg k1
            case measure => have := HK1.out; omega
            case rel => exact ⟨(wrap64 (x8_1 + 1)), (by first | rfl | (simp; done) | (simp [*]; done)), H', ⟨by have := HK1.out; omega⟩, ⟨h_ BK130⟩, ⟨b_ HB⟩⟩
          ·rw [if_neg c12] at H
           exact absurd H (by simp)
         ·rw [if_neg c11] at H
          exact absurd H (by simp)
        ·rw [if_neg c9] at H
         have c9b0 : decide (0 < x8_1) = false := decide_eq_false c9
         clear c9
         have H' := mk0 H
         clear H
         have p131 : 0 ≤ (x8_1 : Int) := of_decide_eq_true (by first | (with_reducible assumption) | assumption)
         have q131 : x8_1 < (l0_1.length : Int) := of_decide_eq_true (by first | (with_reducible assumption) | assumption)
         obtain ⟨ad131, e131, hx131_0, hx131_1, hx131_2⟩ := at_T39 HR0_1.out x8_1 p131 q131
         cases e131
         replace hx131_0 := bc_ HB hx131_0
         replace hx131_1 := bc_ HB hx131_1
         replace hx131_2 := bc_ HB hx131_2
         replace p131 := eq_true p131
         replace q131 := eq_true q131
         try go_wp2_with (first | ((with_reducible refine gate_dst (N := 4) rfl ?_); (try (refine gate_guard (by rfl) ?_; dsimp only)); refine bx_ (N := 4) (cs := #[.int .i64 0, .string (⟨#[]⟩ : ByteArray), .bool false]) (t := 39) (h := ?_); intro gb132 hg w26 hbox hb; have n3_ := mk0 (gz_ HB hg); have n4_ := mk0 (gz_ HB hg); have n5_ := mk0 (ne1_ BK130 hg); have n6_ := mk0 (ne2_ BK130 hg); replace BK130 := mk0 (u_ BK130 hb); replace HB := mk0 (bt_ (b_ HB) hb); have BK132 := mk0 (hbox); have GW132 := n3_; have GE132 := n4_; have NB130_132 := n5_; have NB132_130 := n6_; clear n3_ n4_ n5_ n6_ hb hbox hg; have hnb27 := NB132_130.out; have hnc27 := NB130_132.out; obtain ⟨hcz28_0, hcz28_1, hcz28_2, hfz28_0, hfz28_1, hfz28_2⟩ := c3_ BK132))
         have n0_ : Fc ((((w26.setCell ⟨gb132, 0, none⟩ (.int .i64 ((rd_T39 l0_1 x8_1).f0))).setCell ⟨gb132, 1, none⟩ (.string ((rd_T39 l0_1 x8_1).f1))).setCell ⟨gb132, 2, none⟩ (.bool ((rd_T39 l0_1 x8_1).f2))).heap[gb130]? = some (.cells #[.string a0_0, .slice (some ad131) l0_1.length c0_1] 30 (0, 0))) := ⟨(fa_ (fa_ (fa_ (h_ BK130) NB130_132.out) NB130_132.out) NB130_132.out)⟩
         have n1_ : Fc ((((w26.setCell ⟨gb132, 0, none⟩ (.int .i64 ((rd_T39 l0_1 x8_1).f0))).setCell ⟨gb132, 1, none⟩ (.string ((rd_T39 l0_1 x8_1).f1))).setCell ⟨gb132, 2, none⟩ (.bool ((rd_T39 l0_1 x8_1).f2))).heap[gb132]? = some (.cells #[.int .i64 ((rd_T39 l0_1 x8_1).f0), .string ((rd_T39 l0_1 x8_1).f1), .bool ((rd_T39 l0_1 x8_1).f2)] 39 (0, 0))) := ⟨(pu_ (cs := #[.int .i64 ((rd_T39 l0_1 x8_1).f0), .string ((rd_T39 l0_1 x8_1).f1), .bool false]) (pu_ (cs := #[.int .i64 ((rd_T39 l0_1 x8_1).f0), .string (⟨#[]⟩ : ByteArray), .bool false]) (pu_ (cs := #[.int .i64 0, .string (⟨#[]⟩ : ByteArray), .bool false]) (h_ BK132))))⟩
         have n2_ : Fc (Below w.heap.size w (((w26.setCell ⟨gb132, 0, none⟩ (.int .i64 ((rd_T39 l0_1 x8_1).f0))).setCell ⟨gb132, 1, none⟩ (.string ((rd_T39 l0_1 x8_1).f1))).setCell ⟨gb132, 2, none⟩ (.bool ((rd_T39 l0_1 x8_1).f2)))) := ⟨b_ HB⟩
         (try clear BK130)
         (try clear BK132)
         (try clear HB)
         generalize (((w26.setCell ⟨gb132, 0, none⟩ (.int .i64 ((rd_T39 l0_1 x8_1).f0))).setCell ⟨gb132, 1, none⟩ (.string ((rd_T39 l0_1 x8_1).f1))).setCell ⟨gb132, 2, none⟩ (.bool ((rd_T39 l0_1 x8_1).f2))) = w29 at n0_ n1_ n2_ ⊢
         have BK130 := n0_
         have BK132 := n1_
         have HB := n2_
         clear n0_ n1_ n2_
         replace BK130 := mk0 (bD_ BK130.out)
         replace BK132 := mk0 (bD_ BK132.out)
         replace HB := mk0 (b1_ HB.out)
         refine start_ (n := 19) (S := fun w' => w'.cell? ⟨gb132, 0, none⟩ = some (.int .i64 ((rd_T39 l0_1 x8_1).f0)) ∧ w'.cell? ⟨gb132, 1, none⟩ = some (.string ((rd_T39 l0_1 x8_1).f1)) ∧ w'.cell? ⟨gb132, 2, none⟩ = some (.bool ((rd_T39 l0_1 x8_1).f2))) (ds := []) (bt 19 0) (by kernel_rfl) rfl rfl ⟨bk_ BK132 0, bk_ BK132 1, bk_ BK132 2⟩ (fun hHeld => ?_); refine with_tabW chain_May.tab4 chain_May.bits4 (fun HT_ HW_ => ?_)
         generalize w29.drew = w30 at BK130 BK132 HB hHeld ⊢
         refine tq3_ HT_.out HW_.out 0 13 (bt 19 1) hHeld (h := ?_)
         refine one_ (i := 1) (N := some 14) (bt 19 3) rfl rfl (one_of HT_.out (by kernel_rfl)) (by decide) (fun K hK => ?_)
         refine goes_ Try.func118 (by kernel_rfl) rfl #[.agg #[.int .i64 ((rd_T39 l0_1 x8_1).f0), .string ((rd_T39 l0_1 x8_1).f1), .bool ((rd_T39 l0_1 x8_1).f2)]] (by rfl) rfl rfl (by (try simp only [List.map_toArray, List.map_cons, List.map_nil]); first | done | rfl | (simp only [List.length_drop, List.length_take]; rfl)) ?_
         with_reducible refine (chain_version.calls ((rd_T39 l0_1 x8_1).f0) ((rd_T39 l0_1 x8_1).f1) ((rd_T39 l0_1 x8_1).f2) true _ A7.out).mono ?_
         rintro e w31 ⟨rfl, hb⟩
         refine ⟨_, rfl, ?_⟩
         replace BK130 := mk0 (u_ BK130 hb)
         replace BK132 := mk0 (u_ BK132 hb)
         replace HB := mk0 (bt_ (b_ HB) hb)
         (try clear hb)
         (try clear hb2)
         (try clear hk)
         (try clear hi)
         refine hK.out _ _ ⟨bk_ BK132 0, bk_ BK132 1, bk_ BK132 2⟩ (fun hHeld => ?_)
         clear hK K
         refine norm_ (a' := ?_) ?_ ?_
         rotate_left
         ·show Act.put _ (some 14) _ = _
          simp only [z_]
          rfl
         refine pq_ HT_.out 2 15 (bt 19 7) (h := ?_)
         refine pq_ HT_.out 3 16 (bt 19 15) (h := ?_)
         refine pq_ HT_.out 4 17 (bt 19 31) (h := ?_)
         refine pq_ HT_.out 5 18 (bt 19 63) (h := ?_)
         refine pq_ HT_.out 6 19 (bt 19 127) (h := ?_)
         refine uq_ HT_.out 7 20 (bt 19 255) (h := ?_)
         refine uq_ HT_.out 8 21 (bt 19 511) (h := ?_)
         refine uq_ HT_.out 9 22 (bt 19 1023) (h := ?_)
         refine uq_ HT_.out 10 23 (bt 19 2047) (h := ?_)
         refine uq_ HT_.out 11 24 (bt 19 4095) (h := ?_)
         refine uq_ HT_.out 12 25 (bt 19 8191) (h := ?_)
         refine uq_ HT_.out 13 26 (bt 19 16383) (h := ?_)
         refine uq_ HT_.out 14 27 (bt 19 32767) (h := ?_)
         refine uq_ HT_.out 15 28 (bt 19 65535) (h := ?_)
         refine uq_ HT_.out 16 29 (bt 19 131071) (h := ?_)
         refine pq_ HT_.out 17 30 (bt 19 262143) (h := ?_)
         refine pq_ HT_.out 18 31 (bt 19 524287) (h := ?_)
         refine done_ (done_of HT_.out (by kernel_rfl)) ?_
         try go_wp2
         go_roundg k1
         case measure => have := HK1.out; omega
         case rel => exact ⟨(wrap64 (x8_1 + 1)), (by first | rfl | (simp; done) | (simp [*]; done)), H', ⟨by have := HK1.out; omega⟩, ⟨h_ BK130⟩, ⟨b_ HB⟩⟩
       ·replace c8 := Bool.eq_false_iff.mpr c8
        subst c8
        rw [if_neg (show ¬ (false = true) by decide)] at H
        obtain rfl := Option.some.inj H
        have p131 : 0 ≤ (x8_1 : Int) := of_decide_eq_true (by first | (with_reducible assumption) | assumption)
        have q131 : x8_1 < (l0_1.length : Int) := of_decide_eq_true (by first | (with_reducible assumption) | assumption)
        obtain ⟨ad131, e131, hx131_0, hx131_1, hx131_2⟩ := at_T39 HR0_1.out x8_1 p131 q131
        cases e131
        replace hx131_0 := bc_ HB hx131_0
        replace hx131_1 := bc_ HB hx131_1
        replace hx131_2 := bc_ HB hx131_2
        replace p131 := eq_true p131
        replace q131 := eq_true q131
        try go_wp2_with (first | ((with_reducible refine gate_dst (N := 4) rfl ?_); (try (refine gate_guard (by rfl) ?_; dsimp only)); refine bx_ (N := 4) (cs := #[.int .i64 0, .string (⟨#[]⟩ : ByteArray), .bool false]) (t := 39) (h := ?_); intro gb132 hg w32 hbox hb; have n3_ := mk0 (gz_ HB hg); have n4_ := mk0 (gz_ HB hg); have n5_ := mk0 (ne1_ BK130 hg); have n6_ := mk0 (ne2_ BK130 hg); replace BK130 := mk0 (u_ BK130 hb); replace HB := mk0 (bt_ (b_ HB) hb); have BK132 := mk0 (hbox); have GW132 := n3_; have GE132 := n4_; have NB130_132 := n5_; have NB132_130 := n6_; clear n3_ n4_ n5_ n6_ hb hbox hg; have hnb33 := NB132_130.out; have hnc33 := NB130_132.out; obtain ⟨hcz34_0, hcz34_1, hcz34_2, hfz34_0, hfz34_1, hfz34_2⟩ := c3_ BK132))
        have n0_ : Fc ((((w32.setCell ⟨gb132, 0, none⟩ (.int .i64 ((rd_T39 l0_1 x8_1).f0))).setCell ⟨gb132, 1, none⟩ (.string ((rd_T39 l0_1 x8_1).f1))).setCell ⟨gb132, 2, none⟩ (.bool ((rd_T39 l0_1 x8_1).f2))).heap[gb130]? = some (.cells #[.string a0_0, .slice (some ad131) l0_1.length c0_1] 30 (0, 0))) := ⟨(fa_ (fa_ (fa_ (h_ BK130) NB130_132.out) NB130_132.out) NB130_132.out)⟩
        have n1_ : Fc ((((w32.setCell ⟨gb132, 0, none⟩ (.int .i64 ((rd_T39 l0_1 x8_1).f0))).setCell ⟨gb132, 1, none⟩ (.string ((rd_T39 l0_1 x8_1).f1))).setCell ⟨gb132, 2, none⟩ (.bool ((rd_T39 l0_1 x8_1).f2))).heap[gb132]? = some (.cells #[.int .i64 ((rd_T39 l0_1 x8_1).f0), .string ((rd_T39 l0_1 x8_1).f1), .bool ((rd_T39 l0_1 x8_1).f2)] 39 (0, 0))) := ⟨(pu_ (cs := #[.int .i64 ((rd_T39 l0_1 x8_1).f0), .string ((rd_T39 l0_1 x8_1).f1), .bool false]) (pu_ (cs := #[.int .i64 ((rd_T39 l0_1 x8_1).f0), .string (⟨#[]⟩ : ByteArray), .bool false]) (pu_ (cs := #[.int .i64 0, .string (⟨#[]⟩ : ByteArray), .bool false]) (h_ BK132))))⟩
        have n2_ : Fc (Below w.heap.size w (((w32.setCell ⟨gb132, 0, none⟩ (.int .i64 ((rd_T39 l0_1 x8_1).f0))).setCell ⟨gb132, 1, none⟩ (.string ((rd_T39 l0_1 x8_1).f1))).setCell ⟨gb132, 2, none⟩ (.bool ((rd_T39 l0_1 x8_1).f2)))) := ⟨b_ HB⟩
        (try clear BK130)
        (try clear BK132)
        (try clear HB)
        generalize (((w32.setCell ⟨gb132, 0, none⟩ (.int .i64 ((rd_T39 l0_1 x8_1).f0))).setCell ⟨gb132, 1, none⟩ (.string ((rd_T39 l0_1 x8_1).f1))).setCell ⟨gb132, 2, none⟩ (.bool ((rd_T39 l0_1 x8_1).f2))) = w35 at n0_ n1_ n2_ ⊢
        have BK130 := n0_
        have BK132 := n1_
        have HB := n2_
        clear n0_ n1_ n2_
        replace BK130 := mk0 (bD_ BK130.out)
        replace BK132 := mk0 (bD_ BK132.out)
        replace HB := mk0 (b1_ HB.out)
        refine start_ (n := 19) (S := fun w' => w'.cell? ⟨gb132, 0, none⟩ = some (.int .i64 ((rd_T39 l0_1 x8_1).f0)) ∧ w'.cell? ⟨gb132, 1, none⟩ = some (.string ((rd_T39 l0_1 x8_1).f1)) ∧ w'.cell? ⟨gb132, 2, none⟩ = some (.bool ((rd_T39 l0_1 x8_1).f2))) (ds := []) (bt 19 0) (by kernel_rfl) rfl rfl ⟨bk_ BK132 0, bk_ BK132 1, bk_ BK132 2⟩ (fun hHeld => ?_); refine with_tabW chain_May.tab4 chain_May.bits4 (fun HT_ HW_ => ?_)
        generalize w35.drew = w36 at BK130 BK132 HB hHeld ⊢
        refine tq3_ HT_.out HW_.out 0 13 (bt 19 1) hHeld (h := ?_)
        refine one_ (i := 1) (N := some 14) (bt 19 3) rfl rfl (one_of HT_.out (by kernel_rfl)) (by decide) (fun K hK => ?_)
        refine goes_ Try.func118 (by kernel_rfl) rfl #[.agg #[.int .i64 ((rd_T39 l0_1 x8_1).f0), .string ((rd_T39 l0_1 x8_1).f1), .bool ((rd_T39 l0_1 x8_1).f2)]] (by rfl) rfl rfl (by (try simp only [List.map_toArray, List.map_cons, List.map_nil]); first | done | rfl | (simp only [List.length_drop, List.length_take]; rfl)) ?_
        with_reducible refine (chain_version.calls ((rd_T39 l0_1 x8_1).f0) ((rd_T39 l0_1 x8_1).f1) ((rd_T39 l0_1 x8_1).f2) false _ A7.out).mono ?_
        rintro e w37 ⟨rfl, hb⟩
        refine ⟨_, rfl, ?_⟩
        replace BK130 := mk0 (u_ BK130 hb)
        replace BK132 := mk0 (u_ BK132 hb)
        replace HB := mk0 (bt_ (b_ HB) hb)
        (try clear hb)
        (try clear hb2)
        (try clear hk)
        (try clear hi)
        refine hK.out _ _ ⟨bk_ BK132 0, bk_ BK132 1, bk_ BK132 2⟩ (fun hHeld => ?_)
        clear hK K
        refine norm_ (a' := ?_) ?_ ?_
        rotate_left
        ·show Act.put _ (some 14) _ = _
         simp only [z_]
         rfl
        refine pq_ HT_.out 2 15 (bt 19 7) (h := ?_)
        refine pq_ HT_.out 3 16 (bt 19 15) (h := ?_)
        refine uq_ HT_.out 4 17 (bt 19 31) (h := ?_)
        refine uq_ HT_.out 5 18 (bt 19 63) (h := ?_)
        refine uq_ HT_.out 6 19 (bt 19 127) (h := ?_)
        refine uq_ HT_.out 7 20 (bt 19 255) (h := ?_)
        refine uq_ HT_.out 8 21 (bt 19 511) (h := ?_)
        refine uq_ HT_.out 9 22 (bt 19 1023) (h := ?_)
        refine uq_ HT_.out 10 23 (bt 19 2047) (h := ?_)
        refine uq_ HT_.out 11 24 (bt 19 4095) (h := ?_)
        refine uq_ HT_.out 12 25 (bt 19 8191) (h := ?_)
        refine uq_ HT_.out 13 26 (bt 19 16383) (h := ?_)
        refine uq_ HT_.out 14 27 (bt 19 32767) (h := ?_)
        refine uq_ HT_.out 15 28 (bt 19 65535) (h := ?_)
        refine uq_ HT_.out 16 29 (bt 19 131071) (h := ?_)
        refine uq_ HT_.out 17 30 (bt 19 262143) (h := ?_)
        refine pq_ HT_.out 18 31 (bt 19 524287) (h := ?_)
        refine done_ (done_of HT_.out (by kernel_rfl)) ?_
        try go_wp2
        go_ret
        exact ⟨by first | rfl | (simp [errW_none, errW_some] <;> rfl) | (simp [*, errW_none, errW_some] <;> rfl), b_ HB⟩
      ·rw [if_neg c6] at H
       exact absurd H (by simp)
     ·rw [if_neg c5] at H
      exact absurd H (by simp)
    ·rw [if_neg c4] at H
     have c4b0 : decide (x8_1 < (l0_1.length : Int)) = false := decide_eq_false c4
     clear c4
     replace H := Option.bind_eq_some_iff.mp H
     obtain ⟨t135, A380, H⟩ := H
     try dsimp only at H
     have A38 := mk0 A380
     clear A380
     by_cases c39 : t135 = true
     ·subst c39
      rw [if_pos rfl] at H
      obtain rfl := Option.some.inj H
      obtain ⟨hcz40_0, hcz40_1, hfz40_0, hfz40_1⟩ := c2_ BK130
      go_wp2_with (first | ((with_reducible refine gate_callee (f := 119) rfl ?_); refine gL_ (some 35) Try.func119 #[.string a0_0] (h := ?_); (with_reducible refine (key_Is.calls a0_0 true _ A38.out).mono ?_); rintro e w' ⟨rfl, ⟨nd, rfl⟩⟩; refine ⟨_, rfl, ?_⟩))
      go_ret
      exact ⟨by first | rfl | (simp [errW_none, errW_some] <;> rfl) | (simp [*, errW_none, errW_some] <;> rfl), b_ HB⟩
     ·replace c39 := Bool.eq_false_iff.mpr c39
      subst c39
      rw [if_neg (show ¬ (false = true) by decide)] at H
      obtain rfl := Option.some.inj H
      obtain ⟨hcz41_0, hcz41_1, hfz41_0, hfz41_1⟩ := c2_ BK130
      go_wp2_with (first | ((with_reducible refine gate_callee (f := 119) rfl ?_); refine gL_ (some 35) Try.func119 #[.string a0_0] (h := ?_); (with_reducible refine (key_Is.calls a0_0 false _ A38.out).mono ?_); rintro e w' ⟨rfl, ⟨nd, rfl⟩⟩; refine ⟨_, rfl, ?_⟩))
      go_ret
      exact ⟨by first | rfl | (simp [errW_none, errW_some] <;> rfl) | (simp [*, errW_none, errW_some] <;> rfl), b_ HB⟩

/-! ### chain_Count: function 18 -/
def chain_Count.f (k : Nat) (a0_0 : ByteArray) (l0_1 : List (S39)) : Option (Int × Int) := (chain_May.f k a0_0 l0_1).bind fun t137 => (if t137 = true then (some ((l0_1.length : Int), 0)) else (some (0, 1)))
theorem chain_Count.mono : ∀ a0 a1 k, LeO (chain_Count.f k a0 a1) (chain_Count.f (k + 1) a0 a1) := by
 intro a0 a1 k
 unfold chain_Count.f
 repeat' first
   | (with_reducible exact chain_May.mono _ _ _)
   | (with_reducible exact LeO.refl _)
   | (with_reducible exact LeO.none _)
   | (with_reducible refine LeO.ite ?_ ?_)
   | (with_reducible refine LeO.bind ?_ (fun _ => ?_))
   | exact chain_May.mono _ _ _
   | exact LeO.none _
   | refine LeO.ite ?_ ?_
   | refine LeO.bind ?_ (fun _ => ?_)
set_option maxHeartbeats 8000000 in
set_option maxRecDepth 100000 in
theorem chain_Count.calls (k : Nat) (a0_0 : ByteArray) (A0_1 : Option Addr) (c0_1 : Nat) (l0_1 : List (S39)) (r1 : Int) (r2 : Int) (w : World) (hr0_1 : Kd.C k39 w A0_1 l0_1.length l0_1) (hc0_1 : l0_1.length ≤ c0_1) (h : chain_Count.f k a0_0 l0_1 = some (r1, r2)) :
  Calls Try.prog 18 #[.agg #[.string a0_0, .slice A0_1 l0_1.length c0_1]] w fun e w' => e = .returned (.tuple #[.int .i64 r1, .int .i64 r2]) ∧ Below w.heap.size w w' := by
 have hu30 := Try.underlying30
 have HR0_1 := mk0 hr0_1
 have HC0_1 := mk0 hc0_1
 clear hr0_1 hc0_1
 have HB := mk0 (Below.refl w.heap.size w)
 have H : ((chain_May.f k a0_0 l0_1).bind fun t137 => (if t137 = true then (some ((l0_1.length : Int), 0)) else (some (0, 1)))) = some (r1, r2) := h
 clear h
 replace H := Option.bind_eq_some_iff.mp H
 obtain ⟨t137, A20, H⟩ := H
 try dsimp only at H
 have A2 := mk0 A20
 clear A20
 by_cases c3 : t137 = true
 ·subst c3
  rw [if_pos rfl] at H
  simp only [Option.some.injEq, Prod.mk.injEq] at H
  obtain ⟨rfl, rfl⟩ := H
  go_enter Try.func18, Try.ntmps18
  go_wp2_with (first | ((with_reducible refine gate_dst (N := 1) rfl ?_); refine bx_ (N := 1) (cs := #[.string a0_0, .slice A0_1 l0_1.length c0_1]) (t := 30) (h := ?_); intro gb136 hg w4 hbox hb; have n2_ := mk0 (gz_ HB hg); have n3_ := mk0 (gz_ HB hg); replace HB := mk0 (bt_ (b_ HB) hb); have BK136 := mk0 (hbox); have GW136 := n2_; have GE136 := n3_; clear n2_ n3_ hb hbox hg; obtain ⟨hcz5_0, hcz5_1, hfz5_0, hfz5_1⟩ := c2_ BK136) | ((with_reducible refine gate_callee (f := 61) rfl ?_); refine gL_ (some 5) Try.func61 #[.agg #[.string a0_0, .slice A0_1 l0_1.length c0_1]] (h := ?_); (with_reducible refine (chain_May.calls k a0_0 _ _ l0_1 true _ ?side1 ?side2 A2.out).mono ?_); (case side1 => exact cb_ HR0_1 HB); (case side2 => exact HC0_1.out); rintro e w6 ⟨rfl, hb⟩; refine ⟨_, rfl, ?_⟩; replace BK136 := mk0 (u_ BK136 hb); replace HB := mk0 (bt_ (b_ HB) hb); (try clear hb); obtain ⟨hcz7_0, hcz7_1, hfz7_0, hfz7_1⟩ := c2_ BK136))
  go_ret2
  exact ⟨by first | rfl | (simp [errW_none, errW_some] <;> rfl) | (simp [*, errW_none, errW_some] <;> rfl), b_ HB⟩
 ·replace c3 := Bool.eq_false_iff.mpr c3
  subst c3
  rw [if_neg (show ¬ (false = true) by decide)] at H
  simp only [Option.some.injEq, Prod.mk.injEq] at H
  obtain ⟨rfl, rfl⟩ := H
  go_enter Try.func18, Try.ntmps18
  go_wp2_with (first | ((with_reducible refine gate_dst (N := 1) rfl ?_); refine bx_ (N := 1) (cs := #[.string a0_0, .slice A0_1 l0_1.length c0_1]) (t := 30) (h := ?_); intro gb136 hg w8 hbox hb; have n2_ := mk0 (gz_ HB hg); have n3_ := mk0 (gz_ HB hg); replace HB := mk0 (bt_ (b_ HB) hb); have BK136 := mk0 (hbox); have GW136 := n2_; have GE136 := n3_; clear n2_ n3_ hb hbox hg; obtain ⟨hcz9_0, hcz9_1, hfz9_0, hfz9_1⟩ := c2_ BK136) | ((with_reducible refine gate_callee (f := 61) rfl ?_); refine gL_ (some 5) Try.func61 #[.agg #[.string a0_0, .slice A0_1 l0_1.length c0_1]] (h := ?_); (with_reducible refine (chain_May.calls k a0_0 _ _ l0_1 false _ ?side1 ?side2 A2.out).mono ?_); (case side1 => exact cb_ HR0_1 HB); (case side2 => exact HC0_1.out); rintro e w10 ⟨rfl, hb⟩; refine ⟨_, rfl, ?_⟩; replace BK136 := mk0 (u_ BK136 hb); replace HB := mk0 (bt_ (b_ HB) hb); (try clear hb)))
  go_ret2
  exact ⟨by first | rfl | (simp [errW_none, errW_some] <;> rfl) | (simp [*, errW_none, errW_some] <;> rfl), b_ HB⟩

/-! ### quorumlaw8_num: function 19 -/
def quorumlaw8_num.f (a0 : Int) : Option (Int) := some a0
set_option maxHeartbeats 8000000 in
set_option maxRecDepth 100000 in
theorem quorumlaw8_num.calls (a0 : Int) (r : Int) (w : World) (h : quorumlaw8_num.f a0 = some r) :
  Calls Try.prog 19 #[.int .i64 a0] w fun e w' => e = .returned (.int .i64 r) ∧ Drawn0 w w' := by
 have H : (some a0) = some r := h
 clear h
 obtain rfl := Option.some.inj H
 go_enter Try.func19, Try.ntmps19
 go_wp2
 go_ret
 exact ⟨by first | rfl | (simp; done) | (simp [*]; done), by repeat (first | exact Drawn0.refl _ | apply Drawn0.step)⟩

/-! ### chain_Check: function 20 -/
def chain_Check.f (k : Nat) (a0_0 : ByteArray) (l0_1 : List (S39)) : Option (Int) := (chain_May.f k a0_0 l0_1).bind fun t139 => (if t139 = true then (some 0) else (some 1))
theorem chain_Check.mono : ∀ a0 a1 k, LeO (chain_Check.f k a0 a1) (chain_Check.f (k + 1) a0 a1) := by
 intro a0 a1 k
 unfold chain_Check.f
 repeat' first
   | (with_reducible exact chain_May.mono _ _ _)
   | (with_reducible exact LeO.refl _)
   | (with_reducible exact LeO.none _)
   | (with_reducible refine LeO.ite ?_ ?_)
   | (with_reducible refine LeO.bind ?_ (fun _ => ?_))
   | exact chain_May.mono _ _ _
   | exact LeO.none _
   | refine LeO.ite ?_ ?_
   | refine LeO.bind ?_ (fun _ => ?_)
set_option maxHeartbeats 8000000 in
set_option maxRecDepth 100000 in
theorem chain_Check.calls (k : Nat) (a0_0 : ByteArray) (A0_1 : Option Addr) (c0_1 : Nat) (l0_1 : List (S39)) (r : Int) (w : World) (hr0_1 : Kd.C k39 w A0_1 l0_1.length l0_1) (hc0_1 : l0_1.length ≤ c0_1) (h : chain_Check.f k a0_0 l0_1 = some r) :
  Calls Try.prog 20 #[.agg #[.string a0_0, .slice A0_1 l0_1.length c0_1]] w fun e w' => e = .returned (.int .i64 r) ∧ Below w.heap.size w w' := by
 have hu30 := Try.underlying30
 have HR0_1 := mk0 hr0_1
 have HC0_1 := mk0 hc0_1
 clear hr0_1 hc0_1
 have HB := mk0 (Below.refl w.heap.size w)
 have H : ((chain_May.f k a0_0 l0_1).bind fun t139 => (if t139 = true then (some 0) else (some 1))) = some r := h
 clear h
 replace H := Option.bind_eq_some_iff.mp H
 obtain ⟨t139, A20, H⟩ := H
 try dsimp only at H
 have A2 := mk0 A20
 clear A20
 by_cases c3 : t139 = true
 ·subst c3
  rw [if_pos rfl] at H
  obtain rfl := Option.some.inj H
  go_enter Try.func20, Try.ntmps20
  go_wp2_with (first | ((with_reducible refine gate_dst (N := 1) rfl ?_); refine bx_ (N := 1) (cs := #[.string a0_0, .slice A0_1 l0_1.length c0_1]) (t := 30) (h := ?_); intro gb138 hg w4 hbox hb; have n2_ := mk0 (gz_ HB hg); have n3_ := mk0 (gz_ HB hg); replace HB := mk0 (bt_ (b_ HB) hb); have BK138 := mk0 (hbox); have GW138 := n2_; have GE138 := n3_; clear n2_ n3_ hb hbox hg; obtain ⟨hcz5_0, hcz5_1, hfz5_0, hfz5_1⟩ := c2_ BK138) | ((with_reducible refine gate_callee (f := 61) rfl ?_); refine gL_ (some 4) Try.func61 #[.agg #[.string a0_0, .slice A0_1 l0_1.length c0_1]] (h := ?_); (with_reducible refine (chain_May.calls k a0_0 _ _ l0_1 true _ ?side1 ?side2 A2.out).mono ?_); (case side1 => exact cb_ HR0_1 HB); (case side2 => exact HC0_1.out); rintro e w6 ⟨rfl, hb⟩; refine ⟨_, rfl, ?_⟩; replace BK138 := mk0 (u_ BK138 hb); replace HB := mk0 (bt_ (b_ HB) hb); (try clear hb)))
  go_ret
  exact ⟨by first | rfl | (simp [errW_none, errW_some] <;> rfl) | (simp [*, errW_none, errW_some] <;> rfl), b_ HB⟩
 ·replace c3 := Bool.eq_false_iff.mpr c3
  subst c3
  rw [if_neg (show ¬ (false = true) by decide)] at H
  obtain rfl := Option.some.inj H
  go_enter Try.func20, Try.ntmps20
  go_wp2_with (first | ((with_reducible refine gate_dst (N := 1) rfl ?_); refine bx_ (N := 1) (cs := #[.string a0_0, .slice A0_1 l0_1.length c0_1]) (t := 30) (h := ?_); intro gb138 hg w7 hbox hb; have n2_ := mk0 (gz_ HB hg); have n3_ := mk0 (gz_ HB hg); replace HB := mk0 (bt_ (b_ HB) hb); have BK138 := mk0 (hbox); have GW138 := n2_; have GE138 := n3_; clear n2_ n3_ hb hbox hg; obtain ⟨hcz8_0, hcz8_1, hfz8_0, hfz8_1⟩ := c2_ BK138) | ((with_reducible refine gate_callee (f := 61) rfl ?_); refine gL_ (some 4) Try.func61 #[.agg #[.string a0_0, .slice A0_1 l0_1.length c0_1]] (h := ?_); (with_reducible refine (chain_May.calls k a0_0 _ _ l0_1 false _ ?side1 ?side2 A2.out).mono ?_); (case side1 => exact cb_ HR0_1 HB); (case side2 => exact HC0_1.out); rintro e w9 ⟨rfl, hb⟩; refine ⟨_, rfl, ?_⟩; replace BK138 := mk0 (u_ BK138 hb); replace HB := mk0 (bt_ (b_ HB) hb); (try clear hb)))
  go_ret
  exact ⟨by first | rfl | (simp [errW_none, errW_some] <;> rfl) | (simp [*, errW_none, errW_some] <;> rfl), b_ HB⟩

-- NOT PRINTED: function 157 (api_Version_157)

/-! ### chain_place: function 120 (by hand) -/
def idxRes_v {α : Type} (pred : α → Bool) (l : List α) : Int := if l.findIdx pred < l.length then (l.findIdx pred : Int) else -1
set_option maxHeartbeats 800000 in
set_option maxRecDepth 100000 in
theorem idx_v.calls_ (pred : S39 → Bool) (F : Nat) (cap : Value) (A0 : Option Addr) (c0 : Nat) (l0 : List S39) (w : World) (hr0 : Kd.C k39 w A0 l0.length l0) (hc0 : l0.length ≤ c0)
    (eg : ∀ args w, (callFunc F args).run Try.prog w = .ok (.enter F args) w)
    (HP : ∀ (x : S39) (W : World), Below w.heap.size w W → Calls Try.prog F #[.agg #[.int .i64 x.f0, .string x.f1, .bool x.f2], cap] W fun e W' => e = .returned (.bool (pred x)) ∧ Below w.heap.size w W') :
    Calls Try.prog 157 #[.slice A0 l0.length c0, .func (Fn.func F) #[] #[cap]] w fun e w' => e = .returned (.int .i64 (idxRes_v pred l0)) ∧ Below w.heap.size w w' := by
  have HR0 := Aside0.mk hr0
  have HC0 := Aside0.mk hc0
  have hlen := hr0.2.1
  clear hr0 hc0
  have HPA := Aside0.mk HP
  clear HP
  have HB := Aside0.mk (Below.refl w.heap.size w)
  go_enter Try.func157, Try.ntmps157
  go_wp2
  go_loopg [5, 8] l0.length (fun kq _ v8 w' => ∃ (i : Nat), v8 = .int .i64 i ∧ Aside0 (kq + i = l0.length) ∧ Aside0 (∀ j (h2 : j < l0.length) (h : j < i), pred (l0[j]) = false) ∧ Aside0 (Below w.heap.size w w'))
  case atStart => exact ⟨0, rfl, ⟨by omega⟩, ⟨fun j _ h => by omega⟩, HB⟩
  case round =>
    clear HB
    obtain ⟨i, rfl, HK, HN, HB⟩ := hrel
    by_cases hi : i < l0.length
    · have p200 : (0:Int) ≤ (i : Int) := by omega
      have q200 : (i:Int) < (l0.length : Int) := by omega
      obtain ⟨ad200, e200, hx200_0, hx200_1, hx200_2⟩ := at_T39 HR0.out (i:Int) p200 q200
      cases e200
      replace hx200_0 := (HB.out.cell (World.block_lt_of_cell? w _ hx200_0)).trans hx200_0
      replace hx200_1 := (HB.out.cell (World.block_lt_of_cell? w _ hx200_1)).trans hx200_1
      replace hx200_2 := (HB.out.cell (World.block_lt_of_cell? w _ hx200_2)).trans hx200_2
      simp only [Int.toNat_natCast] at hx200_0 hx200_1 hx200_2
      have hcall := HPA.out (rd_T39 l0 i) wr HB.out
      have hrd : rd_T39 l0 i = l0[i] := by simp [rd_T39, hi]
      have HRD := Aside0.mk hrd
      clear hrd
      cases hq : pred (rd_T39 l0 i) with
      | true =>
        rw [hq] at hcall
        have HQ := Aside0.mk hq
        clear hq
        go_wp2_with ((with_reducible refine hcall.mono ?_); rintro e w' ⟨rfl, hb'⟩)
        go_ret
        have e1 : l0.findIdx pred = i := (List.findIdx_eq hi).2 ⟨by rw [← HRD.out]; exact HQ.out, fun j hj => HN.out j (by omega) hj⟩
        exact ⟨by unfold idxRes_v; rw [e1, if_pos hi]; rfl, hb'⟩
      | false =>
        rw [hq] at hcall
        have HQ := Aside0.mk hq
        clear hq
        go_wp2_with ((with_reducible refine hcall.mono ?_); rintro e w' ⟨rfl, hb'⟩)
        go_roundg (gk - 1)
        case measure => have := HK.out; omega
        case rel =>
          refine ⟨i + 1, by go_num, ⟨by have := HK.out; omega⟩, ⟨fun j h2 h => ?_⟩, ⟨hb'⟩⟩
          rcases Nat.lt_or_ge j i with hj | hj
          · exact HN.out j h2 hj
          · obtain rfl : j = i := by omega
            rw [← HRD.out]; exact HQ.out
    · have hltz : ¬ (i : Int) < (l0.length : Int) := by omega
      go_wp2
      go_ret
      have hil : i = l0.length := by have := HK.out; omega
      have e1 : l0.findIdx pred = l0.length := List.findIdx_eq_length.2 (fun x hx => by
        obtain ⟨j, hj, rfl⟩ := List.mem_iff_getElem.1 hx
        exact HN.out j hj (by omega))
      exact ⟨by unfold idxRes_v; rw [e1, if_neg (Nat.lt_irrefl _)]; rfl, HB.out⟩
set_option maxHeartbeats 400000 in
theorem chain_place.clo (n : Int) (B : Nat) (w : World) (hB : B < w.heap.size) (hcell : w.cell? ⟨B, 0, none⟩ = some (.int .i64 n)) (x : S39) (W : World) (hb : Below w.heap.size w W) :
    Calls Try.prog 158 #[.agg #[.int .i64 x.f0, .string x.f1, .bool x.f2], .pointer (some ⟨B, 0, none⟩)] W fun e W' => e = .returned (.bool (decide (x.f0 ≤ n))) ∧ Below w.heap.size w W' := by
  have hc : W.cell? ⟨B, 0, none⟩ = some (.int .i64 n) := (hb.cell (p := ⟨B, 0, none⟩) hB).trans hcell
  have hBW : B < W.heap.size := Nat.lt_of_lt_of_le hB hb.size
  have hne : B ≠ W.heap.size := by omega
  go_enter Try.func158, Try.ntmps158
  go_wp2
  all_goals (go_ret; exact ⟨by simp_all, hb.alloc hb.size _⟩)

def chain_place.f (a0_0 : ByteArray) (l0_1 : List S39) (a1 : Int) : Option Int := some (l0_1.findIdx (fun v => decide (v.f0 ≤ a1)) : Int)
set_option maxHeartbeats 800000 in
set_option maxRecDepth 100000 in
theorem chain_place.calls (a0_0 : ByteArray) (A0_1 : Option Addr) (c0_1 : Nat) (l0_1 : List S39) (a1 : Int) (r : Int) (w : World) (hr0_1 : Kd.C k39 w A0_1 l0_1.length l0_1) (hc0_1 : l0_1.length ≤ c0_1) (h : chain_place.f a0_0 l0_1 a1 = some r) :
    Calls Try.prog 120 #[.agg #[.string a0_0, .slice A0_1 l0_1.length c0_1], .int .i64 a1] w fun e w' => e = .returned (.int .i64 r) ∧ Below w.heap.size w w' := by
  have hu31 := Try.underlying30
  have eg : ∀ args w, (callFunc 158 args).run Try.prog w = .ok (.enter 158 args) w := enters_of Try.func158 (by kernel_rfl) rfl
  have hmf : ∀ (fn : Fn) (first cap : Array Value) (w : World), (Instr.makeFunc fn first cap).run Try.prog w = .ok (.func fn first cap) w := fun _ _ _ _ => rfl
  have hw2 : Below w.heap.size w ((w.alloc (.cells #[.string a0_0, .slice A0_1 l0_1.length c0_1] 30)).alloc (.cells #[.int .i64 a1] 3)) := below_alloc (below_alloc (Below.refl _ _) _) _
  have hcon := idx_v.calls_ (fun v => decide (v.f0 ≤ a1)) 158 (.pointer (some ⟨w.heap.size + 1, 0, none⟩)) A0_1 c0_1 l0_1 ((w.alloc (.cells #[.string a0_0, .slice A0_1 l0_1.length c0_1] 30)).alloc (.cells #[.int .i64 a1] 3))
    (Kd.C_below hr0_1 hw2) hc0_1 eg (chain_place.clo a1 (w.heap.size + 1) _ (by simp) (by rw [World.cell?_alloc_at _ _ _ _ (by simp)]; rfl))
  have HW2 := Aside0.mk hw2
  have hlen := hr0_1.2.1
  clear hr0_1 hc0_1 hw2 eg
  have hr : ((l0_1.findIdx (fun v => decide (v.f0 ≤ a1)) : Nat) : Int) = r := Option.some.inj h
  clear h
  have hle : l0_1.findIdx (fun v => decide (v.f0 ≤ a1)) ≤ l0_1.length := List.findIdx_le_length
  by_cases hlt : l0_1.findIdx (fun v => decide (v.f0 ≤ a1)) < l0_1.length
  · have e1 : idxRes_v (fun v : S39 => decide (v.f0 ≤ a1)) l0_1 = r := by unfold idxRes_v; rw [if_pos hlt]; exact hr
    rw [e1] at hcon
    have h0 : ¬ r < 0 := by omega
    clear hr hlt hle e1
    go_enter Try.func120, Try.ntmps120
    go_wp2_with ((with_reducible refine hcon.mono ?_); rintro e w' ⟨rfl, hb'⟩)
    go_ret
    exact ⟨rfl, HW2.out.trans (hb'.mono (by simp; omega))⟩
  · have e1 : idxRes_v (fun v : S39 => decide (v.f0 ≤ a1)) l0_1 = -1 := by unfold idxRes_v; rw [if_neg hlt]
    rw [e1] at hcon
    have hr2 := Aside0.mk (show r = l0_1.length by omega)
    clear hr hlt hle e1
    have hcb : ∀ w', Below ((w.alloc (.cells #[.string a0_0, .slice A0_1 l0_1.length c0_1] 30)).alloc (.cells #[.int .i64 a1] 3)).heap.size ((w.alloc (.cells #[.string a0_0, .slice A0_1 l0_1.length c0_1] 30)).alloc (.cells #[.int .i64 a1] 3)) w' → w'.cell? ⟨w.heap.size, 1, none⟩ = some (.slice A0_1 l0_1.length c0_1) := fun w' hb => by
      rw [hb.cell (p := ⟨w.heap.size, 1, none⟩) (by simp; omega), World.cell?_alloc_past _ _ _ (by simp), World.cell?_alloc_at _ _ _ _ rfl]; rfl
    have HCB := Aside0.mk hcb
    clear hcb
    go_enter Try.func120, Try.ntmps120
    go_wp2_with ((with_reducible refine hcon.mono ?_); rintro e w' ⟨rfl, hb'⟩; have hc1 := HCB.out _ hb')
    go_ret
    exact ⟨by rw [hr2.out]; rfl, HW2.out.trans (hb'.mono (by simp; omega))⟩


/-! ### chain_Look: function 62 -/
def chain_Look.f (a0_0 : ByteArray) (l0_1 : List (S39)) (a1 : Int) : Option (Int × ByteArray × Bool × Bool) := (chain_place.f a0_0 l0_1 a1).bind fun t142 => (if t142 = (l0_1.length : Int) then (some (0, (⟨#[]⟩ : ByteArray), false, false)) else (if 0 ≤ t142 then (if t142 < (l0_1.length : Int) then (if (rd_T39 l0_1 t142).f2 = true then (some (0, (⟨#[]⟩ : ByteArray), false, false)) else (some ((rd_T39 l0_1 t142).f0, (rd_T39 l0_1 t142).f1, (rd_T39 l0_1 t142).f2, true))) else (none)) else (none)))
set_option maxHeartbeats 8000000 in
set_option maxRecDepth 100000 in
theorem chain_Look.calls (a0_0 : ByteArray) (A0_1 : Option Addr) (c0_1 : Nat) (l0_1 : List (S39)) (a1 : Int) (r1 : Int) (r2 : ByteArray) (r3 : Bool) (r4 : Bool) (w : World) (hr0_1 : Kd.C k39 w A0_1 l0_1.length l0_1) (hc0_1 : l0_1.length ≤ c0_1) (h : chain_Look.f a0_0 l0_1 a1 = some (r1, r2, r3, r4)) :
  Calls Try.prog 62 #[.agg #[.string a0_0, .slice A0_1 l0_1.length c0_1], .int .i64 a1] w fun e w' => e = .returned (.tuple #[.agg #[.int .i64 r1, .string r2, .bool r3], .bool r4]) ∧ Below w.heap.size w w' := by
 have hu30 := Try.underlying30
 have hu39 := Try.underlying39
 have HR0_1 := mk0 hr0_1
 have HC0_1 := mk0 hc0_1
 clear hr0_1 hc0_1
 have HB := mk0 (Below.refl w.heap.size w)
 have H : ((chain_place.f a0_0 l0_1 a1).bind fun t142 => (if t142 = (l0_1.length : Int) then (some (0, (⟨#[]⟩ : ByteArray), false, false)) else (if 0 ≤ t142 then (if t142 < (l0_1.length : Int) then (if (rd_T39 l0_1 t142).f2 = true then (some (0, (⟨#[]⟩ : ByteArray), false, false)) else (some ((rd_T39 l0_1 t142).f0, (rd_T39 l0_1 t142).f1, (rd_T39 l0_1 t142).f2, true))) else (none)) else (none)))) = some (r1, r2, r3, r4) := h
 clear h
 replace H := Option.bind_eq_some_iff.mp H
 obtain ⟨t142, A30, H⟩ := H
 try dsimp only at H
 have A3 := mk0 A30
 clear A30
 by_cases c4 : t142 = (l0_1.length : Int)
 focus
  rw [if_pos c4] at H
  have c4b0 : (t142 == (l0_1.length : Int)) = true := beq_iff_eq.mpr c4
  have c4b1 : (t142 != (l0_1.length : Int)) = false := bne_eq_false_iff_eq.mpr c4
  clear c4
  simp only [Option.some.injEq, Prod.mk.injEq] at H
  obtain ⟨rfl, rfl, rfl, rfl⟩ := H
  go_enter Try.func62, Try.ntmps62
 rotate_left 1
 focus
  rw [if_neg c4] at H
  have c4b0 : (t142 == (l0_1.length : Int)) = false := beq_eq_false_iff_ne.mpr c4
  have c4b1 : (t142 != (l0_1.length : Int)) = true := bne_iff_ne.mpr c4
  by_cases c12 : 0 ≤ t142
  focus
   rw [if_pos c12] at H
   have c12b0 : decide (0 ≤ t142) = true := decide_eq_true c12
   clear c12
   by_cases c13 : t142 < (l0_1.length : Int)
   focus
    rw [if_pos c13] at H
    have c13b0 : decide (t142 < (l0_1.length : Int)) = true := decide_eq_true c13
    clear c13
    obtain ⟨bq14, hbq14⟩ : ∃ b_ : Bool, b_ = ((rd_T39 l0_1 t142).f2) := ⟨_, rfl⟩
    replace H : (if bq14 = true then (some (0, (⟨#[]⟩ : ByteArray), false, false)) else (some ((rd_T39 l0_1 t142).f0, (rd_T39 l0_1 t142).f1, bq14, true))) = some (r1, r2, r3, r4) := by rw [← hbq14] at H; exact H
    have Nbq14 := mk0 hbq14
    clear hbq14
    by_cases c15 : bq14 = true
    focus
     subst c15
     rw [if_pos rfl] at H
     simp only [Option.some.injEq, Prod.mk.injEq] at H
     obtain ⟨rfl, rfl, rfl, rfl⟩ := H
     go_enter Try.func62, Try.ntmps62
    rotate_left 1
    focus
     replace c15 := Bool.eq_false_iff.mpr c15
     subst c15
     rw [if_neg (show ¬ (false = true) by decide)] at H
     simp only [Option.some.injEq, Prod.mk.injEq] at H
     obtain ⟨rfl, rfl, rfl, rfl⟩ := H
     go_enter Try.func62, Try.ntmps62
    rotate_right 1
   rotate_left 2
   ·rw [if_neg c13] at H
    exact absurd H (by simp)
  rotate_left 2
  ·rw [if_neg c12] at H
   exact absurd H (by simp)
 rotate_right 1
 all_goals go_wp2_with (first | ((with_reducible refine gate_dst (N := 2) rfl ?_); refine bx_ (N := 2) (cs := #[.string a0_0, .slice A0_1 l0_1.length c0_1]) (t := 30) (h := ?_); intro gb140 hg w23 hbox hb; have n2_ := mk0 (gz_ HB hg); have n3_ := mk0 (gz_ HB hg); replace HB := mk0 (bt_ (b_ HB) hb); have BK140 := mk0 (hbox); have GW140 := n2_; have GE140 := n3_; clear n2_ n3_; clear hb hbox hg) | ((with_reducible refine gate_dst (N := 4) rfl ?_); refine bx_ (N := 4) (cs := #[.int .i64 0, .string (⟨#[]⟩ : ByteArray), .bool false]) (t := 39) (h := ?_); intro gb141 hg w24 hbox hb; have n3_ := mk0 (gz_ HB hg); have n4_ := mk0 (gz_ HB hg); have n5_ := mk0 (ne1_ BK140 hg); have n6_ := mk0 (ne2_ BK140 hg); replace BK140 := mk0 (u_ BK140 hb); replace HB := mk0 (bt_ (b_ HB) hb); have BK141 := mk0 (hbox); have GW141 := n3_; have GE141 := n4_; have NB140_141 := n5_; have NB141_140 := n6_; clear n3_ n4_ n5_ n6_ hb hbox hg; have hnb25 := NB140_141.out; have hnc25 := NB141_140.out; obtain ⟨hcz26_0, hcz26_1, hfz26_0, hfz26_1⟩ := c2_ BK140) | ((with_reducible refine gate_callee (f := 120) rfl ?_); refine gL_ (some 9) Try.func120 #[.agg #[.string a0_0, .slice A0_1 l0_1.length c0_1], .int .i64 a1] (h := ?_); (with_reducible refine (chain_place.calls a0_0 _ _ l0_1 a1 t142 _ ?side1 ?side2 A3.out).mono ?_); (case side1 => exact cb_ HR0_1 HB); (case side2 => exact HC0_1.out); rintro e w27 ⟨rfl, hb⟩; refine ⟨_, rfl, ?_⟩; replace BK140 := mk0 (u_ BK140 hb); replace BK141 := mk0 (blk_below (g := gb141) (o := .cells #[.int .i64 0, .string (⟨#[]⟩ : ByteArray), .bool false] 39 (0, 0)) (h_ BK141) hb); replace HB := mk0 (bt_ (b_ HB) hb); (try clear hb); obtain ⟨hcz28_0, hcz28_1, hfz28_0, hfz28_1⟩ := c2_ BK140; have p143 : 0 ≤ (t142 : Int) := of_decide_eq_true (by first | (with_reducible assumption) | assumption); have q143 : t142 < (l0_1.length : Int) := of_decide_eq_true (by first | (with_reducible assumption) | assumption); obtain ⟨ad143, e143, hx143_0, hx143_1, hx143_2⟩ := at_T39 HR0_1.out t142 p143 q143; (try rw [← Nbq14.out] at hx143_2); cases e143; replace hx143_0 := bc_ HB hx143_0; replace hx143_1 := bc_ HB hx143_1; replace hx143_2 := bc_ HB hx143_2; replace p143 := eq_true p143; replace q143 := eq_true q143; have p144 : 0 ≤ (t142 : Int) := of_decide_eq_true (by first | (with_reducible assumption) | assumption); have q144 : t142 < (l0_1.length : Int) := of_decide_eq_true (by first | (with_reducible assumption) | assumption); obtain ⟨ad144, e144, hx144_0, hx144_1, hx144_2⟩ := at_T39 HR0_1.out t142 p144 q144; (try rw [← Nbq14.out] at hx144_2); obtain rfl : ad143 = ad144 := (by injection e144); replace hx144_0 := bc_ HB hx144_0; replace hx144_1 := bc_ HB hx144_1; replace hx144_2 := bc_ HB hx144_2; replace p144 := eq_true p144; replace q144 := eq_true q144; obtain ⟨hcz29_0, hcz29_1, hcz29_2, hfz29_0, hfz29_1, hfz29_2⟩ := c3_ BK141) | ((with_reducible refine gate_callee (f := 120) rfl ?_); refine gL_ (some 9) Try.func120 #[.agg #[.string a0_0, .slice A0_1 l0_1.length c0_1], .int .i64 a1] (h := ?_); (with_reducible refine (chain_place.calls a0_0 _ _ l0_1 a1 t142 _ ?side1 ?side2 A3.out).mono ?_); (case side1 => exact cb_ HR0_1 HB); (case side2 => exact HC0_1.out); rintro e w9 ⟨rfl, hb⟩; refine ⟨_, rfl, ?_⟩; replace BK140 := mk0 (u_ BK140 hb); replace BK141 := mk0 (blk_below (g := gb141) (o := .cells #[.int .i64 0, .string (⟨#[]⟩ : ByteArray), .bool false] 39 (0, 0)) (h_ BK141) hb); replace HB := mk0 (bt_ (b_ HB) hb); (try clear hb); obtain ⟨hcz10_0, hcz10_1, hfz10_0, hfz10_1⟩ := c2_ BK140; obtain ⟨hcz11_0, hcz11_1, hcz11_2, hfz11_0, hfz11_1, hfz11_2⟩ := c3_ BK141) | ((with_reducible refine gate_callee (f := 120) rfl ?_); refine gL_ (some 9) Try.func120 #[.agg #[.string a0_0, .slice A0_1 l0_1.length c0_1], .int .i64 a1] (h := ?_); (with_reducible refine (chain_place.calls a0_0 _ _ l0_1 a1 t142 _ ?side1 ?side2 A3.out).mono ?_); (case side1 => exact cb_ HR0_1 HB); (case side2 => exact HC0_1.out); rintro e w20 ⟨rfl, hb⟩; refine ⟨_, rfl, ?_⟩; replace BK140 := mk0 (u_ BK140 hb); replace BK141 := mk0 (blk_below (g := gb141) (o := .cells #[.int .i64 0, .string (⟨#[]⟩ : ByteArray), .bool false] 39 (0, 0)) (h_ BK141) hb); replace HB := mk0 (bt_ (b_ HB) hb); (try clear hb); obtain ⟨hcz21_0, hcz21_1, hfz21_0, hfz21_1⟩ := c2_ BK140; have p143 : 0 ≤ (t142 : Int) := of_decide_eq_true (by first | (with_reducible assumption) | assumption); have q143 : t142 < (l0_1.length : Int) := of_decide_eq_true (by first | (with_reducible assumption) | assumption); obtain ⟨ad143, e143, hx143_0, hx143_1, hx143_2⟩ := at_T39 HR0_1.out t142 p143 q143; (try rw [← Nbq14.out] at hx143_2); cases e143; replace hx143_0 := bc_ HB hx143_0; replace hx143_1 := bc_ HB hx143_1; replace hx143_2 := bc_ HB hx143_2; replace p143 := eq_true p143; replace q143 := eq_true q143; obtain ⟨hcz22_0, hcz22_1, hcz22_2, hfz22_0, hfz22_1, hfz22_2⟩ := c3_ BK141))
 ·refine bodyPost_ret (results_ct rfl _ _ gb141 39 #[.int .i64 0, .string (⟨#[]⟩ : ByteArray), .bool false] (0, 0) _ rfl (pu_ (cs := #[.int .i64 0, .string (⟨#[]⟩ : ByteArray), .bool false]) (pu_ (cs := #[.int .i64 0, .string (⟨#[]⟩ : ByteArray), .bool false]) (pu_ (cs := #[.int .i64 0, .string (⟨#[]⟩ : ByteArray), .bool false]) (h_ BK141)))) Try.underlying39 rfl (by kernel_rfl)) rfl ?_
  exact ⟨by first | rfl | (simp [errW_none, errW_some] <;> rfl) | (simp [*, errW_none, errW_some] <;> rfl), b_ HB⟩
 ·refine bodyPost_ret (results_ct rfl _ _ gb141 39 #[.int .i64 0, .string (⟨#[]⟩ : ByteArray), .bool false] (0, 0) _ rfl (pu_ (cs := #[.int .i64 0, .string (⟨#[]⟩ : ByteArray), .bool false]) (pu_ (cs := #[.int .i64 0, .string (⟨#[]⟩ : ByteArray), .bool false]) (pu_ (cs := #[.int .i64 0, .string (⟨#[]⟩ : ByteArray), .bool false]) (h_ BK141)))) Try.underlying39 rfl (by kernel_rfl)) rfl ?_
  exact ⟨by first | rfl | (simp [errW_none, errW_some] <;> rfl) | (simp [*, errW_none, errW_some] <;> rfl), b_ HB⟩
 ·refine bodyPost_ret (results_ct rfl _ _ gb141 39 #[.int .i64 ((rd_T39 l0_1 t142).f0), .string ((rd_T39 l0_1 t142).f1), .bool false] (0, 0) _ rfl (pu_ (cs := #[.int .i64 ((rd_T39 l0_1 t142).f0), .string ((rd_T39 l0_1 t142).f1), .bool false]) (pu_ (cs := #[.int .i64 ((rd_T39 l0_1 t142).f0), .string (⟨#[]⟩ : ByteArray), .bool false]) (pu_ (cs := #[.int .i64 0, .string (⟨#[]⟩ : ByteArray), .bool false]) (h_ BK141)))) Try.underlying39 rfl (by kernel_rfl)) rfl ?_
  exact ⟨by first | rfl | (simp [errW_none, errW_some] <;> rfl) | (simp [*, errW_none, errW_some] <;> rfl), b_ HB⟩

/-! ### chain_At: function 21 -/
def chain_At.f (k : Nat) (a0_0 : ByteArray) (l0_1 : List (S39)) (a1 : Int) : Option (Int × ByteArray × Bool × Int) := (chain_May.f k a0_0 l0_1).bind fun t147 => (if t147 = true then ((chain_Look.f a0_0 l0_1 a1).bind fun bt148 => (if bt148.2.2.2 = true then (some (bt148.1, bt148.2.1, bt148.2.2.1, 0)) else (some (0, (⟨#[]⟩ : ByteArray), false, 3)))) else (some (0, (⟨#[]⟩ : ByteArray), false, 1)))
theorem chain_At.mono : ∀ a0 a1 a2 k, LeO (chain_At.f k a0 a1 a2) (chain_At.f (k + 1) a0 a1 a2) := by
 intro a0 a1 a2 k
 unfold chain_At.f
 repeat' first
   | (with_reducible exact chain_May.mono _ _ _)
   | (with_reducible exact LeO.refl _)
   | (with_reducible exact LeO.none _)
   | (with_reducible refine LeO.ite ?_ ?_)
   | (with_reducible refine LeO.bind ?_ (fun _ => ?_))
   | exact chain_May.mono _ _ _
   | exact LeO.none _
   | refine LeO.ite ?_ ?_
   | refine LeO.bind ?_ (fun _ => ?_)
set_option maxHeartbeats 8000000 in
set_option maxRecDepth 100000 in
theorem chain_At.calls (k : Nat) (a0_0 : ByteArray) (A0_1 : Option Addr) (c0_1 : Nat) (l0_1 : List (S39)) (a1 : Int) (r1 : Int) (r2 : ByteArray) (r3 : Bool) (r4 : Int) (w : World) (hr0_1 : Kd.C k39 w A0_1 l0_1.length l0_1) (hc0_1 : l0_1.length ≤ c0_1) (h : chain_At.f k a0_0 l0_1 a1 = some (r1, r2, r3, r4)) :
  Calls Try.prog 21 #[.agg #[.string a0_0, .slice A0_1 l0_1.length c0_1], .int .i64 a1] w fun e w' => e = .returned (.tuple #[.agg #[.int .i64 r1, .string r2, .bool r3], .int .i64 r4]) ∧ Below w.heap.size w w' := by
 have hu30 := Try.underlying30
 have hu39 := Try.underlying39
 have HR0_1 := mk0 hr0_1
 have HC0_1 := mk0 hc0_1
 clear hr0_1 hc0_1
 have HB := mk0 (Below.refl w.heap.size w)
 have H : ((chain_May.f k a0_0 l0_1).bind fun t147 => (if t147 = true then ((chain_Look.f a0_0 l0_1 a1).bind fun bt148 => (if bt148.2.2.2 = true then (some (bt148.1, bt148.2.1, bt148.2.2.1, 0)) else (some (0, (⟨#[]⟩ : ByteArray), false, 3)))) else (some (0, (⟨#[]⟩ : ByteArray), false, 1)))) = some (r1, r2, r3, r4) := h
 clear h
 replace H := Option.bind_eq_some_iff.mp H
 obtain ⟨t147, A30, H⟩ := H
 try dsimp only at H
 have A3 := mk0 A30
 clear A30
 by_cases c4 : t147 = true
 focus
  subst c4
  rw [if_pos rfl] at H
  replace H := Option.bind_eq_some_iff.mp H
  obtain ⟨⟨t148, t149, t150, t151⟩, A50, H⟩ := H
  try dsimp only at H
  have A5 := mk0 A50
  clear A50
  by_cases c6 : t151 = true
  ·subst c6
   rw [if_pos rfl] at H
   simp only [Option.some.injEq, Prod.mk.injEq] at H
   obtain ⟨rfl, rfl, rfl, rfl⟩ := H
   go_enter Try.func21, Try.ntmps21
   go_wp2_with (first | ((with_reducible refine gate_dst (N := 2) rfl ?_); refine bx_ (N := 2) (cs := #[.string a0_0, .slice A0_1 l0_1.length c0_1]) (t := 30) (h := ?_); intro gb145 hg w7 hbox hb; have n2_ := mk0 (gz_ HB hg); have n3_ := mk0 (gz_ HB hg); replace HB := mk0 (bt_ (b_ HB) hb); have BK145 := mk0 (hbox); have GW145 := n2_; have GE145 := n3_; clear n2_ n3_; clear hb hbox hg) | ((with_reducible refine gate_dst (N := 4) rfl ?_); refine bx_ (N := 4) (cs := #[.int .i64 0, .string (⟨#[]⟩ : ByteArray), .bool false]) (t := 39) (h := ?_); intro gb146 hg w8 hbox hb; have n3_ := mk0 (gz_ HB hg); have n4_ := mk0 (gz_ HB hg); have n5_ := mk0 (ne1_ BK145 hg); have n6_ := mk0 (ne2_ BK145 hg); replace BK145 := mk0 (u_ BK145 hb); replace HB := mk0 (bt_ (b_ HB) hb); have BK146 := mk0 (hbox); have GW146 := n3_; have GE146 := n4_; have NB145_146 := n5_; have NB146_145 := n6_; clear n3_ n4_ n5_ n6_ hb hbox hg; have hnb9 := NB145_146.out; have hnc9 := NB146_145.out; obtain ⟨hcz10_0, hcz10_1, hfz10_0, hfz10_1⟩ := c2_ BK145) | ((with_reducible refine gate_callee (f := 61) rfl ?_); refine gL_ (some 9) Try.func61 #[.agg #[.string a0_0, .slice A0_1 l0_1.length c0_1]] (h := ?_); (with_reducible refine (chain_May.calls k a0_0 _ _ l0_1 true _ ?side1 ?side2 A3.out).mono ?_); (case side1 => exact cb_ HR0_1 HB); (case side2 => exact HC0_1.out); rintro e w11 ⟨rfl, hb⟩; refine ⟨_, rfl, ?_⟩; replace BK145 := mk0 (u_ BK145 hb); replace BK146 := mk0 (blk_below (g := gb146) (o := .cells #[.int .i64 0, .string (⟨#[]⟩ : ByteArray), .bool false] 39 (0, 0)) (h_ BK146) hb); replace HB := mk0 (bt_ (b_ HB) hb); (try clear hb); obtain ⟨hcz12_0, hcz12_1, hfz12_0, hfz12_1⟩ := c2_ BK145) | ((with_reducible refine gate_callee (f := 62) rfl ?_); refine gL_ (some 15) Try.func62 #[.agg #[.string a0_0, .slice A0_1 l0_1.length c0_1], .int .i64 a1] (h := ?_); (with_reducible refine (chain_Look.calls a0_0 _ _ l0_1 a1 t148 t149 t150 true _ ?side1 ?side2 A5.out).mono ?_); (case side1 => exact cb_ HR0_1 HB); (case side2 => exact HC0_1.out); rintro e w13 ⟨rfl, hb⟩; refine ⟨_, rfl, ?_⟩; replace BK145 := mk0 (u_ BK145 hb); replace BK146 := mk0 (blk_below (g := gb146) (o := .cells #[.int .i64 0, .string (⟨#[]⟩ : ByteArray), .bool false] 39 (0, 0)) (h_ BK146) hb); replace HB := mk0 (bt_ (b_ HB) hb); (try clear hb)) | ((with_reducible refine gate_dst (N := 6) rfl ?_); refine bx_ (N := 6) (cs := #[.int .i64 0, .string (⟨#[]⟩ : ByteArray), .bool false]) (t := 39) (h := ?_); intro gb152 hg w14 hbox hb; have n4_ := mk0 (gz_ HB hg); have n5_ := mk0 (gz_ HB hg); have n6_ := mk0 (ne1_ BK145 hg); have n7_ := mk0 (ne2_ BK145 hg); have n8_ := mk0 ((by rw [hg]; exact Nat.ne_of_lt (blk_lt (g := gb146) (o := .cells #[.int .i64 0, .string (⟨#[]⟩ : ByteArray), .bool false] 39 (0, 0)) (h_ BK146)) : gb146 ≠ gb152)); have n9_ := mk0 ((by rw [hg]; exact Nat.ne_of_gt (blk_lt (g := gb146) (o := .cells #[.int .i64 0, .string (⟨#[]⟩ : ByteArray), .bool false] 39 (0, 0)) (h_ BK146)) : gb152 ≠ gb146)); replace BK145 := mk0 (u_ BK145 hb); replace BK146 := mk0 (blk_below (g := gb146) (o := .cells #[.int .i64 0, .string (⟨#[]⟩ : ByteArray), .bool false] 39 (0, 0)) (h_ BK146) hb); replace HB := mk0 (bt_ (b_ HB) hb); have BK152 := mk0 (hbox); have GW152 := n4_; have GE152 := n5_; have NB145_152 := n6_; have NB152_145 := n7_; have NB146_152 := n8_; have NB152_146 := n9_; clear n4_ n5_ n6_ n7_ n8_ n9_ hb hbox hg; have hnb15 := NB152_145.out; have hnc15 := NB145_152.out; have hnb16 := NB152_146.out; have hnc16 := NB146_152.out; obtain ⟨hcz17_0, hcz17_1, hcz17_2, hfz17_0, hfz17_1, hfz17_2⟩ := c3_ BK152; obtain ⟨hcz18_0, hcz18_1, hcz18_2, hfz18_0, hfz18_1, hfz18_2⟩ := c3_ BK146))
   refine bodyPost_ret (results_ct rfl _ _ gb146 39 #[.int .i64 t148, .string t149, .bool t150] (0, 0) _ rfl (pu_ (cs := #[.int .i64 t148, .string t149, .bool false]) (pu_ (cs := #[.int .i64 t148, .string (⟨#[]⟩ : ByteArray), .bool false]) (pu_ (cs := #[.int .i64 0, .string (⟨#[]⟩ : ByteArray), .bool false]) (fa_ (fa_ (fa_ (h_ BK146) NB146_152.out) NB146_152.out) NB146_152.out)))) Try.underlying39 rfl (by kernel_rfl)) rfl ?_
   exact ⟨by first | rfl | (simp [errW_none, errW_some] <;> rfl) | (simp [*, errW_none, errW_some] <;> rfl), b_ HB⟩
  focus
   replace c6 := Bool.eq_false_iff.mpr c6
   subst c6
   rw [if_neg (show ¬ (false = true) by decide)] at H
   simp only [Option.some.injEq, Prod.mk.injEq] at H
   obtain ⟨rfl, rfl, rfl, rfl⟩ := H
   go_enter Try.func21, Try.ntmps21
 rotate_left 1
 focus
  replace c4 := Bool.eq_false_iff.mpr c4
  subst c4
  rw [if_neg (show ¬ (false = true) by decide)] at H
  simp only [Option.some.injEq, Prod.mk.injEq] at H
  obtain ⟨rfl, rfl, rfl, rfl⟩ := H
  go_enter Try.func21, Try.ntmps21
 rotate_right 1
 all_goals go_wp2_with (first | ((with_reducible refine gate_dst (N := 2) rfl ?_); refine bx_ (N := 2) (cs := #[.string a0_0, .slice A0_1 l0_1.length c0_1]) (t := 30) (h := ?_); intro gb145 hg w19 hbox hb; have n2_ := mk0 (gz_ HB hg); have n3_ := mk0 (gz_ HB hg); replace HB := mk0 (bt_ (b_ HB) hb); have BK145 := mk0 (hbox); have GW145 := n2_; have GE145 := n3_; clear n2_ n3_; clear hb hbox hg) | ((with_reducible refine gate_dst (N := 4) rfl ?_); refine bx_ (N := 4) (cs := #[.int .i64 0, .string (⟨#[]⟩ : ByteArray), .bool false]) (t := 39) (h := ?_); intro gb146 hg w20 hbox hb; have n3_ := mk0 (gz_ HB hg); have n4_ := mk0 (gz_ HB hg); have n5_ := mk0 (ne1_ BK145 hg); have n6_ := mk0 (ne2_ BK145 hg); replace BK145 := mk0 (u_ BK145 hb); replace HB := mk0 (bt_ (b_ HB) hb); have BK146 := mk0 (hbox); have GW146 := n3_; have GE146 := n4_; have NB145_146 := n5_; have NB146_145 := n6_; clear n3_ n4_ n5_ n6_ hb hbox hg; have hnb21 := NB145_146.out; have hnc21 := NB146_145.out; obtain ⟨hcz22_0, hcz22_1, hfz22_0, hfz22_1⟩ := c2_ BK145) | ((with_reducible refine gate_callee (f := 61) rfl ?_); refine gL_ (some 9) Try.func61 #[.agg #[.string a0_0, .slice A0_1 l0_1.length c0_1]] (h := ?_); (with_reducible refine (chain_May.calls k a0_0 _ _ l0_1 true _ ?side1 ?side2 A3.out).mono ?_); (case side1 => exact cb_ HR0_1 HB); (case side2 => exact HC0_1.out); rintro e w23 ⟨rfl, hb⟩; refine ⟨_, rfl, ?_⟩; replace BK145 := mk0 (u_ BK145 hb); replace BK146 := mk0 (blk_below (g := gb146) (o := .cells #[.int .i64 0, .string (⟨#[]⟩ : ByteArray), .bool false] 39 (0, 0)) (h_ BK146) hb); replace HB := mk0 (bt_ (b_ HB) hb); (try clear hb); obtain ⟨hcz24_0, hcz24_1, hfz24_0, hfz24_1⟩ := c2_ BK145; (try obtain ⟨hcz36_0, hcz36_1, hcz36_2, hfz36_0, hfz36_1, hfz36_2⟩ := c3_ BK146)) | ((with_reducible refine gate_callee (f := 62) rfl ?_); refine gL_ (some 15) Try.func62 #[.agg #[.string a0_0, .slice A0_1 l0_1.length c0_1], .int .i64 a1] (h := ?_); (with_reducible refine (chain_Look.calls a0_0 _ _ l0_1 a1 t148 t149 t150 false _ ?side1 ?side2 A5.out).mono ?_); (case side1 => exact cb_ HR0_1 HB); (case side2 => exact HC0_1.out); rintro e w25 ⟨rfl, hb⟩; refine ⟨_, rfl, ?_⟩; replace BK145 := mk0 (u_ BK145 hb); replace BK146 := mk0 (blk_below (g := gb146) (o := .cells #[.int .i64 0, .string (⟨#[]⟩ : ByteArray), .bool false] 39 (0, 0)) (h_ BK146) hb); replace HB := mk0 (bt_ (b_ HB) hb); (try clear hb)) | ((with_reducible refine gate_dst (N := 6) rfl ?_); refine bx_ (N := 6) (cs := #[.int .i64 0, .string (⟨#[]⟩ : ByteArray), .bool false]) (t := 39) (h := ?_); intro gb152 hg w26 hbox hb; have n4_ := mk0 (gz_ HB hg); have n5_ := mk0 (gz_ HB hg); have n6_ := mk0 (ne1_ BK145 hg); have n7_ := mk0 (ne2_ BK145 hg); have n8_ := mk0 ((by rw [hg]; exact Nat.ne_of_lt (blk_lt (g := gb146) (o := .cells #[.int .i64 0, .string (⟨#[]⟩ : ByteArray), .bool false] 39 (0, 0)) (h_ BK146)) : gb146 ≠ gb152)); have n9_ := mk0 ((by rw [hg]; exact Nat.ne_of_gt (blk_lt (g := gb146) (o := .cells #[.int .i64 0, .string (⟨#[]⟩ : ByteArray), .bool false] 39 (0, 0)) (h_ BK146)) : gb152 ≠ gb146)); replace BK145 := mk0 (u_ BK145 hb); replace BK146 := mk0 (blk_below (g := gb146) (o := .cells #[.int .i64 0, .string (⟨#[]⟩ : ByteArray), .bool false] 39 (0, 0)) (h_ BK146) hb); replace HB := mk0 (bt_ (b_ HB) hb); have BK152 := mk0 (hbox); have GW152 := n4_; have GE152 := n5_; have NB145_152 := n6_; have NB152_145 := n7_; have NB146_152 := n8_; have NB152_146 := n9_; clear n4_ n5_ n6_ n7_ n8_ n9_ hb hbox hg; have hnb27 := NB152_145.out; have hnc27 := NB145_152.out; have hnb28 := NB152_146.out; have hnc28 := NB146_152.out; obtain ⟨hcz29_0, hcz29_1, hcz29_2, hfz29_0, hfz29_1, hfz29_2⟩ := c3_ BK152; obtain ⟨hcz30_0, hcz30_1, hcz30_2, hfz30_0, hfz30_1, hfz30_2⟩ := c3_ BK146) | ((with_reducible refine gate_callee (f := 61) rfl ?_); refine gL_ (some 9) Try.func61 #[.agg #[.string a0_0, .slice A0_1 l0_1.length c0_1]] (h := ?_); (with_reducible refine (chain_May.calls k a0_0 _ _ l0_1 false _ ?side1 ?side2 A3.out).mono ?_); (case side1 => exact cb_ HR0_1 HB); (case side2 => exact HC0_1.out); rintro e w35 ⟨rfl, hb⟩; refine ⟨_, rfl, ?_⟩; replace BK145 := mk0 (u_ BK145 hb); replace BK146 := mk0 (blk_below (g := gb146) (o := .cells #[.int .i64 0, .string (⟨#[]⟩ : ByteArray), .bool false] 39 (0, 0)) (h_ BK146) hb); replace HB := mk0 (bt_ (b_ HB) hb); (try clear hb); obtain ⟨hcz36_0, hcz36_1, hcz36_2, hfz36_0, hfz36_1, hfz36_2⟩ := c3_ BK146; (try obtain ⟨hcz24_0, hcz24_1, hfz24_0, hfz24_1⟩ := c2_ BK145)))
 ·refine bodyPost_ret (results_ct rfl _ _ gb146 39 #[.int .i64 0, .string (⟨#[]⟩ : ByteArray), .bool false] (0, 0) _ rfl (pu_ (cs := #[.int .i64 0, .string (⟨#[]⟩ : ByteArray), .bool false]) (pu_ (cs := #[.int .i64 0, .string (⟨#[]⟩ : ByteArray), .bool false]) (pu_ (cs := #[.int .i64 0, .string (⟨#[]⟩ : ByteArray), .bool false]) (fa_ (fa_ (fa_ (h_ BK146) NB146_152.out) NB146_152.out) NB146_152.out)))) Try.underlying39 rfl (by kernel_rfl)) rfl ?_
  exact ⟨by first | rfl | (simp [errW_none, errW_some] <;> rfl) | (simp [*, errW_none, errW_some] <;> rfl), b_ HB⟩
 ·refine bodyPost_ret (results_ct rfl _ _ gb146 39 #[.int .i64 0, .string (⟨#[]⟩ : ByteArray), .bool false] (0, 0) _ rfl (pu_ (cs := #[.int .i64 0, .string (⟨#[]⟩ : ByteArray), .bool false]) (pu_ (cs := #[.int .i64 0, .string (⟨#[]⟩ : ByteArray), .bool false]) (pu_ (cs := #[.int .i64 0, .string (⟨#[]⟩ : ByteArray), .bool false]) (h_ BK146)))) Try.underlying39 rfl (by kernel_rfl)) rfl ?_
  exact ⟨by first | rfl | (simp [errW_none, errW_some] <;> rfl) | (simp [*, errW_none, errW_some] <;> rfl), b_ HB⟩

/-! ### api_Version_123: function 123 (by hand) -/
def api_Version_123.f (l0 : List (S39)) : Option (List (S39)) := if l0.length < 4398046511104 then some l0 else none
theorem kd_empty_39 (w : World) : k39.R 39 (w.alloc (.cells #[] 39)) w.heap.size (fun _ => True) (.slice (some ⟨w.heap.size, 0, none⟩) 0 0) [] := by
  refine ⟨fun _ _ => trivial, [], ⟨by simp, .inr ⟨w.heap.size, 0, #[], rfl, Nat.le_refl _, heap_alloc_new w _, Nat.le_refl _, by decide, by simp, by simp⟩⟩, ?_⟩
  exact Reps.none _ _
set_option maxHeartbeats 800000 in
set_option maxRecDepth 100000 in
theorem api_Version_123.calls (A0 : Option Addr) (c0 : Nat) (l0 : List (S39)) (r : List (S39)) (w : World) (hr0 : Kd.C k39 w A0 l0.length l0) (hc0 : l0.length ≤ c0) (h : api_Version_123.f l0 = some r) :
    Calls Try.prog 123 #[.slice A0 l0.length c0] w fun e w' => ∃ v0_ : Value, e = .returned (v0_) ∧ Kd.R k39 39 w' w.heap.size (fun _ => True) v0_ r ∧ Below w.heap.size w w' := by
  have HC0 := Aside0.mk hc0
  clear hc0
  unfold api_Version_123.f at h
  split at h
  · obtain rfl := Option.some.inj h
    rename_i hlt
    clear h
    rcases A0 with _ | ad
    · have hl : l0 = [] := by
        rcases Nat.eq_zero_or_pos l0.length with h0 | h0
        · exact List.eq_nil_of_length_eq_zero h0
        · obtain ⟨ad, e, _⟩ := hr0.2.2 h0
          cases e
      subst hl
      have HN := fun w : World => Lib.run_eql_slice_nil (P := Try.prog) w 23 39 none 0 c0 0 0 Try.underlying23
      go_enter Try.func123, Try.ntmps123
      go_wp2
      go_ret
      exact ⟨_, rfl, Kd.R_nil _ _ _ _ _, Below.refl _ _⟩
    · have HN := fun w : World => Lib.run_eql_slice_nil (P := Try.prog) w 23 39 (some ad) l0.length c0 0 0 Try.underlying23
      have HR0 := Aside0.mk hr0
      clear hr0
      have HO := Aside0.mk (kd_empty_39 w)
      go_enter Try.func123, Try.ntmps123
      go_wp2_with (first | ((with_reducible refine gate_builtin (b := .append) (xs := #[.tmp 5, .tmp 6]) rfl ?_); at_builtin; refine Kd.R_append_rows k39 (w0 := w) w.heap.size rfl (.tmp 5) (.tmp 6) 23 39 (.agg #[(.int .i64 0), (.string ⟨#[]⟩), (.bool false)]) 32 rfl Try.underlying23 info39 rfl (by decide) (by omega) (.slice (some ⟨w.heap.size, 0, none⟩) 0 0) ([] : List (S39)) l0 _ _ _ (fun _ => True) (fun _ => False) rfl rfl ?aO ?aR (fun _ _ h => h) (fun _ h => h.elim) ?aF ?aB ?aS ?aL ?_; (case aR => exact (Kd.C_below HR0.out (below_alloc (Below.refl _ _) _))); (case aB => exact (below_alloc (Below.refl _ _) _)); (case aF => exact (fun _ _ => trivial)); (case aO => exact HO.out); (case aS => simp); (case aL => simp; omega); intro v1 w1 ho hb hg hat; clear hg hat))
      go_ret
      exact ⟨_, rfl, ho, hb⟩
  · cases h


/-! ### chain_Own: function 121 -/
def chain_Own.f (a0_0 : ByteArray) (l0_1 : List (S39)) : Option (ByteArray × (List (S39))) := (api_Version_123.f l0_1).bind fun t155 => (some (a0_0, t155))
set_option maxHeartbeats 8000000 in
set_option maxRecDepth 100000 in
theorem chain_Own.calls (a0_0 : ByteArray) (A0_1 : Option Addr) (c0_1 : Nat) (l0_1 : List (S39)) (r1 : ByteArray) (r2 : List (S39)) (w : World) (hr0_1 : Kd.C k39 w A0_1 l0_1.length l0_1) (hc0_1 : l0_1.length ≤ c0_1) (h : chain_Own.f a0_0 l0_1 = some (r1, r2)) :
  Calls Try.prog 121 #[.agg #[.string a0_0, .slice A0_1 l0_1.length c0_1]] w fun e w' => ∃ v1_ : Value, e = .returned (.agg #[.string r1, v1_]) ∧ Kd.R k39 39 w' w.heap.size (fun _ => True) v1_ r2 ∧ Below w.heap.size w w' := by
 have hu30 := Try.underlying30
 have HR0_1 := mk0 hr0_1
 have HC0_1 := mk0 hc0_1
 clear hr0_1 hc0_1
 have HB := mk0 (Below.refl w.heap.size w)
 have H : ((api_Version_123.f l0_1).bind fun t155 => (some (a0_0, t155))) = some (r1, r2) := h
 clear h
 replace H := Option.bind_eq_some_iff.mp H
 obtain ⟨t155, A20, H⟩ := H
 try dsimp only at H
 have A2 := mk0 A20
 clear A20
 simp only [Option.some.injEq, Prod.mk.injEq] at H
 obtain ⟨rfl, rfl⟩ := H
 go_enter Try.func121, Try.ntmps121
 go_wp2_with (first | ((with_reducible refine gate_dst (N := 1) rfl ?_); refine bx_ (N := 1) (cs := #[.string a0_0, .slice A0_1 l0_1.length c0_1]) (t := 30) (h := ?_); intro gb153 hg w3 hbox hb; have n2_ := mk0 (gz_ HB hg); have n3_ := mk0 (gz_ HB hg); replace HB := mk0 (bt_ (b_ HB) hb); have BK153 := mk0 (hbox); have GW153 := n2_; have GE153 := n3_; clear n2_ n3_; clear hb hbox hg) | ((with_reducible refine gate_dst (N := 2) rfl ?_); refine bx_ (N := 2) (cs := #[.string (⟨#[]⟩ : ByteArray), .slice none 0 0]) (t := 30) (h := ?_); intro gb154 hg w4 hbox hb; have n3_ := mk0 (gz_ HB hg); have n4_ := mk0 (gz_ HB hg); have n5_ := mk0 (ne1_ BK153 hg); have n6_ := mk0 (ne2_ BK153 hg); replace BK153 := mk0 (u_ BK153 hb); replace HB := mk0 (bt_ (b_ HB) hb); have BK154 := mk0 (hbox); have GW154 := n3_; have GE154 := n4_; have NB153_154 := n5_; have NB154_153 := n6_; clear n3_ n4_ n5_ n6_ hb hbox hg; have hnb5 := NB153_154.out; have hnc5 := NB154_153.out; obtain ⟨hcz6_0, hcz6_1, hfz6_0, hfz6_1⟩ := c2_ BK153) | ((with_reducible refine gate_callee (f := 123) rfl ?_); refine gL_ (some 5) Try.func123 #[.slice A0_1 l0_1.length c0_1] (h := ?_); (with_reducible refine (api_Version_123.calls _ _ l0_1 t155 _ ?side1 ?side2 A2.out).mono ?_); (case side1 => exact cb_ HR0_1 HB); (case side2 => exact HC0_1.out); rintro e w7 ⟨v156, rfl, ho0, hb⟩; refine ⟨_, rfl, ?_⟩; have n0_ := mk0 (Kd.R_lower ho0 (bz_ (b_ HB))); replace BK153 := mk0 (u_ BK153 hb); replace BK154 := mk0 (blk_below (g := gb154) (o := .cells #[.string (⟨#[]⟩ : ByteArray), .slice none 0 0] 30 (0, 0)) (h_ BK154) hb); replace HB := mk0 (bt_ (b_ HB) hb); have HO157 := n0_; clear n0_; (try clear hb); (try clear ho0); obtain ⟨Ao8, co8, eo8⟩ := Kd.R_slice HO157.out; subst eo8; obtain ⟨hcz9_0, hcz9_1, hfz9_0, hfz9_1⟩ := c2_ BK153; obtain ⟨hcz10_0, hcz10_1, hfz10_0, hfz10_1⟩ := c2_ BK154))
 refine bodyPost_ret (results_cell_row rfl _ _ gb154 30 #[.string a0_0, .slice Ao8 t155.length co8] (0, 0) _ rfl (pu_ (cs := #[.string a0_0, .slice none 0 0]) (pu_ (cs := #[.string (⟨#[]⟩ : ByteArray), .slice none 0 0]) (fa_ (h_ BK154) NB154_153.out))) Try.underlying30 rfl (by kernel_rfl)) rfl ?_
 exact ⟨_, by first | rfl | (simp [errW_none, errW_some] <;> rfl) | (simp [*, errW_none, errW_some] <;> rfl), by (with_reducible repeat (first | apply Ra_ | apply Rn_ | apply Rd_)); exact Kd.R_mono (Kd.R_far (p := ⟨gb154, 1, none⟩) (Kd.R_far (p := ⟨gb154, 0, none⟩) (Kd.R_far (p := ⟨gb153, 1, none⟩) (Kd.R_types (Kd.R_types HO157.out BK153.out (by decide)) BK154.out (by decide)) (fun _ hk => hk.1.2) (.slice Ao8 t155.length co8)) (fun _ hk => hk.2) (.string a0_0)) (fun _ hk => hk.2) (.slice Ao8 t155.length co8)) (fun _ hk => trivial), b_ HB⟩

end Go.Proofs.Ytoodkefpkgbjcaa.PCht
