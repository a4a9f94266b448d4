-- PRINTED by print.py (a twelfth state) out of the translation. Not trusted: Lean checks it.
import Derived.Shelf.SlSorted.Search
import Derived.Test.YtbaecdcfefmcgaaPVowx0
import Derived.Test.YtbaecdcfefmcgaaPVowx4
namespace Go.Proofs.Ytbaecdcfefmcgaa.PVow
open Go.RowKit Go.Proofs.YtbaecdcfefmcgaaW.PrintWords Go.Proofs.YtbaecdcfefmcgaaW.PrintLast Go.Proofs.YtbaecdcfefmcgaaW.PrintMore
attribute [local go_sem] max2_int min2_int max_two min_two max_three min_three max_four min_four   -- for this text's walks alone
set_option linter.unusedVariables false
set_option linter.unusedSimpArgs false

/-! ### quorumref8_Table: function 37 -/
def quorumref8_Table.l0 : Nat → Int → List (S99) → Option (Bool)
 | 0, _, _ => none
 | k + 1, x3, x150000 => if x3 < (x150000.length : Int) then (if 0 ≤ x3 then ((quorumref8_Chain.f k ((rd_T99 x150000 x3).f0) ((rd_T99 x150000 x3).f1)).bind fun t151 => (if t151 = true then (if x3 > 0 then (if 0 ≤ (wrap64 (x3 - 1)) then (if (wrap64 (x3 - 1)) < (x150000.length : Int) then (if ((Op.bytesLess (((rd_T99 x150000 (wrap64 (x3 - 1))).f0).toList) (((rd_T99 x150000 x3).f0).toList)) = true) then (quorumref8_Table.l0 k (wrap64 (x3 + 1)) x150000) else (some false)) else (none)) else (none)) else (quorumref8_Table.l0 k (wrap64 (x3 + 1)) x150000)) else (some false))) else (none)) else ((quorumref8_Count.f k x150000).bind fun t154 => (some (decide (t154 ≤ 64))))
def quorumref8_Table.f (k : Nat) (l0_0 : List (S99)) : Option (Bool) := quorumref8_Table.l0 k 0 l0_0
theorem quorumref8_Table.mono_l : ∀ k, (∀ y0 y1, LeO (quorumref8_Table.l0 k y0 y1) (quorumref8_Table.l0 (k + 1) y0 y1))
 | 0 => fun _ _ r h => by simp [quorumref8_Table.l0] at h
 | k + 1 => by
  have ih0 := quorumref8_Table.mono_l k
  ·intro y0 y1
   unfold quorumref8_Table.l0
   repeat' first
   | (with_reducible exact ih0 _ _)
   | (with_reducible exact quorumref8_Chain.mono _ _ _)
   | (with_reducible exact quorumref8_Count.mono _ _)
   | (with_reducible exact LeO.refl _)
   | (with_reducible exact LeO.none _)
   | (with_reducible refine LeO.ite ?_ ?_)
   | (with_reducible refine LeO.bind ?_ (fun _ => ?_))
   | exact ih0 _ _
   | exact quorumref8_Chain.mono _ _ _
   | exact quorumref8_Count.mono _ _
   | exact LeO.none _
   | refine LeO.ite ?_ ?_
   | refine LeO.bind ?_ (fun _ => ?_)
theorem quorumref8_Table.mono : ∀ a0 k, LeO (quorumref8_Table.f k a0) (quorumref8_Table.f (k + 1) a0) := by
 intro a0 k
 have ih0 := quorumref8_Table.mono_l k
 unfold quorumref8_Table.f
 repeat' first
   | (with_reducible exact ih0 _ _)
   | (with_reducible exact quorumref8_Chain.mono _ _ _)
   | (with_reducible exact quorumref8_Count.mono _ _)
   | (with_reducible exact LeO.refl _)
   | (with_reducible exact LeO.none _)
   | (with_reducible refine LeO.ite ?_ ?_)
   | (with_reducible refine LeO.bind ?_ (fun _ => ?_))
   | exact ih0 _ _
   | exact quorumref8_Chain.mono _ _ _
   | exact quorumref8_Count.mono _ _
   | exact LeO.none _
   | refine LeO.ite ?_ ?_
   | refine LeO.bind ?_ (fun _ => ?_)
def quorumref8_Table.T4 : Bool × List (List Nat × List Nat) := (true, [([], []), ([0], [0]), ([], []), ([1, 2], [1, 2]), ([3], [3]), ([4], [4]), ([5], [5]), ([6, 5], [6]), ([7], [7]), ([8, 7], [7, 8]), ([9, 7, 7], [7, 9]), ([10], [10]), ([11, 10], [10, 11]), ([10], [10]), ([13, 10], [10, 13]), ([12, 14, 10], [10, 12, 14]), ([15, 10], [10, 15]), ([16, 10], [10, 16]), ([10], [10]), ([18, 10], [10, 18]), ([10], [10]), ([19, 20, 10], [10, 19, 20]), ([21, 10], [10, 21]), ([22, 10], [10, 22]), ([17, 23, 10], [10, 17, 23]), ([10, 24, 7], [7, 10, 24]), ([7, 25], [7, 25])])
def quorumref8_Table.B4 : List Nat := [0, 1, 0, 7, 15, 31, 63, 127, 255, 511, 1023, 2047, 4095, 2047, 10239, 32767, 65535, 131071, 2047, 264191, 2047, 1837055, 3934207, 8128511, 16777215, 33554431, 67108863]
theorem quorumref8_Table.tab4 : rtab .any (opsOf Try.f37 4) = quorumref8_Table.T4 := by kernel_rfl
theorem quorumref8_Table.bits4 : waitsOk quorumref8_Table.T4.2 quorumref8_Table.B4 = true := by kernel_rfl
set_option maxHeartbeats 8000000 in
set_option maxRecDepth 100000 in
theorem quorumref8_Table.calls (k : Nat) (A0_0 : Option Addr) (c0_0 : Nat) (l0_0 : List (S99)) (r : Bool) (w : World) (hr0_0 : Kd.C k99 w A0_0 l0_0.length l0_0) (hc0_0 : l0_0.length ≤ c0_0) (h : quorumref8_Table.f k l0_0 = some r) :
  Calls Try.prog 37 #[.agg #[.slice A0_0 l0_0.length c0_0]] w fun e w' => e = .returned (.bool r) ∧ Below w.heap.size w w' := by
 have hu47 := Try.underlying47
 have hu99 := Try.underlying99
 have HR0_0 := mk0 hr0_0
 have HC0_0 := mk0 hc0_0
 clear hr0_0 hc0_0
 have HB := mk0 (Below.refl w.heap.size w)
 have H : (quorumref8_Table.l0 k 0 l0_0) = some r := h
 clear h
 have H' := mk0 H
 clear H
 go_enter Try.func37, Try.ntmps37
 go_wp2_with (first | ((with_reducible refine gate_dst (N := 1) rfl ?_); refine bx_ (N := 1) (cs := #[.slice A0_0 l0_0.length c0_0]) (t := 47) (h := ?_); intro gb149 hg w2 hbox hb; have n2_ := mk0 (gz_ HB hg); have n3_ := mk0 (gz_ HB hg); replace HB := mk0 (bt_ (b_ HB) hb); have BK149 := mk0 (hbox); have GW149 := n2_; have GE149 := n3_; clear n2_ n3_; clear hb hbox hg))
 go_loopg [3] k (fun kq v3 w' => ∃ (x3_1 : Int), v3 = .int .i64 x3_1 ∧ Fc (quorumref8_Table.l0 kq x3_1 l0_0 = some r) ∧ Fc (kq ≤ k) ∧ Fc (w'.heap[gb149]? = some (.cells #[(.slice A0_0 l0_0.length c0_0)] 47 (0, 0))) ∧ Fc (Below w.heap.size w w'))
 case atStart => exact ⟨(0), (by first | rfl | (simp; done) | (simp [*]; done)), H', ⟨Nat.le_refl _⟩, ⟨h_ BK149⟩, ⟨b_ HB⟩⟩
 case round =>
  clear H'
  obtain ⟨x3_1, rfl, HA, HK1, BK149, HB⟩ := hrel
  cases gk with
  | zero => exact absurd HA.out (by simp [quorumref8_Table.l0])
  | succ k1 =>
   have H := HA.out
   clear HA
   simp only [quorumref8_Table.l0] at H
   as_aux_lemma =>
    by_cases c3 : x3_1 < (l0_0.length : Int)
    ·rw [if_pos c3] at H
     have c3b0 : decide (x3_1 < (l0_0.length : Int)) = true := decide_eq_true c3
     clear c3
     by_cases c4 : 0 ≤ x3_1
     ·rw [if_pos c4] at H
      have c4b0 : decide (0 ≤ x3_1) = true := decide_eq_true c4
      clear c4
      replace H := Option.bind_eq_some_iff.mp H
      obtain ⟨t151, A50, H⟩ := H
      try dsimp only at H
      have A5 := mk0 A50
      clear A50
      by_cases c6 : t151 = true
      ·subst c6
       rw [if_pos rfl] at H
       by_cases c7 : x3_1 > 0
       ·rw [if_pos c7] at H
        have c7b0 : decide (0 < x3_1) = true := decide_eq_true c7
        clear c7
        obtain ⟨ji8, hji8⟩ : ∃ j_ : Int, (wrap64 (x3_1 - 1)) = j_ := ⟨_, rfl⟩
        replace H : (if 0 ≤ (ji8) then (if (ji8) < (l0_0.length : Int) then (if ((Op.bytesLess (((rd_T99 l0_0 (ji8)).f0).toList) (((rd_T99 l0_0 x3_1).f0).toList)) = true) then (quorumref8_Table.l0 k1 (wrap64 (x3_1 + 1)) l0_0) else (some false)) else (none)) else (none)) = some r := by first | (rw [hji8] at H; exact H) | (simp only [hji8] at H ⊢; exact H)
        (try rw [hji8] at A5)
        have hji8w : (IntKind.i64.wrap (x3_1 - 1)) = ji8 := (i64_w _).trans hji8
        by_cases c9 : 0 ≤ (ji8)
        ·rw [if_pos c9] at H
         have c9b0 : decide (0 ≤ (ji8)) = true := decide_eq_true c9
         clear c9
         by_cases c10 : (ji8) < (l0_0.length : Int)
         ·rw [if_pos c10] at H
          have c10b0 : decide ((ji8) < (l0_0.length : Int)) = true := decide_eq_true c10
          clear c10
          by_cases c11 : ((Op.bytesLess (((rd_T99 l0_0 (ji8)).f0).toList) (((rd_T99 l0_0 x3_1).f0).toList)) = true)
          ·rw [if_pos c11] at H
           have c11b0 : (Op.bytesLess (((rd_T99 l0_0 (ji8)).f0).toList) (((rd_T99 l0_0 x3_1).f0).toList)) = true := c11
           have c11l0 : (Op.bytesLess (((rd_T99 l0_0 x3_1).f0).toList) (((rd_T99 l0_0 (ji8)).f0).toList) || (((rd_T99 l0_0 x3_1).f0).toList) == (((rd_T99 l0_0 (ji8)).f0).toList)) = false := by rw [leq_, c11b0]; rfl
           clear c11
           have H' := mk0 H
           clear H
           obtain ⟨hcz12_0, hfz12_0⟩ := c1_ BK149
           try go_wp2
           replace BK149 := mk0 (bD_ BK149.out)
           replace HB := mk0 (b1_ HB.out)
           have p150 : 0 ≤ (x3_1 : Int) := of_decide_eq_true (by first | (with_reducible assumption) | assumption)
           have q150 : x3_1 < (l0_0.length : Int) := of_decide_eq_true (by first | (with_reducible assumption) | assumption)
           obtain ⟨ad150, A150_1, c150_1, e150, hx150_0, hx150_1, hl150_1, hi150_1⟩ := at_T99 HR0_0.out x3_1 p150 q150
           have hw150_1 := hx150_1
           have hw150_0 := hx150_0
           cases e150
           replace hx150_0 := (bc_ HB hx150_0 :)
           replace hx150_1 := (bc_ HB hx150_1 :)
           have HR150_1 := mk0 hi150_1
           have HC150_1 := mk0 hl150_1
           clear hi150_1 hl150_1
           replace p150 := eq_true p150
           replace q150 := eq_true q150
           have p152 : 0 ≤ ((ji8) : Int) := of_decide_eq_true (by first | (with_reducible assumption) | assumption)
           have q152 : (ji8) < (l0_0.length : Int) := of_decide_eq_true (by first | (with_reducible assumption) | assumption)
           obtain ⟨ad152, A152_1, c152_1, e152, hx152_0, hx152_1, hl152_1, hi152_1⟩ := at_T99 HR0_0.out (ji8) p152 q152
           have hw152_1 := hx152_1
           have hw152_0 := hx152_0
           obtain rfl : ad150 = ad152 := (by injection e152)
           replace hx152_0 := (bc_ HB hx152_0 :)
           replace hx152_1 := (bc_ HB hx152_1 :)
           have HR152_1 := mk0 hi152_1
           have HC152_1 := mk0 hl152_1
           clear hi152_1 hl152_1
           replace p152 := eq_true p152
           replace q152 := eq_true q152
           have p153 : 0 ≤ (x3_1 : Int) := of_decide_eq_true (by first | (with_reducible assumption) | assumption)
           have q153 : x3_1 < (l0_0.length : Int) := of_decide_eq_true (by first | (with_reducible assumption) | assumption)
           obtain ⟨ad153, A153_1, c153_1, e153, hx153_0, hx153_1, hl153_1, hi153_1⟩ := at_T99 HR0_0.out x3_1 p153 q153
           have hw153_1 := hx153_1
           have hw153_0 := hx153_0
           obtain rfl : ad150 = ad153 := (by injection e153)
           replace hx153_0 := (bc_ HB hx153_0 :)
           replace hx153_1 := (bc_ HB hx153_1 :)
           have HR153_1 := mk0 hi153_1
           have HC153_1 := mk0 hl153_1
           clear hi153_1 hl153_1
           replace p153 := eq_true p153
           replace q153 := eq_true q153
           refine start_ (n := 27) (S := fun w' => w'.cell? ⟨gb149, 0, none⟩ = some (.slice (some ad150) l0_0.length c0_0) ∧ w'.cell? (ad150.add ((x3_1).toNat * 2)) = some (.string ((rd_T99 l0_0 x3_1).f0)) ∧ w'.cell? ⟨(ad150.add ((x3_1).toNat * 2)).block, (ad150.add ((x3_1).toNat * 2)).off + 1, none⟩ = some (.slice A150_1 ((rd_T99 l0_0 x3_1).f1).length c150_1) ∧ w'.cell? (ad150.add (((ji8)).toNat * 2)) = some (.string ((rd_T99 l0_0 (ji8)).f0)) ∧ w'.cell? ⟨(ad150.add (((ji8)).toNat * 2)).block, (ad150.add (((ji8)).toNat * 2)).off + 1, none⟩ = some (.slice A152_1 ((rd_T99 l0_0 (ji8)).f1).length c152_1) ∧ w'.cell? (ad150.add ((x3_1).toNat * 2)) = some (.string ((rd_T99 l0_0 x3_1).f0)) ∧ w'.cell? ⟨(ad150.add ((x3_1).toNat * 2)).block, (ad150.add ((x3_1).toNat * 2)).off + 1, none⟩ = some (.slice A153_1 ((rd_T99 l0_0 x3_1).f1).length c153_1)) (ds := []) (bt 27 0) (by kernel_rfl) rfl rfl ⟨bk_ BK149 0, ((bc_ HB hw150_0 :)), ((bc_ HB hw150_1 :)), ((bc_ HB hw152_0 :)), ((bc_ HB hw152_1 :)), ((bc_ HB hw153_0 :)), ((bc_ HB hw153_1 :))⟩ (fun hHeld => ?_); refine with_tabW quorumref8_Table.tab4 quorumref8_Table.bits4 (fun HT_ HW_ => ?_)
           generalize wr.drew = w13 at BK149 HB HR150_1 HR152_1 HR153_1 hx150_0 hx150_1 hx152_0 hx152_1 hx153_0 hx153_1 hHeld ⊢
           refine pq_ HT_.out 0 11 (bt 27 1) (h := ?_)
           refine pq_ HT_.out 2 13 (bt 27 5) (h := ?_)
           refine tq7_ HT_.out HW_.out 1 12 (bt 27 7) hHeld (h := ?_)
           refine pq_ HT_.out 3 14 (bt 27 15) (h := ?_)
           refine tq7_ HT_.out HW_.out 4 15 (bt 27 31) hHeld (h := ?_)
           refine one_ (i := 5) (N := some 16) (bt 27 63) rfl rfl (one_of HT_.out (by kernel_rfl)) (by decide) (fun K hK => ?_)
           refine goes_ Try.func92 (by kernel_rfl) rfl #[.agg #[.string ((rd_T99 l0_0 x3_1).f0), .slice A150_1 ((rd_T99 l0_0 x3_1).f1).length c150_1]] (by rfl) rfl rfl (by (try simp only [List.map_toArray, List.map_cons, List.map_nil]); first | done | rfl | (simp only [List.length_drop, List.length_take]; rfl)) ?_
           with_reducible refine (quorumref8_Chain.calls k1 ((rd_T99 l0_0 x3_1).f0) _ _ ((rd_T99 l0_0 x3_1).f1) true _ ?side1 ?side2 A5.out).mono ?_
           (case side1 => exact cb_ HR150_1 HB)
           (case side2 => exact HC150_1.out)
           rintro e w14 ⟨rfl, hb⟩
           refine ⟨_, rfl, ?_⟩
           replace BK149 := mk0 (u_ BK149 hb)
           replace HB := mk0 (bt_ (b_ HB) hb)
           (try clear hb)
           (try clear hb2)
           (try clear hk)
           (try clear hi)
           refine hK.out _ _ ⟨bk_ BK149 0, ((bc_ HB hw150_0 :)), ((bc_ HB hw150_1 :)), ((bc_ HB hw152_0 :)), ((bc_ HB hw152_1 :)), ((bc_ HB hw153_0 :)), ((bc_ HB hw153_1 :))⟩ (fun hHeld => ?_)
           clear hK K
           refine norm_ (a' := ?_) ?_ ?_
           rotate_left
           ·show Act.put _ (some 16) _ = _
            simp only [z_]
            rfl
           refine pq_ HT_.out 6 17 (bt 27 127) (h := ?_)
           refine pq_ HT_.out 7 18 (bt 27 255) (h := ?_)
           refine pq_ HT_.out 8 19 (bt 27 511) (h := ?_)
           refine pq_ HT_.out 9 20 (bt 27 1023) (h := ?_)
           refine pq_ HT_.out 10 21 (bt 27 2047) (h := ?_)
           refine pq_ HT_.out 11 22 (bt 27 4095) (h := ?_)
           refine pq_ HT_.out 13 24 (bt 27 12287) (h := ?_)
           refine pq_ HT_.out 14 25 (bt 27 28671) (h := ?_)
           refine pq_ HT_.out 18 29 (bt 27 290815) (h := ?_)
           refine pq_ HT_.out 20 31 (bt 27 1339391) (h := ?_)
           refine tq7_ HT_.out HW_.out 12 23 (bt 27 1343487) hHeld (h := ?_)
           refine pq_ HT_.out 15 26 (bt 27 1376255) (h := ?_)
           refine pq_ HT_.out 16 27 (bt 27 1441791) (h := ?_)
           refine tq7_ HT_.out HW_.out 17 28 (bt 27 1572863) hHeld (h := ?_)
           refine tq7_ HT_.out HW_.out 19 30 (bt 27 2097151) hHeld (h := ?_)
           refine pq_ HT_.out 21 32 (bt 27 4194303) (h := ?_)
           refine pq_ HT_.out 22 33 (bt 27 8388607) (h := ?_)
           refine tq7_ HT_.out HW_.out 23 34 (bt 27 16777215) hHeld (h := ?_)
           refine pq_ HT_.out 24 35 (bt 27 33554431) (h := ?_)
           refine pq_ HT_.out 25 36 (bt 27 67108863) (h := ?_)
           refine pq_ HT_.out 26 37 (bt 27 134217727) (h := ?_)
           refine done_ (done_of HT_.out (by kernel_rfl)) ?_
           try go_wp2
           go_roundg k1
           case measure => have := HK1.out; omega
           case rel => exact ⟨(wrap64 (x3_1 + 1)), (by first | rfl | (simp; done) | (simp [*]; done)), H', ⟨by have := HK1.out; omega⟩, ⟨h_ BK149⟩, ⟨b_ HB⟩⟩
          ·rw [if_neg c11] at H
           have c11b0 : (Op.bytesLess (((rd_T99 l0_0 (ji8)).f0).toList) (((rd_T99 l0_0 x3_1).f0).toList)) = false := by simpa using c11
           have c11l0 : (Op.bytesLess (((rd_T99 l0_0 x3_1).f0).toList) (((rd_T99 l0_0 (ji8)).f0).toList) || (((rd_T99 l0_0 x3_1).f0).toList) == (((rd_T99 l0_0 (ji8)).f0).toList)) = true := by rw [leq_, c11b0]; rfl
           clear c11
           obtain rfl := Option.some.inj H
           obtain ⟨hcz15_0, hfz15_0⟩ := c1_ BK149
           try go_wp2
           replace BK149 := mk0 (bD_ BK149.out)
           replace HB := mk0 (b1_ HB.out)
           have p150 : 0 ≤ (x3_1 : Int) := of_decide_eq_true (by first | (with_reducible assumption) | assumption)
           have q150 : x3_1 < (l0_0.length : Int) := of_decide_eq_true (by first | (with_reducible assumption) | assumption)
           obtain ⟨ad150, A150_1, c150_1, e150, hx150_0, hx150_1, hl150_1, hi150_1⟩ := at_T99 HR0_0.out x3_1 p150 q150
           have hw150_1 := hx150_1
           have hw150_0 := hx150_0
           cases e150
           replace hx150_0 := (bc_ HB hx150_0 :)
           replace hx150_1 := (bc_ HB hx150_1 :)
           have HR150_1 := mk0 hi150_1
           have HC150_1 := mk0 hl150_1
           clear hi150_1 hl150_1
           replace p150 := eq_true p150
           replace q150 := eq_true q150
           have p152 : 0 ≤ ((ji8) : Int) := of_decide_eq_true (by first | (with_reducible assumption) | assumption)
           have q152 : (ji8) < (l0_0.length : Int) := of_decide_eq_true (by first | (with_reducible assumption) | assumption)
           obtain ⟨ad152, A152_1, c152_1, e152, hx152_0, hx152_1, hl152_1, hi152_1⟩ := at_T99 HR0_0.out (ji8) p152 q152
           have hw152_1 := hx152_1
           have hw152_0 := hx152_0
           obtain rfl : ad150 = ad152 := (by injection e152)
           replace hx152_0 := (bc_ HB hx152_0 :)
           replace hx152_1 := (bc_ HB hx152_1 :)
           have HR152_1 := mk0 hi152_1
           have HC152_1 := mk0 hl152_1
           clear hi152_1 hl152_1
           replace p152 := eq_true p152
           replace q152 := eq_true q152
           have p153 : 0 ≤ (x3_1 : Int) := of_decide_eq_true (by first | (with_reducible assumption) | assumption)
           have q153 : x3_1 < (l0_0.length : Int) := of_decide_eq_true (by first | (with_reducible assumption) | assumption)
           obtain ⟨ad153, A153_1, c153_1, e153, hx153_0, hx153_1, hl153_1, hi153_1⟩ := at_T99 HR0_0.out x3_1 p153 q153
           have hw153_1 := hx153_1
           have hw153_0 := hx153_0
           obtain rfl : ad150 = ad153 := (by injection e153)
           replace hx153_0 := (bc_ HB hx153_0 :)
           replace hx153_1 := (bc_ HB hx153_1 :)
           have HR153_1 := mk0 hi153_1
           have HC153_1 := mk0 hl153_1
           clear hi153_1 hl153_1
           replace p153 := eq_true p153
           replace q153 := eq_true q153
           refine start_ (n := 27) (S := fun w' => w'.cell? ⟨gb149, 0, none⟩ = some (.slice (some ad150) l0_0.length c0_0) ∧ w'.cell? (ad150.add ((x3_1).toNat * 2)) = some (.string ((rd_T99 l0_0 x3_1).f0)) ∧ w'.cell? ⟨(ad150.add ((x3_1).toNat * 2)).block, (ad150.add ((x3_1).toNat * 2)).off + 1, none⟩ = some (.slice A150_1 ((rd_T99 l0_0 x3_1).f1).length c150_1) ∧ w'.cell? (ad150.add (((ji8)).toNat * 2)) = some (.string ((rd_T99 l0_0 (ji8)).f0)) ∧ w'.cell? ⟨(ad150.add (((ji8)).toNat * 2)).block, (ad150.add (((ji8)).toNat * 2)).off + 1, none⟩ = some (.slice A152_1 ((rd_T99 l0_0 (ji8)).f1).length c152_1) ∧ w'.cell? (ad150.add ((x3_1).toNat * 2)) = some (.string ((rd_T99 l0_0 x3_1).f0)) ∧ w'.cell? ⟨(ad150.add ((x3_1).toNat * 2)).block, (ad150.add ((x3_1).toNat * 2)).off + 1, none⟩ = some (.slice A153_1 ((rd_T99 l0_0 x3_1).f1).length c153_1)) (ds := []) (bt 27 0) (by kernel_rfl) rfl rfl ⟨bk_ BK149 0, ((bc_ HB hw150_0 :)), ((bc_ HB hw150_1 :)), ((bc_ HB hw152_0 :)), ((bc_ HB hw152_1 :)), ((bc_ HB hw153_0 :)), ((bc_ HB hw153_1 :))⟩ (fun hHeld => ?_); refine with_tabW quorumref8_Table.tab4 quorumref8_Table.bits4 (fun HT_ HW_ => ?_)
           generalize wr.drew = w16 at BK149 HB HR150_1 HR152_1 HR153_1 hx150_0 hx150_1 hx152_0 hx152_1 hx153_0 hx153_1 hHeld ⊢
           refine pq_ HT_.out 0 11 (bt 27 1) (h := ?_)
           refine pq_ HT_.out 2 13 (bt 27 5) (h := ?_)
           refine tq7_ HT_.out HW_.out 1 12 (bt 27 7) hHeld (h := ?_)
           refine pq_ HT_.out 3 14 (bt 27 15) (h := ?_)
           refine tq7_ HT_.out HW_.out 4 15 (bt 27 31) hHeld (h := ?_)
           refine one_ (i := 5) (N := some 16) (bt 27 63) rfl rfl (one_of HT_.out (by kernel_rfl)) (by decide) (fun K hK => ?_)
           refine goes_ Try.func92 (by kernel_rfl) rfl #[.agg #[.string ((rd_T99 l0_0 x3_1).f0), .slice A150_1 ((rd_T99 l0_0 x3_1).f1).length c150_1]] (by rfl) rfl rfl (by (try simp only [List.map_toArray, List.map_cons, List.map_nil]); first | done | rfl | (simp only [List.length_drop, List.length_take]; rfl)) ?_
           with_reducible refine (quorumref8_Chain.calls k1 ((rd_T99 l0_0 x3_1).f0) _ _ ((rd_T99 l0_0 x3_1).f1) true _ ?side1 ?side2 A5.out).mono ?_
           (case side1 => exact cb_ HR150_1 HB)
           (case side2 => exact HC150_1.out)
           rintro e w17 ⟨rfl, hb⟩
           refine ⟨_, rfl, ?_⟩
           replace BK149 := mk0 (u_ BK149 hb)
           replace HB := mk0 (bt_ (b_ HB) hb)
           (try clear hb)
           (try clear hb2)
           (try clear hk)
           (try clear hi)
           refine hK.out _ _ ⟨bk_ BK149 0, ((bc_ HB hw150_0 :)), ((bc_ HB hw150_1 :)), ((bc_ HB hw152_0 :)), ((bc_ HB hw152_1 :)), ((bc_ HB hw153_0 :)), ((bc_ HB hw153_1 :))⟩ (fun hHeld => ?_)
           clear hK K
           refine norm_ (a' := ?_) ?_ ?_
           rotate_left
           ·show Act.put _ (some 16) _ = _
            simp only [z_]
            rfl
           refine pq_ HT_.out 6 17 (bt 27 127) (h := ?_)
           refine pq_ HT_.out 7 18 (bt 27 255) (h := ?_)
           refine pq_ HT_.out 8 19 (bt 27 511) (h := ?_)
           refine pq_ HT_.out 9 20 (bt 27 1023) (h := ?_)
           refine pq_ HT_.out 10 21 (bt 27 2047) (h := ?_)
           refine pq_ HT_.out 11 22 (bt 27 4095) (h := ?_)
           refine pq_ HT_.out 13 24 (bt 27 12287) (h := ?_)
           refine pq_ HT_.out 14 25 (bt 27 28671) (h := ?_)
           refine pq_ HT_.out 18 29 (bt 27 290815) (h := ?_)
           refine pq_ HT_.out 20 31 (bt 27 1339391) (h := ?_)
           refine tq7_ HT_.out HW_.out 12 23 (bt 27 1343487) hHeld (h := ?_)
           refine pq_ HT_.out 15 26 (bt 27 1376255) (h := ?_)
           refine pq_ HT_.out 16 27 (bt 27 1441791) (h := ?_)
           refine tq7_ HT_.out HW_.out 17 28 (bt 27 1572863) hHeld (h := ?_)
           refine tq7_ HT_.out HW_.out 19 30 (bt 27 2097151) hHeld (h := ?_)
           refine pq_ HT_.out 21 32 (bt 27 4194303) (h := ?_)
           refine pq_ HT_.out 22 33 (bt 27 8388607) (h := ?_)
           refine tq7_ HT_.out HW_.out 23 34 (bt 27 16777215) hHeld (h := ?_)
           refine pq_ HT_.out 24 35 (bt 27 33554431) (h := ?_)
           refine pq_ HT_.out 25 36 (bt 27 67108863) (h := ?_)
           refine pq_ HT_.out 26 37 (bt 27 134217727) (h := ?_)
           refine done_ (done_of HT_.out (by kernel_rfl)) ?_
           try go_wp2
           go_ret
           exact ⟨by first | rfl | (simp [errW_none, errW_some] <;> rfl) | (simp only [← hji8]; first | rfl | (simp [errW_none, errW_some] <;> rfl)) | (simp [*, errW_none, errW_some] <;> rfl), b_ HB⟩
         ·rw [if_neg c10] at H
          exact absurd H (by simp)
        ·rw [if_neg c9] at H
         exact absurd H (by simp)
       ·rw [if_neg c7] at H
        have c7b0 : decide (0 < x3_1) = false := decide_eq_false c7
        clear c7
        have H' := mk0 H
        clear H
        obtain ⟨hcz18_0, hfz18_0⟩ := c1_ BK149
        try go_wp2
        replace BK149 := mk0 (bD_ BK149.out)
        replace HB := mk0 (b1_ HB.out)
        have p150 : 0 ≤ (x3_1 : Int) := of_decide_eq_true (by first | (with_reducible assumption) | assumption)
        have q150 : x3_1 < (l0_0.length : Int) := of_decide_eq_true (by first | (with_reducible assumption) | assumption)
        obtain ⟨ad150, A150_1, c150_1, e150, hx150_0, hx150_1, hl150_1, hi150_1⟩ := at_T99 HR0_0.out x3_1 p150 q150
        have hw150_1 := hx150_1
        have hw150_0 := hx150_0
        cases e150
        replace hx150_0 := (bc_ HB hx150_0 :)
        replace hx150_1 := (bc_ HB hx150_1 :)
        have HR150_1 := mk0 hi150_1
        have HC150_1 := mk0 hl150_1
        clear hi150_1 hl150_1
        replace p150 := eq_true p150
        replace q150 := eq_true q150
        refine start_ (n := 27) (S := fun w' => w'.cell? ⟨gb149, 0, none⟩ = some (.slice (some ad150) l0_0.length c0_0) ∧ w'.cell? (ad150.add ((x3_1).toNat * 2)) = some (.string ((rd_T99 l0_0 x3_1).f0)) ∧ w'.cell? ⟨(ad150.add ((x3_1).toNat * 2)).block, (ad150.add ((x3_1).toNat * 2)).off + 1, none⟩ = some (.slice A150_1 ((rd_T99 l0_0 x3_1).f1).length c150_1)) (ds := []) (bt 27 0) (by kernel_rfl) rfl rfl ⟨bk_ BK149 0, ((bc_ HB hw150_0 :)), ((bc_ HB hw150_1 :))⟩ (fun hHeld => ?_); refine with_tabW quorumref8_Table.tab4 quorumref8_Table.bits4 (fun HT_ HW_ => ?_)
        generalize wr.drew = w19 at BK149 HB HR150_1 hx150_0 hx150_1 hHeld ⊢
        refine pq_ HT_.out 0 11 (bt 27 1) (h := ?_)
        refine pq_ HT_.out 2 13 (bt 27 5) (h := ?_)
        refine tq3_ HT_.out HW_.out 1 12 (bt 27 7) hHeld (h := ?_)
        refine pq_ HT_.out 3 14 (bt 27 15) (h := ?_)
        refine tq3_ HT_.out HW_.out 4 15 (bt 27 31) hHeld (h := ?_)
        refine one_ (i := 5) (N := some 16) (bt 27 63) rfl rfl (one_of HT_.out (by kernel_rfl)) (by decide) (fun K hK => ?_)
        refine goes_ Try.func92 (by kernel_rfl) rfl #[.agg #[.string ((rd_T99 l0_0 x3_1).f0), .slice A150_1 ((rd_T99 l0_0 x3_1).f1).length c150_1]] (by rfl) rfl rfl (by (try simp only [List.map_toArray, List.map_cons, List.map_nil]); first | done | rfl | (simp only [List.length_drop, List.length_take]; rfl)) ?_
        with_reducible refine (quorumref8_Chain.calls k1 ((rd_T99 l0_0 x3_1).f0) _ _ ((rd_T99 l0_0 x3_1).f1) true _ ?side1 ?side2 A5.out).mono ?_
        (case side1 => exact cb_ HR150_1 HB)
        (case side2 => exact HC150_1.out)
        rintro e w20 ⟨rfl, hb⟩
        refine ⟨_, rfl, ?_⟩
        replace BK149 := mk0 (u_ BK149 hb)
        replace HB := mk0 (bt_ (b_ HB) hb)
        (try clear hb)
        (try clear hb2)
        (try clear hk)
        (try clear hi)
        refine hK.out _ _ ⟨bk_ BK149 0, ((bc_ HB hw150_0 :)), ((bc_ HB hw150_1 :))⟩ (fun hHeld => ?_)
        clear hK K
        refine norm_ (a' := ?_) ?_ ?_
        rotate_left
        ·show Act.put _ (some 16) _ = _
         simp only [z_]
         rfl
        refine pq_ HT_.out 6 17 (bt 27 127) (h := ?_)
        refine pq_ HT_.out 7 18 (bt 27 255) (h := ?_)
        refine pq_ HT_.out 8 19 (bt 27 511) (h := ?_)
        refine pq_ HT_.out 9 20 (bt 27 1023) (h := ?_)
        refine pq_ HT_.out 10 21 (bt 27 2047) (h := ?_)
        refine uq_ HT_.out 11 22 (bt 27 4095) (h := ?_)
        refine uq_ HT_.out 12 23 (bt 27 8191) (h := ?_)
        refine uq_ HT_.out 13 24 (bt 27 16383) (h := ?_)
        refine uq_ HT_.out 14 25 (bt 27 32767) (h := ?_)
        refine uq_ HT_.out 15 26 (bt 27 65535) (h := ?_)
        refine uq_ HT_.out 16 27 (bt 27 131071) (h := ?_)
        refine uq_ HT_.out 17 28 (bt 27 262143) (h := ?_)
        refine uq_ HT_.out 18 29 (bt 27 524287) (h := ?_)
        refine uq_ HT_.out 19 30 (bt 27 1048575) (h := ?_)
        refine uq_ HT_.out 20 31 (bt 27 2097151) (h := ?_)
        refine uq_ HT_.out 21 32 (bt 27 4194303) (h := ?_)
        refine uq_ HT_.out 22 33 (bt 27 8388607) (h := ?_)
        refine uq_ HT_.out 23 34 (bt 27 16777215) (h := ?_)
        refine uq_ HT_.out 24 35 (bt 27 33554431) (h := ?_)
        refine pq_ HT_.out 25 36 (bt 27 67108863) (h := ?_)
        refine pq_ HT_.out 26 37 (bt 27 134217727) (h := ?_)
        refine done_ (done_of HT_.out (by kernel_rfl)) ?_
        try go_wp2
        go_roundg k1
        case measure => have := HK1.out; omega
        case rel => exact ⟨(wrap64 (x3_1 + 1)), (by first | rfl | (simp; done) | (simp [*]; done)), H', ⟨by have := HK1.out; omega⟩, ⟨h_ BK149⟩, ⟨b_ HB⟩⟩
      ·replace c6 := Bool.eq_false_iff.mpr c6
       subst c6
       rw [if_neg (show ¬ (false = true) by decide)] at H
       obtain rfl := Option.some.inj H
       obtain ⟨hcz21_0, hfz21_0⟩ := c1_ BK149
       try go_wp2
       replace BK149 := mk0 (bD_ BK149.out)
       replace HB := mk0 (b1_ HB.out)
       have p150 : 0 ≤ (x3_1 : Int) := of_decide_eq_true (by first | (with_reducible assumption) | assumption)
       have q150 : x3_1 < (l0_0.length : Int) := of_decide_eq_true (by first | (with_reducible assumption) | assumption)
       obtain ⟨ad150, A150_1, c150_1, e150, hx150_0, hx150_1, hl150_1, hi150_1⟩ := at_T99 HR0_0.out x3_1 p150 q150
       have hw150_1 := hx150_1
       have hw150_0 := hx150_0
       cases e150
       replace hx150_0 := (bc_ HB hx150_0 :)
       replace hx150_1 := (bc_ HB hx150_1 :)
       have HR150_1 := mk0 hi150_1
       have HC150_1 := mk0 hl150_1
       clear hi150_1 hl150_1
       replace p150 := eq_true p150
       replace q150 := eq_true q150
       refine start_ (n := 27) (S := fun w' => w'.cell? ⟨gb149, 0, none⟩ = some (.slice (some ad150) l0_0.length c0_0) ∧ w'.cell? (ad150.add ((x3_1).toNat * 2)) = some (.string ((rd_T99 l0_0 x3_1).f0)) ∧ w'.cell? ⟨(ad150.add ((x3_1).toNat * 2)).block, (ad150.add ((x3_1).toNat * 2)).off + 1, none⟩ = some (.slice A150_1 ((rd_T99 l0_0 x3_1).f1).length c150_1)) (ds := []) (bt 27 0) (by kernel_rfl) rfl rfl ⟨bk_ BK149 0, ((bc_ HB hw150_0 :)), ((bc_ HB hw150_1 :))⟩ (fun hHeld => ?_); refine with_tabW quorumref8_Table.tab4 quorumref8_Table.bits4 (fun HT_ HW_ => ?_)
       generalize wr.drew = w22 at BK149 HB HR150_1 hx150_0 hx150_1 hHeld ⊢
       refine pq_ HT_.out 0 11 (bt 27 1) (h := ?_)
       refine pq_ HT_.out 2 13 (bt 27 5) (h := ?_)
       refine tq3_ HT_.out HW_.out 1 12 (bt 27 7) hHeld (h := ?_)
       refine pq_ HT_.out 3 14 (bt 27 15) (h := ?_)
       refine tq3_ HT_.out HW_.out 4 15 (bt 27 31) hHeld (h := ?_)
       refine one_ (i := 5) (N := some 16) (bt 27 63) rfl rfl (one_of HT_.out (by kernel_rfl)) (by decide) (fun K hK => ?_)
       refine goes_ Try.func92 (by kernel_rfl) rfl #[.agg #[.string ((rd_T99 l0_0 x3_1).f0), .slice A150_1 ((rd_T99 l0_0 x3_1).f1).length c150_1]] (by rfl) rfl rfl (by (try simp only [List.map_toArray, List.map_cons, List.map_nil]); first | done | rfl | (simp only [List.length_drop, List.length_take]; rfl)) ?_
       with_reducible refine (quorumref8_Chain.calls k1 ((rd_T99 l0_0 x3_1).f0) _ _ ((rd_T99 l0_0 x3_1).f1) false _ ?side1 ?side2 A5.out).mono ?_
       (case side1 => exact cb_ HR150_1 HB)
       (case side2 => exact HC150_1.out)
       rintro e w23 ⟨rfl, hb⟩
       refine ⟨_, rfl, ?_⟩
       replace BK149 := mk0 (u_ BK149 hb)
       replace HB := mk0 (bt_ (b_ HB) hb)
       (try clear hb)
       (try clear hb2)
       (try clear hk)
       (try clear hi)
       refine hK.out _ _ ⟨bk_ BK149 0, ((bc_ HB hw150_0 :)), ((bc_ HB hw150_1 :))⟩ (fun hHeld => ?_)
       clear hK K
       refine norm_ (a' := ?_) ?_ ?_
       rotate_left
       ·show Act.put _ (some 16) _ = _
        simp only [z_]
        rfl
       refine pq_ HT_.out 6 17 (bt 27 127) (h := ?_)
       refine pq_ HT_.out 7 18 (bt 27 255) (h := ?_)
       refine uq_ HT_.out 8 19 (bt 27 511) (h := ?_)
       refine uq_ HT_.out 9 20 (bt 27 1023) (h := ?_)
       refine uq_ HT_.out 10 21 (bt 27 2047) (h := ?_)
       refine uq_ HT_.out 11 22 (bt 27 4095) (h := ?_)
       refine uq_ HT_.out 12 23 (bt 27 8191) (h := ?_)
       refine uq_ HT_.out 13 24 (bt 27 16383) (h := ?_)
       refine uq_ HT_.out 14 25 (bt 27 32767) (h := ?_)
       refine uq_ HT_.out 15 26 (bt 27 65535) (h := ?_)
       refine uq_ HT_.out 16 27 (bt 27 131071) (h := ?_)
       refine uq_ HT_.out 17 28 (bt 27 262143) (h := ?_)
       refine uq_ HT_.out 18 29 (bt 27 524287) (h := ?_)
       refine uq_ HT_.out 19 30 (bt 27 1048575) (h := ?_)
       refine uq_ HT_.out 20 31 (bt 27 2097151) (h := ?_)
       refine uq_ HT_.out 21 32 (bt 27 4194303) (h := ?_)
       refine uq_ HT_.out 22 33 (bt 27 8388607) (h := ?_)
       refine uq_ HT_.out 23 34 (bt 27 16777215) (h := ?_)
       refine uq_ HT_.out 24 35 (bt 27 33554431) (h := ?_)
       refine uq_ HT_.out 25 36 (bt 27 67108863) (h := ?_)
       refine pq_ HT_.out 26 37 (bt 27 134217727) (h := ?_)
       refine done_ (done_of HT_.out (by kernel_rfl)) ?_
       try go_wp2
       go_ret
       exact ⟨by first | rfl | (simp [errW_none, errW_some] <;> rfl) | (simp [*, errW_none, errW_some] <;> rfl), b_ HB⟩
     ·rw [if_neg c4] at H
      exact absurd H (by simp)
    ·rw [if_neg c3] at H
     have c3b0 : decide (x3_1 < (l0_0.length : Int)) = false := decide_eq_false c3
     clear c3
     replace H := Option.bind_eq_some_iff.mp H
     obtain ⟨t154, A240, H⟩ := H
     try dsimp only at H
     have A24 := mk0 A240
     clear A240
     obtain rfl := Option.some.inj H
     obtain ⟨hcz25_0, hfz25_0⟩ := c1_ BK149
     go_wp2_with (first | ((with_reducible refine gate_callee (f := 75) rfl ?_); refine gL_ (some 39) Try.func75 #[.agg #[.slice A0_0 l0_0.length c0_0]] (h := ?_); (with_reducible refine (quorumref8_Count.calls k1 _ _ l0_0 t154 _ ?side1 ?side2 A24.out).mono ?_); (case side1 => exact cb_ HR0_0 HB); (case side2 => exact HC0_0.out); rintro e w26 ⟨rfl, hb⟩; refine ⟨_, rfl, ?_⟩; replace BK149 := mk0 (u_ BK149 hb); replace HB := mk0 (bt_ (b_ HB) hb); (try clear hb)))
     go_ret
     exact ⟨by first | rfl | (simp [errW_none, errW_some] <;> rfl) | (simp [*, errW_none, errW_some] <;> rfl), b_ HB⟩

/-! ### quorumref8_Tables: function 15 -/
mutual
def quorumref8_Tables.l0 : Nat → List (S47) → Int → Option (Bool)
 | 0, _, _ => none
 | k + 1, x0, x3 => if x3 < (x0.length : Int) then (quorumref8_Tables.j1 k x0 x3 (decide (x3 ≤ 3))) else (quorumref8_Tables.j1 k x0 x3 false)
def quorumref8_Tables.j1 : Nat → List (S47) → Int → Bool → Option (Bool)
 | 0, _, _, _ => none
 | k + 1, x0, x3, x11 => if x11 = true then (if 0 ≤ x3 then (if x3 < (x0.length : Int) then ((quorumref8_Table.f k ((rd_T47 x0 x3).f0)).bind fun t156 => (if t156 = true then (quorumref8_Tables.l0 k x0 (wrap64 (x3 + 1))) else (some false))) else (none)) else (none)) else (some (decide ((x0.length : Int) ≤ 3)))
end
def quorumref8_Tables.f (k : Nat) (l0 : List (S47)) : Option (Bool) := quorumref8_Tables.l0 k l0 0
theorem quorumref8_Tables.mono_l : ∀ k, (∀ y0 y1, LeO (quorumref8_Tables.l0 k y0 y1) (quorumref8_Tables.l0 (k + 1) y0 y1)) ∧ (∀ y0 y1 y2, LeO (quorumref8_Tables.j1 k y0 y1 y2) (quorumref8_Tables.j1 (k + 1) y0 y1 y2))
 | 0 => ⟨fun _ _ r h => by simp [quorumref8_Tables.l0] at h, fun _ _ _ r h => by simp [quorumref8_Tables.j1] at h⟩
 | k + 1 => by
  obtain ⟨ih0, ih1⟩ := quorumref8_Tables.mono_l k
  refine ⟨?_, ?_⟩
  ·intro y0 y1
   unfold quorumref8_Tables.l0
   repeat' first
   | (with_reducible exact ih0 _ _)
   | (with_reducible exact ih1 _ _ _)
   | (with_reducible exact quorumref8_Table.mono _ _)
   | (with_reducible exact LeO.refl _)
   | (with_reducible exact LeO.none _)
   | (with_reducible refine LeO.ite ?_ ?_)
   | (with_reducible refine LeO.bind ?_ (fun _ => ?_))
   | exact ih0 _ _
   | exact ih1 _ _ _
   | exact quorumref8_Table.mono _ _
   | exact LeO.none _
   | refine LeO.ite ?_ ?_
   | refine LeO.bind ?_ (fun _ => ?_)
  ·intro y0 y1 y2
   unfold quorumref8_Tables.j1
   repeat' first
   | (with_reducible exact ih0 _ _)
   | (with_reducible exact ih1 _ _ _)
   | (with_reducible exact quorumref8_Table.mono _ _)
   | (with_reducible exact LeO.refl _)
   | (with_reducible exact LeO.none _)
   | (with_reducible refine LeO.ite ?_ ?_)
   | (with_reducible refine LeO.bind ?_ (fun _ => ?_))
   | exact ih0 _ _
   | exact ih1 _ _ _
   | exact quorumref8_Table.mono _ _
   | exact LeO.none _
   | refine LeO.ite ?_ ?_
   | refine LeO.bind ?_ (fun _ => ?_)
theorem quorumref8_Tables.mono : ∀ a0 k, LeO (quorumref8_Tables.f k a0) (quorumref8_Tables.f (k + 1) a0) := by
 intro a0 k
 obtain ⟨ih0, ih1⟩ := quorumref8_Tables.mono_l k
 unfold quorumref8_Tables.f
 repeat' first
   | (with_reducible exact ih0 _ _)
   | (with_reducible exact ih1 _ _ _)
   | (with_reducible exact quorumref8_Table.mono _ _)
   | (with_reducible exact LeO.refl _)
   | (with_reducible exact LeO.none _)
   | (with_reducible refine LeO.ite ?_ ?_)
   | (with_reducible refine LeO.bind ?_ (fun _ => ?_))
   | exact ih0 _ _
   | exact ih1 _ _ _
   | exact quorumref8_Table.mono _ _
   | exact LeO.none _
   | refine LeO.ite ?_ ?_
   | refine LeO.bind ?_ (fun _ => ?_)
set_option maxHeartbeats 8000000 in
set_option maxRecDepth 100000 in
theorem quorumref8_Tables.calls (k : Nat) (A0 : Option Addr) (c0 : Nat) (l0 : List (S47)) (r : Bool) (w : World) (hr0 : Kd.C k47 w A0 l0.length l0) (hc0 : l0.length ≤ c0) (h : quorumref8_Tables.f k l0 = some r) :
  Calls Try.prog 15 #[.slice A0 l0.length c0] w fun e w' => e = .returned (.bool r) ∧ Below w.heap.size w w' := by
 have hu47 := Try.underlying47
 have HR0 := mk0 hr0
 have HC0 := mk0 hc0
 clear hr0 hc0
 have HB := mk0 (Below.refl w.heap.size w)
 have H : (quorumref8_Tables.l0 k l0 0) = some r := h
 clear h
 have H' := mk0 H
 clear H
 go_enter Try.func15, Try.ntmps15
 go_wp2
 go_loopg [3] k (fun kq v3 w' => ∃ (x3_1 : Int), v3 = .int .i64 x3_1 ∧ Fc (quorumref8_Tables.l0 kq l0 x3_1 = some r) ∧ Fc (kq ≤ k) ∧ Fc (Below w.heap.size w w'))
 case atStart => exact ⟨(0), (by first | rfl | (simp; done) | (simp [*]; done)), H', ⟨Nat.le_refl _⟩, ⟨b_ HB⟩⟩
 case round =>
  clear H'
  obtain ⟨x3_1, rfl, HA, HK1, HB⟩ := hrel
  cases gk with
  | zero => exact absurd HA.out (by simp [quorumref8_Tables.l0])
  | succ k1 =>
   have H := HA.out
   clear HA
   simp only [quorumref8_Tables.l0] at H
   as_aux_lemma =>
    have HC2 := mk0 H
    clear H
    go_upto_region 2 with (fail)
    go_cut [11] (fun v11 wc => ∃ (kq : Nat) (x11_1 : Bool), v11 = .bool x11_1 ∧ Fc (quorumref8_Tables.j1 kq l0 x3_1 x11_1 = some r) ∧ Fc (kq ≤ k1) ∧ Fc (Below w.heap.size w wc))
    case first =>
     have H := HC2.out
     clear HC2
     by_cases c3 : x3_1 < (l0.length : Int)
     ·rw [if_pos c3] at H
      have c3b0 : decide (x3_1 < (l0.length : Int)) = true := decide_eq_true c3
      clear c3
      (first | rw [c3b0] | (simp only [i64_w, i32_w]; rw [c3b0]) | skip)
      have H' := mk0 H
      clear H
      go_wp2
      go_meet
      case rel => exact ⟨_, (decide (x3_1 ≤ 3)), (by first | rfl | (simp; done) | (simp [*]; done)), H', ⟨by have := HK1.out; first | omega | exact Nat.le_refl _⟩, ⟨b_ HB⟩⟩
     ·rw [if_neg c3] at H
      have c3b0 : decide (x3_1 < (l0.length : Int)) = false := decide_eq_false c3
      clear c3
      (first | rw [c3b0] | (simp only [i64_w, i32_w]; rw [c3b0]) | skip)
      have H' := mk0 H
      clear H
      go_wp2
      go_meet
      case rel => exact ⟨_, (false), (by first | rfl | (simp; done) | (simp [*]; done)), H', ⟨by have := HK1.out; first | omega | exact Nat.le_refl _⟩, ⟨b_ HB⟩⟩
    case rest =>
     clear HC2
     try clear c3
     try clear c3b0
     obtain ⟨kq, x11_1, rfl, HA, HJ1, HB⟩ := hcut
     cases kq with
     | zero => exact absurd HA.out (by simp [quorumref8_Tables.j1])
     | succ kj1 =>
      have H := HA.out
      clear HA
      simp only [quorumref8_Tables.j1] at H
      as_aux_lemma =>
       by_cases c4 : x11_1 = true
       ·subst c4
        rw [if_pos rfl] at H
        by_cases c5 : 0 ≤ x3_1
        ·rw [if_pos c5] at H
         have c5b0 : decide (0 ≤ x3_1) = true := decide_eq_true c5
         clear c5
         by_cases c6 : x3_1 < (l0.length : Int)
         ·rw [if_pos c6] at H
          have c6b0 : decide (x3_1 < (l0.length : Int)) = true := decide_eq_true c6
          clear c6
          replace H := Option.bind_eq_some_iff.mp H
          obtain ⟨t156, A70, H⟩ := H
          try dsimp only at H
          have A7 := mk0 A70
          clear A70
          by_cases c8 : t156 = true
          ·subst c8
           rw [if_pos rfl] at H
           have H' := mk0 H
           clear H
           have p155 : 0 ≤ (x3_1 : Int) := of_decide_eq_true (by first | (with_reducible assumption) | assumption)
           have q155 : x3_1 < (l0.length : Int) := of_decide_eq_true (by first | (with_reducible assumption) | assumption)
           obtain ⟨ad155, A155_0, c155_0, e155, hx155_0, hl155_0, hi155_0⟩ := at_T47 HR0.out x3_1 p155 q155
           cases e155
           replace hx155_0 := (bc_ HB hx155_0 :)
           have HR155_0 := mk0 hi155_0
           have HC155_0 := mk0 hl155_0
           clear hi155_0 hl155_0
           replace p155 := eq_true p155
           replace q155 := eq_true q155
           go_wp2_with (first | ((with_reducible refine gate_callee (f := 37) rfl ?_); refine gL_ (some 18) Try.func37 #[.agg #[.slice A155_0 ((rd_T47 l0 x3_1).f0).length c155_0]] (h := ?_); (with_reducible refine (quorumref8_Table.calls kj1 _ _ ((rd_T47 l0 x3_1).f0) true _ ?side1 ?side2 A7.out).mono ?_); (case side1 => exact cb_ HR155_0 HB); (case side2 => exact HC155_0.out); rintro e w9 ⟨rfl, hb⟩; refine ⟨_, rfl, ?_⟩; replace HB := mk0 (bt_ (b_ HB) hb); (try clear hb)))
           go_roundg kj1
           case measure => have := HK1.out; have := HJ1.out; omega
           case rel => exact ⟨(wrap64 (x3_1 + 1)), (by first | rfl | (simp; done) | (simp [*]; done)), H', ⟨by have := HK1.out; have := HJ1.out; omega⟩, ⟨b_ HB⟩⟩
          ·replace c8 := Bool.eq_false_iff.mpr c8
           subst c8
           rw [if_neg (show ¬ (false = true) by decide)] at H
           obtain rfl := Option.some.inj H
           have p155 : 0 ≤ (x3_1 : Int) := of_decide_eq_true (by first | (with_reducible assumption) | assumption)
           have q155 : x3_1 < (l0.length : Int) := of_decide_eq_true (by first | (with_reducible assumption) | assumption)
           obtain ⟨ad155, A155_0, c155_0, e155, hx155_0, hl155_0, hi155_0⟩ := at_T47 HR0.out x3_1 p155 q155
           cases e155
           replace hx155_0 := (bc_ HB hx155_0 :)
           have HR155_0 := mk0 hi155_0
           have HC155_0 := mk0 hl155_0
           clear hi155_0 hl155_0
           replace p155 := eq_true p155
           replace q155 := eq_true q155
           go_wp2_with (first | ((with_reducible refine gate_callee (f := 37) rfl ?_); refine gL_ (some 18) Try.func37 #[.agg #[.slice A155_0 ((rd_T47 l0 x3_1).f0).length c155_0]] (h := ?_); (with_reducible refine (quorumref8_Table.calls kj1 _ _ ((rd_T47 l0 x3_1).f0) false _ ?side1 ?side2 A7.out).mono ?_); (case side1 => exact cb_ HR155_0 HB); (case side2 => exact HC155_0.out); rintro e w10 ⟨rfl, hb⟩; refine ⟨_, rfl, ?_⟩; replace HB := mk0 (bt_ (b_ HB) hb); (try clear hb)))
           go_ret
           exact ⟨by first | rfl | (simp [errW_none, errW_some] <;> rfl) | (simp [*, errW_none, errW_some] <;> rfl), b_ HB⟩
         ·rw [if_neg c6] at H
          exact absurd H (by simp)
        ·rw [if_neg c5] at H
         exact absurd H (by simp)
       ·replace c4 := Bool.eq_false_iff.mpr c4
        subst c4
        rw [if_neg (show ¬ (false = true) by decide)] at H
        obtain rfl := Option.some.inj H
        go_wp2
        go_ret
        exact ⟨by first | rfl | (simp [errW_none, errW_some] <;> rfl) | (simp [*, errW_none, errW_some] <;> rfl), b_ HB⟩

/-! ### quorumref0_Num: function 39 -/
def quorumref0_Num.f (a0 : Int) (a1 : Int) : Option (Bool) := if a0 ≥ 0 then (some (decide (a0 ≤ a1))) else (some false)
set_option maxHeartbeats 8000000 in
set_option maxRecDepth 100000 in
theorem quorumref0_Num.calls (a0 : Int) (a1 : Int) (r : Bool) (w : World) (h : quorumref0_Num.f a0 a1 = some r) :
  Calls Try.prog 39 #[.int .i64 a0, .int .i64 a1] w fun e w' => e = .returned (.bool r) ∧ Drawn0 w w' := by
 have H : (if a0 ≥ 0 then (some (decide (a0 ≤ a1))) else (some false)) = some r := h
 clear h
 by_cases c3 : a0 ≥ 0
 ·rw [if_pos c3] at H
  have c3b0 : decide (0 ≤ a0) = true := decide_eq_true c3
  clear c3
  obtain rfl := Option.some.inj H
  go_enter Try.func39, Try.ntmps39
  go_wp2
  go_ret
  exact ⟨by first | rfl | (simp; done) | (simp [*]; done), by repeat (first | exact Drawn0.refl _ | apply Drawn0.step)⟩
 ·rw [if_neg c3] at H
  have c3b0 : decide (0 ≤ a0) = false := decide_eq_false c3
  clear c3
  obtain rfl := Option.some.inj H
  go_enter Try.func39, Try.ntmps39
  go_wp2
  go_ret
  exact ⟨by first | rfl | (simp; done) | (simp [*]; done), by repeat (first | exact Drawn0.refl _ | apply Drawn0.step)⟩

/-! ### quorumref8_Write: function 38 -/
def quorumref8_Write.f (a0_0 : Int) (a0_1 : ByteArray) (a0_2 : ByteArray) (a0_3 : Bool) : Option (Bool) := (quorumref0_Num.f a0_0 2).bind fun t158 => (if t158 = true then ((quorumref1_Key.f a0_1).bind fun t159 => (if t159 = true then ((quorumref1_Value.f a0_2).bind fun t160 => (if t160 = true then (if a0_3 = true then (some (a0_2.toList == ([] : List UInt8))) else (some true)) else (some false))) else (some false))) else (some false))
set_option maxHeartbeats 8000000 in
set_option maxRecDepth 100000 in
theorem quorumref8_Write.calls (a0_0 : Int) (a0_1 : ByteArray) (a0_2 : ByteArray) (a0_3 : Bool) (r : Bool) (w : World) (h : quorumref8_Write.f a0_0 a0_1 a0_2 a0_3 = some r) :
  Calls Try.prog 38 #[.agg #[.int .i64 a0_0, .string a0_1, .string a0_2, .bool a0_3]] w fun e w' => e = .returned (.bool r) ∧ Below w.heap.size w w' := by
 have hu36 := Try.underlying36
 have HB := mk0 (Below.refl w.heap.size w)
 have H : ((quorumref0_Num.f a0_0 2).bind fun t158 => (if t158 = true then ((quorumref1_Key.f a0_1).bind fun t159 => (if t159 = true then ((quorumref1_Value.f a0_2).bind fun t160 => (if t160 = true then (if a0_3 = true then (some (a0_2.toList == ([] : List UInt8))) else (some true)) else (some false))) else (some false))) else (some false))) = some r := h
 clear h
 replace H := Option.bind_eq_some_iff.mp H
 obtain ⟨t158, A20, H⟩ := H
 try dsimp only at H
 have A2 := mk0 A20
 clear A20
 by_cases c3 : t158 = true
 ·subst c3
  rw [if_pos rfl] at H
  replace H := Option.bind_eq_some_iff.mp H
  obtain ⟨t159, A40, H⟩ := H
  try dsimp only at H
  have A4 := mk0 A40
  clear A40
  by_cases c5 : t159 = true
  ·subst c5
   rw [if_pos rfl] at H
   replace H := Option.bind_eq_some_iff.mp H
   obtain ⟨t160, A60, H⟩ := H
   try dsimp only at H
   have A6 := mk0 A60
   clear A60
   by_cases c7 : t160 = true
   ·subst c7
    rw [if_pos rfl] at H
    by_cases c8 : a0_3 = true
    ·subst c8
     rw [if_pos rfl] at H
     obtain rfl := Option.some.inj H
     go_enter Try.func38, Try.ntmps38
     go_wp2_with (first | ((with_reducible refine gate_dst (N := 1) rfl ?_); refine bx_ (N := 1) (cs := #[.int .i64 a0_0, .string a0_1, .string a0_2, .bool true]) (t := 36) (h := ?_); intro gb157 hg w9 hbox hb; have n2_ := mk0 (gz_ HB hg); have n3_ := mk0 (gz_ HB hg); replace HB := mk0 (bt_ (b_ HB) hb); have BK157 := mk0 (hbox); have GW157 := n2_; have GE157 := n3_; clear n2_ n3_ hb hbox hg; obtain ⟨hcz10_0, hcz10_1, hcz10_2, hcz10_3, hfz10_0, hfz10_1, hfz10_2, hfz10_3⟩ := c4_ BK157) | ((with_reducible refine gate_callee (f := 39) rfl ?_); refine gL_ (some 5) Try.func39 #[.int .i64 a0_0, .int .i64 2] (h := ?_); (with_reducible refine (quorumref0_Num.calls a0_0 2 true _ A2.out).mono ?_); rintro e w' ⟨rfl, ⟨nd, rfl⟩⟩; refine ⟨_, rfl, ?_⟩) | (go_at_call 62; (with_reducible refine (quorumref1_Key.calls a0_1 true _ A4.out).mono ?_); rintro e w' ⟨rfl, ⟨nd, rfl⟩⟩) | (go_at_call 93; (with_reducible refine (quorumref1_Value.calls a0_2 true _ A6.out).mono ?_); rintro e w' ⟨rfl, ⟨nd, rfl⟩⟩))
     go_ret
     exact ⟨by first | rfl | (simp [errW_none, errW_some] <;> rfl) | (simp [*, errW_none, errW_some] <;> rfl), b_ HB⟩
    ·replace c8 := Bool.eq_false_iff.mpr c8
     subst c8
     rw [if_neg (show ¬ (false = true) by decide)] at H
     obtain rfl := Option.some.inj H
     go_enter Try.func38, Try.ntmps38
     go_wp2_with (first | ((with_reducible refine gate_dst (N := 1) rfl ?_); refine bx_ (N := 1) (cs := #[.int .i64 a0_0, .string a0_1, .string a0_2, .bool false]) (t := 36) (h := ?_); intro gb157 hg w11 hbox hb; have n2_ := mk0 (gz_ HB hg); have n3_ := mk0 (gz_ HB hg); replace HB := mk0 (bt_ (b_ HB) hb); have BK157 := mk0 (hbox); have GW157 := n2_; have GE157 := n3_; clear n2_ n3_ hb hbox hg; obtain ⟨hcz12_0, hcz12_1, hcz12_2, hcz12_3, hfz12_0, hfz12_1, hfz12_2, hfz12_3⟩ := c4_ BK157) | ((with_reducible refine gate_callee (f := 39) rfl ?_); refine gL_ (some 5) Try.func39 #[.int .i64 a0_0, .int .i64 2] (h := ?_); (with_reducible refine (quorumref0_Num.calls a0_0 2 true _ A2.out).mono ?_); rintro e w' ⟨rfl, ⟨nd, rfl⟩⟩; refine ⟨_, rfl, ?_⟩) | (go_at_call 62; (with_reducible refine (quorumref1_Key.calls a0_1 true _ A4.out).mono ?_); rintro e w' ⟨rfl, ⟨nd, rfl⟩⟩) | (go_at_call 93; (with_reducible refine (quorumref1_Value.calls a0_2 true _ A6.out).mono ?_); rintro e w' ⟨rfl, ⟨nd, rfl⟩⟩))
     go_ret
     exact ⟨by first | rfl | (simp [errW_none, errW_some] <;> rfl) | (simp [*, errW_none, errW_some] <;> rfl), b_ HB⟩
   ·replace c7 := Bool.eq_false_iff.mpr c7
    subst c7
    rw [if_neg (show ¬ (false = true) by decide)] at H
    obtain rfl := Option.some.inj H
    go_enter Try.func38, Try.ntmps38
    go_wp2_with (first | ((with_reducible refine gate_dst (N := 1) rfl ?_); refine bx_ (N := 1) (cs := #[.int .i64 a0_0, .string a0_1, .string a0_2, .bool a0_3]) (t := 36) (h := ?_); intro gb157 hg w13 hbox hb; have n2_ := mk0 (gz_ HB hg); have n3_ := mk0 (gz_ HB hg); replace HB := mk0 (bt_ (b_ HB) hb); have BK157 := mk0 (hbox); have GW157 := n2_; have GE157 := n3_; clear n2_ n3_ hb hbox hg; obtain ⟨hcz14_0, hcz14_1, hcz14_2, hcz14_3, hfz14_0, hfz14_1, hfz14_2, hfz14_3⟩ := c4_ BK157) | ((with_reducible refine gate_callee (f := 39) rfl ?_); refine gL_ (some 5) Try.func39 #[.int .i64 a0_0, .int .i64 2] (h := ?_); (with_reducible refine (quorumref0_Num.calls a0_0 2 true _ A2.out).mono ?_); rintro e w' ⟨rfl, ⟨nd, rfl⟩⟩; refine ⟨_, rfl, ?_⟩) | (go_at_call 62; (with_reducible refine (quorumref1_Key.calls a0_1 true _ A4.out).mono ?_); rintro e w' ⟨rfl, ⟨nd, rfl⟩⟩) | (go_at_call 93; (with_reducible refine (quorumref1_Value.calls a0_2 false _ A6.out).mono ?_); rintro e w' ⟨rfl, ⟨nd, rfl⟩⟩))
    go_ret
    exact ⟨by first | rfl | (simp [errW_none, errW_some] <;> rfl) | (simp [*, errW_none, errW_some] <;> rfl), b_ HB⟩
  ·replace c5 := Bool.eq_false_iff.mpr c5
   subst c5
   rw [if_neg (show ¬ (false = true) by decide)] at H
   obtain rfl := Option.some.inj H
   go_enter Try.func38, Try.ntmps38
   go_wp2_with (first | ((with_reducible refine gate_dst (N := 1) rfl ?_); refine bx_ (N := 1) (cs := #[.int .i64 a0_0, .string a0_1, .string a0_2, .bool a0_3]) (t := 36) (h := ?_); intro gb157 hg w15 hbox hb; have n2_ := mk0 (gz_ HB hg); have n3_ := mk0 (gz_ HB hg); replace HB := mk0 (bt_ (b_ HB) hb); have BK157 := mk0 (hbox); have GW157 := n2_; have GE157 := n3_; clear n2_ n3_ hb hbox hg; obtain ⟨hcz16_0, hcz16_1, hcz16_2, hcz16_3, hfz16_0, hfz16_1, hfz16_2, hfz16_3⟩ := c4_ BK157) | ((with_reducible refine gate_callee (f := 39) rfl ?_); refine gL_ (some 5) Try.func39 #[.int .i64 a0_0, .int .i64 2] (h := ?_); (with_reducible refine (quorumref0_Num.calls a0_0 2 true _ A2.out).mono ?_); rintro e w' ⟨rfl, ⟨nd, rfl⟩⟩; refine ⟨_, rfl, ?_⟩) | (go_at_call 62; (with_reducible refine (quorumref1_Key.calls a0_1 false _ A4.out).mono ?_); rintro e w' ⟨rfl, ⟨nd, rfl⟩⟩))
   go_ret
   exact ⟨by first | rfl | (simp [errW_none, errW_some] <;> rfl) | (simp [*, errW_none, errW_some] <;> rfl), b_ HB⟩
 ·replace c3 := Bool.eq_false_iff.mpr c3
  subst c3
  rw [if_neg (show ¬ (false = true) by decide)] at H
  obtain rfl := Option.some.inj H
  go_enter Try.func38, Try.ntmps38
  go_wp2_with (first | ((with_reducible refine gate_dst (N := 1) rfl ?_); refine bx_ (N := 1) (cs := #[.int .i64 a0_0, .string a0_1, .string a0_2, .bool a0_3]) (t := 36) (h := ?_); intro gb157 hg w17 hbox hb; have n2_ := mk0 (gz_ HB hg); have n3_ := mk0 (gz_ HB hg); replace HB := mk0 (bt_ (b_ HB) hb); have BK157 := mk0 (hbox); have GW157 := n2_; have GE157 := n3_; clear n2_ n3_ hb hbox hg; obtain ⟨hcz18_0, hcz18_1, hcz18_2, hcz18_3, hfz18_0, hfz18_1, hfz18_2, hfz18_3⟩ := c4_ BK157) | ((with_reducible refine gate_callee (f := 39) rfl ?_); refine gL_ (some 5) Try.func39 #[.int .i64 a0_0, .int .i64 2] (h := ?_); (with_reducible refine (quorumref0_Num.calls a0_0 2 false _ A2.out).mono ?_); rintro e w' ⟨rfl, ⟨nd, rfl⟩⟩; refine ⟨_, rfl, ?_⟩))
  go_ret
  exact ⟨by first | rfl | (simp [errW_none, errW_some] <;> rfl) | (simp [*, errW_none, errW_some] <;> rfl), b_ HB⟩

end Go.Proofs.Ytbaecdcfefmcgaa.PVow
