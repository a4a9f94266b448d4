-- PRINTED by print.py (a twelfth state) out of the translation. Not trusted: Lean checks it.
import Derived.Shelf.SlSorted.Search
import Derived.Test.YtoodkefpkgbjcaaPTbpx0
import Derived.Test.YtoodkefpkgbjcaaPTbpx4
namespace Go.Proofs.Ytoodkefpkgbjcaa.PTbp
open Go.RowKit Go.Proofs.YtoodkefpkgbjcaaW.PrintWords Go.Proofs.YtoodkefpkgbjcaaW.PrintLast Go.Proofs.YtoodkefpkgbjcaaW.PrintMore
attribute [local go_sem] max2_int min2_int max_two min_two max_three min_three max_four min_four   -- for this text's walks alone
set_option linter.unusedVariables false
set_option linter.unusedSimpArgs false

/-! ### quorumref8_Table: function 46 -/
def quorumref8_Table.l0 : Nat → Int → List (S30) → Option (Bool)
 | 0, _, _ => none
 | k + 1, x3, x127000 => if x3 < (x127000.length : Int) then (if 0 ≤ x3 then ((quorumref8_Chain.f k ((rd_T30 x127000 x3).f0) ((rd_T30 x127000 x3).f1)).bind fun t128 => (if t128 = true then (if x3 > 0 then (if 0 ≤ (wrap64 (x3 - 1)) then (if (wrap64 (x3 - 1)) < (x127000.length : Int) then (if ((Op.bytesLess (((rd_T30 x127000 (wrap64 (x3 - 1))).f0).toList) (((rd_T30 x127000 x3).f0).toList)) = true) then (quorumref8_Table.l0 k (wrap64 (x3 + 1)) x127000) else (some false)) else (none)) else (none)) else (quorumref8_Table.l0 k (wrap64 (x3 + 1)) x127000)) else (some false))) else (none)) else ((quorumref8_Count.f k x127000).bind fun t131 => (some (decide (t131 ≤ 64))))
def quorumref8_Table.f (k : Nat) (l0_0 : List (S30)) : Option (Bool) := quorumref8_Table.l0 k 0 l0_0
theorem quorumref8_Table.mono_l : ∀ k, (∀ y0 y1, LeO (quorumref8_Table.l0 k y0 y1) (quorumref8_Table.l0 (k + 1) y0 y1))
 | 0 => fun _ _ r h => by simp [quorumref8_Table.l0] at h
 | k + 1 => by
  have ih0 := quorumref8_Table.mono_l k
  ·intro y0 y1
   unfold quorumref8_Table.l0
   repeat' first
   | (with_reducible exact ih0 _ _)
   | (with_reducible exact quorumref8_Chain.mono _ _ _)
   | (with_reducible exact quorumref8_Count.mono _ _)
   | (with_reducible exact LeO.refl _)
   | (with_reducible exact LeO.none _)
   | (with_reducible refine LeO.ite ?_ ?_)
   | (with_reducible refine LeO.bind ?_ (fun _ => ?_))
   | exact ih0 _ _
   | exact quorumref8_Chain.mono _ _ _
   | exact quorumref8_Count.mono _ _
   | exact LeO.none _
   | refine LeO.ite ?_ ?_
   | refine LeO.bind ?_ (fun _ => ?_)
theorem quorumref8_Table.mono : ∀ a0 k, LeO (quorumref8_Table.f k a0) (quorumref8_Table.f (k + 1) a0) := by
 intro a0 k
 have ih0 := quorumref8_Table.mono_l k
 unfold quorumref8_Table.f
 repeat' first
   | (with_reducible exact ih0 _ _)
   | (with_reducible exact quorumref8_Chain.mono _ _ _)
   | (with_reducible exact quorumref8_Count.mono _ _)
   | (with_reducible exact LeO.refl _)
   | (with_reducible exact LeO.none _)
   | (with_reducible refine LeO.ite ?_ ?_)
   | (with_reducible refine LeO.bind ?_ (fun _ => ?_))
   | exact ih0 _ _
   | exact quorumref8_Chain.mono _ _ _
   | exact quorumref8_Count.mono _ _
   | exact LeO.none _
   | refine LeO.ite ?_ ?_
   | refine LeO.bind ?_ (fun _ => ?_)
def quorumref8_Table.T4 : Bool × List (List Nat × List Nat) := (true, [([], []), ([0], [0]), ([], []), ([1, 2], [1, 2]), ([3], [3]), ([4], [4]), ([5], [5]), ([6, 5], [6]), ([7], [7]), ([8, 7], [7, 8]), ([9, 7, 7], [7, 9]), ([10], [10]), ([11, 10], [10, 11]), ([10], [10]), ([13, 10], [10, 13]), ([12, 14, 10], [10, 12, 14]), ([15, 10], [10, 15]), ([16, 10], [10, 16]), ([10], [10]), ([18, 10], [10, 18]), ([10], [10]), ([19, 20, 10], [10, 19, 20]), ([21, 10], [10, 21]), ([22, 10], [10, 22]), ([17, 23, 10], [10, 17, 23]), ([10, 24, 7], [7, 10, 24]), ([7, 25], [7, 25])])
def quorumref8_Table.B4 : List Nat := [0, 1, 0, 7, 15, 31, 63, 127, 255, 511, 1023, 2047, 4095, 2047, 10239, 32767, 65535, 131071, 2047, 264191, 2047, 1837055, 3934207, 8128511, 16777215, 33554431, 67108863]
theorem quorumref8_Table.tab4 : rtab .any (opsOf Try.f46 4) = quorumref8_Table.T4 := by kernel_rfl
theorem quorumref8_Table.bits4 : waitsOk quorumref8_Table.T4.2 quorumref8_Table.B4 = true := by kernel_rfl
set_option maxHeartbeats 8000000 in
set_option maxRecDepth 100000 in
theorem quorumref8_Table.calls (k : Nat) (A0_0 : Option Addr) (c0_0 : Nat) (l0_0 : List (S30)) (r : Bool) (w : World) (hr0_0 : Kd.C k30 w A0_0 l0_0.length l0_0) (hc0_0 : l0_0.length ≤ c0_0) (h : quorumref8_Table.f k l0_0 = some r) :
  Calls Try.prog 46 #[.agg #[.slice A0_0 l0_0.length c0_0]] w fun e w' => e = .returned (.bool r) ∧ Below w.heap.size w w' := by
 have hu79 := Try.underlying79
 have hu30 := Try.underlying30
 have HR0_0 := mk0 hr0_0
 have HC0_0 := mk0 hc0_0
 clear hr0_0 hc0_0
 have HB := mk0 (Below.refl w.heap.size w)
 have H : (quorumref8_Table.l0 k 0 l0_0) = some r := h
 clear h
 have H' := mk0 H
 clear H
 go_enter Try.func46, Try.ntmps46
 go_wp2_with (first | ((with_reducible refine gate_dst (N := 1) rfl ?_); refine bx_ (N := 1) (cs := #[.slice A0_0 l0_0.length c0_0]) (t := 79) (h := ?_); intro gb126 hg w2 hbox hb; have n2_ := mk0 (gz_ HB hg); have n3_ := mk0 (gz_ HB hg); replace HB := mk0 (bt_ (b_ HB) hb); have BK126 := mk0 (hbox); have GW126 := n2_; have GE126 := n3_; clear n2_ n3_; clear hb hbox hg))
 go_loopg [3] k (fun kq v3 w' => ∃ (x3_1 : Int), v3 = .int .i64 x3_1 ∧ Fc (quorumref8_Table.l0 kq x3_1 l0_0 = some r) ∧ Fc (kq ≤ k) ∧ Fc (w'.heap[gb126]? = some (.cells #[(.slice A0_0 l0_0.length c0_0)] 79 (0, 0))) ∧ Fc (Below w.heap.size w w'))
 case atStart => exact ⟨(0), (by first | rfl | (simp; done) | (simp [*]; done)), H', ⟨Nat.le_refl _⟩, ⟨h_ BK126⟩, ⟨b_ HB⟩⟩
 case round =>
  clear H'
  obtain ⟨x3_1, rfl, HA, HK1, BK126, HB⟩ := hrel
  cases gk with
  | zero => exact absurd HA.out (by simp [quorumref8_Table.l0])
  | succ k1 =>
   have H := HA.out
   clear HA
   simp only [quorumref8_Table.l0] at H
   as_aux_lemma =>
    by_cases c3 : x3_1 < (l0_0.length : Int)
    ·rw [if_pos c3] at H
     have c3b0 : decide (x3_1 < (l0_0.length : Int)) = true := decide_eq_true c3
     clear c3
     by_cases c4 : 0 ≤ x3_1
     ·rw [if_pos c4] at H
      have c4b0 : decide (0 ≤ x3_1) = true := decide_eq_true c4
      clear c4
      replace H := Option.bind_eq_some_iff.mp H
      obtain ⟨t128, A50, H⟩ := H
      try dsimp only at H
      have A5 := mk0 A50
      clear A50
      by_cases c6 : t128 = true
      ·subst c6
       rw [if_pos rfl] at H
       by_cases c7 : x3_1 > 0
       ·rw [if_pos c7] at H
        have c7b0 : decide (0 < x3_1) = true := decide_eq_true c7
        clear c7
        obtain ⟨ji8, hji8⟩ : ∃ j_ : Int, (wrap64 (x3_1 - 1)) = j_ := ⟨_, rfl⟩
        replace H : (if 0 ≤ (ji8) then (if (ji8) < (l0_0.length : Int) then (if ((Op.bytesLess (((rd_T30 l0_0 (ji8)).f0).toList) (((rd_T30 l0_0 x3_1).f0).toList)) = true) then (quorumref8_Table.l0 k1 (wrap64 (x3_1 + 1)) l0_0) else (some false)) else (none)) else (none)) = some r := by first | (rw [hji8] at H; exact H) | (simp only [hji8] at H ⊢; exact H)
        (try rw [hji8] at A5)
        have hji8w : (IntKind.i64.wrap (x3_1 - 1)) = ji8 := (i64_w _).trans hji8
        by_cases c9 : 0 ≤ (ji8)
        ·rw [if_pos c9] at H
         have c9b0 : decide (0 ≤ (ji8)) = true := decide_eq_true c9
         clear c9
         by_cases c10 : (ji8) < (l0_0.length : Int)
         ·rw [if_pos c10] at H
          have c10b0 : decide ((ji8) < (l0_0.length : Int)) = true := decide_eq_true c10
          clear c10
          by_cases c11 : ((Op.bytesLess (((rd_T30 l0_0 (ji8)).f0).toList) (((rd_T30 l0_0 x3_1).f0).toList)) = true)
          ·rw [if_pos c11] at H
           have c11b0 : (Op.bytesLess (((rd_T30 l0_0 (ji8)).f0).toList) (((rd_T30 l0_0 x3_1).f0).toList)) = true := c11
           have c11l0 : (Op.bytesLess (((rd_T30 l0_0 x3_1).f0).toList) (((rd_T30 l0_0 (ji8)).f0).toList) || (((rd_T30 l0_0 x3_1).f0).toList) == (((rd_T30 l0_0 (ji8)).f0).toList)) = false := by rw [leq_, c11b0]; rfl
           clear c11
           have H' := mk0 H
           clear H
           obtain ⟨hcz12_0, hfz12_0⟩ := c1_ BK126
           try go_wp2
           replace BK126 := mk0 (bD_ BK126.out)
           replace HB := mk0 (b1_ HB.out)
           have p127 : 0 ≤ (x3_1 : Int) := of_decide_eq_true (by first | (with_reducible assumption) | assumption)
           have q127 : x3_1 < (l0_0.length : Int) := of_decide_eq_true (by first | (with_reducible assumption) | assumption)
           obtain ⟨ad127, A127_1, c127_1, e127, hx127_0, hx127_1, hl127_1, hi127_1⟩ := at_T30 HR0_0.out x3_1 p127 q127
           have hw127_1 := hx127_1
           have hw127_0 := hx127_0
           cases e127
           replace hx127_0 := bc_ HB hx127_0
           replace hx127_1 := bc_ HB hx127_1
           have HR127_1 := mk0 hi127_1
           have HC127_1 := mk0 hl127_1
           clear hi127_1 hl127_1
           replace p127 := eq_true p127
           replace q127 := eq_true q127
           have p129 : 0 ≤ ((ji8) : Int) := of_decide_eq_true (by first | (with_reducible assumption) | assumption)
           have q129 : (ji8) < (l0_0.length : Int) := of_decide_eq_true (by first | (with_reducible assumption) | assumption)
           obtain ⟨ad129, A129_1, c129_1, e129, hx129_0, hx129_1, hl129_1, hi129_1⟩ := at_T30 HR0_0.out (ji8) p129 q129
           have hw129_1 := hx129_1
           have hw129_0 := hx129_0
           obtain rfl : ad127 = ad129 := (by injection e129)
           replace hx129_0 := bc_ HB hx129_0
           replace hx129_1 := bc_ HB hx129_1
           have HR129_1 := mk0 hi129_1
           have HC129_1 := mk0 hl129_1
           clear hi129_1 hl129_1
           replace p129 := eq_true p129
           replace q129 := eq_true q129
           have p130 : 0 ≤ (x3_1 : Int) := of_decide_eq_true (by first | (with_reducible assumption) | assumption)
           have q130 : x3_1 < (l0_0.length : Int) := of_decide_eq_true (by first | (with_reducible assumption) | assumption)
           obtain ⟨ad130, A130_1, c130_1, e130, hx130_0, hx130_1, hl130_1, hi130_1⟩ := at_T30 HR0_0.out x3_1 p130 q130
           have hw130_1 := hx130_1
           have hw130_0 := hx130_0
           obtain rfl : ad127 = ad130 := (by injection e130)
           replace hx130_0 := bc_ HB hx130_0
           replace hx130_1 := bc_ HB hx130_1
           have HR130_1 := mk0 hi130_1
           have HC130_1 := mk0 hl130_1
           clear hi130_1 hl130_1
           replace p130 := eq_true p130
           replace q130 := eq_true q130
           refine start_ (n := 27) (S := fun w' => w'.cell? ⟨gb126, 0, none⟩ = some (.slice (some ad127) l0_0.length c0_0) ∧ w'.cell? (ad127.add ((x3_1).toNat * 2)) = some (.string ((rd_T30 l0_0 x3_1).f0)) ∧ w'.cell? ⟨(ad127.add ((x3_1).toNat * 2)).block, (ad127.add ((x3_1).toNat * 2)).off + 1, none⟩ = some (.slice A127_1 ((rd_T30 l0_0 x3_1).f1).length c127_1) ∧ w'.cell? (ad127.add (((ji8)).toNat * 2)) = some (.string ((rd_T30 l0_0 (ji8)).f0)) ∧ w'.cell? ⟨(ad127.add (((ji8)).toNat * 2)).block, (ad127.add (((ji8)).toNat * 2)).off + 1, none⟩ = some (.slice A129_1 ((rd_T30 l0_0 (ji8)).f1).length c129_1) ∧ w'.cell? (ad127.add ((x3_1).toNat * 2)) = some (.string ((rd_T30 l0_0 x3_1).f0)) ∧ w'.cell? ⟨(ad127.add ((x3_1).toNat * 2)).block, (ad127.add ((x3_1).toNat * 2)).off + 1, none⟩ = some (.slice A130_1 ((rd_T30 l0_0 x3_1).f1).length c130_1)) (ds := []) (bt 27 0) (by kernel_rfl) rfl rfl ⟨bk_ BK126 0, (bc_ HB hw127_0), (bc_ HB hw127_1), (bc_ HB hw129_0), (bc_ HB hw129_1), (bc_ HB hw130_0), (bc_ HB hw130_1)⟩ (fun hHeld => ?_); refine with_tabW quorumref8_Table.tab4 quorumref8_Table.bits4 (fun HT_ HW_ => ?_)
           generalize wr.drew = w13 at BK126 HB HR127_1 HR129_1 HR130_1 hx127_0 hx127_1 hx129_0 hx129_1 hx130_0 hx130_1 hHeld ⊢
           refine pq_ HT_.out 0 11 (bt 27 1) (h := ?_)
           refine pq_ HT_.out 2 13 (bt 27 5) (h := ?_)
           refine tq7_ HT_.out HW_.out 1 12 (bt 27 7) hHeld (h := ?_)
           refine pq_ HT_.out 3 14 (bt 27 15) (h := ?_)
           refine tq7_ HT_.out HW_.out 4 15 (bt 27 31) hHeld (h := ?_)
           refine one_ (i := 5) (N := some 16) (bt 27 63) rfl rfl (one_of HT_.out (by kernel_rfl)) (by decide) (fun K hK => ?_)
           refine goes_ Try.func17 (by kernel_rfl) rfl #[.agg #[.string ((rd_T30 l0_0 x3_1).f0), .slice A127_1 ((rd_T30 l0_0 x3_1).f1).length c127_1]] (by rfl) rfl rfl (by (try simp only [List.map_toArray, List.map_cons, List.map_nil]); first | done | rfl | (simp only [List.length_drop, List.length_take]; rfl)) ?_
           with_reducible refine (quorumref8_Chain.calls k1 ((rd_T30 l0_0 x3_1).f0) _ _ ((rd_T30 l0_0 x3_1).f1) true _ ?side1 ?side2 A5.out).mono ?_
           (case side1 => exact cb_ HR127_1 HB)
           (case side2 => exact HC127_1.out)
           rintro e w14 ⟨rfl, hb⟩
           refine ⟨_, rfl, ?_⟩
           replace BK126 := mk0 (u_ BK126 hb)
           replace HB := mk0 (bt_ (b_ HB) hb)
           (try clear hb)
           (try clear hb2)
           (try clear hk)
           (try clear hi)
           refine hK.out _ _ ⟨bk_ BK126 0, (bc_ HB hw127_0), (bc_ HB hw127_1), (bc_ HB hw129_0), (bc_ HB hw129_1), (bc_ HB hw130_0), (bc_ HB hw130_1)⟩ (fun hHeld => ?_)
           clear hK K
           refine norm_ (a' := ?_) ?_ ?_
           rotate_left
           ·show Act.put _ (some 16) _ = _
            simp only [z_]
            rfl
           refine pq_ HT_.out 6 17 (bt 27 127) (h := ?_)
           refine pq_ HT_.out 7 18 (bt 27 255) (h := ?_)
           refine pq_ HT_.out 8 19 (bt 27 511) (h := ?_)
           refine pq_ HT_.out 9 20 (bt 27 1023) (h := ?_)
           refine pq_ HT_.out 10 21 (bt 27 2047) (h := ?_)
           refine pq_ HT_.out 11 22 (bt 27 4095) (h := ?_)
           refine pq_ HT_.out 13 24 (bt 27 12287) (h := ?_)
           refine pq_ HT_.out 14 25 (bt 27 28671) (h := ?_)
           refine pq_ HT_.out 18 29 (bt 27 290815) (h := ?_)
           refine pq_ HT_.out 20 31 (bt 27 1339391) (h := ?_)
           refine tq7_ HT_.out HW_.out 12 23 (bt 27 1343487) hHeld (h := ?_)
           refine pq_ HT_.out 15 26 (bt 27 1376255) (h := ?_)
           refine pq_ HT_.out 16 27 (bt 27 1441791) (h := ?_)
           refine tq7_ HT_.out HW_.out 17 28 (bt 27 1572863) hHeld (h := ?_)
           refine tq7_ HT_.out HW_.out 19 30 (bt 27 2097151) hHeld (h := ?_)
           refine pq_ HT_.out 21 32 (bt 27 4194303) (h := ?_)
           refine pq_ HT_.out 22 33 (bt 27 8388607) (h := ?_)
           refine tq7_ HT_.out HW_.out 23 34 (bt 27 16777215) hHeld (h := ?_)
           refine pq_ HT_.out 24 35 (bt 27 33554431) (h := ?_)
           refine pq_ HT_.out 25 36 (bt 27 67108863) (h := ?_)
           refine pq_ HT_.out 26 37 (bt 27 134217727) (h := ?_)
           refine done_ (done_of HT_.out (by kernel_rfl)) ?_
           try go_wp2
           go_roundg k1
           case measure => have := HK1.out; omega
           case rel => exact ⟨(wrap64 (x3_1 + 1)), (by first | rfl | (simp; done) | (simp [*]; done)), H', ⟨by have := HK1.out; omega⟩, ⟨h_ BK126⟩, ⟨b_ HB⟩⟩
          ·rw [if_neg c11] at H
           have c11b0 : (Op.bytesLess (((rd_T30 l0_0 (ji8)).f0).toList) (((rd_T30 l0_0 x3_1).f0).toList)) = false := by simpa using c11
           have c11l0 : (Op.bytesLess (((rd_T30 l0_0 x3_1).f0).toList) (((rd_T30 l0_0 (ji8)).f0).toList) || (((rd_T30 l0_0 x3_1).f0).toList) == (((rd_T30 l0_0 (ji8)).f0).toList)) = true := by rw [leq_, c11b0]; rfl
           clear c11
           obtain rfl := Option.some.inj H
           obtain ⟨hcz15_0, hfz15_0⟩ := c1_ BK126
           try go_wp2
           replace BK126 := mk0 (bD_ BK126.out)
           replace HB := mk0 (b1_ HB.out)
           have p127 : 0 ≤ (x3_1 : Int) := of_decide_eq_true (by first | (with_reducible assumption) | assumption)
           have q127 : x3_1 < (l0_0.length : Int) := of_decide_eq_true (by first | (with_reducible assumption) | assumption)
           obtain ⟨ad127, A127_1, c127_1, e127, hx127_0, hx127_1, hl127_1, hi127_1⟩ := at_T30 HR0_0.out x3_1 p127 q127
           have hw127_1 := hx127_1
           have hw127_0 := hx127_0
           cases e127
           replace hx127_0 := bc_ HB hx127_0
           replace hx127_1 := bc_ HB hx127_1
           have HR127_1 := mk0 hi127_1
           have HC127_1 := mk0 hl127_1
           clear hi127_1 hl127_1
           replace p127 := eq_true p127
           replace q127 := eq_true q127
           have p129 : 0 ≤ ((ji8) : Int) := of_decide_eq_true (by first | (with_reducible assumption) | assumption)
           have q129 : (ji8) < (l0_0.length : Int) := of_decide_eq_true (by first | (with_reducible assumption) | assumption)
           obtain ⟨ad129, A129_1, c129_1, e129, hx129_0, hx129_1, hl129_1, hi129_1⟩ := at_T30 HR0_0.out (ji8) p129 q129
           have hw129_1 := hx129_1
           have hw129_0 := hx129_0
           obtain rfl : ad127 = ad129 := (by injection e129)
           replace hx129_0 := bc_ HB hx129_0
           replace hx129_1 := bc_ HB hx129_1
           have HR129_1 := mk0 hi129_1
           have HC129_1 := mk0 hl129_1
           clear hi129_1 hl129_1
           replace p129 := eq_true p129
           replace q129 := eq_true q129
           have p130 : 0 ≤ (x3_1 : Int) := of_decide_eq_true (by first | (with_reducible assumption) | assumption)
           have q130 : x3_1 < (l0_0.length : Int) := of_decide_eq_true (by first | (with_reducible assumption) | assumption)
           obtain ⟨ad130, A130_1, c130_1, e130, hx130_0, hx130_1, hl130_1, hi130_1⟩ := at_T30 HR0_0.out x3_1 p130 q130
           have hw130_1 := hx130_1
           have hw130_0 := hx130_0
           obtain rfl : ad127 = ad130 := (by injection e130)
           replace hx130_0 := bc_ HB hx130_0
           replace hx130_1 := bc_ HB hx130_1
           have HR130_1 := mk0 hi130_1
           have HC130_1 := mk0 hl130_1
           clear hi130_1 hl130_1
           replace p130 := eq_true p130
           replace q130 := eq_true q130
           refine start_ (n := 27) (S := fun w' => w'.cell? ⟨gb126, 0, none⟩ = some (.slice (some ad127) l0_0.length c0_0) ∧ w'.cell? (ad127.add ((x3_1).toNat * 2)) = some (.string ((rd_T30 l0_0 x3_1).f0)) ∧ w'.cell? ⟨(ad127.add ((x3_1).toNat * 2)).block, (ad127.add ((x3_1).toNat * 2)).off + 1, none⟩ = some (.slice A127_1 ((rd_T30 l0_0 x3_1).f1).length c127_1) ∧ w'.cell? (ad127.add (((ji8)).toNat * 2)) = some (.string ((rd_T30 l0_0 (ji8)).f0)) ∧ w'.cell? ⟨(ad127.add (((ji8)).toNat * 2)).block, (ad127.add (((ji8)).toNat * 2)).off + 1, none⟩ = some (.slice A129_1 ((rd_T30 l0_0 (ji8)).f1).length c129_1) ∧ w'.cell? (ad127.add ((x3_1).toNat * 2)) = some (.string ((rd_T30 l0_0 x3_1).f0)) ∧ w'.cell? ⟨(ad127.add ((x3_1).toNat * 2)).block, (ad127.add ((x3_1).toNat * 2)).off + 1, none⟩ = some (.slice A130_1 ((rd_T30 l0_0 x3_1).f1).length c130_1)) (ds := []) (bt 27 0) (by kernel_rfl) rfl rfl ⟨bk_ BK126 0, (bc_ HB hw127_0), (bc_ HB hw127_1), (bc_ HB hw129_0), (bc_ HB hw129_1), (bc_ HB hw130_0), (bc_ HB hw130_1)⟩ (fun hHeld => ?_); refine with_tabW quorumref8_Table.tab4 quorumref8_Table.bits4 (fun HT_ HW_ => ?_)
           generalize wr.drew = w16 at BK126 HB HR127_1 HR129_1 HR130_1 hx127_0 hx127_1 hx129_0 hx129_1 hx130_0 hx130_1 hHeld ⊢
           refine pq_ HT_.out 0 11 (bt 27 1) (h := ?_)
           refine pq_ HT_.out 2 13 (bt 27 5) (h := ?_)
           refine tq7_ HT_.out HW_.out 1 12 (bt 27 7) hHeld (h := ?_)
           refine pq_ HT_.out 3 14 (bt 27 15) (h := ?_)
           refine tq7_ HT_.out HW_.out 4 15 (bt 27 31) hHeld (h := ?_)
           refine one_ (i := 5) (N := some 16) (bt 27 63) rfl rfl (one_of HT_.out (by kernel_rfl)) (by decide) (fun K hK => ?_)
           refine goes_ Try.func17 (by kernel_rfl) rfl #[.agg #[.string ((rd_T30 l0_0 x3_1).f0), .slice A127_1 ((rd_T30 l0_0 x3_1).f1).length c127_1]] (by rfl) rfl rfl (by (try simp only [List.map_toArray, List.map_cons, List.map_nil]); first | done | rfl | (simp only [List.length_drop, List.length_take]; rfl)) ?_
           with_reducible refine (quorumref8_Chain.calls k1 ((rd_T30 l0_0 x3_1).f0) _ _ ((rd_T30 l0_0 x3_1).f1) true _ ?side1 ?side2 A5.out).mono ?_
           (case side1 => exact cb_ HR127_1 HB)
           (case side2 => exact HC127_1.out)
           rintro e w17 ⟨rfl, hb⟩
           refine ⟨_, rfl, ?_⟩
           replace BK126 := mk0 (u_ BK126 hb)
           replace HB := mk0 (bt_ (b_ HB) hb)
           (try clear hb)
           (try clear hb2)
           (try clear hk)
           (try clear hi)
           refine hK.out _ _ ⟨bk_ BK126 0, (bc_ HB hw127_0), (bc_ HB hw127_1), (bc_ HB hw129_0), (bc_ HB hw129_1), (bc_ HB hw130_0), (bc_ HB hw130_1)⟩ (fun hHeld => ?_)
           clear hK K
           refine norm_ (a' := ?_) ?_ ?_
           rotate_left
           ·show Act.put _ (some 16) _ = _
            simp only [z_]
            rfl
           refine pq_ HT_.out 6 17 (bt 27 127) (h := ?_)
           refine pq_ HT_.out 7 18 (bt 27 255) (h := ?_)
           refine pq_ HT_.out 8 19 (bt 27 511) (h := ?_)
           refine pq_ HT_.out 9 20 (bt 27 1023) (h := ?_)
           refine pq_ HT_.out 10 21 (bt 27 2047) (h := ?_)
           refine pq_ HT_.out 11 22 (bt 27 4095) (h := ?_)
           refine pq_ HT_.out 13 24 (bt 27 12287) (h := ?_)
           refine pq_ HT_.out 14 25 (bt 27 28671) (h := ?_)
           refine pq_ HT_.out 18 29 (bt 27 290815) (h := ?_)
           refine pq_ HT_.out 20 31 (bt 27 1339391) (h := ?_)
           refine tq7_ HT_.out HW_.out 12 23 (bt 27 1343487) hHeld (h := ?_)
           refine pq_ HT_.out 15 26 (bt 27 1376255) (h := ?_)
           refine pq_ HT_.out 16 27 (bt 27 1441791) (h := ?_)
           refine tq7_ HT_.out HW_.out 17 28 (bt 27 1572863) hHeld (h := ?_)
           refine tq7_ HT_.out HW_.out 19 30 (bt 27 2097151) hHeld (h := ?_)
           refine pq_ HT_.out 21 32 (bt 27 4194303) (h := ?_)
           refine pq_ HT_.out 22 33 (bt 27 8388607) (h := ?_)
           refine tq7_ HT_.out HW_.out 23 34 (bt 27 16777215) hHeld (h := ?_)
           refine pq_ HT_.out 24 35 (bt 27 33554431) (h := ?_)
           refine pq_ HT_.out 25 36 (bt 27 67108863) (h := ?_)
           refine pq_ HT_.out 26 37 (bt 27 134217727) (h := ?_)
           refine done_ (done_of HT_.out (by kernel_rfl)) ?_
           try go_wp2
           go_ret
           exact ⟨by first | rfl | (simp [errW_none, errW_some] <;> rfl) | (simp only [← hji8]; first | rfl | (simp [errW_none, errW_some] <;> rfl)) | (simp [*, errW_none, errW_some] <;> rfl), b_ HB⟩
         ·rw [if_neg c10] at H
          exact absurd H (by simp)
        ·rw [if_neg c9] at H
         exact absurd H (by simp)
       ·rw [if_neg c7] at H
        have c7b0 : decide (0 < x3_1) = false := decide_eq_false c7
        clear c7
        have H' := mk0 H
        clear H
        obtain ⟨hcz18_0, hfz18_0⟩ := c1_ BK126
        try go_wp2
        replace BK126 := mk0 (bD_ BK126.out)
        replace HB := mk0 (b1_ HB.out)
        have p127 : 0 ≤ (x3_1 : Int) := of_decide_eq_true (by first | (with_reducible assumption) | assumption)
        have q127 : x3_1 < (l0_0.length : Int) := of_decide_eq_true (by first | (with_reducible assumption) | assumption)
        obtain ⟨ad127, A127_1, c127_1, e127, hx127_0, hx127_1, hl127_1, hi127_1⟩ := at_T30 HR0_0.out x3_1 p127 q127
        have hw127_1 := hx127_1
        have hw127_0 := hx127_0
        cases e127
        replace hx127_0 := bc_ HB hx127_0
        replace hx127_1 := bc_ HB hx127_1
        have HR127_1 := mk0 hi127_1
        have HC127_1 := mk0 hl127_1
        clear hi127_1 hl127_1
        replace p127 := eq_true p127
        replace q127 := eq_true q127
        refine start_ (n := 27) (S := fun w' => w'.cell? ⟨gb126, 0, none⟩ = some (.slice (some ad127) l0_0.length c0_0) ∧ w'.cell? (ad127.add ((x3_1).toNat * 2)) = some (.string ((rd_T30 l0_0 x3_1).f0)) ∧ w'.cell? ⟨(ad127.add ((x3_1).toNat * 2)).block, (ad127.add ((x3_1).toNat * 2)).off + 1, none⟩ = some (.slice A127_1 ((rd_T30 l0_0 x3_1).f1).length c127_1)) (ds := []) (bt 27 0) (by kernel_rfl) rfl rfl ⟨bk_ BK126 0, (bc_ HB hw127_0), (bc_ HB hw127_1)⟩ (fun hHeld => ?_); refine with_tabW quorumref8_Table.tab4 quorumref8_Table.bits4 (fun HT_ HW_ => ?_)
        generalize wr.drew = w19 at BK126 HB HR127_1 hx127_0 hx127_1 hHeld ⊢
        refine pq_ HT_.out 0 11 (bt 27 1) (h := ?_)
        refine pq_ HT_.out 2 13 (bt 27 5) (h := ?_)
        refine tq3_ HT_.out HW_.out 1 12 (bt 27 7) hHeld (h := ?_)
        refine pq_ HT_.out 3 14 (bt 27 15) (h := ?_)
        refine tq3_ HT_.out HW_.out 4 15 (bt 27 31) hHeld (h := ?_)
        refine one_ (i := 5) (N := some 16) (bt 27 63) rfl rfl (one_of HT_.out (by kernel_rfl)) (by decide) (fun K hK => ?_)
        refine goes_ Try.func17 (by kernel_rfl) rfl #[.agg #[.string ((rd_T30 l0_0 x3_1).f0), .slice A127_1 ((rd_T30 l0_0 x3_1).f1).length c127_1]] (by rfl) rfl rfl (by (try simp only [List.map_toArray, List.map_cons, List.map_nil]); first | done | rfl | (simp only [List.length_drop, List.length_take]; rfl)) ?_
        with_reducible refine (quorumref8_Chain.calls k1 ((rd_T30 l0_0 x3_1).f0) _ _ ((rd_T30 l0_0 x3_1).f1) true _ ?side1 ?side2 A5.out).mono ?_
        (case side1 => exact cb_ HR127_1 HB)
        (case side2 => exact HC127_1.out)
        rintro e w20 ⟨rfl, hb⟩
        refine ⟨_, rfl, ?_⟩
        replace BK126 := mk0 (u_ BK126 hb)
        replace HB := mk0 (bt_ (b_ HB) hb)
        (try clear hb)
        (try clear hb2)
        (try clear hk)
        (try clear hi)
        refine hK.out _ _ ⟨bk_ BK126 0, (bc_ HB hw127_0), (bc_ HB hw127_1)⟩ (fun hHeld => ?_)
        clear hK K
        refine norm_ (a' := ?_) ?_ ?_
        rotate_left
        ·show Act.put _ (some 16) _ = _
         simp only [z_]
         rfl
        refine pq_ HT_.out 6 17 (bt 27 127) (h := ?_)
        refine pq_ HT_.out 7 18 (bt 27 255) (h := ?_)
        refine pq_ HT_.out 8 19 (bt 27 511) (h := ?_)
        refine pq_ HT_.out 9 20 (bt 27 1023) (h := ?_)
        refine pq_ HT_.out 10 21 (bt 27 2047) (h := ?_)
        refine uq_ HT_.out 11 22 (bt 27 4095) (h := ?_)
        refine uq_ HT_.out 12 23 (bt 27 8191) (h := ?_)
        refine uq_ HT_.out 13 24 (bt 27 16383) (h := ?_)
        refine uq_ HT_.out 14 25 (bt 27 32767) (h := ?_)
        refine uq_ HT_.out 15 26 (bt 27 65535) (h := ?_)
        refine uq_ HT_.out 16 27 (bt 27 131071) (h := ?_)
        refine uq_ HT_.out 17 28 (bt 27 262143) (h := ?_)
        refine uq_ HT_.out 18 29 (bt 27 524287) (h := ?_)
        refine uq_ HT_.out 19 30 (bt 27 1048575) (h := ?_)
        refine uq_ HT_.out 20 31 (bt 27 2097151) (h := ?_)
        refine uq_ HT_.out 21 32 (bt 27 4194303) (h := ?_)
        refine uq_ HT_.out 22 33 (bt 27 8388607) (h := ?_)
        refine uq_ HT_.out 23 34 (bt 27 16777215) (h := ?_)
        refine uq_ HT_.out 24 35 (bt 27 33554431) (h := ?_)
        refine pq_ HT_.out 25 36 (bt 27 67108863) (h := ?_)
        refine pq_ HT_.out 26 37 (bt 27 134217727) (h := ?_)
        refine done_ (done_of HT_.out (by kernel_rfl)) ?_
        try go_wp2
        go_roundg k1
        case measure => have := HK1.out; omega
        case rel => exact ⟨(wrap64 (x3_1 + 1)), (by first | rfl | (simp; done) | (simp [*]; done)), H', ⟨by have := HK1.out; omega⟩, ⟨h_ BK126⟩, ⟨b_ HB⟩⟩
      ·replace c6 := Bool.eq_false_iff.mpr c6
       subst c6
       rw [if_neg (show ¬ (false = true) by decide)] at H
       obtain rfl := Option.some.inj H
       obtain ⟨hcz21_0, hfz21_0⟩ := c1_ BK126
       try go_wp2
       replace BK126 := mk0 (bD_ BK126.out)
       replace HB := mk0 (b1_ HB.out)
       have p127 : 0 ≤ (x3_1 : Int) := of_decide_eq_true (by first | (with_reducible assumption) | assumption)
       have q127 : x3_1 < (l0_0.length : Int) := of_decide_eq_true (by first | (with_reducible assumption) | assumption)
       obtain ⟨ad127, A127_1, c127_1, e127, hx127_0, hx127_1, hl127_1, hi127_1⟩ := at_T30 HR0_0.out x3_1 p127 q127
       have hw127_1 := hx127_1
       have hw127_0 := hx127_0
       cases e127
       replace hx127_0 := bc_ HB hx127_0
       replace hx127_1 := bc_ HB hx127_1
       have HR127_1 := mk0 hi127_1
       have HC127_1 := mk0 hl127_1
       clear hi127_1 hl127_1
       replace p127 := eq_true p127
       replace q127 := eq_true q127
       refine start_ (n := 27) (S := fun w' => w'.cell? ⟨gb126, 0, none⟩ = some (.slice (some ad127) l0_0.length c0_0) ∧ w'.cell? (ad127.add ((x3_1).toNat * 2)) = some (.string ((rd_T30 l0_0 x3_1).f0)) ∧ w'.cell? ⟨(ad127.add ((x3_1).toNat * 2)).block, (ad127.add ((x3_1).toNat * 2)).off + 1, none⟩ = some (.slice A127_1 ((rd_T30 l0_0 x3_1).f1).length c127_1)) (ds := []) (bt 27 0) (by kernel_rfl) rfl rfl ⟨bk_ BK126 0, (bc_ HB hw127_0), (bc_ HB hw127_1)⟩ (fun hHeld => ?_); refine with_tabW quorumref8_Table.tab4 quorumref8_Table.bits4 (fun HT_ HW_ => ?_)
       generalize wr.drew = w22 at BK126 HB HR127_1 hx127_0 hx127_1 hHeld ⊢
       refine pq_ HT_.out 0 11 (bt 27 1) (h := ?_)
       refine pq_ HT_.out 2 13 (bt 27 5) (h := ?_)
       refine tq3_ HT_.out HW_.out 1 12 (bt 27 7) hHeld (h := ?_)
       refine pq_ HT_.out 3 14 (bt 27 15) (h := ?_)
       refine tq3_ HT_.out HW_.out 4 15 (bt 27 31) hHeld (h := ?_)
       refine one_ (i := 5) (N := some 16) (bt 27 63) rfl rfl (one_of HT_.out (by kernel_rfl)) (by decide) (fun K hK => ?_)
       refine goes_ Try.func17 (by kernel_rfl) rfl #[.agg #[.string ((rd_T30 l0_0 x3_1).f0), .slice A127_1 ((rd_T30 l0_0 x3_1).f1).length c127_1]] (by rfl) rfl rfl (by (try simp only [List.map_toArray, List.map_cons, List.map_nil]); first | done | rfl | (simp only [List.length_drop, List.length_take]; rfl)) ?_
       with_reducible refine (quorumref8_Chain.calls k1 ((rd_T30 l0_0 x3_1).f0) _ _ ((rd_T30 l0_0 x3_1).f1) false _ ?side1 ?side2 A5.out).mono ?_
       (case side1 => exact cb_ HR127_1 HB)
       (case side2 => exact HC127_1.out)
       rintro e w23 ⟨rfl, hb⟩
       refine ⟨_, rfl, ?_⟩
       replace BK126 := mk0 (u_ BK126 hb)
       replace HB := mk0 (bt_ (b_ HB) hb)
       (try clear hb)
       (try clear hb2)
       (try clear hk)
       (try clear hi)
       refine hK.out _ _ ⟨bk_ BK126 0, (bc_ HB hw127_0), (bc_ HB hw127_1)⟩ (fun hHeld => ?_)
       clear hK K
       refine norm_ (a' := ?_) ?_ ?_
       rotate_left
       ·show Act.put _ (some 16) _ = _
        simp only [z_]
        rfl
       refine pq_ HT_.out 6 17 (bt 27 127) (h := ?_)
       refine pq_ HT_.out 7 18 (bt 27 255) (h := ?_)
       refine uq_ HT_.out 8 19 (bt 27 511) (h := ?_)
       refine uq_ HT_.out 9 20 (bt 27 1023) (h := ?_)
       refine uq_ HT_.out 10 21 (bt 27 2047) (h := ?_)
       refine uq_ HT_.out 11 22 (bt 27 4095) (h := ?_)
       refine uq_ HT_.out 12 23 (bt 27 8191) (h := ?_)
       refine uq_ HT_.out 13 24 (bt 27 16383) (h := ?_)
       refine uq_ HT_.out 14 25 (bt 27 32767) (h := ?_)
       refine uq_ HT_.out 15 26 (bt 27 65535) (h := ?_)
       refine uq_ HT_.out 16 27 (bt 27 131071) (h := ?_)
       refine uq_ HT_.out 17 28 (bt 27 262143) (h := ?_)
       refine uq_ HT_.out 18 29 (bt 27 524287) (h := ?_)
       refine uq_ HT_.out 19 30 (bt 27 1048575) (h := ?_)
       refine uq_ HT_.out 20 31 (bt 27 2097151) (h := ?_)
       refine uq_ HT_.out 21 32 (bt 27 4194303) (h := ?_)
       refine uq_ HT_.out 22 33 (bt 27 8388607) (h := ?_)
       refine uq_ HT_.out 23 34 (bt 27 16777215) (h := ?_)
       refine uq_ HT_.out 24 35 (bt 27 33554431) (h := ?_)
       refine uq_ HT_.out 25 36 (bt 27 67108863) (h := ?_)
       refine pq_ HT_.out 26 37 (bt 27 134217727) (h := ?_)
       refine done_ (done_of HT_.out (by kernel_rfl)) ?_
       try go_wp2
       go_ret
       exact ⟨by first | rfl | (simp [errW_none, errW_some] <;> rfl) | (simp [*, errW_none, errW_some] <;> rfl), b_ HB⟩
     ·rw [if_neg c4] at H
      exact absurd H (by simp)
    ·rw [if_neg c3] at H
     have c3b0 : decide (x3_1 < (l0_0.length : Int)) = false := decide_eq_false c3
     clear c3
     replace H := Option.bind_eq_some_iff.mp H
     obtain ⟨t131, A240, H⟩ := H
     try dsimp only at H
     have A24 := mk0 A240
     clear A240
     obtain rfl := Option.some.inj H
     obtain ⟨hcz25_0, hfz25_0⟩ := c1_ BK126
     go_wp2_with (first | ((with_reducible refine gate_callee (f := 88) rfl ?_); refine gL_ (some 39) Try.func88 #[.agg #[.slice A0_0 l0_0.length c0_0]] (h := ?_); (with_reducible refine (quorumref8_Count.calls k1 _ _ l0_0 t131 _ ?side1 ?side2 A24.out).mono ?_); (case side1 => exact cb_ HR0_0 HB); (case side2 => exact HC0_0.out); rintro e w26 ⟨rfl, hb⟩; refine ⟨_, rfl, ?_⟩; replace BK126 := mk0 (u_ BK126 hb); replace HB := mk0 (bt_ (b_ HB) hb); (try clear hb)))
     go_ret
     exact ⟨by first | rfl | (simp [errW_none, errW_some] <;> rfl) | (simp [*, errW_none, errW_some] <;> rfl), b_ HB⟩

/-! ### key_Fits: function 156 -/
def key_Fits.f (a0 : ByteArray) : Option (Bool) := some (decide ((a0.size : Int) ≤ 20))
set_option maxHeartbeats 8000000 in
set_option maxRecDepth 100000 in
theorem key_Fits.calls (a0 : ByteArray) (r : Bool) (w : World) (h : key_Fits.f a0 = some r) :
  Calls Try.prog 156 #[.string a0] w fun e w' => e = .returned (.bool r) ∧ Drawn0 w w' := by
 have H : (some (decide ((a0.size : Int) ≤ 20))) = some r := h
 clear h
 obtain rfl := Option.some.inj H
 go_enter Try.func156, Try.ntmps156
 go_wp2
 go_ret
 exact ⟨by first | rfl | (simp; done) | (simp [*]; done), by repeat (first | exact Drawn0.refl _ | apply Drawn0.step)⟩

/-! ### chain_version: function 118 -/
def chain_version.f (a0_0 : Int) (a0_1 : ByteArray) (a0_2 : Bool) : Option (Bool) := if a0_0 ≥ 1 then (if a0_0 ≤ 1073741824 then ((key_Fits.f a0_1).bind fun t133 => (if t133 = true then (if a0_2 = true then (some (a0_1.toList == ([] : List UInt8))) else (some true)) else (some false))) else (some false)) else (some false)
set_option maxHeartbeats 8000000 in
set_option maxRecDepth 100000 in
theorem chain_version.calls (a0_0 : Int) (a0_1 : ByteArray) (a0_2 : Bool) (r : Bool) (w : World) (h : chain_version.f a0_0 a0_1 a0_2 = some r) :
  Calls Try.prog 118 #[.agg #[.int .i64 a0_0, .string a0_1, .bool a0_2]] w fun e w' => e = .returned (.bool r) ∧ Below w.heap.size w w' := by
 have hu39 := Try.underlying39
 have HB := mk0 (Below.refl w.heap.size w)
 have H : (if a0_0 ≥ 1 then (if a0_0 ≤ 1073741824 then ((key_Fits.f a0_1).bind fun t133 => (if t133 = true then (if a0_2 = true then (some (a0_1.toList == ([] : List UInt8))) else (some true)) else (some false))) else (some false)) else (some false)) = some r := h
 clear h
 by_cases c2 : a0_0 ≥ 1
 ·rw [if_pos c2] at H
  have c2b0 : decide (1 ≤ a0_0) = true := decide_eq_true c2
  clear c2
  by_cases c3 : a0_0 ≤ 1073741824
  ·rw [if_pos c3] at H
   have c3b0 : decide (a0_0 ≤ 1073741824) = true := decide_eq_true c3
   clear c3
   replace H := Option.bind_eq_some_iff.mp H
   obtain ⟨t133, A40, H⟩ := H
   try dsimp only at H
   have A4 := mk0 A40
   clear A40
   by_cases c5 : t133 = true
   ·subst c5
    rw [if_pos rfl] at H
    by_cases c6 : a0_2 = true
    ·subst c6
     rw [if_pos rfl] at H
     obtain rfl := Option.some.inj H
     go_enter Try.func118, Try.ntmps118
     go_wp2_with (first | ((with_reducible refine gate_dst (N := 1) rfl ?_); refine bx_ (N := 1) (cs := #[.int .i64 a0_0, .string a0_1, .bool true]) (t := 39) (h := ?_); intro gb132 hg w7 hbox hb; have n2_ := mk0 (gz_ HB hg); have n3_ := mk0 (gz_ HB hg); replace HB := mk0 (bt_ (b_ HB) hb); have BK132 := mk0 (hbox); have GW132 := n2_; have GE132 := n3_; clear n2_ n3_ hb hbox hg; obtain ⟨hcz8_0, hcz8_1, hcz8_2, hfz8_0, hfz8_1, hfz8_2⟩ := c3_ BK132) | (go_at_call 156; (with_reducible refine (key_Fits.calls a0_1 true _ A4.out).mono ?_); rintro e w' ⟨rfl, ⟨nd, rfl⟩⟩))
     go_ret
     exact ⟨by first | rfl | (simp [errW_none, errW_some] <;> rfl) | (simp [*, errW_none, errW_some] <;> rfl), b_ HB⟩
    ·replace c6 := Bool.eq_false_iff.mpr c6
     subst c6
     rw [if_neg (show ¬ (false = true) by decide)] at H
     obtain rfl := Option.some.inj H
     go_enter Try.func118, Try.ntmps118
     go_wp2_with (first | ((with_reducible refine gate_dst (N := 1) rfl ?_); refine bx_ (N := 1) (cs := #[.int .i64 a0_0, .string a0_1, .bool false]) (t := 39) (h := ?_); intro gb132 hg w9 hbox hb; have n2_ := mk0 (gz_ HB hg); have n3_ := mk0 (gz_ HB hg); replace HB := mk0 (bt_ (b_ HB) hb); have BK132 := mk0 (hbox); have GW132 := n2_; have GE132 := n3_; clear n2_ n3_ hb hbox hg; obtain ⟨hcz10_0, hcz10_1, hcz10_2, hfz10_0, hfz10_1, hfz10_2⟩ := c3_ BK132) | (go_at_call 156; (with_reducible refine (key_Fits.calls a0_1 true _ A4.out).mono ?_); rintro e w' ⟨rfl, ⟨nd, rfl⟩⟩))
     go_ret
     exact ⟨by first | rfl | (simp [errW_none, errW_some] <;> rfl) | (simp [*, errW_none, errW_some] <;> rfl), b_ HB⟩
   ·replace c5 := Bool.eq_false_iff.mpr c5
    subst c5
    rw [if_neg (show ¬ (false = true) by decide)] at H
    obtain rfl := Option.some.inj H
    go_enter Try.func118, Try.ntmps118
    go_wp2_with (first | ((with_reducible refine gate_dst (N := 1) rfl ?_); refine bx_ (N := 1) (cs := #[.int .i64 a0_0, .string a0_1, .bool a0_2]) (t := 39) (h := ?_); intro gb132 hg w11 hbox hb; have n2_ := mk0 (gz_ HB hg); have n3_ := mk0 (gz_ HB hg); replace HB := mk0 (bt_ (b_ HB) hb); have BK132 := mk0 (hbox); have GW132 := n2_; have GE132 := n3_; clear n2_ n3_ hb hbox hg; obtain ⟨hcz12_0, hcz12_1, hcz12_2, hfz12_0, hfz12_1, hfz12_2⟩ := c3_ BK132) | (go_at_call 156; (with_reducible refine (key_Fits.calls a0_1 false _ A4.out).mono ?_); rintro e w' ⟨rfl, ⟨nd, rfl⟩⟩))
    go_ret
    exact ⟨by first | rfl | (simp [errW_none, errW_some] <;> rfl) | (simp [*, errW_none, errW_some] <;> rfl), b_ HB⟩
  ·rw [if_neg c3] at H
   have c3b0 : decide (a0_0 ≤ 1073741824) = false := decide_eq_false c3
   clear c3
   obtain rfl := Option.some.inj H
   go_enter Try.func118, Try.ntmps118
   go_wp2_with (first | ((with_reducible refine gate_dst (N := 1) rfl ?_); refine bx_ (N := 1) (cs := #[.int .i64 a0_0, .string a0_1, .bool a0_2]) (t := 39) (h := ?_); intro gb132 hg w13 hbox hb; have n2_ := mk0 (gz_ HB hg); have n3_ := mk0 (gz_ HB hg); replace HB := mk0 (bt_ (b_ HB) hb); have BK132 := mk0 (hbox); have GW132 := n2_; have GE132 := n3_; clear n2_ n3_ hb hbox hg; obtain ⟨hcz14_0, hcz14_1, hcz14_2, hfz14_0, hfz14_1, hfz14_2⟩ := c3_ BK132))
   go_ret
   exact ⟨by first | rfl | (simp [errW_none, errW_some] <;> rfl) | (simp [*, errW_none, errW_some] <;> rfl), b_ HB⟩
 ·rw [if_neg c2] at H
  have c2b0 : decide (1 ≤ a0_0) = false := decide_eq_false c2
  clear c2
  obtain rfl := Option.some.inj H
  go_enter Try.func118, Try.ntmps118
  go_wp2_with (first | ((with_reducible refine gate_dst (N := 1) rfl ?_); refine bx_ (N := 1) (cs := #[.int .i64 a0_0, .string a0_1, .bool a0_2]) (t := 39) (h := ?_); intro gb132 hg w15 hbox hb; have n2_ := mk0 (gz_ HB hg); have n3_ := mk0 (gz_ HB hg); replace HB := mk0 (bt_ (b_ HB) hb); have BK132 := mk0 (hbox); have GW132 := n2_; have GE132 := n3_; clear n2_ n3_ hb hbox hg; obtain ⟨hcz16_0, hcz16_1, hcz16_2, hfz16_0, hfz16_1, hfz16_2⟩ := c3_ BK132))
  go_ret
  exact ⟨by first | rfl | (simp [errW_none, errW_some] <;> rfl) | (simp [*, errW_none, errW_some] <;> rfl), b_ HB⟩

/-! ### key_Is: function 119 -/
def key_Is.f (a0 : ByteArray) : Option (Bool) := if a0.toList = ([] : List UInt8) then (some false) else (some (decide ((a0.size : Int) ≤ 12)))
set_option maxHeartbeats 8000000 in
set_option maxRecDepth 100000 in
theorem key_Is.calls (a0 : ByteArray) (r : Bool) (w : World) (h : key_Is.f a0 = some r) :
  Calls Try.prog 119 #[.string a0] w fun e w' => e = .returned (.bool r) ∧ Drawn0 w w' := by
 have H : (if a0.toList = ([] : List UInt8) then (some false) else (some (decide ((a0.size : Int) ≤ 12)))) = some r := h
 clear h
 by_cases c2 : a0.toList = ([] : List UInt8)
 ·rw [if_pos c2] at H
  have c2b0 : (a0.toList == ([] : List UInt8)) = true := beq_iff_eq.mpr c2
  have c2b1 : (a0.toList != ([] : List UInt8)) = false := bne_eq_false_iff_eq.mpr c2
  clear c2
  obtain rfl := Option.some.inj H
  go_enter Try.func119, Try.ntmps119
  go_wp2
  go_ret
  exact ⟨by first | rfl | (simp; done) | (simp [*]; done), by repeat (first | exact Drawn0.refl _ | apply Drawn0.step)⟩
 ·rw [if_neg c2] at H
  have c2b0 : (a0.toList == ([] : List UInt8)) = false := beq_eq_false_iff_ne.mpr c2
  have c2b1 : (a0.toList != ([] : List UInt8)) = true := bne_iff_ne.mpr c2
  obtain rfl := Option.some.inj H
  go_enter Try.func119, Try.ntmps119
  go_wp2
  go_ret
  exact ⟨by first | rfl | (simp; done) | (simp [*]; done), by repeat (first | exact Drawn0.refl _ | apply Drawn0.step)⟩

end Go.Proofs.Ytoodkefpkgbjcaa.PTbp
