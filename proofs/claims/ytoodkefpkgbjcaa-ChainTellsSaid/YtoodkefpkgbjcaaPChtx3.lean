-- PRINTED by print.py (a twelfth state) out of the translation. Not trusted: Lean checks it.
import Derived.Test.YtoodkefpkgbjcaaPChtx0
import Derived.Test.YtoodkefpkgbjcaaPChtx2
namespace Go.Proofs.Ytoodkefpkgbjcaa.PCht
open Go.RowKit Go.Proofs.YtoodkefpkgbjcaaW.PrintWords Go.Proofs.YtoodkefpkgbjcaaW.PrintLast Go.Proofs.YtoodkefpkgbjcaaW.PrintMore
attribute [local go_sem] max2_int min2_int max_two min_two max_three min_three max_four min_four   -- for this text's walks alone
set_option linter.unusedVariables false
set_option linter.unusedSimpArgs false

/-! ### quorumref8_Chain: function 17 -/
def quorumref8_Chain.l0 : Nat → Int → ByteArray → List (S39) → Option (Bool)
 | 0, _, _, _ => none
 | k + 1, x3, x123000, x123001 => if x3 < (x123001.length : Int) then (if 0 ≤ x3 then ((quorumref8_Version.f ((rd_T39 x123001 x3).f0) ((rd_T39 x123001 x3).f1) ((rd_T39 x123001 x3).f2)).bind fun t124 => (if t124 = true then (if x3 > 0 then (if 0 ≤ (wrap64 (x3 - 1)) then (if (wrap64 (x3 - 1)) < (x123001.length : Int) then (if ((rd_T39 x123001 (wrap64 (x3 - 1))).f0) ≤ ((rd_T39 x123001 x3).f0) then (some false) else (quorumref8_Chain.l0 k (wrap64 (x3 + 1)) x123000 x123001)) else (none)) else (none)) else (quorumref8_Chain.l0 k (wrap64 (x3 + 1)) x123000 x123001)) else (some false))) else (none)) else ((quorumref1_Key.f x123000).bind fun t127 => (if t127 = true then (some (decide ((x123001.length : Int) > 0))) else (some false)))
def quorumref8_Chain.f (k : Nat) (a0_0 : ByteArray) (l0_1 : List (S39)) : Option (Bool) := quorumref8_Chain.l0 k 0 a0_0 l0_1
theorem quorumref8_Chain.mono_l : ∀ k, (∀ y0 y1 y2, LeO (quorumref8_Chain.l0 k y0 y1 y2) (quorumref8_Chain.l0 (k + 1) y0 y1 y2))
 | 0 => fun _ _ _ r h => by simp [quorumref8_Chain.l0] at h
 | k + 1 => by
  have ih0 := quorumref8_Chain.mono_l k
  ·intro y0 y1 y2
   unfold quorumref8_Chain.l0
   repeat' first
   | (with_reducible exact ih0 _ _ _)
   | (with_reducible exact LeO.refl _)
   | (with_reducible exact LeO.none _)
   | (with_reducible refine LeO.ite ?_ ?_)
   | (with_reducible refine LeO.bind ?_ (fun _ => ?_))
   | exact ih0 _ _ _
   | exact LeO.none _
   | refine LeO.ite ?_ ?_
   | refine LeO.bind ?_ (fun _ => ?_)
theorem quorumref8_Chain.mono : ∀ a0 a1 k, LeO (quorumref8_Chain.f k a0 a1) (quorumref8_Chain.f (k + 1) a0 a1) := by
 intro a0 a1 k
 have ih0 := quorumref8_Chain.mono_l k
 unfold quorumref8_Chain.f
 repeat' first
   | (with_reducible exact ih0 _ _ _)
   | (with_reducible exact LeO.refl _)
   | (with_reducible exact LeO.none _)
   | (with_reducible refine LeO.ite ?_ ?_)
   | (with_reducible refine LeO.bind ?_ (fun _ => ?_))
   | exact ih0 _ _ _
   | exact LeO.none _
   | refine LeO.ite ?_ ?_
   | refine LeO.bind ?_ (fun _ => ?_)
def quorumref8_Chain.T4 : Bool × List (List Nat × List Nat) := (true, [([], []), ([0], [0]), ([], []), ([1, 2], [1, 2]), ([3], [3]), ([4], [4]), ([5], [5]), ([6, 5], [6]), ([7], [7]), ([8, 7], [7, 8]), ([9, 7, 7], [7, 9]), ([10], [10]), ([11, 10], [10, 11]), ([10], [10]), ([13, 10], [10, 13]), ([12, 14, 10], [10, 12, 14]), ([15, 10], [10, 15]), ([16, 10], [10, 16]), ([10], [10]), ([18, 10], [10, 18]), ([10], [10]), ([19, 20, 10], [10, 19, 20]), ([21, 10], [10, 21]), ([22, 10], [10, 22]), ([17, 23, 10], [10, 17, 23]), ([10, 24, 7], [7, 10, 24]), ([7, 25], [7, 25])])
def quorumref8_Chain.B4 : List Nat := [0, 1, 0, 7, 15, 31, 63, 127, 255, 511, 1023, 2047, 4095, 2047, 10239, 32767, 65535, 131071, 2047, 264191, 2047, 1837055, 3934207, 8128511, 16777215, 33554431, 67108863]
theorem quorumref8_Chain.tab4 : rtab .any (opsOf Try.f17 4) = quorumref8_Chain.T4 := by kernel_rfl
theorem quorumref8_Chain.bits4 : waitsOk quorumref8_Chain.T4.2 quorumref8_Chain.B4 = true := by kernel_rfl
set_option maxHeartbeats 8000000 in
set_option maxRecDepth 100000 in
theorem quorumref8_Chain.calls (k : Nat) (a0_0 : ByteArray) (A0_1 : Option Addr) (c0_1 : Nat) (l0_1 : List (S39)) (r : Bool) (w : World) (hr0_1 : Kd.C k39 w A0_1 l0_1.length l0_1) (hc0_1 : l0_1.length ≤ c0_1) (h : quorumref8_Chain.f k a0_0 l0_1 = some r) :
  Calls Try.prog 17 #[.agg #[.string a0_0, .slice A0_1 l0_1.length c0_1]] w fun e w' => e = .returned (.bool r) ∧ Below w.heap.size w w' := by
 have hu30 := Try.underlying30
 have hu39 := Try.underlying39
 have HR0_1 := mk0 hr0_1
 have HC0_1 := mk0 hc0_1
 clear hr0_1 hc0_1
 have HB := mk0 (Below.refl w.heap.size w)
 have H : (quorumref8_Chain.l0 k 0 a0_0 l0_1) = some r := h
 clear h
 have H' := mk0 H
 clear H
 go_enter Try.func17, Try.ntmps17
 go_wp2_with (first | ((with_reducible refine gate_dst (N := 1) rfl ?_); (try (refine gate_guard (by rfl) ?_; dsimp only)); refine bx_ (N := 1) (cs := #[.string a0_0, .slice A0_1 l0_1.length c0_1]) (t := 30) (h := ?_); intro gb122 hg w2 hbox hb; have n2_ := mk0 (gz_ HB hg); have n3_ := mk0 (gz_ HB hg); replace HB := mk0 (bt_ (b_ HB) hb); have BK122 := mk0 (hbox); have GW122 := n2_; have GE122 := n3_; clear n2_ n3_; clear hb hbox hg))
 go_loopg [3] k (fun kq v3 w' => ∃ (x3_1 : Int), v3 = .int .i64 x3_1 ∧ Fc (quorumref8_Chain.l0 kq x3_1 a0_0 l0_1 = some r) ∧ Fc (kq ≤ k) ∧ Fc (w'.heap[gb122]? = some (.cells #[.string a0_0, (.slice A0_1 l0_1.length c0_1)] 30 (0, 0))) ∧ Fc (Below w.heap.size w w'))
 case atStart => exact ⟨(0), (by first | rfl | (simp; done) | (simp [*]; done)), H', ⟨Nat.le_refl _⟩, ⟨h_ BK122⟩, ⟨b_ HB⟩⟩
 case round =>
  clear H'
  obtain ⟨x3_1, rfl, HA, HK1, BK122, HB⟩ := hrel
  cases gk with
  | zero => exact absurd HA.out (by simp [quorumref8_Chain.l0])
  | succ k1 =>
   have H := HA.out
   clear HA
   simp only [quorumref8_Chain.l0] at H
   as_aux_lemma =>
    by_cases c3 : x3_1 < (l0_1.length : Int)
    ·rw [if_pos c3] at H
     have c3b0 : decide (x3_1 < (l0_1.length : Int)) = true := decide_eq_true c3
     clear c3
     by_cases c4 : 0 ≤ x3_1
     ·rw [if_pos c4] at H
      have c4b0 : decide (0 ≤ x3_1) = true := decide_eq_true c4
      clear c4
      replace H := Option.bind_eq_some_iff.mp H
      obtain ⟨t124, A50, H⟩ := H
      try dsimp only at H
      have A5 := mk0 A50
      clear A50
      by_cases c6 : t124 = true
      ·subst c6
       rw [if_pos rfl] at H
       by_cases c7 : x3_1 > 0
       ·rw [if_pos c7] at H
        have c7b0 : decide (0 < x3_1) = true := decide_eq_true c7
        clear c7
        obtain ⟨ji8, hji8⟩ : ∃ j_ : Int, (wrap64 (x3_1 - 1)) = j_ := ⟨_, rfl⟩
        replace H : (if 0 ≤ (ji8) then (if (ji8) < (l0_1.length : Int) then (if ((rd_T39 l0_1 (ji8)).f0) ≤ ((rd_T39 l0_1 x3_1).f0) then (some false) else (quorumref8_Chain.l0 k1 (wrap64 (x3_1 + 1)) a0_0 l0_1)) else (none)) else (none)) = some r := by first | (rw [hji8] at H; exact H) | (simp only [hji8] at H ⊢; exact H)
        (try rw [hji8] at A5)
        have hji8w : (IntKind.i64.wrap (x3_1 - 1)) = ji8 := (i64_w _).trans hji8
        by_cases c9 : 0 ≤ (ji8)
        ·rw [if_pos c9] at H
         have c9b0 : decide (0 ≤ (ji8)) = true := decide_eq_true c9
         clear c9
         by_cases c10 : (ji8) < (l0_1.length : Int)
         ·rw [if_pos c10] at H
          have c10b0 : decide ((ji8) < (l0_1.length : Int)) = true := decide_eq_true c10
          clear c10
          by_cases c11 : ((rd_T39 l0_1 (ji8)).f0) ≤ ((rd_T39 l0_1 x3_1).f0)
          ·rw [if_pos c11] at H
           have c11b0 : decide (((rd_T39 l0_1 (ji8)).f0) ≤ ((rd_T39 l0_1 x3_1).f0)) = true := decide_eq_true c11
           clear c11
           obtain rfl := Option.some.inj H
           obtain ⟨hcz12_0, hcz12_1, hfz12_0, hfz12_1⟩ := c2_ BK122
           try go_wp2
           replace BK122 := mk0 (bD_ BK122.out)
           replace HB := mk0 (b1_ HB.out)
           have p123 : 0 ≤ (x3_1 : Int) := of_decide_eq_true (by first | (with_reducible assumption) | assumption)
           have q123 : x3_1 < (l0_1.length : Int) := of_decide_eq_true (by first | (with_reducible assumption) | assumption)
           obtain ⟨ad123, e123, hx123_0, hx123_1, hx123_2⟩ := at_T39 HR0_1.out x3_1 p123 q123
           have hw123_2 := hx123_2
           have hw123_1 := hx123_1
           have hw123_0 := hx123_0
           cases e123
           replace hx123_0 := bc_ HB hx123_0
           replace hx123_1 := bc_ HB hx123_1
           replace hx123_2 := bc_ HB hx123_2
           replace p123 := eq_true p123
           replace q123 := eq_true q123
           have p125 : 0 ≤ ((ji8) : Int) := of_decide_eq_true (by first | (with_reducible assumption) | assumption)
           have q125 : (ji8) < (l0_1.length : Int) := of_decide_eq_true (by first | (with_reducible assumption) | assumption)
           obtain ⟨ad125, e125, hx125_0, hx125_1, hx125_2⟩ := at_T39 HR0_1.out (ji8) p125 q125
           have hw125_2 := hx125_2
           have hw125_1 := hx125_1
           have hw125_0 := hx125_0
           obtain rfl : ad123 = ad125 := (by injection e125)
           replace hx125_0 := bc_ HB hx125_0
           replace hx125_1 := bc_ HB hx125_1
           replace hx125_2 := bc_ HB hx125_2
           replace p125 := eq_true p125
           replace q125 := eq_true q125
           have p126 : 0 ≤ (x3_1 : Int) := of_decide_eq_true (by first | (with_reducible assumption) | assumption)
           have q126 : x3_1 < (l0_1.length : Int) := of_decide_eq_true (by first | (with_reducible assumption) | assumption)
           obtain ⟨ad126, e126, hx126_0, hx126_1, hx126_2⟩ := at_T39 HR0_1.out x3_1 p126 q126
           have hw126_2 := hx126_2
           have hw126_1 := hx126_1
           have hw126_0 := hx126_0
           obtain rfl : ad123 = ad126 := (by injection e126)
           replace hx126_0 := bc_ HB hx126_0
           replace hx126_1 := bc_ HB hx126_1
           replace hx126_2 := bc_ HB hx126_2
           replace p126 := eq_true p126
           replace q126 := eq_true q126
           refine start_ (n := 27) (S := fun w' => w'.cell? ⟨gb122, 0, none⟩ = some (.string a0_0) ∧ w'.cell? ⟨gb122, 1, none⟩ = some (.slice (some ad123) l0_1.length c0_1) ∧ w'.cell? (ad123.add ((x3_1).toNat * 3)) = some (.int .i64 ((rd_T39 l0_1 x3_1).f0)) ∧ w'.cell? ⟨(ad123.add ((x3_1).toNat * 3)).block, (ad123.add ((x3_1).toNat * 3)).off + 1, none⟩ = some (.string ((rd_T39 l0_1 x3_1).f1)) ∧ w'.cell? ⟨(ad123.add ((x3_1).toNat * 3)).block, (ad123.add ((x3_1).toNat * 3)).off + 2, none⟩ = some (.bool ((rd_T39 l0_1 x3_1).f2)) ∧ w'.cell? (ad123.add (((ji8)).toNat * 3)) = some (.int .i64 ((rd_T39 l0_1 (ji8)).f0)) ∧ w'.cell? ⟨(ad123.add (((ji8)).toNat * 3)).block, (ad123.add (((ji8)).toNat * 3)).off + 1, none⟩ = some (.string ((rd_T39 l0_1 (ji8)).f1)) ∧ w'.cell? ⟨(ad123.add (((ji8)).toNat * 3)).block, (ad123.add (((ji8)).toNat * 3)).off + 2, none⟩ = some (.bool ((rd_T39 l0_1 (ji8)).f2)) ∧ w'.cell? (ad123.add ((x3_1).toNat * 3)) = some (.int .i64 ((rd_T39 l0_1 x3_1).f0)) ∧ w'.cell? ⟨(ad123.add ((x3_1).toNat * 3)).block, (ad123.add ((x3_1).toNat * 3)).off + 1, none⟩ = some (.string ((rd_T39 l0_1 x3_1).f1)) ∧ w'.cell? ⟨(ad123.add ((x3_1).toNat * 3)).block, (ad123.add ((x3_1).toNat * 3)).off + 2, none⟩ = some (.bool ((rd_T39 l0_1 x3_1).f2))) (ds := []) (bt 27 0) (by kernel_rfl) rfl rfl ⟨bk_ BK122 0, bk_ BK122 1, (bc_ HB hw123_0), (bc_ HB hw123_1), (bc_ HB hw123_2), (bc_ HB hw125_0), (bc_ HB hw125_1), (bc_ HB hw125_2), (bc_ HB hw126_0), (bc_ HB hw126_1), (bc_ HB hw126_2)⟩ (fun hHeld => ?_); refine with_tabW quorumref8_Chain.tab4 quorumref8_Chain.bits4 (fun HT_ HW_ => ?_)
           generalize wr.drew = w13 at BK122 HB hx123_0 hx123_1 hx123_2 hx125_0 hx125_1 hx125_2 hx126_0 hx126_1 hx126_2 hHeld ⊢
           refine pq_ HT_.out 0 11 (bt 27 1) (h := ?_)
           refine pq_ HT_.out 2 13 (bt 27 5) (h := ?_)
           refine tq11_ HT_.out HW_.out 1 12 (bt 27 7) hHeld (h := ?_)
           refine pq_ HT_.out 3 14 (bt 27 15) (h := ?_)
           refine tq11_ HT_.out HW_.out 4 15 (bt 27 31) hHeld (h := ?_)
           refine one_ (i := 5) (N := some 16) (bt 27 63) rfl rfl (one_of HT_.out (by kernel_rfl)) (by decide) (fun K hK => ?_)
           refine goes_ Try.func30 (by kernel_rfl) rfl #[.agg #[.int .i64 ((rd_T39 l0_1 x3_1).f0), .string ((rd_T39 l0_1 x3_1).f1), .bool ((rd_T39 l0_1 x3_1).f2)]] (by rfl) rfl rfl (by (try simp only [List.map_toArray, List.map_cons, List.map_nil]); first | done | rfl | (simp only [List.length_drop, List.length_take]; rfl)) ?_
           with_reducible refine (quorumref8_Version.calls ((rd_T39 l0_1 x3_1).f0) ((rd_T39 l0_1 x3_1).f1) ((rd_T39 l0_1 x3_1).f2) true _ A5.out).mono ?_
           rintro e w14 ⟨rfl, hb⟩
           refine ⟨_, rfl, ?_⟩
           replace BK122 := mk0 (u_ BK122 hb)
           replace HB := mk0 (bt_ (b_ HB) hb)
           (try clear hb)
           (try clear hb2)
           (try clear hk)
           (try clear hi)
           refine hK.out _ _ ⟨bk_ BK122 0, bk_ BK122 1, (bc_ HB hw123_0), (bc_ HB hw123_1), (bc_ HB hw123_2), (bc_ HB hw125_0), (bc_ HB hw125_1), (bc_ HB hw125_2), (bc_ HB hw126_0), (bc_ HB hw126_1), (bc_ HB hw126_2)⟩ (fun hHeld => ?_)
           clear hK K
           refine norm_ (a' := ?_) ?_ ?_
           rotate_left
           ·show Act.put _ (some 16) _ = _
            simp only [z_]
            rfl
           refine pq_ HT_.out 6 17 (bt 27 127) (h := ?_)
           refine pq_ HT_.out 7 18 (bt 27 255) (h := ?_)
           refine pq_ HT_.out 8 19 (bt 27 511) (h := ?_)
           refine pq_ HT_.out 9 20 (bt 27 1023) (h := ?_)
           refine pq_ HT_.out 10 21 (bt 27 2047) (h := ?_)
           refine pq_ HT_.out 11 22 (bt 27 4095) (h := ?_)
           refine pq_ HT_.out 13 24 (bt 27 12287) (h := ?_)
           refine pq_ HT_.out 14 25 (bt 27 28671) (h := ?_)
           refine pq_ HT_.out 18 29 (bt 27 290815) (h := ?_)
           refine pq_ HT_.out 20 31 (bt 27 1339391) (h := ?_)
           refine tq11_ HT_.out HW_.out 12 23 (bt 27 1343487) hHeld (h := ?_)
           refine pq_ HT_.out 15 26 (bt 27 1376255) (h := ?_)
           refine pq_ HT_.out 16 27 (bt 27 1441791) (h := ?_)
           refine tq11_ HT_.out HW_.out 17 28 (bt 27 1572863) hHeld (h := ?_)
           refine tq11_ HT_.out HW_.out 19 30 (bt 27 2097151) hHeld (h := ?_)
           refine pq_ HT_.out 21 32 (bt 27 4194303) (h := ?_)
           refine pq_ HT_.out 22 33 (bt 27 8388607) (h := ?_)
           refine tq11_ HT_.out HW_.out 23 34 (bt 27 16777215) hHeld (h := ?_)
           refine pq_ HT_.out 24 35 (bt 27 33554431) (h := ?_)
           refine pq_ HT_.out 25 36 (bt 27 67108863) (h := ?_)
           refine pq_ HT_.out 26 37 (bt 27 134217727) (h := ?_)
           refine done_ (done_of HT_.out (by kernel_rfl)) ?_
           try go_wp2
           go_ret
           exact ⟨by first | rfl | (simp [errW_none, errW_some] <;> rfl) | (simp only [← hji8]; first | rfl | (simp [errW_none, errW_some] <;> rfl)) | (simp [*, errW_none, errW_some] <;> rfl), b_ HB⟩
          ·rw [if_neg c11] at H
           have c11b0 : decide (((rd_T39 l0_1 (ji8)).f0) ≤ ((rd_T39 l0_1 x3_1).f0)) = false := decide_eq_false c11
           clear c11
           have H' := mk0 H
           clear H
           obtain ⟨hcz15_0, hcz15_1, hfz15_0, hfz15_1⟩ := c2_ BK122
           try go_wp2
           replace BK122 := mk0 (bD_ BK122.out)
           replace HB := mk0 (b1_ HB.out)
           have p123 : 0 ≤ (x3_1 : Int) := of_decide_eq_true (by first | (with_reducible assumption) | assumption)
           have q123 : x3_1 < (l0_1.length : Int) := of_decide_eq_true (by first | (with_reducible assumption) | assumption)
           obtain ⟨ad123, e123, hx123_0, hx123_1, hx123_2⟩ := at_T39 HR0_1.out x3_1 p123 q123
           have hw123_2 := hx123_2
           have hw123_1 := hx123_1
           have hw123_0 := hx123_0
           cases e123
           replace hx123_0 := bc_ HB hx123_0
           replace hx123_1 := bc_ HB hx123_1
           replace hx123_2 := bc_ HB hx123_2
           replace p123 := eq_true p123
           replace q123 := eq_true q123
           have p125 : 0 ≤ ((ji8) : Int) := of_decide_eq_true (by first | (with_reducible assumption) | assumption)
           have q125 : (ji8) < (l0_1.length : Int) := of_decide_eq_true (by first | (with_reducible assumption) | assumption)
           obtain ⟨ad125, e125, hx125_0, hx125_1, hx125_2⟩ := at_T39 HR0_1.out (ji8) p125 q125
           have hw125_2 := hx125_2
           have hw125_1 := hx125_1
           have hw125_0 := hx125_0
           obtain rfl : ad123 = ad125 := (by injection e125)
           replace hx125_0 := bc_ HB hx125_0
           replace hx125_1 := bc_ HB hx125_1
           replace hx125_2 := bc_ HB hx125_2
           replace p125 := eq_true p125
           replace q125 := eq_true q125
           have p126 : 0 ≤ (x3_1 : Int) := of_decide_eq_true (by first | (with_reducible assumption) | assumption)
           have q126 : x3_1 < (l0_1.length : Int) := of_decide_eq_true (by first | (with_reducible assumption) | assumption)
           obtain ⟨ad126, e126, hx126_0, hx126_1, hx126_2⟩ := at_T39 HR0_1.out x3_1 p126 q126
           have hw126_2 := hx126_2
           have hw126_1 := hx126_1
           have hw126_0 := hx126_0
           obtain rfl : ad123 = ad126 := (by injection e126)
           replace hx126_0 := bc_ HB hx126_0
           replace hx126_1 := bc_ HB hx126_1
           replace hx126_2 := bc_ HB hx126_2
           replace p126 := eq_true p126
           replace q126 := eq_true q126
           refine start_ (n := 27) (S := fun w' => w'.cell? ⟨gb122, 0, none⟩ = some (.string a0_0) ∧ w'.cell? ⟨gb122, 1, none⟩ = some (.slice (some ad123) l0_1.length c0_1) ∧ w'.cell? (ad123.add ((x3_1).toNat * 3)) = some (.int .i64 ((rd_T39 l0_1 x3_1).f0)) ∧ w'.cell? ⟨(ad123.add ((x3_1).toNat * 3)).block, (ad123.add ((x3_1).toNat * 3)).off + 1, none⟩ = some (.string ((rd_T39 l0_1 x3_1).f1)) ∧ w'.cell? ⟨(ad123.add ((x3_1).toNat * 3)).block, (ad123.add ((x3_1).toNat * 3)).off + 2, none⟩ = some (.bool ((rd_T39 l0_1 x3_1).f2)) ∧ w'.cell? (ad123.add (((ji8)).toNat * 3)) = some (.int .i64 ((rd_T39 l0_1 (ji8)).f0)) ∧ w'.cell? ⟨(ad123.add (((ji8)).toNat * 3)).block, (ad123.add (((ji8)).toNat * 3)).off + 1, none⟩ = some (.string ((rd_T39 l0_1 (ji8)).f1)) ∧ w'.cell? ⟨(ad123.add (((ji8)).toNat * 3)).block, (ad123.add (((ji8)).toNat * 3)).off + 2, none⟩ = some (.bool ((rd_T39 l0_1 (ji8)).f2)) ∧ w'.cell? (ad123.add ((x3_1).toNat * 3)) = some (.int .i64 ((rd_T39 l0_1 x3_1).f0)) ∧ w'.cell? ⟨(ad123.add ((x3_1).toNat * 3)).block, (ad123.add ((x3_1).toNat * 3)).off + 1, none⟩ = some (.string ((rd_T39 l0_1 x3_1).f1)) ∧ w'.cell? ⟨(ad123.add ((x3_1).toNat * 3)).block, (ad123.add ((x3_1).toNat * 3)).off + 2, none⟩ = some (.bool ((rd_T39 l0_1 x3_1).f2))) (ds := []) (bt 27 0) (by kernel_rfl) rfl rfl ⟨bk_ BK122 0, bk_ BK122 1, (bc_ HB hw123_0), (bc_ HB hw123_1), (bc_ HB hw123_2), (bc_ HB hw125_0), (bc_ HB hw125_1), (bc_ HB hw125_2), (bc_ HB hw126_0), (bc_ HB hw126_1), (bc_ HB hw126_2)⟩ (fun hHeld => ?_); refine with_tabW quorumref8_Chain.tab4 quorumref8_Chain.bits4 (fun HT_ HW_ => ?_)
           generalize wr.drew = w16 at BK122 HB hx123_0 hx123_1 hx123_2 hx125_0 hx125_1 hx125_2 hx126_0 hx126_1 hx126_2 hHeld ⊢
           refine pq_ HT_.out 0 11 (bt 27 1) (h := ?_)
           refine pq_ HT_.out 2 13 (bt 27 5) (h := ?_)
           refine tq11_ HT_.out HW_.out 1 12 (bt 27 7) hHeld (h := ?_)
           refine pq_ HT_.out 3 14 (bt 27 15) (h := ?_)
           refine tq11_ HT_.out HW_.out 4 15 (bt 27 31) hHeld (h := ?_)
           refine one_ (i := 5) (N := some 16) (bt 27 63) rfl rfl (one_of HT_.out (by kernel_rfl)) (by decide) (fun K hK => ?_)
           refine goes_ Try.func30 (by kernel_rfl) rfl #[.agg #[.int .i64 ((rd_T39 l0_1 x3_1).f0), .string ((rd_T39 l0_1 x3_1).f1), .bool ((rd_T39 l0_1 x3_1).f2)]] (by rfl) rfl rfl (by (try simp only [List.map_toArray, List.map_cons, List.map_nil]); first | done | rfl | (simp only [List.length_drop, List.length_take]; rfl)) ?_
           with_reducible refine (quorumref8_Version.calls ((rd_T39 l0_1 x3_1).f0) ((rd_T39 l0_1 x3_1).f1) ((rd_T39 l0_1 x3_1).f2) true _ A5.out).mono ?_
           rintro e w17 ⟨rfl, hb⟩
           refine ⟨_, rfl, ?_⟩
           replace BK122 := mk0 (u_ BK122 hb)
           replace HB := mk0 (bt_ (b_ HB) hb)
           (try clear hb)
           (try clear hb2)
           (try clear hk)
           (try clear hi)
           refine hK.out _ _ ⟨bk_ BK122 0, bk_ BK122 1, (bc_ HB hw123_0), (bc_ HB hw123_1), (bc_ HB hw123_2), (bc_ HB hw125_0), (bc_ HB hw125_1), (bc_ HB hw125_2), (bc_ HB hw126_0), (bc_ HB hw126_1), (bc_ HB hw126_2)⟩ (fun hHeld => ?_)
           clear hK K
           refine norm_ (a' := ?_) ?_ ?_
           rotate_left
           ·show Act.put _ (some 16) _ = _
            simp only [z_]
            rfl
           refine pq_ HT_.out 6 17 (bt 27 127) (h := ?_)
           refine pq_ HT_.out 7 18 (bt 27 255) (h := ?_)
           refine pq_ HT_.out 8 19 (bt 27 511) (h := ?_)
           refine pq_ HT_.out 9 20 (bt 27 1023) (h := ?_)
           refine pq_ HT_.out 10 21 (bt 27 2047) (h := ?_)
           refine pq_ HT_.out 11 22 (bt 27 4095) (h := ?_)
           refine pq_ HT_.out 13 24 (bt 27 12287) (h := ?_)
           refine pq_ HT_.out 14 25 (bt 27 28671) (h := ?_)
           refine pq_ HT_.out 18 29 (bt 27 290815) (h := ?_)
           refine pq_ HT_.out 20 31 (bt 27 1339391) (h := ?_)
           refine tq11_ HT_.out HW_.out 12 23 (bt 27 1343487) hHeld (h := ?_)
           refine pq_ HT_.out 15 26 (bt 27 1376255) (h := ?_)
           refine pq_ HT_.out 16 27 (bt 27 1441791) (h := ?_)
           refine tq11_ HT_.out HW_.out 17 28 (bt 27 1572863) hHeld (h := ?_)
           refine tq11_ HT_.out HW_.out 19 30 (bt 27 2097151) hHeld (h := ?_)
           refine pq_ HT_.out 21 32 (bt 27 4194303) (h := ?_)
           refine pq_ HT_.out 22 33 (bt 27 8388607) (h := ?_)
           refine tq11_ HT_.out HW_.out 23 34 (bt 27 16777215) hHeld (h := ?_)
           refine pq_ HT_.out 24 35 (bt 27 33554431) (h := ?_)
           refine pq_ HT_.out 25 36 (bt 27 67108863) (h := ?_)
           refine pq_ HT_.out 26 37 (bt 27 134217727) (h := ?_)
           refine done_ (done_of HT_.out (by kernel_rfl)) ?_
           try go_wp2
           go_roundg k1
           case measure => have := HK1.out; omega
           case rel => exact ⟨(wrap64 (x3_1 + 1)), (by first | rfl | (simp; done) | (simp [*]; done)), H', ⟨by have := HK1.out; omega⟩, ⟨h_ BK122⟩, ⟨b_ HB⟩⟩
         ·rw [if_neg c10] at H
          exact absurd H (by simp)
        ·rw [if_neg c9] at H
         exact absurd H (by simp)
       ·rw [if_neg c7] at H
        have c7b0 : decide (0 < x3_1) = false := decide_eq_false c7
        clear c7
        have H' := mk0 H
        clear H
        obtain ⟨hcz18_0, hcz18_1, hfz18_0, hfz18_1⟩ := c2_ BK122
        try go_wp2
        replace BK122 := mk0 (bD_ BK122.out)
        replace HB := mk0 (b1_ HB.out)
        have p123 : 0 ≤ (x3_1 : Int) := of_decide_eq_true (by first | (with_reducible assumption) | assumption)
        have q123 : x3_1 < (l0_1.length : Int) := of_decide_eq_true (by first | (with_reducible assumption) | assumption)
        obtain ⟨ad123, e123, hx123_0, hx123_1, hx123_2⟩ := at_T39 HR0_1.out x3_1 p123 q123
        have hw123_2 := hx123_2
        have hw123_1 := hx123_1
        have hw123_0 := hx123_0
        cases e123
        replace hx123_0 := bc_ HB hx123_0
        replace hx123_1 := bc_ HB hx123_1
        replace hx123_2 := bc_ HB hx123_2
        replace p123 := eq_true p123
        replace q123 := eq_true q123
        refine start_ (n := 27) (S := fun w' => w'.cell? ⟨gb122, 0, none⟩ = some (.string a0_0) ∧ w'.cell? ⟨gb122, 1, none⟩ = some (.slice (some ad123) l0_1.length c0_1) ∧ w'.cell? (ad123.add ((x3_1).toNat * 3)) = some (.int .i64 ((rd_T39 l0_1 x3_1).f0)) ∧ w'.cell? ⟨(ad123.add ((x3_1).toNat * 3)).block, (ad123.add ((x3_1).toNat * 3)).off + 1, none⟩ = some (.string ((rd_T39 l0_1 x3_1).f1)) ∧ w'.cell? ⟨(ad123.add ((x3_1).toNat * 3)).block, (ad123.add ((x3_1).toNat * 3)).off + 2, none⟩ = some (.bool ((rd_T39 l0_1 x3_1).f2))) (ds := []) (bt 27 0) (by kernel_rfl) rfl rfl ⟨bk_ BK122 0, bk_ BK122 1, (bc_ HB hw123_0), (bc_ HB hw123_1), (bc_ HB hw123_2)⟩ (fun hHeld => ?_); refine with_tabW quorumref8_Chain.tab4 quorumref8_Chain.bits4 (fun HT_ HW_ => ?_)
        generalize wr.drew = w19 at BK122 HB hx123_0 hx123_1 hx123_2 hHeld ⊢
        refine pq_ HT_.out 0 11 (bt 27 1) (h := ?_)
        refine pq_ HT_.out 2 13 (bt 27 5) (h := ?_)
        refine tq5_ HT_.out HW_.out 1 12 (bt 27 7) hHeld (h := ?_)
        refine pq_ HT_.out 3 14 (bt 27 15) (h := ?_)
        refine tq5_ HT_.out HW_.out 4 15 (bt 27 31) hHeld (h := ?_)
        refine one_ (i := 5) (N := some 16) (bt 27 63) rfl rfl (one_of HT_.out (by kernel_rfl)) (by decide) (fun K hK => ?_)
        refine goes_ Try.func30 (by kernel_rfl) rfl #[.agg #[.int .i64 ((rd_T39 l0_1 x3_1).f0), .string ((rd_T39 l0_1 x3_1).f1), .bool ((rd_T39 l0_1 x3_1).f2)]] (by rfl) rfl rfl (by (try simp only [List.map_toArray, List.map_cons, List.map_nil]); first | done | rfl | (simp only [List.length_drop, List.length_take]; rfl)) ?_
        with_reducible refine (quorumref8_Version.calls ((rd_T39 l0_1 x3_1).f0) ((rd_T39 l0_1 x3_1).f1) ((rd_T39 l0_1 x3_1).f2) true _ A5.out).mono ?_
        rintro e w20 ⟨rfl, hb⟩
        refine ⟨_, rfl, ?_⟩
        replace BK122 := mk0 (u_ BK122 hb)
        replace HB := mk0 (bt_ (b_ HB) hb)
        (try clear hb)
        (try clear hb2)
        (try clear hk)
        (try clear hi)
        refine hK.out _ _ ⟨bk_ BK122 0, bk_ BK122 1, (bc_ HB hw123_0), (bc_ HB hw123_1), (bc_ HB hw123_2)⟩ (fun hHeld => ?_)
        clear hK K
        refine norm_ (a' := ?_) ?_ ?_
        rotate_left
        ·show Act.put _ (some 16) _ = _
         simp only [z_]
         rfl
        refine pq_ HT_.out 6 17 (bt 27 127) (h := ?_)
        refine pq_ HT_.out 7 18 (bt 27 255) (h := ?_)
        refine pq_ HT_.out 8 19 (bt 27 511) (h := ?_)
        refine pq_ HT_.out 9 20 (bt 27 1023) (h := ?_)
        refine pq_ HT_.out 10 21 (bt 27 2047) (h := ?_)
        refine uq_ HT_.out 11 22 (bt 27 4095) (h := ?_)
        refine uq_ HT_.out 12 23 (bt 27 8191) (h := ?_)
        refine uq_ HT_.out 13 24 (bt 27 16383) (h := ?_)
        refine uq_ HT_.out 14 25 (bt 27 32767) (h := ?_)
        refine uq_ HT_.out 15 26 (bt 27 65535) (h := ?_)
        refine uq_ HT_.out 16 27 (bt 27 131071) (h := ?_)
        refine uq_ HT_.out 17 28 (bt 27 262143) (h := ?_)
        refine uq_ HT_.out 18 29 (bt 27 524287) (h := ?_)
        refine uq_ HT_.out 19 30 (bt 27 1048575) (h := ?_)
        refine uq_ HT_.out 20 31 (bt 27 2097151) (h := ?_)
        refine uq_ HT_.out 21 32 (bt 27 4194303) (h := ?_)
        refine uq_ HT_.out 22 33 (bt 27 8388607) (h := ?_)
        refine uq_ HT_.out 23 34 (bt 27 16777215) (h := ?_)
        refine uq_ HT_.out 24 35 (bt 27 33554431) (h := ?_)
        refine pq_ HT_.out 25 36 (bt 27 67108863) (h := ?_)
        refine pq_ HT_.out 26 37 (bt 27 134217727) (h := ?_)
        refine done_ (done_of HT_.out (by kernel_rfl)) ?_
        try go_wp2
        go_roundg k1
        case measure => have := HK1.out; omega
        case rel => exact ⟨(wrap64 (x3_1 + 1)), (by first | rfl | (simp; done) | (simp [*]; done)), H', ⟨by have := HK1.out; omega⟩, ⟨h_ BK122⟩, ⟨b_ HB⟩⟩
      ·replace c6 := Bool.eq_false_iff.mpr c6
       subst c6
       rw [if_neg (show ¬ (false = true) by decide)] at H
       obtain rfl := Option.some.inj H
       obtain ⟨hcz21_0, hcz21_1, hfz21_0, hfz21_1⟩ := c2_ BK122
       try go_wp2
       replace BK122 := mk0 (bD_ BK122.out)
       replace HB := mk0 (b1_ HB.out)
       have p123 : 0 ≤ (x3_1 : Int) := of_decide_eq_true (by first | (with_reducible assumption) | assumption)
       have q123 : x3_1 < (l0_1.length : Int) := of_decide_eq_true (by first | (with_reducible assumption) | assumption)
       obtain ⟨ad123, e123, hx123_0, hx123_1, hx123_2⟩ := at_T39 HR0_1.out x3_1 p123 q123
       have hw123_2 := hx123_2
       have hw123_1 := hx123_1
       have hw123_0 := hx123_0
       cases e123
       replace hx123_0 := bc_ HB hx123_0
       replace hx123_1 := bc_ HB hx123_1
       replace hx123_2 := bc_ HB hx123_2
       replace p123 := eq_true p123
       replace q123 := eq_true q123
       refine start_ (n := 27) (S := fun w' => w'.cell? ⟨gb122, 0, none⟩ = some (.string a0_0) ∧ w'.cell? ⟨gb122, 1, none⟩ = some (.slice (some ad123) l0_1.length c0_1) ∧ w'.cell? (ad123.add ((x3_1).toNat * 3)) = some (.int .i64 ((rd_T39 l0_1 x3_1).f0)) ∧ w'.cell? ⟨(ad123.add ((x3_1).toNat * 3)).block, (ad123.add ((x3_1).toNat * 3)).off + 1, none⟩ = some (.string ((rd_T39 l0_1 x3_1).f1)) ∧ w'.cell? ⟨(ad123.add ((x3_1).toNat * 3)).block, (ad123.add ((x3_1).toNat * 3)).off + 2, none⟩ = some (.bool ((rd_T39 l0_1 x3_1).f2))) (ds := []) (bt 27 0) (by kernel_rfl) rfl rfl ⟨bk_ BK122 0, bk_ BK122 1, (bc_ HB hw123_0), (bc_ HB hw123_1), (bc_ HB hw123_2)⟩ (fun hHeld => ?_); refine with_tabW quorumref8_Chain.tab4 quorumref8_Chain.bits4 (fun HT_ HW_ => ?_)
       generalize wr.drew = w22 at BK122 HB hx123_0 hx123_1 hx123_2 hHeld ⊢
       refine pq_ HT_.out 0 11 (bt 27 1) (h := ?_)
       refine pq_ HT_.out 2 13 (bt 27 5) (h := ?_)
       refine tq5_ HT_.out HW_.out 1 12 (bt 27 7) hHeld (h := ?_)
       refine pq_ HT_.out 3 14 (bt 27 15) (h := ?_)
       refine tq5_ HT_.out HW_.out 4 15 (bt 27 31) hHeld (h := ?_)
       refine one_ (i := 5) (N := some 16) (bt 27 63) rfl rfl (one_of HT_.out (by kernel_rfl)) (by decide) (fun K hK => ?_)
       refine goes_ Try.func30 (by kernel_rfl) rfl #[.agg #[.int .i64 ((rd_T39 l0_1 x3_1).f0), .string ((rd_T39 l0_1 x3_1).f1), .bool ((rd_T39 l0_1 x3_1).f2)]] (by rfl) rfl rfl (by (try simp only [List.map_toArray, List.map_cons, List.map_nil]); first | done | rfl | (simp only [List.length_drop, List.length_take]; rfl)) ?_
       with_reducible refine (quorumref8_Version.calls ((rd_T39 l0_1 x3_1).f0) ((rd_T39 l0_1 x3_1).f1) ((rd_T39 l0_1 x3_1).f2) false _ A5.out).mono ?_
       rintro e w23 ⟨rfl, hb⟩
       refine ⟨_, rfl, ?_⟩
       replace BK122 := mk0 (u_ BK122 hb)
       replace HB := mk0 (bt_ (b_ HB) hb)
       (try clear hb)
       (try clear hb2)
       (try clear hk)
       (try clear hi)
       refine hK.out _ _ ⟨bk_ BK122 0, bk_ BK122 1, (bc_ HB hw123_0), (bc_ HB hw123_1), (bc_ HB hw123_2)⟩ (fun hHeld => ?_)
       clear hK K
       refine norm_ (a' := ?_) ?_ ?_
       rotate_left
       ·show Act.put _ (some 16) _ = _
        simp only [z_]
        rfl
       refine pq_ HT_.out 6 17 (bt 27 127) (h := ?_)
       refine pq_ HT_.out 7 18 (bt 27 255) (h := ?_)
       refine uq_ HT_.out 8 19 (bt 27 511) (h := ?_)
       refine uq_ HT_.out 9 20 (bt 27 1023) (h := ?_)
       refine uq_ HT_.out 10 21 (bt 27 2047) (h := ?_)
       refine uq_ HT_.out 11 22 (bt 27 4095) (h := ?_)
       refine uq_ HT_.out 12 23 (bt 27 8191) (h := ?_)
       refine uq_ HT_.out 13 24 (bt 27 16383) (h := ?_)
       refine uq_ HT_.out 14 25 (bt 27 32767) (h := ?_)
       refine uq_ HT_.out 15 26 (bt 27 65535) (h := ?_)
       refine uq_ HT_.out 16 27 (bt 27 131071) (h := ?_)
       refine uq_ HT_.out 17 28 (bt 27 262143) (h := ?_)
       refine uq_ HT_.out 18 29 (bt 27 524287) (h := ?_)
       refine uq_ HT_.out 19 30 (bt 27 1048575) (h := ?_)
       refine uq_ HT_.out 20 31 (bt 27 2097151) (h := ?_)
       refine uq_ HT_.out 21 32 (bt 27 4194303) (h := ?_)
       refine uq_ HT_.out 22 33 (bt 27 8388607) (h := ?_)
       refine uq_ HT_.out 23 34 (bt 27 16777215) (h := ?_)
       refine uq_ HT_.out 24 35 (bt 27 33554431) (h := ?_)
       refine uq_ HT_.out 25 36 (bt 27 67108863) (h := ?_)
       refine pq_ HT_.out 26 37 (bt 27 134217727) (h := ?_)
       refine done_ (done_of HT_.out (by kernel_rfl)) ?_
       try go_wp2
       go_ret
       exact ⟨by first | rfl | (simp [errW_none, errW_some] <;> rfl) | (simp [*, errW_none, errW_some] <;> rfl), b_ HB⟩
     ·rw [if_neg c4] at H
      exact absurd H (by simp)
    ·rw [if_neg c3] at H
     have c3b0 : decide (x3_1 < (l0_1.length : Int)) = false := decide_eq_false c3
     clear c3
     replace H := Option.bind_eq_some_iff.mp H
     obtain ⟨t127, A240, H⟩ := H
     try dsimp only at H
     have A24 := mk0 A240
     clear A240
     by_cases c25 : t127 = true
     ·subst c25
      rw [if_pos rfl] at H
      obtain rfl := Option.some.inj H
      obtain ⟨hcz26_0, hcz26_1, hfz26_0, hfz26_1⟩ := c2_ BK122
      go_wp2_with (first | ((with_reducible refine gate_callee (f := 29) rfl ?_); refine gL_ (some 40) Try.func29 #[.string a0_0] (h := ?_); (with_reducible refine (quorumref1_Key.calls a0_0 true _ A24.out).mono ?_); rintro e w' ⟨rfl, ⟨nd, rfl⟩⟩; refine ⟨_, rfl, ?_⟩))
      go_ret
      exact ⟨by first | rfl | (simp [errW_none, errW_some] <;> rfl) | (simp [*, errW_none, errW_some] <;> rfl), b_ HB⟩
     ·replace c25 := Bool.eq_false_iff.mpr c25
      subst c25
      rw [if_neg (show ¬ (false = true) by decide)] at H
      obtain rfl := Option.some.inj H
      obtain ⟨hcz27_0, hcz27_1, hfz27_0, hfz27_1⟩ := c2_ BK122
      go_wp2_with (first | ((with_reducible refine gate_callee (f := 29) rfl ?_); refine gL_ (some 40) Try.func29 #[.string a0_0] (h := ?_); (with_reducible refine (quorumref1_Key.calls a0_0 false _ A24.out).mono ?_); rintro e w' ⟨rfl, ⟨nd, rfl⟩⟩; refine ⟨_, rfl, ?_⟩))
      go_ret
      exact ⟨by first | rfl | (simp [errW_none, errW_some] <;> rfl) | (simp [*, errW_none, errW_some] <;> rfl), b_ HB⟩

/-! ### key_Fits: function 156 -/
def key_Fits.f (a0 : ByteArray) : Option (Bool) := some (decide ((a0.size : Int) ≤ 20))
set_option maxHeartbeats 8000000 in
set_option maxRecDepth 100000 in
theorem key_Fits.calls (a0 : ByteArray) (r : Bool) (w : World) (h : key_Fits.f a0 = some r) :
  Calls Try.prog 156 #[.string a0] w fun e w' => e = .returned (.bool r) ∧ Drawn0 w w' := by
 have H : (some (decide ((a0.size : Int) ≤ 20))) = some r := h
 clear h
 obtain rfl := Option.some.inj H
 go_enter Try.func156, Try.ntmps156
 go_wp2
 go_ret
 exact ⟨by first | rfl | (simp; done) | (simp [*]; done), by repeat (first | exact Drawn0.refl _ | apply Drawn0.step)⟩

/-! ### chain_version: function 118 -/
def chain_version.f (a0_0 : Int) (a0_1 : ByteArray) (a0_2 : Bool) : Option (Bool) := if a0_0 ≥ 1 then (if a0_0 ≤ 1073741824 then ((key_Fits.f a0_1).bind fun t129 => (if t129 = true then (if a0_2 = true then (some (a0_1.toList == ([] : List UInt8))) else (some true)) else (some false))) else (some false)) else (some false)
set_option maxHeartbeats 8000000 in
set_option maxRecDepth 100000 in
theorem chain_version.calls (a0_0 : Int) (a0_1 : ByteArray) (a0_2 : Bool) (r : Bool) (w : World) (h : chain_version.f a0_0 a0_1 a0_2 = some r) :
  Calls Try.prog 118 #[.agg #[.int .i64 a0_0, .string a0_1, .bool a0_2]] w fun e w' => e = .returned (.bool r) ∧ Below w.heap.size w w' := by
 have hu39 := Try.underlying39
 have HB := mk0 (Below.refl w.heap.size w)
 have H : (if a0_0 ≥ 1 then (if a0_0 ≤ 1073741824 then ((key_Fits.f a0_1).bind fun t129 => (if t129 = true then (if a0_2 = true then (some (a0_1.toList == ([] : List UInt8))) else (some true)) else (some false))) else (some false)) else (some false)) = some r := h
 clear h
 by_cases c2 : a0_0 ≥ 1
 ·rw [if_pos c2] at H
  have c2b0 : decide (1 ≤ a0_0) = true := decide_eq_true c2
  clear c2
  by_cases c3 : a0_0 ≤ 1073741824
  ·rw [if_pos c3] at H
   have c3b0 : decide (a0_0 ≤ 1073741824) = true := decide_eq_true c3
   clear c3
   replace H := Option.bind_eq_some_iff.mp H
   obtain ⟨t129, A40, H⟩ := H
   try dsimp only at H
   have A4 := mk0 A40
   clear A40
   by_cases c5 : t129 = true
   ·subst c5
    rw [if_pos rfl] at H
    by_cases c6 : a0_2 = true
    ·subst c6
     rw [if_pos rfl] at H
     obtain rfl := Option.some.inj H
     go_enter Try.func118, Try.ntmps118
     go_wp2_with (first | ((with_reducible refine gate_dst (N := 1) rfl ?_); refine bx_ (N := 1) (cs := #[.int .i64 a0_0, .string a0_1, .bool true]) (t := 39) (h := ?_); intro gb128 hg w7 hbox hb; have n2_ := mk0 (gz_ HB hg); have n3_ := mk0 (gz_ HB hg); replace HB := mk0 (bt_ (b_ HB) hb); have BK128 := mk0 (hbox); have GW128 := n2_; have GE128 := n3_; clear n2_ n3_ hb hbox hg; obtain ⟨hcz8_0, hcz8_1, hcz8_2, hfz8_0, hfz8_1, hfz8_2⟩ := c3_ BK128) | (go_at_call 156; (with_reducible refine (key_Fits.calls a0_1 true _ A4.out).mono ?_); rintro e w' ⟨rfl, ⟨nd, rfl⟩⟩))
     go_ret
     exact ⟨by first | rfl | (simp [errW_none, errW_some] <;> rfl) | (simp [*, errW_none, errW_some] <;> rfl), b_ HB⟩
    ·replace c6 := Bool.eq_false_iff.mpr c6
     subst c6
     rw [if_neg (show ¬ (false = true) by decide)] at H
     obtain rfl := Option.some.inj H
     go_enter Try.func118, Try.ntmps118
     go_wp2_with (first | ((with_reducible refine gate_dst (N := 1) rfl ?_); refine bx_ (N := 1) (cs := #[.int .i64 a0_0, .string a0_1, .bool false]) (t := 39) (h := ?_); intro gb128 hg w9 hbox hb; have n2_ := mk0 (gz_ HB hg); have n3_ := mk0 (gz_ HB hg); replace HB := mk0 (bt_ (b_ HB) hb); have BK128 := mk0 (hbox); have GW128 := n2_; have GE128 := n3_; clear n2_ n3_ hb hbox hg; obtain ⟨hcz10_0, hcz10_1, hcz10_2, hfz10_0, hfz10_1, hfz10_2⟩ := c3_ BK128) | (go_at_call 156; (with_reducible refine (key_Fits.calls a0_1 true _ A4.out).mono ?_); rintro e w' ⟨rfl, ⟨nd, rfl⟩⟩))
     go_ret
     exact ⟨by first | rfl | (simp [errW_none, errW_some] <;> rfl) | (simp [*, errW_none, errW_some] <;> rfl), b_ HB⟩
   ·replace c5 := Bool.eq_false_iff.mpr c5
    subst c5
    rw [if_neg (show ¬ (false = true) by decide)] at H
    obtain rfl := Option.some.inj H
    go_enter Try.func118, Try.ntmps118
    go_wp2_with (first | ((with_reducible refine gate_dst (N := 1) rfl ?_); refine bx_ (N := 1) (cs := #[.int .i64 a0_0, .string a0_1, .bool a0_2]) (t := 39) (h := ?_); intro gb128 hg w11 hbox hb; have n2_ := mk0 (gz_ HB hg); have n3_ := mk0 (gz_ HB hg); replace HB := mk0 (bt_ (b_ HB) hb); have BK128 := mk0 (hbox); have GW128 := n2_; have GE128 := n3_; clear n2_ n3_ hb hbox hg; obtain ⟨hcz12_0, hcz12_1, hcz12_2, hfz12_0, hfz12_1, hfz12_2⟩ := c3_ BK128) | (go_at_call 156; (with_reducible refine (key_Fits.calls a0_1 false _ A4.out).mono ?_); rintro e w' ⟨rfl, ⟨nd, rfl⟩⟩))
    go_ret
    exact ⟨by first | rfl | (simp [errW_none, errW_some] <;> rfl) | (simp [*, errW_none, errW_some] <;> rfl), b_ HB⟩
  ·rw [if_neg c3] at H
   have c3b0 : decide (a0_0 ≤ 1073741824) = false := decide_eq_false c3
   clear c3
   obtain rfl := Option.some.inj H
   go_enter Try.func118, Try.ntmps118
   go_wp2_with (first | ((with_reducible refine gate_dst (N := 1) rfl ?_); refine bx_ (N := 1) (cs := #[.int .i64 a0_0, .string a0_1, .bool a0_2]) (t := 39) (h := ?_); intro gb128 hg w13 hbox hb; have n2_ := mk0 (gz_ HB hg); have n3_ := mk0 (gz_ HB hg); replace HB := mk0 (bt_ (b_ HB) hb); have BK128 := mk0 (hbox); have GW128 := n2_; have GE128 := n3_; clear n2_ n3_ hb hbox hg; obtain ⟨hcz14_0, hcz14_1, hcz14_2, hfz14_0, hfz14_1, hfz14_2⟩ := c3_ BK128))
   go_ret
   exact ⟨by first | rfl | (simp [errW_none, errW_some] <;> rfl) | (simp [*, errW_none, errW_some] <;> rfl), b_ HB⟩
 ·rw [if_neg c2] at H
  have c2b0 : decide (1 ≤ a0_0) = false := decide_eq_false c2
  clear c2
  obtain rfl := Option.some.inj H
  go_enter Try.func118, Try.ntmps118
  go_wp2_with (first | ((with_reducible refine gate_dst (N := 1) rfl ?_); refine bx_ (N := 1) (cs := #[.int .i64 a0_0, .string a0_1, .bool a0_2]) (t := 39) (h := ?_); intro gb128 hg w15 hbox hb; have n2_ := mk0 (gz_ HB hg); have n3_ := mk0 (gz_ HB hg); replace HB := mk0 (bt_ (b_ HB) hb); have BK128 := mk0 (hbox); have GW128 := n2_; have GE128 := n3_; clear n2_ n3_ hb hbox hg; obtain ⟨hcz16_0, hcz16_1, hcz16_2, hfz16_0, hfz16_1, hfz16_2⟩ := c3_ BK128))
  go_ret
  exact ⟨by first | rfl | (simp [errW_none, errW_some] <;> rfl) | (simp [*, errW_none, errW_some] <;> rfl), b_ HB⟩

/-! ### key_Is: function 119 -/
def key_Is.f (a0 : ByteArray) : Option (Bool) := if a0.toList = ([] : List UInt8) then (some false) else (some (decide ((a0.size : Int) ≤ 12)))
set_option maxHeartbeats 8000000 in
set_option maxRecDepth 100000 in
theorem key_Is.calls (a0 : ByteArray) (r : Bool) (w : World) (h : key_Is.f a0 = some r) :
  Calls Try.prog 119 #[.string a0] w fun e w' => e = .returned (.bool r) ∧ Drawn0 w w' := by
 have H : (if a0.toList = ([] : List UInt8) then (some false) else (some (decide ((a0.size : Int) ≤ 12)))) = some r := h
 clear h
 by_cases c2 : a0.toList = ([] : List UInt8)
 ·rw [if_pos c2] at H
  have c2b0 : (a0.toList == ([] : List UInt8)) = true := beq_iff_eq.mpr c2
  have c2b1 : (a0.toList != ([] : List UInt8)) = false := bne_eq_false_iff_eq.mpr c2
  clear c2
  obtain rfl := Option.some.inj H
  go_enter Try.func119, Try.ntmps119
  go_wp2
  go_ret
  exact ⟨by first | rfl | (simp; done) | (simp [*]; done), by repeat (first | exact Drawn0.refl _ | apply Drawn0.step)⟩
 ·rw [if_neg c2] at H
  have c2b0 : (a0.toList == ([] : List UInt8)) = false := beq_eq_false_iff_ne.mpr c2
  have c2b1 : (a0.toList != ([] : List UInt8)) = true := bne_iff_ne.mpr c2
  obtain rfl := Option.some.inj H
  go_enter Try.func119, Try.ntmps119
  go_wp2
  go_ret
  exact ⟨by first | rfl | (simp; done) | (simp [*]; done), by repeat (first | exact Drawn0.refl _ | apply Drawn0.step)⟩

end Go.Proofs.Ytoodkefpkgbjcaa.PCht
