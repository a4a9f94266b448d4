-- PRINTED by print.py (a twelfth state) out of the translation. Not trusted: Lean checks it.
import Derived.Shelf.SlSorted.Search
import Derived.Test.YtbaecdcfefmcgaaPTbex0
import Derived.Test.YtbaecdcfefmcgaaPTbex5
namespace Go.Proofs.Ytbaecdcfefmcgaa.PTbe
open Go.RowKit Go.Proofs.YtbaecdcfefmcgaaW.PrintWords Go.Proofs.YtbaecdcfefmcgaaW.PrintLast Go.Proofs.YtbaecdcfefmcgaaW.PrintMore
attribute [local go_sem] max2_int min2_int max_two min_two max_three min_three max_four min_four   -- for this text's walks alone
set_option maxHeartbeats 8000000
set_option maxRecDepth 100000
set_option linter.unusedVariables false
set_option linter.unusedSimpArgs false
/-! ### quorumref8_Chain: function 92 -/
mutual
def quorumref8_Chain.l0 : Nat → Int → ByteArray → List (S72) → Option (Bool)
 | 0, _, _, _ => none
 | k + 1, x3, x166000, x166001 => if x3 < (x166001.length : Int) then (if 0 ≤ x3 then ((quorumref8_Version.f ((rd_T72 x166001 x3).f0) ((rd_T72 x166001 x3).f1) ((rd_T72 x166001 x3).f2)).bind fun t167 => (if t167 = true then (if x3 > 0 then (if 0 ≤ (wrap64 (x3 - 1)) then (if (wrap64 (x3 - 1)) < (x166001.length : Int) then (quorumref8_Chain.j1 k x3 (decide (((rd_T72 x166001 (wrap64 (x3 - 1))).f0) ≤ ((rd_T72 x166001 x3).f0))) x166000 x166001) else (none)) else (none)) else (quorumref8_Chain.j1 k x3 false x166000 x166001)) else (quorumref8_Chain.j1 k x3 true x166000 x166001))) else (none)) else ((quorumref1_Key.f x166000).bind fun t170 => (if t170 = true then (some (decide ((x166001.length : Int) > 0))) else (some false)))
def quorumref8_Chain.j1 : Nat → Int → Bool → ByteArray → List (S72) → Option (Bool)
 | 0, _, _, _, _ => none
 | k + 1, x3, x37, x166000, x166001 => if x37 = true then (some false) else (quorumref8_Chain.l0 k (wrap64 (x3 + 1)) x166000 x166001)
end
def quorumref8_Chain.f (k : Nat) (a0_0 : ByteArray) (l0_1 : List (S72)) : Option (Bool) := quorumref8_Chain.l0 k 0 a0_0 l0_1
theorem quorumref8_Chain.mono_l : ∀ k, (∀ y0 y1 y2, LeO (quorumref8_Chain.l0 k y0 y1 y2) (quorumref8_Chain.l0 (k + 1) y0 y1 y2)) ∧ (∀ y0 y1 y2 y3, LeO (quorumref8_Chain.j1 k y0 y1 y2 y3) (quorumref8_Chain.j1 (k + 1) y0 y1 y2 y3))
 | 0 => ⟨fun _ _ _ r h => by simp [quorumref8_Chain.l0] at h, fun _ _ _ _ r h => by simp [quorumref8_Chain.j1] at h⟩
 | k + 1 => by
  obtain ⟨ih0, ih1⟩ := quorumref8_Chain.mono_l k
  refine ⟨?_, ?_⟩
  all_goals (intros; first | unfold quorumref8_Chain.l0 | unfold quorumref8_Chain.j1)
  all_goals (repeat' first | (with_reducible exact ih0 ..) | (with_reducible exact ih1 ..) | (with_reducible exact LeO.refl _) | (with_reducible exact LeO.none _) | (with_reducible refine LeO.ite ?_ ?_) | (with_reducible refine LeO.bind ?_ (fun _ => ?_)) | exact LeO.none _ | refine LeO.ite ?_ ?_ | refine LeO.bind ?_ (fun _ => ?_))
theorem quorumref8_Chain.mono : ∀ a0 a1 k, LeO (quorumref8_Chain.f k a0 a1) (quorumref8_Chain.f (k + 1) a0 a1) := by
 intro a0 a1 k
 obtain ⟨ih0, ih1⟩ := quorumref8_Chain.mono_l k
 unfold quorumref8_Chain.f
 repeat' first | (with_reducible exact ih0 ..) | (with_reducible exact ih1 ..) | (with_reducible exact LeO.refl _) | (with_reducible exact LeO.none _) | (with_reducible refine LeO.ite ?_ ?_) | (with_reducible refine LeO.bind ?_ (fun _ => ?_)) | exact LeO.none _ | refine LeO.ite ?_ ?_ | refine LeO.bind ?_ (fun _ => ?_)
def quorumref8_Chain.T4 : Bool × List (List Nat × List Nat) := (true, [([], []), ([0], [0]), ([], []), ([1, 2], [1, 2]), ([3], [3]), ([4], [4]), ([5], [5]), ([6, 5], [6]), ([7], [7]), ([8, 7], [7, 8]), ([9, 7, 7], [7, 9]), ([10], [10]), ([11, 10], [10, 11]), ([10], [10]), ([13, 10], [10, 13]), ([12, 14, 10], [10, 12, 14]), ([15, 10], [10, 15]), ([16, 10], [10, 16]), ([10], [10]), ([18, 10], [10, 18]), ([10], [10]), ([19, 20, 10], [10, 19, 20]), ([21, 10], [10, 21]), ([22, 10], [10, 22]), ([17, 23, 10], [10, 17, 23]), ([10, 24, 7], [7, 10, 24]), ([7, 25], [7, 25])])
def quorumref8_Chain.B4 : List Nat := [0, 1, 0, 7, 15, 31, 63, 127, 255, 511, 1023, 2047, 4095, 2047, 10239, 32767, 65535, 131071, 2047, 264191, 2047, 1837055, 3934207, 8128511, 16777215, 33554431, 67108863]
theorem quorumref8_Chain.tab4 : rtab .any (opsOf Try.f92 4) = quorumref8_Chain.T4 := by kernel_rfl
theorem quorumref8_Chain.bits4 : waitsOk quorumref8_Chain.T4.2 quorumref8_Chain.B4 = true := by kernel_rfl
theorem quorumref8_Chain.calls (k : Nat) (a0_0 : ByteArray) (A0_1 : Option Addr) (c0_1 : Nat) (l0_1 : List (S72)) (r : Bool) (w : World) (hr0_1 : Kd.C k72 w A0_1 l0_1.length l0_1) (hc0_1 : l0_1.length ≤ c0_1) (h : quorumref8_Chain.f k a0_0 l0_1 = some r) :
  Calls Try.prog 92 #[.agg #[.string a0_0, .slice A0_1 l0_1.length c0_1]] w fun e w' => e = .returned (.bool r) ∧ Below w.heap.size w w' := by
 have hu99 := Try.underlying99
 have hu72 := Try.underlying72
 have av := mk0 hr0_1
 have be := mk0 hc0_1
 clear hr0_1 hc0_1
 have HB := mk0 (Below.refl w.heap.size w)
 have H : (quorumref8_Chain.l0 k 0 a0_0 l0_1) = some r := h
 clear h
 have H' := mk0 H
 clear H
 go_enter Try.func92, Try.ntmps92
 go_wp2_with (first | ((with_reducible refine gate_dst (N := 1) rfl ?_); (try (refine gate_guard (by rfl) ?_; dsimp only)); refine bx_ (N := 1) (cs := #[.string a0_0, .slice A0_1 l0_1.length c0_1]) (t := 99) (h := ?_); intro ak hg w2 hbox hb; have n2_ := mk0 (gz_ HB hg); have aR := mk0 (gz_ HB hg); replace HB := mk0 (bt_ (b_ HB) hb); have ab := mk0 (hbox); have bf := aR; clear n2_ aR; clear hb hbox hg))
 go_loopg [3] k (fun kq v3 w' => ∃ (aa : Int), v3 = .int .i64 aa ∧ Fc (quorumref8_Chain.l0 kq aa a0_0 l0_1 = some r) ∧ Fc (kq ≤ k) ∧ Fc (w'.heap[ak]? = some (.cells #[.string a0_0, (.slice A0_1 l0_1.length c0_1)] 99 (0, 0))) ∧ Fc (Below w.heap.size w w'))
 case atStart => exact ⟨(0), sm_, H', ⟨Nat.le_refl _⟩, ⟨h_ ab⟩, ⟨b_ HB⟩⟩
 case round =>
  clear H'
  obtain ⟨aa, rfl, HA, aF, ab, HB⟩ := hrel
  cases gk with
  | zero => exact absurd HA.out (by simp [quorumref8_Chain.l0])
  | succ k1 =>
   have H := HA.out
   clear HA
   simp only [quorumref8_Chain.l0] at H
   as_aux_lemma =>
    by_cases c3 : aa < (l0_1.length : Int)
    ·rw [if_pos c3] at H
     have aS := decide_eq_true c3
     clear c3
     have HC4 := mk0 H
     clear H
     obtain ⟨ba, bb, bc, bd⟩ := c2_ ab
     go_upto_region 4 with (fail)
     go_cut [37] (fun v37 wc => ∃ (kq : Nat) (ax : Bool), v37 = .bool ax ∧ Fc (quorumref8_Chain.j1 kq aa ax a0_0 l0_1 = some r) ∧ Fc (kq ≤ k1) ∧ Fc (wc.heap[ak]? = some (.cells #[.string a0_0, (.slice A0_1 l0_1.length c0_1)] 99 (0, 0))) ∧ Fc (Below w.heap.size w wc))
     case first =>
      have H := HC4.out
      clear HC4
      by_cases c6 : 0 ≤ aa
      ·rw [if_pos c6] at H
       have aO := decide_eq_true c6
       clear c6
       (first | rw [aO] | (simp only [i64_w, i32_w]; rw [aO]) | skip)
       replace H := ob_ H
       obtain ⟨aT, A7, H⟩ := H
       try dsimp only at H
       by_cases c8 : aT = true
       ·subst c8
        rw [if_pos rfl] at H
        by_cases c9 : aa > 0
        ·rw [if_pos c9] at H
         have aU := decide_eq_true c9
         clear c9
         obtain ⟨ag, aw⟩ : ∃ j_ : Int, (wrap64 (aa - 1)) = j_ := ⟨_, rfl⟩
         replace H : (if 0 ≤ (ag) then (if (ag) < (l0_1.length : Int) then (quorumref8_Chain.j1 k1 aa (decide (((rd_T72 l0_1 (ag)).f0) ≤ ((rd_T72 l0_1 aa).f0))) a0_0 l0_1) else (none)) else (none)) = some r := by first | (rw [aw] at H; exact H) | (simp only [aw] at H ⊢; exact H)
         (try rw [aw] at A7)
         have hji10w : (IntKind.i64.wrap (aa - 1)) = ag := (i64_w _).trans aw
         by_cases aK : 0 ≤ (ag)
         ·rw [if_pos aK] at H
          have bg := decide_eq_true aK
          clear aK
          by_cases aL : (ag) < (l0_1.length : Int)
          ·rw [if_pos aL] at H
           have bh := decide_eq_true aL
           clear aL
           have H' := mk0 H
           clear H
           try go_wp2
           replace ab := mk0 (bD_ ab.out)
           replace HB := mk0 (b1_ HB.out)
           have al : 0 ≤ (aa : Int) := od_
           have am : aa < (l0_1.length : Int) := od_
           obtain ⟨ac, ay, ad, ae, af⟩ := at_T72 av.out aa al am
           have ah := af
           have ai := ae
           have aj := ad
           cases ay
           replace ad := (bc_ HB ad :)
           replace ae := (bc_ HB ae :)
           replace af := (bc_ HB af :)
           replace al := eq_true al
           replace am := eq_true am
           have aG : 0 ≤ ((ag) : Int) := od_
           have aH : (ag) < (l0_1.length : Int) := od_
           obtain ⟨aP, aV, an, ao, ap⟩ := at_T72 av.out (ag) aG aH
           have az := ap
           have aA := ao
           have aB := an
           obtain rfl : ac = aP := (by injection aV)
           replace an := (bc_ HB an :)
           replace ao := (bc_ HB ao :)
           replace ap := (bc_ HB ap :)
           replace aG := eq_true aG
           replace aH := eq_true aH
           have aI : 0 ≤ (aa : Int) := od_
           have aJ : aa < (l0_1.length : Int) := od_
           obtain ⟨aQ, aW, aq, ar, au⟩ := at_T72 av.out aa aI aJ
           have aC := au
           have aD := ar
           have aE := aq
           obtain rfl : ac = aQ := (by injection aW)
           replace aq := (bc_ HB aq :)
           replace ar := (bc_ HB ar :)
           replace au := (bc_ HB au :)
           replace aI := eq_true aI
           replace aJ := eq_true aJ
           refine start_ (n := 27) (S := fun w' => w'.cell? ⟨ak, 0, none⟩ = some (.string a0_0) ∧ w'.cell? ⟨ak, 1, none⟩ = some (.slice (some ac) l0_1.length c0_1) ∧ w'.cell? (ac.add ((aa).toNat * 3)) = some (.int .i64 ((rd_T72 l0_1 aa).f0)) ∧ w'.cell? ⟨(ac.add ((aa).toNat * 3)).block, (ac.add ((aa).toNat * 3)).off + 1, none⟩ = some (.string ((rd_T72 l0_1 aa).f1)) ∧ w'.cell? ⟨(ac.add ((aa).toNat * 3)).block, (ac.add ((aa).toNat * 3)).off + 2, none⟩ = some (.bool ((rd_T72 l0_1 aa).f2)) ∧ w'.cell? (ac.add (((ag)).toNat * 3)) = some (.int .i64 ((rd_T72 l0_1 (ag)).f0)) ∧ w'.cell? ⟨(ac.add (((ag)).toNat * 3)).block, (ac.add (((ag)).toNat * 3)).off + 1, none⟩ = some (.string ((rd_T72 l0_1 (ag)).f1)) ∧ w'.cell? ⟨(ac.add (((ag)).toNat * 3)).block, (ac.add (((ag)).toNat * 3)).off + 2, none⟩ = some (.bool ((rd_T72 l0_1 (ag)).f2)) ∧ w'.cell? (ac.add ((aa).toNat * 3)) = some (.int .i64 ((rd_T72 l0_1 aa).f0)) ∧ w'.cell? ⟨(ac.add ((aa).toNat * 3)).block, (ac.add ((aa).toNat * 3)).off + 1, none⟩ = some (.string ((rd_T72 l0_1 aa).f1)) ∧ w'.cell? ⟨(ac.add ((aa).toNat * 3)).block, (ac.add ((aa).toNat * 3)).off + 2, none⟩ = some (.bool ((rd_T72 l0_1 aa).f2))) (ds := []) (bt 27 0) (by kernel_rfl) rfl rfl ⟨bk_ ab 0, bk_ ab 1, ((bc_ HB aj :)), ((bc_ HB ai :)), ((bc_ HB ah :)), ((bc_ HB aB :)), ((bc_ HB aA :)), ((bc_ HB az :)), ((bc_ HB aE :)), ((bc_ HB aD :)), ((bc_ HB aC :))⟩ (fun hHeld => ?_); refine with_tabW quorumref8_Chain.tab4 quorumref8_Chain.bits4 (fun HT_ HW_ => ?_)
           generalize wr.drew = bj at ab HB ad ae af an ao ap aq ar au hHeld ⊢
           refine pq_ HT_.out 0 11 (bt 27 1) (h := ?_)
           refine pq_ HT_.out 2 13 (bt 27 5) (h := ?_)
           refine tq11_ HT_.out HW_.out 1 12 (bt 27 7) hHeld (h := ?_)
           refine pq_ HT_.out 3 14 (bt 27 15) (h := ?_)
           refine tq11_ HT_.out HW_.out 4 15 (bt 27 31) hHeld (h := ?_)
           refine one_ (i := 5) (N := some 16) (bt 27 63) rfl rfl (one_of HT_.out (by kernel_rfl)) (by decide) (fun K hK => ?_)
           refine goes_ Try.func143 (by kernel_rfl) rfl #[.agg #[.int .i64 ((rd_T72 l0_1 aa).f0), .string ((rd_T72 l0_1 aa).f1), .bool ((rd_T72 l0_1 aa).f2)]] (by rfl) rfl rfl gs_ ?_
           with_reducible refine (quorumref8_Version.calls ((rd_T72 l0_1 aa).f0) ((rd_T72 l0_1 aa).f1) ((rd_T72 l0_1 aa).f2) true _ A7.out).mono ?_
           rintro e bk ⟨rfl, hb⟩
           refine ⟨_, rfl, ?_⟩
           replace ab := mk0 (u_ ab hb)
           replace HB := mk0 (bt_ (b_ HB) hb)
           (try clear hb)
           (try clear hk)
           (try clear hi)
           refine hK.out _ _ ⟨bk_ ab 0, bk_ ab 1, ((bc_ HB aj :)), ((bc_ HB ai :)), ((bc_ HB ah :)), ((bc_ HB aB :)), ((bc_ HB aA :)), ((bc_ HB az :)), ((bc_ HB aE :)), ((bc_ HB aD :)), ((bc_ HB aC :))⟩ (fun hHeld => ?_)
           clear hK K
           refine norm_ (a' := ?_) ?_ ?_
           rotate_left
           ·show Act.put _ (some 16) _ = _
            simp only [z_]
            rfl
           refine pq_ HT_.out 6 17 (bt 27 127) (h := ?_)
           refine pq_ HT_.out 7 18 (bt 27 255) (h := ?_)
           refine pq_ HT_.out 8 19 (bt 27 511) (h := ?_)
           refine pq_ HT_.out 9 20 (bt 27 1023) (h := ?_)
           refine pq_ HT_.out 10 21 (bt 27 2047) (h := ?_)
           refine pq_ HT_.out 11 22 (bt 27 4095) (h := ?_)
           refine pq_ HT_.out 13 24 (bt 27 12287) (h := ?_)
           refine pq_ HT_.out 14 25 (bt 27 28671) (h := ?_)
           refine pq_ HT_.out 18 29 (bt 27 290815) (h := ?_)
           refine pq_ HT_.out 20 31 (bt 27 1339391) (h := ?_)
           refine tq11_ HT_.out HW_.out 12 23 (bt 27 1343487) hHeld (h := ?_)
           refine pq_ HT_.out 15 26 (bt 27 1376255) (h := ?_)
           refine pq_ HT_.out 16 27 (bt 27 1441791) (h := ?_)
           refine tq11_ HT_.out HW_.out 17 28 (bt 27 1572863) hHeld (h := ?_)
           refine tq11_ HT_.out HW_.out 19 30 (bt 27 2097151) hHeld (h := ?_)
           refine pq_ HT_.out 21 32 (bt 27 4194303) (h := ?_)
           refine pq_ HT_.out 22 33 (bt 27 8388607) (h := ?_)
           refine tq11_ HT_.out HW_.out 23 34 (bt 27 16777215) hHeld (h := ?_)
           refine pq_ HT_.out 24 35 (bt 27 33554431) (h := ?_)
           refine pq_ HT_.out 25 36 (bt 27 67108863) (h := ?_)
           refine pq_ HT_.out 26 37 (bt 27 134217727) (h := ?_)
           refine done_ (done_of HT_.out (by kernel_rfl)) ?_
           try go_wp2
           go_meet
           case rel => exact ⟨_, (decide (((rd_T72 l0_1 (ag)).f0) ≤ ((rd_T72 l0_1 aa).f0))), (by first | rfl | (simp; done) | (simp only [← aw] <;> (first | rfl | (simp [leq_]; done) | (simp; done))) | (simp [*]; done)), H', ⟨by have := aF.out; first | omega | exact Nat.le_refl _⟩, ⟨h_ ab⟩, ⟨b_ HB⟩⟩
          ·rw [if_neg aL] at H
           exact absurd H (by simp)
         ·rw [if_neg aK] at H
          exact absurd H (by simp)
        ·rw [if_neg c9] at H
         have aU := decide_eq_false c9
         clear c9
         have H' := mk0 H
         clear H
         try go_wp2
         replace ab := mk0 (bD_ ab.out)
         replace HB := mk0 (b1_ HB.out)
         have al : 0 ≤ (aa : Int) := od_
         have am : aa < (l0_1.length : Int) := od_
         obtain ⟨ac, ay, ad, ae, af⟩ := at_T72 av.out aa al am
         have ah := af
         have ai := ae
         have aj := ad
         cases ay
         replace ad := (bc_ HB ad :)
         replace ae := (bc_ HB ae :)
         replace af := (bc_ HB af :)
         replace al := eq_true al
         replace am := eq_true am
         refine start_ (n := 27) (S := fun w' => w'.cell? ⟨ak, 0, none⟩ = some (.string a0_0) ∧ w'.cell? ⟨ak, 1, none⟩ = some (.slice (some ac) l0_1.length c0_1) ∧ w'.cell? (ac.add ((aa).toNat * 3)) = some (.int .i64 ((rd_T72 l0_1 aa).f0)) ∧ w'.cell? ⟨(ac.add ((aa).toNat * 3)).block, (ac.add ((aa).toNat * 3)).off + 1, none⟩ = some (.string ((rd_T72 l0_1 aa).f1)) ∧ w'.cell? ⟨(ac.add ((aa).toNat * 3)).block, (ac.add ((aa).toNat * 3)).off + 2, none⟩ = some (.bool ((rd_T72 l0_1 aa).f2))) (ds := []) (bt 27 0) (by kernel_rfl) rfl rfl ⟨bk_ ab 0, bk_ ab 1, ((bc_ HB aj :)), ((bc_ HB ai :)), ((bc_ HB ah :))⟩ (fun hHeld => ?_); refine with_tabW quorumref8_Chain.tab4 quorumref8_Chain.bits4 (fun HT_ HW_ => ?_)
         generalize wr.drew = bl at ab HB ad ae af hHeld ⊢
         refine pq_ HT_.out 0 11 (bt 27 1) (h := ?_)
         refine pq_ HT_.out 2 13 (bt 27 5) (h := ?_)
         refine tq5_ HT_.out HW_.out 1 12 (bt 27 7) hHeld (h := ?_)
         refine pq_ HT_.out 3 14 (bt 27 15) (h := ?_)
         refine tq5_ HT_.out HW_.out 4 15 (bt 27 31) hHeld (h := ?_)
         refine one_ (i := 5) (N := some 16) (bt 27 63) rfl rfl (one_of HT_.out (by kernel_rfl)) (by decide) (fun K hK => ?_)
         refine goes_ Try.func143 (by kernel_rfl) rfl #[.agg #[.int .i64 ((rd_T72 l0_1 aa).f0), .string ((rd_T72 l0_1 aa).f1), .bool ((rd_T72 l0_1 aa).f2)]] (by rfl) rfl rfl gs_ ?_
         with_reducible refine (quorumref8_Version.calls ((rd_T72 l0_1 aa).f0) ((rd_T72 l0_1 aa).f1) ((rd_T72 l0_1 aa).f2) true _ A7.out).mono ?_
         rintro e bm ⟨rfl, hb⟩
         refine ⟨_, rfl, ?_⟩
         replace ab := mk0 (u_ ab hb)
         replace HB := mk0 (bt_ (b_ HB) hb)
         (try clear hb)
         (try clear hk)
         (try clear hi)
         refine hK.out _ _ ⟨bk_ ab 0, bk_ ab 1, ((bc_ HB aj :)), ((bc_ HB ai :)), ((bc_ HB ah :))⟩ (fun hHeld => ?_)
         clear hK K
         refine norm_ (a' := ?_) ?_ ?_
         rotate_left
         ·show Act.put _ (some 16) _ = _
          simp only [z_]
          rfl
         refine pq_ HT_.out 6 17 (bt 27 127) (h := ?_)
         refine pq_ HT_.out 7 18 (bt 27 255) (h := ?_)
         refine pq_ HT_.out 8 19 (bt 27 511) (h := ?_)
         refine pq_ HT_.out 9 20 (bt 27 1023) (h := ?_)
         refine pq_ HT_.out 10 21 (bt 27 2047) (h := ?_)
         refine uq_ HT_.out 11 22 (bt 27 4095) (h := ?_)
         refine uq_ HT_.out 12 23 (bt 27 8191) (h := ?_)
         refine uq_ HT_.out 13 24 (bt 27 16383) (h := ?_)
         refine uq_ HT_.out 14 25 (bt 27 32767) (h := ?_)
         refine uq_ HT_.out 15 26 (bt 27 65535) (h := ?_)
         refine uq_ HT_.out 16 27 (bt 27 131071) (h := ?_)
         refine uq_ HT_.out 17 28 (bt 27 262143) (h := ?_)
         refine uq_ HT_.out 18 29 (bt 27 524287) (h := ?_)
         refine uq_ HT_.out 19 30 (bt 27 1048575) (h := ?_)
         refine uq_ HT_.out 20 31 (bt 27 2097151) (h := ?_)
         refine uq_ HT_.out 21 32 (bt 27 4194303) (h := ?_)
         refine uq_ HT_.out 22 33 (bt 27 8388607) (h := ?_)
         refine uq_ HT_.out 23 34 (bt 27 16777215) (h := ?_)
         refine uq_ HT_.out 24 35 (bt 27 33554431) (h := ?_)
         refine pq_ HT_.out 25 36 (bt 27 67108863) (h := ?_)
         refine pq_ HT_.out 26 37 (bt 27 134217727) (h := ?_)
         refine done_ (done_of HT_.out (by kernel_rfl)) ?_
         try go_wp2
         go_meet
         case rel => exact ⟨_, (false), sm_, H', ⟨by have := aF.out; first | omega | exact Nat.le_refl _⟩, ⟨h_ ab⟩, ⟨b_ HB⟩⟩
       ·replace c8 := Bool.eq_false_iff.mpr c8
        subst c8
        rw [if_neg nf_] at H
        have H' := mk0 H
        clear H
        try go_wp2
        replace ab := mk0 (bD_ ab.out)
        replace HB := mk0 (b1_ HB.out)
        have al : 0 ≤ (aa : Int) := od_
        have am : aa < (l0_1.length : Int) := od_
        obtain ⟨ac, ay, ad, ae, af⟩ := at_T72 av.out aa al am
        have ah := af
        have ai := ae
        have aj := ad
        cases ay
        replace ad := (bc_ HB ad :)
        replace ae := (bc_ HB ae :)
        replace af := (bc_ HB af :)
        replace al := eq_true al
        replace am := eq_true am
        refine start_ (n := 27) (S := fun w' => w'.cell? ⟨ak, 0, none⟩ = some (.string a0_0) ∧ w'.cell? ⟨ak, 1, none⟩ = some (.slice (some ac) l0_1.length c0_1) ∧ w'.cell? (ac.add ((aa).toNat * 3)) = some (.int .i64 ((rd_T72 l0_1 aa).f0)) ∧ w'.cell? ⟨(ac.add ((aa).toNat * 3)).block, (ac.add ((aa).toNat * 3)).off + 1, none⟩ = some (.string ((rd_T72 l0_1 aa).f1)) ∧ w'.cell? ⟨(ac.add ((aa).toNat * 3)).block, (ac.add ((aa).toNat * 3)).off + 2, none⟩ = some (.bool ((rd_T72 l0_1 aa).f2))) (ds := []) (bt 27 0) (by kernel_rfl) rfl rfl ⟨bk_ ab 0, bk_ ab 1, ((bc_ HB aj :)), ((bc_ HB ai :)), ((bc_ HB ah :))⟩ (fun hHeld => ?_); refine with_tabW quorumref8_Chain.tab4 quorumref8_Chain.bits4 (fun HT_ HW_ => ?_)
        generalize wr.drew = bn at ab HB ad ae af hHeld ⊢
        refine pq_ HT_.out 0 11 (bt 27 1) (h := ?_)
        refine pq_ HT_.out 2 13 (bt 27 5) (h := ?_)
        refine tq5_ HT_.out HW_.out 1 12 (bt 27 7) hHeld (h := ?_)
        refine pq_ HT_.out 3 14 (bt 27 15) (h := ?_)
        refine tq5_ HT_.out HW_.out 4 15 (bt 27 31) hHeld (h := ?_)
        refine one_ (i := 5) (N := some 16) (bt 27 63) rfl rfl (one_of HT_.out (by kernel_rfl)) (by decide) (fun K hK => ?_)
        refine goes_ Try.func143 (by kernel_rfl) rfl #[.agg #[.int .i64 ((rd_T72 l0_1 aa).f0), .string ((rd_T72 l0_1 aa).f1), .bool ((rd_T72 l0_1 aa).f2)]] (by rfl) rfl rfl gs_ ?_
        with_reducible refine (quorumref8_Version.calls ((rd_T72 l0_1 aa).f0) ((rd_T72 l0_1 aa).f1) ((rd_T72 l0_1 aa).f2) false _ A7.out).mono ?_
        rintro e bo ⟨rfl, hb⟩
        refine ⟨_, rfl, ?_⟩
        replace ab := mk0 (u_ ab hb)
        replace HB := mk0 (bt_ (b_ HB) hb)
        (try clear hb)
        (try clear hk)
        (try clear hi)
        refine hK.out _ _ ⟨bk_ ab 0, bk_ ab 1, ((bc_ HB aj :)), ((bc_ HB ai :)), ((bc_ HB ah :))⟩ (fun hHeld => ?_)
        clear hK K
        refine norm_ (a' := ?_) ?_ ?_
        rotate_left
        ·show Act.put _ (some 16) _ = _
         simp only [z_]
         rfl
        refine pq_ HT_.out 6 17 (bt 27 127) (h := ?_)
        refine pq_ HT_.out 7 18 (bt 27 255) (h := ?_)
        refine uq_ HT_.out 8 19 (bt 27 511) (h := ?_)
        refine uq_ HT_.out 9 20 (bt 27 1023) (h := ?_)
        refine uq_ HT_.out 10 21 (bt 27 2047) (h := ?_)
        refine uq_ HT_.out 11 22 (bt 27 4095) (h := ?_)
        refine uq_ HT_.out 12 23 (bt 27 8191) (h := ?_)
        refine uq_ HT_.out 13 24 (bt 27 16383) (h := ?_)
        refine uq_ HT_.out 14 25 (bt 27 32767) (h := ?_)
        refine uq_ HT_.out 15 26 (bt 27 65535) (h := ?_)
        refine uq_ HT_.out 16 27 (bt 27 131071) (h := ?_)
        refine uq_ HT_.out 17 28 (bt 27 262143) (h := ?_)
        refine uq_ HT_.out 18 29 (bt 27 524287) (h := ?_)
        refine uq_ HT_.out 19 30 (bt 27 1048575) (h := ?_)
        refine uq_ HT_.out 20 31 (bt 27 2097151) (h := ?_)
        refine uq_ HT_.out 21 32 (bt 27 4194303) (h := ?_)
        refine uq_ HT_.out 22 33 (bt 27 8388607) (h := ?_)
        refine uq_ HT_.out 23 34 (bt 27 16777215) (h := ?_)
        refine uq_ HT_.out 24 35 (bt 27 33554431) (h := ?_)
        refine uq_ HT_.out 25 36 (bt 27 67108863) (h := ?_)
        refine pq_ HT_.out 26 37 (bt 27 134217727) (h := ?_)
        refine done_ (done_of HT_.out (by kernel_rfl)) ?_
        try go_wp2
        go_meet
        case rel => exact ⟨_, (true), sm_, H', ⟨by have := aF.out; first | omega | exact Nat.le_refl _⟩, ⟨h_ ab⟩, ⟨b_ HB⟩⟩
      ·rw [if_neg c6] at H
       exact absurd H (by simp)
     case rest =>
      clear HC4
      obtain ⟨kq, ax, rfl, HA, aX, ab, HB⟩ := hcut
      cases kq with
      | zero => exact absurd HA.out (by simp [quorumref8_Chain.j1])
      | succ bi =>
       have H := HA.out
       clear HA
       simp only [quorumref8_Chain.j1] at H
       as_aux_lemma =>
        by_cases aM : ax = true
        ·subst aM
         rw [if_pos rfl] at H
         obtain rfl := Option.some.inj H
         go_wp2
         go_ret
         exact ⟨sa_, b_ HB⟩
        ·replace aM := Bool.eq_false_iff.mpr aM
         subst aM
         rw [if_neg nf_] at H
         have H' := mk0 H
         clear H
         go_wp2
         go_roundg bi
         case measure => have := aF.out; have := aX.out; omega
         case rel => exact ⟨(wrap64 (aa + 1)), sm_, H', ⟨by have := aF.out; have := aX.out; omega⟩, ⟨h_ ab⟩, ⟨b_ HB⟩⟩
    ·rw [if_neg c3] at H
     have aS := decide_eq_false c3
     clear c3
     replace H := ob_ H
     obtain ⟨aY, aZ, H⟩ := H
     try dsimp only at H
     by_cases aN : aY = true
     ·subst aN
      rw [if_pos rfl] at H
      obtain rfl := Option.some.inj H
      obtain ⟨a2, a3, a4, a5⟩ := c2_ ab
      go_wp2_with (first | ((with_reducible refine gate_callee (f := 62) rfl ?_); refine gL_ (some 40) Try.func62 #[.string a0_0] (h := ?_); (with_reducible refine (quorumref1_Key.calls a0_0 true _ aZ.out).mono ?_); rintro e w' ⟨rfl, ⟨nd, rfl⟩⟩; refine ⟨_, rfl, ?_⟩))
      go_ret
      exact ⟨sa_, b_ HB⟩
     ·replace aN := Bool.eq_false_iff.mpr aN
      subst aN
      rw [if_neg nf_] at H
      obtain rfl := Option.some.inj H
      obtain ⟨a6, a7, a8, a9⟩ := c2_ ab
      go_wp2_with (first | ((with_reducible refine gate_callee (f := 62) rfl ?_); refine gL_ (some 40) Try.func62 #[.string a0_0] (h := ?_); (with_reducible refine (quorumref1_Key.calls a0_0 false _ aZ.out).mono ?_); rintro e w' ⟨rfl, ⟨nd, rfl⟩⟩; refine ⟨_, rfl, ?_⟩))
      go_ret
      exact ⟨sa_, b_ HB⟩
/-! ### quorumref8_Table: function 37 -/
mutual
def quorumref8_Table.l0 : Nat → Int → List (S99) → Option (Bool)
 | 0, _, _ => none
 | k + 1, x3, x172000 => if x3 < (x172000.length : Int) then (if 0 ≤ x3 then ((quorumref8_Chain.f k ((rd_T99 x172000 x3).f0) ((rd_T99 x172000 x3).f1)).bind fun t173 => (if t173 = true then (if x3 > 0 then (if 0 ≤ (wrap64 (x3 - 1)) then (if (wrap64 (x3 - 1)) < (x172000.length : Int) then (quorumref8_Table.j1 k x3 (!(Op.bytesLess (((rd_T99 x172000 (wrap64 (x3 - 1))).f0).toList) (((rd_T99 x172000 x3).f0).toList))) x172000) else (none)) else (none)) else (quorumref8_Table.j1 k x3 false x172000)) else (quorumref8_Table.j1 k x3 true x172000))) else (none)) else ((quorumref8_Count.f k x172000).bind fun t176 => (some (decide (t176 ≤ 64))))
def quorumref8_Table.j1 : Nat → Int → Bool → List (S99) → Option (Bool)
 | 0, _, _, _ => none
 | k + 1, x3, x37, x172000 => if x37 = true then (some false) else (quorumref8_Table.l0 k (wrap64 (x3 + 1)) x172000)
end
def quorumref8_Table.f (k : Nat) (l0_0 : List (S99)) : Option (Bool) := quorumref8_Table.l0 k 0 l0_0
theorem quorumref8_Table.mono_l : ∀ k, (∀ y0 y1, LeO (quorumref8_Table.l0 k y0 y1) (quorumref8_Table.l0 (k + 1) y0 y1)) ∧ (∀ y0 y1 y2, LeO (quorumref8_Table.j1 k y0 y1 y2) (quorumref8_Table.j1 (k + 1) y0 y1 y2))
 | 0 => ⟨fun _ _ r h => by simp [quorumref8_Table.l0] at h, fun _ _ _ r h => by simp [quorumref8_Table.j1] at h⟩
 | k + 1 => by
  obtain ⟨ih0, ih1⟩ := quorumref8_Table.mono_l k
  refine ⟨?_, ?_⟩
  all_goals (intros; first | unfold quorumref8_Table.l0 | unfold quorumref8_Table.j1)
  all_goals (repeat' first | (with_reducible exact ih0 ..) | (with_reducible exact ih1 ..) | (with_reducible exact quorumref8_Chain.mono ..) | (with_reducible exact quorumref8_Count.mono ..) | (with_reducible exact LeO.refl _) | (with_reducible exact LeO.none _) | (with_reducible refine LeO.ite ?_ ?_) | (with_reducible refine LeO.bind ?_ (fun _ => ?_)) | exact LeO.none _ | refine LeO.ite ?_ ?_ | refine LeO.bind ?_ (fun _ => ?_))
theorem quorumref8_Table.mono : ∀ a0 k, LeO (quorumref8_Table.f k a0) (quorumref8_Table.f (k + 1) a0) := by
 intro a0 k
 obtain ⟨ih0, ih1⟩ := quorumref8_Table.mono_l k
 unfold quorumref8_Table.f
 repeat' first | (with_reducible exact ih0 ..) | (with_reducible exact ih1 ..) | (with_reducible exact quorumref8_Chain.mono ..) | (with_reducible exact quorumref8_Count.mono ..) | (with_reducible exact LeO.refl _) | (with_reducible exact LeO.none _) | (with_reducible refine LeO.ite ?_ ?_) | (with_reducible refine LeO.bind ?_ (fun _ => ?_)) | exact LeO.none _ | refine LeO.ite ?_ ?_ | refine LeO.bind ?_ (fun _ => ?_)
def quorumref8_Table.T4 : Bool × List (List Nat × List Nat) := (true, [([], []), ([0], [0]), ([], []), ([1, 2], [1, 2]), ([3], [3]), ([4], [4]), ([5], [5]), ([6, 5], [6]), ([7], [7]), ([8, 7], [7, 8]), ([9, 7, 7], [7, 9]), ([10], [10]), ([11, 10], [10, 11]), ([10], [10]), ([13, 10], [10, 13]), ([12, 14, 10], [10, 12, 14]), ([15, 10], [10, 15]), ([16, 10], [10, 16]), ([10], [10]), ([18, 10], [10, 18]), ([10], [10]), ([19, 20, 10], [10, 19, 20]), ([21, 10], [10, 21]), ([22, 10], [10, 22]), ([17, 23, 10], [10, 17, 23]), ([10, 24, 7], [7, 10, 24]), ([7, 25], [7, 25])])
def quorumref8_Table.B4 : List Nat := [0, 1, 0, 7, 15, 31, 63, 127, 255, 511, 1023, 2047, 4095, 2047, 10239, 32767, 65535, 131071, 2047, 264191, 2047, 1837055, 3934207, 8128511, 16777215, 33554431, 67108863]
theorem quorumref8_Table.tab4 : rtab .any (opsOf Try.f37 4) = quorumref8_Table.T4 := by kernel_rfl
theorem quorumref8_Table.bits4 : waitsOk quorumref8_Table.T4.2 quorumref8_Table.B4 = true := by kernel_rfl
theorem quorumref8_Table.calls (k : Nat) (A0_0 : Option Addr) (c0_0 : Nat) (l0_0 : List (S99)) (r : Bool) (w : World) (hr0_0 : Kd.C k99 w A0_0 l0_0.length l0_0) (hc0_0 : l0_0.length ≤ c0_0) (h : quorumref8_Table.f k l0_0 = some r) :
  Calls Try.prog 37 #[.agg #[.slice A0_0 l0_0.length c0_0]] w fun e w' => e = .returned (.bool r) ∧ Below w.heap.size w w' := by
 have hu47 := Try.underlying47
 have hu99 := Try.underlying99
 have aw := mk0 hr0_0
 have aY := mk0 hc0_0
 clear hr0_0 hc0_0
 have HB := mk0 (Below.refl w.heap.size w)
 have H : (quorumref8_Table.l0 k 0 l0_0) = some r := h
 clear h
 have H' := mk0 H
 clear H
 go_enter Try.func37, Try.ntmps37
 go_wp2_with (first | ((with_reducible refine gate_dst (N := 1) rfl ?_); refine bx_ (N := 1) (cs := #[.slice A0_0 l0_0.length c0_0]) (t := 47) (h := ?_); intro ax hg w2 hbox hb; have n2_ := mk0 (gz_ HB hg); have a3 := mk0 (gz_ HB hg); replace HB := mk0 (bt_ (b_ HB) hb); have ab := mk0 (hbox); have bh := a3; clear n2_ a3; clear hb hbox hg))
 go_loopg [3] k (fun kq v3 w' => ∃ (aa : Int), v3 = .int .i64 aa ∧ Fc (quorumref8_Table.l0 kq aa l0_0 = some r) ∧ Fc (kq ≤ k) ∧ Fc (w'.heap[ax]? = some (.cells #[(.slice A0_0 l0_0.length c0_0)] 47 (0, 0))) ∧ Fc (Below w.heap.size w w'))
 case atStart => exact ⟨(0), sm_, H', ⟨Nat.le_refl _⟩, ⟨h_ ab⟩, ⟨b_ HB⟩⟩
 case round =>
  clear H'
  obtain ⟨aa, rfl, HA, aJ, ab, HB⟩ := hrel
  cases gk with
  | zero => exact absurd HA.out (by simp [quorumref8_Table.l0])
  | succ k1 =>
   have H := HA.out
   clear HA
   simp only [quorumref8_Table.l0] at H
   as_aux_lemma =>
    by_cases c3 : aa < (l0_0.length : Int)
    ·rw [if_pos c3] at H
     have a4 := decide_eq_true c3
     clear c3
     have HC4 := mk0 H
     clear H
     obtain ⟨bf, bg⟩ := c1_ ab
     go_upto_region 4 with (fail)
     go_cut [37] (fun v37 wc => ∃ (kq : Nat) (az : Bool), v37 = .bool az ∧ Fc (quorumref8_Table.j1 kq aa az l0_0 = some r) ∧ Fc (kq ≤ k1) ∧ Fc (wc.heap[ax]? = some (.cells #[(.slice A0_0 l0_0.length c0_0)] 47 (0, 0))) ∧ Fc (Below w.heap.size w wc))
     case first =>
      have H := HC4.out
      clear HC4
      by_cases c6 : 0 ≤ aa
      ·rw [if_pos c6] at H
       have aX := decide_eq_true c6
       clear c6
       (first | rw [aX] | (simp only [i64_w, i32_w]; rw [aX]) | skip)
       replace H := ob_ H
       obtain ⟨a5, A7, H⟩ := H
       try dsimp only at H
       by_cases c8 : a5 = true
       ·subst c8
        rw [if_pos rfl] at H
        by_cases c9 : aa > 0
        ·rw [if_pos c9] at H
         have a6 := decide_eq_true c9
         clear c9
         obtain ⟨ak, ay⟩ : ∃ j_ : Int, (wrap64 (aa - 1)) = j_ := ⟨_, rfl⟩
         replace H : (if 0 ≤ (ak) then (if (ak) < (l0_0.length : Int) then (quorumref8_Table.j1 k1 aa (!(Op.bytesLess (((rd_T99 l0_0 (ak)).f0).toList) (((rd_T99 l0_0 aa).f0).toList))) l0_0) else (none)) else (none)) = some r := by first | (rw [ay] at H; exact H) | (simp only [ay] at H ⊢; exact H)
         (try rw [ay] at A7)
         have hji10w : (IntKind.i64.wrap (aa - 1)) = ak := (i64_w _).trans ay
         by_cases aQ : 0 ≤ (ak)
         ·rw [if_pos aQ] at H
          have bi := decide_eq_true aQ
          clear aQ
          by_cases aR : (ak) < (l0_0.length : Int)
          ·rw [if_pos aR] at H
           have bj := decide_eq_true aR
           clear aR
           have H' := mk0 H
           clear H
           try go_wp2
           replace ab := mk0 (bD_ ab.out)
           replace HB := mk0 (b1_ HB.out)
           have an : 0 ≤ (aa : Int) := od_
           have ao : aa < (l0_0.length : Int) := od_
           obtain ⟨ac, al, am, aA, ad, ae, af, ag⟩ := at_T99 aw.out aa an ao
           have ah := ae
           have ai := ad
           cases aA
           replace ad := (bc_ HB ad :)
           replace ae := (bc_ HB ae :)
           have aj := mk0 ag
           have ap := mk0 af
           clear ag af
           replace an := eq_true an
           replace ao := eq_true ao
           have aK : 0 ≤ ((ak) : Int) := od_
           have aL : (ak) < (l0_0.length : Int) := od_
           obtain ⟨aZ, aS, aT, a7, aq, ar, aB, aC⟩ := at_T99 aw.out (ak) aK aL
           have aD := ar
           have aE := aq
           obtain rfl : ac = aZ := (by injection a7)
           replace aq := (bc_ HB aq :)
           replace ar := (bc_ HB ar :)
           have aM := mk0 aC
           have a8 := mk0 aB
           clear aC aB
           replace aK := eq_true aK
           replace aL := eq_true aL
           have aN : 0 ≤ (aa : Int) := od_
           have aO : aa < (l0_0.length : Int) := od_
           obtain ⟨a2, aU, aV, a9, au, av, aF, aG⟩ := at_T99 aw.out aa aN aO
           have aH := av
           have aI := au
           obtain rfl : ac = a2 := (by injection a9)
           replace au := (bc_ HB au :)
           replace av := (bc_ HB av :)
           have aP := mk0 aG
           have ba := mk0 aF
           clear aG aF
           replace aN := eq_true aN
           replace aO := eq_true aO
           refine start_ (n := 27) (S := fun w' => w'.cell? ⟨ax, 0, none⟩ = some (.slice (some ac) l0_0.length c0_0) ∧ w'.cell? (ac.add ((aa).toNat * 2)) = some (.string ((rd_T99 l0_0 aa).f0)) ∧ w'.cell? ⟨(ac.add ((aa).toNat * 2)).block, (ac.add ((aa).toNat * 2)).off + 1, none⟩ = some (.slice al ((rd_T99 l0_0 aa).f1).length am) ∧ w'.cell? (ac.add (((ak)).toNat * 2)) = some (.string ((rd_T99 l0_0 (ak)).f0)) ∧ w'.cell? ⟨(ac.add (((ak)).toNat * 2)).block, (ac.add (((ak)).toNat * 2)).off + 1, none⟩ = some (.slice aS ((rd_T99 l0_0 (ak)).f1).length aT) ∧ w'.cell? (ac.add ((aa).toNat * 2)) = some (.string ((rd_T99 l0_0 aa).f0)) ∧ w'.cell? ⟨(ac.add ((aa).toNat * 2)).block, (ac.add ((aa).toNat * 2)).off + 1, none⟩ = some (.slice aU ((rd_T99 l0_0 aa).f1).length aV)) (ds := []) (bt 27 0) (by kernel_rfl) rfl rfl ⟨bk_ ab 0, ((bc_ HB ai :)), ((bc_ HB ah :)), ((bc_ HB aE :)), ((bc_ HB aD :)), ((bc_ HB aI :)), ((bc_ HB aH :))⟩ (fun hHeld => ?_); refine with_tabW quorumref8_Table.tab4 quorumref8_Table.bits4 (fun HT_ HW_ => ?_)
           generalize wr.drew = bm at ab HB aj aM aP ad ae aq ar au av hHeld ⊢
           refine pq_ HT_.out 0 11 (bt 27 1) (h := ?_)
           refine pq_ HT_.out 2 13 (bt 27 5) (h := ?_)
           refine tq7_ HT_.out HW_.out 1 12 (bt 27 7) hHeld (h := ?_)
           refine pq_ HT_.out 3 14 (bt 27 15) (h := ?_)
           refine tq7_ HT_.out HW_.out 4 15 (bt 27 31) hHeld (h := ?_)
           refine one_ (i := 5) (N := some 16) (bt 27 63) rfl rfl (one_of HT_.out (by kernel_rfl)) (by decide) (fun K hK => ?_)
           refine goes_ Try.func92 (by kernel_rfl) rfl #[.agg #[.string ((rd_T99 l0_0 aa).f0), .slice al ((rd_T99 l0_0 aa).f1).length am]] (by rfl) rfl rfl gs_ ?_
           with_reducible refine (quorumref8_Chain.calls k1 ((rd_T99 l0_0 aa).f0) _ _ ((rd_T99 l0_0 aa).f1) true _ ?side1 ?side2 A7.out).mono ?_
           (case side1 => exact cb_ aj HB)
           (case side2 => exact ap.out)
           rintro e bn ⟨rfl, hb⟩
           refine ⟨_, rfl, ?_⟩
           replace ab := mk0 (u_ ab hb)
           replace HB := mk0 (bt_ (b_ HB) hb)
           (try clear hb)
           (try clear hk)
           (try clear hi)
           refine hK.out _ _ ⟨bk_ ab 0, ((bc_ HB ai :)), ((bc_ HB ah :)), ((bc_ HB aE :)), ((bc_ HB aD :)), ((bc_ HB aI :)), ((bc_ HB aH :))⟩ (fun hHeld => ?_)
           clear hK K
           refine norm_ (a' := ?_) ?_ ?_
           rotate_left
           ·show Act.put _ (some 16) _ = _
            simp only [z_]
            rfl
           refine pq_ HT_.out 6 17 (bt 27 127) (h := ?_)
           refine pq_ HT_.out 7 18 (bt 27 255) (h := ?_)
           refine pq_ HT_.out 8 19 (bt 27 511) (h := ?_)
           refine pq_ HT_.out 9 20 (bt 27 1023) (h := ?_)
           refine pq_ HT_.out 10 21 (bt 27 2047) (h := ?_)
           refine pq_ HT_.out 11 22 (bt 27 4095) (h := ?_)
           refine pq_ HT_.out 13 24 (bt 27 12287) (h := ?_)
           refine pq_ HT_.out 14 25 (bt 27 28671) (h := ?_)
           refine pq_ HT_.out 18 29 (bt 27 290815) (h := ?_)
           refine pq_ HT_.out 20 31 (bt 27 1339391) (h := ?_)
           refine tq7_ HT_.out HW_.out 12 23 (bt 27 1343487) hHeld (h := ?_)
           refine pq_ HT_.out 15 26 (bt 27 1376255) (h := ?_)
           refine pq_ HT_.out 16 27 (bt 27 1441791) (h := ?_)
           refine tq7_ HT_.out HW_.out 17 28 (bt 27 1572863) hHeld (h := ?_)
           refine tq7_ HT_.out HW_.out 19 30 (bt 27 2097151) hHeld (h := ?_)
           refine pq_ HT_.out 21 32 (bt 27 4194303) (h := ?_)
           refine pq_ HT_.out 22 33 (bt 27 8388607) (h := ?_)
           refine tq7_ HT_.out HW_.out 23 34 (bt 27 16777215) hHeld (h := ?_)
           refine pq_ HT_.out 24 35 (bt 27 33554431) (h := ?_)
           refine pq_ HT_.out 25 36 (bt 27 67108863) (h := ?_)
           refine pq_ HT_.out 26 37 (bt 27 134217727) (h := ?_)
           refine done_ (done_of HT_.out (by kernel_rfl)) ?_
           try go_wp2
           go_meet
           case rel => exact ⟨_, (!(Op.bytesLess (((rd_T99 l0_0 (ak)).f0).toList) (((rd_T99 l0_0 aa).f0).toList))), (by first | rfl | (simp; done) | (simp only [← ay] <;> (first | rfl | (simp [leq_]; done) | (simp; done))) | (simp [*]; done)), H', ⟨by have := aJ.out; first | omega | exact Nat.le_refl _⟩, ⟨h_ ab⟩, ⟨b_ HB⟩⟩
          ·rw [if_neg aR] at H
           exact absurd H (by simp)
         ·rw [if_neg aQ] at H
          exact absurd H (by simp)
        ·rw [if_neg c9] at H
         have a6 := decide_eq_false c9
         clear c9
         have H' := mk0 H
         clear H
         try go_wp2
         replace ab := mk0 (bD_ ab.out)
         replace HB := mk0 (b1_ HB.out)
         have an : 0 ≤ (aa : Int) := od_
         have ao : aa < (l0_0.length : Int) := od_
         obtain ⟨ac, al, am, aA, ad, ae, af, ag⟩ := at_T99 aw.out aa an ao
         have ah := ae
         have ai := ad
         cases aA
         replace ad := (bc_ HB ad :)
         replace ae := (bc_ HB ae :)
         have aj := mk0 ag
         have ap := mk0 af
         clear ag af
         replace an := eq_true an
         replace ao := eq_true ao
         refine start_ (n := 27) (S := fun w' => w'.cell? ⟨ax, 0, none⟩ = some (.slice (some ac) l0_0.length c0_0) ∧ w'.cell? (ac.add ((aa).toNat * 2)) = some (.string ((rd_T99 l0_0 aa).f0)) ∧ w'.cell? ⟨(ac.add ((aa).toNat * 2)).block, (ac.add ((aa).toNat * 2)).off + 1, none⟩ = some (.slice al ((rd_T99 l0_0 aa).f1).length am)) (ds := []) (bt 27 0) (by kernel_rfl) rfl rfl ⟨bk_ ab 0, ((bc_ HB ai :)), ((bc_ HB ah :))⟩ (fun hHeld => ?_); refine with_tabW quorumref8_Table.tab4 quorumref8_Table.bits4 (fun HT_ HW_ => ?_)
         generalize wr.drew = bo at ab HB aj ad ae hHeld ⊢
         refine pq_ HT_.out 0 11 (bt 27 1) (h := ?_)
         refine pq_ HT_.out 2 13 (bt 27 5) (h := ?_)
         refine tq3_ HT_.out HW_.out 1 12 (bt 27 7) hHeld (h := ?_)
         refine pq_ HT_.out 3 14 (bt 27 15) (h := ?_)
         refine tq3_ HT_.out HW_.out 4 15 (bt 27 31) hHeld (h := ?_)
         refine one_ (i := 5) (N := some 16) (bt 27 63) rfl rfl (one_of HT_.out (by kernel_rfl)) (by decide) (fun K hK => ?_)
         refine goes_ Try.func92 (by kernel_rfl) rfl #[.agg #[.string ((rd_T99 l0_0 aa).f0), .slice al ((rd_T99 l0_0 aa).f1).length am]] (by rfl) rfl rfl gs_ ?_
         with_reducible refine (quorumref8_Chain.calls k1 ((rd_T99 l0_0 aa).f0) _ _ ((rd_T99 l0_0 aa).f1) true _ ?side1 ?side2 A7.out).mono ?_
         (case side1 => exact cb_ aj HB)
         (case side2 => exact ap.out)
         rintro e bp ⟨rfl, hb⟩
         refine ⟨_, rfl, ?_⟩
         replace ab := mk0 (u_ ab hb)
         replace HB := mk0 (bt_ (b_ HB) hb)
         (try clear hb)
         (try clear hk)
         (try clear hi)
         refine hK.out _ _ ⟨bk_ ab 0, ((bc_ HB ai :)), ((bc_ HB ah :))⟩ (fun hHeld => ?_)
         clear hK K
         refine norm_ (a' := ?_) ?_ ?_
         rotate_left
         ·show Act.put _ (some 16) _ = _
          simp only [z_]
          rfl
         refine pq_ HT_.out 6 17 (bt 27 127) (h := ?_)
         refine pq_ HT_.out 7 18 (bt 27 255) (h := ?_)
         refine pq_ HT_.out 8 19 (bt 27 511) (h := ?_)
         refine pq_ HT_.out 9 20 (bt 27 1023) (h := ?_)
         refine pq_ HT_.out 10 21 (bt 27 2047) (h := ?_)
         refine uq_ HT_.out 11 22 (bt 27 4095) (h := ?_)
         refine uq_ HT_.out 12 23 (bt 27 8191) (h := ?_)
         refine uq_ HT_.out 13 24 (bt 27 16383) (h := ?_)
         refine uq_ HT_.out 14 25 (bt 27 32767) (h := ?_)
         refine uq_ HT_.out 15 26 (bt 27 65535) (h := ?_)
         refine uq_ HT_.out 16 27 (bt 27 131071) (h := ?_)
         refine uq_ HT_.out 17 28 (bt 27 262143) (h := ?_)
         refine uq_ HT_.out 18 29 (bt 27 524287) (h := ?_)
         refine uq_ HT_.out 19 30 (bt 27 1048575) (h := ?_)
         refine uq_ HT_.out 20 31 (bt 27 2097151) (h := ?_)
         refine uq_ HT_.out 21 32 (bt 27 4194303) (h := ?_)
         refine uq_ HT_.out 22 33 (bt 27 8388607) (h := ?_)
         refine uq_ HT_.out 23 34 (bt 27 16777215) (h := ?_)
         refine uq_ HT_.out 24 35 (bt 27 33554431) (h := ?_)
         refine pq_ HT_.out 25 36 (bt 27 67108863) (h := ?_)
         refine pq_ HT_.out 26 37 (bt 27 134217727) (h := ?_)
         refine done_ (done_of HT_.out (by kernel_rfl)) ?_
         try go_wp2
         go_meet
         case rel => exact ⟨_, (false), sm_, H', ⟨by have := aJ.out; first | omega | exact Nat.le_refl _⟩, ⟨h_ ab⟩, ⟨b_ HB⟩⟩
       ·replace c8 := Bool.eq_false_iff.mpr c8
        subst c8
        rw [if_neg nf_] at H
        have H' := mk0 H
        clear H
        try go_wp2
        replace ab := mk0 (bD_ ab.out)
        replace HB := mk0 (b1_ HB.out)
        have an : 0 ≤ (aa : Int) := od_
        have ao : aa < (l0_0.length : Int) := od_
        obtain ⟨ac, al, am, aA, ad, ae, af, ag⟩ := at_T99 aw.out aa an ao
        have ah := ae
        have ai := ad
        cases aA
        replace ad := (bc_ HB ad :)
        replace ae := (bc_ HB ae :)
        have aj := mk0 ag
        have ap := mk0 af
        clear ag af
        replace an := eq_true an
        replace ao := eq_true ao
        refine start_ (n := 27) (S := fun w' => w'.cell? ⟨ax, 0, none⟩ = some (.slice (some ac) l0_0.length c0_0) ∧ w'.cell? (ac.add ((aa).toNat * 2)) = some (.string ((rd_T99 l0_0 aa).f0)) ∧ w'.cell? ⟨(ac.add ((aa).toNat * 2)).block, (ac.add ((aa).toNat * 2)).off + 1, none⟩ = some (.slice al ((rd_T99 l0_0 aa).f1).length am)) (ds := []) (bt 27 0) (by kernel_rfl) rfl rfl ⟨bk_ ab 0, ((bc_ HB ai :)), ((bc_ HB ah :))⟩ (fun hHeld => ?_); refine with_tabW quorumref8_Table.tab4 quorumref8_Table.bits4 (fun HT_ HW_ => ?_)
        generalize wr.drew = bq at ab HB aj ad ae hHeld ⊢
        refine pq_ HT_.out 0 11 (bt 27 1) (h := ?_)
        refine pq_ HT_.out 2 13 (bt 27 5) (h := ?_)
        refine tq3_ HT_.out HW_.out 1 12 (bt 27 7) hHeld (h := ?_)
        refine pq_ HT_.out 3 14 (bt 27 15) (h := ?_)
        refine tq3_ HT_.out HW_.out 4 15 (bt 27 31) hHeld (h := ?_)
        refine one_ (i := 5) (N := some 16) (bt 27 63) rfl rfl (one_of HT_.out (by kernel_rfl)) (by decide) (fun K hK => ?_)
        refine goes_ Try.func92 (by kernel_rfl) rfl #[.agg #[.string ((rd_T99 l0_0 aa).f0), .slice al ((rd_T99 l0_0 aa).f1).length am]] (by rfl) rfl rfl gs_ ?_
        with_reducible refine (quorumref8_Chain.calls k1 ((rd_T99 l0_0 aa).f0) _ _ ((rd_T99 l0_0 aa).f1) false _ ?side1 ?side2 A7.out).mono ?_
        (case side1 => exact cb_ aj HB)
        (case side2 => exact ap.out)
        rintro e br ⟨rfl, hb⟩
        refine ⟨_, rfl, ?_⟩
        replace ab := mk0 (u_ ab hb)
        replace HB := mk0 (bt_ (b_ HB) hb)
        (try clear hb)
        (try clear hk)
        (try clear hi)
        refine hK.out _ _ ⟨bk_ ab 0, ((bc_ HB ai :)), ((bc_ HB ah :))⟩ (fun hHeld => ?_)
        clear hK K
        refine norm_ (a' := ?_) ?_ ?_
        rotate_left
        ·show Act.put _ (some 16) _ = _
         simp only [z_]
         rfl
        refine pq_ HT_.out 6 17 (bt 27 127) (h := ?_)
        refine pq_ HT_.out 7 18 (bt 27 255) (h := ?_)
        refine uq_ HT_.out 8 19 (bt 27 511) (h := ?_)
        refine uq_ HT_.out 9 20 (bt 27 1023) (h := ?_)
        refine uq_ HT_.out 10 21 (bt 27 2047) (h := ?_)
        refine uq_ HT_.out 11 22 (bt 27 4095) (h := ?_)
        refine uq_ HT_.out 12 23 (bt 27 8191) (h := ?_)
        refine uq_ HT_.out 13 24 (bt 27 16383) (h := ?_)
        refine uq_ HT_.out 14 25 (bt 27 32767) (h := ?_)
        refine uq_ HT_.out 15 26 (bt 27 65535) (h := ?_)
        refine uq_ HT_.out 16 27 (bt 27 131071) (h := ?_)
        refine uq_ HT_.out 17 28 (bt 27 262143) (h := ?_)
        refine uq_ HT_.out 18 29 (bt 27 524287) (h := ?_)
        refine uq_ HT_.out 19 30 (bt 27 1048575) (h := ?_)
        refine uq_ HT_.out 20 31 (bt 27 2097151) (h := ?_)
        refine uq_ HT_.out 21 32 (bt 27 4194303) (h := ?_)
        refine uq_ HT_.out 22 33 (bt 27 8388607) (h := ?_)
        refine uq_ HT_.out 23 34 (bt 27 16777215) (h := ?_)
        refine uq_ HT_.out 24 35 (bt 27 33554431) (h := ?_)
        refine uq_ HT_.out 25 36 (bt 27 67108863) (h := ?_)
        refine pq_ HT_.out 26 37 (bt 27 134217727) (h := ?_)
        refine done_ (done_of HT_.out (by kernel_rfl)) ?_
        try go_wp2
        go_meet
        case rel => exact ⟨_, (true), sm_, H', ⟨by have := aJ.out; first | omega | exact Nat.le_refl _⟩, ⟨h_ ab⟩, ⟨b_ HB⟩⟩
      ·rw [if_neg c6] at H
       exact absurd H (by simp)
     case rest =>
      clear HC4
      obtain ⟨kq, az, rfl, HA, bb, ab, HB⟩ := hcut
      cases kq with
      | zero => exact absurd HA.out (by simp [quorumref8_Table.j1])
      | succ bk =>
       have H := HA.out
       clear HA
       simp only [quorumref8_Table.j1] at H
       as_aux_lemma =>
        by_cases aW : az = true
        ·subst aW
         rw [if_pos rfl] at H
         obtain rfl := Option.some.inj H
         go_wp2
         go_ret
         exact ⟨sa_, b_ HB⟩
        ·replace aW := Bool.eq_false_iff.mpr aW
         subst aW
         rw [if_neg nf_] at H
         have H' := mk0 H
         clear H
         go_wp2
         go_roundg bk
         case measure => have := aJ.out; have := bb.out; omega
         case rel => exact ⟨(wrap64 (aa + 1)), sm_, H', ⟨by have := aJ.out; have := bb.out; omega⟩, ⟨h_ ab⟩, ⟨b_ HB⟩⟩
    ·rw [if_neg c3] at H
     have a4 := decide_eq_false c3
     clear c3
     replace H := ob_ H
     obtain ⟨bc, bl, H⟩ := H
     try dsimp only at H
     obtain rfl := Option.some.inj H
     obtain ⟨bd, be⟩ := c1_ ab
     go_wp2_with (first | ((with_reducible refine gate_callee (f := 75) rfl ?_); refine gL_ (some 39) Try.func75 #[.agg #[.slice A0_0 l0_0.length c0_0]] (h := ?_); (with_reducible refine (quorumref8_Count.calls k1 _ _ l0_0 bc _ ?side1 ?side2 bl.out).mono ?_); (case side1 => exact cb_ aw HB); (case side2 => exact aY.out); rintro e bs ⟨rfl, hb⟩; refine ⟨_, rfl, ?_⟩; replace ab := mk0 (u_ ab hb); replace HB := mk0 (bt_ (b_ HB) hb); (try clear hb)))
     go_ret
     exact ⟨sa_, b_ HB⟩
/-! ### quorumref0_Num: function 39 -/
def quorumref0_Num.f (a0 : Int) (a1 : Int) : Option (Bool) := if a0 ≥ 0 then (some (decide (a0 ≤ a1))) else (some false)
theorem quorumref0_Num.calls (a0 : Int) (a1 : Int) (r : Bool) (w : World) (h : quorumref0_Num.f a0 a1 = some r) :
  Calls Try.prog 39 #[.int .i64 a0, .int .i64 a1] w fun e w' => e = .returned (.bool r) ∧ Drawn0 w w' := by
 have H : (if a0 ≥ 0 then (some (decide (a0 ≤ a1))) else (some false)) = some r := h
 clear h
 by_cases c3 : a0 ≥ 0
 ·rw [if_pos c3] at H
  have c3b0 := decide_eq_true c3
  clear c3
  obtain rfl := Option.some.inj H
  go_enter Try.func39, Try.ntmps39
  go_wp2
  go_ret
  exact ⟨by first | rfl | (simp; done) | (simp [*]; done), by repeat (first | exact Drawn0.refl _ | apply Drawn0.step)⟩
 ·rw [if_neg c3] at H
  have c3b0 := decide_eq_false c3
  clear c3
  obtain rfl := Option.some.inj H
  go_enter Try.func39, Try.ntmps39
  go_wp2
  go_ret
  exact ⟨by first | rfl | (simp; done) | (simp [*]; done), by repeat (first | exact Drawn0.refl _ | apply Drawn0.step)⟩
end Go.Proofs.Ytbaecdcfefmcgaa.PTbe
