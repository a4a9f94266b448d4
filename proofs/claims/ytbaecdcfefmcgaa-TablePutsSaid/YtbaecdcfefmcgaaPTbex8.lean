-- PRINTED by print.py (a twelfth state) out of the translation. Not trusted: Lean checks it.
import Derived.Shelf.SlSorted.Search
import Derived.Test.YtbaecdcfefmcgaaPTbex0
import Derived.Test.YtbaecdcfefmcgaaPTbex7
namespace Go.Proofs.Ytbaecdcfefmcgaa.PTbe
open Go.RowKit Go.Proofs.YtbaecdcfefmcgaaW.PrintWords Go.Proofs.YtbaecdcfefmcgaaW.PrintLast Go.Proofs.YtbaecdcfefmcgaaW.PrintMore
attribute [local go_sem] max2_int min2_int max_two min_two max_three min_three max_four min_four   -- for this text's walks alone
set_option maxHeartbeats 8000000
set_option maxRecDepth 100000
set_option linter.unusedVariables false
set_option linter.unusedSimpArgs false
/-! ### table_May: function 95 -/
mutual
def table_May.l0 : Nat → List (S99) → Int → Int → List (S99) → Option (Bool)
 | 0, _, _, _, _ => none
 | k + 1, x6, x7, x8, x189000 => if x8 < x7 then (if 0 ≤ x8 then (if x8 < (x6.length : Int) then ((chain_May.f k ((rd_T99 x6 x8).f0) ((rd_T99 x6 x8).f1)).bind fun t191 => (if t191 = true then (if x8 > 0 then (if 0 ≤ (wrap64 (x8 - 1)) then (if (wrap64 (x8 - 1)) < (x189000.length : Int) then (table_May.j1 k x6 x7 x8 (!(Op.bytesLess (((rd_T99 x189000 (wrap64 (x8 - 1))).f0).toList) (((rd_T99 x6 x8).f0).toList))) x189000) else (none)) else (none)) else (table_May.j1 k x6 x7 x8 false x189000)) else (table_May.j1 k x6 x7 x8 true x189000))) else (none)) else (none)) else ((table_Rooms.f k x189000).bind fun t193 => (some (decide (t193 ≤ 64))))
def table_May.j1 : Nat → List (S99) → Int → Int → Bool → List (S99) → Option (Bool)
 | 0, _, _, _, _, _ => none
 | k + 1, x6, x7, x8, x31, x189000 => if x31 = true then (some false) else (table_May.l0 k x6 x7 (wrap64 (x8 + 1)) x189000)
end
def table_May.f (k : Nat) (l0_0 : List (S99)) : Option (Bool) := table_May.l0 k l0_0 (l0_0.length : Int) 0 l0_0
theorem table_May.mono_l : ∀ k, (∀ y0 y1 y2 y3, LeO (table_May.l0 k y0 y1 y2 y3) (table_May.l0 (k + 1) y0 y1 y2 y3)) ∧ (∀ y0 y1 y2 y3 y4, LeO (table_May.j1 k y0 y1 y2 y3 y4) (table_May.j1 (k + 1) y0 y1 y2 y3 y4))
 | 0 => ⟨fun _ _ _ _ r h => by simp [table_May.l0] at h, fun _ _ _ _ _ r h => by simp [table_May.j1] at h⟩
 | k + 1 => by
  obtain ⟨ih0, ih1⟩ := table_May.mono_l k
  refine ⟨?_, ?_⟩
  all_goals (intros; first | unfold table_May.l0 | unfold table_May.j1)
  all_goals (repeat' first | (with_reducible exact ih0 ..) | (with_reducible exact ih1 ..) | (with_reducible exact chain_May.mono ..) | (with_reducible exact table_Rooms.mono ..) | (with_reducible exact LeO.refl _) | (with_reducible exact LeO.none _) | (with_reducible refine LeO.ite ?_ ?_) | (with_reducible refine LeO.bind ?_ (fun _ => ?_)) | exact LeO.none _ | refine LeO.ite ?_ ?_ | refine LeO.bind ?_ (fun _ => ?_))
theorem table_May.mono : ∀ a0 k, LeO (table_May.f k a0) (table_May.f (k + 1) a0) := by
 intro a0 k
 obtain ⟨ih0, ih1⟩ := table_May.mono_l k
 unfold table_May.f
 repeat' first | (with_reducible exact ih0 ..) | (with_reducible exact ih1 ..) | (with_reducible exact chain_May.mono ..) | (with_reducible exact table_Rooms.mono ..) | (with_reducible exact LeO.refl _) | (with_reducible exact LeO.none _) | (with_reducible refine LeO.ite ?_ ?_) | (with_reducible refine LeO.bind ?_ (fun _ => ?_)) | exact LeO.none _ | refine LeO.ite ?_ ?_ | refine LeO.bind ?_ (fun _ => ?_)
def table_May.T4 : Bool × List (List Nat × List Nat) := (true, [([], []), ([0], [0]), ([1], [1]), ([2, 1], [2]), ([3], [3]), ([4, 3], [3, 4]), ([5, 3, 3], [3, 5]), ([6], [6]), ([7, 6], [6, 7]), ([6], [6]), ([9, 6], [6, 9]), ([6], [6]), ([11, 6], [6, 11]), ([10, 12, 6], [6, 10, 12]), ([13, 6], [6, 13]), ([14, 6], [6, 14]), ([8, 15, 6], [6, 8, 15]), ([6, 16, 3], [3, 6, 16]), ([3, 17], [3, 17])])
def table_May.B4 : List Nat := [0, 1, 3, 7, 15, 31, 63, 127, 255, 127, 639, 127, 2175, 7807, 15999, 32383, 65535, 131071, 262143]
theorem table_May.tab4 : rtab .any (opsOf Try.f95 4) = table_May.T4 := by kernel_rfl
theorem table_May.bits4 : waitsOk table_May.T4.2 table_May.B4 = true := by kernel_rfl
theorem table_May.calls (k : Nat) (A0_0 : Option Addr) (c0_0 : Nat) (l0_0 : List (S99)) (r : Bool) (w : World) (hr0_0 : Kd.C k99 w A0_0 l0_0.length l0_0) (hc0_0 : l0_0.length ≤ c0_0) (h : table_May.f k l0_0 = some r) :
  Calls Try.prog 95 #[.agg #[.slice A0_0 l0_0.length c0_0]] w fun e w' => e = .returned (.bool r) ∧ Below w.heap.size w w' := by
 have hu47 := Try.underlying47
 have hu99 := Try.underlying99
 have aG := mk0 hr0_0
 have bb := mk0 hc0_0
 clear hr0_0 hc0_0
 have HB := mk0 (Below.refl w.heap.size w)
 have H : (table_May.l0 k l0_0 (l0_0.length : Int) 0 l0_0) = some r := h
 clear h
 have H' := mk0 H
 clear H
 go_enter Try.func95, Try.ntmps95
 go_wp2_with (first | ((with_reducible refine gate_dst (N := 1) rfl ?_); refine bx_ (N := 1) (cs := #[.slice A0_0 l0_0.length c0_0]) (t := 47) (h := ?_); intro am hg w2 hbox hb; have n2_ := mk0 (gz_ HB hg); have aX := mk0 (gz_ HB hg); replace HB := mk0 (bt_ (b_ HB) hb); have ab := mk0 (hbox); have bq := aX; clear n2_ aX hb hbox hg; obtain ⟨aY, aZ⟩ := c1_ ab))
 go_loopg [8] k (fun kq v8 w' => ∃ (aa : Int), v8 = .int .i64 aa ∧ Fc (table_May.l0 kq l0_0 (l0_0.length : Int) aa l0_0 = some r) ∧ Fc (kq ≤ k) ∧ Fc (w'.heap[am]? = some (.cells #[(.slice A0_0 l0_0.length c0_0)] 47 (0, 0))) ∧ Fc (Below w.heap.size w w'))
 case atStart => exact ⟨(0), sm_, H', ⟨Nat.le_refl _⟩, ⟨h_ ab⟩, ⟨b_ HB⟩⟩
 case round =>
  clear H'
  try clear aY
  try clear aZ
  obtain ⟨aa, rfl, HA, aM, ab, HB⟩ := hrel
  cases gk with
  | zero => exact absurd HA.out (by simp [table_May.l0])
  | succ k1 =>
   have H := HA.out
   clear HA
   simp only [table_May.l0] at H
   as_aux_lemma =>
    by_cases c4 : aa < (l0_0.length : Int)
    ·rw [if_pos c4] at H
     have ba := decide_eq_true c4
     clear c4
     by_cases c5 : 0 ≤ aa
     ·rw [if_pos c5] at H
      have bd := decide_eq_true c5
      clear c5
      by_cases c6 : aa < (l0_0.length : Int)
      ·rw [if_pos c6] at H
       have be := decide_eq_true c6
       clear c6
       have HC7 := mk0 H
       clear H
       have aI : 0 ≤ (aa : Int) := od_
       have aJ : aa < (l0_0.length : Int) := od_
       obtain ⟨aj, af, ag, bf, an, ao, ay, az⟩ := at_T99 aG.out aa aI aJ
       cases bf
       replace an := (bc_ HB an :)
       replace ao := (bc_ HB ao :)
       have ap := mk0 az
       have aq := mk0 ay
       clear az ay
       replace aI := eq_true aI
       replace aJ := eq_true aJ
       go_upto_region 4 with (first | ((with_reducible refine gate_dst (N := 4) rfl ?_); refine bx_ (N := 4) (cs := #[.string (⟨#[]⟩ : ByteArray), .slice none 0 0]) (t := 99) (h := ?_); intro ae hg w8 hbox hb; have aX := mk0 (gz_ HB hg); have bg := mk0 (gz_ HB hg); have bh := mk0 (ne1_ ab hg); have bi := mk0 (ne2_ ab hg); replace ab := mk0 (u_ ab hb); replace HB := mk0 (bt_ (b_ HB) hb); have ac := mk0 (hbox); have br := bg; have ah := bh; have aH := bi; clear aX bg bh bi hb hbox hg; have bB := aH.out; have bC := ah.out; obtain ⟨aN, aP, aQ, aT⟩ := c2_ ac))
       (try simp only [Act.put, List.setIfInBounds_toArray, List.set_cons_zero, List.set_cons_succ])
       go_cut [31] (fun v31 wc => ∃ (kq : Nat) (ax : Bool), v31 = .bool ax ∧ Fc (table_May.j1 kq l0_0 (l0_0.length : Int) aa ax l0_0 = some r) ∧ Fc (kq ≤ k1) ∧ Fc (wc.heap[am]? = some (.cells #[(.slice (some aj) l0_0.length c0_0)] 47 (0, 0))) ∧ Fc (wc.heap[ae]? = some (.cells #[.string ((rd_T99 l0_0 aa).f0), (.slice af ((rd_T99 l0_0 aa).f1).length ag)] 99 (0, 0))) ∧ Fc (Below w.heap.size w wc))
       case first =>
        have H := HC7.out
        clear HC7
        replace H := ob_ H
        obtain ⟨bj, a3, H⟩ := H
        try dsimp only at H
        by_cases a4 : bj = true
        ·subst a4
         rw [if_pos rfl] at H
         by_cases aK : aa > 0
         ·rw [if_pos aK] at H
          have ar := decide_eq_true aK
          clear aK
          (first | rw [ar] | (simp only [i64_w, i32_w]; rw [ar]) | skip)
          obtain ⟨ai, au⟩ : ∃ j_ : Int, (wrap64 (aa - 1)) = j_ := ⟨_, rfl⟩
          replace H : (if 0 ≤ (ai) then (if (ai) < (l0_0.length : Int) then (table_May.j1 k1 l0_0 (l0_0.length : Int) aa (!(Op.bytesLess (((rd_T99 l0_0 (ai)).f0).toList) (((rd_T99 l0_0 aa).f0).toList))) l0_0) else (none)) else (none)) = some r := by first | (rw [au] at H; exact H) | (simp only [au] at H ⊢; exact H)
          (try rw [au] at a3)
          have hji14w : (IntKind.i64.wrap (aa - 1)) = ai := (i64_w _).trans au
          by_cases a5 : 0 ≤ (ai)
          ·rw [if_pos a5] at H
           have bs := decide_eq_true a5
           clear a5
           by_cases a6 : (ai) < (l0_0.length : Int)
           ·rw [if_pos a6] at H
            have bu := decide_eq_true a6
            clear a6
            have H' := mk0 H
            clear H
            try go_wp2
            have av : Fc (((w8.setCell ⟨ae, 0, none⟩ (.string ((rd_T99 l0_0 aa).f0))).setCell ⟨ae, 1, none⟩ (.slice af ((rd_T99 l0_0 aa).f1).length ag)).heap[am]? = some (.cells #[.slice (some aj) l0_0.length c0_0] 47 (0, 0))) := ⟨(fa_ (fa_ (h_ ab) ah.out) ah.out)⟩
            have aw : Fc (((w8.setCell ⟨ae, 0, none⟩ (.string ((rd_T99 l0_0 aa).f0))).setCell ⟨ae, 1, none⟩ (.slice af ((rd_T99 l0_0 aa).f1).length ag)).heap[ae]? = some (.cells #[.string ((rd_T99 l0_0 aa).f0), .slice af ((rd_T99 l0_0 aa).f1).length ag] 99 (0, 0))) := ⟨(pu_ (cs := #[.string ((rd_T99 l0_0 aa).f0), .slice none 0 0]) (pu_ (cs := #[.string (⟨#[]⟩ : ByteArray), .slice none 0 0]) (h_ ac)))⟩
            have n2_ : Fc (Below w.heap.size w ((w8.setCell ⟨ae, 0, none⟩ (.string ((rd_T99 l0_0 aa).f0))).setCell ⟨ae, 1, none⟩ (.slice af ((rd_T99 l0_0 aa).f1).length ag))) := ⟨b_ HB⟩
            (try clear ab)
            (try clear ac)
            (try clear HB)
            generalize ((w8.setCell ⟨ae, 0, none⟩ (.string ((rd_T99 l0_0 aa).f0))).setCell ⟨ae, 1, none⟩ (.slice af ((rd_T99 l0_0 aa).f1).length ag)) = bv at av aw n2_ ⊢
            have ab := av
            have ac := aw
            have HB := n2_
            clear av aw n2_
            replace ab := mk0 (bD_ ab.out)
            replace ac := mk0 (bD_ ac.out)
            replace HB := mk0 (b1_ HB.out)
            have aU : 0 ≤ ((ai) : Int) := od_
            have aV : (ai) < (l0_0.length : Int) := od_
            obtain ⟨bc, a7, a8, bk, ak, al, aA, aC⟩ := at_T99 aG.out (ai) aU aV
            have aD := al
            have aE := ak
            obtain rfl : aj = bc := (by injection bk)
            replace ak := (bc_ HB ak :)
            replace al := (bc_ HB al :)
            have aW := mk0 aC
            have bl := mk0 aA
            clear aC aA
            replace aU := eq_true aU
            replace aV := eq_true aV
            refine start_ (n := 19) (S := fun w' => w'.cell? ⟨ae, 0, none⟩ = some (.string ((rd_T99 l0_0 aa).f0)) ∧ w'.cell? ⟨ae, 1, none⟩ = some (.slice af ((rd_T99 l0_0 aa).f1).length ag) ∧ w'.cell? ⟨am, 0, none⟩ = some (.slice (some aj) l0_0.length c0_0) ∧ w'.cell? (aj.add (((ai)).toNat * 2)) = some (.string ((rd_T99 l0_0 (ai)).f0)) ∧ w'.cell? ⟨(aj.add (((ai)).toNat * 2)).block, (aj.add (((ai)).toNat * 2)).off + 1, none⟩ = some (.slice a7 ((rd_T99 l0_0 (ai)).f1).length a8)) (ds := []) (bt 19 0) (by kernel_rfl) rfl rfl ⟨bk_ ac 0, bk_ ac 1, bk_ ab 0, ((bc_ HB aE :)), ((bc_ HB aD :))⟩ (fun hHeld => ?_); refine with_tabW table_May.tab4 table_May.bits4 (fun HT_ HW_ => ?_)
            generalize bv.drew = bD at ab ac HB aW ak al hHeld ⊢
            refine tq5_ HT_.out HW_.out 0 13 (bt 19 1) hHeld (h := ?_)
            refine one_ (i := 1) (N := some 14) (bt 19 3) rfl rfl (one_of HT_.out (by kernel_rfl)) (by decide) (fun K hK => ?_)
            refine goes_ Try.func144 (by kernel_rfl) rfl #[.agg #[.string ((rd_T99 l0_0 aa).f0), .slice af ((rd_T99 l0_0 aa).f1).length ag]] (by rfl) rfl rfl gs_ ?_
            with_reducible refine (chain_May.calls k1 ((rd_T99 l0_0 aa).f0) _ _ ((rd_T99 l0_0 aa).f1) true _ ?side1 ?side2 a3.out).mono ?_
            (case side1 => exact cb_ ap HB)
            (case side2 => exact aq.out)
            rintro e bE ⟨rfl, hb⟩
            refine ⟨_, rfl, ?_⟩
            replace ab := mk0 (u_ ab hb)
            replace ac := mk0 (u_ ac hb)
            replace HB := mk0 (bt_ (b_ HB) hb)
            (try clear hb)
            (try clear hk)
            (try clear hi)
            refine hK.out _ _ ⟨bk_ ac 0, bk_ ac 1, bk_ ab 0, ((bc_ HB aE :)), ((bc_ HB aD :))⟩ (fun hHeld => ?_)
            clear hK K
            refine norm_ (a' := ?_) ?_ ?_
            rotate_left
            ·show Act.put _ (some 14) _ = _
             simp only [z_]
             rfl
            refine pq_ HT_.out 2 15 (bt 19 7) (h := ?_)
            refine pq_ HT_.out 3 16 (bt 19 15) (h := ?_)
            refine pq_ HT_.out 4 17 (bt 19 31) (h := ?_)
            refine pq_ HT_.out 5 18 (bt 19 63) (h := ?_)
            refine pq_ HT_.out 6 19 (bt 19 127) (h := ?_)
            refine pq_ HT_.out 7 20 (bt 19 255) (h := ?_)
            refine pq_ HT_.out 9 22 (bt 19 767) (h := ?_)
            refine pq_ HT_.out 11 24 (bt 19 2815) (h := ?_)
            refine pq_ HT_.out 12 25 (bt 19 6911) (h := ?_)
            refine tq5_ HT_.out HW_.out 8 21 (bt 19 7167) hHeld (h := ?_)
            refine tq5_ HT_.out HW_.out 10 23 (bt 19 8191) hHeld (h := ?_)
            refine pq_ HT_.out 13 26 (bt 19 16383) (h := ?_)
            refine pq_ HT_.out 14 27 (bt 19 32767) (h := ?_)
            refine tq5_ HT_.out HW_.out 15 28 (bt 19 65535) hHeld (h := ?_)
            refine pq_ HT_.out 16 29 (bt 19 131071) (h := ?_)
            refine pq_ HT_.out 17 30 (bt 19 262143) (h := ?_)
            refine pq_ HT_.out 18 31 (bt 19 524287) (h := ?_)
            refine done_ (done_of HT_.out (by kernel_rfl)) ?_
            try go_wp2
            go_meet
            case rel => exact ⟨_, (!(Op.bytesLess (((rd_T99 l0_0 (ai)).f0).toList) (((rd_T99 l0_0 aa).f0).toList))), (by first | rfl | (simp; done) | (simp only [← au] <;> (first | rfl | (simp [leq_]; done) | (simp; done))) | (simp [*]; done)), H', ⟨by have := aM.out; first | omega | exact Nat.le_refl _⟩, ⟨h_ ab⟩, ⟨h_ ac⟩, ⟨b_ HB⟩⟩
           ·rw [if_neg a6] at H
            exact absurd H (by simp)
          ·rw [if_neg a5] at H
           exact absurd H (by simp)
         ·rw [if_neg aK] at H
          have ar := decide_eq_false aK
          clear aK
          (first | rw [ar] | (simp only [i64_w, i32_w]; rw [ar]) | skip)
          have H' := mk0 H
          clear H
          try go_wp2
          have av : Fc (((w8.setCell ⟨ae, 0, none⟩ (.string ((rd_T99 l0_0 aa).f0))).setCell ⟨ae, 1, none⟩ (.slice af ((rd_T99 l0_0 aa).f1).length ag)).heap[am]? = some (.cells #[.slice (some aj) l0_0.length c0_0] 47 (0, 0))) := ⟨(fa_ (fa_ (h_ ab) ah.out) ah.out)⟩
          have aw : Fc (((w8.setCell ⟨ae, 0, none⟩ (.string ((rd_T99 l0_0 aa).f0))).setCell ⟨ae, 1, none⟩ (.slice af ((rd_T99 l0_0 aa).f1).length ag)).heap[ae]? = some (.cells #[.string ((rd_T99 l0_0 aa).f0), .slice af ((rd_T99 l0_0 aa).f1).length ag] 99 (0, 0))) := ⟨(pu_ (cs := #[.string ((rd_T99 l0_0 aa).f0), .slice none 0 0]) (pu_ (cs := #[.string (⟨#[]⟩ : ByteArray), .slice none 0 0]) (h_ ac)))⟩
          have n2_ : Fc (Below w.heap.size w ((w8.setCell ⟨ae, 0, none⟩ (.string ((rd_T99 l0_0 aa).f0))).setCell ⟨ae, 1, none⟩ (.slice af ((rd_T99 l0_0 aa).f1).length ag))) := ⟨b_ HB⟩
          (try clear ab)
          (try clear ac)
          (try clear HB)
          generalize ((w8.setCell ⟨ae, 0, none⟩ (.string ((rd_T99 l0_0 aa).f0))).setCell ⟨ae, 1, none⟩ (.slice af ((rd_T99 l0_0 aa).f1).length ag)) = bw at av aw n2_ ⊢
          have ab := av
          have ac := aw
          have HB := n2_
          clear av aw n2_
          replace ab := mk0 (bD_ ab.out)
          replace ac := mk0 (bD_ ac.out)
          replace HB := mk0 (b1_ HB.out)
          refine start_ (n := 19) (S := fun w' => w'.cell? ⟨ae, 0, none⟩ = some (.string ((rd_T99 l0_0 aa).f0)) ∧ w'.cell? ⟨ae, 1, none⟩ = some (.slice af ((rd_T99 l0_0 aa).f1).length ag)) (ds := []) (bt 19 0) (by kernel_rfl) rfl rfl ⟨bk_ ac 0, bk_ ac 1⟩ (fun hHeld => ?_); refine with_tabW table_May.tab4 table_May.bits4 (fun HT_ HW_ => ?_)
          generalize bw.drew = bF at ab ac HB hHeld ⊢
          refine tq2_ HT_.out HW_.out 0 13 (bt 19 1) hHeld (h := ?_)
          refine one_ (i := 1) (N := some 14) (bt 19 3) rfl rfl (one_of HT_.out (by kernel_rfl)) (by decide) (fun K hK => ?_)
          refine goes_ Try.func144 (by kernel_rfl) rfl #[.agg #[.string ((rd_T99 l0_0 aa).f0), .slice af ((rd_T99 l0_0 aa).f1).length ag]] (by rfl) rfl rfl gs_ ?_
          with_reducible refine (chain_May.calls k1 ((rd_T99 l0_0 aa).f0) _ _ ((rd_T99 l0_0 aa).f1) true _ ?side1 ?side2 a3.out).mono ?_
          (case side1 => exact cb_ ap HB)
          (case side2 => exact aq.out)
          rintro e bG ⟨rfl, hb⟩
          refine ⟨_, rfl, ?_⟩
          replace ab := mk0 (u_ ab hb)
          replace ac := mk0 (u_ ac hb)
          replace HB := mk0 (bt_ (b_ HB) hb)
          (try clear hb)
          (try clear hk)
          (try clear hi)
          refine hK.out _ _ ⟨bk_ ac 0, bk_ ac 1⟩ (fun hHeld => ?_)
          clear hK K
          refine norm_ (a' := ?_) ?_ ?_
          rotate_left
          ·show Act.put _ (some 14) _ = _
           simp only [z_]
           rfl
          refine pq_ HT_.out 2 15 (bt 19 7) (h := ?_)
          refine pq_ HT_.out 3 16 (bt 19 15) (h := ?_)
          refine pq_ HT_.out 4 17 (bt 19 31) (h := ?_)
          refine pq_ HT_.out 5 18 (bt 19 63) (h := ?_)
          refine pq_ HT_.out 6 19 (bt 19 127) (h := ?_)
          refine uq_ HT_.out 7 20 (bt 19 255) (h := ?_)
          refine uq_ HT_.out 8 21 (bt 19 511) (h := ?_)
          refine uq_ HT_.out 9 22 (bt 19 1023) (h := ?_)
          refine uq_ HT_.out 10 23 (bt 19 2047) (h := ?_)
          refine uq_ HT_.out 11 24 (bt 19 4095) (h := ?_)
          refine uq_ HT_.out 12 25 (bt 19 8191) (h := ?_)
          refine uq_ HT_.out 13 26 (bt 19 16383) (h := ?_)
          refine uq_ HT_.out 14 27 (bt 19 32767) (h := ?_)
          refine uq_ HT_.out 15 28 (bt 19 65535) (h := ?_)
          refine uq_ HT_.out 16 29 (bt 19 131071) (h := ?_)
          refine pq_ HT_.out 17 30 (bt 19 262143) (h := ?_)
          refine pq_ HT_.out 18 31 (bt 19 524287) (h := ?_)
          refine done_ (done_of HT_.out (by kernel_rfl)) ?_
          try go_wp2
          go_meet
          case rel => exact ⟨_, (false), sm_, H', ⟨by have := aM.out; first | omega | exact Nat.le_refl _⟩, ⟨h_ ab⟩, ⟨h_ ac⟩, ⟨b_ HB⟩⟩
        ·replace a4 := Bool.eq_false_iff.mpr a4
         subst a4
         rw [if_neg nf_] at H
         have H' := mk0 H
         clear H
         try go_wp2
         have av : Fc (((w8.setCell ⟨ae, 0, none⟩ (.string ((rd_T99 l0_0 aa).f0))).setCell ⟨ae, 1, none⟩ (.slice af ((rd_T99 l0_0 aa).f1).length ag)).heap[am]? = some (.cells #[.slice (some aj) l0_0.length c0_0] 47 (0, 0))) := ⟨(fa_ (fa_ (h_ ab) ah.out) ah.out)⟩
         have aw : Fc (((w8.setCell ⟨ae, 0, none⟩ (.string ((rd_T99 l0_0 aa).f0))).setCell ⟨ae, 1, none⟩ (.slice af ((rd_T99 l0_0 aa).f1).length ag)).heap[ae]? = some (.cells #[.string ((rd_T99 l0_0 aa).f0), .slice af ((rd_T99 l0_0 aa).f1).length ag] 99 (0, 0))) := ⟨(pu_ (cs := #[.string ((rd_T99 l0_0 aa).f0), .slice none 0 0]) (pu_ (cs := #[.string (⟨#[]⟩ : ByteArray), .slice none 0 0]) (h_ ac)))⟩
         have n2_ : Fc (Below w.heap.size w ((w8.setCell ⟨ae, 0, none⟩ (.string ((rd_T99 l0_0 aa).f0))).setCell ⟨ae, 1, none⟩ (.slice af ((rd_T99 l0_0 aa).f1).length ag))) := ⟨b_ HB⟩
         (try clear ab)
         (try clear ac)
         (try clear HB)
         generalize ((w8.setCell ⟨ae, 0, none⟩ (.string ((rd_T99 l0_0 aa).f0))).setCell ⟨ae, 1, none⟩ (.slice af ((rd_T99 l0_0 aa).f1).length ag)) = bx at av aw n2_ ⊢
         have ab := av
         have ac := aw
         have HB := n2_
         clear av aw n2_
         replace ab := mk0 (bD_ ab.out)
         replace ac := mk0 (bD_ ac.out)
         replace HB := mk0 (b1_ HB.out)
         refine start_ (n := 19) (S := fun w' => w'.cell? ⟨ae, 0, none⟩ = some (.string ((rd_T99 l0_0 aa).f0)) ∧ w'.cell? ⟨ae, 1, none⟩ = some (.slice af ((rd_T99 l0_0 aa).f1).length ag)) (ds := []) (bt 19 0) (by kernel_rfl) rfl rfl ⟨bk_ ac 0, bk_ ac 1⟩ (fun hHeld => ?_); refine with_tabW table_May.tab4 table_May.bits4 (fun HT_ HW_ => ?_)
         generalize bx.drew = bH at ab ac HB hHeld ⊢
         refine tq2_ HT_.out HW_.out 0 13 (bt 19 1) hHeld (h := ?_)
         refine one_ (i := 1) (N := some 14) (bt 19 3) rfl rfl (one_of HT_.out (by kernel_rfl)) (by decide) (fun K hK => ?_)
         refine goes_ Try.func144 (by kernel_rfl) rfl #[.agg #[.string ((rd_T99 l0_0 aa).f0), .slice af ((rd_T99 l0_0 aa).f1).length ag]] (by rfl) rfl rfl gs_ ?_
         with_reducible refine (chain_May.calls k1 ((rd_T99 l0_0 aa).f0) _ _ ((rd_T99 l0_0 aa).f1) false _ ?side1 ?side2 a3.out).mono ?_
         (case side1 => exact cb_ ap HB)
         (case side2 => exact aq.out)
         rintro e bI ⟨rfl, hb⟩
         refine ⟨_, rfl, ?_⟩
         replace ab := mk0 (u_ ab hb)
         replace ac := mk0 (u_ ac hb)
         replace HB := mk0 (bt_ (b_ HB) hb)
         (try clear hb)
         (try clear hk)
         (try clear hi)
         refine hK.out _ _ ⟨bk_ ac 0, bk_ ac 1⟩ (fun hHeld => ?_)
         clear hK K
         refine norm_ (a' := ?_) ?_ ?_
         rotate_left
         ·show Act.put _ (some 14) _ = _
          simp only [z_]
          rfl
         refine pq_ HT_.out 2 15 (bt 19 7) (h := ?_)
         refine pq_ HT_.out 3 16 (bt 19 15) (h := ?_)
         refine uq_ HT_.out 4 17 (bt 19 31) (h := ?_)
         refine uq_ HT_.out 5 18 (bt 19 63) (h := ?_)
         refine uq_ HT_.out 6 19 (bt 19 127) (h := ?_)
         refine uq_ HT_.out 7 20 (bt 19 255) (h := ?_)
         refine uq_ HT_.out 8 21 (bt 19 511) (h := ?_)
         refine uq_ HT_.out 9 22 (bt 19 1023) (h := ?_)
         refine uq_ HT_.out 10 23 (bt 19 2047) (h := ?_)
         refine uq_ HT_.out 11 24 (bt 19 4095) (h := ?_)
         refine uq_ HT_.out 12 25 (bt 19 8191) (h := ?_)
         refine uq_ HT_.out 13 26 (bt 19 16383) (h := ?_)
         refine uq_ HT_.out 14 27 (bt 19 32767) (h := ?_)
         refine uq_ HT_.out 15 28 (bt 19 65535) (h := ?_)
         refine uq_ HT_.out 16 29 (bt 19 131071) (h := ?_)
         refine uq_ HT_.out 17 30 (bt 19 262143) (h := ?_)
         refine pq_ HT_.out 18 31 (bt 19 524287) (h := ?_)
         refine done_ (done_of HT_.out (by kernel_rfl)) ?_
         try go_wp2
         go_meet
         case rel => exact ⟨_, (true), sm_, H', ⟨by have := aM.out; first | omega | exact Nat.le_refl _⟩, ⟨h_ ab⟩, ⟨h_ ac⟩, ⟨b_ HB⟩⟩
       case rest =>
        clear HC7
        try clear c4
        try clear ba
        try clear c5
        try clear bd
        try clear c6
        try clear be
        try clear aN
        try clear aP
        try clear aQ
        try clear aT
        try clear an
        try clear ao
        try clear aI
        try clear aJ
        obtain ⟨kq, ax, rfl, HA, bm, ab, ac, HB⟩ := hcut
        cases kq with
        | zero => exact absurd HA.out (by simp [table_May.j1])
        | succ bz =>
         have H := HA.out
         clear HA
         simp only [table_May.j1] at H
         as_aux_lemma =>
          by_cases a9 : ax = true
          ·subst a9
           rw [if_pos rfl] at H
           obtain rfl := Option.some.inj H
           go_wp2
           go_ret
           exact ⟨sa_, b_ HB⟩
          ·replace a9 := Bool.eq_false_iff.mpr a9
           subst a9
           rw [if_neg nf_] at H
           have H' := mk0 H
           clear H
           go_wp2
           go_roundg bz
           case measure => have := aM.out; have := bm.out; omega
           case rel => exact ⟨(wrap64 (aa + 1)), sm_, H', ⟨by have := aM.out; have := bm.out; omega⟩, ⟨h_ ab⟩, ⟨b_ HB⟩⟩
      ·rw [if_neg c6] at H
       exact absurd H (by simp)
     ·rw [if_neg c5] at H
      exact absurd H (by simp)
    ·rw [if_neg c4] at H
     have ba := decide_eq_false c4
     clear c4
     replace H := ob_ H
     obtain ⟨bn, bA, H⟩ := H
     try dsimp only at H
     obtain rfl := Option.some.inj H
     obtain ⟨bo, bp⟩ := c1_ ab
     go_wp2_with (first | ((with_reducible refine gate_callee (f := 122) rfl ?_); refine gL_ (some 34) Try.func122 #[.agg #[.slice A0_0 l0_0.length c0_0]] (h := ?_); (with_reducible refine (table_Rooms.calls k1 _ _ l0_0 bn _ ?side1 ?side2 bA.out).mono ?_); (case side1 => exact cb_ aG HB); (case side2 => exact bb.out); rintro e bJ ⟨rfl, hb⟩; refine ⟨_, rfl, ?_⟩; replace ab := mk0 (u_ ab hb); replace HB := mk0 (bt_ (b_ HB) hb); (try clear hb)))
     go_ret
     exact ⟨sa_, b_ HB⟩
/-! ### api_Version_194: function 194 (by hand) -/
def api_Version_194.f (l0 : List (S72)) : Option (List (S72)) := if l0.length < 4398046511104 then some l0 else none
theorem kd_empty_72 (w : World) : k72.R 72 (w.alloc (.cells #[] 72)) w.heap.size (fun _ => True) (.slice (some ⟨w.heap.size, 0, none⟩) 0 0) [] := by
  refine ⟨fun _ _ => trivial, [], ⟨by simp, .inr ⟨w.heap.size, 0, #[], rfl, Nat.le_refl _, heap_alloc_new w _, Nat.le_refl _, by decide, by simp, by simp⟩⟩, ?_⟩
  exact Reps.none _ _
set_option maxHeartbeats 800000 in
set_option maxRecDepth 100000 in
theorem api_Version_194.calls (A0 : Option Addr) (c0 : Nat) (l0 : List (S72)) (r : List (S72)) (w : World) (hr0 : Kd.C k72 w A0 l0.length l0) (hc0 : l0.length ≤ c0) (h : api_Version_194.f l0 = some r) :
    Calls Try.prog 194 #[.slice A0 l0.length c0] w fun e w' => ∃ v0_ : Value, e = .returned (v0_) ∧ Kd.R k72 72 w' w.heap.size (fun _ => True) v0_ r ∧ Below w.heap.size w w' := by
  have HC0 := Aside0.mk hc0
  clear hc0
  unfold api_Version_194.f at h
  split at h
  · obtain rfl := Option.some.inj h
    rename_i hlt
    clear h
    rcases A0 with _ | ad
    · have hl : l0 = [] := by
        rcases Nat.eq_zero_or_pos l0.length with h0 | h0
        · exact List.eq_nil_of_length_eq_zero h0
        · obtain ⟨ad, e, _⟩ := hr0.2.2 h0
          cases e
      subst hl
      have HN := fun w : World => Lib.run_eql_slice_nil (P := Try.prog) w 97 72 none 0 c0 0 0 Try.underlying97
      go_enter Try.func194, Try.ntmps194
      go_wp2
      go_ret
      exact ⟨_, rfl, Kd.R_nil _ _ _ _ _, Below.refl _ _⟩
    · have HN := fun w : World => Lib.run_eql_slice_nil (P := Try.prog) w 97 72 (some ad) l0.length c0 0 0 Try.underlying97
      have HR0 := Aside0.mk hr0
      clear hr0
      have HO := Aside0.mk (kd_empty_72 w)
      go_enter Try.func194, Try.ntmps194
      go_wp2_with (first | ((with_reducible refine gate_builtin (b := .append) (xs := #[.tmp 5, .tmp 6]) rfl ?_); at_builtin; refine Kd.R_append_rows k72 (w0 := w) w.heap.size rfl (.tmp 5) (.tmp 6) 97 72 (.agg #[(.int .i64 0), (.string ⟨#[]⟩), (.bool false)]) 32 rfl Try.underlying97 info72 rfl (by decide) (by omega) (.slice (some ⟨w.heap.size, 0, none⟩) 0 0) ([] : List (S72)) l0 _ _ _ (fun _ => True) (fun _ => False) rfl rfl ?aO ?aR (fun _ _ h => h) (fun _ h => h.elim) ?aF ?aB ?aS ?aL ?_; (case aR => exact (Kd.C_below HR0.out (below_alloc (Below.refl _ _) _))); (case aB => exact (below_alloc (Below.refl _ _) _)); (case aF => exact (fun _ _ => trivial)); (case aO => exact HO.out); (case aS => simp); (case aL => simp; omega); intro v1 w1 ho hb hg hat; clear hg hat))
      go_ret
      exact ⟨_, rfl, ho, hb⟩
  · cases h
/-! ### chain_Own: function 167 -/
def chain_Own.f (a0_0 : ByteArray) (l0_1 : List (S72)) : Option (ByteArray × (List (S72))) := (api_Version_194.f l0_1).bind fun t196 => (some (a0_0, t196))
theorem chain_Own.calls (a0_0 : ByteArray) (A0_1 : Option Addr) (c0_1 : Nat) (l0_1 : List (S72)) (r1 : ByteArray) (r2 : List (S72)) (w : World) (hr0_1 : Kd.C k72 w A0_1 l0_1.length l0_1) (hc0_1 : l0_1.length ≤ c0_1) (h : chain_Own.f a0_0 l0_1 = some (r1, r2)) :
  Calls Try.prog 167 #[.agg #[.string a0_0, .slice A0_1 l0_1.length c0_1]] w fun e w' => ∃ v1_ : Value, e = .returned (.agg #[.string r1, v1_]) ∧ Kd.R k72 72 w' w.heap.size (fun _ => True) v1_ r2 ∧ Below w.heap.size w w' := by
 have hu99 := Try.underlying99
 have aj := mk0 hr0_1
 have ak := mk0 hc0_1
 clear hr0_1 hc0_1
 have HB := mk0 (Below.refl w.heap.size w)
 have H : ((api_Version_194.f l0_1).bind fun ae => (some (a0_0, ae))) = some (r1, r2) := h
 clear h
 replace H := ob_ H
 obtain ⟨ae, A2, H⟩ := H
 try dsimp only at H
 simp only [Option.some.injEq, Prod.mk.injEq] at H
 obtain ⟨rfl, rfl⟩ := H
 go_enter Try.func167, Try.ntmps167
 go_wp2_with (first | ((with_reducible refine gate_dst (N := 1) rfl ?_); refine bx_ (N := 1) (cs := #[.string a0_0, .slice A0_1 l0_1.length c0_1]) (t := 99) (h := ?_); intro al hg w3 hbox hb; have n2_ := mk0 (gz_ HB hg); have ai := mk0 (gz_ HB hg); replace HB := mk0 (bt_ (b_ HB) hb); have aa := mk0 (hbox); have aI := ai; clear n2_ ai; clear hb hbox hg) | ((with_reducible refine gate_dst (N := 2) rfl ?_); refine bx_ (N := 2) (cs := #[.string (⟨#[]⟩ : ByteArray), .slice none 0 0]) (t := 99) (h := ?_); intro af hg w4 hbox hb; have ai := mk0 (gz_ HB hg); have ao := mk0 (gz_ HB hg); have ap := mk0 (ne1_ aa hg); have aq := mk0 (ne2_ aa hg); replace aa := mk0 (u_ aa hb); replace HB := mk0 (bt_ (b_ HB) hb); have ab := mk0 (hbox); have aJ := ao; have ag := ap; have ac := aq; clear ai ao ap aq hb hbox hg; have aM := ag.out; have aN := ac.out; obtain ⟨ay, az, aA, aC⟩ := c2_ aa) | ((with_reducible refine gate_callee (f := 194) rfl ?_); refine gL_ (some 5) Try.func194 #[.slice A0_1 l0_1.length c0_1] (h := ?_); (with_reducible refine (api_Version_194.calls _ _ l0_1 ae _ ?side1 ?side2 A2.out).mono ?_); (case side1 => exact cb_ aj HB); (case side2 => exact ak.out); rintro e w7 ⟨aP, rfl, ho0, hb⟩; refine ⟨_, rfl, ?_⟩; have ar := mk0 (Kd.R_lower ho0 (bz_ (b_ HB))); replace aa := mk0 (u_ aa hb); replace ab := mk0 (blk_below (g := af) (o := .cells #[.string (⟨#[]⟩ : ByteArray), .slice none 0 0] 99 (0, 0)) (h_ ab) hb); replace HB := mk0 (bt_ (b_ HB) hb); have ah := ar; clear ar; (try clear hb); (try clear ho0); obtain ⟨am, an, aK⟩ := Kd.R_slice ah.out; subst aK; obtain ⟨aD, aE, aG, aH⟩ := c2_ aa; obtain ⟨au, av, aw, ax⟩ := c2_ ab))
 refine bodyPost_ret (results_cell_row rfl _ _ af 99 #[.string a0_0, .slice am ae.length an] (0, 0) _ rfl (pu_ (cs := #[.string a0_0, .slice none 0 0]) (pu_ (cs := #[.string (⟨#[]⟩ : ByteArray), .slice none 0 0]) (fa_ (h_ ab) ac.out))) Try.underlying99 rfl (by kernel_rfl)) rfl ?_
 exact ⟨_, sa_, by (with_reducible repeat (first | apply Ra_ | apply Rn_ | apply Rd_)); exact Kd.R_mono (Kd.R_far (p := ⟨af, 1, none⟩) (Kd.R_far (p := ⟨af, 0, none⟩) (Kd.R_far (p := ⟨al, 1, none⟩) (Kd.R_types (Kd.R_types ah.out aa.out (by decide)) ab.out (by decide)) (fun _ hk => hk.1.2) (.slice am ae.length an)) (fun _ hk => hk.2) (.string a0_0)) (fun _ hk => hk.2) (.slice am ae.length an)) (fun _ hk => trivial), b_ HB⟩
-- NOT PRINTED: function 199 (api_Version_199)
/-! ### chain_place: function 178 (by hand) -/
def idxRes_v {α : Type} (pred : α → Bool) (l : List α) : Int := if l.findIdx pred < l.length then (l.findIdx pred : Int) else -1
set_option maxHeartbeats 800000 in
set_option maxRecDepth 100000 in
theorem idx_v.calls_ (pred : S72 → Bool) (F : Nat) (cap : Value) (A0 : Option Addr) (c0 : Nat) (l0 : List S72) (w : World) (hr0 : Kd.C k72 w A0 l0.length l0) (hc0 : l0.length ≤ c0)
    (eg : ∀ args w, (callFunc F args).run Try.prog w = .ok (.enter F args) w)
    (HP : ∀ (x : S72) (W : World), Below w.heap.size w W → Calls Try.prog F #[.agg #[.int .i64 x.f0, .string x.f1, .bool x.f2], cap] W fun e W' => e = .returned (.bool (pred x)) ∧ Below w.heap.size w W') :
    Calls Try.prog 199 #[.slice A0 l0.length c0, .func (Fn.func F) #[] #[cap]] w fun e w' => e = .returned (.int .i64 (idxRes_v pred l0)) ∧ Below w.heap.size w w' := by
  have HR0 := Aside0.mk hr0
  have HC0 := Aside0.mk hc0
  have hlen := hr0.2.1
  clear hr0 hc0
  have HPA := Aside0.mk HP
  clear HP
  have HB := Aside0.mk (Below.refl w.heap.size w)
  go_enter Try.func199, Try.ntmps199
  go_wp2
  go_loopg [5, 8] l0.length (fun kq _ v8 w' => ∃ (i : Nat), v8 = .int .i64 i ∧ Aside0 (kq + i = l0.length) ∧ Aside0 (∀ j (h2 : j < l0.length) (h : j < i), pred (l0[j]) = false) ∧ Aside0 (Below w.heap.size w w'))
  case atStart => exact ⟨0, rfl, ⟨by omega⟩, ⟨fun j _ h => by omega⟩, HB⟩
  case round =>
    clear HB
    obtain ⟨i, rfl, HK, HN, HB⟩ := hrel
    by_cases hi : i < l0.length
    · have p200 : (0:Int) ≤ (i : Int) := by omega
      have q200 : (i:Int) < (l0.length : Int) := by omega
      obtain ⟨ad200, e200, hx200_0, hx200_1, hx200_2⟩ := at_T72 HR0.out (i:Int) p200 q200
      cases e200
      replace hx200_0 := (HB.out.cell (World.block_lt_of_cell? w _ hx200_0)).trans hx200_0
      replace hx200_1 := (HB.out.cell (World.block_lt_of_cell? w _ hx200_1)).trans hx200_1
      replace hx200_2 := (HB.out.cell (World.block_lt_of_cell? w _ hx200_2)).trans hx200_2
      simp only [Int.toNat_natCast] at hx200_0 hx200_1 hx200_2
      have hcall := HPA.out (rd_T72 l0 i) wr HB.out
      have hrd : rd_T72 l0 i = l0[i] := by simp [rd_T72, hi]
      have HRD := Aside0.mk hrd
      clear hrd
      cases hq : pred (rd_T72 l0 i) with
      | true =>
        rw [hq] at hcall
        have HQ := Aside0.mk hq
        clear hq
        go_wp2_with ((with_reducible refine hcall.mono ?_); rintro e w' ⟨rfl, hb'⟩)
        go_ret
        have e1 : l0.findIdx pred = i := (List.findIdx_eq hi).2 ⟨by rw [← HRD.out]; exact HQ.out, fun j hj => HN.out j (by omega) hj⟩
        exact ⟨by unfold idxRes_v; rw [e1, if_pos hi]; rfl, hb'⟩
      | false =>
        rw [hq] at hcall
        have HQ := Aside0.mk hq
        clear hq
        go_wp2_with ((with_reducible refine hcall.mono ?_); rintro e w' ⟨rfl, hb'⟩)
        go_roundg (gk - 1)
        case measure => have := HK.out; omega
        case rel =>
          refine ⟨i + 1, by go_num, ⟨by have := HK.out; omega⟩, ⟨fun j h2 h => ?_⟩, ⟨hb'⟩⟩
          rcases Nat.lt_or_ge j i with hj | hj
          · exact HN.out j h2 hj
          · obtain rfl : j = i := by omega
            rw [← HRD.out]; exact HQ.out
    · have hltz : ¬ (i : Int) < (l0.length : Int) := by omega
      go_wp2
      go_ret
      have hil : i = l0.length := by have := HK.out; omega
      have e1 : l0.findIdx pred = l0.length := List.findIdx_eq_length.2 (fun x hx => by
        obtain ⟨j, hj, rfl⟩ := List.mem_iff_getElem.1 hx
        exact HN.out j hj (by omega))
      exact ⟨by unfold idxRes_v; rw [e1, if_neg (Nat.lt_irrefl _)]; rfl, HB.out⟩
set_option maxHeartbeats 400000 in
theorem chain_place.clo (n : Int) (B : Nat) (w : World) (hB : B < w.heap.size) (hcell : w.cell? ⟨B, 0, none⟩ = some (.int .i64 n)) (x : S72) (W : World) (hb : Below w.heap.size w W) :
    Calls Try.prog 200 #[.agg #[.int .i64 x.f0, .string x.f1, .bool x.f2], .pointer (some ⟨B, 0, none⟩)] W fun e W' => e = .returned (.bool (decide (x.f0 ≤ n))) ∧ Below w.heap.size w W' := by
  have hc : W.cell? ⟨B, 0, none⟩ = some (.int .i64 n) := (hb.cell (p := ⟨B, 0, none⟩) hB).trans hcell
  have hBW : B < W.heap.size := Nat.lt_of_lt_of_le hB hb.size
  have hne : B ≠ W.heap.size := by omega
  go_enter Try.func200, Try.ntmps200
  go_wp2
  all_goals (go_ret; exact ⟨by simp_all, hb.alloc hb.size _⟩)
def chain_place.f (a0_0 : ByteArray) (l0_1 : List S72) (a1 : Int) : Option Int := some (l0_1.findIdx (fun v => decide (v.f0 ≤ a1)) : Int)
set_option maxHeartbeats 800000 in
set_option maxRecDepth 100000 in
theorem chain_place.calls (a0_0 : ByteArray) (A0_1 : Option Addr) (c0_1 : Nat) (l0_1 : List S72) (a1 : Int) (r : Int) (w : World) (hr0_1 : Kd.C k72 w A0_1 l0_1.length l0_1) (hc0_1 : l0_1.length ≤ c0_1) (h : chain_place.f a0_0 l0_1 a1 = some r) :
    Calls Try.prog 178 #[.agg #[.string a0_0, .slice A0_1 l0_1.length c0_1], .int .i64 a1] w fun e w' => e = .returned (.int .i64 r) ∧ Below w.heap.size w w' := by
  have hu31 := Try.underlying99
  have eg : ∀ args w, (callFunc 200 args).run Try.prog w = .ok (.enter 200 args) w := enters_of Try.func200 (by kernel_rfl) rfl
  have hmf : ∀ (fn : Fn) (first cap : Array Value) (w : World), (Instr.makeFunc fn first cap).run Try.prog w = .ok (.func fn first cap) w := fun _ _ _ _ => rfl
  have hw2 : Below w.heap.size w ((w.alloc (.cells #[.string a0_0, .slice A0_1 l0_1.length c0_1] 99)).alloc (.cells #[.int .i64 a1] 3)) := below_alloc (below_alloc (Below.refl _ _) _) _
  have hcon := idx_v.calls_ (fun v => decide (v.f0 ≤ a1)) 200 (.pointer (some ⟨w.heap.size + 1, 0, none⟩)) A0_1 c0_1 l0_1 ((w.alloc (.cells #[.string a0_0, .slice A0_1 l0_1.length c0_1] 99)).alloc (.cells #[.int .i64 a1] 3))
    (Kd.C_below hr0_1 hw2) hc0_1 eg (chain_place.clo a1 (w.heap.size + 1) _ (by simp) (by rw [World.cell?_alloc_at _ _ _ _ (by simp)]; rfl))
  have HW2 := Aside0.mk hw2
  have hlen := hr0_1.2.1
  clear hr0_1 hc0_1 hw2 eg
  have hr : ((l0_1.findIdx (fun v => decide (v.f0 ≤ a1)) : Nat) : Int) = r := Option.some.inj h
  clear h
  have hle : l0_1.findIdx (fun v => decide (v.f0 ≤ a1)) ≤ l0_1.length := List.findIdx_le_length
  by_cases hlt : l0_1.findIdx (fun v => decide (v.f0 ≤ a1)) < l0_1.length
  · have e1 : idxRes_v (fun v : S72 => decide (v.f0 ≤ a1)) l0_1 = r := by unfold idxRes_v; rw [if_pos hlt]; exact hr
    rw [e1] at hcon
    have h0 : ¬ r < 0 := by omega
    clear hr hlt hle e1
    go_enter Try.func178, Try.ntmps178
    go_wp2_with ((with_reducible refine hcon.mono ?_); rintro e w' ⟨rfl, hb'⟩)
    go_ret
    exact ⟨rfl, HW2.out.trans (hb'.mono (by simp; omega))⟩
  · have e1 : idxRes_v (fun v : S72 => decide (v.f0 ≤ a1)) l0_1 = -1 := by unfold idxRes_v; rw [if_neg hlt]
    rw [e1] at hcon
    have hr2 := Aside0.mk (show r = l0_1.length by omega)
    clear hr hlt hle e1
    have hcb : ∀ w', Below ((w.alloc (.cells #[.string a0_0, .slice A0_1 l0_1.length c0_1] 99)).alloc (.cells #[.int .i64 a1] 3)).heap.size ((w.alloc (.cells #[.string a0_0, .slice A0_1 l0_1.length c0_1] 99)).alloc (.cells #[.int .i64 a1] 3)) w' → w'.cell? ⟨w.heap.size, 1, none⟩ = some (.slice A0_1 l0_1.length c0_1) := fun w' hb => by
      rw [hb.cell (p := ⟨w.heap.size, 1, none⟩) (by simp; omega), World.cell?_alloc_past _ _ _ (by simp), World.cell?_alloc_at _ _ _ _ rfl]; rfl
    have HCB := Aside0.mk hcb
    clear hcb
    go_enter Try.func178, Try.ntmps178
    go_wp2_with ((with_reducible refine hcon.mono ?_); rintro e w' ⟨rfl, hb'⟩; have hc1 := HCB.out _ hb')
    go_ret
    exact ⟨by rw [hr2.out]; rfl, HW2.out.trans (hb'.mono (by simp; omega))⟩
/-! ### chain_Left: function 165 -/
def chain_Left.j0 : Nat → ByteArray → List (S72) → Option (ByteArray × (List (S72)))
 | 0, _, _ => none
 | k + 1, x200000, x200001 => if (x200001.length : Int) = 0 then (some ((⟨#[]⟩ : ByteArray), ([] : List (S72)))) else (some (x200000, x200001))
def chain_Left.f (k : Nat) (a0_0 : ByteArray) (l0_1 : List (S72)) (a1 : Int) : Option (ByteArray × (List (S72))) := (chain_Own.f a0_0 l0_1).bind fun bt201 => ((chain_place.f bt201.1 bt201.2 a1).bind fun t205 => (if t205 < (bt201.2.length : Int) then (if 0 ≤ t205 then (if ((rd_T72 bt201.2 t205).f2 = true) then (if t205 ≤ (bt201.2.length : Int) then (chain_Left.j0 k bt201.1 (bt201.2.take (t205 : Int).toNat)) else (none)) else (if 0 ≤ (wrap64 (t205 + 1)) then (if (wrap64 (t205 + 1)) ≤ (bt201.2.length : Int) then (chain_Left.j0 k bt201.1 (bt201.2.take ((wrap64 (t205 + 1)) : Int).toNat)) else (none)) else (none))) else (none)) else (chain_Left.j0 k bt201.1 bt201.2)))
theorem chain_Left.mono_l : ∀ k, (∀ y0 y1, LeO (chain_Left.j0 k y0 y1) (chain_Left.j0 (k + 1) y0 y1))
 | 0 => fun _ _ r h => by simp [chain_Left.j0] at h
 | k + 1 => by
  have ih0 := chain_Left.mono_l k
  all_goals (intros; first | unfold chain_Left.j0)
  all_goals (repeat' first | (with_reducible exact ih0 ..) | (with_reducible exact LeO.refl _) | (with_reducible exact LeO.none _) | (with_reducible refine LeO.ite ?_ ?_) | (with_reducible refine LeO.bind ?_ (fun _ => ?_)) | exact LeO.none _ | refine LeO.ite ?_ ?_ | refine LeO.bind ?_ (fun _ => ?_))
theorem chain_Left.mono : ∀ a0 a1 a2 k, LeO (chain_Left.f k a0 a1 a2) (chain_Left.f (k + 1) a0 a1 a2) := by
 intro a0 a1 a2 k
 have ih0 := chain_Left.mono_l k
 unfold chain_Left.f
 repeat' first | (with_reducible exact ih0 ..) | (with_reducible exact LeO.refl _) | (with_reducible exact LeO.none _) | (with_reducible refine LeO.ite ?_ ?_) | (with_reducible refine LeO.bind ?_ (fun _ => ?_)) | exact LeO.none _ | refine LeO.ite ?_ ?_ | refine LeO.bind ?_ (fun _ => ?_)
theorem chain_Left.calls (k : Nat) (a0_0 : ByteArray) (A0_1 : Option Addr) (c0_1 : Nat) (l0_1 : List (S72)) (a1 : Int) (r1 : ByteArray) (r2 : List (S72)) (w : World) (hr0_1 : Kd.C k72 w A0_1 l0_1.length l0_1) (hc0_1 : l0_1.length ≤ c0_1) (h : chain_Left.f k a0_0 l0_1 a1 = some (r1, r2)) :
  Calls Try.prog 165 #[.agg #[.string a0_0, .slice A0_1 l0_1.length c0_1], .int .i64 a1] w fun e w' => ∃ v1_ : Value, e = .returned (.agg #[.string r1, v1_]) ∧ Kd.R k72 72 w' w.heap.size (fun _ => True) v1_ r2 ∧ Below w.heap.size w w' := by
 have hu99 := Try.underlying99
 have bi := mk0 hr0_1
 have bj := mk0 hc0_1
 clear hr0_1 hc0_1
 have HB := mk0 (Below.refl w.heap.size w)
 have H : ((chain_Own.f a0_0 l0_1).bind fun bt201 => ((chain_place.f bt201.1 bt201.2 a1).bind fun aa => (if aa < (bt201.2.length : Int) then (if 0 ≤ aa then (if ((rd_T72 bt201.2 aa).f2 = true) then (if aa ≤ (bt201.2.length : Int) then (chain_Left.j0 k bt201.1 (bt201.2.take (aa : Int).toNat)) else (none)) else (if 0 ≤ (wrap64 (aa + 1)) then (if (wrap64 (aa + 1)) ≤ (bt201.2.length : Int) then (chain_Left.j0 k bt201.1 (bt201.2.take ((wrap64 (aa + 1)) : Int).toNat)) else (none)) else (none))) else (none)) else (chain_Left.j0 k bt201.1 bt201.2)))) = some (r1, r2) := h
 clear h
 replace H := ob_ H
 obtain ⟨⟨ah, ac⟩, A3, H⟩ := H
 try dsimp only at H
 replace H := ob_ H
 obtain ⟨aa, A4, H⟩ := H
 try dsimp only at H
 have HC5 := mk0 H
 clear H
 go_enter Try.func165, Try.ntmps165
 go_upto_if 15 with (first | ((with_reducible refine gate_dst (N := 2) rfl ?_); refine bx_ (N := 2) (cs := #[.string a0_0, .slice A0_1 l0_1.length c0_1]) (t := 99) (h := ?_); intro am hg w6 hbox hb; have n2_ := mk0 (gz_ HB hg); have a6 := mk0 (gz_ HB hg); replace HB := mk0 (bt_ (b_ HB) hb); have ab := mk0 (hbox); have bW := a6; clear n2_ a6; clear hb hbox hg) | ((with_reducible refine gate_dst (N := 4) rfl ?_); refine bx_ (N := 4) (cs := #[.string (⟨#[]⟩ : ByteArray), .slice none 0 0]) (t := 99) (h := ?_); intro ao hg w7 hbox hb; have a6 := mk0 (gz_ HB hg); have bq := mk0 (gz_ HB hg); have br := mk0 (ne1_ ab hg); have bs := mk0 (ne2_ ab hg); replace ab := mk0 (u_ ab hb); replace HB := mk0 (bt_ (b_ HB) hb); have ai := mk0 (hbox); have bX := bq; have aj := br; have ae := bs; clear a6 bq br bs hb hbox hg; have ce := aj.out; have cf := ae.out; obtain ⟨a7, a8, a9, ba⟩ := c2_ ab) | ((with_reducible refine gate_callee (f := 167) rfl ?_); refine gL_ (some 7) Try.func167 #[.agg #[.string a0_0, .slice A0_1 l0_1.length c0_1]] (h := ?_); (with_reducible refine (chain_Own.calls a0_0 _ _ l0_1 ah ac _ ?side1 ?side2 A3.out).mono ?_); (case side1 => exact cb_ bi HB); (case side2 => exact bj.out); rintro e cj ⟨cg, rfl, ho0, hb⟩; refine ⟨_, rfl, ?_⟩; have aI := mk0 (Kd.R_lower ho0 (bz_ (b_ HB))); replace ab := mk0 (u_ ab hb); replace ai := mk0 (blk_below (g := ao) (o := .cells #[.string (⟨#[]⟩ : ByteArray), .slice none 0 0] 99 (0, 0)) (h_ ai) hb); replace HB := mk0 (bt_ (b_ HB) hb); have af := aI; clear aI; (try clear hb); (try clear ho0); obtain ⟨aJ, aK, aM, aN⟩ := c2_ ab; obtain ⟨az, ak, bu⟩ := Kd.R_slice af.out; subst bu) | ((with_reducible refine gate_callee (f := 178) rfl ?_); refine gL_ (some 10) Try.func178 #[.agg #[.string ah, .slice az ac.length ak], .int .i64 a1] (h := ?_); (with_reducible refine (chain_place.calls ah _ _ ac a1 aa _ ?side1 ?side2 A4.out).mono ?_); (case side1 => refine (Kd.R_reads' (e := 72) (base := w.heap.size) (ok := fun k_ => True) (n := ac.length) (c := ak) ?_).2.2; exact (r2_ (Kd.R_mono (Kd.R_far (p := ⟨am, 1, none⟩) (Kd.R_far (p := ⟨am, 0, none⟩) (Kd.R_types af.out ab.out (by decide)) (fun _ hk => hk.2) (.string ah)) (fun _ hk => hk.2) (.slice az ac.length ak)) (fun _ h_ => h_.1)))); (case side2 => exact (Kd.R_reads' af.out).2.1); rintro e ck ⟨rfl, hb⟩; refine ⟨_, rfl, ?_⟩; have aI := mk0 (Kd.R_below (r2_ (Kd.R_mono (Kd.R_far (p := ⟨am, 1, none⟩) (Kd.R_far (p := ⟨am, 0, none⟩) (Kd.R_types af.out ab.out (by decide)) (fun _ hk => hk.2) (.string ah)) (fun _ hk => hk.2) (.slice az ac.length ak)) (fun _ h_ => h_.1))) hb); replace ab := mk0 (blk_below (g := am) (o := .cells #[.string ah, .slice az ac.length ak] 99 (0, 0)) (pu_ (cs := #[.string ah, .slice A0_1 l0_1.length c0_1]) (pu_ (cs := #[.string a0_0, .slice A0_1 l0_1.length c0_1]) (h_ ab))) hb); replace ai := mk0 (blk_below (g := ao) (o := .cells #[.string (⟨#[]⟩ : ByteArray), .slice none 0 0] 99 (0, 0)) (fa_ (fa_ (h_ ai) ae.out) ae.out) hb); replace HB := mk0 (bt_ (b_ HB) hb); clear af; have af := aI; clear aI; (try clear hb); obtain ⟨aP, aQ, aT, aU⟩ := c2_ ab))
 (try simp only [Act.put, List.setIfInBounds_toArray, List.set_cons_zero, List.set_cons_succ])
 go_cut [] (fun wc => ∃ (kq : Nat) (ag : List (S72)) (aq : Value), Fc (chain_Left.j0 kq ah ag = some (r1, r2)) ∧ Fc (kq ≤ k) ∧ Fc (Kd.R k72 72 wc w.heap.size (fun _ => True) aq ag) ∧ Fc (wc.heap[am]? = some (.cells #[.string ah, aq] 99 (0, 0))) ∧ Fc (wc.heap[ao]? = some (.cells #[.string (⟨#[]⟩ : ByteArray), (.slice none 0 0)] 99 (0, 0))) ∧ Fc (Below w.heap.size w wc))
 case first =>
  have H := HC5.out
  clear HC5
  by_cases aH : aa < (ac.length : Int)
  ·rw [if_pos aH] at H
   have ar := decide_eq_true aH
   clear aH
   (first | rw [ar] | (simp only [i64_w, i32_w]; rw [ar]) | skip)
   by_cases bb : 0 ≤ aa
   ·rw [if_pos bb] at H
    have bY := decide_eq_true bb
    clear bb
    obtain ⟨bd, aE⟩ : ∃ b_ : Bool, b_ = ((rd_T72 ac aa).f2) := ⟨_, rfl⟩
    replace H : (if (bd = true) then (if aa ≤ (ac.length : Int) then (chain_Left.j0 k ah (ac.take (aa : Int).toNat)) else (none)) else (if 0 ≤ (wrap64 (aa + 1)) then (if (wrap64 (aa + 1)) ≤ (ac.length : Int) then (chain_Left.j0 k ah (ac.take ((wrap64 (aa + 1)) : Int).toNat)) else (none)) else (none))) = some (r1, r2) := by rw [← aE] at H; exact H
    have Nbq17 := mk0 aE
    clear aE
    by_cases bc : (bd = true)
    ·subst bc
     rw [if_pos rfl] at H
     by_cases aV : aa ≤ (ac.length : Int)
     ·rw [if_pos aV] at H
      have bZ := eq_true aV
      have b0 := decide_eq_true aV
      clear aV
      obtain ⟨aA, au⟩ : ∃ y_ : List (S72), y_ = (ac.take (aa : Int).toNat) := ⟨_, rfl⟩
      replace H : (chain_Left.j0 k ah aA) = some (r1, r2) := by first | (rw [au]; with_reducible exact H) | (have H2_ := (Option.bind_some _ _).symm.trans H; rw [au]; with_reducible exact H2_) | (have H2_ := (Option.bind_some _ _).symm.trans H; with_reducible exact H2_) | with_reducible exact H | (rw [au]; exact H) | exact H
      have aW := mk0 au
      clear au
      have H' := mk0 H
      clear H
      have b1 := aj.out
      have b2 := ae.out
      obtain ⟨bv, bw, bx, bz⟩ := c2_ ab
      have av : 0 ≤ (aa : Int) := od_
      have aw : aa < (ac.length : Int) := od_
      obtain ⟨al, aX, aY, aZ, ax⟩ := at_T72 (Kd.R_reads' af.out).2.2 aa av aw
      (try rw [← Nbq17.out] at ax)
      cases aX
      replace av := eq_true av
      replace aw := eq_true aw
      have bk : (aa : Int) ≤ ((ac.length : Int) : Int) := od_
      obtain ⟨i022, hi022, _, hsz22, _⟩ := info_parts info72
      have hcut22 := cut_to (P := Try.prog) 97 72 .i64 Try.underlying97 hi022 (some al) ac.length ak aa od_ bk (Kd.R_reads' af.out).2.1
      have hr22 := Kd.R_take (m := (aa : Int).toNat) af.out (by omega)
      have be : aA.length = (aa : Int).toNat := (by rw [aW.out, List.length_take]; omega)
      rw [← aW.out] at hr22
      rw [← be] at hr22 hcut22
      clear be hi022 hsz22 af
      have bl := mk0 hr22
      clear hr22
      replace bk := eq_true bk
      go_wp2
      go_meet
      case rel => exact ⟨_, (aA), (.slice (some al) aA.length ak), H', ⟨by first | omega | exact Nat.le_refl _⟩, ⟨by (with_reducible repeat (first | apply Ra_ | apply Rn_ | apply Rd_)); exact Kd.R_mono (Kd.R_far (p := ⟨am, 1, none⟩) (Kd.R_types bl.out ab.out (by decide)) (fun _ hk => hk.2) (.slice (some al) aA.length ak)) (fun _ hk => trivial)⟩, ⟨(pu_ (cs := #[.string ah, .slice (some al) ac.length ak]) (h_ ab))⟩, ⟨(fa_ (h_ ai) ae.out)⟩, ⟨b_ HB⟩⟩
     ·rw [if_neg aV] at H
      exact absurd H (by simp)
    ·replace bc := Bool.eq_false_iff.mpr bc
     subst bc
     rw [if_neg nf_] at H
     obtain ⟨an, aG⟩ : ∃ j_ : Int, (wrap64 (aa + 1)) = j_ := ⟨_, rfl⟩
     replace H : (if 0 ≤ (an) then (if (an) ≤ (ac.length : Int) then (chain_Left.j0 k ah (ac.take ((an) : Int).toNat)) else (none)) else (none)) = some (r1, r2) := by first | (rw [aG] at H; exact H) | (simp only [aG] at H ⊢; exact H)
     have hji23w : (IntKind.i64.wrap (aa + 1)) = an := (i64_w _).trans aG
     by_cases a3 : 0 ≤ (an)
     ·rw [if_pos a3] at H
      have b3 := eq_true a3
      have b4 := decide_eq_true a3
      clear a3
      by_cases a4 : (an) ≤ (ac.length : Int)
      ·rw [if_pos a4] at H
       have b5 := eq_true a4
       have b6 := decide_eq_true a4
       clear a4
       obtain ⟨aC, ay⟩ : ∃ y_ : List (S72), y_ = (ac.take ((an) : Int).toNat) := ⟨_, rfl⟩
       replace H : (chain_Left.j0 k ah aC) = some (r1, r2) := by first | (rw [ay]; with_reducible exact H) | (have H2_ := (Option.bind_some _ _).symm.trans H; rw [ay]; with_reducible exact H2_) | (have H2_ := (Option.bind_some _ _).symm.trans H; with_reducible exact H2_) | with_reducible exact H | (rw [ay]; exact H) | exact H
       have a5 := mk0 ay
       clear ay
       have H' := mk0 H
       clear H
       have b7 := aj.out
       have b8 := ae.out
       obtain ⟨bA, bB, bC, bD⟩ := c2_ ab
       have av : 0 ≤ (aa : Int) := od_
       have aw : aa < (ac.length : Int) := od_
       obtain ⟨al, aX, aY, aZ, ax⟩ := at_T72 (Kd.R_reads' af.out).2.2 aa av aw
       (try rw [← Nbq17.out] at ax)
       cases aX
       replace av := eq_true av
       replace aw := eq_true aw
       have bm : ((an) : Int) ≤ ((ac.length : Int) : Int) := od_
       obtain ⟨i028, hi028, _, hsz28, _⟩ := info_parts info72
       have hcut28 := cut_to (P := Try.prog) 97 72 .i64 Try.underlying97 hi028 (some al) ac.length ak (an) od_ bm (Kd.R_reads' af.out).2.1
       have hr28 := Kd.R_take (m := ((an) : Int).toNat) af.out (by omega)
       have bf : aC.length = ((an) : Int).toNat := (by rw [a5.out, List.length_take]; omega)
       rw [← a5.out] at hr28
       rw [← bf] at hr28 hcut28
       clear bf hi028 hsz28 af
       have bn := mk0 hr28
       clear hr28
       replace bm := eq_true bm
       go_wp2
       go_meet
       case rel => exact ⟨_, (aC), (.slice (some al) aC.length ak), H', ⟨by first | omega | exact Nat.le_refl _⟩, ⟨by (with_reducible repeat (first | apply Ra_ | apply Rn_ | apply Rd_)); exact Kd.R_mono (Kd.R_far (p := ⟨am, 1, none⟩) (Kd.R_types bn.out ab.out (by decide)) (fun _ hk => hk.2) (.slice (some al) aC.length ak)) (fun _ hk => trivial)⟩, ⟨(pu_ (cs := #[.string ah, .slice (some al) ac.length ak]) (h_ ab))⟩, ⟨(fa_ (h_ ai) ae.out)⟩, ⟨b_ HB⟩⟩
      ·rw [if_neg a4] at H
       exact absurd H (by simp)
     ·rw [if_neg a3] at H
      exact absurd H (by simp)
   ·rw [if_neg bb] at H
    exact absurd H (by simp)
  ·rw [if_neg aH] at H
   have ar := decide_eq_false aH
   clear aH
   (first | rw [ar] | (simp only [i64_w, i32_w]; rw [ar]) | skip)
   have H' := mk0 H
   clear H
   go_wp2
   go_meet
   case rel => exact ⟨_, (ac), (.slice az ac.length ak), H', ⟨by first | omega | exact Nat.le_refl _⟩, ⟨r2_ af.out⟩, ⟨h_ ab⟩, ⟨h_ ai⟩, ⟨b_ HB⟩⟩
 case rest =>
  clear HC5
  try clear aJ
  try clear aK
  try clear aP
  try clear aQ
  try clear a7
  try clear a8
  try clear aM
  try clear aN
  try clear aT
  try clear aU
  try clear a9
  try clear ba
  obtain ⟨kq, ag, aq, HA, cl, ap, ab, ai, HB⟩ := hcut
  cases kq with
  | zero => exact absurd HA.out (by simp [chain_Left.j0])
  | succ cm =>
   have H := HA.out
   clear HA
   simp only [chain_Left.j0] at H
   as_aux_lemma =>
    by_cases aD : (ag.length : Int) = 0
    ·rw [if_pos aD] at H
     have bo := beq_iff_eq.mpr aD
     have bp := bne_eq_false_iff_eq.mpr aD
     clear aD
     simp only [Option.some.injEq, Prod.mk.injEq] at H
     obtain ⟨rfl, rfl⟩ := H
     have b9 := aj.out
     have ca := ae.out
     obtain ⟨bE, bF, bG, bH⟩ := c2_ ab
     obtain ⟨ch, ci, bI⟩ := Kd.R_slice ap.out
     subst bI
     obtain ⟨bJ, bK, bL, bM⟩ := c2_ ai
     go_wp2
     refine bodyPost_ret (results_cell_row rfl _ _ ao 99 #[.string (⟨#[]⟩ : ByteArray), .slice none 0 0] (0, 0) _ rfl (pu_ (cs := #[.string (⟨#[]⟩ : ByteArray), .slice none 0 0]) (pu_ (cs := #[.string (⟨#[]⟩ : ByteArray), .slice none 0 0]) (h_ ai))) Try.underlying99 rfl (by kernel_rfl)) rfl ?_
     exact ⟨_, sa_, nl_, b_ HB⟩
    ·rw [if_neg aD] at H
     have bo := beq_eq_false_iff_ne.mpr aD
     have bp := bne_iff_ne.mpr aD
     have cb : ¬ (ag = []) := fun h_ => aD (by rw [h_]; rfl)
     simp only [Option.some.injEq, Prod.mk.injEq] at H
     obtain ⟨rfl, rfl⟩ := H
     have cc := aj.out
     have cd := ae.out
     obtain ⟨bN, bO, bP, bQ⟩ := c2_ ab
     obtain ⟨bg, bh, bR⟩ := Kd.R_slice ap.out
     subst bR
     obtain ⟨bS, bT, bU, bV⟩ := c2_ ai
     go_wp2
     refine bodyPost_ret (results_cell_row rfl _ _ ao 99 #[.string ah, .slice bg ag.length bh] (0, 0) _ rfl (pu_ (cs := #[.string ah, .slice none 0 0]) (pu_ (cs := #[.string (⟨#[]⟩ : ByteArray), .slice none 0 0]) (h_ ai))) Try.underlying99 rfl (by kernel_rfl)) rfl ?_
     exact ⟨_, sa_, by (with_reducible repeat (first | apply Ra_ | apply Rn_ | apply Rd_)); exact Kd.R_mono (Kd.R_far (p := ⟨ao, 1, none⟩) (Kd.R_far (p := ⟨ao, 0, none⟩) (Kd.R_types ap.out ai.out (by decide)) (fun _ hk => hk.2) (.string ah)) (fun _ hk => hk.2) (.slice bg ag.length bh)) (fun _ hk => trivial), b_ HB⟩
end Go.Proofs.Ytbaecdcfefmcgaa.PTbe
