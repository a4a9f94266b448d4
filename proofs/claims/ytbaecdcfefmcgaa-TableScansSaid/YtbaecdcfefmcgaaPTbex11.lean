-- PRINTED by print.py (a twelfth state) out of the translation. Not trusted: Lean checks it.
import Derived.Shelf.SlSorted.Search
import Derived.Test.YtbaecdcfefmcgaaPTbex0
import Derived.Test.YtbaecdcfefmcgaaPTbex8
import Derived.Test.YtbaecdcfefmcgaaPTbex10
import Derived.Test.YtbaecdcfefmcgaaHSome
namespace Go.Proofs.Ytbaecdcfefmcgaa.PTbe
open Go.RowKit Go.Proofs.YtbaecdcfefmcgaaW.PrintWords Go.Proofs.YtbaecdcfefmcgaaW.PrintLast Go.Proofs.YtbaecdcfefmcgaaW.PrintMore
attribute [local go_sem] max2_int min2_int max_two min_two max_three min_three max_four min_four   -- for this text's walks alone
set_option maxHeartbeats 8000000
set_option maxRecDepth 100000
set_option linter.unusedVariables false
set_option linter.unusedSimpArgs false
/-! ### quorumref0_EqChains: function 123 -/
def quorumref0_EqChains.l0 : Nat → List (S99) → List (S99) → Int → Option (Bool)
 | 0, _, _, _ => none
 | k + 1, x0, x1, x5 => if x5 < (x0.length : Int) then (if 0 ≤ x5 then (if x5 < (x1.length : Int) then ((quorumref0_EqChain.f k ((rd_T99 x0 x5).f0) ((rd_T99 x0 x5).f1) ((rd_T99 x1 x5).f0) ((rd_T99 x1 x5).f1)).bind fun t291 => (if t291 = true then (quorumref0_EqChains.l0 k x0 x1 (wrap64 (x5 + 1))) else (some false))) else (none)) else (none)) else (some true)
def quorumref0_EqChains.f (k : Nat) (l0 : List (S99)) (l1 : List (S99)) : Option (Bool) := if (l0.length : Int) = (l1.length : Int) then (quorumref0_EqChains.l0 k l0 l1 0) else (some false)
theorem quorumref0_EqChains.mono_l : ∀ k, (∀ y0 y1 y2, LeO (quorumref0_EqChains.l0 k y0 y1 y2) (quorumref0_EqChains.l0 (k + 1) y0 y1 y2))
 | 0 => fun _ _ _ r h => by simp [quorumref0_EqChains.l0] at h
 | k + 1 => by
  have ih0 := quorumref0_EqChains.mono_l k
  all_goals (intros; first | unfold quorumref0_EqChains.l0)
  all_goals (repeat' first | (with_reducible exact ih0 ..) | (with_reducible exact quorumref0_EqChain.mono ..) | (with_reducible exact LeO.refl _) | (with_reducible exact LeO.none _) | (with_reducible refine LeO.ite ?_ ?_) | (with_reducible refine LeO.bind ?_ (fun _ => ?_)) | exact LeO.none _ | refine LeO.ite ?_ ?_ | refine LeO.bind ?_ (fun _ => ?_))
theorem quorumref0_EqChains.mono : ∀ a0 a1 k, LeO (quorumref0_EqChains.f k a0 a1) (quorumref0_EqChains.f (k + 1) a0 a1) := by
 intro a0 a1 k
 have ih0 := quorumref0_EqChains.mono_l k
 unfold quorumref0_EqChains.f
 repeat' first | (with_reducible exact ih0 ..) | (with_reducible exact quorumref0_EqChain.mono ..) | (with_reducible exact LeO.refl _) | (with_reducible exact LeO.none _) | (with_reducible refine LeO.ite ?_ ?_) | (with_reducible refine LeO.bind ?_ (fun _ => ?_)) | exact LeO.none _ | refine LeO.ite ?_ ?_ | refine LeO.bind ?_ (fun _ => ?_)
def quorumref0_EqChains.T6 : Bool × List (List Nat × List Nat) := (true, [([], []), ([], []), ([0, 1], [0, 1]), ([2], [2]), ([], []), ([], []), ([4, 5], [4, 5]), ([6], [6]), ([3, 7], [3, 7]), ([8], [8])])
def quorumref0_EqChains.B6 : List Nat := [0, 0, 3, 7, 0, 0, 48, 112, 255, 511]
theorem quorumref0_EqChains.tab6 : rtab .any (opsOf Try.f123 6) = quorumref0_EqChains.T6 := by kernel_rfl
theorem quorumref0_EqChains.bits6 : waitsOk quorumref0_EqChains.T6.2 quorumref0_EqChains.B6 = true := by kernel_rfl
theorem quorumref0_EqChains.calls (k : Nat) (A0 : Option Addr) (c0 : Nat) (l0 : List (S99)) (A1 : Option Addr) (c1 : Nat) (l1 : List (S99)) (r : Bool) (w : World) (hr0 : Kd.C k99 w A0 l0.length l0) (hc0 : l0.length ≤ c0) (hr1 : Kd.C k99 w A1 l1.length l1) (hc1 : l1.length ≤ c1) (h : quorumref0_EqChains.f k l0 l1 = some r) :
  Calls Try.prog 123 #[.slice A0 l0.length c0, .slice A1 l1.length c1] w fun e w' => e = .returned (.bool r) ∧ Below w.heap.size w w' := by
 have hu99 := Try.underlying99
 have HR0 := mk0 hr0
 have HC0 := mk0 hc0
 clear hr0 hc0
 have HR1 := mk0 hr1
 have HC1 := mk0 hc1
 clear hr1 hc1
 have HB := mk0 (Below.refl w.heap.size w)
 have H : (if (l0.length : Int) = (l1.length : Int) then (quorumref0_EqChains.l0 k l0 l1 0) else (some false)) = some r := h
 clear h
 by_cases c3 : (l0.length : Int) = (l1.length : Int)
 ·rw [if_pos c3] at H
  have aH := beq_iff_eq.mpr c3
  have aI := bne_eq_false_iff_eq.mpr c3
  have aJ : (l0.length == l1.length) = true := by first | simpa using c3 | (simp at c3 ⊢; omega)
  clear c3
  have H' := mk0 H
  clear H
  go_enter Try.func123, Try.ntmps123
  go_wp2
  go_loopg [5] k (fun kq v5 w' => ∃ (aa : Int), v5 = .int .i64 aa ∧ Fc (quorumref0_EqChains.l0 kq l0 l1 aa = some r) ∧ Fc (kq ≤ k) ∧ Fc (Below w.heap.size w w'))
  case atStart => exact ⟨(0), sm_, H', ⟨Nat.le_refl _⟩, ⟨b_ HB⟩⟩
  case round =>
   clear H'
   try clear c3
   try clear aH
   try clear aI
   try clear aJ
   obtain ⟨aa, rfl, HA, aK, HB⟩ := hrel
   cases gk with
   | zero => exact absurd HA.out (by simp [quorumref0_EqChains.l0])
   | succ k1 =>
    have H := HA.out
    clear HA
    simp only [quorumref0_EqChains.l0] at H
    as_aux_lemma =>
     by_cases c4 : aa < (l0.length : Int)
     ·rw [if_pos c4] at H
      have aM := decide_eq_true c4
      clear c4
      by_cases c5 : 0 ≤ aa
      ·rw [if_pos c5] at H
       have aQ := decide_eq_true c5
       clear c5
       by_cases c6 : aa < (l1.length : Int)
       ·rw [if_pos c6] at H
        have aR := decide_eq_true c6
        clear c6
        replace H := ob_ H
        obtain ⟨aN, A7, H⟩ := H
        try dsimp only at H
        by_cases c8 : aN = true
        ·subst c8
         rw [if_pos rfl] at H
         have H' := mk0 H
         clear H
         try go_wp2
         replace HB := mk0 (b1_ HB.out)
         have ax : 0 ≤ (aa : Int) := od_
         have ay : aa < (l0.length : Int) := od_
         obtain ⟨ap, ar, au, aE, ab, ac, af, ag⟩ := at_T99 HR0.out aa ax ay
         have ah := ac
         have ai := ab
         cases aE
         replace ab := (bc_ HB ab :)
         replace ac := (bc_ HB ac :)
         have aj := mk0 ag
         have az := mk0 af
         clear ag af
         replace ax := eq_true ax
         replace ay := eq_true ay
         have aA : 0 ≤ (aa : Int) := od_
         have aC : aa < (l1.length : Int) := od_
         obtain ⟨aq, av, aw, aG, ad, ae, ak, al⟩ := at_T99 HR1.out aa aA aC
         have am := ae
         have an := ad
         cases aG
         replace ad := (bc_ HB ad :)
         replace ae := (bc_ HB ae :)
         have ao := mk0 al
         have aD := mk0 ak
         clear al ak
         replace aA := eq_true aA
         replace aC := eq_true aC
         refine start_ (n := 10) (S := fun w' => w'.cell? (ap.add ((aa).toNat * 2)) = some (.string ((rd_T99 l0 aa).f0)) ∧ w'.cell? ⟨(ap.add ((aa).toNat * 2)).block, (ap.add ((aa).toNat * 2)).off + 1, none⟩ = some (.slice ar ((rd_T99 l0 aa).f1).length au) ∧ w'.cell? (aq.add ((aa).toNat * 2)) = some (.string ((rd_T99 l1 aa).f0)) ∧ w'.cell? ⟨(aq.add ((aa).toNat * 2)).block, (aq.add ((aa).toNat * 2)).off + 1, none⟩ = some (.slice av ((rd_T99 l1 aa).f1).length aw)) (ds := []) (bt 10 0) (by kernel_rfl) rfl rfl ⟨((bc_ HB ai :)), ((bc_ HB ah :)), ((bc_ HB an :)), ((bc_ HB am :))⟩ (fun hHeld => ?_); refine with_tabW quorumref0_EqChains.tab6 quorumref0_EqChains.bits6 (fun HT_ HW_ => ?_)
         generalize wr.drew = w9 at HB aj ao ab ac ad ae hHeld ⊢
         refine pq_ HT_.out 0 17 (bt 10 1) (h := ?_)
         refine pq_ HT_.out 1 18 (bt 10 3) (h := ?_)
         refine pq_ HT_.out 2 19 (bt 10 7) (h := ?_)
         refine pq_ HT_.out 4 21 (bt 10 23) (h := ?_)
         refine pq_ HT_.out 5 22 (bt 10 55) (h := ?_)
         refine pq_ HT_.out 6 23 (bt 10 119) (h := ?_)
         refine tq4_ HT_.out HW_.out 3 20 (bt 10 127) hHeld (h := ?_)
         refine tq4_ HT_.out HW_.out 7 24 (bt 10 255) hHeld (h := ?_)
         refine one_ (i := 8) (N := some 25) (bt 10 511) rfl rfl (one_of HT_.out (by kernel_rfl)) (by decide) (fun K hK => ?_)
         refine goes_ Try.func166 (by kernel_rfl) rfl #[.agg #[.string ((rd_T99 l0 aa).f0), .slice ar ((rd_T99 l0 aa).f1).length au], .agg #[.string ((rd_T99 l1 aa).f0), .slice av ((rd_T99 l1 aa).f1).length aw]] (by rfl) rfl rfl gs_ ?_
         with_reducible refine (quorumref0_EqChain.calls k1 ((rd_T99 l0 aa).f0) _ _ ((rd_T99 l0 aa).f1) ((rd_T99 l1 aa).f0) _ _ ((rd_T99 l1 aa).f1) true _ ?side1 ?side2 ?side3 ?side4 A7.out).mono ?_
         (case side1 => exact cb_ aj HB)
         (case side2 => exact az.out)
         (case side3 => exact cb_ ao HB)
         (case side4 => exact aD.out)
         rintro e aT ⟨rfl, hb⟩
         refine ⟨_, rfl, ?_⟩
         replace HB := mk0 (bt_ (b_ HB) hb)
         (try clear hb)
         (try clear hk)
         (try clear hi)
         refine hK.out _ _ ⟨((bc_ HB ai :)), ((bc_ HB ah :)), ((bc_ HB an :)), ((bc_ HB am :))⟩ (fun hHeld => ?_)
         clear hK K
         refine norm_ (a' := ?_) ?_ ?_
         rotate_left
         ·show Act.put _ (some 25) _ = _
          simp only [z_]
          rfl
         refine pq_ HT_.out 9 26 (bt 10 1023) (h := ?_)
         refine done_ (done_of HT_.out (by kernel_rfl)) ?_
         try go_wp2
         go_roundg k1
         case measure => have := aK.out; omega
         case rel => exact ⟨(wrap64 (aa + 1)), sm_, H', ⟨by have := aK.out; omega⟩, ⟨b_ HB⟩⟩
        ·replace c8 := Bool.eq_false_iff.mpr c8
         subst c8
         rw [if_neg nf_] at H
         obtain rfl := Option.some.inj H
         try go_wp2
         replace HB := mk0 (b1_ HB.out)
         have ax : 0 ≤ (aa : Int) := od_
         have ay : aa < (l0.length : Int) := od_
         obtain ⟨ap, ar, au, aE, ab, ac, af, ag⟩ := at_T99 HR0.out aa ax ay
         have ah := ac
         have ai := ab
         cases aE
         replace ab := (bc_ HB ab :)
         replace ac := (bc_ HB ac :)
         have aj := mk0 ag
         have az := mk0 af
         clear ag af
         replace ax := eq_true ax
         replace ay := eq_true ay
         have aA : 0 ≤ (aa : Int) := od_
         have aC : aa < (l1.length : Int) := od_
         obtain ⟨aq, av, aw, aG, ad, ae, ak, al⟩ := at_T99 HR1.out aa aA aC
         have am := ae
         have an := ad
         cases aG
         replace ad := (bc_ HB ad :)
         replace ae := (bc_ HB ae :)
         have ao := mk0 al
         have aD := mk0 ak
         clear al ak
         replace aA := eq_true aA
         replace aC := eq_true aC
         refine start_ (n := 10) (S := fun w' => w'.cell? (ap.add ((aa).toNat * 2)) = some (.string ((rd_T99 l0 aa).f0)) ∧ w'.cell? ⟨(ap.add ((aa).toNat * 2)).block, (ap.add ((aa).toNat * 2)).off + 1, none⟩ = some (.slice ar ((rd_T99 l0 aa).f1).length au) ∧ w'.cell? (aq.add ((aa).toNat * 2)) = some (.string ((rd_T99 l1 aa).f0)) ∧ w'.cell? ⟨(aq.add ((aa).toNat * 2)).block, (aq.add ((aa).toNat * 2)).off + 1, none⟩ = some (.slice av ((rd_T99 l1 aa).f1).length aw)) (ds := []) (bt 10 0) (by kernel_rfl) rfl rfl ⟨((bc_ HB ai :)), ((bc_ HB ah :)), ((bc_ HB an :)), ((bc_ HB am :))⟩ (fun hHeld => ?_); refine with_tabW quorumref0_EqChains.tab6 quorumref0_EqChains.bits6 (fun HT_ HW_ => ?_)
         generalize wr.drew = aU at HB aj ao ab ac ad ae hHeld ⊢
         refine pq_ HT_.out 0 17 (bt 10 1) (h := ?_)
         refine pq_ HT_.out 1 18 (bt 10 3) (h := ?_)
         refine pq_ HT_.out 2 19 (bt 10 7) (h := ?_)
         refine pq_ HT_.out 4 21 (bt 10 23) (h := ?_)
         refine pq_ HT_.out 5 22 (bt 10 55) (h := ?_)
         refine pq_ HT_.out 6 23 (bt 10 119) (h := ?_)
         refine tq4_ HT_.out HW_.out 3 20 (bt 10 127) hHeld (h := ?_)
         refine tq4_ HT_.out HW_.out 7 24 (bt 10 255) hHeld (h := ?_)
         refine one_ (i := 8) (N := some 25) (bt 10 511) rfl rfl (one_of HT_.out (by kernel_rfl)) (by decide) (fun K hK => ?_)
         refine goes_ Try.func166 (by kernel_rfl) rfl #[.agg #[.string ((rd_T99 l0 aa).f0), .slice ar ((rd_T99 l0 aa).f1).length au], .agg #[.string ((rd_T99 l1 aa).f0), .slice av ((rd_T99 l1 aa).f1).length aw]] (by rfl) rfl rfl gs_ ?_
         with_reducible refine (quorumref0_EqChain.calls k1 ((rd_T99 l0 aa).f0) _ _ ((rd_T99 l0 aa).f1) ((rd_T99 l1 aa).f0) _ _ ((rd_T99 l1 aa).f1) false _ ?side1 ?side2 ?side3 ?side4 A7.out).mono ?_
         (case side1 => exact cb_ aj HB)
         (case side2 => exact az.out)
         (case side3 => exact cb_ ao HB)
         (case side4 => exact aD.out)
         rintro e aV ⟨rfl, hb⟩
         refine ⟨_, rfl, ?_⟩
         replace HB := mk0 (bt_ (b_ HB) hb)
         (try clear hb)
         (try clear hk)
         (try clear hi)
         refine hK.out _ _ ⟨((bc_ HB ai :)), ((bc_ HB ah :)), ((bc_ HB an :)), ((bc_ HB am :))⟩ (fun hHeld => ?_)
         clear hK K
         refine norm_ (a' := ?_) ?_ ?_
         rotate_left
         ·show Act.put _ (some 25) _ = _
          simp only [z_]
          rfl
         refine pq_ HT_.out 9 26 (bt 10 1023) (h := ?_)
         refine done_ (done_of HT_.out (by kernel_rfl)) ?_
         try go_wp2
         go_ret
         exact ⟨sa_, b_ HB⟩
       ·rw [if_neg c6] at H
        exact absurd H (by simp)
      ·rw [if_neg c5] at H
       exact absurd H (by simp)
     ·rw [if_neg c4] at H
      have aM := decide_eq_false c4
      clear c4
      obtain rfl := Option.some.inj H
      go_wp2
      go_ret
      exact ⟨sa_, b_ HB⟩
 ·rw [if_neg c3] at H
  have aH := beq_eq_false_iff_ne.mpr c3
  have aI := bne_iff_ne.mpr c3
  have aJ : (l0.length == l1.length) = false := by first | simpa using c3 | (simp at c3 ⊢; omega)
  obtain rfl := Option.some.inj H
  go_enter Try.func123, Try.ntmps123
  go_wp2
  go_ret
  exact ⟨sa_, b_ HB⟩
/-! ### quorumref0_EqTable: function 77 -/
def quorumref0_EqTable.f (k : Nat) (l0_0 : List (S99)) (l1_0 : List (S99)) : Option (Bool) := (quorumref0_EqChains.f k l0_0 l1_0).bind fun t294 => (some t294)
theorem quorumref0_EqTable.mono : ∀ a0 a1 k, LeO (quorumref0_EqTable.f k a0 a1) (quorumref0_EqTable.f (k + 1) a0 a1) := by
 intro a0 a1 k
 unfold quorumref0_EqTable.f
 repeat' first | (with_reducible exact quorumref0_EqChains.mono ..) | (with_reducible exact LeO.refl _) | (with_reducible exact LeO.none _) | (with_reducible refine LeO.ite ?_ ?_) | (with_reducible refine LeO.bind ?_ (fun _ => ?_)) | exact LeO.none _ | refine LeO.ite ?_ ?_ | refine LeO.bind ?_ (fun _ => ?_)
theorem quorumref0_EqTable.calls (k : Nat) (A0_0 : Option Addr) (c0_0 : Nat) (l0_0 : List (S99)) (A1_0 : Option Addr) (c1_0 : Nat) (l1_0 : List (S99)) (r : Bool) (w : World) (hr0_0 : Kd.C k99 w A0_0 l0_0.length l0_0) (hc0_0 : l0_0.length ≤ c0_0) (hr1_0 : Kd.C k99 w A1_0 l1_0.length l1_0) (hc1_0 : l1_0.length ≤ c1_0) (h : quorumref0_EqTable.f k l0_0 l1_0 = some r) :
  Calls Try.prog 77 #[.agg #[.slice A0_0 l0_0.length c0_0], .agg #[.slice A1_0 l1_0.length c1_0]] w fun e w' => e = .returned (.bool r) ∧ Below w.heap.size w w' := by
 have hu47 := Try.underlying47
 have ag := mk0 hr0_0
 have ah := mk0 hc0_0
 clear hr0_0 hc0_0
 have ai := mk0 hr1_0
 have aj := mk0 hc1_0
 clear hr1_0 hc1_0
 have HB := mk0 (Below.refl w.heap.size w)
 have H : ((quorumref0_EqChains.f k l0_0 l1_0).bind fun ae => (some ae)) = some r := h
 clear h
 replace H := ob_ H
 obtain ⟨ae, A3, H⟩ := H
 try dsimp only at H
 obtain rfl := Option.some.inj H
 go_enter Try.func77, Try.ntmps77
 go_wp2_with (first | ((with_reducible refine gate_dst (N := 2) rfl ?_); refine bx_ (N := 2) (cs := #[.slice A0_0 l0_0.length c0_0]) (t := 47) (h := ?_); intro ar hg w4 hbox hb; have n2_ := mk0 (gz_ HB hg); have af := mk0 (gz_ HB hg); replace HB := mk0 (bt_ (b_ HB) hb); have aa := mk0 (hbox); have au := af; clear n2_ af; clear hb hbox hg) | ((with_reducible refine gate_dst (N := 3) rfl ?_); refine bx_ (N := 3) (cs := #[.slice A1_0 l1_0.length c1_0]) (t := 47) (h := ?_); intro av hg w5 hbox hb; have af := mk0 (gz_ HB hg); have ak := mk0 (gz_ HB hg); have al := mk0 (ne1_ aa hg); have am := mk0 (ne2_ aa hg); replace aa := mk0 (u_ aa hb); replace HB := mk0 (bt_ (b_ HB) hb); have ab := mk0 (hbox); have aw := ak; have ac := al; have ad := am; clear af ak al am hb hbox hg; have ax := ac.out; have ay := ad.out; obtain ⟨an, ao⟩ := c1_ aa; obtain ⟨ap, aq⟩ := c1_ ab) | ((with_reducible refine gate_callee (f := 123) rfl ?_); refine gL_ (some 9) Try.func123 #[.slice A0_0 l0_0.length c0_0, .slice A1_0 l1_0.length c1_0] (h := ?_); (with_reducible refine (quorumref0_EqChains.calls k _ _ l0_0 _ _ l1_0 ae _ ?side1 ?side2 ?side3 ?side4 A3.out).mono ?_); (case side1 => exact cb_ ag HB); (case side2 => exact ah.out); (case side3 => exact cb_ ai HB); (case side4 => exact aj.out); rintro e w9 ⟨rfl, hb⟩; refine ⟨_, rfl, ?_⟩; replace aa := mk0 (u_ aa hb); replace ab := mk0 (u_ ab hb); replace HB := mk0 (bt_ (b_ HB) hb); (try clear hb)))
 go_ret
 exact ⟨sa_, b_ HB⟩
/-! ### key_May: function 131 -/
def key_May.j0 : Nat → Bool → ByteArray → ByteArray → Bool → Option (Bool)
 | 0, _, _, _, _ => none
 | k + 1, x12, x296000, x296001, x296002 => if x12 = true then (some false) else (if x296002 = true then (some (x296001.toList == ([] : List UInt8))) else (some (!(Op.bytesLess x296001.toList x296000.toList))))
def key_May.f (k : Nat) (a0_0 : ByteArray) (a0_1 : ByteArray) (a0_2 : Bool) : Option (Bool) := if (a0_0.size : Int) > 13 then (key_May.j0 k true a0_0 a0_1 a0_2) else (key_May.j0 k (decide ((a0_1.size : Int) > 13)) a0_0 a0_1 a0_2)
theorem key_May.mono_l : ∀ k, (∀ y0 y1 y2 y3, LeO (key_May.j0 k y0 y1 y2 y3) (key_May.j0 (k + 1) y0 y1 y2 y3))
 | 0 => fun _ _ _ _ r h => by simp [key_May.j0] at h
 | k + 1 => by
  have ih0 := key_May.mono_l k
  all_goals (intros; first | unfold key_May.j0)
  all_goals (repeat' first | (with_reducible exact ih0 ..) | (with_reducible exact LeO.refl _) | (with_reducible exact LeO.none _) | (with_reducible refine LeO.ite ?_ ?_) | (with_reducible refine LeO.bind ?_ (fun _ => ?_)) | exact LeO.none _ | refine LeO.ite ?_ ?_ | refine LeO.bind ?_ (fun _ => ?_))
theorem key_May.mono : ∀ a0 a1 a2 k, LeO (key_May.f k a0 a1 a2) (key_May.f (k + 1) a0 a1 a2) := by
 intro a0 a1 a2 k
 have ih0 := key_May.mono_l k
 unfold key_May.f
 repeat' first | (with_reducible exact ih0 ..) | (with_reducible exact LeO.refl _) | (with_reducible exact LeO.none _) | (with_reducible refine LeO.ite ?_ ?_) | (with_reducible refine LeO.bind ?_ (fun _ => ?_)) | exact LeO.none _ | refine LeO.ite ?_ ?_ | refine LeO.bind ?_ (fun _ => ?_)
theorem key_May.calls (k : Nat) (a0_0 : ByteArray) (a0_1 : ByteArray) (a0_2 : Bool) (r : Bool) (w : World) (h : key_May.f k a0_0 a0_1 a0_2 = some r) :
  Calls Try.prog 131 #[.agg #[.string a0_0, .string a0_1, .bool a0_2]] w fun e w' => e = .returned (.bool r) ∧ Below w.heap.size w w' := by
 have hu74 := Try.underlying74
 have HB := mk0 (Below.refl w.heap.size w)
 have H : (if (a0_0.size : Int) > 13 then (key_May.j0 k true a0_0 a0_1 a0_2) else (key_May.j0 k (decide ((a0_1.size : Int) > 13)) a0_0 a0_1 a0_2)) = some r := h
 clear h
 have HC2 := mk0 H
 clear H
 go_enter Try.func131, Try.ntmps131
 go_upto_region 1 with (first | ((with_reducible refine gate_dst (N := 1) rfl ?_); (try (refine gate_guard (by rfl) ?_; dsimp only)); refine bx_ (N := 1) (cs := #[.string a0_0, .string a0_1, .bool a0_2]) (t := 74) (h := ?_); intro ad hg w3 hbox hb; have n2_ := mk0 (gz_ HB hg); have ae := mk0 (gz_ HB hg); replace HB := mk0 (bt_ (b_ HB) hb); have aa := mk0 (hbox); have aI := ae; clear n2_ ae; clear hb hbox hg))
 (try simp only [Act.put, List.setIfInBounds_toArray, List.set_cons_zero, List.set_cons_succ])
 go_cut [12] (fun v12 wc => ∃ (kq : Nat) (ab : Bool), v12 = .bool ab ∧ Fc (key_May.j0 kq ab a0_0 a0_1 a0_2 = some r) ∧ Fc (kq ≤ k) ∧ Fc (wc.heap[ad]? = some (.cells #[.string a0_0, .string a0_1, .bool a0_2] 74 (0, 0))) ∧ Fc (Below w.heap.size w wc))
 case first =>
  have H := HC2.out
  clear HC2
  by_cases c4 : (a0_0.size : Int) > 13
  ·rw [if_pos c4] at H
   have ac := decide_eq_true c4
   have af : decide (13 < a0_0.size) = true := decide_eq_true (by omega)
   clear c4
   (first | rw [ac] | (simp only [i64_w, i32_w]; rw [ac]) | skip)
   have H' := mk0 H
   clear H
   obtain ⟨am, an, ao, ap, aq, ar⟩ := c3_ aa
   go_wp2
   go_meet
   case rel => exact ⟨_, (true), sm_, H', ⟨by first | omega | exact Nat.le_refl _⟩, ⟨h_ aa⟩, ⟨b_ HB⟩⟩
  ·rw [if_neg c4] at H
   have ac := decide_eq_false c4
   have af : decide (13 < a0_0.size) = false := decide_eq_false (by omega)
   clear c4
   (first | rw [ac] | (simp only [i64_w, i32_w]; rw [ac]) | skip)
   have H' := mk0 H
   clear H
   obtain ⟨au, av, aw, ax, ay, az⟩ := c3_ aa
   go_wp2
   go_meet
   case rel => exact ⟨_, (decide ((a0_1.size : Int) > 13)), sm_, H', ⟨by first | omega | exact Nat.le_refl _⟩, ⟨h_ aa⟩, ⟨b_ HB⟩⟩
 case rest =>
  clear HC2
  obtain ⟨kq, ab, rfl, HA, aJ, aa, HB⟩ := hcut
  cases kq with
  | zero => exact absurd HA.out (by simp [key_May.j0])
  | succ aK =>
   have H := HA.out
   clear HA
   simp only [key_May.j0] at H
   as_aux_lemma =>
    by_cases c7 : ab = true
    ·subst c7
     rw [if_pos rfl] at H
     obtain rfl := Option.some.inj H
     go_wp2
     go_ret
     exact ⟨sa_, b_ HB⟩
    ·replace c7 := Bool.eq_false_iff.mpr c7
     subst c7
     rw [if_neg nf_] at H
     by_cases c8 : a0_2 = true
     ·subst c8
      rw [if_pos rfl] at H
      obtain rfl := Option.some.inj H
      obtain ⟨aA, aC, aD, aE, aG, aH⟩ := c3_ aa
      go_wp2
      go_ret
      exact ⟨sa_, b_ HB⟩
     ·replace c8 := Bool.eq_false_iff.mpr c8
      subst c8
      rw [if_neg nf_] at H
      obtain rfl := Option.some.inj H
      obtain ⟨ag, ah, ai, aj, ak, al⟩ := c3_ aa
      go_wp2
      go_ret
      exact ⟨sa_, b_ HB⟩
/-! ### table_Asks: function 88 -/
def table_Asks.f (k : Nat) (a0_0 : ByteArray) (a0_1 : ByteArray) (a0_2 : Bool) (a1 : Int) : Option (Bool) := (key_May.f k a0_0 a0_1 a0_2).bind fun t297 => (if t297 = true then (if a1 ≥ 0 then (some (decide (a1 ≤ 1073741824))) else (some false)) else (some false))
theorem table_Asks.mono : ∀ a0 a1 a2 a3 k, LeO (table_Asks.f k a0 a1 a2 a3) (table_Asks.f (k + 1) a0 a1 a2 a3) := by
 intro a0 a1 a2 a3 k
 unfold table_Asks.f
 repeat' first | (with_reducible exact key_May.mono ..) | (with_reducible exact LeO.refl _) | (with_reducible exact LeO.none _) | (with_reducible refine LeO.ite ?_ ?_) | (with_reducible refine LeO.bind ?_ (fun _ => ?_)) | exact LeO.none _ | refine LeO.ite ?_ ?_ | refine LeO.bind ?_ (fun _ => ?_)
theorem table_Asks.calls (k : Nat) (a0_0 : ByteArray) (a0_1 : ByteArray) (a0_2 : Bool) (a1 : Int) (r : Bool) (w : World) (h : table_Asks.f k a0_0 a0_1 a0_2 a1 = some r) :
  Calls Try.prog 88 #[.agg #[.string a0_0, .string a0_1, .bool a0_2], .int .i64 a1] w fun e w' => e = .returned (.bool r) ∧ Below w.heap.size w w' := by
 have hu74 := Try.underlying74
 have HB := mk0 (Below.refl w.heap.size w)
 have H : ((key_May.f k a0_0 a0_1 a0_2).bind fun ac => (if ac = true then (if a1 ≥ 0 then (some (decide (a1 ≤ 1073741824))) else (some false)) else (some false))) = some r := h
 clear h
 replace H := ob_ H
 obtain ⟨ac, A3, H⟩ := H
 try dsimp only at H
 by_cases c4 : ac = true
 ·subst c4
  rw [if_pos rfl] at H
  by_cases c5 : a1 ≥ 0
  ·rw [if_pos c5] at H
   have ag := decide_eq_true c5
   clear c5
   obtain rfl := Option.some.inj H
   go_enter Try.func88, Try.ntmps88
   go_wp2_with (first | ((with_reducible refine gate_dst (N := 2) rfl ?_); refine bx_ (N := 2) (cs := #[.string a0_0, .string a0_1, .bool a0_2]) (t := 74) (h := ?_); intro ad hg w6 hbox hb; have n2_ := mk0 (gz_ HB hg); have ab := mk0 (gz_ HB hg); replace HB := mk0 (bt_ (b_ HB) hb); have aa := mk0 (hbox); have ae := n2_; have af := ab; clear n2_ ab hb hbox hg; obtain ⟨av, aw, ax, ay, az, aA⟩ := c3_ aa) | ((with_reducible refine gate_callee (f := 131) rfl ?_); refine gL_ (some 6) Try.func131 #[.agg #[.string a0_0, .string a0_1, .bool a0_2]] (h := ?_); (with_reducible refine (key_May.calls k a0_0 a0_1 a0_2 true _ A3.out).mono ?_); rintro e w8 ⟨rfl, hb⟩; refine ⟨_, rfl, ?_⟩; replace aa := mk0 (u_ aa hb); replace HB := mk0 (bt_ (b_ HB) hb); (try clear hb)))
   go_ret
   exact ⟨sa_, b_ HB⟩
  ·rw [if_neg c5] at H
   have ag := decide_eq_false c5
   clear c5
   obtain rfl := Option.some.inj H
   go_enter Try.func88, Try.ntmps88
   go_wp2_with (first | ((with_reducible refine gate_dst (N := 2) rfl ?_); refine bx_ (N := 2) (cs := #[.string a0_0, .string a0_1, .bool a0_2]) (t := 74) (h := ?_); intro ad hg w9 hbox hb; have n2_ := mk0 (gz_ HB hg); have ab := mk0 (gz_ HB hg); replace HB := mk0 (bt_ (b_ HB) hb); have aa := mk0 (hbox); have ae := n2_; have af := ab; clear n2_ ab hb hbox hg; obtain ⟨ah, ai, aj, ak, al, am⟩ := c3_ aa) | ((with_reducible refine gate_callee (f := 131) rfl ?_); refine gL_ (some 6) Try.func131 #[.agg #[.string a0_0, .string a0_1, .bool a0_2]] (h := ?_); (with_reducible refine (key_May.calls k a0_0 a0_1 a0_2 true _ A3.out).mono ?_); rintro e aC ⟨rfl, hb⟩; refine ⟨_, rfl, ?_⟩; replace aa := mk0 (u_ aa hb); replace HB := mk0 (bt_ (b_ HB) hb); (try clear hb)))
   go_ret
   exact ⟨sa_, b_ HB⟩
 ·replace c4 := Bool.eq_false_iff.mpr c4
  subst c4
  rw [if_neg nf_] at H
  obtain rfl := Option.some.inj H
  go_enter Try.func88, Try.ntmps88
  go_wp2_with (first | ((with_reducible refine gate_dst (N := 2) rfl ?_); refine bx_ (N := 2) (cs := #[.string a0_0, .string a0_1, .bool a0_2]) (t := 74) (h := ?_); intro ad hg aD hbox hb; have n2_ := mk0 (gz_ HB hg); have ab := mk0 (gz_ HB hg); replace HB := mk0 (bt_ (b_ HB) hb); have aa := mk0 (hbox); have ae := n2_; have af := ab; clear n2_ ab hb hbox hg; obtain ⟨an, ao, ap, aq, ar, au⟩ := c3_ aa) | ((with_reducible refine gate_callee (f := 131) rfl ?_); refine gL_ (some 6) Try.func131 #[.agg #[.string a0_0, .string a0_1, .bool a0_2]] (h := ?_); (with_reducible refine (key_May.calls k a0_0 a0_1 a0_2 false _ A3.out).mono ?_); rintro e aE ⟨rfl, hb⟩; refine ⟨_, rfl, ?_⟩; replace aa := mk0 (u_ aa hb); replace HB := mk0 (bt_ (b_ HB) hb); (try clear hb)))
  go_ret
  exact ⟨sa_, b_ HB⟩
/-! ### table_Some: function 89 (by hand) -/
def table_Some.f (l0 : List S82) (a1_0 : ByteArray) (a1_1 : ByteArray) (a1_2 : Bool) (a2 : Int) (a3 : Bool) : Option (List S82) := if l0.length < 4398046511104 ∧ 0 ≤ a2 then some (HSome.someOf l0 a1_0 a1_1 a1_2 a2 a3) else none
theorem table_Some.calls (A0 : Option Addr) (c0 : Nat) (l0 : List S82) (a1_0 : ByteArray) (a1_1 : ByteArray) (a1_2 : Bool) (a2 : Int) (a3 : Bool) (r : List S82) (w : World) (hr0 : Kd.C k82 w A0 l0.length l0) (hc0 : l0.length ≤ c0) (h : table_Some.f l0 a1_0 a1_1 a1_2 a2 a3 = some r) :
    Calls Try.prog 89 #[.slice A0 l0.length c0, .agg #[.string a1_0, .string a1_1, .bool a1_2], .int .i64 a2, .bool a3] w fun e w' => ∃ v0_ : Value, e = .returned (v0_) ∧ Kd.R k82 82 w' w.heap.size (fun _ => True) v0_ r ∧ Below w.heap.size w w' :=
  HSome.some_calls A0 c0 l0 a1_0 a1_1 a1_2 a2 a3 r w hr0 hc0 h
/-! ### table_Rows: function 91 -/
def table_Rows.l0 : Nat → Int → List (S82) → List (S99) → Int → Int → Option ((List (S82)))
 | 0, _, _, _, _, _ => none
 | k + 1, x1, x4, x10, x11, x12 => if x12 < x11 then (if 0 ≤ x12 then (if x12 < (x10.length : Int) then ((chain_Look.f k ((rd_T99 x10 x12).f0) ((rd_T99 x10 x12).f1) x1).bind fun bt301 => (if bt301.2.2.2 = true then (if x4.length < 4398046511104 then (table_Rows.l0 k x1 (x4 ++ [(⟨(rd_T99 x10 x12).f0, bt301.2.1⟩ : S82)]) x10 x11 (wrap64 (x12 + 1))) else (none)) else (table_Rows.l0 k x1 x4 x10 x11 (wrap64 (x12 + 1))))) else (none)) else (none)) else (some x4)
def table_Rows.f (k : Nat) (l0_0 : List (S99)) (a1 : Int) : Option ((List (S82))) := table_Rows.l0 k a1 ([] : List (S82)) l0_0 (l0_0.length : Int) 0
theorem table_Rows.mono_l : ∀ k, (∀ y0 y1 y2 y3 y4, LeO (table_Rows.l0 k y0 y1 y2 y3 y4) (table_Rows.l0 (k + 1) y0 y1 y2 y3 y4))
 | 0 => fun _ _ _ _ _ r h => by simp [table_Rows.l0] at h
 | k + 1 => by
  have ih0 := table_Rows.mono_l k
  all_goals (intros; first | unfold table_Rows.l0)
  all_goals (repeat' first | (with_reducible exact ih0 ..) | (with_reducible exact chain_Look.mono ..) | (with_reducible exact LeO.refl _) | (with_reducible exact LeO.none _) | (with_reducible refine LeO.ite ?_ ?_) | (with_reducible refine LeO.bind ?_ (fun _ => ?_)) | exact LeO.none _ | refine LeO.ite ?_ ?_ | refine LeO.bind ?_ (fun _ => ?_))
theorem table_Rows.mono : ∀ a0 a1 k, LeO (table_Rows.f k a0 a1) (table_Rows.f (k + 1) a0 a1) := by
 intro a0 a1 k
 have ih0 := table_Rows.mono_l k
 unfold table_Rows.f
 repeat' first | (with_reducible exact ih0 ..) | (with_reducible exact chain_Look.mono ..) | (with_reducible exact LeO.refl _) | (with_reducible exact LeO.none _) | (with_reducible refine LeO.ite ?_ ?_) | (with_reducible refine LeO.bind ?_ (fun _ => ?_)) | exact LeO.none _ | refine LeO.ite ?_ ?_ | refine LeO.bind ?_ (fun _ => ?_)
theorem table_Rows.calls (k : Nat) (A0_0 : Option Addr) (c0_0 : Nat) (l0_0 : List (S99)) (a1 : Int) (r : List (S82)) (w : World) (hr0_0 : Kd.C k99 w A0_0 l0_0.length l0_0) (hc0_0 : l0_0.length ≤ c0_0) (h : table_Rows.f k l0_0 a1 = some r) :
  Calls Try.prog 91 #[.agg #[.slice A0_0 l0_0.length c0_0], .int .i64 a1] w fun e w' => ∃ v0_ : Value, e = .returned (v0_) ∧ Kd.R k82 82 w' w.heap.size (fun _ => True) v0_ r ∧ Below w.heap.size w w' := by
 have hu47 := Try.underlying47
 have hu99 := Try.underlying99
 have hu72 := Try.underlying72
 have hu82 := Try.underlying82
 have aK := mk0 hr0_0
 have bH := mk0 hc0_0
 clear hr0_0 hc0_0
 have HB := mk0 (Below.refl w.heap.size w)
 have H : (table_Rows.l0 k a1 ([] : List (S82)) l0_0 (l0_0.length : Int) 0) = some r := h
 clear h
 have H' := mk0 H
 clear H
 go_enter Try.func91, Try.ntmps91
 go_wp2_with (first | ((with_reducible refine gate_dst (N := 2) rfl ?_); refine bx_ (N := 2) (cs := #[.slice A0_0 l0_0.length c0_0]) (t := 47) (h := ?_); intro aM hg w3 hbox hb; have n2_ := mk0 (gz_ HB hg); have be := mk0 (gz_ HB hg); replace HB := mk0 (bt_ (b_ HB) hb); have ab := mk0 (hbox); have bI := be; clear n2_ be hb hbox hg; obtain ⟨aW, aX⟩ := c1_ ab))
 go_loopg [4, 12] k (fun kq v4 v12 w' => ∃ (aw : List (S82)) (aa : Int), v12 = .int .i64 aa ∧ Fc (table_Rows.l0 kq a1 aw l0_0 (l0_0.length : Int) aa = some r) ∧ Fc (kq ≤ k) ∧ Fc (Kd.R k82 82 w' w.heap.size (fun _ => True) v4 aw) ∧ Fc (w'.heap[aM]? = some (.cells #[(.slice A0_0 l0_0.length c0_0)] 47 (0, 0))) ∧ Fc (Below w.heap.size w w'))
 case atStart => exact ⟨(([] : List (S82))), (0), sm_, H', ⟨Nat.le_refl _⟩, ⟨nl_⟩, ⟨h_ ab⟩, ⟨b_ HB⟩⟩
 case round =>
  clear H'
  try clear aW
  try clear aX
  obtain ⟨aw, aa, rfl, HA, aY, ae, ab, HB⟩ := hrel
  cases gk with
  | zero => exact absurd HA.out (by simp [table_Rows.l0])
  | succ k1 =>
   have H := HA.out
   clear HA
   simp only [table_Rows.l0] at H
   as_aux_lemma =>
    by_cases c5 : aa < (l0_0.length : Int)
    ·rw [if_pos c5] at H
     have bf := decide_eq_true c5
     clear c5
     by_cases c6 : 0 ≤ aa
     ·rw [if_pos c6] at H
      have bV := decide_eq_true c6
      clear c6
      by_cases c7 : aa < (l0_0.length : Int)
      ·rw [if_pos c7] at H
       have bW := decide_eq_true c7
       clear c7
       replace H := ob_ H
       obtain ⟨⟨ax, aq, aI, bg⟩, A8, H⟩ := H
       try dsimp only at H
       by_cases c9 : bg = true
       ·subst c9
        rw [if_pos rfl] at H
        by_cases aZ : aw.length < 4398046511104
        ·rw [if_pos aZ] at H
         have LMc10 := mk0 aZ
         clear aZ
         obtain ⟨a7, ay⟩ : ∃ y_ : List (S82), y_ = (aw ++ [(⟨(rd_T99 l0_0 aa).f0, aq⟩ : S82)]) := ⟨_, rfl⟩
         replace H : (table_Rows.l0 k1 a1 a7 l0_0 (l0_0.length : Int) (wrap64 (aa + 1))) = some r := by first | (rw [ay]; with_reducible exact H) | (have H2_ := (Option.bind_some _ _).symm.trans H; rw [ay]; with_reducible exact H2_) | (have H2_ := (Option.bind_some _ _).symm.trans H; with_reducible exact H2_) | with_reducible exact H | (rw [ay]; exact H) | exact H
         have a8 := mk0 ay
         clear ay
         have H' := mk0 H
         clear H
         have az : 0 ≤ (aa : Int) := od_
         have aA : aa < (l0_0.length : Int) := od_
         obtain ⟨aN, ah, ai, aQ, aj, ak, al, am⟩ := at_T99 aK.out aa az aA
         cases aQ
         replace aj := (bc_ HB aj :)
         replace ak := (bc_ HB ak :)
         have aC := mk0 am
         have aD := mk0 al
         clear am al
         replace az := eq_true az
         replace aA := eq_true aA
         go_wp2_with (first | ((with_reducible refine gate_dst (N := 6) rfl ?_); refine bx_ (N := 6) (cs := #[.string (⟨#[]⟩ : ByteArray), .slice none 0 0]) (t := 99) (h := ?_); intro an hg bY hbox hb; have aR := mk0 (gz_ HB hg); have aE := mk0 (gz_ HB hg); have aG := mk0 (ne1_ ab hg); have aH := mk0 (ne2_ ab hg); replace ae := mk0 (Kd.R_below (r_ ae) hb); replace ab := mk0 (u_ ab hb); replace HB := mk0 (bt_ (b_ HB) hb); have ac := mk0 (hbox); have a9 := aR; have ba := aE; have af := aG; have ar := aH; clear aR aE aG aH hb hbox hg; have bJ := ar.out; have bK := af.out; obtain ⟨bh, bi, bj, bk⟩ := c2_ ac) | ((with_reducible refine gate_callee (f := 142) rfl ?_); refine gL_ (some 19) Try.func142 #[.agg #[.string ((rd_T99 l0_0 aa).f0), .slice ah ((rd_T99 l0_0 aa).f1).length ai], .int .i64 a1] (h := ?_); (with_reducible refine (chain_Look.calls k1 ((rd_T99 l0_0 aa).f0) _ _ ((rd_T99 l0_0 aa).f1) a1 ax aq aI true _ ?side1 ?side2 A8.out).mono ?_); (case side1 => exact Kd.C_below aC.out (b_ HB)); (case side2 => exact aD.out); rintro e bZ ⟨rfl, hb⟩; refine ⟨_, rfl, ?_⟩; have aT := mk0 (Kd.R_below (r2_ (Kd.R_mono (Kd.R_far (p := ⟨an, 1, none⟩) (Kd.R_far (p := ⟨an, 0, none⟩) (Kd.R_types ae.out ac.out (by decide)) (fun _ hk => hk.2) (.string ((rd_T99 l0_0 aa).f0))) (fun _ hk => hk.2) (.slice ah ((rd_T99 l0_0 aa).f1).length ai)) (fun _ h_ => h_.1))) hb); replace ab := mk0 (blk_below (fa_ (fa_ (h_ ab) af.out) af.out) hb); replace ac := mk0 (blk_below (g := an) (o := .cells #[.string ((rd_T99 l0_0 aa).f0), .slice ah ((rd_T99 l0_0 aa).f1).length ai] 99 (0, 0)) (pu_ (cs := #[.string ((rd_T99 l0_0 aa).f0), .slice none 0 0]) (pu_ (cs := #[.string (⟨#[]⟩ : ByteArray), .slice none 0 0]) (h_ ac))) hb); replace HB := mk0 (bt_ (b_ HB) hb); clear ae; have ae := aT; clear aT; (try clear hb)) | ((with_reducible refine gate_dst (N := 7) rfl ?_); refine bx_ (N := 7) (cs := #[.int .i64 0, .string (⟨#[]⟩ : ByteArray), .bool false]) (t := 72) (h := ?_); intro ao hg b0 hbox hb; have aE := mk0 (gz_ HB hg); have aG := mk0 (gz_ HB hg); have aH := mk0 (ne1_ ab hg); have aU := mk0 (ne2_ ab hg); have aV := mk0 (ne1_ ac hg); have aJ := mk0 (ne2_ ac hg); replace ae := mk0 (Kd.R_below (r_ ae) hb); replace ab := mk0 (u_ ab hb); replace ac := mk0 (u_ ac hb); replace HB := mk0 (bt_ (b_ HB) hb); have ap := mk0 (hbox); have bb := aE; have bc := aG; have ad := aH; have au := aU; have ag := aV; have av := aJ; clear aE aG aH aU aV aJ hb hbox hg; have bL := au.out; have bM := ad.out; have bN := av.out; have bO := ag.out; obtain ⟨bl, bm, bn, bo, bp, bq⟩ := c3_ ap; obtain ⟨br, bs, bu, bv⟩ := c2_ ac) | ((with_reducible refine gate_builtin (b := .append) (xs := #[.tmp 23, .tmp 29]) rfl ?_); at_builtin; refine Kd.R_append k82 (w0 := w) w.heap.size rfl (.tmp 23) (.tmp 29) 78 82 (.agg #[(.string ⟨#[]⟩), (.string ⟨#[]⟩)]) 32 rfl Try.underlying78 info82 rfl (by decide) (by omega) u4 aw (⟨(rd_T99 l0_0 aa).f0, aq⟩ : S82) [.string ((rd_T99 l0_0 aa).f0), .string aq] (fun _ => True) (fun _ => False) rfl (by first | (go_simp; done) | (go_simp; rfl)) ?aP (fun _ hk => hk.elim) ?aF ?aO ?aB ?aS ?aL ?_; (case aP => exact k82_mkM _ _ _ (⟨(rd_T99 l0_0 aa).f0, aq⟩ : S82)); (case aB => exact (b_ HB)); (case aF => exact (fun _ _ => trivial)); (case aO => exact (r2_ (Kd.R_mono (Kd.R_far (p := ⟨ao, 2, none⟩) (Kd.R_far (p := ⟨ao, 1, none⟩) (Kd.R_far (p := ⟨ao, 0, none⟩) (Kd.R_types ae.out ap.out (by decide)) (fun _ hk => hk.2) (.int .i64 ax)) (fun _ hk => hk.2) (.string aq)) (fun _ hk => hk.2) (.bool aI)) (fun _ hk => trivial)))); (case aS => exact (bz_ (b_ HB))); (case aL => have := LMc10.out; omega); intro bX b1 ho hb hg hat; rw [← a8.out] at ho; replace ab := mk0 (blk_grown (g := aM) (o := .cells #[.slice (some aN) l0_0.length c0_0] 47 (0, 0)) (fa_ (fa_ (fa_ (h_ ab) ad.out) ad.out) ad.out) hg (Kd.R_ne ae.out ab.out (by decide))); replace ac := mk0 (blk_grown (g := an) (o := .cells #[.string ((rd_T99 l0_0 aa).f0), .slice ah ((rd_T99 l0_0 aa).f1).length ai] 99 (0, 0)) (fa_ (fa_ (fa_ (h_ ac) ag.out) ag.out) ag.out) hg (Kd.R_ne ae.out ac.out (by decide))); replace ap := mk0 (blk_grown (g := ao) (o := .cells #[.int .i64 ax, .string aq, .bool aI] 72 (0, 0)) (pu_ (cs := #[.int .i64 ax, .string aq, .bool false]) (pu_ (cs := #[.int .i64 ax, .string (⟨#[]⟩ : ByteArray), .bool false]) (pu_ (cs := #[.int .i64 0, .string (⟨#[]⟩ : ByteArray), .bool false]) (h_ ap)))) hg (Kd.R_ne ae.out ap.out (by decide))); replace HB := mk0 (hb); have bd := mk0 (ho); clear ae; clear ho hb hg hat))
         go_roundg k1
         case measure => have := aY.out; omega
         case rel => exact ⟨(a7), (wrap64 (aa + 1)), sm_, H', ⟨by have := aY.out; omega⟩, ⟨r2_ bd.out⟩, ⟨h_ ab⟩, ⟨b_ HB⟩⟩
        ·rw [if_neg aZ] at H
         exact absurd H (by simp)
       ·replace c9 := Bool.eq_false_iff.mpr c9
        subst c9
        rw [if_neg nf_] at H
        have H' := mk0 H
        clear H
        have az : 0 ≤ (aa : Int) := od_
        have aA : aa < (l0_0.length : Int) := od_
        obtain ⟨aN, ah, ai, aQ, aj, ak, al, am⟩ := at_T99 aK.out aa az aA
        cases aQ
        replace aj := (bc_ HB aj :)
        replace ak := (bc_ HB ak :)
        have aC := mk0 am
        have aD := mk0 al
        clear am al
        replace az := eq_true az
        replace aA := eq_true aA
        go_wp2_with (first | ((with_reducible refine gate_dst (N := 6) rfl ?_); refine bx_ (N := 6) (cs := #[.string (⟨#[]⟩ : ByteArray), .slice none 0 0]) (t := 99) (h := ?_); intro an hg b2 hbox hb; have aR := mk0 (gz_ HB hg); have aE := mk0 (gz_ HB hg); have aG := mk0 (ne1_ ab hg); have aH := mk0 (ne2_ ab hg); replace ae := mk0 (Kd.R_below (r_ ae) hb); replace ab := mk0 (u_ ab hb); replace HB := mk0 (bt_ (b_ HB) hb); have ac := mk0 (hbox); have a9 := aR; have ba := aE; have af := aG; have ar := aH; clear aR aE aG aH hb hbox hg; have bP := ar.out; have bQ := af.out; obtain ⟨bw, bx, bz, bA⟩ := c2_ ac) | ((with_reducible refine gate_callee (f := 142) rfl ?_); refine gL_ (some 19) Try.func142 #[.agg #[.string ((rd_T99 l0_0 aa).f0), .slice ah ((rd_T99 l0_0 aa).f1).length ai], .int .i64 a1] (h := ?_); (with_reducible refine (chain_Look.calls k1 ((rd_T99 l0_0 aa).f0) _ _ ((rd_T99 l0_0 aa).f1) a1 ax aq aI false _ ?side1 ?side2 A8.out).mono ?_); (case side1 => exact Kd.C_below aC.out (b_ HB)); (case side2 => exact aD.out); rintro e b3 ⟨rfl, hb⟩; refine ⟨_, rfl, ?_⟩; have aT := mk0 (Kd.R_below (r2_ (Kd.R_mono (Kd.R_far (p := ⟨an, 1, none⟩) (Kd.R_far (p := ⟨an, 0, none⟩) (Kd.R_types ae.out ac.out (by decide)) (fun _ hk => hk.2) (.string ((rd_T99 l0_0 aa).f0))) (fun _ hk => hk.2) (.slice ah ((rd_T99 l0_0 aa).f1).length ai)) (fun _ h_ => h_.1))) hb); replace ab := mk0 (blk_below (fa_ (fa_ (h_ ab) af.out) af.out) hb); replace ac := mk0 (blk_below (g := an) (o := .cells #[.string ((rd_T99 l0_0 aa).f0), .slice ah ((rd_T99 l0_0 aa).f1).length ai] 99 (0, 0)) (pu_ (cs := #[.string ((rd_T99 l0_0 aa).f0), .slice none 0 0]) (pu_ (cs := #[.string (⟨#[]⟩ : ByteArray), .slice none 0 0]) (h_ ac))) hb); replace HB := mk0 (bt_ (b_ HB) hb); clear ae; have ae := aT; clear aT; (try clear hb)) | ((with_reducible refine gate_dst (N := 7) rfl ?_); refine bx_ (N := 7) (cs := #[.int .i64 0, .string (⟨#[]⟩ : ByteArray), .bool false]) (t := 72) (h := ?_); intro ao hg b4 hbox hb; have aE := mk0 (gz_ HB hg); have aG := mk0 (gz_ HB hg); have aH := mk0 (ne1_ ab hg); have aU := mk0 (ne2_ ab hg); have aV := mk0 (ne1_ ac hg); have aJ := mk0 (ne2_ ac hg); replace ae := mk0 (Kd.R_below (r_ ae) hb); replace ab := mk0 (u_ ab hb); replace ac := mk0 (u_ ac hb); replace HB := mk0 (bt_ (b_ HB) hb); have ap := mk0 (hbox); have bb := aE; have bc := aG; have ad := aH; have au := aU; have ag := aV; have av := aJ; clear aE aG aH aU aV aJ hb hbox hg; have bR := au.out; have bS := ad.out; have bT := av.out; have bU := ag.out; obtain ⟨bB, bC, bD, bE, bF, bG⟩ := c3_ ap))
        go_roundg k1
        case measure => have := aY.out; omega
        case rel => exact ⟨(aw), (wrap64 (aa + 1)), sm_, H', ⟨by have := aY.out; omega⟩, ⟨by (with_reducible repeat (first | apply Ra_ | apply Rn_ | apply Rd_)); exact Kd.R_mono (Kd.R_far (p := ⟨ao, 2, none⟩) (Kd.R_far (p := ⟨ao, 1, none⟩) (Kd.R_far (p := ⟨ao, 0, none⟩) (Kd.R_types ae.out ap.out (by decide)) (fun _ hk => hk.2) (.int .i64 ax)) (fun _ hk => hk.2) (.string aq)) (fun _ hk => hk.2) (.bool aI)) (fun _ hk => trivial)⟩, ⟨(fa_ (fa_ (fa_ (h_ ab) ad.out) ad.out) ad.out)⟩, ⟨b_ HB⟩⟩
      ·rw [if_neg c7] at H
       exact absurd H (by simp)
     ·rw [if_neg c6] at H
      exact absurd H (by simp)
    ·rw [if_neg c5] at H
     have bf := decide_eq_false c5
     clear c5
     obtain rfl := Option.some.inj H
     go_wp2
     go_ret
     exact ⟨_, sa_, by (with_reducible repeat (first | apply Ra_ | apply Rn_ | apply Rd_)); exact ae.out, b_ HB⟩
/-! ### table_Scan: function 78 -/
def table_Scan.j0 : Nat → Int → Int → Bool → Bool → List (S99) → ByteArray → ByteArray → Bool → Option ((List (S82)) × Int)
 | 0, _, _, _, _, _, _, _, _ => none
 | k + 1, x2, x3, x4, x20, x310000, x311000, x311001, x311002 => if x20 = true then (some (([] : List (S82)), 1)) else ((table_Rows.f k x310000 x2).bind fun t313 => ((table_Some.f t313 x311000 x311001 x311002 x3 x4).bind fun t316 => (some (t316, 0))))
def table_Scan.f (k : Nat) (l0_0 : List (S99)) (a1_0 : ByteArray) (a1_1 : ByteArray) (a1_2 : Bool) (a2 : Int) (a3 : Int) (a4 : Bool) : Option ((List (S82)) × Int) := (table_May.f k l0_0).bind fun t311 => (if t311 = true then ((table_Asks.f k a1_0 a1_1 a1_2 a3).bind fun t312 => (table_Scan.j0 k a2 a3 a4 (!t312) l0_0 a1_0 a1_1 a1_2)) else (table_Scan.j0 k a2 a3 a4 true l0_0 a1_0 a1_1 a1_2))
theorem table_Scan.mono_l : ∀ k, (∀ y0 y1 y2 y3 y4 y5 y6 y7, LeO (table_Scan.j0 k y0 y1 y2 y3 y4 y5 y6 y7) (table_Scan.j0 (k + 1) y0 y1 y2 y3 y4 y5 y6 y7))
 | 0 => fun _ _ _ _ _ _ _ _ r h => by simp [table_Scan.j0] at h
 | k + 1 => by
  have ih0 := table_Scan.mono_l k
  all_goals (intros; first | unfold table_Scan.j0)
  all_goals (repeat' first | (with_reducible exact ih0 ..) | (with_reducible exact table_Asks.mono ..) | (with_reducible exact table_May.mono ..) | (with_reducible exact table_Rows.mono ..) | (with_reducible exact LeO.refl _) | (with_reducible exact LeO.none _) | (with_reducible refine LeO.ite ?_ ?_) | (with_reducible refine LeO.bind ?_ (fun _ => ?_)) | exact LeO.none _ | refine LeO.ite ?_ ?_ | refine LeO.bind ?_ (fun _ => ?_))
theorem table_Scan.mono : ∀ a0 a1 a2 a3 a4 a5 a6 k, LeO (table_Scan.f k a0 a1 a2 a3 a4 a5 a6) (table_Scan.f (k + 1) a0 a1 a2 a3 a4 a5 a6) := by
 intro a0 a1 a2 a3 a4 a5 a6 k
 have ih0 := table_Scan.mono_l k
 unfold table_Scan.f
 repeat' first | (with_reducible exact ih0 ..) | (with_reducible exact table_Asks.mono ..) | (with_reducible exact table_May.mono ..) | (with_reducible exact table_Rows.mono ..) | (with_reducible exact LeO.refl _) | (with_reducible exact LeO.none _) | (with_reducible refine LeO.ite ?_ ?_) | (with_reducible refine LeO.bind ?_ (fun _ => ?_)) | exact LeO.none _ | refine LeO.ite ?_ ?_ | refine LeO.bind ?_ (fun _ => ?_)
def table_Scan.T3 : Bool × List (List Nat × List Nat) := (true, [([], []), ([], []), ([0, 1], [0, 1]), ([], []), ([], []), ([], []), ([2, 3, 4, 5, 2], [2, 3, 4, 5]), ([6, 6, 0, 1, 2, 3, 4, 5, 6], [6]), ([7, 0, 1, 2, 3, 4, 5, 6, 7], [])])
def table_Scan.B3 : List Nat := [0, 0, 3, 0, 0, 0, 63, 127, 255]
theorem table_Scan.tab3 : rtab .any (opsOf Try.f78 3) = table_Scan.T3 := by kernel_rfl
theorem table_Scan.bits3 : waitsOk table_Scan.T3.2 table_Scan.B3 = true := by kernel_rfl
theorem table_Scan.calls (k : Nat) (A0_0 : Option Addr) (c0_0 : Nat) (l0_0 : List (S99)) (a1_0 : ByteArray) (a1_1 : ByteArray) (a1_2 : Bool) (a2 : Int) (a3 : Int) (a4 : Bool) (r1 : List (S82)) (r2 : Int) (w : World) (hr0_0 : Kd.C k99 w A0_0 l0_0.length l0_0) (hc0_0 : l0_0.length ≤ c0_0) (h : table_Scan.f k l0_0 a1_0 a1_1 a1_2 a2 a3 a4 = some (r1, r2)) :
  Calls Try.prog 78 #[.agg #[.slice A0_0 l0_0.length c0_0], .agg #[.string a1_0, .string a1_1, .bool a1_2], .int .i64 a2, .int .i64 a3, .bool a4] w fun e w' => ∃ v0_ : Value, e = .returned (.tuple #[v0_, .int .i64 r2]) ∧ Kd.R k82 82 w' w.heap.size (fun _ => True) v0_ r1 ∧ Below w.heap.size w w' := by
 have hu47 := Try.underlying47
 have hu74 := Try.underlying74
 have ah := mk0 hr0_0
 have ai := mk0 hc0_0
 clear hr0_0 hc0_0
 have HB := mk0 (Below.refl w.heap.size w)
 have H : ((table_May.f k l0_0).bind fun ak => (if ak = true then ((table_Asks.f k a1_0 a1_1 a1_2 a3).bind fun aj => (table_Scan.j0 k a2 a3 a4 (!aj) l0_0 a1_0 a1_1 a1_2)) else (table_Scan.j0 k a2 a3 a4 true l0_0 a1_0 a1_1 a1_2))) = some (r1, r2) := h
 clear h
 have HC6 := mk0 H
 clear H
 go_enter Try.func78, Try.ntmps78
 go_upto_region 1 with (first | ((with_reducible refine gate_dst (N := 5) rfl ?_); refine bx_ (N := 5) (cs := #[.slice A0_0 l0_0.length c0_0]) (t := 47) (h := ?_); intro al hg w7 hbox hb; have n2_ := mk0 (gz_ HB hg); have an := mk0 (gz_ HB hg); replace HB := mk0 (bt_ (b_ HB) hb); have ab := mk0 (hbox); have aR := an; clear n2_ an; clear hb hbox hg) | ((with_reducible refine gate_dst (N := 6) rfl ?_); refine bx_ (N := 6) (cs := #[.string a1_0, .string a1_1, .bool a1_2]) (t := 74) (h := ?_); intro af hg w8 hbox hb; have an := mk0 (gz_ HB hg); have au := mk0 (gz_ HB hg); have av := mk0 (ne1_ ab hg); have aw := mk0 (ne2_ ab hg); replace ab := mk0 (u_ ab hb); replace HB := mk0 (bt_ (b_ HB) hb); have aa := mk0 (hbox); have aT := au; have ad := av; have ae := aw; clear an au av aw; clear hb hbox hg))
 (try simp only [Act.put, List.setIfInBounds_toArray, List.set_cons_zero, List.set_cons_succ])
 go_cut [20] (fun v20 wc => ∃ (kq : Nat) (ag : Bool), v20 = .bool ag ∧ Fc (table_Scan.j0 kq a2 a3 a4 ag l0_0 a1_0 a1_1 a1_2 = some (r1, r2)) ∧ Fc (kq ≤ k) ∧ Fc (wc.heap[al]? = some (.cells #[(.slice A0_0 l0_0.length c0_0)] 47 (0, 0))) ∧ Fc (wc.heap[af]? = some (.cells #[.string a1_0, .string a1_1, .bool a1_2] 74 (0, 0))) ∧ Fc (Below w.heap.size w wc))
 case first =>
  have H := HC6.out
  clear HC6
  replace H := ob_ H
  obtain ⟨ak, A9, H⟩ := H
  try dsimp only at H
  by_cases ao : ak = true
  ·subst ao
   rw [if_pos rfl] at H
   replace H := ob_ H
   obtain ⟨aj, aU, H⟩ := H
   try dsimp only at H
   have H' := mk0 H
   clear H
   have aV := ad.out
   have aW := ae.out
   obtain ⟨ax, ay⟩ := c1_ ab
   go_wp2_with (first | ((with_reducible refine gate_callee (f := 95) rfl ?_); refine gL_ (some 13) Try.func95 #[.agg #[.slice A0_0 l0_0.length c0_0]] (h := ?_); (with_reducible refine (table_May.calls k _ _ l0_0 true _ ?side1 ?side2 A9.out).mono ?_); (case side1 => exact cb_ ah HB); (case side2 => exact ai.out); rintro e bb ⟨rfl, hb⟩; refine ⟨_, rfl, ?_⟩; replace ab := mk0 (u_ ab hb); replace aa := mk0 (u_ aa hb); replace HB := mk0 (bt_ (b_ HB) hb); (try clear hb); obtain ⟨az, aA, aC, aD, aE, aG⟩ := c3_ aa) | (go_at_call 88; (with_reducible refine (table_Asks.calls k a1_0 a1_1 a1_2 a3 aj _ aU.out).mono ?_); rintro e bc ⟨rfl, hb⟩; replace ab := mk0 (u_ ab hb); replace aa := mk0 (u_ aa hb); replace HB := mk0 (bt_ (b_ HB) hb); (try clear hb)))
   go_meet
   case rel => exact ⟨_, (!aj), sm_, H', ⟨by first | omega | exact Nat.le_refl _⟩, ⟨h_ ab⟩, ⟨h_ aa⟩, ⟨b_ HB⟩⟩
  ·replace ao := Bool.eq_false_iff.mpr ao
   subst ao
   rw [if_neg nf_] at H
   have H' := mk0 H
   clear H
   have aX := ad.out
   have aY := ae.out
   obtain ⟨aH, aI⟩ := c1_ ab
   go_wp2_with (first | ((with_reducible refine gate_callee (f := 95) rfl ?_); refine gL_ (some 13) Try.func95 #[.agg #[.slice A0_0 l0_0.length c0_0]] (h := ?_); (with_reducible refine (table_May.calls k _ _ l0_0 false _ ?side1 ?side2 A9.out).mono ?_); (case side1 => exact cb_ ah HB); (case side2 => exact ai.out); rintro e bd ⟨rfl, hb⟩; refine ⟨_, rfl, ?_⟩; replace ab := mk0 (u_ ab hb); replace aa := mk0 (u_ aa hb); replace HB := mk0 (bt_ (b_ HB) hb); (try clear hb)))
   go_meet
   case rel => exact ⟨_, (true), sm_, H', ⟨by first | omega | exact Nat.le_refl _⟩, ⟨h_ ab⟩, ⟨h_ aa⟩, ⟨b_ HB⟩⟩
 case rest =>
  clear HC6
  obtain ⟨kq, ag, rfl, HA, be, ab, aa, HB⟩ := hcut
  cases kq with
  | zero => exact absurd HA.out (by simp [table_Scan.j0])
  | succ aZ =>
   have H := HA.out
   clear HA
   simp only [table_Scan.j0] at H
   as_aux_lemma =>
    by_cases ap : ag = true
    ·subst ap
     rw [if_pos rfl] at H
     simp only [Option.some.injEq, Prod.mk.injEq] at H
     obtain ⟨rfl, rfl⟩ := H
     go_wp2
     go_ret2
     exact ⟨_, sa_, nl_, b_ HB⟩
    ·replace ap := Bool.eq_false_iff.mpr ap
     subst ap
     rw [if_neg nf_] at H
     replace H := ob_ H
     obtain ⟨am, a7, H⟩ := H
     try dsimp only at H
     replace H := ob_ H
     obtain ⟨aJ, a8, H⟩ := H
     try dsimp only at H
     simp only [Option.some.injEq, Prod.mk.injEq] at H
     obtain ⟨rfl, rfl⟩ := H
     try go_wp2
     replace ab := mk0 (bD_ ab.out)
     replace aa := mk0 (bD_ aa.out)
     replace HB := mk0 (b1_ HB.out)
     refine start_ (n := 9) (S := fun w' => w'.cell? ⟨al, 0, none⟩ = some (.slice A0_0 l0_0.length c0_0) ∧ w'.cell? ⟨af, 0, none⟩ = some (.string a1_0) ∧ w'.cell? ⟨af, 1, none⟩ = some (.string a1_1) ∧ w'.cell? ⟨af, 2, none⟩ = some (.bool a1_2)) (ds := []) (bt 9 0) (by kernel_rfl) rfl rfl ⟨bk_ ab 0, bk_ aa 0, bk_ aa 1, bk_ aa 2⟩ (fun hHeld => ?_); refine with_tabW table_Scan.tab3 table_Scan.bits3 (fun HT_ HW_ => ?_)
     generalize wc.drew = bf at ab aa HB hHeld ⊢
     refine pq_ HT_.out 1 22 (bt 9 2) (h := ?_)
     refine pq_ HT_.out 4 25 (bt 9 18) (h := ?_)
     refine pq_ HT_.out 5 26 (bt 9 50) (h := ?_)
     refine tq4_ HT_.out HW_.out 0 21 (bt 9 51) hHeld (h := ?_)
     refine tq4_ HT_.out HW_.out 3 24 (bt 9 59) hHeld (h := ?_)
     refine one_ (i := 2) (N := some 23) (bt 9 63) rfl rfl (one_of HT_.out (by kernel_rfl)) (by decide) (fun K hK => ?_)
     refine goes_ Try.func91 (by kernel_rfl) rfl #[.agg #[.slice A0_0 l0_0.length c0_0], .int .i64 a2] (by rfl) rfl rfl gs_ ?_
     with_reducible refine (table_Rows.calls aZ _ _ l0_0 a2 am _ ?side1 ?side2 a7.out).mono ?_
     (case side1 => exact cb_ ah HB)
     (case side2 => exact ai.out)
     rintro e bg ⟨a9, rfl, ho0, hb⟩
     refine ⟨_, rfl, ?_⟩
     have aK := mk0 (Kd.R_lower ho0 (bz_ (b_ HB)))
     replace ab := mk0 (u_ ab hb)
     replace aa := mk0 (u_ aa hb)
     replace HB := mk0 (bt_ (b_ HB) hb)
     have ac := aK
     clear aK
     (try clear hb)
     (try clear hk)
     (try clear hi)
     (try clear ho0)
     obtain ⟨aM, aN, aq⟩ := Kd.R_slice ac.out
     (first | subst aq | (injection aq with f1_ f2_ f3_; have f4_ := f1_.symm; have f5_ := f3_.symm; clear f1_ f2_ f3_; subst f4_; subst f5_))
     refine hK.out _ _ ⟨bk_ ab 0, bk_ aa 0, bk_ aa 1, bk_ aa 2⟩ (fun hHeld => ?_)
     clear hK K
     refine norm_ (a' := ?_) ?_ ?_
     rotate_left
     ·show Act.put _ (some 23) _ = _
      simp only [z_]
      rfl
     refine one_ (i := 6) (N := some 27) (bt 9 127) rfl rfl (one_of HT_.out (by kernel_rfl)) (by decide) (fun K hK => ?_)
     refine goes_ Try.func89 (by kernel_rfl) rfl #[.slice aM am.length aN, .agg #[.string a1_0, .string a1_1, .bool a1_2], .int .i64 a3, .bool a4] (by rfl) rfl rfl gs_ ?_
     with_reducible refine (table_Some.calls _ _ am a1_0 a1_1 a1_2 a3 a4 aJ _ ?side1 ?side2 a8.out).mono ?_
     (case side1 => exact cr_ ac)
     (case side2 => exact (Kd.R_reads' ac.out).2.1)
     rintro e bh ⟨ba, rfl, ho0, hb⟩
     refine ⟨_, rfl, ?_⟩
     have aQ := mk0 (Kd.R_lower (Kd.R_new' ho0 (Kd.R_lt (r_ ac))) (bz_ (b_ HB)))
     replace ac := mk0 (Kd.R_elder' (r_ ac) (Kd.R_base ho0) hb)
     replace ab := mk0 (u_ ab hb)
     replace aa := mk0 (u_ aa hb)
     replace HB := mk0 (bt_ (b_ HB) hb)
     have ar := aQ
     clear aQ
     (try clear hb)
     (try clear hk)
     (try clear hi)
     (try clear ho0)
     refine hK.out _ _ ⟨bk_ ab 0, bk_ aa 0, bk_ aa 1, bk_ aa 2⟩ (fun hHeld => ?_)
     clear hK K
     refine norm_ (a' := ?_) ?_ ?_
     rotate_left
     ·show Act.put _ (some 27) _ = _
      simp only [z_]
      rfl
     refine pq_ HT_.out 7 10 (bt 9 255) (h := ?_)
     refine pq_ HT_.out 8 11 (bt 9 511) (h := ?_)
     refine done_ (done_of HT_.out (by kernel_rfl)) ?_
     try go_wp2
     go_ret2
     exact ⟨_, sa_, by (with_reducible repeat (first | apply Ra_ | apply Rn_ | apply Rd_)); exact Kd.R_mono ar.out (fun _ hk => trivial), b_ HB⟩
end Go.Proofs.Ytbaecdcfefmcgaa.PTbe
