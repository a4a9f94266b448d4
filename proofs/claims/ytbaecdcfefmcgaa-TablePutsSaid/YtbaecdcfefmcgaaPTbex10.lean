-- PRINTED by print.py (a twelfth state) out of the translation. Not trusted: Lean checks it.
import Derived.Test.YtbaecdcfefmcgaaPTbex0
import Derived.Test.YtbaecdcfefmcgaaPTbex1
import Derived.Test.YtbaecdcfefmcgaaPTbex7
import Derived.Test.YtbaecdcfefmcgaaPTbex8
import Derived.Test.YtbaecdcfefmcgaaPTbex9
namespace Go.Proofs.Ytbaecdcfefmcgaa.PTbe
open Go.RowKit Go.Proofs.YtbaecdcfefmcgaaW.PrintWords Go.Proofs.YtbaecdcfefmcgaaW.PrintLast Go.Proofs.YtbaecdcfefmcgaaW.PrintMore
attribute [local go_sem] max2_int min2_int max_two min_two max_three min_three max_four min_four   -- for this text's walks alone
set_option maxHeartbeats 8000000
set_option maxRecDepth 100000
set_option linter.unusedVariables false
set_option linter.unusedSimpArgs false
attribute [local go_sem high] eqA72
/-! ### chain_Look: function 142 -/
def chain_Look.j0 : Nat → Int → Bool → ByteArray → List (S72) → Option (Int × ByteArray × Bool × Bool)
 | 0, _, _, _, _ => none
 | k + 1, x6, x22, x263000, x263001 => if x22 = true then (some (0, (⟨#[]⟩ : ByteArray), false, false)) else (if 0 ≤ x6 then (if x6 < (x263001.length : Int) then (some ((rd_T72 x263001 x6).f0, (rd_T72 x263001 x6).f1, (rd_T72 x263001 x6).f2, true)) else (none)) else (none))
def chain_Look.f (k : Nat) (a0_0 : ByteArray) (l0_1 : List (S72)) (a1 : Int) : Option (Int × ByteArray × Bool × Bool) := (chain_place.f a0_0 l0_1 a1).bind fun t264 => (if t264 = (l0_1.length : Int) then (chain_Look.j0 k t264 true a0_0 l0_1) else (if 0 ≤ t264 then (if t264 < (l0_1.length : Int) then (chain_Look.j0 k t264 ((rd_T72 l0_1 t264).f2) a0_0 l0_1) else (none)) else (none)))
theorem chain_Look.mono_l : ∀ k, (∀ y0 y1 y2 y3, LeO (chain_Look.j0 k y0 y1 y2 y3) (chain_Look.j0 (k + 1) y0 y1 y2 y3))
 | 0 => fun _ _ _ _ r h => by simp [chain_Look.j0] at h
 | k + 1 => by
  have ih0 := chain_Look.mono_l k
  all_goals (intros; first | unfold chain_Look.j0)
  all_goals (repeat' first | (with_reducible exact ih0 ..) | (with_reducible exact LeO.refl _) | (with_reducible exact LeO.none _) | (with_reducible refine LeO.ite ?_ ?_) | (with_reducible refine LeO.bind ?_ (fun _ => ?_)) | exact LeO.none _ | refine LeO.ite ?_ ?_ | refine LeO.bind ?_ (fun _ => ?_))
theorem chain_Look.mono : ∀ a0 a1 a2 k, LeO (chain_Look.f k a0 a1 a2) (chain_Look.f (k + 1) a0 a1 a2) := by
 intro a0 a1 a2 k
 have ih0 := chain_Look.mono_l k
 unfold chain_Look.f
 repeat' first | (with_reducible exact ih0 ..) | (with_reducible exact LeO.refl _) | (with_reducible exact LeO.none _) | (with_reducible refine LeO.ite ?_ ?_) | (with_reducible refine LeO.bind ?_ (fun _ => ?_)) | exact LeO.none _ | refine LeO.ite ?_ ?_ | refine LeO.bind ?_ (fun _ => ?_)
theorem chain_Look.calls (k : Nat) (a0_0 : ByteArray) (A0_1 : Option Addr) (c0_1 : Nat) (l0_1 : List (S72)) (a1 : Int) (r1 : Int) (r2 : ByteArray) (r3 : Bool) (r4 : Bool) (w : World) (hr0_1 : Kd.C k72 w A0_1 l0_1.length l0_1) (hc0_1 : l0_1.length ≤ c0_1) (h : chain_Look.f k a0_0 l0_1 a1 = some (r1, r2, r3, r4)) :
  Calls Try.prog 142 #[.agg #[.string a0_0, .slice A0_1 l0_1.length c0_1], .int .i64 a1] w fun e w' => e = .returned (.tuple #[.agg #[.int .i64 r1, .string r2, .bool r3], .bool r4]) ∧ Below w.heap.size w w' := by
 have hu99 := Try.underlying99
 have hu72 := Try.underlying72
 have ao := mk0 hr0_1
 have aG := mk0 hc0_1
 clear hr0_1 hc0_1
 have HB := mk0 (Below.refl w.heap.size w)
 have H : ((chain_place.f a0_0 l0_1 a1).bind fun aa => (if aa = (l0_1.length : Int) then (chain_Look.j0 k aa true a0_0 l0_1) else (if 0 ≤ aa then (if aa < (l0_1.length : Int) then (chain_Look.j0 k aa ((rd_T72 l0_1 aa).f2) a0_0 l0_1) else (none)) else (none)))) = some (r1, r2, r3, r4) := h
 clear h
 replace H := ob_ H
 obtain ⟨aa, A3, H⟩ := H
 try dsimp only at H
 have HC4 := mk0 H
 clear H
 go_enter Try.func142, Try.ntmps142
 go_upto_region 2 with (first | ((with_reducible refine gate_dst (N := 2) rfl ?_); refine bx_ (N := 2) (cs := #[.string a0_0, .slice A0_1 l0_1.length c0_1]) (t := 99) (h := ?_); intro aH hg w5 hbox hb; have n2_ := mk0 (gz_ HB hg); have aw := mk0 (gz_ HB hg); replace HB := mk0 (bt_ (b_ HB) hb); have ab := mk0 (hbox); have bg := aw; clear n2_ aw; clear hb hbox hg) | ((with_reducible refine gate_dst (N := 4) rfl ?_); refine bx_ (N := 4) (cs := #[.int .i64 0, .string (⟨#[]⟩ : ByteArray), .bool false]) (t := 72) (h := ?_); intro ag hg w6 hbox hb; have aw := mk0 (gz_ HB hg); have aJ := mk0 (gz_ HB hg); have aK := mk0 (ne1_ ab hg); have aL := mk0 (ne2_ ab hg); replace ab := mk0 (u_ ab hb); replace HB := mk0 (bt_ (b_ HB) hb); have ae := mk0 (hbox); have bh := aJ; have ac := aK; have ad := aL; clear aw aJ aK aL hb hbox hg; have bw := ac.out; have bx := ad.out; obtain ⟨ax, ay, az, aA⟩ := c2_ ab) | ((with_reducible refine gate_callee (f := 178) rfl ?_); refine gL_ (some 9) Try.func178 #[.agg #[.string a0_0, .slice A0_1 l0_1.length c0_1], .int .i64 a1] (h := ?_); (with_reducible refine (chain_place.calls a0_0 _ _ l0_1 a1 aa _ ?side1 ?side2 A3.out).mono ?_); (case side1 => exact cb_ ao HB); (case side2 => exact aG.out); rintro e w9 ⟨rfl, hb⟩; refine ⟨_, rfl, ?_⟩; replace ab := mk0 (u_ ab hb); replace ae := mk0 (blk_below (g := ag) (o := .cells #[.int .i64 0, .string (⟨#[]⟩ : ByteArray), .bool false] 72 (0, 0)) (h_ ae) hb); replace HB := mk0 (bt_ (b_ HB) hb); (try clear hb)))
 (try simp only [Act.put, List.setIfInBounds_toArray, List.set_cons_zero, List.set_cons_succ])
 go_cut [22] (fun v22 wc => ∃ (kq : Nat) (ah : Bool), v22 = .bool ah ∧ Fc (chain_Look.j0 kq aa ah a0_0 l0_1 = some (r1, r2, r3, r4)) ∧ Fc (kq ≤ k) ∧ Fc (wc.heap[aH]? = some (.cells #[.string a0_0, (.slice A0_1 l0_1.length c0_1)] 99 (0, 0))) ∧ Fc (wc.heap[ag]? = some (.cells #[.int .i64 0, .string (⟨#[]⟩ : ByteArray), .bool false] 72 (0, 0))) ∧ Fc (Below w.heap.size w wc))
 case first =>
  have H := HC4.out
  clear HC4
  by_cases ap : aa = (l0_1.length : Int)
  ·rw [if_pos ap] at H
   have af := beq_iff_eq.mpr ap
   have aI := bne_eq_false_iff_eq.mpr ap
   clear ap
   (first | rw [af] | (simp only [i64_w, i32_w]; rw [af]) | skip)
   have H' := mk0 H
   clear H
   have bi := ac.out
   have bj := ad.out
   obtain ⟨aM, aN, aO, aP⟩ := c2_ ab
   go_wp2
   go_meet
   case rel => exact ⟨_, (true), sm_, H', ⟨by first | omega | exact Nat.le_refl _⟩, ⟨h_ ab⟩, ⟨h_ ae⟩, ⟨b_ HB⟩⟩
  ·rw [if_neg ap] at H
   have af := beq_eq_false_iff_ne.mpr ap
   have aI := bne_iff_ne.mpr ap
   (first | rw [af] | (simp only [i64_w, i32_w]; rw [af]) | skip)
   by_cases aB : 0 ≤ aa
   ·rw [if_pos aB] at H
    have bk := decide_eq_true aB
    clear aB
    by_cases aC : aa < (l0_1.length : Int)
    ·rw [if_pos aC] at H
     have bl := decide_eq_true aC
     clear aC
     have H' := mk0 H
     clear H
     have bm := ac.out
     have bn := ad.out
     obtain ⟨aQ, aR, aS, aT⟩ := c2_ ab
     have aq : 0 ≤ (aa : Int) := od_
     have ar : aa < (l0_1.length : Int) := od_
     obtain ⟨bo, aU, ai, aj, ak⟩ := at_T72 ao.out aa aq ar
     cases aU
     replace ai := (bc_ HB ai :)
     replace aj := (bc_ HB aj :)
     replace ak := (bc_ HB ak :)
     replace aq := eq_true aq
     replace ar := eq_true ar
     go_wp2
     go_meet
     case rel => exact ⟨_, ((rd_T72 l0_1 aa).f2), sm_, H', ⟨by first | omega | exact Nat.le_refl _⟩, ⟨h_ ab⟩, ⟨h_ ae⟩, ⟨b_ HB⟩⟩
    ·rw [if_neg aC] at H
     exact absurd H (by simp)
   ·rw [if_neg aB] at H
    exact absurd H (by simp)
 case rest =>
  clear HC4
  try clear ax
  try clear ay
  try clear az
  try clear aA
  obtain ⟨kq, ah, rfl, HA, bz, ab, ae, HB⟩ := hcut
  cases kq with
  | zero => exact absurd HA.out (by simp [chain_Look.j0])
  | succ bA =>
   have H := HA.out
   clear HA
   simp only [chain_Look.j0] at H
   as_aux_lemma =>
    by_cases aD : ah = true
    ·subst aD
     rw [if_pos rfl] at H
     simp only [Option.some.injEq, Prod.mk.injEq] at H
     obtain ⟨rfl, rfl, rfl, rfl⟩ := H
     have bp := ad.out
     have bq := ac.out
     obtain ⟨aV, aW, aX, aY, aZ, a4⟩ := c3_ ae
     go_wp2
     refine bodyPost_ret (results_ct rfl _ _ ag 72 #[.int .i64 0, .string (⟨#[]⟩ : ByteArray), .bool false] (0, 0) _ rfl (pu_ (cs := #[.int .i64 0, .string (⟨#[]⟩ : ByteArray), .bool false]) (pu_ (cs := #[.int .i64 0, .string (⟨#[]⟩ : ByteArray), .bool false]) (pu_ (cs := #[.int .i64 0, .string (⟨#[]⟩ : ByteArray), .bool false]) (h_ ae)))) Try.underlying72 rfl (by kernel_rfl)) rfl ?_
     exact ⟨sa_, b_ HB⟩
    ·replace aD := Bool.eq_false_iff.mpr aD
     subst aD
     rw [if_neg nf_] at H
     by_cases aE : 0 ≤ aa
     ·rw [if_pos aE] at H
      have br := decide_eq_true aE
      clear aE
      by_cases aF : aa < (l0_1.length : Int)
      ·rw [if_pos aF] at H
       have bs := decide_eq_true aF
       clear aF
       simp only [Option.some.injEq, Prod.mk.injEq] at H
       obtain ⟨rfl, rfl, rfl, rfl⟩ := H
       have bt := ac.out
       have bu := ad.out
       obtain ⟨a5, a6, a7, a8⟩ := c2_ ab
       have au : 0 ≤ (aa : Int) := od_
       have av : aa < (l0_1.length : Int) := od_
       obtain ⟨bv, a9, al, am, an⟩ := at_T72 ao.out aa au av
       cases a9
       replace al := (bc_ HB al :)
       replace am := (bc_ HB am :)
       replace an := (bc_ HB an :)
       replace au := eq_true au
       replace av := eq_true av
       obtain ⟨ba, bb, bc, bd, be, bf⟩ := c3_ ae
       go_wp2
       refine bodyPost_ret (results_ct rfl _ _ ag 72 #[.int .i64 ((rd_T72 l0_1 aa).f0), .string ((rd_T72 l0_1 aa).f1), .bool ((rd_T72 l0_1 aa).f2)] (0, 0) _ rfl (pu_ (cs := #[.int .i64 ((rd_T72 l0_1 aa).f0), .string ((rd_T72 l0_1 aa).f1), .bool false]) (pu_ (cs := #[.int .i64 ((rd_T72 l0_1 aa).f0), .string (⟨#[]⟩ : ByteArray), .bool false]) (pu_ (cs := #[.int .i64 0, .string (⟨#[]⟩ : ByteArray), .bool false]) (h_ ae)))) Try.underlying72 rfl (by kernel_rfl)) rfl ?_
       exact ⟨sa_, b_ HB⟩
      ·rw [if_neg aF] at H
       exact absurd H (by simp)
     ·rw [if_neg aE] at H
      exact absurd H (by simp)
/-! ### table_Look: function 99 -/
def table_Look.f (k : Nat) (l0_0 : List (S99)) (a1 : ByteArray) (a2 : Int) : Option (ByteArray × Bool) := (table_seek.f l0_0 a1).bind fun bt268 => (if bt268.2 = true then (if 0 ≤ bt268.1 then (if bt268.1 < (l0_0.length : Int) then ((chain_Look.f k ((rd_T99 l0_0 bt268.1).f0) ((rd_T99 l0_0 bt268.1).f1) a2).bind fun bt271 => (some (bt271.2.1, bt271.2.2.2))) else (none)) else (none)) else (some ((⟨#[]⟩ : ByteArray), false)))
theorem table_Look.mono : ∀ a0 a1 a2 k, LeO (table_Look.f k a0 a1 a2) (table_Look.f (k + 1) a0 a1 a2) := by
 intro a0 a1 a2 k
 unfold table_Look.f
 repeat' first | (with_reducible exact chain_Look.mono ..) | (with_reducible exact LeO.refl _) | (with_reducible exact LeO.none _) | (with_reducible refine LeO.ite ?_ ?_) | (with_reducible refine LeO.bind ?_ (fun _ => ?_)) | exact LeO.none _ | refine LeO.ite ?_ ?_ | refine LeO.bind ?_ (fun _ => ?_)
theorem table_Look.calls (k : Nat) (A0_0 : Option Addr) (c0_0 : Nat) (l0_0 : List (S99)) (a1 : ByteArray) (a2 : Int) (r1 : ByteArray) (r2 : Bool) (w : World) (hr0_0 : Kd.C k99 w A0_0 l0_0.length l0_0) (hc0_0 : l0_0.length ≤ c0_0) (h : table_Look.f k l0_0 a1 a2 = some (r1, r2)) :
  Calls Try.prog 99 #[.agg #[.slice A0_0 l0_0.length c0_0], .string a1, .int .i64 a2] w fun e w' => e = .returned (.tuple #[.string r1, .bool r2]) ∧ Below w.heap.size w w' := by
 have hu47 := Try.underlying47
 have hu99 := Try.underlying99
 have hu72 := Try.underlying72
 have ag := mk0 hr0_0
 have ak := mk0 hc0_0
 clear hr0_0 hc0_0
 have HB := mk0 (Below.refl w.heap.size w)
 have H : ((table_seek.f l0_0 a1).bind fun bt268 => (if bt268.2 = true then (if 0 ≤ bt268.1 then (if bt268.1 < (l0_0.length : Int) then ((chain_Look.f k ((rd_T99 l0_0 bt268.1).f0) ((rd_T99 l0_0 bt268.1).f1) a2).bind fun bt271 => (some (bt271.2.1, bt271.2.2.2))) else (none)) else (none)) else (some ((⟨#[]⟩ : ByteArray), false)))) = some (r1, r2) := h
 clear h
 replace H := ob_ H
 obtain ⟨⟨ab, ax⟩, A4, H⟩ := H
 try dsimp only at H
 by_cases c5 : ax = true
 ·subst c5
  rw [if_pos rfl] at H
  by_cases c6 : 0 ≤ ab
  ·rw [if_pos c6] at H
   have aX := decide_eq_true c6
   clear c6
   by_cases c7 : ab < (l0_0.length : Int)
   ·rw [if_pos c7] at H
    have aY := decide_eq_true c7
    clear c7
    replace H := ob_ H
    obtain ⟨⟨ay, az, aA, aB⟩, A8, H⟩ := H
    try dsimp only at H
    simp only [Option.some.injEq, Prod.mk.injEq] at H
    obtain ⟨rfl, rfl⟩ := H
    go_enter Try.func99, Try.ntmps99
    go_wp2_with (first | ((with_reducible refine gate_dst (N := 3) rfl ?_); refine bx_ (N := 3) (cs := #[.slice A0_0 l0_0.length c0_0]) (t := 47) (h := ?_); intro ar hg w9 hbox hb; have n2_ := mk0 (gz_ HB hg); have ah := mk0 (gz_ HB hg); replace HB := mk0 (bt_ (b_ HB) hb); have aa := mk0 (hbox); have au := n2_; have av := ah; clear n2_ ah hb hbox hg; obtain ⟨aC, aD⟩ := c1_ aa) | ((with_reducible refine gate_callee (f := 126) rfl ?_); refine gL_ (some 14) Try.func126 #[.agg #[.slice A0_0 l0_0.length c0_0], .string a1] (h := ?_); (with_reducible refine (table_seek.calls _ _ l0_0 a1 ab true _ ?side1 ?side2 A4.out).mono ?_); (case side1 => exact cb_ ag HB); (case side2 => exact ak.out); rintro e aZ ⟨rfl, hb⟩; refine ⟨_, rfl, ?_⟩; replace aa := mk0 (u_ aa hb); replace HB := mk0 (bt_ (b_ HB) hb); (try clear hb); obtain ⟨aE, aF⟩ := c1_ aa; have al : 0 ≤ (ab : Int) := od_; have am : ab < (l0_0.length : Int) := od_; obtain ⟨aS, ap, aq, aG, ac, ad, ae, af⟩ := at_T99 ag.out ab al am; cases aG; replace ac := (bc_ HB ac :); replace ad := (bc_ HB ad :); have an := mk0 af; have ao := mk0 ae; clear af ae; replace al := eq_true al; replace am := eq_true am) | ((with_reducible refine gate_callee (f := 142) rfl ?_); refine gL_ (some 26) Try.func142 #[.agg #[.string ((rd_T99 l0_0 ab).f0), .slice ap ((rd_T99 l0_0 ab).f1).length aq], .int .i64 a2] (h := ?_); (with_reducible refine (chain_Look.calls k ((rd_T99 l0_0 ab).f0) _ _ ((rd_T99 l0_0 ab).f1) a2 ay az aA aB _ ?side1 ?side2 A8.out).mono ?_); (case side1 => exact cb_ an HB); (case side2 => exact ao.out); rintro e a4 ⟨rfl, hb⟩; refine ⟨_, rfl, ?_⟩; replace aa := mk0 (u_ aa hb); replace HB := mk0 (bt_ (b_ HB) hb); (try clear hb)) | ((with_reducible refine gate_dst (N := 10) rfl ?_); refine bx_ (N := 10) (cs := #[.int .i64 0, .string (⟨#[]⟩ : ByteArray), .bool false]) (t := 72) (h := ?_); intro aT hg a5 hbox hb; have ah := mk0 (gz_ HB hg); have aH := mk0 (gz_ HB hg); have aI := mk0 (ne1_ aa hg); have aJ := mk0 (ne2_ aa hg); replace aa := mk0 (u_ aa hb); replace HB := mk0 (bt_ (b_ HB) hb); have aw := mk0 (hbox); have aU := aH; have ai := aI; have aj := aJ; clear ah aH aI aJ hb hbox hg; have aV := aj.out; have aW := ai.out; obtain ⟨aK, aL, aM, aN, aO, aP⟩ := c3_ aw))
    go_ret2
    exact ⟨sa_, b_ HB⟩
   ·rw [if_neg c7] at H
    exact absurd H (by simp)
  ·rw [if_neg c6] at H
   exact absurd H (by simp)
 ·replace c5 := Bool.eq_false_iff.mpr c5
  subst c5
  rw [if_neg nf_] at H
  simp only [Option.some.injEq, Prod.mk.injEq] at H
  obtain ⟨rfl, rfl⟩ := H
  go_enter Try.func99, Try.ntmps99
  go_wp2_with (first | ((with_reducible refine gate_dst (N := 3) rfl ?_); refine bx_ (N := 3) (cs := #[.slice A0_0 l0_0.length c0_0]) (t := 47) (h := ?_); intro ar hg a6 hbox hb; have n2_ := mk0 (gz_ HB hg); have ah := mk0 (gz_ HB hg); replace HB := mk0 (bt_ (b_ HB) hb); have aa := mk0 (hbox); have au := n2_; have av := ah; clear n2_ ah hb hbox hg; obtain ⟨aQ, aR⟩ := c1_ aa) | ((with_reducible refine gate_callee (f := 126) rfl ?_); refine gL_ (some 14) Try.func126 #[.agg #[.slice A0_0 l0_0.length c0_0], .string a1] (h := ?_); (with_reducible refine (table_seek.calls _ _ l0_0 a1 ab false _ ?side1 ?side2 A4.out).mono ?_); (case side1 => exact cb_ ag HB); (case side2 => exact ak.out); rintro e a7 ⟨rfl, hb⟩; refine ⟨_, rfl, ?_⟩; replace aa := mk0 (u_ aa hb); replace HB := mk0 (bt_ (b_ HB) hb); (try clear hb)))
  go_ret2
  exact ⟨sa_, b_ HB⟩
/-! ### table_Get: function 73 -/
def table_Get.j0 : Nat → ByteArray → Int → Bool → List (S99) → Option (ByteArray × Int)
 | 0, _, _, _, _ => none
 | k + 1, x1, x2, x17, x277000 => if x17 = true then (some ((⟨#[]⟩ : ByteArray), 1)) else ((table_Look.f k x277000 x1 x2).bind fun bt279 => (if bt279.2 = true then (some (bt279.1, 0)) else (some ((⟨#[]⟩ : ByteArray), 3))))
def table_Get.f (k : Nat) (l0_0 : List (S99)) (a1 : ByteArray) (a2 : Int) : Option (ByteArray × Int) := (table_May.f k l0_0).bind fun t277 => (if t277 = true then ((key_Is.f a1).bind fun t278 => (table_Get.j0 k a1 a2 (!t278) l0_0)) else (table_Get.j0 k a1 a2 true l0_0))
theorem table_Get.mono_l : ∀ k, (∀ y0 y1 y2 y3, LeO (table_Get.j0 k y0 y1 y2 y3) (table_Get.j0 (k + 1) y0 y1 y2 y3))
 | 0 => fun _ _ _ _ r h => by simp [table_Get.j0] at h
 | k + 1 => by
  have ih0 := table_Get.mono_l k
  all_goals (intros; first | unfold table_Get.j0)
  all_goals (repeat' first | (with_reducible exact ih0 ..) | (with_reducible exact table_Look.mono ..) | (with_reducible exact table_May.mono ..) | (with_reducible exact LeO.refl _) | (with_reducible exact LeO.none _) | (with_reducible refine LeO.ite ?_ ?_) | (with_reducible refine LeO.bind ?_ (fun _ => ?_)) | exact LeO.none _ | refine LeO.ite ?_ ?_ | refine LeO.bind ?_ (fun _ => ?_))
theorem table_Get.mono : ∀ a0 a1 a2 k, LeO (table_Get.f k a0 a1 a2) (table_Get.f (k + 1) a0 a1 a2) := by
 intro a0 a1 a2 k
 have ih0 := table_Get.mono_l k
 unfold table_Get.f
 repeat' first | (with_reducible exact ih0 ..) | (with_reducible exact table_Look.mono ..) | (with_reducible exact table_May.mono ..) | (with_reducible exact LeO.refl _) | (with_reducible exact LeO.none _) | (with_reducible refine LeO.ite ?_ ?_) | (with_reducible refine LeO.bind ?_ (fun _ => ?_)) | exact LeO.none _ | refine LeO.ite ?_ ?_ | refine LeO.bind ?_ (fun _ => ?_)
theorem table_Get.calls (k : Nat) (A0_0 : Option Addr) (c0_0 : Nat) (l0_0 : List (S99)) (a1 : ByteArray) (a2 : Int) (r1 : ByteArray) (r2 : Int) (w : World) (hr0_0 : Kd.C k99 w A0_0 l0_0.length l0_0) (hc0_0 : l0_0.length ≤ c0_0) (h : table_Get.f k l0_0 a1 a2 = some (r1, r2)) :
  Calls Try.prog 73 #[.agg #[.slice A0_0 l0_0.length c0_0], .string a1, .int .i64 a2] w fun e w' => e = .returned (.tuple #[.string r1, .int .i64 r2]) ∧ Below w.heap.size w w' := by
 have hu47 := Try.underlying47
 have ab := mk0 hr0_0
 have ac := mk0 hc0_0
 clear hr0_0 hc0_0
 have HB := mk0 (Below.refl w.heap.size w)
 have H : ((table_May.f k l0_0).bind fun af => (if af = true then ((key_Is.f a1).bind fun ae => (table_Get.j0 k a1 a2 (!ae) l0_0)) else (table_Get.j0 k a1 a2 true l0_0))) = some (r1, r2) := h
 clear h
 have HC4 := mk0 H
 clear H
 go_enter Try.func73, Try.ntmps73
 go_upto_region 1 with (first | ((with_reducible refine gate_dst (N := 3) rfl ?_); refine bx_ (N := 3) (cs := #[.slice A0_0 l0_0.length c0_0]) (t := 47) (h := ?_); intro aj hg w5 hbox hb; have n2_ := mk0 (gz_ HB hg); have ak := mk0 (gz_ HB hg); replace HB := mk0 (bt_ (b_ HB) hb); have aa := mk0 (hbox); have ay := ak; clear n2_ ak; clear hb hbox hg))
 (try simp only [Act.put, List.setIfInBounds_toArray, List.set_cons_zero, List.set_cons_succ])
 go_cut [17] (fun v17 wc => ∃ (kq : Nat) (ad : Bool), v17 = .bool ad ∧ Fc (table_Get.j0 kq a1 a2 ad l0_0 = some (r1, r2)) ∧ Fc (kq ≤ k) ∧ Fc (wc.heap[aj]? = some (.cells #[(.slice A0_0 l0_0.length c0_0)] 47 (0, 0))) ∧ Fc (Below w.heap.size w wc))
 case first =>
  have H := HC4.out
  clear HC4
  replace H := ob_ H
  obtain ⟨af, A6, H⟩ := H
  try dsimp only at H
  by_cases c7 : af = true
  ·subst c7
   rw [if_pos rfl] at H
   replace H := ob_ H
   obtain ⟨ae, A8, H⟩ := H
   try dsimp only at H
   have H' := mk0 H
   clear H
   obtain ⟨aw, ax⟩ := c1_ aa
   go_wp2_with (first | ((with_reducible refine gate_callee (f := 95) rfl ?_); refine gL_ (some 11) Try.func95 #[.agg #[.slice A0_0 l0_0.length c0_0]] (h := ?_); (with_reducible refine (table_May.calls k _ _ l0_0 true _ ?side1 ?side2 A6.out).mono ?_); (case side1 => exact cb_ ab HB); (case side2 => exact ac.out); rintro e az ⟨rfl, hb⟩; refine ⟨_, rfl, ?_⟩; replace aa := mk0 (u_ aa hb); replace HB := mk0 (bt_ (b_ HB) hb); (try clear hb)) | (go_at_call 42; (with_reducible refine (key_Is.calls a1 ae _ A8.out).mono ?_); rintro e w' ⟨rfl, ⟨nd, rfl⟩⟩))
   go_meet
   case rel => exact ⟨_, (!ae), sm_, H', ⟨by first | omega | exact Nat.le_refl _⟩, ⟨h_ aa⟩, ⟨b_ HB⟩⟩
  ·replace c7 := Bool.eq_false_iff.mpr c7
   subst c7
   rw [if_neg nf_] at H
   have H' := mk0 H
   clear H
   obtain ⟨al, am⟩ := c1_ aa
   go_wp2_with (first | ((with_reducible refine gate_callee (f := 95) rfl ?_); refine gL_ (some 11) Try.func95 #[.agg #[.slice A0_0 l0_0.length c0_0]] (h := ?_); (with_reducible refine (table_May.calls k _ _ l0_0 false _ ?side1 ?side2 A6.out).mono ?_); (case side1 => exact cb_ ab HB); (case side2 => exact ac.out); rintro e aA ⟨rfl, hb⟩; refine ⟨_, rfl, ?_⟩; replace aa := mk0 (u_ aa hb); replace HB := mk0 (bt_ (b_ HB) hb); (try clear hb)))
   go_meet
   case rel => exact ⟨_, (true), sm_, H', ⟨by first | omega | exact Nat.le_refl _⟩, ⟨h_ aa⟩, ⟨b_ HB⟩⟩
 case rest =>
  clear HC4
  obtain ⟨kq, ad, rfl, HA, aB, aa, HB⟩ := hcut
  cases kq with
  | zero => exact absurd HA.out (by simp [table_Get.j0])
  | succ an =>
   have H := HA.out
   clear HA
   simp only [table_Get.j0] at H
   as_aux_lemma =>
    by_cases ag : ad = true
    ·subst ag
     rw [if_pos rfl] at H
     simp only [Option.some.injEq, Prod.mk.injEq] at H
     obtain ⟨rfl, rfl⟩ := H
     go_wp2
     go_ret2
     exact ⟨sa_, b_ HB⟩
    ·replace ag := Bool.eq_false_iff.mpr ag
     subst ag
     rw [if_neg nf_] at H
     replace H := ob_ H
     obtain ⟨⟨ai, ao⟩, ap, H⟩ := H
     try dsimp only at H
     by_cases ah : ao = true
     ·subst ah
      rw [if_pos rfl] at H
      simp only [Option.some.injEq, Prod.mk.injEq] at H
      obtain ⟨rfl, rfl⟩ := H
      obtain ⟨aq, ar⟩ := c1_ aa
      go_wp2_with (first | ((with_reducible refine gate_callee (f := 99) rfl ?_); refine gL_ (some 22) Try.func99 #[.agg #[.slice A0_0 l0_0.length c0_0], .string a1, .int .i64 a2] (h := ?_); (with_reducible refine (table_Look.calls an _ _ l0_0 a1 a2 ai true _ ?side1 ?side2 ap.out).mono ?_); (case side1 => exact cb_ ab HB); (case side2 => exact ac.out); rintro e aC ⟨rfl, hb⟩; refine ⟨_, rfl, ?_⟩; replace aa := mk0 (u_ aa hb); replace HB := mk0 (bt_ (b_ HB) hb); (try clear hb)))
      go_ret2
      exact ⟨sa_, b_ HB⟩
     ·replace ah := Bool.eq_false_iff.mpr ah
      subst ah
      rw [if_neg nf_] at H
      simp only [Option.some.injEq, Prod.mk.injEq] at H
      obtain ⟨rfl, rfl⟩ := H
      obtain ⟨au, av⟩ := c1_ aa
      go_wp2_with (first | ((with_reducible refine gate_callee (f := 99) rfl ?_); refine gL_ (some 22) Try.func99 #[.agg #[.slice A0_0 l0_0.length c0_0], .string a1, .int .i64 a2] (h := ?_); (with_reducible refine (table_Look.calls an _ _ l0_0 a1 a2 ai false _ ?side1 ?side2 ap.out).mono ?_); (case side1 => exact cb_ ab HB); (case side2 => exact ac.out); rintro e aD ⟨rfl, hb⟩; refine ⟨_, rfl, ?_⟩; replace aa := mk0 (u_ aa hb); replace HB := mk0 (bt_ (b_ HB) hb); (try clear hb)))
      go_ret2
      exact ⟨sa_, b_ HB⟩
/-! ### table_Count: function 74 -/
def table_Count.f (k : Nat) (l0_0 : List (S99)) : Option (Int × Int) := (table_May.f k l0_0).bind fun t282 => (if t282 = true then ((table_Rooms.f k l0_0).bind fun t283 => (some (t283, 0))) else (some (0, 1)))
theorem table_Count.mono : ∀ a0 k, LeO (table_Count.f k a0) (table_Count.f (k + 1) a0) := by
 intro a0 k
 unfold table_Count.f
 repeat' first | (with_reducible exact table_May.mono ..) | (with_reducible exact table_Rooms.mono ..) | (with_reducible exact LeO.refl _) | (with_reducible exact LeO.none _) | (with_reducible refine LeO.ite ?_ ?_) | (with_reducible refine LeO.bind ?_ (fun _ => ?_)) | exact LeO.none _ | refine LeO.ite ?_ ?_ | refine LeO.bind ?_ (fun _ => ?_)
theorem table_Count.calls (k : Nat) (A0_0 : Option Addr) (c0_0 : Nat) (l0_0 : List (S99)) (r1 : Int) (r2 : Int) (w : World) (hr0_0 : Kd.C k99 w A0_0 l0_0.length l0_0) (hc0_0 : l0_0.length ≤ c0_0) (h : table_Count.f k l0_0 = some (r1, r2)) :
  Calls Try.prog 74 #[.agg #[.slice A0_0 l0_0.length c0_0]] w fun e w' => e = .returned (.tuple #[.int .i64 r1, .int .i64 r2]) ∧ Below w.heap.size w w' := by
 have hu47 := Try.underlying47
 have ab := mk0 hr0_0
 have ac := mk0 hc0_0
 clear hr0_0 hc0_0
 have HB := mk0 (Below.refl w.heap.size w)
 have H : ((table_May.f k l0_0).bind fun ad => (if ad = true then ((table_Rooms.f k l0_0).bind fun ae => (some (ae, 0))) else (some (0, 1)))) = some (r1, r2) := h
 clear h
 replace H := ob_ H
 obtain ⟨ad, A2, H⟩ := H
 try dsimp only at H
 by_cases c3 : ad = true
 ·subst c3
  rw [if_pos rfl] at H
  replace H := ob_ H
  obtain ⟨ae, A4, H⟩ := H
  try dsimp only at H
  simp only [Option.some.injEq, Prod.mk.injEq] at H
  obtain ⟨rfl, rfl⟩ := H
  go_enter Try.func74, Try.ntmps74
  go_wp2_with (first | ((with_reducible refine gate_dst (N := 1) rfl ?_); refine bx_ (N := 1) (cs := #[.slice A0_0 l0_0.length c0_0]) (t := 47) (h := ?_); intro ag hg w5 hbox hb; have n2_ := mk0 (gz_ HB hg); have af := mk0 (gz_ HB hg); replace HB := mk0 (bt_ (b_ HB) hb); have aa := mk0 (hbox); have ah := n2_; have ai := af; clear n2_ af hb hbox hg; obtain ⟨al, am⟩ := c1_ aa) | ((with_reducible refine gate_callee (f := 95) rfl ?_); refine gL_ (some 5) Try.func95 #[.agg #[.slice A0_0 l0_0.length c0_0]] (h := ?_); (with_reducible refine (table_May.calls k _ _ l0_0 true _ ?side1 ?side2 A2.out).mono ?_); (case side1 => exact cb_ ab HB); (case side2 => exact ac.out); rintro e w7 ⟨rfl, hb⟩; refine ⟨_, rfl, ?_⟩; replace aa := mk0 (u_ aa hb); replace HB := mk0 (bt_ (b_ HB) hb); (try clear hb); obtain ⟨an, ao⟩ := c1_ aa) | ((with_reducible refine gate_callee (f := 122) rfl ?_); refine gL_ (some 8) Try.func122 #[.agg #[.slice A0_0 l0_0.length c0_0]] (h := ?_); (with_reducible refine (table_Rooms.calls k _ _ l0_0 ae _ ?side1 ?side2 A4.out).mono ?_); (case side1 => exact cb_ ab HB); (case side2 => exact ac.out); rintro e w9 ⟨rfl, hb⟩; refine ⟨_, rfl, ?_⟩; replace aa := mk0 (u_ aa hb); replace HB := mk0 (bt_ (b_ HB) hb); (try clear hb)))
  go_ret2
  exact ⟨sa_, b_ HB⟩
 ·replace c3 := Bool.eq_false_iff.mpr c3
  subst c3
  rw [if_neg nf_] at H
  simp only [Option.some.injEq, Prod.mk.injEq] at H
  obtain ⟨rfl, rfl⟩ := H
  go_enter Try.func74, Try.ntmps74
  go_wp2_with (first | ((with_reducible refine gate_dst (N := 1) rfl ?_); refine bx_ (N := 1) (cs := #[.slice A0_0 l0_0.length c0_0]) (t := 47) (h := ?_); intro ag hg ap hbox hb; have n2_ := mk0 (gz_ HB hg); have af := mk0 (gz_ HB hg); replace HB := mk0 (bt_ (b_ HB) hb); have aa := mk0 (hbox); have ah := n2_; have ai := af; clear n2_ af hb hbox hg; obtain ⟨aj, ak⟩ := c1_ aa) | ((with_reducible refine gate_callee (f := 95) rfl ?_); refine gL_ (some 5) Try.func95 #[.agg #[.slice A0_0 l0_0.length c0_0]] (h := ?_); (with_reducible refine (table_May.calls k _ _ l0_0 false _ ?side1 ?side2 A2.out).mono ?_); (case side1 => exact cb_ ab HB); (case side2 => exact ac.out); rintro e aq ⟨rfl, hb⟩; refine ⟨_, rfl, ?_⟩; replace aa := mk0 (u_ aa hb); replace HB := mk0 (bt_ (b_ HB) hb); (try clear hb)))
  go_ret2
  exact ⟨sa_, b_ HB⟩
/-! ### quorumlaw9_num: function 76 -/
def quorumlaw9_num.f (a0 : Int) : Option (Int) := some a0
theorem quorumlaw9_num.calls (a0 : Int) (r : Int) (w : World) (h : quorumlaw9_num.f a0 = some r) :
  Calls Try.prog 76 #[.int .i64 a0] w fun e w' => e = .returned (.int .i64 r) ∧ Drawn0 w w' := by
 have H : (some a0) = some r := h
 clear h
 obtain rfl := Option.some.inj H
 go_enter Try.func76, Try.ntmps76
 go_wp2
 go_ret
 exact ⟨by first | rfl | (simp; done) | (simp [*]; done), by repeat (first | exact Drawn0.refl _ | apply Drawn0.step)⟩
/-! ### quorumref0_EqVersions: function 193 -/
def quorumref0_EqVersions.l0 : Nat → List (S72) → List (S72) → Int → Option (Bool)
 | 0, _, _, _ => none
 | k + 1, x0, x1, x5 => if x5 < (x0.length : Int) then (if 0 ≤ x5 then (if x5 < (x1.length : Int) then (if (!(((rd_T72 x0 x5).f0) == ((rd_T72 x1 x5).f0)) || (!((((rd_T72 x0 x5).f1).toList) == (((rd_T72 x1 x5).f1).toList)) || (!(((rd_T72 x0 x5).f2) == ((rd_T72 x1 x5).f2))))) = true then (some false) else (quorumref0_EqVersions.l0 k x0 x1 (wrap64 (x5 + 1)))) else (none)) else (none)) else (some true)
def quorumref0_EqVersions.f (k : Nat) (l0 : List (S72)) (l1 : List (S72)) : Option (Bool) := if (l0.length : Int) = (l1.length : Int) then (quorumref0_EqVersions.l0 k l0 l1 0) else (some false)
theorem quorumref0_EqVersions.mono_l : ∀ k, (∀ y0 y1 y2, LeO (quorumref0_EqVersions.l0 k y0 y1 y2) (quorumref0_EqVersions.l0 (k + 1) y0 y1 y2))
 | 0 => fun _ _ _ r h => by simp [quorumref0_EqVersions.l0] at h
 | k + 1 => by
  have ih0 := quorumref0_EqVersions.mono_l k
  all_goals (intros; first | unfold quorumref0_EqVersions.l0)
  all_goals (repeat' first | (with_reducible exact ih0 ..) | (with_reducible exact LeO.refl _) | (with_reducible exact LeO.none _) | (with_reducible refine LeO.ite ?_ ?_) | (with_reducible refine LeO.bind ?_ (fun _ => ?_)) | exact LeO.none _ | refine LeO.ite ?_ ?_ | refine LeO.bind ?_ (fun _ => ?_))
theorem quorumref0_EqVersions.mono : ∀ a0 a1 k, LeO (quorumref0_EqVersions.f k a0 a1) (quorumref0_EqVersions.f (k + 1) a0 a1) := by
 intro a0 a1 k
 have ih0 := quorumref0_EqVersions.mono_l k
 unfold quorumref0_EqVersions.f
 repeat' first | (with_reducible exact ih0 ..) | (with_reducible exact LeO.refl _) | (with_reducible exact LeO.none _) | (with_reducible refine LeO.ite ?_ ?_) | (with_reducible refine LeO.bind ?_ (fun _ => ?_)) | exact LeO.none _ | refine LeO.ite ?_ ?_ | refine LeO.bind ?_ (fun _ => ?_)
theorem quorumref0_EqVersions.calls (k : Nat) (A0 : Option Addr) (c0 : Nat) (l0 : List (S72)) (A1 : Option Addr) (c1 : Nat) (l1 : List (S72)) (r : Bool) (w : World) (hr0 : Kd.C k72 w A0 l0.length l0) (hc0 : l0.length ≤ c0) (hr1 : Kd.C k72 w A1 l1.length l1) (hc1 : l1.length ≤ c1) (h : quorumref0_EqVersions.f k l0 l1 = some r) :
  Calls Try.prog 193 #[.slice A0 l0.length c0, .slice A1 l1.length c1] w fun e w' => e = .returned (.bool r) ∧ Drawn0 w w' := by
 have hu72 := Try.underlying72
 have HR0 := mk0 hr0
 have HC0 := mk0 hc0
 clear hr0 hc0
 have HR1 := mk0 hr1
 have HC1 := mk0 hc1
 clear hr1 hc1
 have H : (if (l0.length : Int) = (l1.length : Int) then (quorumref0_EqVersions.l0 k l0 l1 0) else (some false)) = some r := h
 clear h
 by_cases c3 : (l0.length : Int) = (l1.length : Int)
 ·rw [if_pos c3] at H
  have an := beq_iff_eq.mpr c3
  have ao := bne_eq_false_iff_eq.mpr c3
  have ap : (l0.length == l1.length) = true := by first | simpa using c3 | (simp at c3 ⊢; omega)
  clear c3
  have H' := mk0 H
  clear H
  go_enter Try.func193, Try.ntmps193
  go_wp2
  repeat (go_quiet (fail); try go_wp2)
  go_loopg [5] k (fun kq v5 w' => ∃ (aa : Int), v5 = .int .i64 aa ∧ Fc (quorumref0_EqVersions.l0 kq l0 l1 aa = some r) ∧ Fc (kq ≤ k) ∧ Drawn0 w w')
  case atStart => exact ⟨(0), sm_, H', ⟨Nat.le_refl _⟩, by repeat (first | exact Drawn0.refl _ | apply Drawn0.step)⟩
  case round =>
   clear H'
   try clear c3
   try clear an
   try clear ao
   try clear ap
   obtain ⟨aa, rfl, HA, au, ⟨m1, rfl⟩⟩ := hrel
   cases gk with
   | zero => exact absurd HA.out (by simp [quorumref0_EqVersions.l0])
   | succ k1 =>
    have H := HA.out
    clear HA
    simp only [quorumref0_EqVersions.l0] at H
    as_aux_lemma =>
     by_cases c4 : aa < (l0.length : Int)
     ·rw [if_pos c4] at H
      have av := decide_eq_true c4
      clear c4
      by_cases c5 : 0 ≤ aa
      ·rw [if_pos c5] at H
       have ax := decide_eq_true c5
       clear c5
       by_cases c6 : aa < (l1.length : Int)
       ·rw [if_pos c6] at H
        have ay := decide_eq_true c6
        clear c6
        by_cases c7 : (!(((rd_T72 l0 aa).f0) == ((rd_T72 l1 aa).f0)) || (!((((rd_T72 l0 aa).f1).toList) == (((rd_T72 l1 aa).f1).toList)) || (!(((rd_T72 l0 aa).f2) == ((rd_T72 l1 aa).f2))))) = true
        ·rw [if_pos c7] at H
         have aw : (!(((rd_T72 l0 aa).f0) == ((rd_T72 l1 aa).f0)) || (!((((rd_T72 l0 aa).f1).toList) == (((rd_T72 l1 aa).f1).toList)) || (!(((rd_T72 l0 aa).f2) == ((rd_T72 l1 aa).f2))))) = true := c7
         clear c7
         obtain rfl := Option.some.inj H
         have ab : 0 ≤ (aa : Int) := od_
         have ac : aa < (l0.length : Int) := od_
         obtain ⟨aq, af, ag, ah, ai⟩ := at_T72 HR0.out aa ab ac
         cases af
         replace ab := eq_true ab
         replace ac := eq_true ac
         have ad : 0 ≤ (aa : Int) := od_
         have ae : aa < (l1.length : Int) := od_
         obtain ⟨ar, aj, ak, al, am⟩ := at_T72 HR1.out aa ad ae
         cases aj
         replace ad := eq_true ad
         replace ae := eq_true ae
         go_wp2
         repeat (go_quiet (fail); try go_wp2)
         go_ret
         exact ⟨by first | rfl | (simp; done) | (simp [*]; done), by repeat (first | exact Drawn0.refl _ | apply Drawn0.step)⟩
        ·rw [if_neg c7] at H
         have aw : (!(((rd_T72 l0 aa).f0) == ((rd_T72 l1 aa).f0)) || (!((((rd_T72 l0 aa).f1).toList) == (((rd_T72 l1 aa).f1).toList)) || (!(((rd_T72 l0 aa).f2) == ((rd_T72 l1 aa).f2))))) = false := by simpa using c7
         clear c7
         have H' := mk0 H
         clear H
         have ab : 0 ≤ (aa : Int) := od_
         have ac : aa < (l0.length : Int) := od_
         obtain ⟨aq, af, ag, ah, ai⟩ := at_T72 HR0.out aa ab ac
         cases af
         replace ab := eq_true ab
         replace ac := eq_true ac
         have ad : 0 ≤ (aa : Int) := od_
         have ae : aa < (l1.length : Int) := od_
         obtain ⟨ar, aj, ak, al, am⟩ := at_T72 HR1.out aa ad ae
         cases aj
         replace ad := eq_true ad
         replace ae := eq_true ae
         go_wp2
         repeat (go_quiet (fail); try go_wp2)
         go_roundg k1
         case measure => have := au.out; omega
         case rel => exact ⟨(wrap64 (aa + 1)), sm_, H', ⟨by have := au.out; omega⟩, by repeat (first | exact Drawn0.refl _ | apply Drawn0.step)⟩
       ·rw [if_neg c6] at H
        exact absurd H (by simp)
      ·rw [if_neg c5] at H
       exact absurd H (by simp)
     ·rw [if_neg c4] at H
      have av := decide_eq_false c4
      clear c4
      obtain rfl := Option.some.inj H
      go_wp2
      repeat (go_quiet (fail); try go_wp2)
      go_ret
      exact ⟨by first | rfl | (simp; done) | (simp [*]; done), by repeat (first | exact Drawn0.refl _ | apply Drawn0.step)⟩
 ·rw [if_neg c3] at H
  have an := beq_eq_false_iff_ne.mpr c3
  have ao := bne_iff_ne.mpr c3
  have ap : (l0.length == l1.length) = false := by first | simpa using c3 | (simp at c3 ⊢; omega)
  obtain rfl := Option.some.inj H
  go_enter Try.func193, Try.ntmps193
  go_wp2
  repeat (go_quiet (fail); try go_wp2)
  go_ret
  exact ⟨by first | rfl | (simp; done) | (simp [*]; done), by repeat (first | exact Drawn0.refl _ | apply Drawn0.step)⟩
/-! ### quorumref0_EqChain: function 166 -/
def quorumref0_EqChain.f (k : Nat) (a0_0 : ByteArray) (l0_1 : List (S72)) (a1_0 : ByteArray) (l1_1 : List (S72)) : Option (Bool) := if a0_0.toList = a1_0.toList then ((quorumref0_EqVersions.f k l0_1 l1_1).bind fun t288 => (some t288)) else (some false)
theorem quorumref0_EqChain.mono : ∀ a0 a1 a2 a3 k, LeO (quorumref0_EqChain.f k a0 a1 a2 a3) (quorumref0_EqChain.f (k + 1) a0 a1 a2 a3) := by
 intro a0 a1 a2 a3 k
 unfold quorumref0_EqChain.f
 repeat' first | (with_reducible exact quorumref0_EqVersions.mono ..) | (with_reducible exact LeO.refl _) | (with_reducible exact LeO.none _) | (with_reducible refine LeO.ite ?_ ?_) | (with_reducible refine LeO.bind ?_ (fun _ => ?_)) | exact LeO.none _ | refine LeO.ite ?_ ?_ | refine LeO.bind ?_ (fun _ => ?_)
theorem quorumref0_EqChain.calls (k : Nat) (a0_0 : ByteArray) (A0_1 : Option Addr) (c0_1 : Nat) (l0_1 : List (S72)) (a1_0 : ByteArray) (A1_1 : Option Addr) (c1_1 : Nat) (l1_1 : List (S72)) (r : Bool) (w : World) (hr0_1 : Kd.C k72 w A0_1 l0_1.length l0_1) (hc0_1 : l0_1.length ≤ c0_1) (hr1_1 : Kd.C k72 w A1_1 l1_1.length l1_1) (hc1_1 : l1_1.length ≤ c1_1) (h : quorumref0_EqChain.f k a0_0 l0_1 a1_0 l1_1 = some r) :
  Calls Try.prog 166 #[.agg #[.string a0_0, .slice A0_1 l0_1.length c0_1], .agg #[.string a1_0, .slice A1_1 l1_1.length c1_1]] w fun e w' => e = .returned (.bool r) ∧ Below w.heap.size w w' := by
 have hu99 := Try.underlying99
 have aj := mk0 hr0_1
 have ak := mk0 hc0_1
 clear hr0_1 hc0_1
 have al := mk0 hr1_1
 have am := mk0 hc1_1
 clear hr1_1 hc1_1
 have HB := mk0 (Below.refl w.heap.size w)
 have H : (if a0_0.toList = a1_0.toList then ((quorumref0_EqVersions.f k l0_1 l1_1).bind fun af => (some af)) else (some false)) = some r := h
 clear h
 by_cases c3 : a0_0.toList = a1_0.toList
 ·rw [if_pos c3] at H
  have av := beq_iff_eq.mpr c3
  have aw := bne_eq_false_iff_eq.mpr c3
  clear c3
  replace H := ob_ H
  obtain ⟨af, A4, H⟩ := H
  try dsimp only at H
  obtain rfl := Option.some.inj H
  go_enter Try.func166, Try.ntmps166
  go_wp2_with (first | ((with_reducible refine gate_dst (N := 2) rfl ?_); refine bx_ (N := 2) (cs := #[.string a0_0, .slice A0_1 l0_1.length c0_1]) (t := 99) (h := ?_); intro an hg w5 hbox hb; have n2_ := mk0 (gz_ HB hg); have ad := mk0 (gz_ HB hg); replace HB := mk0 (bt_ (b_ HB) hb); have aa := mk0 (hbox); have ao := n2_; have ap := ad; clear n2_ ad; clear hb hbox hg) | ((with_reducible refine gate_dst (N := 3) rfl ?_); refine bx_ (N := 3) (cs := #[.string a1_0, .slice A1_1 l1_1.length c1_1]) (t := 99) (h := ?_); intro aq hg w6 hbox hb; have ad := mk0 (gz_ HB hg); have ag := mk0 (gz_ HB hg); have ah := mk0 (ne1_ aa hg); have ai := mk0 (ne2_ aa hg); replace aa := mk0 (u_ aa hb); replace HB := mk0 (bt_ (b_ HB) hb); have ae := mk0 (hbox); have ar := ad; have au := ag; have ab := ah; have ac := ai; clear ad ag ah ai hb hbox hg; have aP := ab.out; have aQ := ac.out; obtain ⟨aF, aG, aH, aI⟩ := c2_ aa; obtain ⟨aJ, aK, aL, aM⟩ := c2_ ae) | (go_at_call 193; (with_reducible refine (quorumref0_EqVersions.calls k _ _ l0_1 _ _ l1_1 af _ ?side1 ?side2 ?side3 ?side4 A4.out).mono ?_); (case side1 => exact cb_ aj HB); (case side2 => exact ak.out); (case side3 => exact cb_ al HB); (case side4 => exact am.out); rintro e w' ⟨rfl, ⟨nd, rfl⟩⟩))
  go_ret
  exact ⟨sa_, b_ HB⟩
 ·rw [if_neg c3] at H
  have av := beq_eq_false_iff_ne.mpr c3
  have aw := bne_iff_ne.mpr c3
  obtain rfl := Option.some.inj H
  go_enter Try.func166, Try.ntmps166
  go_wp2_with (first | ((with_reducible refine gate_dst (N := 2) rfl ?_); refine bx_ (N := 2) (cs := #[.string a0_0, .slice A0_1 l0_1.length c0_1]) (t := 99) (h := ?_); intro an hg aR hbox hb; have n2_ := mk0 (gz_ HB hg); have ad := mk0 (gz_ HB hg); replace HB := mk0 (bt_ (b_ HB) hb); have aa := mk0 (hbox); have ao := n2_; have ap := ad; clear n2_ ad; clear hb hbox hg) | ((with_reducible refine gate_dst (N := 3) rfl ?_); refine bx_ (N := 3) (cs := #[.string a1_0, .slice A1_1 l1_1.length c1_1]) (t := 99) (h := ?_); intro aq hg aS hbox hb; have ad := mk0 (gz_ HB hg); have ag := mk0 (gz_ HB hg); have ah := mk0 (ne1_ aa hg); have ai := mk0 (ne2_ aa hg); replace aa := mk0 (u_ aa hb); replace HB := mk0 (bt_ (b_ HB) hb); have ae := mk0 (hbox); have ar := ad; have au := ag; have ab := ah; have ac := ai; clear ad ag ah ai hb hbox hg; have aN := ab.out; have aO := ac.out; obtain ⟨ax, ay, az, aA⟩ := c2_ aa; obtain ⟨aB, aC, aD, aE⟩ := c2_ ae))
  go_ret
  exact ⟨sa_, b_ HB⟩
end Go.Proofs.Ytbaecdcfefmcgaa.PTbe
