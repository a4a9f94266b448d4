-- PRINTED by print.py (a twelfth state) out of the translation. Not trusted: Lean checks it.
import Derived.Shelf.SlSorted.Search
import Derived.Test.YtbaecdcfefmcgaaPVrsx0
import Derived.Test.YtbaecdcfefmcgaaPVrsx2
import Derived.Test.YtbaecdcfefmcgaaPVrsx6
import Derived.Test.YtbaecdcfefmcgaaHSome
namespace Go.Proofs.Ytbaecdcfefmcgaa.PVrs
open Go.RowKit Go.Proofs.YtbaecdcfefmcgaaW.PrintWords Go.Proofs.YtbaecdcfefmcgaaW.PrintLast Go.Proofs.YtbaecdcfefmcgaaW.PrintMore
attribute [local go_sem] max2_int min2_int max_two min_two max_three min_three max_four min_four   -- for this text's walks alone
set_option linter.unusedVariables false
set_option linter.unusedSimpArgs false

/-! ### chain_Look: function 142 -/
def chain_Look.j0 : Nat → Int → Bool → ByteArray → List (S72) → Option (Int × ByteArray × Bool × Bool)
 | 0, _, _, _, _ => none
 | k + 1, x6, x22, x158000, x158001 => if x22 = true then (some (0, (⟨#[]⟩ : ByteArray), false, false)) else (if 0 ≤ x6 then (if x6 < (x158001.length : Int) then (some ((rd_T72 x158001 x6).f0, (rd_T72 x158001 x6).f1, (rd_T72 x158001 x6).f2, true)) else (none)) else (none))
def chain_Look.f (k : Nat) (a0_0 : ByteArray) (l0_1 : List (S72)) (a1 : Int) : Option (Int × ByteArray × Bool × Bool) := (chain_place.f a0_0 l0_1 a1).bind fun t159 => (if t159 = (l0_1.length : Int) then (chain_Look.j0 k t159 true a0_0 l0_1) else (if 0 ≤ t159 then (if t159 < (l0_1.length : Int) then (chain_Look.j0 k t159 ((rd_T72 l0_1 t159).f2) a0_0 l0_1) else (none)) else (none)))
theorem chain_Look.mono_l : ∀ k, (∀ y0 y1 y2 y3, LeO (chain_Look.j0 k y0 y1 y2 y3) (chain_Look.j0 (k + 1) y0 y1 y2 y3))
 | 0 => fun _ _ _ _ r h => by simp [chain_Look.j0] at h
 | k + 1 => by
  have ih0 := chain_Look.mono_l k
  ·intro y0 y1 y2 y3
   unfold chain_Look.j0
   repeat' first
   | (with_reducible exact ih0 _ _ _ _)
   | (with_reducible exact LeO.refl _)
   | (with_reducible exact LeO.none _)
   | (with_reducible refine LeO.ite ?_ ?_)
   | (with_reducible refine LeO.bind ?_ (fun _ => ?_))
   | exact ih0 _ _ _ _
   | exact LeO.none _
   | refine LeO.ite ?_ ?_
   | refine LeO.bind ?_ (fun _ => ?_)
theorem chain_Look.mono : ∀ a0 a1 a2 k, LeO (chain_Look.f k a0 a1 a2) (chain_Look.f (k + 1) a0 a1 a2) := by
 intro a0 a1 a2 k
 have ih0 := chain_Look.mono_l k
 unfold chain_Look.f
 repeat' first
   | (with_reducible exact ih0 _ _ _ _)
   | (with_reducible exact LeO.refl _)
   | (with_reducible exact LeO.none _)
   | (with_reducible refine LeO.ite ?_ ?_)
   | (with_reducible refine LeO.bind ?_ (fun _ => ?_))
   | exact ih0 _ _ _ _
   | exact LeO.none _
   | refine LeO.ite ?_ ?_
   | refine LeO.bind ?_ (fun _ => ?_)
set_option maxHeartbeats 8000000 in
set_option maxRecDepth 100000 in
theorem chain_Look.calls (k : Nat) (a0_0 : ByteArray) (A0_1 : Option Addr) (c0_1 : Nat) (l0_1 : List (S72)) (a1 : Int) (r1 : Int) (r2 : ByteArray) (r3 : Bool) (r4 : Bool) (w : World) (hr0_1 : Kd.C k72 w A0_1 l0_1.length l0_1) (hc0_1 : l0_1.length ≤ c0_1) (h : chain_Look.f k a0_0 l0_1 a1 = some (r1, r2, r3, r4)) :
  Calls Try.prog 142 #[.agg #[.string a0_0, .slice A0_1 l0_1.length c0_1], .int .i64 a1] w fun e w' => e = .returned (.tuple #[.agg #[.int .i64 r1, .string r2, .bool r3], .bool r4]) ∧ Below w.heap.size w w' := by
 have hu99 := Try.underlying99
 have hu72 := Try.underlying72
 have HR0_1 := mk0 hr0_1
 have HC0_1 := mk0 hc0_1
 clear hr0_1 hc0_1
 have HB := mk0 (Below.refl w.heap.size w)
 have H : ((chain_place.f a0_0 l0_1 a1).bind fun t159 => (if t159 = (l0_1.length : Int) then (chain_Look.j0 k t159 true a0_0 l0_1) else (if 0 ≤ t159 then (if t159 < (l0_1.length : Int) then (chain_Look.j0 k t159 ((rd_T72 l0_1 t159).f2) a0_0 l0_1) else (none)) else (none)))) = some (r1, r2, r3, r4) := h
 clear h
 replace H := Option.bind_eq_some_iff.mp H
 obtain ⟨t159, A30, H⟩ := H
 try dsimp only at H
 have A3 := mk0 A30
 clear A30
 have HC4 := mk0 H
 clear H
 go_enter Try.func142, Try.ntmps142
 go_upto_region 2 with (first | ((with_reducible refine gate_dst (N := 2) rfl ?_); refine bx_ (N := 2) (cs := #[.string a0_0, .slice A0_1 l0_1.length c0_1]) (t := 99) (h := ?_); intro gb157 hg w5 hbox hb; have n2_ := mk0 (gz_ HB hg); have n3_ := mk0 (gz_ HB hg); replace HB := mk0 (bt_ (b_ HB) hb); have BK157 := mk0 (hbox); have GW157 := n2_; have GE157 := n3_; clear n2_ n3_; clear hb hbox hg) | ((with_reducible refine gate_dst (N := 4) rfl ?_); refine bx_ (N := 4) (cs := #[.int .i64 0, .string (⟨#[]⟩ : ByteArray), .bool false]) (t := 72) (h := ?_); intro gb158 hg w6 hbox hb; have n3_ := mk0 (gz_ HB hg); have n4_ := mk0 (gz_ HB hg); have n5_ := mk0 (ne1_ BK157 hg); have n6_ := mk0 (ne2_ BK157 hg); replace BK157 := mk0 (u_ BK157 hb); replace HB := mk0 (bt_ (b_ HB) hb); have BK158 := mk0 (hbox); have GW158 := n3_; have GE158 := n4_; have NB157_158 := n5_; have NB158_157 := n6_; clear n3_ n4_ n5_ n6_ hb hbox hg; have hnb7 := NB157_158.out; have hnc7 := NB158_157.out; obtain ⟨hcz8_0, hcz8_1, hfz8_0, hfz8_1⟩ := c2_ BK157) | ((with_reducible refine gate_callee (f := 178) rfl ?_); refine gL_ (some 9) Try.func178 #[.agg #[.string a0_0, .slice A0_1 l0_1.length c0_1], .int .i64 a1] (h := ?_); (with_reducible refine (chain_place.calls a0_0 _ _ l0_1 a1 t159 _ ?side1 ?side2 A3.out).mono ?_); (case side1 => exact cb_ HR0_1 HB); (case side2 => exact HC0_1.out); rintro e w9 ⟨rfl, hb⟩; refine ⟨_, rfl, ?_⟩; replace BK157 := mk0 (u_ BK157 hb); replace BK158 := mk0 (blk_below (g := gb158) (o := .cells #[.int .i64 0, .string (⟨#[]⟩ : ByteArray), .bool false] 72 (0, 0)) (h_ BK158) hb); replace HB := mk0 (bt_ (b_ HB) hb); (try clear hb)))
 (try simp only [Act.put, List.setIfInBounds_toArray, List.set_cons_zero, List.set_cons_succ])
 go_cut [22] (fun v22 wc => ∃ (kq : Nat) (x22_3 : Bool), v22 = .bool x22_3 ∧ Fc (chain_Look.j0 kq t159 x22_3 a0_0 l0_1 = some (r1, r2, r3, r4)) ∧ Fc (kq ≤ k) ∧ Fc (wc.heap[gb157]? = some (.cells #[.string a0_0, (.slice A0_1 l0_1.length c0_1)] 99 (0, 0))) ∧ Fc (wc.heap[gb158]? = some (.cells #[.int .i64 0, .string (⟨#[]⟩ : ByteArray), .bool false] 72 (0, 0))) ∧ Fc (Below w.heap.size w wc))
 case first =>
  have H := HC4.out
  clear HC4
  by_cases c10 : t159 = (l0_1.length : Int)
  ·rw [if_pos c10] at H
   have c10b0 : (t159 == (l0_1.length : Int)) = true := beq_iff_eq.mpr c10
   have c10b1 : (t159 != (l0_1.length : Int)) = false := bne_eq_false_iff_eq.mpr c10
   clear c10
   (first | rw [c10b0] | (simp only [i64_w, i32_w]; rw [c10b0]) | skip)
   have H' := mk0 H
   clear H
   have hnb11 := NB157_158.out
   have hnc11 := NB158_157.out
   obtain ⟨hcz12_0, hcz12_1, hfz12_0, hfz12_1⟩ := c2_ BK157
   go_wp2
   go_meet
   case rel => exact ⟨_, (true), (by first | rfl | (simp; done) | (simp [*]; done)), H', ⟨by first | omega | exact Nat.le_refl _⟩, ⟨h_ BK157⟩, ⟨h_ BK158⟩, ⟨b_ HB⟩⟩
  ·rw [if_neg c10] at H
   have c10b0 : (t159 == (l0_1.length : Int)) = false := beq_eq_false_iff_ne.mpr c10
   have c10b1 : (t159 != (l0_1.length : Int)) = true := bne_iff_ne.mpr c10
   (first | rw [c10b0] | (simp only [i64_w, i32_w]; rw [c10b0]) | skip)
   by_cases c13 : 0 ≤ t159
   ·rw [if_pos c13] at H
    have c13b0 : decide (0 ≤ t159) = true := decide_eq_true c13
    clear c13
    by_cases c14 : t159 < (l0_1.length : Int)
    ·rw [if_pos c14] at H
     have c14b0 : decide (t159 < (l0_1.length : Int)) = true := decide_eq_true c14
     clear c14
     have H' := mk0 H
     clear H
     have hnb15 := NB157_158.out
     have hnc15 := NB158_157.out
     obtain ⟨hcz16_0, hcz16_1, hfz16_0, hfz16_1⟩ := c2_ BK157
     have p160 : 0 ≤ (t159 : Int) := of_decide_eq_true (by first | (with_reducible assumption) | assumption)
     have q160 : t159 < (l0_1.length : Int) := of_decide_eq_true (by first | (with_reducible assumption) | assumption)
     obtain ⟨ad160, e160, hx160_0, hx160_1, hx160_2⟩ := at_T72 HR0_1.out t159 p160 q160
     cases e160
     replace hx160_0 := (bc_ HB hx160_0 :)
     replace hx160_1 := (bc_ HB hx160_1 :)
     replace hx160_2 := (bc_ HB hx160_2 :)
     replace p160 := eq_true p160
     replace q160 := eq_true q160
     go_wp2
     go_meet
     case rel => exact ⟨_, ((rd_T72 l0_1 t159).f2), (by first | rfl | (simp; done) | (simp [*]; done)), H', ⟨by first | omega | exact Nat.le_refl _⟩, ⟨h_ BK157⟩, ⟨h_ BK158⟩, ⟨b_ HB⟩⟩
    ·rw [if_neg c14] at H
     exact absurd H (by simp)
   ·rw [if_neg c13] at H
    exact absurd H (by simp)
 case rest =>
  clear HC4
  try clear c10
  try clear c10b0
  try clear c10b1
  try clear c13
  try clear c13b0
  try clear c14
  try clear c14b0
  try clear hcz12_0
  try clear hcz12_1
  try clear hcz16_0
  try clear hcz16_1
  try clear hcz8_0
  try clear hcz8_1
  try clear hfz12_0
  try clear hfz12_1
  try clear hfz16_0
  try clear hfz16_1
  try clear hfz8_0
  try clear hfz8_1
  try clear hx160_0
  try clear hx160_1
  try clear hx160_2
  try clear p160
  try clear q160
  obtain ⟨kq, x22_3, rfl, HA, HJ3, BK157, BK158, HB⟩ := hcut
  cases kq with
  | zero => exact absurd HA.out (by simp [chain_Look.j0])
  | succ kj3 =>
   have H := HA.out
   clear HA
   simp only [chain_Look.j0] at H
   as_aux_lemma =>
    by_cases c17 : x22_3 = true
    ·subst c17
     rw [if_pos rfl] at H
     simp only [Option.some.injEq, Prod.mk.injEq] at H
     obtain ⟨rfl, rfl, rfl, rfl⟩ := H
     have hnb18 := NB158_157.out
     have hnc18 := NB157_158.out
     obtain ⟨hcz19_0, hcz19_1, hcz19_2, hfz19_0, hfz19_1, hfz19_2⟩ := c3_ BK158
     go_wp2
     refine bodyPost_ret (results_ct rfl _ _ gb158 72 #[.int .i64 0, .string (⟨#[]⟩ : ByteArray), .bool false] (0, 0) _ rfl (pu_ (cs := #[.int .i64 0, .string (⟨#[]⟩ : ByteArray), .bool false]) (pu_ (cs := #[.int .i64 0, .string (⟨#[]⟩ : ByteArray), .bool false]) (pu_ (cs := #[.int .i64 0, .string (⟨#[]⟩ : ByteArray), .bool false]) (h_ BK158)))) Try.underlying72 rfl (by kernel_rfl)) rfl ?_
     exact ⟨by first | rfl | (simp [errW_none, errW_some] <;> rfl) | (simp [*, errW_none, errW_some] <;> rfl), b_ HB⟩
    ·replace c17 := Bool.eq_false_iff.mpr c17
     subst c17
     rw [if_neg (show ¬ (false = true) by decide)] at H
     by_cases c20 : 0 ≤ t159
     ·rw [if_pos c20] at H
      have c20b0 : decide (0 ≤ t159) = true := decide_eq_true c20
      clear c20
      by_cases c21 : t159 < (l0_1.length : Int)
      ·rw [if_pos c21] at H
       have c21b0 : decide (t159 < (l0_1.length : Int)) = true := decide_eq_true c21
       clear c21
       simp only [Option.some.injEq, Prod.mk.injEq] at H
       obtain ⟨rfl, rfl, rfl, rfl⟩ := H
       have hnb22 := NB157_158.out
       have hnc22 := NB158_157.out
       obtain ⟨hcz23_0, hcz23_1, hfz23_0, hfz23_1⟩ := c2_ BK157
       have p161 : 0 ≤ (t159 : Int) := of_decide_eq_true (by first | (with_reducible assumption) | assumption)
       have q161 : t159 < (l0_1.length : Int) := of_decide_eq_true (by first | (with_reducible assumption) | assumption)
       obtain ⟨ad161, e161, hx161_0, hx161_1, hx161_2⟩ := at_T72 HR0_1.out t159 p161 q161
       cases e161
       replace hx161_0 := (bc_ HB hx161_0 :)
       replace hx161_1 := (bc_ HB hx161_1 :)
       replace hx161_2 := (bc_ HB hx161_2 :)
       replace p161 := eq_true p161
       replace q161 := eq_true q161
       obtain ⟨hcz24_0, hcz24_1, hcz24_2, hfz24_0, hfz24_1, hfz24_2⟩ := c3_ BK158
       go_wp2
       refine bodyPost_ret (results_ct rfl _ _ gb158 72 #[.int .i64 ((rd_T72 l0_1 t159).f0), .string ((rd_T72 l0_1 t159).f1), .bool ((rd_T72 l0_1 t159).f2)] (0, 0) _ rfl (pu_ (cs := #[.int .i64 ((rd_T72 l0_1 t159).f0), .string ((rd_T72 l0_1 t159).f1), .bool false]) (pu_ (cs := #[.int .i64 ((rd_T72 l0_1 t159).f0), .string (⟨#[]⟩ : ByteArray), .bool false]) (pu_ (cs := #[.int .i64 0, .string (⟨#[]⟩ : ByteArray), .bool false]) (h_ BK158)))) Try.underlying72 rfl (by kernel_rfl)) rfl ?_
       exact ⟨by first | rfl | (simp [errW_none, errW_some] <;> rfl) | (simp [*, errW_none, errW_some] <;> rfl), b_ HB⟩
      ·rw [if_neg c21] at H
       exact absurd H (by simp)
     ·rw [if_neg c20] at H
      exact absurd H (by simp)

/-! ### table_Look: function 99 -/
def table_Look.f (k : Nat) (l0_0 : List (S99)) (a1 : ByteArray) (a2 : Int) : Option (ByteArray × Bool) := (table_seek.f l0_0 a1).bind fun bt163 => (if bt163.2 = true then (if 0 ≤ bt163.1 then (if bt163.1 < (l0_0.length : Int) then ((chain_Look.f k ((rd_T99 l0_0 bt163.1).f0) ((rd_T99 l0_0 bt163.1).f1) a2).bind fun bt166 => (some (bt166.2.1, bt166.2.2.2))) else (none)) else (none)) else (some ((⟨#[]⟩ : ByteArray), false)))
theorem table_Look.mono : ∀ a0 a1 a2 k, LeO (table_Look.f k a0 a1 a2) (table_Look.f (k + 1) a0 a1 a2) := by
 intro a0 a1 a2 k
 unfold table_Look.f
 repeat' first
   | (with_reducible exact chain_Look.mono _ _ _ _)
   | (with_reducible exact LeO.refl _)
   | (with_reducible exact LeO.none _)
   | (with_reducible refine LeO.ite ?_ ?_)
   | (with_reducible refine LeO.bind ?_ (fun _ => ?_))
   | exact chain_Look.mono _ _ _ _
   | exact LeO.none _
   | refine LeO.ite ?_ ?_
   | refine LeO.bind ?_ (fun _ => ?_)
set_option maxHeartbeats 8000000 in
set_option maxRecDepth 100000 in
theorem table_Look.calls (k : Nat) (A0_0 : Option Addr) (c0_0 : Nat) (l0_0 : List (S99)) (a1 : ByteArray) (a2 : Int) (r1 : ByteArray) (r2 : Bool) (w : World) (hr0_0 : Kd.C k99 w A0_0 l0_0.length l0_0) (hc0_0 : l0_0.length ≤ c0_0) (h : table_Look.f k l0_0 a1 a2 = some (r1, r2)) :
  Calls Try.prog 99 #[.agg #[.slice A0_0 l0_0.length c0_0], .string a1, .int .i64 a2] w fun e w' => e = .returned (.tuple #[.string r1, .bool r2]) ∧ Below w.heap.size w w' := by
 have hu47 := Try.underlying47
 have hu99 := Try.underlying99
 have hu72 := Try.underlying72
 have HR0_0 := mk0 hr0_0
 have HC0_0 := mk0 hc0_0
 clear hr0_0 hc0_0
 have HB := mk0 (Below.refl w.heap.size w)
 have H : ((table_seek.f l0_0 a1).bind fun bt163 => (if bt163.2 = true then (if 0 ≤ bt163.1 then (if bt163.1 < (l0_0.length : Int) then ((chain_Look.f k ((rd_T99 l0_0 bt163.1).f0) ((rd_T99 l0_0 bt163.1).f1) a2).bind fun bt166 => (some (bt166.2.1, bt166.2.2.2))) else (none)) else (none)) else (some ((⟨#[]⟩ : ByteArray), false)))) = some (r1, r2) := h
 clear h
 replace H := Option.bind_eq_some_iff.mp H
 obtain ⟨⟨t163, t164⟩, A40, H⟩ := H
 try dsimp only at H
 have A4 := mk0 A40
 clear A40
 by_cases c5 : t164 = true
 ·subst c5
  rw [if_pos rfl] at H
  by_cases c6 : 0 ≤ t163
  ·rw [if_pos c6] at H
   have c6b0 : decide (0 ≤ t163) = true := decide_eq_true c6
   clear c6
   by_cases c7 : t163 < (l0_0.length : Int)
   ·rw [if_pos c7] at H
    have c7b0 : decide (t163 < (l0_0.length : Int)) = true := decide_eq_true c7
    clear c7
    replace H := Option.bind_eq_some_iff.mp H
    obtain ⟨⟨t166, t167, t168, t169⟩, A80, H⟩ := H
    try dsimp only at H
    have A8 := mk0 A80
    clear A80
    simp only [Option.some.injEq, Prod.mk.injEq] at H
    obtain ⟨rfl, rfl⟩ := H
    go_enter Try.func99, Try.ntmps99
    go_wp2_with (first | ((with_reducible refine gate_dst (N := 3) rfl ?_); refine bx_ (N := 3) (cs := #[.slice A0_0 l0_0.length c0_0]) (t := 47) (h := ?_); intro gb162 hg w9 hbox hb; have n2_ := mk0 (gz_ HB hg); have n3_ := mk0 (gz_ HB hg); replace HB := mk0 (bt_ (b_ HB) hb); have BK162 := mk0 (hbox); have GW162 := n2_; have GE162 := n3_; clear n2_ n3_ hb hbox hg; obtain ⟨hcz10_0, hfz10_0⟩ := c1_ BK162) | ((with_reducible refine gate_callee (f := 126) rfl ?_); refine gL_ (some 14) Try.func126 #[.agg #[.slice A0_0 l0_0.length c0_0], .string a1] (h := ?_); (with_reducible refine (table_seek.calls _ _ l0_0 a1 t163 true _ ?side1 ?side2 A4.out).mono ?_); (case side1 => exact cb_ HR0_0 HB); (case side2 => exact HC0_0.out); rintro e w11 ⟨rfl, hb⟩; refine ⟨_, rfl, ?_⟩; replace BK162 := mk0 (u_ BK162 hb); replace HB := mk0 (bt_ (b_ HB) hb); (try clear hb); obtain ⟨hcz12_0, hfz12_0⟩ := c1_ BK162; have p165 : 0 ≤ (t163 : Int) := of_decide_eq_true (by first | (with_reducible assumption) | assumption); have q165 : t163 < (l0_0.length : Int) := of_decide_eq_true (by first | (with_reducible assumption) | assumption); obtain ⟨ad165, A165_1, c165_1, e165, hx165_0, hx165_1, hl165_1, hi165_1⟩ := at_T99 HR0_0.out t163 p165 q165; cases e165; replace hx165_0 := (bc_ HB hx165_0 :); replace hx165_1 := (bc_ HB hx165_1 :); have HR165_1 := mk0 hi165_1; have HC165_1 := mk0 hl165_1; clear hi165_1 hl165_1; replace p165 := eq_true p165; replace q165 := eq_true q165) | ((with_reducible refine gate_callee (f := 142) rfl ?_); refine gL_ (some 26) Try.func142 #[.agg #[.string ((rd_T99 l0_0 t163).f0), .slice A165_1 ((rd_T99 l0_0 t163).f1).length c165_1], .int .i64 a2] (h := ?_); (with_reducible refine (chain_Look.calls k ((rd_T99 l0_0 t163).f0) _ _ ((rd_T99 l0_0 t163).f1) a2 t166 t167 t168 t169 _ ?side1 ?side2 A8.out).mono ?_); (case side1 => exact cb_ HR165_1 HB); (case side2 => exact HC165_1.out); rintro e w13 ⟨rfl, hb⟩; refine ⟨_, rfl, ?_⟩; replace BK162 := mk0 (u_ BK162 hb); replace HB := mk0 (bt_ (b_ HB) hb); (try clear hb)) | ((with_reducible refine gate_dst (N := 10) rfl ?_); refine bx_ (N := 10) (cs := #[.int .i64 0, .string (⟨#[]⟩ : ByteArray), .bool false]) (t := 72) (h := ?_); intro gb170 hg w14 hbox hb; have n3_ := mk0 (gz_ HB hg); have n4_ := mk0 (gz_ HB hg); have n5_ := mk0 (ne1_ BK162 hg); have n6_ := mk0 (ne2_ BK162 hg); replace BK162 := mk0 (u_ BK162 hb); replace HB := mk0 (bt_ (b_ HB) hb); have BK170 := mk0 (hbox); have GW170 := n3_; have GE170 := n4_; have NB162_170 := n5_; have NB170_162 := n6_; clear n3_ n4_ n5_ n6_ hb hbox hg; have hnb15 := NB170_162.out; have hnc15 := NB162_170.out; obtain ⟨hcz16_0, hcz16_1, hcz16_2, hfz16_0, hfz16_1, hfz16_2⟩ := c3_ BK170))
    go_ret2
    exact ⟨by first | rfl | (simp [errW_none, errW_some] <;> rfl) | (simp [*, errW_none, errW_some] <;> rfl), b_ HB⟩
   ·rw [if_neg c7] at H
    exact absurd H (by simp)
  ·rw [if_neg c6] at H
   exact absurd H (by simp)
 ·replace c5 := Bool.eq_false_iff.mpr c5
  subst c5
  rw [if_neg (show ¬ (false = true) by decide)] at H
  simp only [Option.some.injEq, Prod.mk.injEq] at H
  obtain ⟨rfl, rfl⟩ := H
  go_enter Try.func99, Try.ntmps99
  go_wp2_with (first | ((with_reducible refine gate_dst (N := 3) rfl ?_); refine bx_ (N := 3) (cs := #[.slice A0_0 l0_0.length c0_0]) (t := 47) (h := ?_); intro gb162 hg w17 hbox hb; have n2_ := mk0 (gz_ HB hg); have n3_ := mk0 (gz_ HB hg); replace HB := mk0 (bt_ (b_ HB) hb); have BK162 := mk0 (hbox); have GW162 := n2_; have GE162 := n3_; clear n2_ n3_ hb hbox hg; obtain ⟨hcz18_0, hfz18_0⟩ := c1_ BK162) | ((with_reducible refine gate_callee (f := 126) rfl ?_); refine gL_ (some 14) Try.func126 #[.agg #[.slice A0_0 l0_0.length c0_0], .string a1] (h := ?_); (with_reducible refine (table_seek.calls _ _ l0_0 a1 t163 false _ ?side1 ?side2 A4.out).mono ?_); (case side1 => exact cb_ HR0_0 HB); (case side2 => exact HC0_0.out); rintro e w19 ⟨rfl, hb⟩; refine ⟨_, rfl, ?_⟩; replace BK162 := mk0 (u_ BK162 hb); replace HB := mk0 (bt_ (b_ HB) hb); (try clear hb)))
  go_ret2
  exact ⟨by first | rfl | (simp [errW_none, errW_some] <;> rfl) | (simp [*, errW_none, errW_some] <;> rfl), b_ HB⟩

/-! ### view_Look: function 43 -/
def view_Look.f (k : Nat) (l0 : List (S47)) (l1_0 : List (S36)) (l1_1 : List Int) (a2 : Int) (a3 : ByteArray) (a4 : Int) : Option (ByteArray × Bool) := (pend_Look.f l1_0 l1_1 a2 a3).bind fun bt172 => (if bt172.2.2.2.2 = true then (some (bt172.2.2.1, !bt172.2.2.2.1)) else (if 0 ≤ a2 then (if a2 < (l0.length : Int) then ((table_Look.f k ((rd_T47 l0 a2).f0) a3 a4).bind fun bt179 => (some (bt179.1, bt179.2))) else (none)) else (none)))
theorem view_Look.mono : ∀ a0 a1 a2 a3 a4 a5 k, LeO (view_Look.f k a0 a1 a2 a3 a4 a5) (view_Look.f (k + 1) a0 a1 a2 a3 a4 a5) := by
 intro a0 a1 a2 a3 a4 a5 k
 unfold view_Look.f
 repeat' first
   | (with_reducible exact table_Look.mono _ _ _ _)
   | (with_reducible exact LeO.refl _)
   | (with_reducible exact LeO.none _)
   | (with_reducible refine LeO.ite ?_ ?_)
   | (with_reducible refine LeO.bind ?_ (fun _ => ?_))
   | exact table_Look.mono _ _ _ _
   | exact LeO.none _
   | refine LeO.ite ?_ ?_
   | refine LeO.bind ?_ (fun _ => ?_)
set_option maxHeartbeats 8000000 in
set_option maxRecDepth 100000 in
theorem view_Look.calls (k : Nat) (A0 : Option Addr) (c0 : Nat) (l0 : List (S47)) (A1_0 : Option Addr) (c1_0 : Nat) (l1_0 : List (S36)) (A1_1 : Option Addr) (c1_1 : Nat) (l1_1 : List Int) (a2 : Int) (a3 : ByteArray) (a4 : Int) (r1 : ByteArray) (r2 : Bool) (w : World) (hr0 : Kd.C k47 w A0 l0.length l0) (hc0 : l0.length ≤ c0) (hr1_0 : Kd.C k36 w A1_0 l1_0.length l1_0) (hc1_0 : l1_0.length ≤ c1_0) (hr1_1 : Kd.C (Kd.int .i64) w A1_1 l1_1.length l1_1) (hc1_1 : l1_1.length ≤ c1_1) (h : view_Look.f k l0 l1_0 l1_1 a2 a3 a4 = some (r1, r2)) :
  Calls Try.prog 43 #[.slice A0 l0.length c0, .agg #[.slice A1_0 l1_0.length c1_0, .slice A1_1 l1_1.length c1_1], .int .i64 a2, .string a3, .int .i64 a4] w fun e w' => e = .returned (.tuple #[.string r1, .bool r2]) ∧ Below w.heap.size w w' := by
 have hu34 := Try.underlying34
 have hu36 := Try.underlying36
 have hu47 := Try.underlying47
 have HR0 := mk0 hr0
 have HC0 := mk0 hc0
 clear hr0 hc0
 have HR1_0 := mk0 hr1_0
 have HC1_0 := mk0 hc1_0
 clear hr1_0 hc1_0
 have HR1_1 := mk0 hr1_1
 have HC1_1 := mk0 hc1_1
 clear hr1_1 hc1_1
 have HB := mk0 (Below.refl w.heap.size w)
 have H : ((pend_Look.f l1_0 l1_1 a2 a3).bind fun bt172 => (if bt172.2.2.2.2 = true then (some (bt172.2.2.1, !bt172.2.2.2.1)) else (if 0 ≤ a2 then (if a2 < (l0.length : Int) then ((table_Look.f k ((rd_T47 l0 a2).f0) a3 a4).bind fun bt179 => (some (bt179.1, bt179.2))) else (none)) else (none)))) = some (r1, r2) := h
 clear h
 replace H := Option.bind_eq_some_iff.mp H
 obtain ⟨⟨t172, t173, t174, t175, t176⟩, A60, H⟩ := H
 try dsimp only at H
 have A6 := mk0 A60
 clear A60
 by_cases c7 : t176 = true
 ·subst c7
  rw [if_pos rfl] at H
  simp only [Option.some.injEq, Prod.mk.injEq] at H
  obtain ⟨rfl, rfl⟩ := H
  go_enter Try.func43, Try.ntmps43
  go_wp2_with (first | ((with_reducible refine gate_dst (N := 6) rfl ?_); refine bx_ (N := 6) (cs := #[.slice A1_0 l1_0.length c1_0, .slice A1_1 l1_1.length c1_1]) (t := 34) (h := ?_); intro gb171 hg w8 hbox hb; have n2_ := mk0 (gz_ HB hg); have n3_ := mk0 (gz_ HB hg); replace HB := mk0 (bt_ (b_ HB) hb); have BK171 := mk0 (hbox); have GW171 := n2_; have GE171 := n3_; clear n2_ n3_ hb hbox hg; obtain ⟨hcz9_0, hcz9_1, hfz9_0, hfz9_1⟩ := c2_ BK171) | (go_at_call 98; (with_reducible refine (pend_Look.calls _ _ l1_0 _ _ l1_1 a2 a3 t172 t173 t174 t175 true _ ?side1 ?side2 ?side3 ?side4 A6.out).mono ?_); (case side1 => exact cb_ HR1_0 HB); (case side2 => exact HC1_0.out); (case side3 => exact cb_ HR1_1 HB); (case side4 => exact HC1_1.out); rintro e w10 ⟨rfl, hb⟩; replace BK171 := mk0 (u_ BK171 hb); replace HB := mk0 (bt_ (b_ HB) hb); (try clear hb)) | ((with_reducible refine gate_dst (N := 12) rfl ?_); refine bx_ (N := 12) (cs := #[.int .i64 0, .string (⟨#[]⟩ : ByteArray), .string (⟨#[]⟩ : ByteArray), .bool false]) (t := 36) (h := ?_); intro gb177 hg w11 hbox hb; have n3_ := mk0 (gz_ HB hg); have n4_ := mk0 (gz_ HB hg); have n5_ := mk0 (ne1_ BK171 hg); have n6_ := mk0 (ne2_ BK171 hg); replace BK171 := mk0 (u_ BK171 hb); replace HB := mk0 (bt_ (b_ HB) hb); have BK177 := mk0 (hbox); have GW177 := n3_; have GE177 := n4_; have NB171_177 := n5_; have NB177_171 := n6_; clear n3_ n4_ n5_ n6_ hb hbox hg; have hnb12 := NB177_171.out; have hnc12 := NB171_177.out; obtain ⟨hcz13_0, hcz13_1, hcz13_2, hcz13_3, hfz13_0, hfz13_1, hfz13_2, hfz13_3⟩ := c4_ BK177))
  repeat (go_quiet (first | ((with_reducible refine gate_dst (N := 6) rfl ?_); refine bx_ (N := 6) (cs := #[.slice A1_0 l1_0.length c1_0, .slice A1_1 l1_1.length c1_1]) (t := 34) (h := ?_); intro gb171 hg w8 hbox hb; have n2_ := mk0 (gz_ HB hg); have n3_ := mk0 (gz_ HB hg); replace HB := mk0 (bt_ (b_ HB) hb); have BK171 := mk0 (hbox); have GW171 := n2_; have GE171 := n3_; clear n2_ n3_ hb hbox hg; obtain ⟨hcz9_0, hcz9_1, hfz9_0, hfz9_1⟩ := c2_ BK171) | (go_at_call 98; (with_reducible refine (pend_Look.calls _ _ l1_0 _ _ l1_1 a2 a3 t172 t173 t174 t175 true _ ?side1 ?side2 ?side3 ?side4 A6.out).mono ?_); (case side1 => exact cb_ HR1_0 HB); (case side2 => exact HC1_0.out); (case side3 => exact cb_ HR1_1 HB); (case side4 => exact HC1_1.out); rintro e w10 ⟨rfl, hb⟩; replace BK171 := mk0 (u_ BK171 hb); replace HB := mk0 (bt_ (b_ HB) hb); (try clear hb)) | ((with_reducible refine gate_dst (N := 12) rfl ?_); refine bx_ (N := 12) (cs := #[.int .i64 0, .string (⟨#[]⟩ : ByteArray), .string (⟨#[]⟩ : ByteArray), .bool false]) (t := 36) (h := ?_); intro gb177 hg w11 hbox hb; have n3_ := mk0 (gz_ HB hg); have n4_ := mk0 (gz_ HB hg); have n5_ := mk0 (ne1_ BK171 hg); have n6_ := mk0 (ne2_ BK171 hg); replace BK171 := mk0 (u_ BK171 hb); replace HB := mk0 (bt_ (b_ HB) hb); have BK177 := mk0 (hbox); have GW177 := n3_; have GE177 := n4_; have NB171_177 := n5_; have NB177_171 := n6_; clear n3_ n4_ n5_ n6_ hb hbox hg; have hnb12 := NB177_171.out; have hnc12 := NB171_177.out; obtain ⟨hcz13_0, hcz13_1, hcz13_2, hcz13_3, hfz13_0, hfz13_1, hfz13_2, hfz13_3⟩ := c4_ BK177)); try go_wp2_with (first | ((with_reducible refine gate_dst (N := 6) rfl ?_); refine bx_ (N := 6) (cs := #[.slice A1_0 l1_0.length c1_0, .slice A1_1 l1_1.length c1_1]) (t := 34) (h := ?_); intro gb171 hg w8 hbox hb; have n2_ := mk0 (gz_ HB hg); have n3_ := mk0 (gz_ HB hg); replace HB := mk0 (bt_ (b_ HB) hb); have BK171 := mk0 (hbox); have GW171 := n2_; have GE171 := n3_; clear n2_ n3_ hb hbox hg; obtain ⟨hcz9_0, hcz9_1, hfz9_0, hfz9_1⟩ := c2_ BK171) | (go_at_call 98; (with_reducible refine (pend_Look.calls _ _ l1_0 _ _ l1_1 a2 a3 t172 t173 t174 t175 true _ ?side1 ?side2 ?side3 ?side4 A6.out).mono ?_); (case side1 => exact cb_ HR1_0 HB); (case side2 => exact HC1_0.out); (case side3 => exact cb_ HR1_1 HB); (case side4 => exact HC1_1.out); rintro e w10 ⟨rfl, hb⟩; replace BK171 := mk0 (u_ BK171 hb); replace HB := mk0 (bt_ (b_ HB) hb); (try clear hb)) | ((with_reducible refine gate_dst (N := 12) rfl ?_); refine bx_ (N := 12) (cs := #[.int .i64 0, .string (⟨#[]⟩ : ByteArray), .string (⟨#[]⟩ : ByteArray), .bool false]) (t := 36) (h := ?_); intro gb177 hg w11 hbox hb; have n3_ := mk0 (gz_ HB hg); have n4_ := mk0 (gz_ HB hg); have n5_ := mk0 (ne1_ BK171 hg); have n6_ := mk0 (ne2_ BK171 hg); replace BK171 := mk0 (u_ BK171 hb); replace HB := mk0 (bt_ (b_ HB) hb); have BK177 := mk0 (hbox); have GW177 := n3_; have GE177 := n4_; have NB171_177 := n5_; have NB177_171 := n6_; clear n3_ n4_ n5_ n6_ hb hbox hg; have hnb12 := NB177_171.out; have hnc12 := NB171_177.out; obtain ⟨hcz13_0, hcz13_1, hcz13_2, hcz13_3, hfz13_0, hfz13_1, hfz13_2, hfz13_3⟩ := c4_ BK177)))
  go_ret2
  exact ⟨by first | rfl | (simp [errW_none, errW_some] <;> rfl) | (simp [*, errW_none, errW_some] <;> rfl), b_ HB⟩
 ·replace c7 := Bool.eq_false_iff.mpr c7
  subst c7
  rw [if_neg (show ¬ (false = true) by decide)] at H
  by_cases c14 : 0 ≤ a2
  ·rw [if_pos c14] at H
   have c14b0 : decide (0 ≤ a2) = true := decide_eq_true c14
   clear c14
   by_cases c15 : a2 < (l0.length : Int)
   ·rw [if_pos c15] at H
    have c15b0 : decide (a2 < (l0.length : Int)) = true := decide_eq_true c15
    clear c15
    replace H := Option.bind_eq_some_iff.mp H
    obtain ⟨⟨t179, t180⟩, A160, H⟩ := H
    try dsimp only at H
    have A16 := mk0 A160
    clear A160
    simp only [Option.some.injEq, Prod.mk.injEq] at H
    obtain ⟨rfl, rfl⟩ := H
    go_enter Try.func43, Try.ntmps43
    go_wp2_with (first | ((with_reducible refine gate_dst (N := 6) rfl ?_); refine bx_ (N := 6) (cs := #[.slice A1_0 l1_0.length c1_0, .slice A1_1 l1_1.length c1_1]) (t := 34) (h := ?_); intro gb171 hg w17 hbox hb; have n2_ := mk0 (gz_ HB hg); have n3_ := mk0 (gz_ HB hg); replace HB := mk0 (bt_ (b_ HB) hb); have BK171 := mk0 (hbox); have GW171 := n2_; have GE171 := n3_; clear n2_ n3_ hb hbox hg; obtain ⟨hcz18_0, hcz18_1, hfz18_0, hfz18_1⟩ := c2_ BK171) | (go_at_call 98; (with_reducible refine (pend_Look.calls _ _ l1_0 _ _ l1_1 a2 a3 t172 t173 t174 t175 false _ ?side1 ?side2 ?side3 ?side4 A6.out).mono ?_); (case side1 => exact cb_ HR1_0 HB); (case side2 => exact HC1_0.out); (case side3 => exact cb_ HR1_1 HB); (case side4 => exact HC1_1.out); rintro e w19 ⟨rfl, hb⟩; replace BK171 := mk0 (u_ BK171 hb); replace HB := mk0 (bt_ (b_ HB) hb); (try clear hb)) | ((with_reducible refine gate_dst (N := 12) rfl ?_); refine bx_ (N := 12) (cs := #[.int .i64 0, .string (⟨#[]⟩ : ByteArray), .string (⟨#[]⟩ : ByteArray), .bool false]) (t := 36) (h := ?_); intro gb177 hg w20 hbox hb; have n3_ := mk0 (gz_ HB hg); have n4_ := mk0 (gz_ HB hg); have n5_ := mk0 (ne1_ BK171 hg); have n6_ := mk0 (ne2_ BK171 hg); replace BK171 := mk0 (u_ BK171 hb); replace HB := mk0 (bt_ (b_ HB) hb); have BK177 := mk0 (hbox); have GW177 := n3_; have GE177 := n4_; have NB171_177 := n5_; have NB177_171 := n6_; clear n3_ n4_ n5_ n6_ hb hbox hg; have hnb21 := NB177_171.out; have hnc21 := NB171_177.out; obtain ⟨hcz22_0, hcz22_1, hcz22_2, hcz22_3, hfz22_0, hfz22_1, hfz22_2, hfz22_3⟩ := c4_ BK177; have p178 : 0 ≤ (a2 : Int) := of_decide_eq_true (by first | (with_reducible assumption) | assumption); have q178 : a2 < (l0.length : Int) := of_decide_eq_true (by first | (with_reducible assumption) | assumption); obtain ⟨ad178, A178_0, c178_0, e178, hx178_0, hl178_0, hi178_0⟩ := at_T47 HR0.out a2 p178 q178; cases e178; have hn178_0 : ad178.block ≠ gb177 := nb_ hx178_0 GW177; have hn178_1 : ad178.block ≠ gb177 := nb_ hx178_0 GW177; have hn178_2 : ad178.block ≠ gb177 := nb_ hx178_0 GW177; have hn178_3 : ad178.block ≠ gb177 := nb_ hx178_0 GW177; replace hx178_0 := (bc_ HB hx178_0 :); have HR178_0 := mk0 hi178_0; have HC178_0 := mk0 hl178_0; clear hi178_0 hl178_0; replace hx178_0 := (cell_far (p := ⟨gb177, 0, none⟩) (by first | (rw [add_block]; exact hn178_0) | (show (Addr.add _ _).block ≠ _; rw [add_block]; exact hn178_0) | exact hn178_0) (.int .i64 t172)).trans hx178_0; replace hx178_0 := (cell_far (p := ⟨gb177, 1, none⟩) (by first | (rw [add_block]; exact hn178_1) | (show (Addr.add _ _).block ≠ _; rw [add_block]; exact hn178_1) | exact hn178_1) (.string t173)).trans hx178_0; replace hx178_0 := (cell_far (p := ⟨gb177, 2, none⟩) (by first | (rw [add_block]; exact hn178_2) | (show (Addr.add _ _).block ≠ _; rw [add_block]; exact hn178_2) | exact hn178_2) (.string t174)).trans hx178_0; replace hx178_0 := (cell_far (p := ⟨gb177, 3, none⟩) (by first | (rw [add_block]; exact hn178_3) | (show (Addr.add _ _).block ≠ _; rw [add_block]; exact hn178_3) | exact hn178_3) (.bool t175)).trans hx178_0; (try have hy178_0 := fun (n_ : Nat) => (show ((((((w20.drewN n_).setCell ⟨gb177, 0, none⟩ (.int .i64 t172)).setCell ⟨gb177, 1, none⟩ (.string t173)).setCell ⟨gb177, 2, none⟩ (.string t174)).setCell ⟨gb177, 3, none⟩ (.bool t175))).cell? _ = some _ from hx178_0)); clear hn178_0 hn178_1 hn178_2 hn178_3; replace p178 := eq_true p178; replace q178 := eq_true q178) | (go_at_call 99; (with_reducible refine (table_Look.calls k _ _ ((rd_T47 l0 a2).f0) a3 a4 t179 t180 _ ?side1 ?side2 A16.out).mono ?_); (case side1 => exact Kd.C_below HR178_0.out (b_ HB)); (case side2 => exact HC178_0.out); rintro e w23 ⟨rfl, hb⟩; replace BK171 := mk0 (blk_below (g := gb171) (o := .cells #[.slice A1_0 l1_0.length c1_0, .slice A1_1 l1_1.length c1_1] 34 (0, 0)) (fa_ (fa_ (fa_ (fa_ (h_ BK171) NB171_177.out) NB171_177.out) NB171_177.out) NB171_177.out) hb); replace BK177 := mk0 (blk_below (g := gb177) (o := .cells #[.int .i64 t172, .string t173, .string t174, .bool t175] 36 (0, 0)) (pu_ (cs := #[.int .i64 t172, .string t173, .string t174, .bool false]) (pu_ (cs := #[.int .i64 t172, .string t173, .string (⟨#[]⟩ : ByteArray), .bool false]) (pu_ (cs := #[.int .i64 t172, .string (⟨#[]⟩ : ByteArray), .string (⟨#[]⟩ : ByteArray), .bool false]) (pu_ (cs := #[.int .i64 0, .string (⟨#[]⟩ : ByteArray), .string (⟨#[]⟩ : ByteArray), .bool false]) (h_ BK177))))) hb); replace HB := mk0 (bt_ (b_ HB) hb); (try clear hb)))
    repeat (go_quiet (first | ((with_reducible refine gate_dst (N := 6) rfl ?_); refine bx_ (N := 6) (cs := #[.slice A1_0 l1_0.length c1_0, .slice A1_1 l1_1.length c1_1]) (t := 34) (h := ?_); intro gb171 hg w17 hbox hb; have n2_ := mk0 (gz_ HB hg); have n3_ := mk0 (gz_ HB hg); replace HB := mk0 (bt_ (b_ HB) hb); have BK171 := mk0 (hbox); have GW171 := n2_; have GE171 := n3_; clear n2_ n3_ hb hbox hg; obtain ⟨hcz18_0, hcz18_1, hfz18_0, hfz18_1⟩ := c2_ BK171) | (go_at_call 98; (with_reducible refine (pend_Look.calls _ _ l1_0 _ _ l1_1 a2 a3 t172 t173 t174 t175 false _ ?side1 ?side2 ?side3 ?side4 A6.out).mono ?_); (case side1 => exact cb_ HR1_0 HB); (case side2 => exact HC1_0.out); (case side3 => exact cb_ HR1_1 HB); (case side4 => exact HC1_1.out); rintro e w19 ⟨rfl, hb⟩; replace BK171 := mk0 (u_ BK171 hb); replace HB := mk0 (bt_ (b_ HB) hb); (try clear hb)) | ((with_reducible refine gate_dst (N := 12) rfl ?_); refine bx_ (N := 12) (cs := #[.int .i64 0, .string (⟨#[]⟩ : ByteArray), .string (⟨#[]⟩ : ByteArray), .bool false]) (t := 36) (h := ?_); intro gb177 hg w20 hbox hb; have n3_ := mk0 (gz_ HB hg); have n4_ := mk0 (gz_ HB hg); have n5_ := mk0 (ne1_ BK171 hg); have n6_ := mk0 (ne2_ BK171 hg); replace BK171 := mk0 (u_ BK171 hb); replace HB := mk0 (bt_ (b_ HB) hb); have BK177 := mk0 (hbox); have GW177 := n3_; have GE177 := n4_; have NB171_177 := n5_; have NB177_171 := n6_; clear n3_ n4_ n5_ n6_ hb hbox hg; have hnb21 := NB177_171.out; have hnc21 := NB171_177.out; obtain ⟨hcz22_0, hcz22_1, hcz22_2, hcz22_3, hfz22_0, hfz22_1, hfz22_2, hfz22_3⟩ := c4_ BK177; have p178 : 0 ≤ (a2 : Int) := of_decide_eq_true (by first | (with_reducible assumption) | assumption); have q178 : a2 < (l0.length : Int) := of_decide_eq_true (by first | (with_reducible assumption) | assumption); obtain ⟨ad178, A178_0, c178_0, e178, hx178_0, hl178_0, hi178_0⟩ := at_T47 HR0.out a2 p178 q178; cases e178; have hn178_0 : ad178.block ≠ gb177 := nb_ hx178_0 GW177; have hn178_1 : ad178.block ≠ gb177 := nb_ hx178_0 GW177; have hn178_2 : ad178.block ≠ gb177 := nb_ hx178_0 GW177; have hn178_3 : ad178.block ≠ gb177 := nb_ hx178_0 GW177; replace hx178_0 := (bc_ HB hx178_0 :); have HR178_0 := mk0 hi178_0; have HC178_0 := mk0 hl178_0; clear hi178_0 hl178_0; replace hx178_0 := (cell_far (p := ⟨gb177, 0, none⟩) (by first | (rw [add_block]; exact hn178_0) | (show (Addr.add _ _).block ≠ _; rw [add_block]; exact hn178_0) | exact hn178_0) (.int .i64 t172)).trans hx178_0; replace hx178_0 := (cell_far (p := ⟨gb177, 1, none⟩) (by first | (rw [add_block]; exact hn178_1) | (show (Addr.add _ _).block ≠ _; rw [add_block]; exact hn178_1) | exact hn178_1) (.string t173)).trans hx178_0; replace hx178_0 := (cell_far (p := ⟨gb177, 2, none⟩) (by first | (rw [add_block]; exact hn178_2) | (show (Addr.add _ _).block ≠ _; rw [add_block]; exact hn178_2) | exact hn178_2) (.string t174)).trans hx178_0; replace hx178_0 := (cell_far (p := ⟨gb177, 3, none⟩) (by first | (rw [add_block]; exact hn178_3) | (show (Addr.add _ _).block ≠ _; rw [add_block]; exact hn178_3) | exact hn178_3) (.bool t175)).trans hx178_0; (try have hy178_0 := fun (n_ : Nat) => (show ((((((w20.drewN n_).setCell ⟨gb177, 0, none⟩ (.int .i64 t172)).setCell ⟨gb177, 1, none⟩ (.string t173)).setCell ⟨gb177, 2, none⟩ (.string t174)).setCell ⟨gb177, 3, none⟩ (.bool t175))).cell? _ = some _ from hx178_0)); clear hn178_0 hn178_1 hn178_2 hn178_3; replace p178 := eq_true p178; replace q178 := eq_true q178) | (go_at_call 99; (with_reducible refine (table_Look.calls k _ _ ((rd_T47 l0 a2).f0) a3 a4 t179 t180 _ ?side1 ?side2 A16.out).mono ?_); (case side1 => exact Kd.C_below HR178_0.out (b_ HB)); (case side2 => exact HC178_0.out); rintro e w23 ⟨rfl, hb⟩; replace BK171 := mk0 (blk_below (g := gb171) (o := .cells #[.slice A1_0 l1_0.length c1_0, .slice A1_1 l1_1.length c1_1] 34 (0, 0)) (fa_ (fa_ (fa_ (fa_ (h_ BK171) NB171_177.out) NB171_177.out) NB171_177.out) NB171_177.out) hb); replace BK177 := mk0 (blk_below (g := gb177) (o := .cells #[.int .i64 t172, .string t173, .string t174, .bool t175] 36 (0, 0)) (pu_ (cs := #[.int .i64 t172, .string t173, .string t174, .bool false]) (pu_ (cs := #[.int .i64 t172, .string t173, .string (⟨#[]⟩ : ByteArray), .bool false]) (pu_ (cs := #[.int .i64 t172, .string (⟨#[]⟩ : ByteArray), .string (⟨#[]⟩ : ByteArray), .bool false]) (pu_ (cs := #[.int .i64 0, .string (⟨#[]⟩ : ByteArray), .string (⟨#[]⟩ : ByteArray), .bool false]) (h_ BK177))))) hb); replace HB := mk0 (bt_ (b_ HB) hb); (try clear hb))); try go_wp2_with (first | ((with_reducible refine gate_dst (N := 6) rfl ?_); refine bx_ (N := 6) (cs := #[.slice A1_0 l1_0.length c1_0, .slice A1_1 l1_1.length c1_1]) (t := 34) (h := ?_); intro gb171 hg w17 hbox hb; have n2_ := mk0 (gz_ HB hg); have n3_ := mk0 (gz_ HB hg); replace HB := mk0 (bt_ (b_ HB) hb); have BK171 := mk0 (hbox); have GW171 := n2_; have GE171 := n3_; clear n2_ n3_ hb hbox hg; obtain ⟨hcz18_0, hcz18_1, hfz18_0, hfz18_1⟩ := c2_ BK171) | (go_at_call 98; (with_reducible refine (pend_Look.calls _ _ l1_0 _ _ l1_1 a2 a3 t172 t173 t174 t175 false _ ?side1 ?side2 ?side3 ?side4 A6.out).mono ?_); (case side1 => exact cb_ HR1_0 HB); (case side2 => exact HC1_0.out); (case side3 => exact cb_ HR1_1 HB); (case side4 => exact HC1_1.out); rintro e w19 ⟨rfl, hb⟩; replace BK171 := mk0 (u_ BK171 hb); replace HB := mk0 (bt_ (b_ HB) hb); (try clear hb)) | ((with_reducible refine gate_dst (N := 12) rfl ?_); refine bx_ (N := 12) (cs := #[.int .i64 0, .string (⟨#[]⟩ : ByteArray), .string (⟨#[]⟩ : ByteArray), .bool false]) (t := 36) (h := ?_); intro gb177 hg w20 hbox hb; have n3_ := mk0 (gz_ HB hg); have n4_ := mk0 (gz_ HB hg); have n5_ := mk0 (ne1_ BK171 hg); have n6_ := mk0 (ne2_ BK171 hg); replace BK171 := mk0 (u_ BK171 hb); replace HB := mk0 (bt_ (b_ HB) hb); have BK177 := mk0 (hbox); have GW177 := n3_; have GE177 := n4_; have NB171_177 := n5_; have NB177_171 := n6_; clear n3_ n4_ n5_ n6_ hb hbox hg; have hnb21 := NB177_171.out; have hnc21 := NB171_177.out; obtain ⟨hcz22_0, hcz22_1, hcz22_2, hcz22_3, hfz22_0, hfz22_1, hfz22_2, hfz22_3⟩ := c4_ BK177; have p178 : 0 ≤ (a2 : Int) := of_decide_eq_true (by first | (with_reducible assumption) | assumption); have q178 : a2 < (l0.length : Int) := of_decide_eq_true (by first | (with_reducible assumption) | assumption); obtain ⟨ad178, A178_0, c178_0, e178, hx178_0, hl178_0, hi178_0⟩ := at_T47 HR0.out a2 p178 q178; cases e178; have hn178_0 : ad178.block ≠ gb177 := nb_ hx178_0 GW177; have hn178_1 : ad178.block ≠ gb177 := nb_ hx178_0 GW177; have hn178_2 : ad178.block ≠ gb177 := nb_ hx178_0 GW177; have hn178_3 : ad178.block ≠ gb177 := nb_ hx178_0 GW177; replace hx178_0 := (bc_ HB hx178_0 :); have HR178_0 := mk0 hi178_0; have HC178_0 := mk0 hl178_0; clear hi178_0 hl178_0; replace hx178_0 := (cell_far (p := ⟨gb177, 0, none⟩) (by first | (rw [add_block]; exact hn178_0) | (show (Addr.add _ _).block ≠ _; rw [add_block]; exact hn178_0) | exact hn178_0) (.int .i64 t172)).trans hx178_0; replace hx178_0 := (cell_far (p := ⟨gb177, 1, none⟩) (by first | (rw [add_block]; exact hn178_1) | (show (Addr.add _ _).block ≠ _; rw [add_block]; exact hn178_1) | exact hn178_1) (.string t173)).trans hx178_0; replace hx178_0 := (cell_far (p := ⟨gb177, 2, none⟩) (by first | (rw [add_block]; exact hn178_2) | (show (Addr.add _ _).block ≠ _; rw [add_block]; exact hn178_2) | exact hn178_2) (.string t174)).trans hx178_0; replace hx178_0 := (cell_far (p := ⟨gb177, 3, none⟩) (by first | (rw [add_block]; exact hn178_3) | (show (Addr.add _ _).block ≠ _; rw [add_block]; exact hn178_3) | exact hn178_3) (.bool t175)).trans hx178_0; (try have hy178_0 := fun (n_ : Nat) => (show ((((((w20.drewN n_).setCell ⟨gb177, 0, none⟩ (.int .i64 t172)).setCell ⟨gb177, 1, none⟩ (.string t173)).setCell ⟨gb177, 2, none⟩ (.string t174)).setCell ⟨gb177, 3, none⟩ (.bool t175))).cell? _ = some _ from hx178_0)); clear hn178_0 hn178_1 hn178_2 hn178_3; replace p178 := eq_true p178; replace q178 := eq_true q178) | (go_at_call 99; (with_reducible refine (table_Look.calls k _ _ ((rd_T47 l0 a2).f0) a3 a4 t179 t180 _ ?side1 ?side2 A16.out).mono ?_); (case side1 => exact Kd.C_below HR178_0.out (b_ HB)); (case side2 => exact HC178_0.out); rintro e w23 ⟨rfl, hb⟩; replace BK171 := mk0 (blk_below (g := gb171) (o := .cells #[.slice A1_0 l1_0.length c1_0, .slice A1_1 l1_1.length c1_1] 34 (0, 0)) (fa_ (fa_ (fa_ (fa_ (h_ BK171) NB171_177.out) NB171_177.out) NB171_177.out) NB171_177.out) hb); replace BK177 := mk0 (blk_below (g := gb177) (o := .cells #[.int .i64 t172, .string t173, .string t174, .bool t175] 36 (0, 0)) (pu_ (cs := #[.int .i64 t172, .string t173, .string t174, .bool false]) (pu_ (cs := #[.int .i64 t172, .string t173, .string (⟨#[]⟩ : ByteArray), .bool false]) (pu_ (cs := #[.int .i64 t172, .string (⟨#[]⟩ : ByteArray), .string (⟨#[]⟩ : ByteArray), .bool false]) (pu_ (cs := #[.int .i64 0, .string (⟨#[]⟩ : ByteArray), .string (⟨#[]⟩ : ByteArray), .bool false]) (h_ BK177))))) hb); replace HB := mk0 (bt_ (b_ HB) hb); (try clear hb))))
    go_ret2
    exact ⟨by first | rfl | (simp [errW_none, errW_some] <;> rfl) | (simp [*, errW_none, errW_some] <;> rfl), b_ HB⟩
   ·rw [if_neg c15] at H
    exact absurd H (by simp)
  ·rw [if_neg c14] at H
   exact absurd H (by simp)

/-! ### view_Get: function 18 -/
def view_Get.j0 : Nat → List (S47) → Int → ByteArray → Int → Bool → List (S36) → List Int → Option (ByteArray × Int)
 | 0, _, _, _, _, _, _, _ => none
 | k + 1, x0, x2, x3, x4, x28, x182000, x182001 => if x28 = true then (some ((⟨#[]⟩ : ByteArray), 1)) else ((view_Look.f k x0 x182000 x182001 x2 x3 x4).bind fun bt185 => (if bt185.2 = true then (some (bt185.1, 0)) else (some ((⟨#[]⟩ : ByteArray), 3))))
def view_Get.f (k : Nat) (l0 : List (S47)) (l1_0 : List (S36)) (l1_1 : List Int) (a2 : Int) (a3 : ByteArray) (a4 : Int) : Option (ByteArray × Int) := (view_May.f k l0 l1_0 l1_1).bind fun t182 => (if t182 = true then ((view_there.f l0 a2).bind fun t183 => (if t183 = true then ((key_Is.f a3).bind fun t184 => (view_Get.j0 k l0 a2 a3 a4 (!t184) l1_0 l1_1)) else (view_Get.j0 k l0 a2 a3 a4 true l1_0 l1_1))) else (view_Get.j0 k l0 a2 a3 a4 true l1_0 l1_1))
theorem view_Get.mono_l : ∀ k, (∀ y0 y1 y2 y3 y4 y5 y6, LeO (view_Get.j0 k y0 y1 y2 y3 y4 y5 y6) (view_Get.j0 (k + 1) y0 y1 y2 y3 y4 y5 y6))
 | 0 => fun _ _ _ _ _ _ _ r h => by simp [view_Get.j0] at h
 | k + 1 => by
  have ih0 := view_Get.mono_l k
  ·intro y0 y1 y2 y3 y4 y5 y6
   unfold view_Get.j0
   repeat' first
   | (with_reducible exact ih0 _ _ _ _ _ _ _)
   | (with_reducible exact view_Look.mono _ _ _ _ _ _ _)
   | (with_reducible exact view_May.mono _ _ _ _)
   | (with_reducible exact LeO.refl _)
   | (with_reducible exact LeO.none _)
   | (with_reducible refine LeO.ite ?_ ?_)
   | (with_reducible refine LeO.bind ?_ (fun _ => ?_))
   | exact ih0 _ _ _ _ _ _ _
   | exact view_Look.mono _ _ _ _ _ _ _
   | exact view_May.mono _ _ _ _
   | exact LeO.none _
   | refine LeO.ite ?_ ?_
   | refine LeO.bind ?_ (fun _ => ?_)
theorem view_Get.mono : ∀ a0 a1 a2 a3 a4 a5 k, LeO (view_Get.f k a0 a1 a2 a3 a4 a5) (view_Get.f (k + 1) a0 a1 a2 a3 a4 a5) := by
 intro a0 a1 a2 a3 a4 a5 k
 have ih0 := view_Get.mono_l k
 unfold view_Get.f
 repeat' first
   | (with_reducible exact ih0 _ _ _ _ _ _ _)
   | (with_reducible exact view_Look.mono _ _ _ _ _ _ _)
   | (with_reducible exact view_May.mono _ _ _ _)
   | (with_reducible exact LeO.refl _)
   | (with_reducible exact LeO.none _)
   | (with_reducible refine LeO.ite ?_ ?_)
   | (with_reducible refine LeO.bind ?_ (fun _ => ?_))
   | exact ih0 _ _ _ _ _ _ _
   | exact view_Look.mono _ _ _ _ _ _ _
   | exact view_May.mono _ _ _ _
   | exact LeO.none _
   | refine LeO.ite ?_ ?_
   | refine LeO.bind ?_ (fun _ => ?_)
set_option maxHeartbeats 8000000 in
set_option maxRecDepth 100000 in
theorem view_Get.calls (k : Nat) (A0 : Option Addr) (c0 : Nat) (l0 : List (S47)) (A1_0 : Option Addr) (c1_0 : Nat) (l1_0 : List (S36)) (A1_1 : Option Addr) (c1_1 : Nat) (l1_1 : List Int) (a2 : Int) (a3 : ByteArray) (a4 : Int) (r1 : ByteArray) (r2 : Int) (w : World) (hr0 : Kd.C k47 w A0 l0.length l0) (hc0 : l0.length ≤ c0) (hr1_0 : Kd.C k36 w A1_0 l1_0.length l1_0) (hc1_0 : l1_0.length ≤ c1_0) (hr1_1 : Kd.C (Kd.int .i64) w A1_1 l1_1.length l1_1) (hc1_1 : l1_1.length ≤ c1_1) (h : view_Get.f k l0 l1_0 l1_1 a2 a3 a4 = some (r1, r2)) :
  Calls Try.prog 18 #[.slice A0 l0.length c0, .agg #[.slice A1_0 l1_0.length c1_0, .slice A1_1 l1_1.length c1_1], .int .i64 a2, .string a3, .int .i64 a4] w fun e w' => e = .returned (.tuple #[.string r1, .int .i64 r2]) ∧ Below w.heap.size w w' := by
 have hu34 := Try.underlying34
 have HR0 := mk0 hr0
 have HC0 := mk0 hc0
 clear hr0 hc0
 have HR1_0 := mk0 hr1_0
 have HC1_0 := mk0 hc1_0
 clear hr1_0 hc1_0
 have HR1_1 := mk0 hr1_1
 have HC1_1 := mk0 hc1_1
 clear hr1_1 hc1_1
 have HB := mk0 (Below.refl w.heap.size w)
 have H : ((view_May.f k l0 l1_0 l1_1).bind fun t182 => (if t182 = true then ((view_there.f l0 a2).bind fun t183 => (if t183 = true then ((key_Is.f a3).bind fun t184 => (view_Get.j0 k l0 a2 a3 a4 (!t184) l1_0 l1_1)) else (view_Get.j0 k l0 a2 a3 a4 true l1_0 l1_1))) else (view_Get.j0 k l0 a2 a3 a4 true l1_0 l1_1))) = some (r1, r2) := h
 clear h
 have HC6 := mk0 H
 clear H
 go_enter Try.func18, Try.ntmps18
 go_upto_region 1 with (first | ((with_reducible refine gate_dst (N := 6) rfl ?_); refine bx_ (N := 6) (cs := #[.slice A1_0 l1_0.length c1_0, .slice A1_1 l1_1.length c1_1]) (t := 34) (h := ?_); intro gb181 hg w7 hbox hb; have n2_ := mk0 (gz_ HB hg); have n3_ := mk0 (gz_ HB hg); replace HB := mk0 (bt_ (b_ HB) hb); have BK181 := mk0 (hbox); have GW181 := n2_; have GE181 := n3_; clear n2_ n3_; clear hb hbox hg))
 (try simp only [Act.put, List.setIfInBounds_toArray, List.set_cons_zero, List.set_cons_succ])
 go_cut [28] (fun v28 wc => ∃ (kq : Nat) (x28_5 : Bool), v28 = .bool x28_5 ∧ Fc (view_Get.j0 kq l0 a2 a3 a4 x28_5 l1_0 l1_1 = some (r1, r2)) ∧ Fc (kq ≤ k) ∧ Fc (wc.heap[gb181]? = some (.cells #[(.slice A1_0 l1_0.length c1_0), (.slice A1_1 l1_1.length c1_1)] 34 (0, 0))) ∧ Fc (Below w.heap.size w wc))
 case first =>
  have H := HC6.out
  clear HC6
  replace H := Option.bind_eq_some_iff.mp H
  obtain ⟨t182, A80, H⟩ := H
  try dsimp only at H
  have A8 := mk0 A80
  clear A80
  by_cases c9 : t182 = true
  ·subst c9
   rw [if_pos rfl] at H
   replace H := Option.bind_eq_some_iff.mp H
   obtain ⟨t183, A100, H⟩ := H
   try dsimp only at H
   have A10 := mk0 A100
   clear A100
   by_cases c11 : t183 = true
   ·subst c11
    rw [if_pos rfl] at H
    replace H := Option.bind_eq_some_iff.mp H
    obtain ⟨t184, A120, H⟩ := H
    try dsimp only at H
    have A12 := mk0 A120
    clear A120
    have H' := mk0 H
    clear H
    obtain ⟨hcz13_0, hcz13_1, hfz13_0, hfz13_1⟩ := c2_ BK181
    go_wp2_with (first | ((with_reducible refine gate_callee (f := 40) rfl ?_); refine gL_ (some 16) Try.func40 #[.slice A0 l0.length c0, .agg #[.slice A1_0 l1_0.length c1_0, .slice A1_1 l1_1.length c1_1]] (h := ?_); (with_reducible refine (view_May.calls k _ _ l0 _ _ l1_0 _ _ l1_1 true _ ?side1 ?side2 ?side3 ?side4 ?side5 ?side6 A8.out).mono ?_); (case side1 => exact cb_ HR0 HB); (case side2 => exact HC0.out); (case side3 => exact cb_ HR1_0 HB); (case side4 => exact HC1_0.out); (case side5 => exact cb_ HR1_1 HB); (case side6 => exact HC1_1.out); rintro e w14 ⟨rfl, hb⟩; refine ⟨_, rfl, ?_⟩; replace BK181 := mk0 (u_ BK181 hb); replace HB := mk0 (bt_ (b_ HB) hb); (try clear hb)) | (go_at_call 41; (with_reducible refine (view_there.calls _ _ l0 a2 true _ ?side1 ?side2 A10.out).mono ?_); (case side1 => exact cb_ HR0 HB); (case side2 => exact HC0.out); rintro e w' ⟨rfl, ⟨nd, rfl⟩⟩) | (go_at_call 42; (with_reducible refine (key_Is.calls a3 t184 _ A12.out).mono ?_); rintro e w' ⟨rfl, ⟨nd, rfl⟩⟩))
    go_meet
    case rel => exact ⟨_, (!t184), (by first | rfl | (simp; done) | (simp [*]; done)), H', ⟨by first | omega | exact Nat.le_refl _⟩, ⟨h_ BK181⟩, ⟨b_ HB⟩⟩
   ·replace c11 := Bool.eq_false_iff.mpr c11
    subst c11
    rw [if_neg (show ¬ (false = true) by decide)] at H
    have H' := mk0 H
    clear H
    obtain ⟨hcz15_0, hcz15_1, hfz15_0, hfz15_1⟩ := c2_ BK181
    go_wp2_with (first | ((with_reducible refine gate_callee (f := 40) rfl ?_); refine gL_ (some 16) Try.func40 #[.slice A0 l0.length c0, .agg #[.slice A1_0 l1_0.length c1_0, .slice A1_1 l1_1.length c1_1]] (h := ?_); (with_reducible refine (view_May.calls k _ _ l0 _ _ l1_0 _ _ l1_1 true _ ?side1 ?side2 ?side3 ?side4 ?side5 ?side6 A8.out).mono ?_); (case side1 => exact cb_ HR0 HB); (case side2 => exact HC0.out); (case side3 => exact cb_ HR1_0 HB); (case side4 => exact HC1_0.out); (case side5 => exact cb_ HR1_1 HB); (case side6 => exact HC1_1.out); rintro e w16 ⟨rfl, hb⟩; refine ⟨_, rfl, ?_⟩; replace BK181 := mk0 (u_ BK181 hb); replace HB := mk0 (bt_ (b_ HB) hb); (try clear hb)) | (go_at_call 41; (with_reducible refine (view_there.calls _ _ l0 a2 false _ ?side1 ?side2 A10.out).mono ?_); (case side1 => exact cb_ HR0 HB); (case side2 => exact HC0.out); rintro e w' ⟨rfl, ⟨nd, rfl⟩⟩))
    go_meet
    case rel => exact ⟨_, (true), (by first | rfl | (simp; done) | (simp [*]; done)), H', ⟨by first | omega | exact Nat.le_refl _⟩, ⟨h_ BK181⟩, ⟨b_ HB⟩⟩
  ·replace c9 := Bool.eq_false_iff.mpr c9
   subst c9
   rw [if_neg (show ¬ (false = true) by decide)] at H
   have H' := mk0 H
   clear H
   obtain ⟨hcz17_0, hcz17_1, hfz17_0, hfz17_1⟩ := c2_ BK181
   go_wp2_with (first | ((with_reducible refine gate_callee (f := 40) rfl ?_); refine gL_ (some 16) Try.func40 #[.slice A0 l0.length c0, .agg #[.slice A1_0 l1_0.length c1_0, .slice A1_1 l1_1.length c1_1]] (h := ?_); (with_reducible refine (view_May.calls k _ _ l0 _ _ l1_0 _ _ l1_1 false _ ?side1 ?side2 ?side3 ?side4 ?side5 ?side6 A8.out).mono ?_); (case side1 => exact cb_ HR0 HB); (case side2 => exact HC0.out); (case side3 => exact cb_ HR1_0 HB); (case side4 => exact HC1_0.out); (case side5 => exact cb_ HR1_1 HB); (case side6 => exact HC1_1.out); rintro e w18 ⟨rfl, hb⟩; refine ⟨_, rfl, ?_⟩; replace BK181 := mk0 (u_ BK181 hb); replace HB := mk0 (bt_ (b_ HB) hb); (try clear hb)))
   go_meet
   case rel => exact ⟨_, (true), (by first | rfl | (simp; done) | (simp [*]; done)), H', ⟨by first | omega | exact Nat.le_refl _⟩, ⟨h_ BK181⟩, ⟨b_ HB⟩⟩
 case rest =>
  clear HC6
  try clear c9
  try clear c11
  try clear hcz13_0
  try clear hcz13_1
  try clear hcz15_0
  try clear hcz15_1
  try clear hcz17_0
  try clear hcz17_1
  try clear hfz13_0
  try clear hfz13_1
  try clear hfz15_0
  try clear hfz15_1
  try clear hfz17_0
  try clear hfz17_1
  obtain ⟨kq, x28_5, rfl, HA, HJ5, BK181, HB⟩ := hcut
  cases kq with
  | zero => exact absurd HA.out (by simp [view_Get.j0])
  | succ kj5 =>
   have H := HA.out
   clear HA
   simp only [view_Get.j0] at H
   as_aux_lemma =>
    by_cases c19 : x28_5 = true
    ·subst c19
     rw [if_pos rfl] at H
     simp only [Option.some.injEq, Prod.mk.injEq] at H
     obtain ⟨rfl, rfl⟩ := H
     go_wp2
     go_ret2
     exact ⟨by first | rfl | (simp [errW_none, errW_some] <;> rfl) | (simp [*, errW_none, errW_some] <;> rfl), b_ HB⟩
    ·replace c19 := Bool.eq_false_iff.mpr c19
     subst c19
     rw [if_neg (show ¬ (false = true) by decide)] at H
     replace H := Option.bind_eq_some_iff.mp H
     obtain ⟨⟨t185, t186⟩, A200, H⟩ := H
     try dsimp only at H
     have A20 := mk0 A200
     clear A200
     by_cases c21 : t186 = true
     ·subst c21
      rw [if_pos rfl] at H
      simp only [Option.some.injEq, Prod.mk.injEq] at H
      obtain ⟨rfl, rfl⟩ := H
      obtain ⟨hcz22_0, hcz22_1, hfz22_0, hfz22_1⟩ := c2_ BK181
      go_wp2_with (first | ((with_reducible refine gate_callee (f := 43) rfl ?_); refine gL_ (some 35) Try.func43 #[.slice A0 l0.length c0, .agg #[.slice A1_0 l1_0.length c1_0, .slice A1_1 l1_1.length c1_1], .int .i64 a2, .string a3, .int .i64 a4] (h := ?_); (with_reducible refine (view_Look.calls kj5 _ _ l0 _ _ l1_0 _ _ l1_1 a2 a3 a4 t185 true _ ?side1 ?side2 ?side3 ?side4 ?side5 ?side6 A20.out).mono ?_); (case side1 => exact cb_ HR0 HB); (case side2 => exact HC0.out); (case side3 => exact cb_ HR1_0 HB); (case side4 => exact HC1_0.out); (case side5 => exact cb_ HR1_1 HB); (case side6 => exact HC1_1.out); rintro e w23 ⟨rfl, hb⟩; refine ⟨_, rfl, ?_⟩; replace BK181 := mk0 (u_ BK181 hb); replace HB := mk0 (bt_ (b_ HB) hb); (try clear hb)))
      go_ret2
      exact ⟨by first | rfl | (simp [errW_none, errW_some] <;> rfl) | (simp [*, errW_none, errW_some] <;> rfl), b_ HB⟩
     ·replace c21 := Bool.eq_false_iff.mpr c21
      subst c21
      rw [if_neg (show ¬ (false = true) by decide)] at H
      simp only [Option.some.injEq, Prod.mk.injEq] at H
      obtain ⟨rfl, rfl⟩ := H
      obtain ⟨hcz24_0, hcz24_1, hfz24_0, hfz24_1⟩ := c2_ BK181
      go_wp2_with (first | ((with_reducible refine gate_callee (f := 43) rfl ?_); refine gL_ (some 35) Try.func43 #[.slice A0 l0.length c0, .agg #[.slice A1_0 l1_0.length c1_0, .slice A1_1 l1_1.length c1_1], .int .i64 a2, .string a3, .int .i64 a4] (h := ?_); (with_reducible refine (view_Look.calls kj5 _ _ l0 _ _ l1_0 _ _ l1_1 a2 a3 a4 t185 false _ ?side1 ?side2 ?side3 ?side4 ?side5 ?side6 A20.out).mono ?_); (case side1 => exact cb_ HR0 HB); (case side2 => exact HC0.out); (case side3 => exact cb_ HR1_0 HB); (case side4 => exact HC1_0.out); (case side5 => exact cb_ HR1_1 HB); (case side6 => exact HC1_1.out); rintro e w25 ⟨rfl, hb⟩; refine ⟨_, rfl, ?_⟩; replace BK181 := mk0 (u_ BK181 hb); replace HB := mk0 (bt_ (b_ HB) hb); (try clear hb)))
      go_ret2
      exact ⟨by first | rfl | (simp [errW_none, errW_some] <;> rfl) | (simp [*, errW_none, errW_some] <;> rfl), b_ HB⟩

/-! ### quorumlaw11_num: function 19 -/
def quorumlaw11_num.f (a0 : Int) : Option (Int) := some a0
set_option maxHeartbeats 8000000 in
set_option maxRecDepth 100000 in
theorem quorumlaw11_num.calls (a0 : Int) (r : Int) (w : World) (h : quorumlaw11_num.f a0 = some r) :
  Calls Try.prog 19 #[.int .i64 a0] w fun e w' => e = .returned (.int .i64 r) ∧ Drawn0 w w' := by
 have H : (some a0) = some r := h
 clear h
 obtain rfl := Option.some.inj H
 go_enter Try.func19, Try.ntmps19
 go_wp2
 go_ret
 exact ⟨by first | rfl | (simp; done) | (simp [*]; done), by repeat (first | exact Drawn0.refl _ | apply Drawn0.step)⟩

/-! ### quorumlaw11_wakes: function 21 -/
def quorumlaw11_wakes.f (k : Nat)  : Option (Bool) := (some (([(⟨(([(⟨(⟨#[97]⟩ : ByteArray), (([(⟨1, (⟨#[118]⟩ : ByteArray), false⟩ : S72)] : List (S72)))⟩ : S99)] : List (S99)))⟩ : S47)] : List (S47)) : List (S47))).bind fun y193 => ((view_Get.f k y193 ([] : List (S36)) ([] : List Int) 0 (⟨#[97]⟩ : ByteArray) 1).bind fun bt196 => ((view_Get.f k y193 (([(⟨0, (⟨#[97]⟩ : ByteArray), (⟨#[]⟩ : ByteArray), true⟩ : S36)] : List (S36))) ([] : List Int) 0 (⟨#[97]⟩ : ByteArray) 1).bind fun bt201 => ((quorumlaw11_num.f bt196.2).bind fun t203 => (if t203 = 0 then (if bt196.1.toList = ([118] : List UInt8) then ((quorumlaw11_num.f bt201.2).bind fun t204 => (some (t204 == 3))) else (some false)) else (some false)))))
theorem quorumlaw11_wakes.mono : ∀ k, LeO (quorumlaw11_wakes.f k ) (quorumlaw11_wakes.f (k + 1) ) := by
 intro  k
 unfold quorumlaw11_wakes.f
 repeat' first
   | (with_reducible exact view_Get.mono _ _ _ _ _ _ _)
   | (with_reducible exact LeO.refl _)
   | (with_reducible exact LeO.none _)
   | (with_reducible refine LeO.ite ?_ ?_)
   | (with_reducible refine LeO.bind ?_ (fun _ => ?_))
   | exact view_Get.mono _ _ _ _ _ _ _
   | exact LeO.none _
   | refine LeO.ite ?_ ?_
   | refine LeO.bind ?_ (fun _ => ?_)
set_option maxHeartbeats 8000000 in
set_option maxRecDepth 100000 in
theorem quorumlaw11_wakes.calls (k : Nat)  (r : Bool) (w : World) (h : quorumlaw11_wakes.f k  = some r) :
  Calls Try.prog 21 #[] w fun e w' => e = .returned (.bool r) ∧ Below w.heap.size w w' := by
 have hu72 := Try.underlying72
 have hu99 := Try.underlying99
 have hu47 := Try.underlying47
 have hu34 := Try.underlying34
 have hu36 := Try.underlying36
 have HB := mk0 (Below.refl w.heap.size w)
 have H : ((some (([(⟨(([(⟨(⟨#[97]⟩ : ByteArray), (([(⟨1, (⟨#[118]⟩ : ByteArray), false⟩ : S72)] : List (S72)))⟩ : S99)] : List (S99)))⟩ : S47)] : List (S47)) : List (S47))).bind fun y193 => ((view_Get.f k y193 ([] : List (S36)) ([] : List Int) 0 (⟨#[97]⟩ : ByteArray) 1).bind fun bt196 => ((view_Get.f k y193 (([(⟨0, (⟨#[97]⟩ : ByteArray), (⟨#[]⟩ : ByteArray), true⟩ : S36)] : List (S36))) ([] : List Int) 0 (⟨#[97]⟩ : ByteArray) 1).bind fun bt201 => ((quorumlaw11_num.f bt196.2).bind fun t203 => (if t203 = 0 then (if bt196.1.toList = ([118] : List UInt8) then ((quorumlaw11_num.f bt201.2).bind fun t204 => (some (t204 == 3))) else (some false)) else (some false)))))) = some r := h
 clear h
 obtain ⟨y187, hy187⟩ : ∃ y_ : List (S72), y_ = (([(⟨1, (⟨#[118]⟩ : ByteArray), false⟩ : S72)] : List (S72))) := ⟨_, rfl⟩
 replace H : ((some (([(⟨(([(⟨(⟨#[97]⟩ : ByteArray), y187⟩ : S99)] : List (S99)))⟩ : S47)] : List (S47)) : List (S47))).bind fun y193 => ((view_Get.f k y193 ([] : List (S36)) ([] : List Int) 0 (⟨#[97]⟩ : ByteArray) 1).bind fun bt196 => ((view_Get.f k y193 (([(⟨0, (⟨#[97]⟩ : ByteArray), (⟨#[]⟩ : ByteArray), true⟩ : S36)] : List (S36))) ([] : List Int) 0 (⟨#[97]⟩ : ByteArray) 1).bind fun bt201 => ((quorumlaw11_num.f bt196.2).bind fun t203 => (if t203 = 0 then (if bt196.1.toList = ([118] : List UInt8) then ((quorumlaw11_num.f bt201.2).bind fun t204 => (some (t204 == 3))) else (some false)) else (some false)))))) = some r := by first | (rw [hy187]; with_reducible exact H) | (have H2_ := (Option.bind_some _ _).symm.trans H; rw [hy187]; with_reducible exact H2_) | (have H2_ := (Option.bind_some _ _).symm.trans H; with_reducible exact H2_) | with_reducible exact H | (rw [hy187]; exact H) | exact H
 have Ny187 := mk0 hy187
 clear hy187
 obtain ⟨y190, hy190⟩ : ∃ y_ : List (S99), y_ = (([(⟨(⟨#[97]⟩ : ByteArray), y187⟩ : S99)] : List (S99))) := ⟨_, rfl⟩
 replace H : ((some (([(⟨y190⟩ : S47)] : List (S47)) : List (S47))).bind fun y193 => ((view_Get.f k y193 ([] : List (S36)) ([] : List Int) 0 (⟨#[97]⟩ : ByteArray) 1).bind fun bt196 => ((view_Get.f k y193 (([(⟨0, (⟨#[97]⟩ : ByteArray), (⟨#[]⟩ : ByteArray), true⟩ : S36)] : List (S36))) ([] : List Int) 0 (⟨#[97]⟩ : ByteArray) 1).bind fun bt201 => ((quorumlaw11_num.f bt196.2).bind fun t203 => (if t203 = 0 then (if bt196.1.toList = ([118] : List UInt8) then ((quorumlaw11_num.f bt201.2).bind fun t204 => (some (t204 == 3))) else (some false)) else (some false)))))) = some r := by first | (rw [hy190]; with_reducible exact H) | (have H2_ := (Option.bind_some _ _).symm.trans H; rw [hy190]; with_reducible exact H2_) | (have H2_ := (Option.bind_some _ _).symm.trans H; with_reducible exact H2_) | with_reducible exact H | (rw [hy190]; exact H) | exact H
 have Ny190 := mk0 hy190
 clear hy190
 obtain ⟨y193, hy193⟩ : ∃ y_ : List (S47), y_ = (([(⟨y190⟩ : S47)] : List (S47))) := ⟨_, rfl⟩
 replace H : ((view_Get.f k y193 ([] : List (S36)) ([] : List Int) 0 (⟨#[97]⟩ : ByteArray) 1).bind fun bt196 => ((view_Get.f k y193 (([(⟨0, (⟨#[97]⟩ : ByteArray), (⟨#[]⟩ : ByteArray), true⟩ : S36)] : List (S36))) ([] : List Int) 0 (⟨#[97]⟩ : ByteArray) 1).bind fun bt201 => ((quorumlaw11_num.f bt196.2).bind fun t203 => (if t203 = 0 then (if bt196.1.toList = ([118] : List UInt8) then ((quorumlaw11_num.f bt201.2).bind fun t204 => (some (t204 == 3))) else (some false)) else (some false))))) = some r := by first | (rw [hy193]; with_reducible exact H) | (have H2_ := (Option.bind_some _ _).symm.trans H; rw [hy193]; with_reducible exact H2_) | (have H2_ := (Option.bind_some _ _).symm.trans H; with_reducible exact H2_) | with_reducible exact H | (rw [hy193]; exact H) | exact H
 have Ny193 := mk0 hy193
 clear hy193
 replace H := Option.bind_eq_some_iff.mp H
 obtain ⟨⟨t196, t197⟩, A10, H⟩ := H
 try dsimp only at H
 have A1 := mk0 A10
 clear A10
 obtain ⟨y198, hy198⟩ : ∃ y_ : List (S36), y_ = (([(⟨0, (⟨#[97]⟩ : ByteArray), (⟨#[]⟩ : ByteArray), true⟩ : S36)] : List (S36))) := ⟨_, rfl⟩
 replace H : ((view_Get.f k y193 y198 ([] : List Int) 0 (⟨#[97]⟩ : ByteArray) 1).bind fun bt201 => ((quorumlaw11_num.f t197).bind fun t203 => (if t203 = 0 then (if t196.toList = ([118] : List UInt8) then ((quorumlaw11_num.f bt201.2).bind fun t204 => (some (t204 == 3))) else (some false)) else (some false)))) = some r := by first | (rw [hy198]; with_reducible exact H) | (have H2_ := (Option.bind_some _ _).symm.trans H; rw [hy198]; with_reducible exact H2_) | (have H2_ := (Option.bind_some _ _).symm.trans H; with_reducible exact H2_) | with_reducible exact H | (rw [hy198]; exact H) | exact H
 have Ny198 := mk0 hy198
 clear hy198
 replace H := Option.bind_eq_some_iff.mp H
 obtain ⟨⟨t201, t202⟩, A20, H⟩ := H
 try dsimp only at H
 have A2 := mk0 A20
 clear A20
 replace H := Option.bind_eq_some_iff.mp H
 obtain ⟨t203, A30, H⟩ := H
 try dsimp only at H
 have A3 := mk0 A30
 clear A30
 by_cases c4 : t203 = 0
 focus
  rw [if_pos c4] at H
  have c4b0 : (t203 == 0) = true := beq_iff_eq.mpr c4
  have c4b1 : (t203 != 0) = false := bne_eq_false_iff_eq.mpr c4
  clear c4
  by_cases c5 : t196.toList = ([118] : List UInt8)
  focus
   rw [if_pos c5] at H
   have c5b0 : (t196.toList == ([118] : List UInt8)) = true := beq_iff_eq.mpr c5
   have c5b1 : (t196.toList != ([118] : List UInt8)) = false := bne_eq_false_iff_eq.mpr c5
   clear c5
   replace H := Option.bind_eq_some_iff.mp H
   obtain ⟨t204, A60, H⟩ := H
   try dsimp only at H
   have A6 := mk0 A60
   clear A60
   obtain rfl := Option.some.inj H
   go_enter Try.func21, Try.ntmps21
  rotate_left 1
  focus
   rw [if_neg c5] at H
   have c5b0 : (t196.toList == ([118] : List UInt8)) = false := beq_eq_false_iff_ne.mpr c5
   have c5b1 : (t196.toList != ([118] : List UInt8)) = true := bne_iff_ne.mpr c5
   obtain rfl := Option.some.inj H
   go_enter Try.func21, Try.ntmps21
  rotate_right 1
 rotate_left 2
 focus
  rw [if_neg c4] at H
  have c4b0 : (t203 == 0) = false := beq_eq_false_iff_ne.mpr c4
  have c4b1 : (t203 != 0) = true := bne_iff_ne.mpr c4
  obtain rfl := Option.some.inj H
  go_enter Try.func21, Try.ntmps21
 rotate_right 2
 all_goals go_wp2_with (first | ((with_reducible refine gate_dst (N := 7) rfl ?_); refine Kd.R_lit k72 _ 72 ?hg (N := 7) ?hd (xs := ([(⟨1, (⟨#[118]⟩ : ByteArray), false⟩ : S72)] : List (S72))) (inner := [.int .i64 1, .string (⟨#[118]⟩ : ByteArray), .bool false]) (ok := fun _ => True) (okp := fun _ => True) ?hr ?hp (fun _ hk => hk) trivial (Below.refl _ _) (Nat.le_refl _) (by simp) ?_; (case hd => rfl); (case hg => rfl); (case hr => first | (go_simp; done) | (go_simp; rfl)); (case hp => exact (Reps.c3 (show Kd.M k72 _ _ _ (⟨1, (⟨#[118]⟩ : ByteArray), false⟩ : S72) [.int .i64 1, .string (⟨#[118]⟩ : ByteArray), .bool false] from (k72_mkM _ _ _ (⟨1, (⟨#[118]⟩ : ByteArray), false⟩ : S72) )) (Reps.none _ _))); intro v188 w7 ho8 hb hg_ hnew_; clear hg_ hnew_; (first | rw [← Ny187.out] at ho8 | (simp only [Int.reduceToNat] at ho8; rw [← Ny187.out] at ho8)); have n0_ := mk0 (Kd.R_lower ho8 (bz_ (b_ HB))); replace HB := mk0 (bt_ (b_ HB) hb); have HO189 := n0_; clear n0_ hb ho8; obtain ⟨Ao9, co9, eo9⟩ := Kd.R_slice HO189.out; subst eo9) | ((with_reducible refine gate_dst (N := 9) rfl ?_); refine Kd.N_lit k99 _ 99 ?hg (N' := 9) ?hd (xs := ([(⟨(⟨#[97]⟩ : ByteArray), y187⟩ : S99)] : List (S99))) (inner := [.string (⟨#[97]⟩ : ByteArray), .slice Ao9 y187.length co9]) (ok := (fun _ => True)) (okp := (fun _ => True)) ?hr ?hp (fun _ hk => hk) ((show ∀ k_, w7.heap.size ≤ k_ → (fun _ => True) k_ from fun k_ hk => trivial) _ (Nat.le_refl _)) (Below.refl _ _) (Nat.le_refl _) (by simp) ?_; (case hd => rfl); (case hg => rfl); (case hr => first | (go_simp; done) | (go_simp; rfl)); (case hp => exact (Reps.c2 (show Kd.FK k99 _ _ (⟨(⟨#[97]⟩ : ByteArray), y187⟩ : S99) [.string (⟨#[97]⟩ : ByteArray), .slice Ao9 y187.length co9] from (k99_mkF _ _ (⟨(⟨#[97]⟩ : ByteArray), y187⟩ : S99) (Kd.R_reads' (Kd.R_mono (ok' := (fun _ => True)) (HO189.out) (fun k_ hk => trivial))).2.1 (Kd.R_F (Kd.R_mono (ok' := (fun _ => True)) (HO189.out) (fun k_ hk => trivial))))) (Reps.none _ _))); intro v191 w10 ho11 hb hg_ hnew_; clear hg_ hnew_; (first | rw [← Ny190.out] at ho11 | (simp only [Int.reduceToNat] at ho11; rw [← Ny190.out] at ho11)); have n0_ := mk0 (Kd.N_lower ho11 (bz_ (b_ HB))); replace HB := mk0 (bt_ (b_ HB) hb); clear HO189; have HO192 := n0_; clear n0_ hb ho11; obtain ⟨Ao12, co12, eo12⟩ := Kd.N_slice HO192.out; subst eo12) | ((with_reducible refine gate_dst (N := 11) rfl ?_); refine Kd.N_lit k47 _ 47 ?hg (N' := 11) ?hd (xs := ([(⟨y190⟩ : S47)] : List (S47))) (inner := [.slice Ao12 y190.length co12]) (ok := (fun _ => True)) (okp := (fun _ => True)) ?hr ?hp (fun _ hk => hk) ((show ∀ k_, w10.heap.size ≤ k_ → (fun _ => True) k_ from fun k_ hk => trivial) _ (Nat.le_refl _)) (Below.refl _ _) (Nat.le_refl _) (by simp) ?_; (case hd => rfl); (case hg => rfl); (case hr => first | (go_simp; done) | (go_simp; rfl)); (case hp => exact (Reps.one (show Kd.FK k47 _ _ (⟨y190⟩ : S47) [.slice Ao12 y190.length co12] from (k47_mkF _ _ (⟨y190⟩ : S47) (Kd.N_reads' (Kd.N_mono (ok' := (fun _ => True)) (HO192.out) (fun k_ hk => trivial))).2.1 (Kd.N_F (Kd.N_mono (ok' := (fun _ => True)) (HO192.out) (fun k_ hk => trivial))))) (Reps.none _ _))); intro v194 w13 ho14 hb hg_ hnew_; clear hg_ hnew_; (first | rw [← Ny193.out] at ho14 | (simp only [Int.reduceToNat] at ho14; rw [← Ny193.out] at ho14)); have n0_ := mk0 (Kd.N_lower ho14 (bz_ (b_ HB))); replace HB := mk0 (bt_ (b_ HB) hb); clear HO192; have HO195 := n0_; clear n0_ hb ho14; obtain ⟨Ao15, co15, eo15⟩ := Kd.N_slice HO195.out; subst eo15) | ((with_reducible refine gate_callee (f := 18) rfl ?_); refine gL_ (some 15) Try.func18 #[.slice Ao15 y193.length co15, .agg #[.slice none 0 0, .slice none 0 0], .int .i64 0, .string (⟨#[97]⟩ : ByteArray), .int .i64 1] (h := ?_); (refine (view_Get.calls k _ _ y193 _ _ ([] : List (S36)) _ _ ([] : List Int) 0 (⟨#[97]⟩ : ByteArray) 1 t196 t197 _ ?side1 ?side2 ?side3 ?side4 ?side5 ?side6 A1.out).mono ?_); (case side1 => repeat (first | exact (Kd.N_reads' HO195.out).2.2 | (with_reducible refine Kd.C_alloc ?_ _) | (with_reducible refine Kd.C_drewN ?_ _) | (with_reducible refine Kd.C_drew ?_))); (case side2 => exact (Kd.N_reads' HO195.out).2.1); (case side3 => exact Kd.C_nil _ _); (case side4 => exact Nat.le_refl _); (case side5 => exact Kd.C_nil _ _); (case side6 => exact Nat.le_refl _); rintro e w16 ⟨rfl, hb⟩; refine ⟨_, rfl, ?_⟩; replace HO195 := mk0 (Kd.N_below (nn_ HO195) hb); replace HB := mk0 (bt_ (b_ HB) hb); (try clear hb)) | ((with_reducible refine gate_dst (N := 21) rfl ?_); refine Kd.R_lit k36 _ 36 ?hg (N := 21) ?hd (xs := ([(⟨0, (⟨#[97]⟩ : ByteArray), (⟨#[]⟩ : ByteArray), true⟩ : S36)] : List (S36))) (inner := [.int .i64 0, .string (⟨#[97]⟩ : ByteArray), .string (⟨#[]⟩ : ByteArray), .bool true]) (ok := fun _ => True) (okp := fun _ => True) ?hr ?hp (fun _ hk => hk) trivial (Below.refl _ _) (Nat.le_refl _) (by simp) ?_; (case hd => rfl); (case hg => rfl); (case hr => first | (go_simp; done) | (go_simp; rfl)); (case hp => exact (Reps.c4 (show Kd.M k36 _ _ _ (⟨0, (⟨#[97]⟩ : ByteArray), (⟨#[]⟩ : ByteArray), true⟩ : S36) [.int .i64 0, .string (⟨#[97]⟩ : ByteArray), .string (⟨#[]⟩ : ByteArray), .bool true] from (k36_mkM _ _ _ (⟨0, (⟨#[97]⟩ : ByteArray), (⟨#[]⟩ : ByteArray), true⟩ : S36) )) (Reps.none _ _))); intro v199 w17 ho18 hb hg_ hnew_; clear hg_ hnew_; (first | rw [← Ny198.out] at ho18 | (simp only [Int.reduceToNat] at ho18; rw [← Ny198.out] at ho18)); have n1_ := mk0 (Kd.R_lower ho18 (bz_ (b_ HB))); replace HO195 := mk0 (Kd.N_elder' (nn_ HO195) (Kd.R_base ho18) hb); replace HB := mk0 (bt_ (b_ HB) hb); have HO200 := n1_; clear n1_ hb ho18; obtain ⟨Ao19, co19, eo19⟩ := Kd.R_slice HO200.out; subst eo19) | ((with_reducible refine gate_callee (f := 18) rfl ?_); refine gL_ (some 23) Try.func18 #[.slice Ao15 y193.length co15, .agg #[.slice Ao19 y198.length co19, .slice none 0 0], .int .i64 0, .string (⟨#[97]⟩ : ByteArray), .int .i64 1] (h := ?_); (refine (view_Get.calls k _ _ y193 _ _ y198 _ _ ([] : List Int) 0 (⟨#[97]⟩ : ByteArray) 1 t201 t202 _ ?side1 ?side2 ?side3 ?side4 ?side5 ?side6 A2.out).mono ?_); (case side1 => repeat (first | exact (Kd.N_reads' HO195.out).2.2 | (with_reducible refine Kd.C_alloc ?_ _) | (with_reducible refine Kd.C_drewN ?_ _) | (with_reducible refine Kd.C_drew ?_))); (case side2 => exact (Kd.N_reads' HO195.out).2.1); (case side3 => exact cr_ HO200); (case side4 => exact (Kd.R_reads' HO200.out).2.1); (case side5 => exact Kd.C_nil _ _); (case side6 => exact Nat.le_refl _); rintro e w20 ⟨rfl, hb⟩; refine ⟨_, rfl, ?_⟩; replace HO195 := mk0 (Kd.N_below (nn_ HO195) hb); replace HO200 := mk0 (Kd.R_below (r_ HO200) hb); replace HB := mk0 (bt_ (b_ HB) hb); (try clear hb)) | ((with_reducible refine gate_callee (f := 19) rfl ?_); refine gL_ (some 27) Try.func19 #[.int .i64 t197] (h := ?_); (with_reducible refine (quorumlaw11_num.calls t197 t203 _ A3.out).mono ?_); rintro e w' ⟨rfl, ⟨nd, rfl⟩⟩; refine ⟨_, rfl, ?_⟩) | (go_at_call 19; (with_reducible refine (quorumlaw11_num.calls t202 t204 _ A6.out).mono ?_); rintro e w' ⟨rfl, ⟨nd, rfl⟩⟩) | ((with_reducible refine gate_callee (f := 19) rfl ?_); refine gL_ (some 27) Try.func19 #[.int .i64 t197] (h := ?_); (with_reducible refine (quorumlaw11_num.calls t197 t203 _ A3.out).mono ?_); rintro e w' ⟨rfl, ⟨nd, rfl⟩⟩; refine ⟨_, rfl, ?_⟩))
 ·go_ret
  exact ⟨by first | rfl | (simp [errW_none, errW_some] <;> rfl) | (simp [*, errW_none, errW_some] <;> rfl), b_ HB⟩
 ·go_ret
  exact ⟨by first | rfl | (simp [errW_none, errW_some] <;> rfl) | (simp [*, errW_none, errW_some] <;> rfl), b_ HB⟩
 ·go_ret
  exact ⟨by first | rfl | (simp [errW_none, errW_some] <;> rfl) | (simp [*, errW_none, errW_some] <;> rfl), b_ HB⟩

/-! ### key_May: function 131 -/
def key_May.j0 : Nat → Bool → ByteArray → ByteArray → Bool → Option (Bool)
 | 0, _, _, _, _ => none
 | k + 1, x12, x206000, x206001, x206002 => if x12 = true then (some false) else (if x206002 = true then (some (x206001.toList == ([] : List UInt8))) else (some (!(Op.bytesLess x206001.toList x206000.toList))))
def key_May.f (k : Nat) (a0_0 : ByteArray) (a0_1 : ByteArray) (a0_2 : Bool) : Option (Bool) := if (a0_0.size : Int) > 13 then (key_May.j0 k true a0_0 a0_1 a0_2) else (key_May.j0 k (decide ((a0_1.size : Int) > 13)) a0_0 a0_1 a0_2)
theorem key_May.mono_l : ∀ k, (∀ y0 y1 y2 y3, LeO (key_May.j0 k y0 y1 y2 y3) (key_May.j0 (k + 1) y0 y1 y2 y3))
 | 0 => fun _ _ _ _ r h => by simp [key_May.j0] at h
 | k + 1 => by
  have ih0 := key_May.mono_l k
  ·intro y0 y1 y2 y3
   unfold key_May.j0
   repeat' first
   | (with_reducible exact ih0 _ _ _ _)
   | (with_reducible exact LeO.refl _)
   | (with_reducible exact LeO.none _)
   | (with_reducible refine LeO.ite ?_ ?_)
   | (with_reducible refine LeO.bind ?_ (fun _ => ?_))
   | exact ih0 _ _ _ _
   | exact LeO.none _
   | refine LeO.ite ?_ ?_
   | refine LeO.bind ?_ (fun _ => ?_)
theorem key_May.mono : ∀ a0 a1 a2 k, LeO (key_May.f k a0 a1 a2) (key_May.f (k + 1) a0 a1 a2) := by
 intro a0 a1 a2 k
 have ih0 := key_May.mono_l k
 unfold key_May.f
 repeat' first
   | (with_reducible exact ih0 _ _ _ _)
   | (with_reducible exact LeO.refl _)
   | (with_reducible exact LeO.none _)
   | (with_reducible refine LeO.ite ?_ ?_)
   | (with_reducible refine LeO.bind ?_ (fun _ => ?_))
   | exact ih0 _ _ _ _
   | exact LeO.none _
   | refine LeO.ite ?_ ?_
   | refine LeO.bind ?_ (fun _ => ?_)
set_option maxHeartbeats 8000000 in
set_option maxRecDepth 100000 in
theorem key_May.calls (k : Nat) (a0_0 : ByteArray) (a0_1 : ByteArray) (a0_2 : Bool) (r : Bool) (w : World) (h : key_May.f k a0_0 a0_1 a0_2 = some r) :
  Calls Try.prog 131 #[.agg #[.string a0_0, .string a0_1, .bool a0_2]] w fun e w' => e = .returned (.bool r) ∧ Below w.heap.size w w' := by
 have hu74 := Try.underlying74
 have HB := mk0 (Below.refl w.heap.size w)
 have H : (if (a0_0.size : Int) > 13 then (key_May.j0 k true a0_0 a0_1 a0_2) else (key_May.j0 k (decide ((a0_1.size : Int) > 13)) a0_0 a0_1 a0_2)) = some r := h
 clear h
 have HC2 := mk0 H
 clear H
 go_enter Try.func131, Try.ntmps131
 go_upto_region 1 with (first | ((with_reducible refine gate_dst (N := 1) rfl ?_); (try (refine gate_guard (by rfl) ?_; dsimp only)); refine bx_ (N := 1) (cs := #[.string a0_0, .string a0_1, .bool a0_2]) (t := 74) (h := ?_); intro gb205 hg w3 hbox hb; have n2_ := mk0 (gz_ HB hg); have n3_ := mk0 (gz_ HB hg); replace HB := mk0 (bt_ (b_ HB) hb); have BK205 := mk0 (hbox); have GW205 := n2_; have GE205 := n3_; clear n2_ n3_; clear hb hbox hg))
 (try simp only [Act.put, List.setIfInBounds_toArray, List.set_cons_zero, List.set_cons_succ])
 go_cut [12] (fun v12 wc => ∃ (kq : Nat) (x12_1 : Bool), v12 = .bool x12_1 ∧ Fc (key_May.j0 kq x12_1 a0_0 a0_1 a0_2 = some r) ∧ Fc (kq ≤ k) ∧ Fc (wc.heap[gb205]? = some (.cells #[.string a0_0, .string a0_1, .bool a0_2] 74 (0, 0))) ∧ Fc (Below w.heap.size w wc))
 case first =>
  have H := HC2.out
  clear HC2
  by_cases c4 : (a0_0.size : Int) > 13
  ·rw [if_pos c4] at H
   have c4b0 : decide (13 < (a0_0.size : Int)) = true := decide_eq_true c4
   have c4b1 : decide (13 < a0_0.size) = true := decide_eq_true (by omega)
   clear c4
   (first | rw [c4b0] | (simp only [i64_w, i32_w]; rw [c4b0]) | skip)
   have H' := mk0 H
   clear H
   obtain ⟨hcz5_0, hcz5_1, hcz5_2, hfz5_0, hfz5_1, hfz5_2⟩ := c3_ BK205
   go_wp2
   go_meet
   case rel => exact ⟨_, (true), (by first | rfl | (simp; done) | (simp [*]; done)), H', ⟨by first | omega | exact Nat.le_refl _⟩, ⟨h_ BK205⟩, ⟨b_ HB⟩⟩
  ·rw [if_neg c4] at H
   have c4b0 : decide (13 < (a0_0.size : Int)) = false := decide_eq_false c4
   have c4b1 : decide (13 < a0_0.size) = false := decide_eq_false (by omega)
   clear c4
   (first | rw [c4b0] | (simp only [i64_w, i32_w]; rw [c4b0]) | skip)
   have H' := mk0 H
   clear H
   obtain ⟨hcz6_0, hcz6_1, hcz6_2, hfz6_0, hfz6_1, hfz6_2⟩ := c3_ BK205
   go_wp2
   go_meet
   case rel => exact ⟨_, (decide ((a0_1.size : Int) > 13)), (by first | rfl | (simp; done) | (simp [*]; done)), H', ⟨by first | omega | exact Nat.le_refl _⟩, ⟨h_ BK205⟩, ⟨b_ HB⟩⟩
 case rest =>
  clear HC2
  try clear c4
  try clear c4b0
  try clear c4b1
  try clear hcz5_0
  try clear hcz5_1
  try clear hcz5_2
  try clear hcz6_0
  try clear hcz6_1
  try clear hcz6_2
  try clear hfz5_0
  try clear hfz5_1
  try clear hfz5_2
  try clear hfz6_0
  try clear hfz6_1
  try clear hfz6_2
  obtain ⟨kq, x12_1, rfl, HA, HJ1, BK205, HB⟩ := hcut
  cases kq with
  | zero => exact absurd HA.out (by simp [key_May.j0])
  | succ kj1 =>
   have H := HA.out
   clear HA
   simp only [key_May.j0] at H
   as_aux_lemma =>
    by_cases c7 : x12_1 = true
    ·subst c7
     rw [if_pos rfl] at H
     obtain rfl := Option.some.inj H
     go_wp2
     go_ret
     exact ⟨by first | rfl | (simp [errW_none, errW_some] <;> rfl) | (simp [*, errW_none, errW_some] <;> rfl), b_ HB⟩
    ·replace c7 := Bool.eq_false_iff.mpr c7
     subst c7
     rw [if_neg (show ¬ (false = true) by decide)] at H
     by_cases c8 : a0_2 = true
     ·subst c8
      rw [if_pos rfl] at H
      obtain rfl := Option.some.inj H
      obtain ⟨hcz9_0, hcz9_1, hcz9_2, hfz9_0, hfz9_1, hfz9_2⟩ := c3_ BK205
      go_wp2
      go_ret
      exact ⟨by first | rfl | (simp [errW_none, errW_some] <;> rfl) | (simp [*, errW_none, errW_some] <;> rfl), b_ HB⟩
     ·replace c8 := Bool.eq_false_iff.mpr c8
      subst c8
      rw [if_neg (show ¬ (false = true) by decide)] at H
      obtain rfl := Option.some.inj H
      obtain ⟨hcz10_0, hcz10_1, hcz10_2, hfz10_0, hfz10_1, hfz10_2⟩ := c3_ BK205
      go_wp2
      go_ret
      exact ⟨by first | rfl | (simp [errW_none, errW_some] <;> rfl) | (simp [*, errW_none, errW_some] <;> rfl), b_ HB⟩

/-! ### table_Asks: function 88 -/
def table_Asks.f (k : Nat) (a0_0 : ByteArray) (a0_1 : ByteArray) (a0_2 : Bool) (a1 : Int) : Option (Bool) := (key_May.f k a0_0 a0_1 a0_2).bind fun t207 => (if t207 = true then (if a1 ≥ 0 then (some (decide (a1 ≤ 1073741824))) else (some false)) else (some false))
theorem table_Asks.mono : ∀ a0 a1 a2 a3 k, LeO (table_Asks.f k a0 a1 a2 a3) (table_Asks.f (k + 1) a0 a1 a2 a3) := by
 intro a0 a1 a2 a3 k
 unfold table_Asks.f
 repeat' first
   | (with_reducible exact key_May.mono _ _ _ _)
   | (with_reducible exact LeO.refl _)
   | (with_reducible exact LeO.none _)
   | (with_reducible refine LeO.ite ?_ ?_)
   | (with_reducible refine LeO.bind ?_ (fun _ => ?_))
   | exact key_May.mono _ _ _ _
   | exact LeO.none _
   | refine LeO.ite ?_ ?_
   | refine LeO.bind ?_ (fun _ => ?_)
set_option maxHeartbeats 8000000 in
set_option maxRecDepth 100000 in
theorem table_Asks.calls (k : Nat) (a0_0 : ByteArray) (a0_1 : ByteArray) (a0_2 : Bool) (a1 : Int) (r : Bool) (w : World) (h : table_Asks.f k a0_0 a0_1 a0_2 a1 = some r) :
  Calls Try.prog 88 #[.agg #[.string a0_0, .string a0_1, .bool a0_2], .int .i64 a1] w fun e w' => e = .returned (.bool r) ∧ Below w.heap.size w w' := by
 have hu74 := Try.underlying74
 have HB := mk0 (Below.refl w.heap.size w)
 have H : ((key_May.f k a0_0 a0_1 a0_2).bind fun t207 => (if t207 = true then (if a1 ≥ 0 then (some (decide (a1 ≤ 1073741824))) else (some false)) else (some false))) = some r := h
 clear h
 replace H := Option.bind_eq_some_iff.mp H
 obtain ⟨t207, A30, H⟩ := H
 try dsimp only at H
 have A3 := mk0 A30
 clear A30
 by_cases c4 : t207 = true
 ·subst c4
  rw [if_pos rfl] at H
  by_cases c5 : a1 ≥ 0
  ·rw [if_pos c5] at H
   have c5b0 : decide (0 ≤ a1) = true := decide_eq_true c5
   clear c5
   obtain rfl := Option.some.inj H
   go_enter Try.func88, Try.ntmps88
   go_wp2_with (first | ((with_reducible refine gate_dst (N := 2) rfl ?_); refine bx_ (N := 2) (cs := #[.string a0_0, .string a0_1, .bool a0_2]) (t := 74) (h := ?_); intro gb206 hg w6 hbox hb; have n2_ := mk0 (gz_ HB hg); have n3_ := mk0 (gz_ HB hg); replace HB := mk0 (bt_ (b_ HB) hb); have BK206 := mk0 (hbox); have GW206 := n2_; have GE206 := n3_; clear n2_ n3_ hb hbox hg; obtain ⟨hcz7_0, hcz7_1, hcz7_2, hfz7_0, hfz7_1, hfz7_2⟩ := c3_ BK206) | ((with_reducible refine gate_callee (f := 131) rfl ?_); refine gL_ (some 6) Try.func131 #[.agg #[.string a0_0, .string a0_1, .bool a0_2]] (h := ?_); (with_reducible refine (key_May.calls k a0_0 a0_1 a0_2 true _ A3.out).mono ?_); rintro e w8 ⟨rfl, hb⟩; refine ⟨_, rfl, ?_⟩; replace BK206 := mk0 (u_ BK206 hb); replace HB := mk0 (bt_ (b_ HB) hb); (try clear hb)))
   go_ret
   exact ⟨by first | rfl | (simp [errW_none, errW_some] <;> rfl) | (simp [*, errW_none, errW_some] <;> rfl), b_ HB⟩
  ·rw [if_neg c5] at H
   have c5b0 : decide (0 ≤ a1) = false := decide_eq_false c5
   clear c5
   obtain rfl := Option.some.inj H
   go_enter Try.func88, Try.ntmps88
   go_wp2_with (first | ((with_reducible refine gate_dst (N := 2) rfl ?_); refine bx_ (N := 2) (cs := #[.string a0_0, .string a0_1, .bool a0_2]) (t := 74) (h := ?_); intro gb206 hg w9 hbox hb; have n2_ := mk0 (gz_ HB hg); have n3_ := mk0 (gz_ HB hg); replace HB := mk0 (bt_ (b_ HB) hb); have BK206 := mk0 (hbox); have GW206 := n2_; have GE206 := n3_; clear n2_ n3_ hb hbox hg; obtain ⟨hcz10_0, hcz10_1, hcz10_2, hfz10_0, hfz10_1, hfz10_2⟩ := c3_ BK206) | ((with_reducible refine gate_callee (f := 131) rfl ?_); refine gL_ (some 6) Try.func131 #[.agg #[.string a0_0, .string a0_1, .bool a0_2]] (h := ?_); (with_reducible refine (key_May.calls k a0_0 a0_1 a0_2 true _ A3.out).mono ?_); rintro e w11 ⟨rfl, hb⟩; refine ⟨_, rfl, ?_⟩; replace BK206 := mk0 (u_ BK206 hb); replace HB := mk0 (bt_ (b_ HB) hb); (try clear hb)))
   go_ret
   exact ⟨by first | rfl | (simp [errW_none, errW_some] <;> rfl) | (simp [*, errW_none, errW_some] <;> rfl), b_ HB⟩
 ·replace c4 := Bool.eq_false_iff.mpr c4
  subst c4
  rw [if_neg (show ¬ (false = true) by decide)] at H
  obtain rfl := Option.some.inj H
  go_enter Try.func88, Try.ntmps88
  go_wp2_with (first | ((with_reducible refine gate_dst (N := 2) rfl ?_); refine bx_ (N := 2) (cs := #[.string a0_0, .string a0_1, .bool a0_2]) (t := 74) (h := ?_); intro gb206 hg w12 hbox hb; have n2_ := mk0 (gz_ HB hg); have n3_ := mk0 (gz_ HB hg); replace HB := mk0 (bt_ (b_ HB) hb); have BK206 := mk0 (hbox); have GW206 := n2_; have GE206 := n3_; clear n2_ n3_ hb hbox hg; obtain ⟨hcz13_0, hcz13_1, hcz13_2, hfz13_0, hfz13_1, hfz13_2⟩ := c3_ BK206) | ((with_reducible refine gate_callee (f := 131) rfl ?_); refine gL_ (some 6) Try.func131 #[.agg #[.string a0_0, .string a0_1, .bool a0_2]] (h := ?_); (with_reducible refine (key_May.calls k a0_0 a0_1 a0_2 false _ A3.out).mono ?_); rintro e w14 ⟨rfl, hb⟩; refine ⟨_, rfl, ?_⟩; replace BK206 := mk0 (u_ BK206 hb); replace HB := mk0 (bt_ (b_ HB) hb); (try clear hb)))
  go_ret
  exact ⟨by first | rfl | (simp [errW_none, errW_some] <;> rfl) | (simp [*, errW_none, errW_some] <;> rfl), b_ HB⟩

/-! ### api_Row_133: function 133 (by hand) -/
def api_Row_133.f (l0 : List (S82)) : Option (List (S82)) := if l0.length < 4398046511104 then some l0 else none
theorem kd_empty_82 (w : World) : k82.R 82 (w.alloc (.cells #[] 82)) w.heap.size (fun _ => True) (.slice (some ⟨w.heap.size, 0, none⟩) 0 0) [] := by
  refine ⟨fun _ _ => trivial, [], ⟨by simp, .inr ⟨w.heap.size, 0, #[], rfl, Nat.le_refl _, heap_alloc_new w _, Nat.le_refl _, by decide, by simp, by simp⟩⟩, ?_⟩
  exact Reps.none _ _
set_option maxHeartbeats 800000 in
set_option maxRecDepth 100000 in
theorem api_Row_133.calls (A0 : Option Addr) (c0 : Nat) (l0 : List (S82)) (r : List (S82)) (w : World) (hr0 : Kd.C k82 w A0 l0.length l0) (hc0 : l0.length ≤ c0) (h : api_Row_133.f l0 = some r) :
    Calls Try.prog 133 #[.slice A0 l0.length c0] w fun e w' => ∃ v0_ : Value, e = .returned (v0_) ∧ Kd.R k82 82 w' w.heap.size (fun _ => True) v0_ r ∧ Below w.heap.size w w' := by
  have HC0 := Aside0.mk hc0
  clear hc0
  unfold api_Row_133.f at h
  split at h
  · obtain rfl := Option.some.inj h
    rename_i hlt
    clear h
    rcases A0 with _ | ad
    · have hl : l0 = [] := by
        rcases Nat.eq_zero_or_pos l0.length with h0 | h0
        · exact List.eq_nil_of_length_eq_zero h0
        · obtain ⟨ad, e, _⟩ := hr0.2.2 h0
          cases e
      subst hl
      have HN := fun w : World => Lib.run_eql_slice_nil (P := Try.prog) w 78 82 none 0 c0 0 0 Try.underlying78
      go_enter Try.func133, Try.ntmps133
      go_wp2
      go_ret
      exact ⟨_, rfl, Kd.R_nil _ _ _ _ _, Below.refl _ _⟩
    · have HN := fun w : World => Lib.run_eql_slice_nil (P := Try.prog) w 78 82 (some ad) l0.length c0 0 0 Try.underlying78
      have HR0 := Aside0.mk hr0
      clear hr0
      have HO := Aside0.mk (kd_empty_82 w)
      go_enter Try.func133, Try.ntmps133
      go_wp2_with (first | ((with_reducible refine gate_builtin (b := .append) (xs := #[.tmp 5, .tmp 6]) rfl ?_); at_builtin; refine Kd.R_append_rows k82 (w0 := w) w.heap.size rfl (.tmp 5) (.tmp 6) 78 82 (.agg #[(.string ⟨#[]⟩), (.string ⟨#[]⟩)]) 32 rfl Try.underlying78 info82 rfl (by decide) (by omega) (.slice (some ⟨w.heap.size, 0, none⟩) 0 0) ([] : List (S82)) l0 _ _ _ (fun _ => True) (fun _ => False) rfl rfl ?aO ?aR (fun _ _ h => h) (fun _ h => h.elim) ?aF ?aB ?aS ?aL ?_; (case aR => exact (Kd.C_below HR0.out (below_alloc (Below.refl _ _) _))); (case aB => exact (below_alloc (Below.refl _ _) _)); (case aF => exact (fun _ _ => trivial)); (case aO => exact HO.out); (case aS => simp); (case aL => simp; omega); intro v1 w1 ho hb hg hat; clear hg hat))
      go_ret
      exact ⟨_, rfl, ho, hb⟩
  · cases h


/-! ### table_Some: function 89 (by hand) -/
def table_Some.f (l0 : List S82) (a1_0 : ByteArray) (a1_1 : ByteArray) (a1_2 : Bool) (a2 : Int) (a3 : Bool) : Option (List S82) := if l0.length < 4398046511104 ∧ 0 ≤ a2 then some (HSome.someOf l0 a1_0 a1_1 a1_2 a2 a3) else none
theorem table_Some.calls (A0 : Option Addr) (c0 : Nat) (l0 : List S82) (a1_0 : ByteArray) (a1_1 : ByteArray) (a1_2 : Bool) (a2 : Int) (a3 : Bool) (r : List S82) (w : World) (hr0 : Kd.C k82 w A0 l0.length l0) (hc0 : l0.length ≤ c0) (h : table_Some.f l0 a1_0 a1_1 a1_2 a2 a3 = some r) :
    Calls Try.prog 89 #[.slice A0 l0.length c0, .agg #[.string a1_0, .string a1_1, .bool a1_2], .int .i64 a2, .bool a3] w fun e w' => ∃ v0_ : Value, e = .returned (v0_) ∧ Kd.R k82 82 w' w.heap.size (fun _ => True) v0_ r ∧ Below w.heap.size w w' :=
  HSome.some_calls A0 c0 l0 a1_0 a1_1 a1_2 a2 a3 r w hr0 hc0 h


/-! ### api_Write_156: function 156 (by hand) -/
def api_Write_156.f (l0 : List (S36)) : Option (List (S36)) := if l0.length < 2932031007402 then some l0 else none
theorem kd_empty_36 (w : World) : k36.R 36 (w.alloc (.cells #[] 36)) w.heap.size (fun _ => True) (.slice (some ⟨w.heap.size, 0, none⟩) 0 0) [] := by
  refine ⟨fun _ _ => trivial, [], ⟨by simp, .inr ⟨w.heap.size, 0, #[], rfl, Nat.le_refl _, heap_alloc_new w _, Nat.le_refl _, by decide, by simp, by simp⟩⟩, ?_⟩
  exact Reps.none _ _
set_option maxHeartbeats 800000 in
set_option maxRecDepth 100000 in
theorem api_Write_156.calls (A0 : Option Addr) (c0 : Nat) (l0 : List (S36)) (r : List (S36)) (w : World) (hr0 : Kd.C k36 w A0 l0.length l0) (hc0 : l0.length ≤ c0) (h : api_Write_156.f l0 = some r) :
    Calls Try.prog 156 #[.slice A0 l0.length c0] w fun e w' => ∃ v0_ : Value, e = .returned (v0_) ∧ Kd.R k36 36 w' w.heap.size (fun _ => True) v0_ r ∧ Below w.heap.size w w' := by
  have HC0 := Aside0.mk hc0
  clear hc0
  unfold api_Write_156.f at h
  split at h
  · obtain rfl := Option.some.inj h
    rename_i hlt
    clear h
    rcases A0 with _ | ad
    · have hl : l0 = [] := by
        rcases Nat.eq_zero_or_pos l0.length with h0 | h0
        · exact List.eq_nil_of_length_eq_zero h0
        · obtain ⟨ad, e, _⟩ := hr0.2.2 h0
          cases e
      subst hl
      have HN := fun w : World => Lib.run_eql_slice_nil (P := Try.prog) w 32 36 none 0 c0 0 0 Try.underlying32
      go_enter Try.func156, Try.ntmps156
      go_wp2
      go_ret
      exact ⟨_, rfl, Kd.R_nil _ _ _ _ _, Below.refl _ _⟩
    · have HN := fun w : World => Lib.run_eql_slice_nil (P := Try.prog) w 32 36 (some ad) l0.length c0 0 0 Try.underlying32
      have HR0 := Aside0.mk hr0
      clear hr0
      have HO := Aside0.mk (kd_empty_36 w)
      go_enter Try.func156, Try.ntmps156
      go_wp2_with (first | ((with_reducible refine gate_builtin (b := .append) (xs := #[.tmp 5, .tmp 6]) rfl ?_); at_builtin; refine Kd.R_append_rows k36 (w0 := w) w.heap.size rfl (.tmp 5) (.tmp 6) 32 36 (.agg #[(.int .i64 0), (.string ⟨#[]⟩), (.string ⟨#[]⟩), (.bool false)]) 48 rfl Try.underlying32 info36 rfl (by decide) (by omega) (.slice (some ⟨w.heap.size, 0, none⟩) 0 0) ([] : List (S36)) l0 _ _ _ (fun _ => True) (fun _ => False) rfl rfl ?aO ?aR (fun _ _ h => h) (fun _ h => h.elim) ?aF ?aB ?aS ?aL ?_; (case aR => exact (Kd.C_below HR0.out (below_alloc (Below.refl _ _) _))); (case aB => exact (below_alloc (Below.refl _ _) _)); (case aF => exact (fun _ _ => trivial)); (case aO => exact HO.out); (case aS => simp); (case aL => simp; omega); intro v1 w1 ho hb hg hat; clear hg hat))
      go_ret
      exact ⟨_, rfl, ho, hb⟩
  · cases h


-- NOT PRINTED: function 201 (api_Write_201)

-- NOT PRINTED: function 208 (api_Write_208)

-- NOT PRINTED: function 206 (api_Write_206)

-- NOT PRINTED: function 202 (api_Write_202)

-- NOT PRINTED: function 191 (api_Write_191)

-- NOT PRINTED: function 159 (api_Write_159)

end Go.Proofs.Ytbaecdcfefmcgaa.PVrs
