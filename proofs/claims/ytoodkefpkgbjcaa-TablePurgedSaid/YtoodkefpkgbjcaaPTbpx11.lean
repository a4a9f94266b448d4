-- PRINTED by print.py (a twelfth state) out of the translation. Not trusted: Lean checks it.
import Derived.Test.YtoodkefpkgbjcaaPTbpx0
import Derived.Test.YtoodkefpkgbjcaaPTbpx2
import Derived.Test.YtoodkefpkgbjcaaPTbpx3
import Derived.Test.YtoodkefpkgbjcaaPTbpx5
import Derived.Test.YtoodkefpkgbjcaaPTbpx7
import Derived.Test.YtoodkefpkgbjcaaPTbpx8
import Derived.Test.YtoodkefpkgbjcaaPTbpx10
namespace Go.Proofs.Ytoodkefpkgbjcaa.PTbp
open Go.RowKit Go.Proofs.YtoodkefpkgbjcaaW.PrintWords Go.Proofs.YtoodkefpkgbjcaaW.PrintLast Go.Proofs.YtoodkefpkgbjcaaW.PrintMore
attribute [local go_sem] max2_int min2_int max_two min_two max_three min_three max_four min_four   -- for this text's walks alone
set_option linter.unusedVariables false
set_option linter.unusedSimpArgs false

/-! ### table_Look: function 138 -/
def table_Look.f (l0_0 : List (S30)) (a1 : ByteArray) (a2 : Int) : Option (ByteArray × Bool) := (table_seek.f l0_0 a1).bind fun bt291 => (if bt291.2 = true then (if 0 ≤ bt291.1 then (if bt291.1 < (l0_0.length : Int) then ((chain_Look.f ((rd_T30 l0_0 bt291.1).f0) ((rd_T30 l0_0 bt291.1).f1) a2).bind fun bt294 => (some (bt294.2.1, bt294.2.2.2))) else (none)) else (none)) else (some ((⟨#[]⟩ : ByteArray), false)))
set_option maxHeartbeats 8000000 in
set_option maxRecDepth 100000 in
theorem table_Look.calls (A0_0 : Option Addr) (c0_0 : Nat) (l0_0 : List (S30)) (a1 : ByteArray) (a2 : Int) (r1 : ByteArray) (r2 : Bool) (w : World) (hr0_0 : Kd.C k30 w A0_0 l0_0.length l0_0) (hc0_0 : l0_0.length ≤ c0_0) (h : table_Look.f l0_0 a1 a2 = some (r1, r2)) :
  Calls Try.prog 138 #[.agg #[.slice A0_0 l0_0.length c0_0], .string a1, .int .i64 a2] w fun e w' => e = .returned (.tuple #[.string r1, .bool r2]) ∧ Below w.heap.size w w' := by
 have hu79 := Try.underlying79
 have hu30 := Try.underlying30
 have hu39 := Try.underlying39
 have HR0_0 := mk0 hr0_0
 have HC0_0 := mk0 hc0_0
 clear hr0_0 hc0_0
 have HB := mk0 (Below.refl w.heap.size w)
 have H : ((table_seek.f l0_0 a1).bind fun bt291 => (if bt291.2 = true then (if 0 ≤ bt291.1 then (if bt291.1 < (l0_0.length : Int) then ((chain_Look.f ((rd_T30 l0_0 bt291.1).f0) ((rd_T30 l0_0 bt291.1).f1) a2).bind fun bt294 => (some (bt294.2.1, bt294.2.2.2))) else (none)) else (none)) else (some ((⟨#[]⟩ : ByteArray), false)))) = some (r1, r2) := h
 clear h
 replace H := Option.bind_eq_some_iff.mp H
 obtain ⟨⟨t291, t292⟩, A40, H⟩ := H
 try dsimp only at H
 have A4 := mk0 A40
 clear A40
 by_cases c5 : t292 = true
 ·subst c5
  rw [if_pos rfl] at H
  by_cases c6 : 0 ≤ t291
  ·rw [if_pos c6] at H
   have c6b0 : decide (0 ≤ t291) = true := decide_eq_true c6
   clear c6
   by_cases c7 : t291 < (l0_0.length : Int)
   ·rw [if_pos c7] at H
    have c7b0 : decide (t291 < (l0_0.length : Int)) = true := decide_eq_true c7
    clear c7
    replace H := Option.bind_eq_some_iff.mp H
    obtain ⟨⟨t294, t295, t296, t297⟩, A80, H⟩ := H
    try dsimp only at H
    have A8 := mk0 A80
    clear A80
    simp only [Option.some.injEq, Prod.mk.injEq] at H
    obtain ⟨rfl, rfl⟩ := H
    go_enter Try.func138, Try.ntmps138
    go_wp2_with (first | ((with_reducible refine gate_dst (N := 3) rfl ?_); refine bx_ (N := 3) (cs := #[.slice A0_0 l0_0.length c0_0]) (t := 79) (h := ?_); intro gb290 hg w9 hbox hb; have n2_ := mk0 (gz_ HB hg); have n3_ := mk0 (gz_ HB hg); replace HB := mk0 (bt_ (b_ HB) hb); have BK290 := mk0 (hbox); have GW290 := n2_; have GE290 := n3_; clear n2_ n3_ hb hbox hg; obtain ⟨hcz10_0, hfz10_0⟩ := c1_ BK290) | ((with_reducible refine gate_callee (f := 136) rfl ?_); refine gL_ (some 14) Try.func136 #[.agg #[.slice A0_0 l0_0.length c0_0], .string a1] (h := ?_); (with_reducible refine (table_seek.calls _ _ l0_0 a1 t291 true _ ?side1 ?side2 A4.out).mono ?_); (case side1 => exact cb_ HR0_0 HB); (case side2 => exact HC0_0.out); rintro e w11 ⟨rfl, hb⟩; refine ⟨_, rfl, ?_⟩; replace BK290 := mk0 (u_ BK290 hb); replace HB := mk0 (bt_ (b_ HB) hb); (try clear hb); obtain ⟨hcz12_0, hfz12_0⟩ := c1_ BK290; have p293 : 0 ≤ (t291 : Int) := of_decide_eq_true (by first | (with_reducible assumption) | assumption); have q293 : t291 < (l0_0.length : Int) := of_decide_eq_true (by first | (with_reducible assumption) | assumption); obtain ⟨ad293, A293_1, c293_1, e293, hx293_0, hx293_1, hl293_1, hi293_1⟩ := at_T30 HR0_0.out t291 p293 q293; cases e293; replace hx293_0 := bc_ HB hx293_0; replace hx293_1 := bc_ HB hx293_1; have HR293_1 := mk0 hi293_1; have HC293_1 := mk0 hl293_1; clear hi293_1 hl293_1; replace p293 := eq_true p293; replace q293 := eq_true q293) | ((with_reducible refine gate_callee (f := 62) rfl ?_); refine gL_ (some 26) Try.func62 #[.agg #[.string ((rd_T30 l0_0 t291).f0), .slice A293_1 ((rd_T30 l0_0 t291).f1).length c293_1], .int .i64 a2] (h := ?_); (with_reducible refine (chain_Look.calls ((rd_T30 l0_0 t291).f0) _ _ ((rd_T30 l0_0 t291).f1) a2 t294 t295 t296 t297 _ ?side1 ?side2 A8.out).mono ?_); (case side1 => exact cb_ HR293_1 HB); (case side2 => exact HC293_1.out); rintro e w13 ⟨rfl, hb⟩; refine ⟨_, rfl, ?_⟩; replace BK290 := mk0 (u_ BK290 hb); replace HB := mk0 (bt_ (b_ HB) hb); (try clear hb)) | ((with_reducible refine gate_dst (N := 10) rfl ?_); refine bx_ (N := 10) (cs := #[.int .i64 0, .string (⟨#[]⟩ : ByteArray), .bool false]) (t := 39) (h := ?_); intro gb298 hg w14 hbox hb; have n3_ := mk0 (gz_ HB hg); have n4_ := mk0 (gz_ HB hg); have n5_ := mk0 (ne1_ BK290 hg); have n6_ := mk0 (ne2_ BK290 hg); replace BK290 := mk0 (u_ BK290 hb); replace HB := mk0 (bt_ (b_ HB) hb); have BK298 := mk0 (hbox); have GW298 := n3_; have GE298 := n4_; have NB290_298 := n5_; have NB298_290 := n6_; clear n3_ n4_ n5_ n6_ hb hbox hg; have hnb15 := NB298_290.out; have hnc15 := NB290_298.out; obtain ⟨hcz16_0, hcz16_1, hcz16_2, hfz16_0, hfz16_1, hfz16_2⟩ := c3_ BK298))
    go_ret2
    exact ⟨by first | rfl | (simp [errW_none, errW_some] <;> rfl) | (simp [*, errW_none, errW_some] <;> rfl), b_ HB⟩
   ·rw [if_neg c7] at H
    exact absurd H (by simp)
  ·rw [if_neg c6] at H
   exact absurd H (by simp)
 ·replace c5 := Bool.eq_false_iff.mpr c5
  subst c5
  rw [if_neg (show ¬ (false = true) by decide)] at H
  simp only [Option.some.injEq, Prod.mk.injEq] at H
  obtain ⟨rfl, rfl⟩ := H
  go_enter Try.func138, Try.ntmps138
  go_wp2_with (first | ((with_reducible refine gate_dst (N := 3) rfl ?_); refine bx_ (N := 3) (cs := #[.slice A0_0 l0_0.length c0_0]) (t := 79) (h := ?_); intro gb290 hg w17 hbox hb; have n2_ := mk0 (gz_ HB hg); have n3_ := mk0 (gz_ HB hg); replace HB := mk0 (bt_ (b_ HB) hb); have BK290 := mk0 (hbox); have GW290 := n2_; have GE290 := n3_; clear n2_ n3_ hb hbox hg; obtain ⟨hcz18_0, hfz18_0⟩ := c1_ BK290) | ((with_reducible refine gate_callee (f := 136) rfl ?_); refine gL_ (some 14) Try.func136 #[.agg #[.slice A0_0 l0_0.length c0_0], .string a1] (h := ?_); (with_reducible refine (table_seek.calls _ _ l0_0 a1 t291 false _ ?side1 ?side2 A4.out).mono ?_); (case side1 => exact cb_ HR0_0 HB); (case side2 => exact HC0_0.out); rintro e w19 ⟨rfl, hb⟩; refine ⟨_, rfl, ?_⟩; replace BK290 := mk0 (u_ BK290 hb); replace HB := mk0 (bt_ (b_ HB) hb); (try clear hb)))
  go_ret2
  exact ⟨by first | rfl | (simp [errW_none, errW_some] <;> rfl) | (simp [*, errW_none, errW_some] <;> rfl), b_ HB⟩

/-! ### table_Get: function 93 -/
def table_Get.j0 : Nat → ByteArray → Int → Bool → List (S30) → Option (ByteArray × Int)
 | 0, _, _, _, _ => none
 | k + 1, x1, x2, x17, x300000 => if x17 = true then (some ((⟨#[]⟩ : ByteArray), 1)) else ((table_Look.f x300000 x1 x2).bind fun bt302 => (if bt302.2 = true then (some (bt302.1, 0)) else (some ((⟨#[]⟩ : ByteArray), 3))))
def table_Get.f (k : Nat) (l0_0 : List (S30)) (a1 : ByteArray) (a2 : Int) : Option (ByteArray × Int) := (table_May.f k l0_0).bind fun t300 => (if t300 = true then ((key_Is.f a1).bind fun t301 => (table_Get.j0 k a1 a2 (!t301) l0_0)) else (table_Get.j0 k a1 a2 true l0_0))
theorem table_Get.mono_l : ∀ k, (∀ y0 y1 y2 y3, LeO (table_Get.j0 k y0 y1 y2 y3) (table_Get.j0 (k + 1) y0 y1 y2 y3))
 | 0 => fun _ _ _ _ r h => by simp [table_Get.j0] at h
 | k + 1 => by
  have ih0 := table_Get.mono_l k
  ·intro y0 y1 y2 y3
   unfold table_Get.j0
   repeat' first
   | (with_reducible exact ih0 _ _ _ _)
   | (with_reducible exact table_May.mono _ _)
   | (with_reducible exact LeO.refl _)
   | (with_reducible exact LeO.none _)
   | (with_reducible refine LeO.ite ?_ ?_)
   | (with_reducible refine LeO.bind ?_ (fun _ => ?_))
   | exact ih0 _ _ _ _
   | exact table_May.mono _ _
   | exact LeO.none _
   | refine LeO.ite ?_ ?_
   | refine LeO.bind ?_ (fun _ => ?_)
theorem table_Get.mono : ∀ a0 a1 a2 k, LeO (table_Get.f k a0 a1 a2) (table_Get.f (k + 1) a0 a1 a2) := by
 intro a0 a1 a2 k
 have ih0 := table_Get.mono_l k
 unfold table_Get.f
 repeat' first
   | (with_reducible exact ih0 _ _ _ _)
   | (with_reducible exact table_May.mono _ _)
   | (with_reducible exact LeO.refl _)
   | (with_reducible exact LeO.none _)
   | (with_reducible refine LeO.ite ?_ ?_)
   | (with_reducible refine LeO.bind ?_ (fun _ => ?_))
   | exact ih0 _ _ _ _
   | exact table_May.mono _ _
   | exact LeO.none _
   | refine LeO.ite ?_ ?_
   | refine LeO.bind ?_ (fun _ => ?_)
set_option maxHeartbeats 8000000 in
set_option maxRecDepth 100000 in
theorem table_Get.calls (k : Nat) (A0_0 : Option Addr) (c0_0 : Nat) (l0_0 : List (S30)) (a1 : ByteArray) (a2 : Int) (r1 : ByteArray) (r2 : Int) (w : World) (hr0_0 : Kd.C k30 w A0_0 l0_0.length l0_0) (hc0_0 : l0_0.length ≤ c0_0) (h : table_Get.f k l0_0 a1 a2 = some (r1, r2)) :
  Calls Try.prog 93 #[.agg #[.slice A0_0 l0_0.length c0_0], .string a1, .int .i64 a2] w fun e w' => e = .returned (.tuple #[.string r1, .int .i64 r2]) ∧ Below w.heap.size w w' := by
 have hu79 := Try.underlying79
 have HR0_0 := mk0 hr0_0
 have HC0_0 := mk0 hc0_0
 clear hr0_0 hc0_0
 have HB := mk0 (Below.refl w.heap.size w)
 have H : ((table_May.f k l0_0).bind fun t300 => (if t300 = true then ((key_Is.f a1).bind fun t301 => (table_Get.j0 k a1 a2 (!t301) l0_0)) else (table_Get.j0 k a1 a2 true l0_0))) = some (r1, r2) := h
 clear h
 have HC4 := mk0 H
 clear H
 go_enter Try.func93, Try.ntmps93
 go_upto_region 1 with (first | ((with_reducible refine gate_dst (N := 3) rfl ?_); refine bx_ (N := 3) (cs := #[.slice A0_0 l0_0.length c0_0]) (t := 79) (h := ?_); intro gb299 hg w5 hbox hb; have n2_ := mk0 (gz_ HB hg); have n3_ := mk0 (gz_ HB hg); replace HB := mk0 (bt_ (b_ HB) hb); have BK299 := mk0 (hbox); have GW299 := n2_; have GE299 := n3_; clear n2_ n3_; clear hb hbox hg))
 (try simp only [Act.put, List.setIfInBounds_toArray, List.set_cons_zero, List.set_cons_succ])
 go_cut [17] (fun v17 wc => ∃ (kq : Nat) (x17_3 : Bool), v17 = .bool x17_3 ∧ Fc (table_Get.j0 kq a1 a2 x17_3 l0_0 = some (r1, r2)) ∧ Fc (kq ≤ k) ∧ Fc (wc.heap[gb299]? = some (.cells #[(.slice A0_0 l0_0.length c0_0)] 79 (0, 0))) ∧ Fc (Below w.heap.size w wc))
 case first =>
  have H := HC4.out
  clear HC4
  replace H := Option.bind_eq_some_iff.mp H
  obtain ⟨t300, A60, H⟩ := H
  try dsimp only at H
  have A6 := mk0 A60
  clear A60
  by_cases c7 : t300 = true
  ·subst c7
   rw [if_pos rfl] at H
   replace H := Option.bind_eq_some_iff.mp H
   obtain ⟨t301, A80, H⟩ := H
   try dsimp only at H
   have A8 := mk0 A80
   clear A80
   have H' := mk0 H
   clear H
   obtain ⟨hcz9_0, hfz9_0⟩ := c1_ BK299
   go_wp2_with (first | ((with_reducible refine gate_callee (f := 89) rfl ?_); refine gL_ (some 11) Try.func89 #[.agg #[.slice A0_0 l0_0.length c0_0]] (h := ?_); (with_reducible refine (table_May.calls k _ _ l0_0 true _ ?side1 ?side2 A6.out).mono ?_); (case side1 => exact cb_ HR0_0 HB); (case side2 => exact HC0_0.out); rintro e w10 ⟨rfl, hb⟩; refine ⟨_, rfl, ?_⟩; replace BK299 := mk0 (u_ BK299 hb); replace HB := mk0 (bt_ (b_ HB) hb); (try clear hb)) | (go_at_call 119; (with_reducible refine (key_Is.calls a1 t301 _ A8.out).mono ?_); rintro e w' ⟨rfl, ⟨nd, rfl⟩⟩))
   go_meet
   case rel => exact ⟨_, (!t301), (by first | rfl | (simp; done) | (simp [*]; done)), H', ⟨by first | omega | exact Nat.le_refl _⟩, ⟨h_ BK299⟩, ⟨b_ HB⟩⟩
  ·replace c7 := Bool.eq_false_iff.mpr c7
   subst c7
   rw [if_neg (show ¬ (false = true) by decide)] at H
   have H' := mk0 H
   clear H
   obtain ⟨hcz11_0, hfz11_0⟩ := c1_ BK299
   go_wp2_with (first | ((with_reducible refine gate_callee (f := 89) rfl ?_); refine gL_ (some 11) Try.func89 #[.agg #[.slice A0_0 l0_0.length c0_0]] (h := ?_); (with_reducible refine (table_May.calls k _ _ l0_0 false _ ?side1 ?side2 A6.out).mono ?_); (case side1 => exact cb_ HR0_0 HB); (case side2 => exact HC0_0.out); rintro e w12 ⟨rfl, hb⟩; refine ⟨_, rfl, ?_⟩; replace BK299 := mk0 (u_ BK299 hb); replace HB := mk0 (bt_ (b_ HB) hb); (try clear hb)))
   go_meet
   case rel => exact ⟨_, (true), (by first | rfl | (simp; done) | (simp [*]; done)), H', ⟨by first | omega | exact Nat.le_refl _⟩, ⟨h_ BK299⟩, ⟨b_ HB⟩⟩
 case rest =>
  clear HC4
  try clear c7
  try clear hcz11_0
  try clear hcz9_0
  try clear hfz11_0
  try clear hfz9_0
  obtain ⟨kq, x17_3, rfl, HA, HJ3, BK299, HB⟩ := hcut
  cases kq with
  | zero => exact absurd HA.out (by simp [table_Get.j0])
  | succ kj3 =>
   have H := HA.out
   clear HA
   simp only [table_Get.j0] at H
   as_aux_lemma =>
    by_cases c13 : x17_3 = true
    ·subst c13
     rw [if_pos rfl] at H
     simp only [Option.some.injEq, Prod.mk.injEq] at H
     obtain ⟨rfl, rfl⟩ := H
     go_wp2
     go_ret2
     exact ⟨by first | rfl | (simp [errW_none, errW_some] <;> rfl) | (simp [*, errW_none, errW_some] <;> rfl), b_ HB⟩
    ·replace c13 := Bool.eq_false_iff.mpr c13
     subst c13
     rw [if_neg (show ¬ (false = true) by decide)] at H
     replace H := Option.bind_eq_some_iff.mp H
     obtain ⟨⟨t302, t303⟩, A140, H⟩ := H
     try dsimp only at H
     have A14 := mk0 A140
     clear A140
     by_cases c15 : t303 = true
     ·subst c15
      rw [if_pos rfl] at H
      simp only [Option.some.injEq, Prod.mk.injEq] at H
      obtain ⟨rfl, rfl⟩ := H
      obtain ⟨hcz16_0, hfz16_0⟩ := c1_ BK299
      go_wp2_with (first | ((with_reducible refine gate_callee (f := 138) rfl ?_); refine gL_ (some 22) Try.func138 #[.agg #[.slice A0_0 l0_0.length c0_0], .string a1, .int .i64 a2] (h := ?_); (with_reducible refine (table_Look.calls _ _ l0_0 a1 a2 t302 true _ ?side1 ?side2 A14.out).mono ?_); (case side1 => exact cb_ HR0_0 HB); (case side2 => exact HC0_0.out); rintro e w17 ⟨rfl, hb⟩; refine ⟨_, rfl, ?_⟩; replace BK299 := mk0 (u_ BK299 hb); replace HB := mk0 (bt_ (b_ HB) hb); (try clear hb)))
      go_ret2
      exact ⟨by first | rfl | (simp [errW_none, errW_some] <;> rfl) | (simp [*, errW_none, errW_some] <;> rfl), b_ HB⟩
     ·replace c15 := Bool.eq_false_iff.mpr c15
      subst c15
      rw [if_neg (show ¬ (false = true) by decide)] at H
      simp only [Option.some.injEq, Prod.mk.injEq] at H
      obtain ⟨rfl, rfl⟩ := H
      obtain ⟨hcz18_0, hfz18_0⟩ := c1_ BK299
      go_wp2_with (first | ((with_reducible refine gate_callee (f := 138) rfl ?_); refine gL_ (some 22) Try.func138 #[.agg #[.slice A0_0 l0_0.length c0_0], .string a1, .int .i64 a2] (h := ?_); (with_reducible refine (table_Look.calls _ _ l0_0 a1 a2 t302 false _ ?side1 ?side2 A14.out).mono ?_); (case side1 => exact cb_ HR0_0 HB); (case side2 => exact HC0_0.out); rintro e w19 ⟨rfl, hb⟩; refine ⟨_, rfl, ?_⟩; replace BK299 := mk0 (u_ BK299 hb); replace HB := mk0 (bt_ (b_ HB) hb); (try clear hb)))
      go_ret2
      exact ⟨by first | rfl | (simp [errW_none, errW_some] <;> rfl) | (simp [*, errW_none, errW_some] <;> rfl), b_ HB⟩

/-! ### quorumlaw9_wakes: function 51 -/
def quorumlaw9_wakes.f (k : Nat)  : Option (Bool) := (table_Put.f k ([] : List (S30)) (⟨#[97]⟩ : ByteArray) 4 (⟨#[118]⟩ : ByteArray) false).bind fun bt304 => ((table_Get.f k bt304.1 (⟨#[97]⟩ : ByteArray) 3).bind fun bt309 => ((table_Get.f k bt304.1 (⟨#[97]⟩ : ByteArray) 4).bind fun bt311 => ((quorumlaw9_num.f bt304.2).bind fun t313 => (if t313 = 0 then ((quorumlaw9_num.f bt309.2).bind fun t314 => (if t314 = 3 then ((quorumlaw9_num.f bt311.2).bind fun t315 => (if t315 = 0 then (some (bt311.1.toList == ([118] : List UInt8))) else (some false))) else (some false))) else (some false)))))
theorem quorumlaw9_wakes.mono : ∀ k, LeO (quorumlaw9_wakes.f k ) (quorumlaw9_wakes.f (k + 1) ) := by
 intro  k
 unfold quorumlaw9_wakes.f
 repeat' first
   | (with_reducible exact table_Get.mono _ _ _ _)
   | (with_reducible exact table_Put.mono _ _ _ _ _ _)
   | (with_reducible exact LeO.refl _)
   | (with_reducible exact LeO.none _)
   | (with_reducible refine LeO.ite ?_ ?_)
   | (with_reducible refine LeO.bind ?_ (fun _ => ?_))
   | exact table_Get.mono _ _ _ _
   | exact table_Put.mono _ _ _ _ _ _
   | exact LeO.none _
   | refine LeO.ite ?_ ?_
   | refine LeO.bind ?_ (fun _ => ?_)
set_option maxHeartbeats 8000000 in
set_option maxRecDepth 100000 in
theorem quorumlaw9_wakes.calls (k : Nat)  (r : Bool) (w : World) (h : quorumlaw9_wakes.f k  = some r) :
  Calls Try.prog 51 #[] w fun e w' => e = .returned (.bool r) ∧ Below w.heap.size w w' := by
 have hu79 := Try.underlying79
 have hu39 := Try.underlying39
 have HB := mk0 (Below.refl w.heap.size w)
 have H : ((table_Put.f k ([] : List (S30)) (⟨#[97]⟩ : ByteArray) 4 (⟨#[118]⟩ : ByteArray) false).bind fun bt304 => ((table_Get.f k bt304.1 (⟨#[97]⟩ : ByteArray) 3).bind fun bt309 => ((table_Get.f k bt304.1 (⟨#[97]⟩ : ByteArray) 4).bind fun bt311 => ((quorumlaw9_num.f bt304.2).bind fun t313 => (if t313 = 0 then ((quorumlaw9_num.f bt309.2).bind fun t314 => (if t314 = 3 then ((quorumlaw9_num.f bt311.2).bind fun t315 => (if t315 = 0 then (some (bt311.1.toList == ([118] : List UInt8))) else (some false))) else (some false))) else (some false)))))) = some r := h
 clear h
 replace H := Option.bind_eq_some_iff.mp H
 obtain ⟨⟨t304, t307⟩, A10, H⟩ := H
 try dsimp only at H
 have A1 := mk0 A10
 clear A10
 replace H := Option.bind_eq_some_iff.mp H
 obtain ⟨⟨t309, t310⟩, A20, H⟩ := H
 try dsimp only at H
 have A2 := mk0 A20
 clear A20
 replace H := Option.bind_eq_some_iff.mp H
 obtain ⟨⟨t311, t312⟩, A30, H⟩ := H
 try dsimp only at H
 have A3 := mk0 A30
 clear A30
 replace H := Option.bind_eq_some_iff.mp H
 obtain ⟨t313, A40, H⟩ := H
 try dsimp only at H
 have A4 := mk0 A40
 clear A40
 by_cases c5 : t313 = 0
 focus
  rw [if_pos c5] at H
  have c5b0 : (t313 == 0) = true := beq_iff_eq.mpr c5
  have c5b1 : (t313 != 0) = false := bne_eq_false_iff_eq.mpr c5
  clear c5
  replace H := Option.bind_eq_some_iff.mp H
  obtain ⟨t314, A60, H⟩ := H
  try dsimp only at H
  have A6 := mk0 A60
  clear A60
  by_cases c7 : t314 = 3
  focus
   rw [if_pos c7] at H
   have c7b0 : (t314 == 3) = true := beq_iff_eq.mpr c7
   have c7b1 : (t314 != 3) = false := bne_eq_false_iff_eq.mpr c7
   clear c7
   replace H := Option.bind_eq_some_iff.mp H
   obtain ⟨t315, A80, H⟩ := H
   try dsimp only at H
   have A8 := mk0 A80
   clear A80
   by_cases c9 : t315 = 0
   focus
    rw [if_pos c9] at H
    have c9b0 : (t315 == 0) = true := beq_iff_eq.mpr c9
    have c9b1 : (t315 != 0) = false := bne_eq_false_iff_eq.mpr c9
    clear c9
    obtain rfl := Option.some.inj H
    go_enter Try.func51, Try.ntmps51
   rotate_left 1
   focus
    rw [if_neg c9] at H
    have c9b0 : (t315 == 0) = false := beq_eq_false_iff_ne.mpr c9
    have c9b1 : (t315 != 0) = true := bne_iff_ne.mpr c9
    obtain rfl := Option.some.inj H
    go_enter Try.func51, Try.ntmps51
   rotate_right 1
  rotate_left 2
  focus
   rw [if_neg c7] at H
   have c7b0 : (t314 == 3) = false := beq_eq_false_iff_ne.mpr c7
   have c7b1 : (t314 != 3) = true := bne_iff_ne.mpr c7
   obtain rfl := Option.some.inj H
   go_enter Try.func51, Try.ntmps51
  rotate_right 2
 rotate_left 3
 focus
  rw [if_neg c5] at H
  have c5b0 : (t313 == 0) = false := beq_eq_false_iff_ne.mpr c5
  have c5b1 : (t313 != 0) = true := bne_iff_ne.mpr c5
  obtain rfl := Option.some.inj H
  go_enter Try.func51, Try.ntmps51
 rotate_right 3
 all_goals go_wp2_with (first | ((with_reducible refine gate_callee (f := 92) rfl ?_); refine gL_ (some 10) Try.func92 #[.agg #[.slice none 0 0], .string (⟨#[97]⟩ : ByteArray), .agg #[.int .i64 4, .string (⟨#[118]⟩ : ByteArray), .bool false]] (h := ?_); (refine (table_Put.calls k _ _ ([] : List (S30)) (⟨#[97]⟩ : ByteArray) 4 (⟨#[118]⟩ : ByteArray) false t304 t307 _ ?side1 ?side2 A1.out).mono ?_); (case side1 => exact Kd.C_nil _ _); (case side2 => exact Nat.le_refl _); rintro e w10 ⟨v305, rfl, ho0, hb⟩; refine ⟨_, rfl, ?_⟩; have n0_ := mk0 (Kd.N_mono (ok' := fun k_ => True) ho0 (fun k_ hk_ => trivial)); replace HB := mk0 (bt_ (b_ HB) hb); have HO306 := n0_; clear n0_; (try clear hb); (try clear ho0)) | ((with_reducible refine gate_dst (N := 1) rfl ?_); refine bx_ (N := 1) (cs := #[.slice none 0 0]) (t := 79) (h := ?_); intro gb308 hg w11 hbox hb; have n3_ := mk0 (gz_ HB hg); have n4_ := mk0 (gz_ HB hg); replace HO306 := mk0 (Kd.N_below (Kd.N_elderB (nn_ HO306) gb308 (Nat.le_of_eq hg.symm)) hb); replace HB := mk0 (bt_ (b_ HB) hb); have BK308 := mk0 (hbox); have GW308 := n3_; have GE308 := n4_; clear n3_ n4_ hb hbox hg; obtain ⟨Ao12, co12, eo12⟩ := Kd.N_slice HO306.out; subst eo12; obtain ⟨hcz13_0, hfz13_0⟩ := c1_ BK308) | ((with_reducible refine gate_callee (f := 93) rfl ?_); refine gL_ (some 15) Try.func93 #[.agg #[.slice Ao12 t304.length co12], .string (⟨#[97]⟩ : ByteArray), .int .i64 3] (h := ?_); (with_reducible refine (table_Get.calls k _ _ t304 (⟨#[97]⟩ : ByteArray) 3 t309 t310 _ ?side1 ?side2 A2.out).mono ?_); (case side1 => refine (Kd.N_reads' (e := 30) (base := w.heap.size) (ok := fun k_ => (True ∧ k_ ≠ gb308)) (n := t304.length) (c := co12) ?_).2.2; exact (n2_ (Kd.N_mono (Kd.N_far (p := ⟨gb308, 0, none⟩) (Kd.N_mono HO306.out (fun k_ hk => (⟨hk, hk.2⟩ : _ ∧ k_ ≠ gb308))) (fun _ hk => hk.2) (.slice Ao12 t304.length co12)) (fun _ h_ => h_.1)))); (case side2 => exact (Kd.N_reads' HO306.out).2.1); rintro e w14 ⟨rfl, hb⟩; refine ⟨_, rfl, ?_⟩; replace HO306 := mk0 (Kd.N_below (n2_ (Kd.N_mono (Kd.N_far (p := ⟨gb308, 0, none⟩) (Kd.N_mono HO306.out (fun k_ hk => (⟨hk, hk.2⟩ : _ ∧ k_ ≠ gb308))) (fun _ hk => hk.2) (.slice Ao12 t304.length co12)) (fun _ h_ => h_.1))) hb); replace BK308 := mk0 (blk_below (g := gb308) (o := .cells #[.slice Ao12 t304.length co12] 79 (0, 0)) (pu_ (cs := #[.slice none 0 0]) (h_ BK308)) hb); replace HB := mk0 (bt_ (b_ HB) hb); (try clear hb); obtain ⟨hcz15_0, hfz15_0⟩ := c1_ BK308) | ((with_reducible refine gate_callee (f := 93) rfl ?_); refine gL_ (some 20) Try.func93 #[.agg #[.slice Ao12 t304.length co12], .string (⟨#[97]⟩ : ByteArray), .int .i64 4] (h := ?_); (with_reducible refine (table_Get.calls k _ _ t304 (⟨#[97]⟩ : ByteArray) 4 t311 t312 _ ?side1 ?side2 A3.out).mono ?_); (case side1 => repeat (first | exact (Kd.N_reads' HO306.out).2.2 | (with_reducible refine Kd.C_alloc ?_ _) | (with_reducible refine Kd.C_drewN ?_ _) | (with_reducible refine Kd.C_drew ?_))); (case side2 => exact (Kd.N_reads' HO306.out).2.1); rintro e w16 ⟨rfl, hb⟩; refine ⟨_, rfl, ?_⟩; replace HO306 := mk0 (Kd.N_below (nn_ HO306) hb); replace BK308 := mk0 (u_ BK308 hb); replace HB := mk0 (bt_ (b_ HB) hb); (try clear hb)) | ((with_reducible refine gate_callee (f := 48) rfl ?_); refine gL_ (some 24) Try.func48 #[.int .i64 t307] (h := ?_); (with_reducible refine (quorumlaw9_num.calls t307 t313 _ A4.out).mono ?_); rintro e w' ⟨rfl, ⟨nd, rfl⟩⟩; refine ⟨_, rfl, ?_⟩) | (go_at_call 48; (with_reducible refine (quorumlaw9_num.calls t310 t314 _ A6.out).mono ?_); rintro e w' ⟨rfl, ⟨nd, rfl⟩⟩) | (go_at_call 48; (with_reducible refine (quorumlaw9_num.calls t312 t315 _ A8.out).mono ?_); rintro e w' ⟨rfl, ⟨nd, rfl⟩⟩) | ((with_reducible refine gate_callee (f := 48) rfl ?_); refine gL_ (some 24) Try.func48 #[.int .i64 t307] (h := ?_); (with_reducible refine (quorumlaw9_num.calls t307 t313 _ A4.out).mono ?_); rintro e w' ⟨rfl, ⟨nd, rfl⟩⟩; refine ⟨_, rfl, ?_⟩) | (go_at_call 48; (with_reducible refine (quorumlaw9_num.calls t310 t314 _ A6.out).mono ?_); rintro e w' ⟨rfl, ⟨nd, rfl⟩⟩) | ((with_reducible refine gate_callee (f := 48) rfl ?_); refine gL_ (some 24) Try.func48 #[.int .i64 t307] (h := ?_); (with_reducible refine (quorumlaw9_num.calls t307 t313 _ A4.out).mono ?_); rintro e w' ⟨rfl, ⟨nd, rfl⟩⟩; refine ⟨_, rfl, ?_⟩))
 ·go_ret
  exact ⟨by first | rfl | (simp [errW_none, errW_some] <;> rfl) | (simp [*, errW_none, errW_some] <;> rfl), b_ HB⟩
 ·go_ret
  exact ⟨by first | rfl | (simp [errW_none, errW_some] <;> rfl) | (simp [*, errW_none, errW_some] <;> rfl), b_ HB⟩
 ·go_ret
  exact ⟨by first | rfl | (simp [errW_none, errW_some] <;> rfl) | (simp [*, errW_none, errW_some] <;> rfl), b_ HB⟩
 ·go_ret
  exact ⟨by first | rfl | (simp [errW_none, errW_some] <;> rfl) | (simp [*, errW_none, errW_some] <;> rfl), b_ HB⟩

/-! ### quorumlaw9_TablePurged: function 9 -/
mutual
def quorumlaw9_TablePurged.j0 : Nat → Bool → List (S30) → List (S141) → Option (Bool)
 | 0, _, _, _ => none
 | k + 1, x18, x317000, x317001 => if x18 = true then (some true) else (quorumlaw9_TablePurged.l0 k 0 x317000 x317001)
def quorumlaw9_TablePurged.l0 : Nat → Int → List (S30) → List (S141) → Option (Bool)
 | 0, _, _, _ => none
 | k + 1, x3, x317000, x317001 => if x3 < 12 then ((table_Purge.f k x317000 x3).bind fun bt321 => ((quorumlaw9_num.f bt321.2).bind fun t326 => (if t326 = 0 then ((quorumref8_Table.f k bt321.1).bind fun t327 => (quorumlaw9_TablePurged.j2 k x3 (!t327) x317000 x317001 bt321.1)) else (quorumlaw9_TablePurged.j2 k x3 true x317000 x317001 bt321.1)))) else ((quorumlaw8_Heavy.f k ([] : List (S30)) ([] : List (S39)) ([] : List Int) ([] : List ByteArray)).bind fun t319 => (if t319 = true then (some false) else ((quorumlaw9_wakes.f k).bind fun t320 => (some t320))))
def quorumlaw9_TablePurged.j2 : Nat → Int → Bool → List (S30) → List (S141) → List (S30) → Option (Bool)
 | 0, _, _, _, _, _ => none
 | k + 1, x3, x37, x317000, x317001, x326000 => if x37 = true then (some false) else (quorumlaw9_TablePurged.l1 k x3 x3 x317000 x317001 x326000)
def quorumlaw9_TablePurged.l1 : Nat → Int → Int → List (S30) → List (S141) → List (S30) → Option (Bool)
 | 0, _, _, _, _, _ => none
 | k + 1, x3, x6, x317000, x317001, x326000 => if x6 < 14 then ((table_Map.f k x317000 x6).bind fun bt328 => ((table_Map.f k x326000 x6).bind fun bt332 => ((quorumlaw9_num.f bt328.2).bind fun t336 => (if t336 = 0 then ((quorumlaw9_num.f bt332.2).bind fun t337 => (if t337 = 0 then ((quorumref0_EqRows.f k bt328.1 bt332.1).bind fun t338 => (if t338 = true then (quorumlaw9_TablePurged.l1 k x3 (wrap64 (x6 + 1)) x317000 x317001 x326000) else (some false))) else (some false))) else (some false))))) else (quorumlaw9_TablePurged.l0 k (wrap64 (x3 + 1)) x317000 x317001)
end
def quorumlaw9_TablePurged.f (k : Nat) (l0_0 : List (S30)) (l0_1 : List (S141)) : Option (Bool) := (quorumlaw9_Heavy.f k l0_0 l0_1).bind fun t317 => (if t317 = true then (quorumlaw9_TablePurged.j0 k true l0_0 l0_1) else ((quorumref8_Table.f k l0_0).bind fun t318 => (quorumlaw9_TablePurged.j0 k (!t318) l0_0 l0_1)))
theorem quorumlaw9_TablePurged.mono_l : ∀ k, (∀ y0 y1 y2, LeO (quorumlaw9_TablePurged.j0 k y0 y1 y2) (quorumlaw9_TablePurged.j0 (k + 1) y0 y1 y2)) ∧ (∀ y0 y1 y2, LeO (quorumlaw9_TablePurged.l0 k y0 y1 y2) (quorumlaw9_TablePurged.l0 (k + 1) y0 y1 y2)) ∧ (∀ y0 y1 y2 y3 y4, LeO (quorumlaw9_TablePurged.j2 k y0 y1 y2 y3 y4) (quorumlaw9_TablePurged.j2 (k + 1) y0 y1 y2 y3 y4)) ∧ (∀ y0 y1 y2 y3 y4, LeO (quorumlaw9_TablePurged.l1 k y0 y1 y2 y3 y4) (quorumlaw9_TablePurged.l1 (k + 1) y0 y1 y2 y3 y4))
 | 0 => ⟨fun _ _ _ r h => by simp [quorumlaw9_TablePurged.j0] at h, fun _ _ _ r h => by simp [quorumlaw9_TablePurged.l0] at h, fun _ _ _ _ _ r h => by simp [quorumlaw9_TablePurged.j2] at h, fun _ _ _ _ _ r h => by simp [quorumlaw9_TablePurged.l1] at h⟩
 | k + 1 => by
  obtain ⟨ih0, ih1, ih2, ih3⟩ := quorumlaw9_TablePurged.mono_l k
  refine ⟨?_, ?_, ?_, ?_⟩
  ·intro y0 y1 y2
   unfold quorumlaw9_TablePurged.j0
   repeat' first
   | (with_reducible exact ih0 _ _ _)
   | (with_reducible exact ih1 _ _ _)
   | (with_reducible exact ih2 _ _ _ _ _)
   | (with_reducible exact ih3 _ _ _ _ _)
   | (with_reducible exact quorumlaw8_Heavy.mono _ _ _ _ _)
   | (with_reducible exact quorumlaw9_Heavy.mono _ _ _)
   | (with_reducible exact quorumlaw9_wakes.mono _)
   | (with_reducible exact quorumref0_EqRows.mono _ _ _)
   | (with_reducible exact quorumref8_Table.mono _ _)
   | (with_reducible exact table_Map.mono _ _ _)
   | (with_reducible exact table_Purge.mono _ _ _)
   | (with_reducible exact LeO.refl _)
   | (with_reducible exact LeO.none _)
   | (with_reducible refine LeO.ite ?_ ?_)
   | (with_reducible refine LeO.bind ?_ (fun _ => ?_))
   | exact ih0 _ _ _
   | exact ih1 _ _ _
   | exact ih2 _ _ _ _ _
   | exact ih3 _ _ _ _ _
   | exact quorumlaw8_Heavy.mono _ _ _ _ _
   | exact quorumlaw9_Heavy.mono _ _ _
   | exact quorumlaw9_wakes.mono _
   | exact quorumref0_EqRows.mono _ _ _
   | exact quorumref8_Table.mono _ _
   | exact table_Map.mono _ _ _
   | exact table_Purge.mono _ _ _
   | exact LeO.none _
   | refine LeO.ite ?_ ?_
   | refine LeO.bind ?_ (fun _ => ?_)
  ·intro y0 y1 y2
   unfold quorumlaw9_TablePurged.l0
   repeat' first
   | (with_reducible exact ih0 _ _ _)
   | (with_reducible exact ih1 _ _ _)
   | (with_reducible exact ih2 _ _ _ _ _)
   | (with_reducible exact ih3 _ _ _ _ _)
   | (with_reducible exact quorumlaw8_Heavy.mono _ _ _ _ _)
   | (with_reducible exact quorumlaw9_Heavy.mono _ _ _)
   | (with_reducible exact quorumlaw9_wakes.mono _)
   | (with_reducible exact quorumref0_EqRows.mono _ _ _)
   | (with_reducible exact quorumref8_Table.mono _ _)
   | (with_reducible exact table_Map.mono _ _ _)
   | (with_reducible exact table_Purge.mono _ _ _)
   | (with_reducible exact LeO.refl _)
   | (with_reducible exact LeO.none _)
   | (with_reducible refine LeO.ite ?_ ?_)
   | (with_reducible refine LeO.bind ?_ (fun _ => ?_))
   | exact ih0 _ _ _
   | exact ih1 _ _ _
   | exact ih2 _ _ _ _ _
   | exact ih3 _ _ _ _ _
   | exact quorumlaw8_Heavy.mono _ _ _ _ _
   | exact quorumlaw9_Heavy.mono _ _ _
   | exact quorumlaw9_wakes.mono _
   | exact quorumref0_EqRows.mono _ _ _
   | exact quorumref8_Table.mono _ _
   | exact table_Map.mono _ _ _
   | exact table_Purge.mono _ _ _
   | exact LeO.none _
   | refine LeO.ite ?_ ?_
   | refine LeO.bind ?_ (fun _ => ?_)
  ·intro y0 y1 y2 y3 y4
   unfold quorumlaw9_TablePurged.j2
   repeat' first
   | (with_reducible exact ih0 _ _ _)
   | (with_reducible exact ih1 _ _ _)
   | (with_reducible exact ih2 _ _ _ _ _)
   | (with_reducible exact ih3 _ _ _ _ _)
   | (with_reducible exact quorumlaw8_Heavy.mono _ _ _ _ _)
   | (with_reducible exact quorumlaw9_Heavy.mono _ _ _)
   | (with_reducible exact quorumlaw9_wakes.mono _)
   | (with_reducible exact quorumref0_EqRows.mono _ _ _)
   | (with_reducible exact quorumref8_Table.mono _ _)
   | (with_reducible exact table_Map.mono _ _ _)
   | (with_reducible exact table_Purge.mono _ _ _)
   | (with_reducible exact LeO.refl _)
   | (with_reducible exact LeO.none _)
   | (with_reducible refine LeO.ite ?_ ?_)
   | (with_reducible refine LeO.bind ?_ (fun _ => ?_))
   | exact ih0 _ _ _
   | exact ih1 _ _ _
   | exact ih2 _ _ _ _ _
   | exact ih3 _ _ _ _ _
   | exact quorumlaw8_Heavy.mono _ _ _ _ _
   | exact quorumlaw9_Heavy.mono _ _ _
   | exact quorumlaw9_wakes.mono _
   | exact quorumref0_EqRows.mono _ _ _
   | exact quorumref8_Table.mono _ _
   | exact table_Map.mono _ _ _
   | exact table_Purge.mono _ _ _
   | exact LeO.none _
   | refine LeO.ite ?_ ?_
   | refine LeO.bind ?_ (fun _ => ?_)
  ·intro y0 y1 y2 y3 y4
   unfold quorumlaw9_TablePurged.l1
   repeat' first
   | (with_reducible exact ih0 _ _ _)
   | (with_reducible exact ih1 _ _ _)
   | (with_reducible exact ih2 _ _ _ _ _)
   | (with_reducible exact ih3 _ _ _ _ _)
   | (with_reducible exact quorumlaw8_Heavy.mono _ _ _ _ _)
   | (with_reducible exact quorumlaw9_Heavy.mono _ _ _)
   | (with_reducible exact quorumlaw9_wakes.mono _)
   | (with_reducible exact quorumref0_EqRows.mono _ _ _)
   | (with_reducible exact quorumref8_Table.mono _ _)
   | (with_reducible exact table_Map.mono _ _ _)
   | (with_reducible exact table_Purge.mono _ _ _)
   | (with_reducible exact LeO.refl _)
   | (with_reducible exact LeO.none _)
   | (with_reducible refine LeO.ite ?_ ?_)
   | (with_reducible refine LeO.bind ?_ (fun _ => ?_))
   | exact ih0 _ _ _
   | exact ih1 _ _ _
   | exact ih2 _ _ _ _ _
   | exact ih3 _ _ _ _ _
   | exact quorumlaw8_Heavy.mono _ _ _ _ _
   | exact quorumlaw9_Heavy.mono _ _ _
   | exact quorumlaw9_wakes.mono _
   | exact quorumref0_EqRows.mono _ _ _
   | exact quorumref8_Table.mono _ _
   | exact table_Map.mono _ _ _
   | exact table_Purge.mono _ _ _
   | exact LeO.none _
   | refine LeO.ite ?_ ?_
   | refine LeO.bind ?_ (fun _ => ?_)
theorem quorumlaw9_TablePurged.mono : ∀ a0 a1 k, LeO (quorumlaw9_TablePurged.f k a0 a1) (quorumlaw9_TablePurged.f (k + 1) a0 a1) := by
 intro a0 a1 k
 obtain ⟨ih0, ih1, ih2, ih3⟩ := quorumlaw9_TablePurged.mono_l k
 unfold quorumlaw9_TablePurged.f
 repeat' first
   | (with_reducible exact ih0 _ _ _)
   | (with_reducible exact ih1 _ _ _)
   | (with_reducible exact ih2 _ _ _ _ _)
   | (with_reducible exact ih3 _ _ _ _ _)
   | (with_reducible exact quorumlaw8_Heavy.mono _ _ _ _ _)
   | (with_reducible exact quorumlaw9_Heavy.mono _ _ _)
   | (with_reducible exact quorumlaw9_wakes.mono _)
   | (with_reducible exact quorumref0_EqRows.mono _ _ _)
   | (with_reducible exact quorumref8_Table.mono _ _)
   | (with_reducible exact table_Map.mono _ _ _)
   | (with_reducible exact table_Purge.mono _ _ _)
   | (with_reducible exact LeO.refl _)
   | (with_reducible exact LeO.none _)
   | (with_reducible refine LeO.ite ?_ ?_)
   | (with_reducible refine LeO.bind ?_ (fun _ => ?_))
   | exact ih0 _ _ _
   | exact ih1 _ _ _
   | exact ih2 _ _ _ _ _
   | exact ih3 _ _ _ _ _
   | exact quorumlaw8_Heavy.mono _ _ _ _ _
   | exact quorumlaw9_Heavy.mono _ _ _
   | exact quorumlaw9_wakes.mono _
   | exact quorumref0_EqRows.mono _ _ _
   | exact quorumref8_Table.mono _ _
   | exact table_Map.mono _ _ _
   | exact table_Purge.mono _ _ _
   | exact LeO.none _
   | refine LeO.ite ?_ ?_
   | refine LeO.bind ?_ (fun _ => ?_)
set_option maxHeartbeats 8000000 in
set_option maxRecDepth 100000 in
theorem quorumlaw9_TablePurged.calls (k : Nat) (A0_0 : Option Addr) (c0_0 : Nat) (l0_0 : List (S30)) (A0_1 : Option Addr) (c0_1 : Nat) (l0_1 : List (S141)) (r : Bool) (w : World) (hr0_0 : Kd.C k30 w A0_0 l0_0.length l0_0) (hc0_0 : l0_0.length ≤ c0_0) (hr0_1 : Kd.C k141 w A0_1 l0_1.length l0_1) (hc0_1 : l0_1.length ≤ c0_1) (h : quorumlaw9_TablePurged.f k l0_0 l0_1 = some r) :
  Calls Try.prog 9 #[.agg #[.slice A0_0 l0_0.length c0_0, .slice A0_1 l0_1.length c0_1]] w fun e w' => e = .returned (.bool r) ∧ Below w.heap.size w w' := by
 have hu82 := Try.underlying82
 have hu79 := Try.underlying79
 have hu27 := Try.underlying27
 have HR0_0 := mk0 hr0_0
 have HC0_0 := mk0 hc0_0
 clear hr0_0 hc0_0
 have HR0_1 := mk0 hr0_1
 have HC0_1 := mk0 hc0_1
 clear hr0_1 hc0_1
 have HB := mk0 (Below.refl w.heap.size w)
 have H : ((quorumlaw9_Heavy.f k l0_0 l0_1).bind fun t317 => (if t317 = true then (quorumlaw9_TablePurged.j0 k true l0_0 l0_1) else ((quorumref8_Table.f k l0_0).bind fun t318 => (quorumlaw9_TablePurged.j0 k (!t318) l0_0 l0_1)))) = some r := h
 clear h
 have HC2 := mk0 H
 clear H
 go_enter Try.func9, Try.ntmps9
 go_upto_region 1 with (first | ((with_reducible refine gate_dst (N := 1) rfl ?_); refine bx_ (N := 1) (cs := #[.slice A0_0 l0_0.length c0_0, .slice A0_1 l0_1.length c0_1]) (t := 82) (h := ?_); intro gb316 hg w3 hbox hb; have n2_ := mk0 (gz_ HB hg); have n3_ := mk0 (gz_ HB hg); replace HB := mk0 (bt_ (b_ HB) hb); have BK316 := mk0 (hbox); have GW316 := n2_; have GE316 := n3_; clear n2_ n3_; clear hb hbox hg))
 (try simp only [Act.put, List.setIfInBounds_toArray, List.set_cons_zero, List.set_cons_succ])
 go_cut [18] (fun v18 wc => ∃ (kq : Nat) (x18_1 : Bool), v18 = .bool x18_1 ∧ Fc (quorumlaw9_TablePurged.j0 kq x18_1 l0_0 l0_1 = some r) ∧ Fc (kq ≤ k) ∧ Fc (wc.heap[gb316]? = some (.cells #[(.slice A0_0 l0_0.length c0_0), (.slice A0_1 l0_1.length c0_1)] 82 (0, 0))) ∧ Fc (Below w.heap.size w wc))
 case first =>
  have H := HC2.out
  clear HC2
  replace H := Option.bind_eq_some_iff.mp H
  obtain ⟨t317, A40, H⟩ := H
  try dsimp only at H
  have A4 := mk0 A40
  clear A40
  by_cases c5 : t317 = true
  ·subst c5
   rw [if_pos rfl] at H
   have H' := mk0 H
   clear H
   obtain ⟨hcz6_0, hcz6_1, hfz6_0, hfz6_1⟩ := c2_ BK316
   go_wp2_with (first | ((with_reducible refine gate_callee (f := 45) rfl ?_); refine gL_ (some 12) Try.func45 #[.agg #[.slice A0_0 l0_0.length c0_0, .slice A0_1 l0_1.length c0_1]] (h := ?_); (with_reducible refine (quorumlaw9_Heavy.calls k _ _ l0_0 _ _ l0_1 true _ ?side1 ?side2 ?side3 ?side4 A4.out).mono ?_); (case side1 => exact cb_ HR0_0 HB); (case side2 => exact HC0_0.out); (case side3 => exact cb_ HR0_1 HB); (case side4 => exact HC0_1.out); rintro e w7 ⟨rfl, hb⟩; refine ⟨_, rfl, ?_⟩; replace BK316 := mk0 (u_ BK316 hb); replace HB := mk0 (bt_ (b_ HB) hb); (try clear hb)))
   go_meet
   case rel => exact ⟨_, (true), (by first | rfl | (simp; done) | (simp [*]; done)), H', ⟨by first | omega | exact Nat.le_refl _⟩, ⟨h_ BK316⟩, ⟨b_ HB⟩⟩
  ·replace c5 := Bool.eq_false_iff.mpr c5
   subst c5
   rw [if_neg (show ¬ (false = true) by decide)] at H
   replace H := Option.bind_eq_some_iff.mp H
   obtain ⟨t318, A80, H⟩ := H
   try dsimp only at H
   have A8 := mk0 A80
   clear A80
   have H' := mk0 H
   clear H
   obtain ⟨hcz9_0, hcz9_1, hfz9_0, hfz9_1⟩ := c2_ BK316
   go_wp2_with (first | ((with_reducible refine gate_callee (f := 45) rfl ?_); refine gL_ (some 12) Try.func45 #[.agg #[.slice A0_0 l0_0.length c0_0, .slice A0_1 l0_1.length c0_1]] (h := ?_); (with_reducible refine (quorumlaw9_Heavy.calls k _ _ l0_0 _ _ l0_1 false _ ?side1 ?side2 ?side3 ?side4 A4.out).mono ?_); (case side1 => exact cb_ HR0_0 HB); (case side2 => exact HC0_0.out); (case side3 => exact cb_ HR0_1 HB); (case side4 => exact HC0_1.out); rintro e w10 ⟨rfl, hb⟩; refine ⟨_, rfl, ?_⟩; replace BK316 := mk0 (u_ BK316 hb); replace HB := mk0 (bt_ (b_ HB) hb); (try clear hb); obtain ⟨hcz11_0, hcz11_1, hfz11_0, hfz11_1⟩ := c2_ BK316) | (go_at_call 46; (with_reducible refine (quorumref8_Table.calls k _ _ l0_0 t318 _ ?side1 ?side2 A8.out).mono ?_); (case side1 => exact cb_ HR0_0 HB); (case side2 => exact HC0_0.out); rintro e w12 ⟨rfl, hb⟩; replace BK316 := mk0 (u_ BK316 hb); replace HB := mk0 (bt_ (b_ HB) hb); (try clear hb)))
   go_meet
   case rel => exact ⟨_, (!t318), (by first | rfl | (simp; done) | (simp [*]; done)), H', ⟨by first | omega | exact Nat.le_refl _⟩, ⟨h_ BK316⟩, ⟨b_ HB⟩⟩
 case rest =>
  clear HC2
  try clear c5
  try clear hcz11_0
  try clear hcz11_1
  try clear hcz6_0
  try clear hcz6_1
  try clear hcz9_0
  try clear hcz9_1
  try clear hfz11_0
  try clear hfz11_1
  try clear hfz6_0
  try clear hfz6_1
  try clear hfz9_0
  try clear hfz9_1
  obtain ⟨kq, x18_1, rfl, HA, HJ1, BK316, HB⟩ := hcut
  cases kq with
  | zero => exact absurd HA.out (by simp [quorumlaw9_TablePurged.j0])
  | succ kj1 =>
   have H := HA.out
   clear HA
   simp only [quorumlaw9_TablePurged.j0] at H
   as_aux_lemma =>
    by_cases c13 : x18_1 = true
    ·subst c13
     rw [if_pos rfl] at H
     obtain rfl := Option.some.inj H
     go_wp2
     go_ret
     exact ⟨by first | rfl | (simp [errW_none, errW_some] <;> rfl) | (simp [*, errW_none, errW_some] <;> rfl), b_ HB⟩
    ·replace c13 := Bool.eq_false_iff.mpr c13
     subst c13
     rw [if_neg (show ¬ (false = true) by decide)] at H
     have H' := mk0 H
     clear H
     go_wp2
     go_loopg [3] kj1 (fun kq v3 w' => ∃ (x3_2 : Int), v3 = .int .i64 x3_2 ∧ Fc (quorumlaw9_TablePurged.l0 kq x3_2 l0_0 l0_1 = some r) ∧ Fc (kq ≤ kj1) ∧ Fc (w'.heap[gb316]? = some (.cells #[(.slice A0_0 l0_0.length c0_0), (.slice A0_1 l0_1.length c0_1)] 82 (0, 0))) ∧ Fc (Below w.heap.size w w'))
     case atStart => exact ⟨(0), (by first | rfl | (simp; done) | (simp [*]; done)), H', ⟨Nat.le_refl _⟩, ⟨h_ BK316⟩, ⟨b_ HB⟩⟩
     case round =>
      clear H'
      try clear c5
      try clear c13
      try clear hcz11_0
      try clear hcz11_1
      try clear hcz6_0
      try clear hcz6_1
      try clear hcz9_0
      try clear hcz9_1
      try clear hfz11_0
      try clear hfz11_1
      try clear hfz6_0
      try clear hfz6_1
      try clear hfz9_0
      try clear hfz9_1
      obtain ⟨x3_2, rfl, HA, HK2, BK316, HB⟩ := hrel
      cases gk with
      | zero => exact absurd HA.out (by simp [quorumlaw9_TablePurged.l0])
      | succ k2 =>
       have H := HA.out
       clear HA
       simp only [quorumlaw9_TablePurged.l0] at H
       as_aux_lemma =>
        by_cases c14 : x3_2 < 12
        ·rw [if_pos c14] at H
         have c14b0 : decide (x3_2 < 12) = true := decide_eq_true c14
         clear c14
         replace H := Option.bind_eq_some_iff.mp H
         obtain ⟨⟨t321, t324⟩, A150, H⟩ := H
         try dsimp only at H
         have A15 := mk0 A150
         clear A150
         have HC16 := mk0 H
         clear H
         obtain ⟨hcz17_0, hcz17_1, hfz17_0, hfz17_1⟩ := c2_ BK316
         go_upto_region 7 with (first | ((with_reducible refine gate_callee (f := 47) rfl ?_); refine gL_ (some 27) Try.func47 #[.agg #[.slice A0_0 l0_0.length c0_0], .int .i64 x3_2] (h := ?_); (with_reducible refine (table_Purge.calls k2 _ _ l0_0 x3_2 t321 t324 _ ?side1 ?side2 A15.out).mono ?_); (case side1 => exact cb_ HR0_0 HB); (case side2 => exact HC0_0.out); rintro e w18 ⟨v322, rfl, ho0, hb⟩; refine ⟨_, rfl, ?_⟩; have n0_ := mk0 (Kd.S_lower ho0 (bz_ (b_ HB))); replace BK316 := mk0 (u_ BK316 hb); replace HB := mk0 (bt_ (b_ HB) hb); have HO323 := n0_; clear n0_; (try clear hb); (try clear ho0)) | ((with_reducible refine gate_dst (N := 4) rfl ?_); refine bx_ (N := 4) (cs := #[.slice none 0 0]) (t := 79) (h := ?_); intro gb325 hg w19 hbox hb; have n4_ := mk0 (gz_ HB hg); have n5_ := mk0 (gz_ HB hg); have n6_ := mk0 (ne1_ BK316 hg); have n7_ := mk0 (ne2_ BK316 hg); replace HO323 := mk0 (Kd.S_below (s_ HO323) hb); replace BK316 := mk0 (u_ BK316 hb); replace HB := mk0 (bt_ (b_ HB) hb); have BK325 := mk0 (hbox); have GW325 := n4_; have GE325 := n5_; have NB316_325 := n6_; have NB325_316 := n7_; clear n4_ n5_ n6_ n7_ hb hbox hg; obtain ⟨Ao20, co20, eo20⟩ := Kd.S_slice HO323.out; subst eo20; have hnb21 := NB325_316.out; have hnc21 := NB316_325.out; obtain ⟨hcz22_0, hfz22_0⟩ := c1_ BK325))
         (try simp only [Act.put, List.setIfInBounds_toArray, List.set_cons_zero, List.set_cons_succ])
         go_cut [37] (fun v37 wc => ∃ (kq : Nat) (x37_15 : Bool), v37 = .bool x37_15 ∧ Fc (quorumlaw9_TablePurged.j2 kq x3_2 x37_15 l0_0 l0_1 t321 = some r) ∧ Fc (kq ≤ k2) ∧ Fc (Kd.S k30 30 wc w.heap.size (fun _ => True) (.slice Ao20 t321.length co20) t321) ∧ Fc (wc.heap[gb316]? = some (.cells #[(.slice A0_0 l0_0.length c0_0), (.slice A0_1 l0_1.length c0_1)] 82 (0, 0))) ∧ Fc (wc.heap[gb325]? = some (.cells #[(.slice Ao20 t321.length co20)] 79 (0, 0))) ∧ Fc (Below w.heap.size w wc))
         case first =>
          have H := HC16.out
          clear HC16
          replace H := Option.bind_eq_some_iff.mp H
          obtain ⟨t326, A230, H⟩ := H
          try dsimp only at H
          have A23 := mk0 A230
          clear A230
          by_cases c24 : t326 = 0
          ·rw [if_pos c24] at H
           have c24b0 : (t326 == 0) = true := beq_iff_eq.mpr c24
           have c24b1 : (t326 != 0) = false := bne_eq_false_iff_eq.mpr c24
           clear c24
           (first | rw [c24b0] | (simp only [i64_w, i32_w]; rw [c24b0]) | skip)
           replace H := Option.bind_eq_some_iff.mp H
           obtain ⟨t327, A250, H⟩ := H
           try dsimp only at H
           have A25 := mk0 A250
           clear A250
           have H' := mk0 H
           clear H
           go_wp2_with (first | ((with_reducible refine gate_callee (f := 48) rfl ?_); refine gL_ (some 31) Try.func48 #[.int .i64 t324] (h := ?_); (with_reducible refine (quorumlaw9_num.calls t324 t326 _ A23.out).mono ?_); rintro e w' ⟨rfl, ⟨nd, rfl⟩⟩; refine ⟨_, rfl, ?_⟩; have hnb26 := NB325_316.out; have hnc26 := NB316_325.out; obtain ⟨hcz27_0, hfz27_0⟩ := c1_ BK325) | (go_at_call 46; (with_reducible refine (quorumref8_Table.calls k2 _ _ t321 t327 _ ?side1 ?side2 A25.out).mono ?_); (case side1 => refine (Kd.S_reads' (e := 30) (base := w.heap.size) (ok := fun k_ => True) (n := t321.length) (c := co20) ?_).2.2; exact (s2_ (Kd.S_mono (Kd.S_far (p := ⟨gb325, 0, none⟩) (Kd.S_types HO323.out BK325.out (by decide)) (fun _ hk => hk.2) (.slice Ao20 t321.length co20)) (fun _ h_ => h_.1)))); (case side2 => exact (Kd.S_reads' HO323.out).2.1); rintro e w28 ⟨rfl, hb⟩; have n0_ := mk0 (Kd.S_below (s2_ (Kd.S_mono (Kd.S_far (p := ⟨gb325, 0, none⟩) (Kd.S_types HO323.out BK325.out (by decide)) (fun _ hk => hk.2) (.slice Ao20 t321.length co20)) (fun _ h_ => h_.1))) hb); replace BK316 := mk0 (blk_below (g := gb316) (o := .cells #[.slice A0_0 l0_0.length c0_0, .slice A0_1 l0_1.length c0_1] 82 (0, 0)) (fa_ (h_ BK316) NB316_325.out) hb); replace BK325 := mk0 (blk_below (g := gb325) (o := .cells #[.slice Ao20 t321.length co20] 79 (0, 0)) (pu_ (cs := #[.slice none 0 0]) (h_ BK325)) hb); replace HB := mk0 (bt_ (b_ HB) hb); clear HO323; have HO323 := n0_; clear n0_; (try clear hb)))
           go_meet
           case rel => exact ⟨_, (!t327), (by first | rfl | (simp; done) | (simp [*]; done)), H', ⟨by have := HJ1.out; have := HK2.out; first | omega | exact Nat.le_refl _⟩, ⟨by (with_reducible repeat (first | apply Kd.S_alloc | apply Kd.S_drewN | apply Kd.S_drew)); exact HO323.out⟩, ⟨h_ BK316⟩, ⟨h_ BK325⟩, ⟨b_ HB⟩⟩
          ·rw [if_neg c24] at H
           have c24b0 : (t326 == 0) = false := beq_eq_false_iff_ne.mpr c24
           have c24b1 : (t326 != 0) = true := bne_iff_ne.mpr c24
           (first | rw [c24b0] | (simp only [i64_w, i32_w]; rw [c24b0]) | skip)
           have H' := mk0 H
           clear H
           go_wp2_with (first | ((with_reducible refine gate_callee (f := 48) rfl ?_); refine gL_ (some 31) Try.func48 #[.int .i64 t324] (h := ?_); (with_reducible refine (quorumlaw9_num.calls t324 t326 _ A23.out).mono ?_); rintro e w' ⟨rfl, ⟨nd, rfl⟩⟩; refine ⟨_, rfl, ?_⟩))
           go_meet
           case rel => exact ⟨_, (true), (by first | rfl | (simp; done) | (simp [*]; done)), H', ⟨by have := HJ1.out; have := HK2.out; first | omega | exact Nat.le_refl _⟩, ⟨by (with_reducible repeat (first | apply Kd.S_alloc | apply Kd.S_drewN | apply Kd.S_drew)); exact Kd.S_mono (Kd.S_far (p := ⟨gb325, 0, none⟩) (Kd.S_types HO323.out BK325.out (by decide)) (fun _ hk => hk.2) (.slice Ao20 t321.length co20)) (fun _ hk => trivial)⟩, ⟨(fa_ (h_ BK316) NB316_325.out)⟩, ⟨(pu_ (cs := #[.slice none 0 0]) (h_ BK325))⟩, ⟨b_ HB⟩⟩
         case rest =>
          clear HC16
          try clear c5
          try clear c13
          try clear c14
          try clear c14b0
          try clear c24
          try clear c24b0
          try clear c24b1
          try clear hcz11_0
          try clear hcz11_1
          try clear hcz17_0
          try clear hcz17_1
          try clear hcz22_0
          try clear hcz27_0
          try clear hcz6_0
          try clear hcz6_1
          try clear hcz9_0
          try clear hcz9_1
          try clear hfz11_0
          try clear hfz11_1
          try clear hfz17_0
          try clear hfz17_1
          try clear hfz22_0
          try clear hfz27_0
          try clear hfz6_0
          try clear hfz6_1
          try clear hfz9_0
          try clear hfz9_1
          obtain ⟨kq, x37_15, rfl, HA, HJ15, HO_326000, BK316, BK325, HB⟩ := hcut
          cases kq with
          | zero => exact absurd HA.out (by simp [quorumlaw9_TablePurged.j2])
          | succ kj15 =>
           have H := HA.out
           clear HA
           simp only [quorumlaw9_TablePurged.j2] at H
           as_aux_lemma =>
            by_cases c29 : x37_15 = true
            ·subst c29
             rw [if_pos rfl] at H
             obtain rfl := Option.some.inj H
             go_wp2
             go_ret
             exact ⟨by first | rfl | (simp [errW_none, errW_some] <;> rfl) | (simp [*, errW_none, errW_some] <;> rfl), b_ HB⟩
            ·replace c29 := Bool.eq_false_iff.mpr c29
             subst c29
             rw [if_neg (show ¬ (false = true) by decide)] at H
             have H' := mk0 H
             clear H
             go_wp2
             go_loopg [6] kj15 (fun kq v6 w' => ∃ (x6_4 : Int), v6 = .int .i64 x6_4 ∧ Fc (quorumlaw9_TablePurged.l1 kq x3_2 x6_4 l0_0 l0_1 t321 = some r) ∧ Fc (kq ≤ kj15) ∧ Fc (Kd.S k30 30 w' w.heap.size (fun _ => True) (.slice Ao20 t321.length co20) t321) ∧ Fc (w'.heap[gb316]? = some (.cells #[(.slice A0_0 l0_0.length c0_0), (.slice A0_1 l0_1.length c0_1)] 82 (0, 0))) ∧ Fc (w'.heap[gb325]? = some (.cells #[(.slice Ao20 t321.length co20)] 79 (0, 0))) ∧ Fc (Below w.heap.size w w'))
             case atStart => exact ⟨(x3_2), (by first | rfl | (simp; done) | (simp [*]; done)), H', ⟨Nat.le_refl _⟩, ⟨by (with_reducible repeat (first | apply Kd.S_alloc | apply Kd.S_drewN | apply Kd.S_drew)); exact HO_326000.out⟩, ⟨h_ BK316⟩, ⟨h_ BK325⟩, ⟨b_ HB⟩⟩
             case round =>
              clear H'
              try clear c5
              try clear c13
              try clear c14
              try clear c14b0
              try clear c24
              try clear c24b0
              try clear c24b1
              try clear c29
              try clear hcz11_0
              try clear hcz11_1
              try clear hcz17_0
              try clear hcz17_1
              try clear hcz22_0
              try clear hcz27_0
              try clear hcz6_0
              try clear hcz6_1
              try clear hcz9_0
              try clear hcz9_1
              try clear hfz11_0
              try clear hfz11_1
              try clear hfz17_0
              try clear hfz17_1
              try clear hfz22_0
              try clear hfz27_0
              try clear hfz6_0
              try clear hfz6_1
              try clear hfz9_0
              try clear hfz9_1
              obtain ⟨x6_4, rfl, HA, HK4, HO_326000, BK316, BK325, HB⟩ := hrel
              cases gk with
              | zero => exact absurd HA.out (by simp [quorumlaw9_TablePurged.l1])
              | succ k4 =>
               have H := HA.out
               clear HA
               simp only [quorumlaw9_TablePurged.l1] at H
               as_aux_lemma =>
                by_cases c30 : x6_4 < 14
                focus
                 rw [if_pos c30] at H
                 have c30b0 : decide (x6_4 < 14) = true := decide_eq_true c30
                 clear c30
                 replace H := Option.bind_eq_some_iff.mp H
                 obtain ⟨⟨t328, t331⟩, A310, H⟩ := H
                 try dsimp only at H
                 have A31 := mk0 A310
                 clear A310
                 replace H := Option.bind_eq_some_iff.mp H
                 obtain ⟨⟨t332, t335⟩, A320, H⟩ := H
                 try dsimp only at H
                 have A32 := mk0 A320
                 clear A320
                 replace H := Option.bind_eq_some_iff.mp H
                 obtain ⟨t336, A330, H⟩ := H
                 try dsimp only at H
                 have A33 := mk0 A330
                 clear A330
                 by_cases c34 : t336 = 0
                 focus
                  rw [if_pos c34] at H
                  have c34b0 : (t336 == 0) = true := beq_iff_eq.mpr c34
                  have c34b1 : (t336 != 0) = false := bne_eq_false_iff_eq.mpr c34
                  clear c34
                  replace H := Option.bind_eq_some_iff.mp H
                  obtain ⟨t337, A350, H⟩ := H
                  try dsimp only at H
                  have A35 := mk0 A350
                  clear A350
                  by_cases c36 : t337 = 0
                  focus
                   rw [if_pos c36] at H
                   have c36b0 : (t337 == 0) = true := beq_iff_eq.mpr c36
                   have c36b1 : (t337 != 0) = false := bne_eq_false_iff_eq.mpr c36
                   clear c36
                   replace H := Option.bind_eq_some_iff.mp H
                   obtain ⟨t338, A370, H⟩ := H
                   try dsimp only at H
                   have A37 := mk0 A370
                   clear A370
                   by_cases c38 : t338 = true
                   ·subst c38
                    rw [if_pos rfl] at H
                    have H' := mk0 H
                    clear H
                    have hnb39 := NB316_325.out
                    have hnc39 := NB325_316.out
                    obtain ⟨hcz40_0, hcz40_1, hfz40_0, hfz40_1⟩ := c2_ BK316
                    go_wp2_with (first | ((with_reducible refine gate_callee (f := 49) rfl ?_); refine gL_ (some 47) Try.func49 #[.agg #[.slice A0_0 l0_0.length c0_0], .int .i64 x6_4] (h := ?_); (with_reducible refine (table_Map.calls k4 _ _ l0_0 x6_4 t328 t331 _ ?side1 ?side2 A31.out).mono ?_); (case side1 => exact cb_ HR0_0 HB); (case side2 => exact HC0_0.out); rintro e w41 ⟨v329, rfl, ho0, hb⟩; refine ⟨_, rfl, ?_⟩; have n1_ := mk0 (Kd.R_lower ho0 (bz_ (b_ HB))); replace HO_326000 := mk0 (Kd.S_below (s_ HO_326000) hb); replace BK316 := mk0 (u_ BK316 hb); replace BK325 := mk0 (u_ BK325 hb); replace HB := mk0 (bt_ (b_ HB) hb); have HO330 := n1_; clear n1_; (try clear hb); (try clear ho0); obtain ⟨hcz42_0, hfz42_0⟩ := c1_ BK325) | ((with_reducible refine gate_callee (f := 49) rfl ?_); refine gL_ (some 53) Try.func49 #[.agg #[.slice Ao20 t321.length co20], .int .i64 x6_4] (h := ?_); (with_reducible refine (table_Map.calls k4 _ _ t321 x6_4 t332 t335 _ ?side1 ?side2 A32.out).mono ?_); (case side1 => repeat (first | exact (Kd.S_reads' HO_326000.out).2.2 | (with_reducible refine Kd.C_alloc ?_ _) | (with_reducible refine Kd.C_drewN ?_ _) | (with_reducible refine Kd.C_drew ?_))); (case side2 => exact (Kd.S_reads' HO_326000.out).2.1); rintro e w43 ⟨v333, rfl, ho0, hb⟩; refine ⟨_, rfl, ?_⟩; have n2_ := mk0 (Kd.R_lower (Kd.R_new' ho0 (Kd.R_lt (r_ HO330))) (bz_ (b_ HB))); replace HO_326000 := mk0 (Kd.S_below (s_ HO_326000) hb); replace HO330 := mk0 (Kd.R_elder' (r_ HO330) (Kd.R_base ho0) hb); replace BK316 := mk0 (u_ BK316 hb); replace BK325 := mk0 (u_ BK325 hb); replace HB := mk0 (bt_ (b_ HB) hb); have HO334 := n2_; clear n2_; (try clear hb); (try clear ho0)) | ((with_reducible refine gate_callee (f := 48) rfl ?_); refine gL_ (some 57) Try.func48 #[.int .i64 t331] (h := ?_); (with_reducible refine (quorumlaw9_num.calls t331 t336 _ A33.out).mono ?_); rintro e w' ⟨rfl, ⟨nd, rfl⟩⟩; refine ⟨_, rfl, ?_⟩) | (go_at_call 48; (with_reducible refine (quorumlaw9_num.calls t335 t337 _ A35.out).mono ?_); rintro e w' ⟨rfl, ⟨nd, rfl⟩⟩; obtain ⟨Ao44, co44, eo44⟩ := Kd.R_slice HO330.out; subst eo44; obtain ⟨Ao45, co45, eo45⟩ := Kd.R_slice HO334.out; subst eo45) | (go_at_call 50; (with_reducible refine (quorumref0_EqRows.calls k4 _ _ t328 _ _ t332 true _ ?side1 ?side2 ?side3 ?side4 A37.out).mono ?_); (case side1 => exact cr_ HO330); (case side2 => exact (Kd.R_reads' HO330.out).2.1); (case side3 => exact cr_ HO334); (case side4 => exact (Kd.R_reads' HO334.out).2.1); rintro e w' ⟨rfl, ⟨nd, rfl⟩⟩))
                    go_roundg k4
                    case measure => have := HJ1.out; have := HK2.out; have := HJ15.out; have := HK4.out; omega
                    case rel => exact ⟨(wrap64 (x6_4 + 1)), (by first | rfl | (simp; done) | (simp [*]; done)), H', ⟨by have := HJ1.out; have := HK2.out; have := HJ15.out; have := HK4.out; omega⟩, ⟨by (with_reducible repeat (first | apply Kd.S_alloc | apply Kd.S_drewN | apply Kd.S_drew)); exact HO_326000.out⟩, ⟨h_ BK316⟩, ⟨h_ BK325⟩, ⟨b_ HB⟩⟩
                   focus
                    replace c38 := Bool.eq_false_iff.mpr c38
                    subst c38
                    rw [if_neg (show ¬ (false = true) by decide)] at H
                    obtain rfl := Option.some.inj H
                    have hnb46 := NB316_325.out
                    have hnc46 := NB325_316.out
                    obtain ⟨hcz47_0, hcz47_1, hfz47_0, hfz47_1⟩ := c2_ BK316
                  rotate_left 1
                  focus
                   rw [if_neg c36] at H
                   have c36b0 : (t337 == 0) = false := beq_eq_false_iff_ne.mpr c36
                   have c36b1 : (t337 != 0) = true := bne_iff_ne.mpr c36
                   obtain rfl := Option.some.inj H
                   have hnb53 := NB316_325.out
                   have hnc53 := NB325_316.out
                   obtain ⟨hcz54_0, hcz54_1, hfz54_0, hfz54_1⟩ := c2_ BK316
                  rotate_right 1
                 rotate_left 2
                 focus
                  rw [if_neg c34] at H
                  have c34b0 : (t336 == 0) = false := beq_eq_false_iff_ne.mpr c34
                  have c34b1 : (t336 != 0) = true := bne_iff_ne.mpr c34
                  obtain rfl := Option.some.inj H
                  have hnb58 := NB316_325.out
                  have hnc58 := NB325_316.out
                  obtain ⟨hcz59_0, hcz59_1, hfz59_0, hfz59_1⟩ := c2_ BK316
                 rotate_right 2
                rotate_left 3
                ·rw [if_neg c30] at H
                 have c30b0 : decide (x6_4 < 14) = false := decide_eq_false c30
                 clear c30
                 have H' := mk0 H
                 clear H
                 go_wp2
                 go_roundg k4
                 case measure => have := HJ1.out; have := HK2.out; have := HJ15.out; have := HK4.out; omega
                 case rel => exact ⟨(wrap64 (x3_2 + 1)), (by first | rfl | (simp; done) | (simp [*]; done)), H', ⟨by have := HJ1.out; have := HK2.out; have := HJ15.out; have := HK4.out; omega⟩, ⟨h_ BK316⟩, ⟨b_ HB⟩⟩
                all_goals go_wp2_with (first | ((with_reducible refine gate_callee (f := 49) rfl ?_); refine gL_ (some 47) Try.func49 #[.agg #[.slice A0_0 l0_0.length c0_0], .int .i64 x6_4] (h := ?_); (with_reducible refine (table_Map.calls k4 _ _ l0_0 x6_4 t328 t331 _ ?side1 ?side2 A31.out).mono ?_); (case side1 => exact cb_ HR0_0 HB); (case side2 => exact HC0_0.out); rintro e w48 ⟨v329, rfl, ho0, hb⟩; refine ⟨_, rfl, ?_⟩; have n1_ := mk0 (Kd.R_lower ho0 (bz_ (b_ HB))); replace HO_326000 := mk0 (Kd.S_below (s_ HO_326000) hb); replace BK316 := mk0 (u_ BK316 hb); replace BK325 := mk0 (u_ BK325 hb); replace HB := mk0 (bt_ (b_ HB) hb); have HO330 := n1_; clear n1_; (try clear hb); (try clear ho0); obtain ⟨hcz49_0, hfz49_0⟩ := c1_ BK325) | ((with_reducible refine gate_callee (f := 49) rfl ?_); refine gL_ (some 53) Try.func49 #[.agg #[.slice Ao20 t321.length co20], .int .i64 x6_4] (h := ?_); (with_reducible refine (table_Map.calls k4 _ _ t321 x6_4 t332 t335 _ ?side1 ?side2 A32.out).mono ?_); (case side1 => repeat (first | exact (Kd.S_reads' HO_326000.out).2.2 | (with_reducible refine Kd.C_alloc ?_ _) | (with_reducible refine Kd.C_drewN ?_ _) | (with_reducible refine Kd.C_drew ?_))); (case side2 => exact (Kd.S_reads' HO_326000.out).2.1); rintro e w50 ⟨v333, rfl, ho0, hb⟩; refine ⟨_, rfl, ?_⟩; have n2_ := mk0 (Kd.R_lower (Kd.R_new' ho0 (Kd.R_lt (r_ HO330))) (bz_ (b_ HB))); replace HO_326000 := mk0 (Kd.S_below (s_ HO_326000) hb); replace HO330 := mk0 (Kd.R_elder' (r_ HO330) (Kd.R_base ho0) hb); replace BK316 := mk0 (u_ BK316 hb); replace BK325 := mk0 (u_ BK325 hb); replace HB := mk0 (bt_ (b_ HB) hb); have HO334 := n2_; clear n2_; (try clear hb); (try clear ho0)) | ((with_reducible refine gate_callee (f := 48) rfl ?_); refine gL_ (some 57) Try.func48 #[.int .i64 t331] (h := ?_); (with_reducible refine (quorumlaw9_num.calls t331 t336 _ A33.out).mono ?_); rintro e w' ⟨rfl, ⟨nd, rfl⟩⟩; refine ⟨_, rfl, ?_⟩) | (go_at_call 48; (with_reducible refine (quorumlaw9_num.calls t335 t337 _ A35.out).mono ?_); rintro e w' ⟨rfl, ⟨nd, rfl⟩⟩; obtain ⟨Ao51, co51, eo51⟩ := Kd.R_slice HO330.out; subst eo51; obtain ⟨Ao52, co52, eo52⟩ := Kd.R_slice HO334.out; subst eo52) | (go_at_call 50; (with_reducible refine (quorumref0_EqRows.calls k4 _ _ t328 _ _ t332 false _ ?side1 ?side2 ?side3 ?side4 A37.out).mono ?_); (case side1 => exact cr_ HO330); (case side2 => exact (Kd.R_reads' HO330.out).2.1); (case side3 => exact cr_ HO334); (case side4 => exact (Kd.R_reads' HO334.out).2.1); rintro e w' ⟨rfl, ⟨nd, rfl⟩⟩) | ((with_reducible refine gate_callee (f := 48) rfl ?_); refine gL_ (some 57) Try.func48 #[.int .i64 t331] (h := ?_); (with_reducible refine (quorumlaw9_num.calls t331 t336 _ A33.out).mono ?_); rintro e w' ⟨rfl, ⟨nd, rfl⟩⟩; refine ⟨_, rfl, ?_⟩) | (go_at_call 48; (with_reducible refine (quorumlaw9_num.calls t335 t337 _ A35.out).mono ?_); rintro e w' ⟨rfl, ⟨nd, rfl⟩⟩) | ((with_reducible refine gate_callee (f := 48) rfl ?_); refine gL_ (some 57) Try.func48 #[.int .i64 t331] (h := ?_); (with_reducible refine (quorumlaw9_num.calls t331 t336 _ A33.out).mono ?_); rintro e w' ⟨rfl, ⟨nd, rfl⟩⟩; refine ⟨_, rfl, ?_⟩))
                ·go_ret
                 exact ⟨by first | rfl | (simp [errW_none, errW_some] <;> rfl) | (simp [*, errW_none, errW_some] <;> rfl), b_ HB⟩
                ·go_ret
                 exact ⟨by first | rfl | (simp [errW_none, errW_some] <;> rfl) | (simp [*, errW_none, errW_some] <;> rfl), b_ HB⟩
                ·go_ret
                 exact ⟨by first | rfl | (simp [errW_none, errW_some] <;> rfl) | (simp [*, errW_none, errW_some] <;> rfl), b_ HB⟩
        ·rw [if_neg c14] at H
         have c14b0 : decide (x3_2 < 12) = false := decide_eq_false c14
         clear c14
         replace H := Option.bind_eq_some_iff.mp H
         obtain ⟨t319, A630, H⟩ := H
         try dsimp only at H
         have A63 := mk0 A630
         clear A630
         by_cases c64 : t319 = true
         ·subst c64
          rw [if_pos rfl] at H
          obtain rfl := Option.some.inj H
          go_wp2_with (first | ((with_reducible refine gate_callee (f := 15) rfl ?_); refine gL_ (some 71) Try.func15 #[.agg #[.slice none 0 0, .slice none 0 0, .slice none 0 0, .slice none 0 0]] (h := ?_); (refine (quorumlaw8_Heavy.calls k2 _ _ ([] : List (S30)) _ _ ([] : List (S39)) _ _ ([] : List Int) _ _ ([] : List ByteArray) true _ ?side1 ?side2 ?side3 ?side4 ?side5 ?side6 ?side7 ?side8 A63.out).mono ?_); (case side1 => exact Kd.C_nil _ _); (case side2 => exact Nat.le_refl _); (case side3 => exact Kd.C_nil _ _); (case side4 => exact Nat.le_refl _); (case side5 => exact Kd.C_nil _ _); (case side6 => exact Nat.le_refl _); (case side7 => exact Kd.C_nil _ _); (case side8 => exact Nat.le_refl _); rintro e w65 ⟨rfl, hb⟩; refine ⟨_, rfl, ?_⟩; replace BK316 := mk0 (u_ BK316 hb); replace HB := mk0 (bt_ (b_ HB) hb); (try clear hb)))
          go_ret
          exact ⟨by first | rfl | (simp [errW_none, errW_some] <;> rfl) | (simp [*, errW_none, errW_some] <;> rfl), b_ HB⟩
         ·replace c64 := Bool.eq_false_iff.mpr c64
          subst c64
          rw [if_neg (show ¬ (false = true) by decide)] at H
          replace H := Option.bind_eq_some_iff.mp H
          obtain ⟨t320, A660, H⟩ := H
          try dsimp only at H
          have A66 := mk0 A660
          clear A660
          obtain rfl := Option.some.inj H
          go_wp2_with (first | ((with_reducible refine gate_callee (f := 15) rfl ?_); refine gL_ (some 71) Try.func15 #[.agg #[.slice none 0 0, .slice none 0 0, .slice none 0 0, .slice none 0 0]] (h := ?_); (refine (quorumlaw8_Heavy.calls k2 _ _ ([] : List (S30)) _ _ ([] : List (S39)) _ _ ([] : List Int) _ _ ([] : List ByteArray) false _ ?side1 ?side2 ?side3 ?side4 ?side5 ?side6 ?side7 ?side8 A63.out).mono ?_); (case side1 => exact Kd.C_nil _ _); (case side2 => exact Nat.le_refl _); (case side3 => exact Kd.C_nil _ _); (case side4 => exact Nat.le_refl _); (case side5 => exact Kd.C_nil _ _); (case side6 => exact Nat.le_refl _); (case side7 => exact Kd.C_nil _ _); (case side8 => exact Nat.le_refl _); rintro e w67 ⟨rfl, hb⟩; refine ⟨_, rfl, ?_⟩; replace BK316 := mk0 (u_ BK316 hb); replace HB := mk0 (bt_ (b_ HB) hb); (try clear hb)) | (go_at_call 51; (with_reducible refine (quorumlaw9_wakes.calls k2  t320 _ A66.out).mono ?_); rintro e w68 ⟨rfl, hb⟩; replace BK316 := mk0 (u_ BK316 hb); replace HB := mk0 (bt_ (b_ HB) hb); (try clear hb)))
          go_ret
          exact ⟨by first | rfl | (simp [errW_none, errW_some] <;> rfl) | (simp [*, errW_none, errW_some] <;> rfl), b_ HB⟩

end Go.Proofs.Ytoodkefpkgbjcaa.PTbp
