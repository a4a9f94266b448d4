-- PRINTED by print.py (a twelfth state) out of the translation. Not trusted: Lean checks it.
import Derived.Test.YtbaecdcfefmcgaaPPndx0
import Derived.Test.YtbaecdcfefmcgaaPPndx3
import Derived.Test.YtbaecdcfefmcgaaPPndx4
import Derived.Test.YtbaecdcfefmcgaaHAll
import Derived.Test.YtbaecdcfefmcgaaHLook
namespace Go.Proofs.Ytbaecdcfefmcgaa.PPnd
open Go.RowKit Go.Proofs.YtbaecdcfefmcgaaW.PrintWords Go.Proofs.YtbaecdcfefmcgaaW.PrintLast Go.Proofs.YtbaecdcfefmcgaaW.PrintMore
attribute [local go_sem] max2_int min2_int max_two min_two max_three min_three max_four min_four   -- for this text's walks alone
set_option linter.unusedVariables false
set_option linter.unusedSimpArgs false

/-! ### pend_Look: function 98 (by hand) -/
def pend_Look.last (l : List (S36)) (t : Int) (k : ByteArray) : Option (S36) := l.reverse.find? (fun x => (x.f0 == t) && (x.f1.toList == k.toList))
def pend_Look.out : Option (S36) → (Int × ByteArray × ByteArray × Bool × Bool)
  | some x => (x.f0, x.f1, x.f2, x.f3, true)
  | none => (0, ⟨#[]⟩, ⟨#[]⟩, false, false)
def pend_Look.f (l0_0 : List (S36)) (l0_1 : List Int) (a1 : Int) (a2 : ByteArray) : Option (Int × ByteArray × ByteArray × Bool × Bool) := if l0_0.length ≤ 12 then some (pend_Look.out (pend_Look.last l0_0 a1 a2)) else none
theorem pend_Look.row (A0 : Option Addr) (c0 : Nat) (l0 : List (S36)) (w : World) (hr0 : Kd.C k36 w A0 l0.length l0) :
    HBack.Row w.heap.size w (.slice A0 l0.length c0) l0.length (fun j => ((rd_T36 l0 j).f0, (rd_T36 l0 j).f1, (rd_T36 l0 j).f2, (rd_T36 l0 j).f3)) := by
  rcases Nat.eq_zero_or_pos l0.length with h0 | h0
  · exact .inl ⟨A0, c0, by rw [h0], h0⟩
  · obtain ⟨⟨b, off, sp⟩, e1, x0, x1, x2, x3⟩ := at_T36 hr0 0 (by omega) (by omega)
    have x0' : w.cell? ⟨b, off, sp⟩ = some (.int .i64 (rd_T36 l0 0).f0) := x0
    have hb := World.block_lt_of_cell? w _ x0'
    obtain rfl : sp = none := by
      cases sp with
      | none => rfl
      | some s => simp only [World.cell?] at x0'; split at x0' <;> simp at x0'
    have ad_ : ∀ n, (⟨b, off, none⟩ : Addr).add n = ⟨b, off + n, none⟩ := fun n => by unfold Addr.add; split <;> simp_all
    refine .inr ⟨b, off, c0, by rw [e1], hb, fun j hj => ?_⟩
    obtain ⟨ad2, e2, y0, y1, y2, y3⟩ := at_T36 hr0 (j : Int) (by omega) (by omega)
    rw [e1] at e2
    cases e2
    rw [Int.toNat_natCast, ad_] at y0 y1 y2 y3
    exact ⟨y0, y1, y2, y3⟩
set_option maxHeartbeats 1000000 in
theorem pend_Look.calls (A0_0 : Option Addr) (c0_0 : Nat) (l0_0 : List (S36)) (A0_1 : Option Addr) (c0_1 : Nat) (l0_1 : List Int) (a1 : Int) (a2 : ByteArray) (r1 : Int) (r2 : ByteArray) (r3 : ByteArray) (r4 : Bool) (r5 : Bool) (w : World) (hr0_0 : Kd.C k36 w A0_0 l0_0.length l0_0) (hc0_0 : l0_0.length ≤ c0_0) (hr0_1 : Kd.C (Kd.int .i64) w A0_1 l0_1.length l0_1) (hc0_1 : l0_1.length ≤ c0_1) (h : pend_Look.f l0_0 l0_1 a1 a2 = some (r1, r2, r3, r4, r5)) :
    Calls Try.prog 98 #[.agg #[.slice A0_0 l0_0.length c0_0, .slice A0_1 l0_1.length c0_1], .int .i64 a1, .string a2] w fun e w' => e = .returned (.tuple #[.agg #[.int .i64 r1, .string r2, .string r3, .bool r4], .bool r5]) ∧ Below w.heap.size w w' := by
  unfold pend_Look.f at h
  split at h
  · rename_i h12
    have h2 := Option.some.inj h
    have hrd : ∀ k, k < l0_0.length → ∀ h3 : k < l0_0.reverse.length, l0_0.reverse[k] = rd_T36 l0_0 ((l0_0.length - 1 - k : Nat) : Int) := fun k hk h3 => by
      rw [List.getElem_reverse]
      simp [rd_T36, List.getD_eq_getElem?_getD, List.getElem?_eq_getElem (show l0_0.length - 1 - k < l0_0.length by omega)]
    refine (callsIn_wide (n := 3)).1 ((HBack.look_in Fence.wide 3 trivial trivial trivial rfl (Nat.le_refl _) A0_0 l0_0.length c0_0 (.slice A0_1 l0_1.length c0_1) a1 a2 _ (by omega) w (pend_Look.row A0_0 c0_0 l0_0 w hr0_0)).mono ?_)
    rintro r w' ⟨hB, ⟨k, hk, hx, hp, rfl⟩ | ⟨hn, rfl⟩⟩
    · have e : pend_Look.last l0_0 a1 a2 = some (rd_T36 l0_0 ((l0_0.length - 1 - k : Nat) : Int)) := by
        unfold pend_Look.last
        rw [List.find?_eq_some_iff_getElem]
        refine ⟨by simpa [HBack.hit] using hx, k, by simpa using hk, hrd k hk (by simpa using hk), fun j hj => ?_⟩
        rw [hrd j (by omega) (by simp; omega)]
        have h3 := hp j hj
        simp only [HBack.hit] at h3
        simp only [h3, Bool.not_false]
      rw [e] at h2
      simp only [pend_Look.out, Prod.mk.injEq] at h2
      obtain ⟨rfl, rfl, rfl, rfl, rfl⟩ := h2
      exact ⟨rfl, hB⟩
    · have e : pend_Look.last l0_0 a1 a2 = none := by
        unfold pend_Look.last
        rw [List.find?_eq_none]
        intro x hx
        obtain ⟨j, hj, rfl⟩ := List.mem_iff_getElem.1 hx
        have hj2 : j < l0_0.length := by simpa using hj
        rw [hrd j hj2 hj]
        simpa [HBack.hit] using hn j hj2
      rw [e] at h2
      simp only [pend_Look.out, Prod.mk.injEq] at h2
      obtain ⟨rfl, rfl, rfl, rfl, rfl⟩ := h2
      exact ⟨rfl, hB⟩
  · cases h


/-! ### pend_Last: function 59 -/
def pend_Last.j0 : Nat → Int → ByteArray → Bool → List (S36) → List Int → Option (Int × ByteArray × ByteArray × Bool × Int)
 | 0, _, _, _, _, _ => none
 | k + 1, x1, x2, x22, x250000, x250001 => if x22 = true then (some (0, (⟨#[]⟩ : ByteArray), (⟨#[]⟩ : ByteArray), false, 1)) else ((pend_Look.f x250000 x250001 x1 x2).bind fun bt254 => (if bt254.2.2.2.2 = true then (some (bt254.1, bt254.2.1, bt254.2.2.1, bt254.2.2.2.1, 0)) else (some (0, (⟨#[]⟩ : ByteArray), (⟨#[]⟩ : ByteArray), false, 3))))
def pend_Last.f (k : Nat) (l0_0 : List (S36)) (l0_1 : List Int) (a1 : Int) (a2 : ByteArray) : Option (Int × ByteArray × ByteArray × Bool × Int) := (pend_May.f k l0_0 l0_1).bind fun t251 => (if t251 = true then ((pend_Table.f a1).bind fun t252 => (if t252 = true then ((key_Is.f a2).bind fun t253 => (pend_Last.j0 k a1 a2 (!t253) l0_0 l0_1)) else (pend_Last.j0 k a1 a2 true l0_0 l0_1))) else (pend_Last.j0 k a1 a2 true l0_0 l0_1))
theorem pend_Last.mono_l : ∀ k, (∀ y0 y1 y2 y3 y4, LeO (pend_Last.j0 k y0 y1 y2 y3 y4) (pend_Last.j0 (k + 1) y0 y1 y2 y3 y4))
 | 0 => fun _ _ _ _ _ r h => by simp [pend_Last.j0] at h
 | k + 1 => by
  have ih0 := pend_Last.mono_l k
  ·intro y0 y1 y2 y3 y4
   unfold pend_Last.j0
   repeat' first
   | (with_reducible exact ih0 _ _ _ _ _)
   | (with_reducible exact pend_May.mono _ _ _)
   | (with_reducible exact LeO.refl _)
   | (with_reducible exact LeO.none _)
   | (with_reducible refine LeO.ite ?_ ?_)
   | (with_reducible refine LeO.bind ?_ (fun _ => ?_))
   | exact ih0 _ _ _ _ _
   | exact pend_May.mono _ _ _
   | exact LeO.none _
   | refine LeO.ite ?_ ?_
   | refine LeO.bind ?_ (fun _ => ?_)
theorem pend_Last.mono : ∀ a0 a1 a2 a3 k, LeO (pend_Last.f k a0 a1 a2 a3) (pend_Last.f (k + 1) a0 a1 a2 a3) := by
 intro a0 a1 a2 a3 k
 have ih0 := pend_Last.mono_l k
 unfold pend_Last.f
 repeat' first
   | (with_reducible exact ih0 _ _ _ _ _)
   | (with_reducible exact pend_May.mono _ _ _)
   | (with_reducible exact LeO.refl _)
   | (with_reducible exact LeO.none _)
   | (with_reducible refine LeO.ite ?_ ?_)
   | (with_reducible refine LeO.bind ?_ (fun _ => ?_))
   | exact ih0 _ _ _ _ _
   | exact pend_May.mono _ _ _
   | exact LeO.none _
   | refine LeO.ite ?_ ?_
   | refine LeO.bind ?_ (fun _ => ?_)
set_option maxHeartbeats 8000000 in
set_option maxRecDepth 100000 in
theorem pend_Last.calls (k : Nat) (A0_0 : Option Addr) (c0_0 : Nat) (l0_0 : List (S36)) (A0_1 : Option Addr) (c0_1 : Nat) (l0_1 : List Int) (a1 : Int) (a2 : ByteArray) (r1 : Int) (r2 : ByteArray) (r3 : ByteArray) (r4 : Bool) (r5 : Int) (w : World) (hr0_0 : Kd.C k36 w A0_0 l0_0.length l0_0) (hc0_0 : l0_0.length ≤ c0_0) (hr0_1 : Kd.C (Kd.int .i64) w A0_1 l0_1.length l0_1) (hc0_1 : l0_1.length ≤ c0_1) (h : pend_Last.f k l0_0 l0_1 a1 a2 = some (r1, r2, r3, r4, r5)) :
  Calls Try.prog 59 #[.agg #[.slice A0_0 l0_0.length c0_0, .slice A0_1 l0_1.length c0_1], .int .i64 a1, .string a2] w fun e w' => e = .returned (.tuple #[.agg #[.int .i64 r1, .string r2, .string r3, .bool r4], .int .i64 r5]) ∧ Below w.heap.size w w' := by
 have hu34 := Try.underlying34
 have hu36 := Try.underlying36
 have HR0_0 := mk0 hr0_0
 have HC0_0 := mk0 hc0_0
 clear hr0_0 hc0_0
 have HR0_1 := mk0 hr0_1
 have HC0_1 := mk0 hc0_1
 clear hr0_1 hc0_1
 have HB := mk0 (Below.refl w.heap.size w)
 have H : ((pend_May.f k l0_0 l0_1).bind fun t251 => (if t251 = true then ((pend_Table.f a1).bind fun t252 => (if t252 = true then ((key_Is.f a2).bind fun t253 => (pend_Last.j0 k a1 a2 (!t253) l0_0 l0_1)) else (pend_Last.j0 k a1 a2 true l0_0 l0_1))) else (pend_Last.j0 k a1 a2 true l0_0 l0_1))) = some (r1, r2, r3, r4, r5) := h
 clear h
 have HC4 := mk0 H
 clear H
 go_enter Try.func59, Try.ntmps59
 go_upto_region 1 with (first | ((with_reducible refine gate_dst (N := 3) rfl ?_); refine bx_ (N := 3) (cs := #[.slice A0_0 l0_0.length c0_0, .slice A0_1 l0_1.length c0_1]) (t := 34) (h := ?_); intro gb249 hg w5 hbox hb; have n2_ := mk0 (gz_ HB hg); have n3_ := mk0 (gz_ HB hg); replace HB := mk0 (bt_ (b_ HB) hb); have BK249 := mk0 (hbox); have GW249 := n2_; have GE249 := n3_; clear n2_ n3_; clear hb hbox hg) | ((with_reducible refine gate_dst (N := 6) rfl ?_); refine bx_ (N := 6) (cs := #[.int .i64 0, .string (⟨#[]⟩ : ByteArray), .string (⟨#[]⟩ : ByteArray), .bool false]) (t := 36) (h := ?_); intro gb250 hg w6 hbox hb; have n3_ := mk0 (gz_ HB hg); have n4_ := mk0 (gz_ HB hg); have n5_ := mk0 (ne1_ BK249 hg); have n6_ := mk0 (ne2_ BK249 hg); replace BK249 := mk0 (u_ BK249 hb); replace HB := mk0 (bt_ (b_ HB) hb); have BK250 := mk0 (hbox); have GW250 := n3_; have GE250 := n4_; have NB249_250 := n5_; have NB250_249 := n6_; clear n3_ n4_ n5_ n6_; clear hb hbox hg))
 (try simp only [Act.put, List.setIfInBounds_toArray, List.set_cons_zero, List.set_cons_succ])
 go_cut [22] (fun v22 wc => ∃ (kq : Nat) (x22_3 : Bool), v22 = .bool x22_3 ∧ Fc (pend_Last.j0 kq a1 a2 x22_3 l0_0 l0_1 = some (r1, r2, r3, r4, r5)) ∧ Fc (kq ≤ k) ∧ Fc (wc.heap[gb249]? = some (.cells #[(.slice A0_0 l0_0.length c0_0), (.slice A0_1 l0_1.length c0_1)] 34 (0, 0))) ∧ Fc (wc.heap[gb250]? = some (.cells #[.int .i64 0, .string (⟨#[]⟩ : ByteArray), .string (⟨#[]⟩ : ByteArray), .bool false] 36 (0, 0))) ∧ Fc (Below w.heap.size w wc))
 case first =>
  have H := HC4.out
  clear HC4
  replace H := Option.bind_eq_some_iff.mp H
  obtain ⟨t251, A70, H⟩ := H
  try dsimp only at H
  have A7 := mk0 A70
  clear A70
  by_cases c8 : t251 = true
  ·subst c8
   rw [if_pos rfl] at H
   replace H := Option.bind_eq_some_iff.mp H
   obtain ⟨t252, A90, H⟩ := H
   try dsimp only at H
   have A9 := mk0 A90
   clear A90
   by_cases c10 : t252 = true
   ·subst c10
    rw [if_pos rfl] at H
    replace H := Option.bind_eq_some_iff.mp H
    obtain ⟨t253, A110, H⟩ := H
    try dsimp only at H
    have A11 := mk0 A110
    clear A110
    have H' := mk0 H
    clear H
    have hnb12 := NB249_250.out
    have hnc12 := NB250_249.out
    obtain ⟨hcz13_0, hcz13_1, hfz13_0, hfz13_1⟩ := c2_ BK249
    go_wp2_with (first | ((with_reducible refine gate_callee (f := 97) rfl ?_); refine gL_ (some 11) Try.func97 #[.agg #[.slice A0_0 l0_0.length c0_0, .slice A0_1 l0_1.length c0_1]] (h := ?_); (with_reducible refine (pend_May.calls k _ _ l0_0 _ _ l0_1 true _ ?side1 ?side2 ?side3 ?side4 A7.out).mono ?_); (case side1 => exact cb_ HR0_0 HB); (case side2 => exact HC0_0.out); (case side3 => exact cb_ HR0_1 HB); (case side4 => exact HC0_1.out); rintro e w14 ⟨rfl, hb⟩; refine ⟨_, rfl, ?_⟩; replace BK249 := mk0 (u_ BK249 hb); replace BK250 := mk0 (blk_below (g := gb250) (o := .cells #[.int .i64 0, .string (⟨#[]⟩ : ByteArray), .string (⟨#[]⟩ : ByteArray), .bool false] 36 (0, 0)) (h_ BK250) hb); replace HB := mk0 (bt_ (b_ HB) hb); (try clear hb)) | (go_at_call 113; (with_reducible refine (pend_Table.calls a1 true _ A9.out).mono ?_); rintro e w' ⟨rfl, ⟨nd, rfl⟩⟩) | (go_at_call 42; (with_reducible refine (key_Is.calls a2 t253 _ A11.out).mono ?_); rintro e w' ⟨rfl, ⟨nd, rfl⟩⟩))
    go_meet
    case rel => exact ⟨_, (!t253), (by first | rfl | (simp; done) | (simp [*]; done)), H', ⟨by first | omega | exact Nat.le_refl _⟩, ⟨h_ BK249⟩, ⟨h_ BK250⟩, ⟨b_ HB⟩⟩
   ·replace c10 := Bool.eq_false_iff.mpr c10
    subst c10
    rw [if_neg (show ¬ (false = true) by decide)] at H
    have H' := mk0 H
    clear H
    have hnb15 := NB249_250.out
    have hnc15 := NB250_249.out
    obtain ⟨hcz16_0, hcz16_1, hfz16_0, hfz16_1⟩ := c2_ BK249
    go_wp2_with (first | ((with_reducible refine gate_callee (f := 97) rfl ?_); refine gL_ (some 11) Try.func97 #[.agg #[.slice A0_0 l0_0.length c0_0, .slice A0_1 l0_1.length c0_1]] (h := ?_); (with_reducible refine (pend_May.calls k _ _ l0_0 _ _ l0_1 true _ ?side1 ?side2 ?side3 ?side4 A7.out).mono ?_); (case side1 => exact cb_ HR0_0 HB); (case side2 => exact HC0_0.out); (case side3 => exact cb_ HR0_1 HB); (case side4 => exact HC0_1.out); rintro e w17 ⟨rfl, hb⟩; refine ⟨_, rfl, ?_⟩; replace BK249 := mk0 (u_ BK249 hb); replace BK250 := mk0 (blk_below (g := gb250) (o := .cells #[.int .i64 0, .string (⟨#[]⟩ : ByteArray), .string (⟨#[]⟩ : ByteArray), .bool false] 36 (0, 0)) (h_ BK250) hb); replace HB := mk0 (bt_ (b_ HB) hb); (try clear hb)) | (go_at_call 113; (with_reducible refine (pend_Table.calls a1 false _ A9.out).mono ?_); rintro e w' ⟨rfl, ⟨nd, rfl⟩⟩))
    go_meet
    case rel => exact ⟨_, (true), (by first | rfl | (simp; done) | (simp [*]; done)), H', ⟨by first | omega | exact Nat.le_refl _⟩, ⟨h_ BK249⟩, ⟨h_ BK250⟩, ⟨b_ HB⟩⟩
  ·replace c8 := Bool.eq_false_iff.mpr c8
   subst c8
   rw [if_neg (show ¬ (false = true) by decide)] at H
   have H' := mk0 H
   clear H
   have hnb18 := NB249_250.out
   have hnc18 := NB250_249.out
   obtain ⟨hcz19_0, hcz19_1, hfz19_0, hfz19_1⟩ := c2_ BK249
   go_wp2_with (first | ((with_reducible refine gate_callee (f := 97) rfl ?_); refine gL_ (some 11) Try.func97 #[.agg #[.slice A0_0 l0_0.length c0_0, .slice A0_1 l0_1.length c0_1]] (h := ?_); (with_reducible refine (pend_May.calls k _ _ l0_0 _ _ l0_1 false _ ?side1 ?side2 ?side3 ?side4 A7.out).mono ?_); (case side1 => exact cb_ HR0_0 HB); (case side2 => exact HC0_0.out); (case side3 => exact cb_ HR0_1 HB); (case side4 => exact HC0_1.out); rintro e w20 ⟨rfl, hb⟩; refine ⟨_, rfl, ?_⟩; replace BK249 := mk0 (u_ BK249 hb); replace BK250 := mk0 (blk_below (g := gb250) (o := .cells #[.int .i64 0, .string (⟨#[]⟩ : ByteArray), .string (⟨#[]⟩ : ByteArray), .bool false] 36 (0, 0)) (h_ BK250) hb); replace HB := mk0 (bt_ (b_ HB) hb); (try clear hb)))
   go_meet
   case rel => exact ⟨_, (true), (by first | rfl | (simp; done) | (simp [*]; done)), H', ⟨by first | omega | exact Nat.le_refl _⟩, ⟨h_ BK249⟩, ⟨h_ BK250⟩, ⟨b_ HB⟩⟩
 case rest =>
  clear HC4
  try clear c8
  try clear c10
  try clear hcz13_0
  try clear hcz13_1
  try clear hcz16_0
  try clear hcz16_1
  try clear hcz19_0
  try clear hcz19_1
  try clear hfz13_0
  try clear hfz13_1
  try clear hfz16_0
  try clear hfz16_1
  try clear hfz19_0
  try clear hfz19_1
  obtain ⟨kq, x22_3, rfl, HA, HJ3, BK249, BK250, HB⟩ := hcut
  cases kq with
  | zero => exact absurd HA.out (by simp [pend_Last.j0])
  | succ kj3 =>
   have H := HA.out
   clear HA
   simp only [pend_Last.j0] at H
   as_aux_lemma =>
    by_cases c21 : x22_3 = true
    ·subst c21
     rw [if_pos rfl] at H
     simp only [Option.some.injEq, Prod.mk.injEq] at H
     obtain ⟨rfl, rfl, rfl, rfl, rfl⟩ := H
     have hnb22 := NB250_249.out
     have hnc22 := NB249_250.out
     obtain ⟨hcz23_0, hcz23_1, hcz23_2, hcz23_3, hfz23_0, hfz23_1, hfz23_2, hfz23_3⟩ := c4_ BK250
     go_wp2
     refine bodyPost_ret (results_ct rfl _ _ gb250 36 #[.int .i64 0, .string (⟨#[]⟩ : ByteArray), .string (⟨#[]⟩ : ByteArray), .bool false] (0, 0) _ rfl (pu_ (cs := #[.int .i64 0, .string (⟨#[]⟩ : ByteArray), .string (⟨#[]⟩ : ByteArray), .bool false]) (pu_ (cs := #[.int .i64 0, .string (⟨#[]⟩ : ByteArray), .string (⟨#[]⟩ : ByteArray), .bool false]) (pu_ (cs := #[.int .i64 0, .string (⟨#[]⟩ : ByteArray), .string (⟨#[]⟩ : ByteArray), .bool false]) (pu_ (cs := #[.int .i64 0, .string (⟨#[]⟩ : ByteArray), .string (⟨#[]⟩ : ByteArray), .bool false]) (h_ BK250))))) Try.underlying36 rfl (by kernel_rfl)) rfl ?_
     exact ⟨by first | rfl | (simp [errW_none, errW_some] <;> rfl) | (simp [*, errW_none, errW_some] <;> rfl), b_ HB⟩
    ·replace c21 := Bool.eq_false_iff.mpr c21
     subst c21
     rw [if_neg (show ¬ (false = true) by decide)] at H
     replace H := Option.bind_eq_some_iff.mp H
     obtain ⟨⟨t254, t255, t256, t257, t258⟩, A240, H⟩ := H
     try dsimp only at H
     have A24 := mk0 A240
     clear A240
     by_cases c25 : t258 = true
     ·subst c25
      rw [if_pos rfl] at H
      simp only [Option.some.injEq, Prod.mk.injEq] at H
      obtain ⟨rfl, rfl, rfl, rfl, rfl⟩ := H
      have hnb26 := NB249_250.out
      have hnc26 := NB250_249.out
      obtain ⟨hcz27_0, hcz27_1, hfz27_0, hfz27_1⟩ := c2_ BK249
      go_upto_region 4 with (first | ((with_reducible refine gate_callee (f := 98) rfl ?_); refine gL_ (some 28) Try.func98 #[.agg #[.slice A0_0 l0_0.length c0_0, .slice A0_1 l0_1.length c0_1], .int .i64 a1, .string a2] (h := ?_); (with_reducible refine (pend_Look.calls _ _ l0_0 _ _ l0_1 a1 a2 t254 t255 t256 t257 true _ ?side1 ?side2 ?side3 ?side4 A24.out).mono ?_); (case side1 => exact cb_ HR0_0 HB); (case side2 => exact HC0_0.out); (case side3 => exact cb_ HR0_1 HB); (case side4 => exact HC0_1.out); rintro e w28 ⟨rfl, hb⟩; refine ⟨_, rfl, ?_⟩; replace BK249 := mk0 (u_ BK249 hb); replace BK250 := mk0 (blk_below (g := gb250) (o := .cells #[.int .i64 0, .string (⟨#[]⟩ : ByteArray), .string (⟨#[]⟩ : ByteArray), .bool false] 36 (0, 0)) (h_ BK250) hb); replace HB := mk0 (bt_ (b_ HB) hb); (try clear hb)) | ((with_reducible refine gate_dst (N := 8) rfl ?_); refine bx_ (N := 8) (cs := #[.int .i64 0, .string (⟨#[]⟩ : ByteArray), .string (⟨#[]⟩ : ByteArray), .bool false]) (t := 36) (h := ?_); intro gb259 hg w29 hbox hb; have n4_ := mk0 (gz_ HB hg); have n5_ := mk0 (gz_ HB hg); have n6_ := mk0 (ne1_ BK249 hg); have n7_ := mk0 (ne2_ BK249 hg); have n8_ := mk0 ((by rw [hg]; exact Nat.ne_of_lt (blk_lt (g := gb250) (o := .cells #[.int .i64 0, .string (⟨#[]⟩ : ByteArray), .string (⟨#[]⟩ : ByteArray), .bool false] 36 (0, 0)) (h_ BK250)) : gb250 ≠ gb259)); have n9_ := mk0 ((by rw [hg]; exact Nat.ne_of_gt (blk_lt (g := gb250) (o := .cells #[.int .i64 0, .string (⟨#[]⟩ : ByteArray), .string (⟨#[]⟩ : ByteArray), .bool false] 36 (0, 0)) (h_ BK250)) : gb259 ≠ gb250)); replace BK249 := mk0 (u_ BK249 hb); replace BK250 := mk0 (blk_below (g := gb250) (o := .cells #[.int .i64 0, .string (⟨#[]⟩ : ByteArray), .string (⟨#[]⟩ : ByteArray), .bool false] 36 (0, 0)) (h_ BK250) hb); replace HB := mk0 (bt_ (b_ HB) hb); have BK259 := mk0 (hbox); have GW259 := n4_; have GE259 := n5_; have NB249_259 := n6_; have NB259_249 := n7_; have NB250_259 := n8_; have NB259_250 := n9_; clear n4_ n5_ n6_ n7_ n8_ n9_ hb hbox hg; have hnb30 := NB259_249.out; have hnc30 := NB249_259.out; have hnb31 := NB259_250.out; have hnc31 := NB250_259.out; obtain ⟨hcz32_0, hcz32_1, hcz32_2, hcz32_3, hfz32_0, hfz32_1, hfz32_2, hfz32_3⟩ := c4_ BK259; obtain ⟨hcz33_0, hcz33_1, hcz33_2, hcz33_3, hfz33_0, hfz33_1, hfz33_2, hfz33_3⟩ := c4_ BK250))
      obtain ⟨wf_, hwf_⟩ : ∃ wf_, ((((w29.setCell ⟨gb259, 0, none⟩ (.int .i64 t254)).setCell ⟨gb259, 1, none⟩ (.string t255)).setCell ⟨gb259, 2, none⟩ (.string t256)).setCell ⟨gb259, 3, none⟩ (.bool t257)) = wf_ := ⟨_, rfl⟩
      rw [hwf_]
      have n1_ := mk0 (show wf_.heap[gb259]? = some (.cells #[.int .i64 t254, .string t255, .string t256, .bool t257] 36 (0, 0)) from by rw [← hwf_]; exact blk_put (blk_put (blk_put (blk_put (cs := #[.int .i64 0, .string (⟨#[]⟩ : ByteArray), .string (⟨#[]⟩ : ByteArray), .bool false]) BK259.out 0 _ rfl) 1 _ rfl) 2 _ rfl) 3 _ rfl)
      have n2_ := mk0 (show wf_.heap[gb250]? = some (.cells #[.int .i64 0, .string (⟨#[]⟩ : ByteArray), .string (⟨#[]⟩ : ByteArray), .bool false] 36 (0, 0)) from by rw [← hwf_, Below.heap_setCell _ _ _ _ NB250_259.out, Below.heap_setCell _ _ _ _ NB250_259.out, Below.heap_setCell _ _ _ _ NB250_259.out, Below.heap_setCell _ _ _ _ NB250_259.out]; exact BK250.out)
      have n3_ := mk0 (show Below w.heap.size w wf_ from by rw [← hwf_]; exact bs_ (bs_ (bs_ (bs_ HB.out GE259.out) GE259.out) GE259.out) GE259.out)
      clear hwf_ BK259 BK250 BK249 HB
      have BK259 := n1_
      have BK250 := n2_
      have HB := n3_
      clear n1_ n2_ n3_
      obtain ⟨hcf_0, hcf_1, hcf_2, hcf_3, hff_0, hff_1, hff_2, hff_3⟩ := c4_ BK259
      obtain ⟨hcg_0, hcg_1, hcg_2, hcg_3, hfg_0, hfg_1, hfg_2, hfg_3⟩ := c4_ BK250
      go_wp2
      refine bodyPost_ret (results_ct rfl _ _ gb250 36 #[.int .i64 t254, .string t255, .string t256, .bool t257] (0, 0) _ rfl (pu_ (cs := #[.int .i64 t254, .string t255, .string t256, .bool false]) (pu_ (cs := #[.int .i64 t254, .string t255, .string (⟨#[]⟩ : ByteArray), .bool false]) (pu_ (cs := #[.int .i64 t254, .string (⟨#[]⟩ : ByteArray), .string (⟨#[]⟩ : ByteArray), .bool false]) (pu_ (cs := #[.int .i64 0, .string (⟨#[]⟩ : ByteArray), .string (⟨#[]⟩ : ByteArray), .bool false]) (h_ BK250))))) Try.underlying36 rfl (by kernel_rfl)) rfl ?_
      exact ⟨by first | rfl | (simp [errW_none, errW_some] <;> rfl) | (simp [*, errW_none, errW_some] <;> rfl), b_ HB⟩
     ·replace c25 := Bool.eq_false_iff.mpr c25
      subst c25
      rw [if_neg (show ¬ (false = true) by decide)] at H
      simp only [Option.some.injEq, Prod.mk.injEq] at H
      obtain ⟨rfl, rfl, rfl, rfl, rfl⟩ := H
      have hnb34 := NB249_250.out
      have hnc34 := NB250_249.out
      obtain ⟨hcz35_0, hcz35_1, hfz35_0, hfz35_1⟩ := c2_ BK249
      go_upto_region 4 with (first | ((with_reducible refine gate_callee (f := 98) rfl ?_); refine gL_ (some 28) Try.func98 #[.agg #[.slice A0_0 l0_0.length c0_0, .slice A0_1 l0_1.length c0_1], .int .i64 a1, .string a2] (h := ?_); (with_reducible refine (pend_Look.calls _ _ l0_0 _ _ l0_1 a1 a2 t254 t255 t256 t257 false _ ?side1 ?side2 ?side3 ?side4 A24.out).mono ?_); (case side1 => exact cb_ HR0_0 HB); (case side2 => exact HC0_0.out); (case side3 => exact cb_ HR0_1 HB); (case side4 => exact HC0_1.out); rintro e w36 ⟨rfl, hb⟩; refine ⟨_, rfl, ?_⟩; replace BK249 := mk0 (u_ BK249 hb); replace BK250 := mk0 (blk_below (g := gb250) (o := .cells #[.int .i64 0, .string (⟨#[]⟩ : ByteArray), .string (⟨#[]⟩ : ByteArray), .bool false] 36 (0, 0)) (h_ BK250) hb); replace HB := mk0 (bt_ (b_ HB) hb); (try clear hb)) | ((with_reducible refine gate_dst (N := 8) rfl ?_); refine bx_ (N := 8) (cs := #[.int .i64 0, .string (⟨#[]⟩ : ByteArray), .string (⟨#[]⟩ : ByteArray), .bool false]) (t := 36) (h := ?_); intro gb259 hg w37 hbox hb; have n4_ := mk0 (gz_ HB hg); have n5_ := mk0 (gz_ HB hg); have n6_ := mk0 (ne1_ BK249 hg); have n7_ := mk0 (ne2_ BK249 hg); have n8_ := mk0 ((by rw [hg]; exact Nat.ne_of_lt (blk_lt (g := gb250) (o := .cells #[.int .i64 0, .string (⟨#[]⟩ : ByteArray), .string (⟨#[]⟩ : ByteArray), .bool false] 36 (0, 0)) (h_ BK250)) : gb250 ≠ gb259)); have n9_ := mk0 ((by rw [hg]; exact Nat.ne_of_gt (blk_lt (g := gb250) (o := .cells #[.int .i64 0, .string (⟨#[]⟩ : ByteArray), .string (⟨#[]⟩ : ByteArray), .bool false] 36 (0, 0)) (h_ BK250)) : gb259 ≠ gb250)); replace BK249 := mk0 (u_ BK249 hb); replace BK250 := mk0 (blk_below (g := gb250) (o := .cells #[.int .i64 0, .string (⟨#[]⟩ : ByteArray), .string (⟨#[]⟩ : ByteArray), .bool false] 36 (0, 0)) (h_ BK250) hb); replace HB := mk0 (bt_ (b_ HB) hb); have BK259 := mk0 (hbox); have GW259 := n4_; have GE259 := n5_; have NB249_259 := n6_; have NB259_249 := n7_; have NB250_259 := n8_; have NB259_250 := n9_; clear n4_ n5_ n6_ n7_ n8_ n9_ hb hbox hg; have hnb38 := NB259_249.out; have hnc38 := NB249_259.out; have hnb39 := NB259_250.out; have hnc39 := NB250_259.out; obtain ⟨hcz40_0, hcz40_1, hcz40_2, hcz40_3, hfz40_0, hfz40_1, hfz40_2, hfz40_3⟩ := c4_ BK259; obtain ⟨hcz41_0, hcz41_1, hcz41_2, hcz41_3, hfz41_0, hfz41_1, hfz41_2, hfz41_3⟩ := c4_ BK250))
      obtain ⟨wf_, hwf_⟩ : ∃ wf_, ((((w37.setCell ⟨gb259, 0, none⟩ (.int .i64 t254)).setCell ⟨gb259, 1, none⟩ (.string t255)).setCell ⟨gb259, 2, none⟩ (.string t256)).setCell ⟨gb259, 3, none⟩ (.bool t257)) = wf_ := ⟨_, rfl⟩
      rw [hwf_]
      have n1_ := mk0 (show wf_.heap[gb259]? = some (.cells #[.int .i64 t254, .string t255, .string t256, .bool t257] 36 (0, 0)) from by rw [← hwf_]; exact blk_put (blk_put (blk_put (blk_put (cs := #[.int .i64 0, .string (⟨#[]⟩ : ByteArray), .string (⟨#[]⟩ : ByteArray), .bool false]) BK259.out 0 _ rfl) 1 _ rfl) 2 _ rfl) 3 _ rfl)
      have n2_ := mk0 (show wf_.heap[gb250]? = some (.cells #[.int .i64 0, .string (⟨#[]⟩ : ByteArray), .string (⟨#[]⟩ : ByteArray), .bool false] 36 (0, 0)) from by rw [← hwf_, Below.heap_setCell _ _ _ _ NB250_259.out, Below.heap_setCell _ _ _ _ NB250_259.out, Below.heap_setCell _ _ _ _ NB250_259.out, Below.heap_setCell _ _ _ _ NB250_259.out]; exact BK250.out)
      have n3_ := mk0 (show Below w.heap.size w wf_ from by rw [← hwf_]; exact bs_ (bs_ (bs_ (bs_ HB.out GE259.out) GE259.out) GE259.out) GE259.out)
      clear hwf_ BK259 BK250 BK249 HB
      have BK259 := n1_
      have BK250 := n2_
      have HB := n3_
      clear n1_ n2_ n3_
      obtain ⟨hcf_0, hcf_1, hcf_2, hcf_3, hff_0, hff_1, hff_2, hff_3⟩ := c4_ BK259
      obtain ⟨hcg_0, hcg_1, hcg_2, hcg_3, hfg_0, hfg_1, hfg_2, hfg_3⟩ := c4_ BK250
      go_wp2
      refine bodyPost_ret (results_ct rfl _ _ gb250 36 #[.int .i64 0, .string (⟨#[]⟩ : ByteArray), .string (⟨#[]⟩ : ByteArray), .bool false] (0, 0) _ rfl (pu_ (cs := #[.int .i64 0, .string (⟨#[]⟩ : ByteArray), .string (⟨#[]⟩ : ByteArray), .bool false]) (pu_ (cs := #[.int .i64 0, .string (⟨#[]⟩ : ByteArray), .string (⟨#[]⟩ : ByteArray), .bool false]) (pu_ (cs := #[.int .i64 0, .string (⟨#[]⟩ : ByteArray), .string (⟨#[]⟩ : ByteArray), .bool false]) (pu_ (cs := #[.int .i64 0, .string (⟨#[]⟩ : ByteArray), .string (⟨#[]⟩ : ByteArray), .bool false]) (h_ BK250))))) Try.underlying36 rfl (by kernel_rfl)) rfl ?_
      exact ⟨by first | rfl | (simp [errW_none, errW_some] <;> rfl) | (simp [*, errW_none, errW_some] <;> rfl), b_ HB⟩

-- NOT PRINTED: function 201 (api_Write_201)

-- NOT PRINTED: function 208 (api_Write_208)

-- NOT PRINTED: function 206 (api_Write_206)

-- NOT PRINTED: function 202 (api_Write_202)

-- NOT PRINTED: function 191 (api_Write_191)

-- NOT PRINTED: function 159 (api_Write_159)

-- NOT PRINTED: function 197 (bytealg_abigen_runtime_cmpstring)

-- NOT PRINTED: function 175 (bytealg_CompareString)

-- NOT PRINTED: function 139 (strings_Compare)

/-! ### cmp_Or_int: function 192 -/
def cmp_Or_int.l0 : Nat → Int → List Int → Int → Int → Option (Int)
 | 0, _, _, _, _ => none
 | k + 1, x3, x6, x7, x8 => if x8 < x7 then (if 0 ≤ x8 then (if x8 < (x6.length : Int) then (if (rd x6 x8) = x3 then (cmp_Or_int.l0 k x3 x6 x7 (wrap64 (x8 + 1))) else (some (rd x6 x8))) else (none)) else (none)) else (some x3)
def cmp_Or_int.f (k : Nat) (l0 : List Int) : Option (Int) := cmp_Or_int.l0 k 0 l0 (l0.length : Int) 0
theorem cmp_Or_int.mono_l : ∀ k, (∀ y0 y1 y2 y3, LeO (cmp_Or_int.l0 k y0 y1 y2 y3) (cmp_Or_int.l0 (k + 1) y0 y1 y2 y3))
 | 0 => fun _ _ _ _ r h => by simp [cmp_Or_int.l0] at h
 | k + 1 => by
  have ih0 := cmp_Or_int.mono_l k
  ·intro y0 y1 y2 y3
   unfold cmp_Or_int.l0
   repeat' first
   | (with_reducible exact ih0 _ _ _ _)
   | (with_reducible exact LeO.refl _)
   | (with_reducible exact LeO.none _)
   | (with_reducible refine LeO.ite ?_ ?_)
   | (with_reducible refine LeO.bind ?_ (fun _ => ?_))
   | exact ih0 _ _ _ _
   | exact LeO.none _
   | refine LeO.ite ?_ ?_
   | refine LeO.bind ?_ (fun _ => ?_)
theorem cmp_Or_int.mono : ∀ a0 k, LeO (cmp_Or_int.f k a0) (cmp_Or_int.f (k + 1) a0) := by
 intro a0 k
 have ih0 := cmp_Or_int.mono_l k
 unfold cmp_Or_int.f
 repeat' first
   | (with_reducible exact ih0 _ _ _ _)
   | (with_reducible exact LeO.refl _)
   | (with_reducible exact LeO.none _)
   | (with_reducible refine LeO.ite ?_ ?_)
   | (with_reducible refine LeO.bind ?_ (fun _ => ?_))
   | exact ih0 _ _ _ _
   | exact LeO.none _
   | refine LeO.ite ?_ ?_
   | refine LeO.bind ?_ (fun _ => ?_)
set_option maxHeartbeats 8000000 in
set_option maxRecDepth 100000 in
theorem cmp_Or_int.calls (k : Nat) (A0 : Option Addr) (c0 : Nat) (l0 : List Int) (r : Int) (w : World) (hr0 : Kd.C (Kd.int .i64) w A0 l0.length l0) (hc0 : l0.length ≤ c0) (h : cmp_Or_int.f k l0 = some r) :
  Calls Try.prog 192 #[.slice A0 l0.length c0] w fun e w' => e = .returned (.int .i64 r) ∧ Drawn0 w w' := by
 have HR0 := mk0 hr0
 have HC0 := mk0 hc0
 clear hr0 hc0
 have H : (cmp_Or_int.l0 k 0 l0 (l0.length : Int) 0) = some r := h
 clear h
 have H' := mk0 H
 clear H
 go_enter Try.func192, Try.ntmps192
 go_wp2
 go_loopg [8] k (fun kq v8 w' => ∃ (x8_1 : Int), v8 = .int .i64 x8_1 ∧ Fc (cmp_Or_int.l0 kq 0 l0 (l0.length : Int) x8_1 = some r) ∧ Fc (kq ≤ k) ∧ Drawn0 w w')
 case atStart => exact ⟨(0), (by first | rfl | (simp; done) | (simp [*]; done)), H', ⟨Nat.le_refl _⟩, by repeat (first | exact Drawn0.refl _ | apply Drawn0.step)⟩
 case round =>
  clear H'
  obtain ⟨x8_1, rfl, HA, HK1, ⟨m1, rfl⟩⟩ := hrel
  cases gk with
  | zero => exact absurd HA.out (by simp [cmp_Or_int.l0])
  | succ k1 =>
   have H := HA.out
   clear HA
   simp only [cmp_Or_int.l0] at H
   as_aux_lemma =>
    by_cases c2 : x8_1 < (l0.length : Int)
    ·rw [if_pos c2] at H
     have c2b0 : decide (x8_1 < (l0.length : Int)) = true := decide_eq_true c2
     clear c2
     by_cases c3 : 0 ≤ x8_1
     ·rw [if_pos c3] at H
      have c3b0 : decide (0 ≤ x8_1) = true := decide_eq_true c3
      clear c3
      by_cases c4 : x8_1 < (l0.length : Int)
      ·rw [if_pos c4] at H
       have c4b0 : decide (x8_1 < (l0.length : Int)) = true := decide_eq_true c4
       clear c4
       by_cases c5 : (rd l0 x8_1) = 0
       ·rw [if_pos c5] at H
        have c5b0 : ((rd l0 x8_1) == 0) = true := beq_iff_eq.mpr c5
        have c5b1 : ((rd l0 x8_1) != 0) = false := bne_eq_false_iff_eq.mpr c5
        clear c5
        have H' := mk0 H
        clear H
        have p260 : 0 ≤ (x8_1 : Int) := of_decide_eq_true (by first | (with_reducible assumption) | assumption)
        have q260 : x8_1 < (l0.length : Int) := of_decide_eq_true (by first | (with_reducible assumption) | assumption)
        obtain ⟨ad260, e260, hx260_0⟩ := Kd.at_int HR0.out x8_1 p260 q260
        cases e260
        replace p260 := eq_true p260
        replace q260 := eq_true q260
        go_wp2
        go_roundg k1
        case measure => have := HK1.out; omega
        case rel => exact ⟨(wrap64 (x8_1 + 1)), (by first | rfl | (simp; done) | (simp [*]; done)), H', ⟨by have := HK1.out; omega⟩, by repeat (first | exact Drawn0.refl _ | apply Drawn0.step)⟩
       ·rw [if_neg c5] at H
        have c5b0 : ((rd l0 x8_1) == 0) = false := beq_eq_false_iff_ne.mpr c5
        have c5b1 : ((rd l0 x8_1) != 0) = true := bne_iff_ne.mpr c5
        obtain rfl := Option.some.inj H
        have p260 : 0 ≤ (x8_1 : Int) := of_decide_eq_true (by first | (with_reducible assumption) | assumption)
        have q260 : x8_1 < (l0.length : Int) := of_decide_eq_true (by first | (with_reducible assumption) | assumption)
        obtain ⟨ad260, e260, hx260_0⟩ := Kd.at_int HR0.out x8_1 p260 q260
        cases e260
        replace p260 := eq_true p260
        replace q260 := eq_true q260
        go_wp2
        go_ret
        exact ⟨by first | rfl | (simp; done) | (simp [*]; done), by repeat (first | exact Drawn0.refl _ | apply Drawn0.step)⟩
      ·rw [if_neg c4] at H
       exact absurd H (by simp)
     ·rw [if_neg c3] at H
      exact absurd H (by simp)
    ·rw [if_neg c2] at H
     have c2b0 : decide (x8_1 < (l0.length : Int)) = false := decide_eq_false c2
     clear c2
     obtain rfl := Option.some.inj H
     go_wp2
     go_ret
     exact ⟨by first | rfl | (simp; done) | (simp [*]; done), by repeat (first | exact Drawn0.refl _ | apply Drawn0.step)⟩

-- NOT PRINTED: function 160 (pend_order)

-- NOT PRINTED: function 161 (api_Write_161)

/-! ### pend_All: function 114 (by hand) -/
def pend_All.f (l0_0 : List (S36)) (l0_1 : List Int) : Option (List (S36)) := if l0_0.length ≤ 12 then some (HAll.allOf l0_0) else none
theorem pend_All.calls (A0_0 : Option Addr) (c0_0 : Nat) (l0_0 : List (S36)) (A0_1 : Option Addr) (c0_1 : Nat) (l0_1 : List Int) (r : List (S36)) (w : World) (hr0_0 : Kd.C k36 w A0_0 l0_0.length l0_0) (hc0_0 : l0_0.length ≤ c0_0) (hr0_1 : Kd.C (Kd.int .i64) w A0_1 l0_1.length l0_1) (hc0_1 : l0_1.length ≤ c0_1) (h : pend_All.f l0_0 l0_1 = some r) :
    Calls Try.prog 114 #[.agg #[.slice A0_0 l0_0.length c0_0, .slice A0_1 l0_1.length c0_1]] w fun e w' => ∃ v0_ : Value, e = .returned (v0_) ∧ Kd.R k36 36 w' w.heap.size (fun _ => True) v0_ r ∧ Below w.heap.size w w' := by
  unfold pend_All.f at h
  split at h
  · rename_i h12
    obtain rfl := Option.some.inj h
    exact HAll.All_calls A0_0 c0_0 l0_0 A0_1 c0_1 l0_1 w hr0_0 hc0_0 h12
  · cases h


/-! ### pend_Sum: function 60 -/
def pend_Sum.f (k : Nat) (l0_0 : List (S36)) (l0_1 : List Int) : Option ((List (S36)) × Int) := (pend_May.f k l0_0 l0_1).bind fun t264 => (if t264 = true then ((pend_All.f l0_0 l0_1).bind fun t265 => (some (t265, 0))) else (some (([] : List (S36)), 1)))
theorem pend_Sum.mono : ∀ a0 a1 k, LeO (pend_Sum.f k a0 a1) (pend_Sum.f (k + 1) a0 a1) := by
 intro a0 a1 k
 unfold pend_Sum.f
 repeat' first
   | (with_reducible exact pend_May.mono _ _ _)
   | (with_reducible exact LeO.refl _)
   | (with_reducible exact LeO.none _)
   | (with_reducible refine LeO.ite ?_ ?_)
   | (with_reducible refine LeO.bind ?_ (fun _ => ?_))
   | exact pend_May.mono _ _ _
   | exact LeO.none _
   | refine LeO.ite ?_ ?_
   | refine LeO.bind ?_ (fun _ => ?_)
set_option maxHeartbeats 8000000 in
set_option maxRecDepth 100000 in
theorem pend_Sum.calls (k : Nat) (A0_0 : Option Addr) (c0_0 : Nat) (l0_0 : List (S36)) (A0_1 : Option Addr) (c0_1 : Nat) (l0_1 : List Int) (r1 : List (S36)) (r2 : Int) (w : World) (hr0_0 : Kd.C k36 w A0_0 l0_0.length l0_0) (hc0_0 : l0_0.length ≤ c0_0) (hr0_1 : Kd.C (Kd.int .i64) w A0_1 l0_1.length l0_1) (hc0_1 : l0_1.length ≤ c0_1) (h : pend_Sum.f k l0_0 l0_1 = some (r1, r2)) :
  Calls Try.prog 60 #[.agg #[.slice A0_0 l0_0.length c0_0, .slice A0_1 l0_1.length c0_1]] w fun e w' => ∃ v0_ : Value, e = .returned (.tuple #[v0_, .int .i64 r2]) ∧ Kd.R k36 36 w' w.heap.size (fun _ => True) v0_ r1 ∧ Below w.heap.size w w' := by
 have hu34 := Try.underlying34
 have HR0_0 := mk0 hr0_0
 have HC0_0 := mk0 hc0_0
 clear hr0_0 hc0_0
 have HR0_1 := mk0 hr0_1
 have HC0_1 := mk0 hc0_1
 clear hr0_1 hc0_1
 have HB := mk0 (Below.refl w.heap.size w)
 have H : ((pend_May.f k l0_0 l0_1).bind fun t264 => (if t264 = true then ((pend_All.f l0_0 l0_1).bind fun t265 => (some (t265, 0))) else (some (([] : List (S36)), 1)))) = some (r1, r2) := h
 clear h
 replace H := Option.bind_eq_some_iff.mp H
 obtain ⟨t264, A20, H⟩ := H
 try dsimp only at H
 have A2 := mk0 A20
 clear A20
 by_cases c3 : t264 = true
 ·subst c3
  rw [if_pos rfl] at H
  replace H := Option.bind_eq_some_iff.mp H
  obtain ⟨t265, A40, H⟩ := H
  try dsimp only at H
  have A4 := mk0 A40
  clear A40
  simp only [Option.some.injEq, Prod.mk.injEq] at H
  obtain ⟨rfl, rfl⟩ := H
  go_enter Try.func60, Try.ntmps60
  go_wp2_with (first | ((with_reducible refine gate_dst (N := 1) rfl ?_); refine bx_ (N := 1) (cs := #[.slice A0_0 l0_0.length c0_0, .slice A0_1 l0_1.length c0_1]) (t := 34) (h := ?_); intro gb263 hg w5 hbox hb; have n2_ := mk0 (gz_ HB hg); have n3_ := mk0 (gz_ HB hg); replace HB := mk0 (bt_ (b_ HB) hb); have BK263 := mk0 (hbox); have GW263 := n2_; have GE263 := n3_; clear n2_ n3_ hb hbox hg; obtain ⟨hcz6_0, hcz6_1, hfz6_0, hfz6_1⟩ := c2_ BK263) | ((with_reducible refine gate_callee (f := 97) rfl ?_); refine gL_ (some 5) Try.func97 #[.agg #[.slice A0_0 l0_0.length c0_0, .slice A0_1 l0_1.length c0_1]] (h := ?_); (with_reducible refine (pend_May.calls k _ _ l0_0 _ _ l0_1 true _ ?side1 ?side2 ?side3 ?side4 A2.out).mono ?_); (case side1 => exact cb_ HR0_0 HB); (case side2 => exact HC0_0.out); (case side3 => exact cb_ HR0_1 HB); (case side4 => exact HC0_1.out); rintro e w7 ⟨rfl, hb⟩; refine ⟨_, rfl, ?_⟩; replace BK263 := mk0 (u_ BK263 hb); replace HB := mk0 (bt_ (b_ HB) hb); (try clear hb); obtain ⟨hcz8_0, hcz8_1, hfz8_0, hfz8_1⟩ := c2_ BK263) | ((with_reducible refine gate_callee (f := 114) rfl ?_); refine gL_ (some 8) Try.func114 #[.agg #[.slice A0_0 l0_0.length c0_0, .slice A0_1 l0_1.length c0_1]] (h := ?_); (with_reducible refine (pend_All.calls _ _ l0_0 _ _ l0_1 t265 _ ?side1 ?side2 ?side3 ?side4 A4.out).mono ?_); (case side1 => exact cb_ HR0_0 HB); (case side2 => exact HC0_0.out); (case side3 => exact cb_ HR0_1 HB); (case side4 => exact HC0_1.out); rintro e w9 ⟨v266, rfl, ho0, hb⟩; refine ⟨_, rfl, ?_⟩; have n0_ := mk0 (Kd.R_lower ho0 (bz_ (b_ HB))); replace BK263 := mk0 (u_ BK263 hb); replace HB := mk0 (bt_ (b_ HB) hb); have HO267 := n0_; clear n0_; (try clear hb); (try clear ho0)))
  go_ret2
  exact ⟨_, by first | rfl | (simp [errW_none, errW_some] <;> rfl) | (simp [*, errW_none, errW_some] <;> rfl), by (with_reducible repeat (first | apply Ra_ | apply Rn_ | apply Rd_)); exact HO267.out, b_ HB⟩
 ·replace c3 := Bool.eq_false_iff.mpr c3
  subst c3
  rw [if_neg (show ¬ (false = true) by decide)] at H
  simp only [Option.some.injEq, Prod.mk.injEq] at H
  obtain ⟨rfl, rfl⟩ := H
  go_enter Try.func60, Try.ntmps60
  go_wp2_with (first | ((with_reducible refine gate_dst (N := 1) rfl ?_); refine bx_ (N := 1) (cs := #[.slice A0_0 l0_0.length c0_0, .slice A0_1 l0_1.length c0_1]) (t := 34) (h := ?_); intro gb263 hg w10 hbox hb; have n2_ := mk0 (gz_ HB hg); have n3_ := mk0 (gz_ HB hg); replace HB := mk0 (bt_ (b_ HB) hb); have BK263 := mk0 (hbox); have GW263 := n2_; have GE263 := n3_; clear n2_ n3_ hb hbox hg; obtain ⟨hcz11_0, hcz11_1, hfz11_0, hfz11_1⟩ := c2_ BK263) | ((with_reducible refine gate_callee (f := 97) rfl ?_); refine gL_ (some 5) Try.func97 #[.agg #[.slice A0_0 l0_0.length c0_0, .slice A0_1 l0_1.length c0_1]] (h := ?_); (with_reducible refine (pend_May.calls k _ _ l0_0 _ _ l0_1 false _ ?side1 ?side2 ?side3 ?side4 A2.out).mono ?_); (case side1 => exact cb_ HR0_0 HB); (case side2 => exact HC0_0.out); (case side3 => exact cb_ HR0_1 HB); (case side4 => exact HC0_1.out); rintro e w12 ⟨rfl, hb⟩; refine ⟨_, rfl, ?_⟩; replace BK263 := mk0 (u_ BK263 hb); replace HB := mk0 (bt_ (b_ HB) hb); (try clear hb)))
  go_ret2
  exact ⟨_, by first | rfl | (simp [errW_none, errW_some] <;> rfl) | (simp [*, errW_none, errW_some] <;> rfl), by first | exact Kd.R_nil _ _ _ _ _ | exact Kd.N_nil _ _ _ _ _ | exact Kd.V_nil _ _ _ _ _ | exact Kd.Q_nil _ _ _ _ _ | exact Kd.S_nil _ _ _ _ _, b_ HB⟩

end Go.Proofs.Ytbaecdcfefmcgaa.PPnd
