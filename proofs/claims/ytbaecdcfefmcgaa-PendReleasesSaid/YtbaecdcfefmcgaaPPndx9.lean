-- PRINTED by print.py (a twelfth state) out of the translation. Not trusted: Lean checks it.
import Derived.Test.YtbaecdcfefmcgaaPPndx0
import Derived.Test.YtbaecdcfefmcgaaPPndx1
import Derived.Test.YtbaecdcfefmcgaaPPndx2
import Derived.Test.YtbaecdcfefmcgaaPPndx3
import Derived.Test.YtbaecdcfefmcgaaPPndx5
import Derived.Test.YtbaecdcfefmcgaaPPndx6
import Derived.Test.YtbaecdcfefmcgaaPPndx7
import Derived.Test.YtbaecdcfefmcgaaPPndx8
namespace Go.Proofs.Ytbaecdcfefmcgaa.PPnd
open Go.RowKit Go.Proofs.YtbaecdcfefmcgaaW.PrintWords Go.Proofs.YtbaecdcfefmcgaaW.PrintLast Go.Proofs.YtbaecdcfefmcgaaW.PrintMore
attribute [local go_sem] max2_int min2_int max_two min_two max_three min_three max_four min_four   -- for this text's walks alone
set_option linter.unusedVariables false
set_option linter.unusedSimpArgs false

attribute [local go_sem high] eqA36
/-! ### quorumlaw0_Pend: function 68 -/
def quorumlaw0_Pend.f (k : Nat) (l0_0 : List (S36)) (l0_1 : List Int) : Option ((List (S36)) × List Int) := (quorumlaw0_Writes.f k l0_0).bind fun t329 => ((quorumlaw0_Numbers.f k l0_1).bind fun t330 => (some (t329, t330)))
theorem quorumlaw0_Pend.mono : ∀ a0 a1 k, LeO (quorumlaw0_Pend.f k a0 a1) (quorumlaw0_Pend.f (k + 1) a0 a1) := by
 intro a0 a1 k
 unfold quorumlaw0_Pend.f
 repeat' first
   | (with_reducible exact quorumlaw0_Numbers.mono _ _)
   | (with_reducible exact quorumlaw0_Writes.mono _ _)
   | (with_reducible exact LeO.refl _)
   | (with_reducible exact LeO.none _)
   | (with_reducible refine LeO.ite ?_ ?_)
   | (with_reducible refine LeO.bind ?_ (fun _ => ?_))
   | exact quorumlaw0_Numbers.mono _ _
   | exact quorumlaw0_Writes.mono _ _
   | exact LeO.none _
   | refine LeO.ite ?_ ?_
   | refine LeO.bind ?_ (fun _ => ?_)
set_option maxHeartbeats 8000000 in
set_option maxRecDepth 100000 in
theorem quorumlaw0_Pend.calls (k : Nat) (P0_0_ : Nat → Prop) (u9000_ : Value) (l0_0 : List (S36)) (P0_1_ : Nat → Prop) (u9001_ : Value) (l0_1 : List Int) (r1 : List (S36)) (r2 : List Int) (w0 w : World) (hB : Below w0.heap.size w0 w) (ho0_0 : Kd.R k36 36 w w0.heap.size P0_0_ u9000_ l0_0) (ho0_1 : Kd.R (Kd.int .i64) 3 w w0.heap.size P0_1_ u9001_ l0_1) (h : quorumlaw0_Pend.f k l0_0 l0_1 = some (r1, r2)) :
  Calls Try.prog 68 #[.agg #[u9000_, u9001_]] w fun e w' => e = .returned (.tuple #[]) ∧ Kd.R k36 36 w' w0.heap.size (fun k_ => ((P0_0_ k_ ∨ P0_1_ k_) ∨ w.heap.size ≤ k_)) u9000_ r1 ∧ Kd.R (Kd.int .i64) 3 w' w0.heap.size (fun k_ => ((P0_0_ k_ ∨ P0_1_ k_) ∨ w.heap.size ≤ k_)) u9001_ r2 ∧ Below w0.heap.size w0 w' ∧ Kept w w' (fun k_ => P0_0_ k_ ∨ P0_1_ k_) := by
 have hu34 := Try.underlying34
 have HO0_0 := mk0 (show Kd.R k36 36 w w0.heap.size (fun k_ => ((P0_0_ k_ ∨ P0_1_ k_) ∨ w.heap.size ≤ k_)) u9000_ l0_0 from Kd.R_mono ho0_0 (fun k_ hk => (.inl (.inl hk))))
 have HO0_1 := mk0 (show Kd.R (Kd.int .i64) 3 w w0.heap.size (fun k_ => ((P0_0_ k_ ∨ P0_1_ k_) ∨ w.heap.size ≤ k_)) u9001_ l0_1 from Kd.R_mono ho0_1 (fun k_ hk => (.inl (.inr hk))))
 have HK := mk0 (Kept.refl w (fun k_ => P0_0_ k_ ∨ P0_1_ k_))
 have HW0 := mk0 hB.size
 have HB := mk0 hB
 clear hB
 have H : ((quorumlaw0_Writes.f k l0_0).bind fun t329 => ((quorumlaw0_Numbers.f k l0_1).bind fun t330 => (some (t329, t330)))) = some (r1, r2) := h
 clear h
 replace H := Option.bind_eq_some_iff.mp H
 obtain ⟨t329, A20, H⟩ := H
 try dsimp only at H
 have A2 := mk0 A20
 clear A20
 replace H := Option.bind_eq_some_iff.mp H
 obtain ⟨t330, A30, H⟩ := H
 try dsimp only at H
 have A3 := mk0 A30
 clear A30
 simp only [Option.some.injEq, Prod.mk.injEq] at H
 obtain ⟨rfl, rfl⟩ := H
 obtain ⟨Ao4, co4, eo4⟩ := Kd.R_slice HO0_0.out
 subst eo4
 obtain ⟨Ao5, co5, eo5⟩ := Kd.R_slice HO0_1.out
 subst eo5
 go_enter Try.func68, Try.ntmps68
 go_wp2_with (first | ((with_reducible refine gate_dst (N := 1) rfl ?_); refine bx_ (N := 1) (cs := #[.slice Ao4 l0_0.length co4, .slice Ao5 l0_1.length co5]) (t := 34) (h := ?_); intro gb328 hg w6 hbox hb; have n5_ := mk0 ((by rw [hg]; exact (by first | exact HK.out.1 | exact (show Kept w _ (fun k_ => P0_0_ k_ ∨ P0_1_ k_) from k_ HK).1) : w.heap.size ≤ gb328)); have n6_ := mk0 (gz_ HB hg); replace HO0_0 := mk0 (Kd.R_below (r_ HO0_0) hb); replace HO0_1 := mk0 (Kd.R_below (r_ HO0_1) hb); replace HK := mk0 (Kept.below (S := (fun k_ => P0_0_ k_ ∨ P0_1_ k_)) (k_ HK) hb); replace HB := mk0 (bt_ (b_ HB) hb); have BK328 := mk0 (hbox); have GW328 := n5_; have GE328 := n6_; clear n5_ n6_ hb hbox hg; obtain ⟨hcz7_0, hcz7_1, hfz7_0, hfz7_1⟩ := c2_ BK328) | ((with_reducible refine gate_callee (f := 117) rfl ?_); refine gL_ (some 4) Try.func117 #[.slice Ao4 l0_0.length co4] (h := ?_); (with_reducible refine (quorumlaw0_Writes.calls k (fun k_ => some k_ = (.slice Ao4 l0_0.length co4 : Value).ownBlock) (.slice Ao4 l0_0.length co4) l0_0 t329 w0 _ ?side1 ?side2 A2.out).mono ?_); (case side1 => repeat (first | (with_reducible first | exact HB.out | apply bL_ | apply pN_ | apply b1_ | refine bs_ ?_ GE328.out) | exact HB.out)); (case side2 => exact Kd.R_tight rfl HO0_0.out); rintro e w8 ⟨rfl, hy0, hb, hkp⟩; refine ⟨_, rfl, ?_⟩; have n1_ := mk0 (Kd.R_mono (ok' := fun k_ => ((P0_0_ k_ ∨ P0_1_ k_) ∨ w.heap.size ≤ k_)) (Kd.R_keptB ((Kd.R_apart' HO0_1.out (Kd.R_typed HO0_0.out) (by decide))) hkp (fun k_ hk_ hs_ => (hk_.2) hs_)) (fun k_ hk_ => hk_.1.1)); have n2_ := mk0 (blk_kept (h_ BK328) hkp (fun hs_ => (fun e_ => (Kd.R_ne HO0_0.out BK328.out (by decide)) e_) hs_)); have n3_ := mk0 (Kept.then_ (S := (fun k_ => P0_0_ k_ ∨ P0_1_ k_)) (k_ HK) hkp (fun k_ hs_ => (fun e_ => (HO0_0.out.1 k_ e_.symm)) hs_)); replace HO0_0 := mk0 (Kd.R_reok rfl hy0 (fun k_ e_ => HO0_0.out.1 k_ e_)); replace HB := mk0 (hb); clear HO0_1 BK328 HK; have HO0_1 := n1_; have BK328 := n2_; have HK := n3_; clear n1_ n2_ n3_; (try clear hb); (try clear hkp); (try clear hy0); obtain ⟨hcz9_0, hcz9_1, hfz9_0, hfz9_1⟩ := c2_ BK328) | ((with_reducible refine gate_callee (f := 118) rfl ?_); refine gL_ (some 7) Try.func118 #[.slice Ao5 l0_1.length co5] (h := ?_); (with_reducible refine (quorumlaw0_Numbers.calls k (fun k_ => some k_ = (.slice Ao5 l0_1.length co5 : Value).ownBlock) (.slice Ao5 l0_1.length co5) l0_1 t330 w0 _ ?side1 ?side2 A3.out).mono ?_); (case side1 => repeat (first | (with_reducible first | exact HB.out | apply bL_ | apply pN_ | apply b1_ | refine bs_ ?_ GE328.out) | exact HB.out)); (case side2 => exact Kd.R_tight rfl HO0_1.out); rintro e w10 ⟨rfl, hy0, hb, hkp⟩; refine ⟨_, rfl, ?_⟩; have n0_ := mk0 (Kd.R_mono (ok' := fun k_ => ((P0_0_ k_ ∨ P0_1_ k_) ∨ w.heap.size ≤ k_)) (Kd.R_keptB ((Kd.R_apart' HO0_0.out (Kd.R_typed HO0_1.out) (by decide))) hkp (fun k_ hk_ hs_ => (hk_.2) hs_)) (fun k_ hk_ => hk_.1.1)); have n2_ := mk0 (blk_kept (h_ BK328) hkp (fun hs_ => (fun e_ => (Kd.R_ne HO0_1.out BK328.out (by decide)) e_) hs_)); have n3_ := mk0 (Kept.then_ (S := (fun k_ => P0_0_ k_ ∨ P0_1_ k_)) (k_ HK) hkp (fun k_ hs_ => (fun e_ => (HO0_1.out.1 k_ e_.symm)) hs_)); replace HO0_1 := mk0 (Kd.R_reok rfl hy0 (fun k_ e_ => HO0_1.out.1 k_ e_)); replace HB := mk0 (hb); clear HO0_0 BK328 HK; have HO0_0 := n0_; have BK328 := n2_; have HK := n3_; clear n0_ n2_ n3_; (try clear hb); (try clear hkp); (try clear hy0)))
 first | go_end0 | ((try simp only [Exit.inBlock, Exit.then]); refine bodyPost_ret (results_none rfl _ _ _) rfl ?_)
 exact ⟨by first | rfl | (simp [errW_none, errW_some] <;> rfl) | (simp [*, errW_none, errW_some] <;> rfl), by (with_reducible repeat (first | apply Ra_ | apply Rn_ | apply Rd_)); exact HO0_0.out, by (with_reducible repeat (first | apply Ra_ | apply Rn_ | apply Rd_)); exact HO0_1.out, b_ HB, k_ HK⟩

/-! ### quorumlaw10_step: function 25 -/
mutual
def quorumlaw10_step.j5 : Nat → Bool → Int → Int → Int → Int → List (S36) → List Int → List (S36) → List Int → List (S36) → List Int → List (S36) → List Int → Option ((List (S36)) × List Int × Bool)
 | 0, _, _, _, _, _, _, _, _, _, _, _, _, _ => none
 | k + 1, x7, x8, x11, x12, x13, x332000, x332001, x341000, x341001, x343000, x343001, x344000, x344001 => (quorumlaw10_num.f x13).bind fun t431 => (if t431 = x8 then ((quorumref0_EqPend.f k x343000 x343001 x344000 x344001).bind fun t432 => (if t432 = true then (if x11 = x12 then ((quorumref0_EqPend.f k x341000 x341001 x332000 x332001).bind fun t433 => (if t433 = true then ((pend_Check.f k x341000 x341001).bind fun t434 => ((quorumlaw10_num.f t434).bind fun t435 => (quorumlaw10_step.j6 k x8 ((t435 == 0) != x7) x332000 x332001 x341000 x341001 x343000 x343001 x344000 x344001))) else (quorumlaw10_step.j6 k x8 true x332000 x332001 x341000 x341001 x343000 x343001 x344000 x344001))) else (quorumlaw10_step.j6 k x8 true x332000 x332001 x341000 x341001 x343000 x343001 x344000 x344001)) else (quorumlaw10_step.j6 k x8 true x332000 x332001 x341000 x341001 x343000 x343001 x344000 x344001))) else (quorumlaw10_step.j6 k x8 true x332000 x332001 x341000 x341001 x343000 x343001 x344000 x344001))
def quorumlaw10_step.j6 : Nat → Int → Bool → List (S36) → List Int → List (S36) → List Int → List (S36) → List Int → List (S36) → List Int → Option ((List (S36)) × List Int × Bool)
 | 0, _, _, _, _, _, _, _, _, _, _ => none
 | k + 1, x8, x209, x332000, x332001, x341000, x341001, x343000, x343001, x344000, x344001 => if x209 = true then (some (x332000, x332001, false)) else ((quorumlaw0_Pend.f k x343000 x343001).bind fun bt436 => ((quorumref0_EqPend.f k x341000 x341001 x332000 x332001).bind fun t438 => (if t438 = true then (if x8 = 0 then ((quorumref0_CopyPend.f k x344000 x344001).bind fun bt439 => (some (bt439.1, bt439.2, true))) else (some (x332000, x332001, true))) else (some (x332000, x332001, false)))))
def quorumlaw10_step.j0 : Nat → Bool → Int → Int → Int → Int → Bool → List (S36) → List Int → Int → Int → Int → ByteArray → ByteArray → Bool → List (S36) → List Int → Option ((List (S36)) × List Int × Bool)
 | 0, _, _, _, _, _, _, _, _, _, _, _, _, _, _, _, _ => none
 | k + 1, x7, x8, x11, x12, x29, x56, x332000, x332001, x333000, x333001, x333002, x333003, x333004, x333005, x341000, x341001 => if x56 = true then ((pend_Save.f k x341000 x341001).bind fun bt345 => (if x7 = true then ((quorumref8_Save.f k x332000 x332001).bind fun bt353 => (if bt353.2.2 = 0 then (quorumlaw10_step.j5 k x7 bt353.2.2 bt345.2.2.1 (x332001.length : Int) bt345.2.2.2 x332000 x332001 x341000 x341001 bt345.1 bt345.2.1 bt353.1 bt353.2.1) else (quorumlaw10_step.j5 k x7 bt353.2.2 bt345.2.2.1 x12 bt345.2.2.2 x332000 x332001 x341000 x341001 bt345.1 bt345.2.1 bt353.1 bt353.2.1))) else (quorumlaw10_step.j5 k x7 x8 bt345.2.2.1 x12 bt345.2.2.2 x332000 x332001 x341000 x341001 bt345.1 bt345.2.1 ([] : List (S36)) ([] : List Int)))) else (if x29 = 6 then (quorumlaw10_step.j1 k x7 x8 x11 x12 x29 (x29 == 6) x332000 x332001 x333000 x333001 x333002 x333003 x333004 x333005 x341000 x341001) else (quorumlaw10_step.j1 k x7 x8 x11 x12 x29 (x29 == 7) x332000 x332001 x333000 x333001 x333002 x333003 x333004 x333005 x341000 x341001))
def quorumlaw10_step.j1 : Nat → Bool → Int → Int → Int → Int → Bool → List (S36) → List Int → Int → Int → Int → ByteArray → ByteArray → Bool → List (S36) → List Int → Option ((List (S36)) × List Int × Bool)
 | 0, _, _, _, _, _, _, _, _, _, _, _, _, _, _, _, _ => none
 | k + 1, x7, x8, x11, x12, x29, x76, x332000, x332001, x333000, x333001, x333002, x333003, x333004, x333005, x341000, x341001 => if x76 = true then ((pend_Return.f k x341000 x341001 x333001).bind fun bt360 => (if x7 = true then ((quorumref8_Return.f k x332000 x332001 x333001).bind fun bt367 => (quorumlaw10_step.j5 k x7 bt367.2.2 x11 x12 bt360.2.2 x332000 x332001 x341000 x341001 bt360.1 bt360.2.1 bt367.1 bt367.2.1)) else (quorumlaw10_step.j5 k x7 x8 x11 x12 bt360.2.2 x332000 x332001 x341000 x341001 bt360.1 bt360.2.1 ([] : List (S36)) ([] : List Int)))) else (if x29 = 8 then ((pend_Release.f k x341000 x341001 x333001).bind fun bt374 => (if x7 = true then ((quorumref8_Release.f k x332000 x332001 x333001).bind fun bt381 => (quorumlaw10_step.j5 k x7 bt381.2.2 x11 x12 bt374.2.2 x332000 x332001 x341000 x341001 bt374.1 bt374.2.1 bt381.1 bt381.2.1)) else (quorumlaw10_step.j5 k x7 x8 x11 x12 bt374.2.2 x332000 x332001 x341000 x341001 bt374.1 bt374.2.1 ([] : List (S36)) ([] : List Int)))) else (if x29 = 9 then ((pend_Last.f k x341000 x341001 x333002 x333003).bind fun bt388 => ((pend_Sum.f k x341000 x341001).bind fun bt394 => (if x7 = true then ((quorumref8_Sum.f k x332000 x332001).bind fun t399 => ((quorumref0_Num.f x333002 2).bind fun t402 => (if t402 = true then ((quorumref1_Key.f x333003).bind fun t403 => (quorumlaw10_step.j2 k x8 bt388.2.2.2.2 bt394.1 bt394.2 0 t399 t403 x332000 x332001 x333000 x333001 x333002 x333003 x333004 x333005 x341000 x341001 bt388.1 bt388.2.1 bt388.2.2.1 bt388.2.2.2.1 0 (⟨#[]⟩ : ByteArray) (⟨#[]⟩ : ByteArray) false)) else (quorumlaw10_step.j2 k x8 bt388.2.2.2.2 bt394.1 bt394.2 0 t399 false x332000 x332001 x333000 x333001 x333002 x333003 x333004 x333005 x341000 x341001 bt388.1 bt388.2.1 bt388.2.2.1 bt388.2.2.2.1 0 (⟨#[]⟩ : ByteArray) (⟨#[]⟩ : ByteArray) false)))) else (quorumlaw10_step.j3 k x8 bt388.2.2.2.2 bt394.1 bt394.2 1 ([] : List (S36)) x332000 x332001 x341000 x341001 bt388.1 bt388.2.1 bt388.2.2.1 bt388.2.2.2.1 0 (⟨#[]⟩ : ByteArray) (⟨#[]⟩ : ByteArray) false)))) else ((pend_Put.f k x341000 x341001 x333002 x333003 x333004 x333005).bind fun bt414 => (if x7 = true then ((quorumref8_Write.f x333002 x333003 x333004 x333005).bind fun t421 => (quorumlaw10_step.j4 k x7 x8 x11 x12 bt414.2.2 t421 x332000 x332001 x333000 x333001 x333002 x333003 x333004 x333005 x341000 x341001 bt414.1 bt414.2.1)) else (quorumlaw10_step.j4 k x7 x8 x11 x12 bt414.2.2 false x332000 x332001 x333000 x333001 x333002 x333003 x333004 x333005 x341000 x341001 bt414.1 bt414.2.1)))))
def quorumlaw10_step.j3 : Nat → Int → Int → List (S36) → Int → Int → List (S36) → List (S36) → List Int → List (S36) → List Int → Int → ByteArray → ByteArray → Bool → Int → ByteArray → ByteArray → Bool → Option ((List (S36)) × List Int × Bool)
 | 0, _, _, _, _, _, _, _, _, _, _, _, _, _, _, _, _, _, _ => none
 | k + 1, x8, x15, x16, x17, x18, x20, x332000, x332001, x341000, x341001, x394000, x394001, x394002, x394003, x399000, x399001, x399002, x399003 => (quorumlaw10_num.f x15).bind fun t410 => (if t410 = x8 then (if (x394000 == x399000 && (x394001.toList == x399001.toList && (x394002.toList == x399002.toList && (x394003 == x399003)))) = true then ((quorumlaw10_num.f x17).bind fun t411 => (if t411 = x18 then ((quorumref0_EqWrites.f k x16 x20).bind fun t412 => (if t412 = true then ((quorumref0_EqPend.f k x341000 x341001 x332000 x332001).bind fun t413 => (some (x332000, x332001, t413))) else (some (x332000, x332001, false)))) else (some (x332000, x332001, false)))) else (some (x332000, x332001, false))) else (some (x332000, x332001, false)))
def quorumlaw10_step.j2 : Nat → Int → Int → List (S36) → Int → Int → List (S36) → Bool → List (S36) → List Int → Int → Int → Int → ByteArray → ByteArray → Bool → List (S36) → List Int → Int → ByteArray → ByteArray → Bool → Int → ByteArray → ByteArray → Bool → Option ((List (S36)) × List Int × Bool)
 | 0, _, _, _, _, _, _, _, _, _, _, _, _, _, _, _, _, _, _, _, _, _, _, _, _, _ => none
 | k + 1, x8, x15, x16, x17, x18, x20, x141, x332000, x332001, x333000, x333001, x333002, x333003, x333004, x333005, x341000, x341001, x394000, x394001, x394002, x394003, x399000, x399001, x399002, x399003 => if x141 = true then ((quorumref8_Last.f k x332000 x332001 x333002 x333003).bind fun bt404 => (if bt404.2.2.2.2 = true then (quorumlaw10_step.j3 k 0 x15 x16 x17 x18 x20 x332000 x332001 x341000 x341001 x394000 x394001 x394002 x394003 bt404.1 bt404.2.1 bt404.2.2.1 bt404.2.2.2.1) else (quorumlaw10_step.j3 k 3 x15 x16 x17 x18 x20 x332000 x332001 x341000 x341001 x394000 x394001 x394002 x394003 x399000 x399001 x399002 x399003))) else (quorumlaw10_step.j3 k x8 x15 x16 x17 x18 x20 x332000 x332001 x341000 x341001 x394000 x394001 x394002 x394003 x399000 x399001 x399002 x399003)
def quorumlaw10_step.j4 : Nat → Bool → Int → Int → Int → Int → Bool → List (S36) → List Int → Int → Int → Int → ByteArray → ByteArray → Bool → List (S36) → List Int → List (S36) → List Int → Option ((List (S36)) × List Int × Bool)
 | 0, _, _, _, _, _, _, _, _, _, _, _, _, _, _, _, _, _, _ => none
 | k + 1, x7, x8, x11, x12, x13, x42, x332000, x332001, x333000, x333001, x333002, x333003, x333004, x333005, x341000, x341001, x343000, x343001 => if x42 = true then (if (x332000.length : Int) < 12 then ((quorumref0_CopyPend.f k x332000 x332001).bind fun bt422 => (if bt422.1.length < 2932031007402 then (quorumlaw10_step.j5 k x7 0 x11 x12 x13 x332000 x332001 x341000 x341001 x343000 x343001 (bt422.1 ++ [(⟨x333002, x333003, x333004, x333005⟩ : S36)]) bt422.2) else (none))) else (quorumlaw10_step.j5 k x7 2 x11 x12 x13 x332000 x332001 x341000 x341001 x343000 x343001 ([] : List (S36)) ([] : List Int))) else (quorumlaw10_step.j5 k x7 x8 x11 x12 x13 x332000 x332001 x341000 x341001 x343000 x343001 ([] : List (S36)) ([] : List Int))
end
def quorumlaw10_step.f (k : Nat) (l0_0 : List (S36)) (l0_1 : List Int) (a1_0 : Int) (a1_1 : Int) (a1_2 : Int) (a1_3 : ByteArray) (a1_4 : ByteArray) (a1_5 : Bool) : Option ((List (S36)) × List Int × Bool) := (quorumref0_CopyPend.f k l0_0 l0_1).bind fun bt334 => ((quorumref8_Pend.f k l0_0 l0_1).bind fun t341 => ((quorumlaw0_Within.f a1_0 10).bind fun t344 => (if t344 = 4 then (quorumlaw10_step.j0 k t341 1 0 0 t344 (t344 == 4) l0_0 l0_1 a1_0 a1_1 a1_2 a1_3 a1_4 a1_5 bt334.1 bt334.2) else (quorumlaw10_step.j0 k t341 1 0 0 t344 (t344 == 5) l0_0 l0_1 a1_0 a1_1 a1_2 a1_3 a1_4 a1_5 bt334.1 bt334.2))))
theorem quorumlaw10_step.mono_l : ∀ k, (∀ y0 y1 y2 y3 y4 y5 y6 y7 y8 y9 y10 y11 y12, LeO (quorumlaw10_step.j5 k y0 y1 y2 y3 y4 y5 y6 y7 y8 y9 y10 y11 y12) (quorumlaw10_step.j5 (k + 1) y0 y1 y2 y3 y4 y5 y6 y7 y8 y9 y10 y11 y12)) ∧ (∀ y0 y1 y2 y3 y4 y5 y6 y7 y8 y9, LeO (quorumlaw10_step.j6 k y0 y1 y2 y3 y4 y5 y6 y7 y8 y9) (quorumlaw10_step.j6 (k + 1) y0 y1 y2 y3 y4 y5 y6 y7 y8 y9)) ∧ (∀ y0 y1 y2 y3 y4 y5 y6 y7 y8 y9 y10 y11 y12 y13 y14 y15, LeO (quorumlaw10_step.j0 k y0 y1 y2 y3 y4 y5 y6 y7 y8 y9 y10 y11 y12 y13 y14 y15) (quorumlaw10_step.j0 (k + 1) y0 y1 y2 y3 y4 y5 y6 y7 y8 y9 y10 y11 y12 y13 y14 y15)) ∧ (∀ y0 y1 y2 y3 y4 y5 y6 y7 y8 y9 y10 y11 y12 y13 y14 y15, LeO (quorumlaw10_step.j1 k y0 y1 y2 y3 y4 y5 y6 y7 y8 y9 y10 y11 y12 y13 y14 y15) (quorumlaw10_step.j1 (k + 1) y0 y1 y2 y3 y4 y5 y6 y7 y8 y9 y10 y11 y12 y13 y14 y15)) ∧ (∀ y0 y1 y2 y3 y4 y5 y6 y7 y8 y9 y10 y11 y12 y13 y14 y15 y16 y17, LeO (quorumlaw10_step.j3 k y0 y1 y2 y3 y4 y5 y6 y7 y8 y9 y10 y11 y12 y13 y14 y15 y16 y17) (quorumlaw10_step.j3 (k + 1) y0 y1 y2 y3 y4 y5 y6 y7 y8 y9 y10 y11 y12 y13 y14 y15 y16 y17)) ∧ (∀ y0 y1 y2 y3 y4 y5 y6 y7 y8 y9 y10 y11 y12 y13 y14 y15 y16 y17 y18 y19 y20 y21 y22 y23 y24, LeO (quorumlaw10_step.j2 k y0 y1 y2 y3 y4 y5 y6 y7 y8 y9 y10 y11 y12 y13 y14 y15 y16 y17 y18 y19 y20 y21 y22 y23 y24) (quorumlaw10_step.j2 (k + 1) y0 y1 y2 y3 y4 y5 y6 y7 y8 y9 y10 y11 y12 y13 y14 y15 y16 y17 y18 y19 y20 y21 y22 y23 y24)) ∧ (∀ y0 y1 y2 y3 y4 y5 y6 y7 y8 y9 y10 y11 y12 y13 y14 y15 y16 y17, LeO (quorumlaw10_step.j4 k y0 y1 y2 y3 y4 y5 y6 y7 y8 y9 y10 y11 y12 y13 y14 y15 y16 y17) (quorumlaw10_step.j4 (k + 1) y0 y1 y2 y3 y4 y5 y6 y7 y8 y9 y10 y11 y12 y13 y14 y15 y16 y17))
 | 0 => ⟨fun _ _ _ _ _ _ _ _ _ _ _ _ _ r h => by simp [quorumlaw10_step.j5] at h, fun _ _ _ _ _ _ _ _ _ _ r h => by simp [quorumlaw10_step.j6] at h, fun _ _ _ _ _ _ _ _ _ _ _ _ _ _ _ _ r h => by simp [quorumlaw10_step.j0] at h, fun _ _ _ _ _ _ _ _ _ _ _ _ _ _ _ _ r h => by simp [quorumlaw10_step.j1] at h, fun _ _ _ _ _ _ _ _ _ _ _ _ _ _ _ _ _ _ r h => by simp [quorumlaw10_step.j3] at h, fun _ _ _ _ _ _ _ _ _ _ _ _ _ _ _ _ _ _ _ _ _ _ _ _ _ r h => by simp [quorumlaw10_step.j2] at h, fun _ _ _ _ _ _ _ _ _ _ _ _ _ _ _ _ _ _ r h => by simp [quorumlaw10_step.j4] at h⟩
 | k + 1 => by
  obtain ⟨ih0, ih1, ih2, ih3, ih4, ih5, ih6⟩ := quorumlaw10_step.mono_l k
  refine ⟨?_, ?_, ?_, ?_, ?_, ?_, ?_⟩
  ·intro y0 y1 y2 y3 y4 y5 y6 y7 y8 y9 y10 y11 y12
   unfold quorumlaw10_step.j5
   repeat' first
   | (with_reducible exact ih0 _ _ _ _ _ _ _ _ _ _ _ _ _)
   | (with_reducible exact ih1 _ _ _ _ _ _ _ _ _ _)
   | (with_reducible exact ih2 _ _ _ _ _ _ _ _ _ _ _ _ _ _ _ _)
   | (with_reducible exact ih3 _ _ _ _ _ _ _ _ _ _ _ _ _ _ _ _)
   | (with_reducible exact ih4 _ _ _ _ _ _ _ _ _ _ _ _ _ _ _ _ _ _)
   | (with_reducible exact ih5 _ _ _ _ _ _ _ _ _ _ _ _ _ _ _ _ _ _ _ _ _ _ _ _ _)
   | (with_reducible exact ih6 _ _ _ _ _ _ _ _ _ _ _ _ _ _ _ _ _ _)
   | (with_reducible exact pend_Check.mono _ _ _)
   | (with_reducible exact pend_Last.mono _ _ _ _ _)
   | (with_reducible exact pend_Put.mono _ _ _ _ _ _ _)
   | (with_reducible exact pend_Release.mono _ _ _ _)
   | (with_reducible exact pend_Return.mono _ _ _ _)
   | (with_reducible exact pend_Save.mono _ _ _)
   | (with_reducible exact pend_Sum.mono _ _ _)
   | (with_reducible exact quorumlaw0_Pend.mono _ _ _)
   | (with_reducible exact quorumref0_CopyPend.mono _ _ _)
   | (with_reducible exact quorumref0_EqPend.mono _ _ _ _ _)
   | (with_reducible exact quorumref0_EqWrites.mono _ _ _)
   | (with_reducible exact quorumref8_Last.mono _ _ _ _ _)
   | (with_reducible exact quorumref8_Pend.mono _ _ _)
   | (with_reducible exact quorumref8_Release.mono _ _ _ _)
   | (with_reducible exact quorumref8_Return.mono _ _ _ _)
   | (with_reducible exact quorumref8_Save.mono _ _ _)
   | (with_reducible exact quorumref8_Sum.mono _ _ _)
   | (with_reducible exact LeO.refl _)
   | (with_reducible exact LeO.none _)
   | (with_reducible refine LeO.ite ?_ ?_)
   | (with_reducible refine LeO.bind ?_ (fun _ => ?_))
   | exact ih0 _ _ _ _ _ _ _ _ _ _ _ _ _
   | exact ih1 _ _ _ _ _ _ _ _ _ _
   | exact ih2 _ _ _ _ _ _ _ _ _ _ _ _ _ _ _ _
   | exact ih3 _ _ _ _ _ _ _ _ _ _ _ _ _ _ _ _
   | exact ih4 _ _ _ _ _ _ _ _ _ _ _ _ _ _ _ _ _ _
   | exact ih5 _ _ _ _ _ _ _ _ _ _ _ _ _ _ _ _ _ _ _ _ _ _ _ _ _
   | exact ih6 _ _ _ _ _ _ _ _ _ _ _ _ _ _ _ _ _ _
   | exact pend_Check.mono _ _ _
   | exact pend_Last.mono _ _ _ _ _
   | exact pend_Put.mono _ _ _ _ _ _ _
   | exact pend_Release.mono _ _ _ _
   | exact pend_Return.mono _ _ _ _
   | exact pend_Save.mono _ _ _
   | exact pend_Sum.mono _ _ _
   | exact quorumlaw0_Pend.mono _ _ _
   | exact quorumref0_CopyPend.mono _ _ _
   | exact quorumref0_EqPend.mono _ _ _ _ _
   | exact quorumref0_EqWrites.mono _ _ _
   | exact quorumref8_Last.mono _ _ _ _ _
   | exact quorumref8_Pend.mono _ _ _
   | exact quorumref8_Release.mono _ _ _ _
   | exact quorumref8_Return.mono _ _ _ _
   | exact quorumref8_Save.mono _ _ _
   | exact quorumref8_Sum.mono _ _ _
   | exact LeO.none _
   | refine LeO.ite ?_ ?_
   | refine LeO.bind ?_ (fun _ => ?_)
  ·intro y0 y1 y2 y3 y4 y5 y6 y7 y8 y9
   unfold quorumlaw10_step.j6
   repeat' first
   | (with_reducible exact ih0 _ _ _ _ _ _ _ _ _ _ _ _ _)
   | (with_reducible exact ih1 _ _ _ _ _ _ _ _ _ _)
   | (with_reducible exact ih2 _ _ _ _ _ _ _ _ _ _ _ _ _ _ _ _)
   | (with_reducible exact ih3 _ _ _ _ _ _ _ _ _ _ _ _ _ _ _ _)
   | (with_reducible exact ih4 _ _ _ _ _ _ _ _ _ _ _ _ _ _ _ _ _ _)
   | (with_reducible exact ih5 _ _ _ _ _ _ _ _ _ _ _ _ _ _ _ _ _ _ _ _ _ _ _ _ _)
   | (with_reducible exact ih6 _ _ _ _ _ _ _ _ _ _ _ _ _ _ _ _ _ _)
   | (with_reducible exact pend_Check.mono _ _ _)
   | (with_reducible exact pend_Last.mono _ _ _ _ _)
   | (with_reducible exact pend_Put.mono _ _ _ _ _ _ _)
   | (with_reducible exact pend_Release.mono _ _ _ _)
   | (with_reducible exact pend_Return.mono _ _ _ _)
   | (with_reducible exact pend_Save.mono _ _ _)
   | (with_reducible exact pend_Sum.mono _ _ _)
   | (with_reducible exact quorumlaw0_Pend.mono _ _ _)
   | (with_reducible exact quorumref0_CopyPend.mono _ _ _)
   | (with_reducible exact quorumref0_EqPend.mono _ _ _ _ _)
   | (with_reducible exact quorumref0_EqWrites.mono _ _ _)
   | (with_reducible exact quorumref8_Last.mono _ _ _ _ _)
   | (with_reducible exact quorumref8_Pend.mono _ _ _)
   | (with_reducible exact quorumref8_Release.mono _ _ _ _)
   | (with_reducible exact quorumref8_Return.mono _ _ _ _)
   | (with_reducible exact quorumref8_Save.mono _ _ _)
   | (with_reducible exact quorumref8_Sum.mono _ _ _)
   | (with_reducible exact LeO.refl _)
   | (with_reducible exact LeO.none _)
   | (with_reducible refine LeO.ite ?_ ?_)
   | (with_reducible refine LeO.bind ?_ (fun _ => ?_))
   | exact ih0 _ _ _ _ _ _ _ _ _ _ _ _ _
   | exact ih1 _ _ _ _ _ _ _ _ _ _
   | exact ih2 _ _ _ _ _ _ _ _ _ _ _ _ _ _ _ _
   | exact ih3 _ _ _ _ _ _ _ _ _ _ _ _ _ _ _ _
   | exact ih4 _ _ _ _ _ _ _ _ _ _ _ _ _ _ _ _ _ _
   | exact ih5 _ _ _ _ _ _ _ _ _ _ _ _ _ _ _ _ _ _ _ _ _ _ _ _ _
   | exact ih6 _ _ _ _ _ _ _ _ _ _ _ _ _ _ _ _ _ _
   | exact pend_Check.mono _ _ _
   | exact pend_Last.mono _ _ _ _ _
   | exact pend_Put.mono _ _ _ _ _ _ _
   | exact pend_Release.mono _ _ _ _
   | exact pend_Return.mono _ _ _ _
   | exact pend_Save.mono _ _ _
   | exact pend_Sum.mono _ _ _
   | exact quorumlaw0_Pend.mono _ _ _
   | exact quorumref0_CopyPend.mono _ _ _
   | exact quorumref0_EqPend.mono _ _ _ _ _
   | exact quorumref0_EqWrites.mono _ _ _
   | exact quorumref8_Last.mono _ _ _ _ _
   | exact quorumref8_Pend.mono _ _ _
   | exact quorumref8_Release.mono _ _ _ _
   | exact quorumref8_Return.mono _ _ _ _
   | exact quorumref8_Save.mono _ _ _
   | exact quorumref8_Sum.mono _ _ _
   | exact LeO.none _
   | refine LeO.ite ?_ ?_
   | refine LeO.bind ?_ (fun _ => ?_)
  ·intro y0 y1 y2 y3 y4 y5 y6 y7 y8 y9 y10 y11 y12 y13 y14 y15
   unfold quorumlaw10_step.j0
   repeat' first
   | (with_reducible exact ih0 _ _ _ _ _ _ _ _ _ _ _ _ _)
   | (with_reducible exact ih1 _ _ _ _ _ _ _ _ _ _)
   | (with_reducible exact ih2 _ _ _ _ _ _ _ _ _ _ _ _ _ _ _ _)
   | (with_reducible exact ih3 _ _ _ _ _ _ _ _ _ _ _ _ _ _ _ _)
   | (with_reducible exact ih4 _ _ _ _ _ _ _ _ _ _ _ _ _ _ _ _ _ _)
   | (with_reducible exact ih5 _ _ _ _ _ _ _ _ _ _ _ _ _ _ _ _ _ _ _ _ _ _ _ _ _)
   | (with_reducible exact ih6 _ _ _ _ _ _ _ _ _ _ _ _ _ _ _ _ _ _)
   | (with_reducible exact pend_Check.mono _ _ _)
   | (with_reducible exact pend_Last.mono _ _ _ _ _)
   | (with_reducible exact pend_Put.mono _ _ _ _ _ _ _)
   | (with_reducible exact pend_Release.mono _ _ _ _)
   | (with_reducible exact pend_Return.mono _ _ _ _)
   | (with_reducible exact pend_Save.mono _ _ _)
   | (with_reducible exact pend_Sum.mono _ _ _)
   | (with_reducible exact quorumlaw0_Pend.mono _ _ _)
   | (with_reducible exact quorumref0_CopyPend.mono _ _ _)
   | (with_reducible exact quorumref0_EqPend.mono _ _ _ _ _)
   | (with_reducible exact quorumref0_EqWrites.mono _ _ _)
   | (with_reducible exact quorumref8_Last.mono _ _ _ _ _)
   | (with_reducible exact quorumref8_Pend.mono _ _ _)
   | (with_reducible exact quorumref8_Release.mono _ _ _ _)
   | (with_reducible exact quorumref8_Return.mono _ _ _ _)
   | (with_reducible exact quorumref8_Save.mono _ _ _)
   | (with_reducible exact quorumref8_Sum.mono _ _ _)
   | (with_reducible exact LeO.refl _)
   | (with_reducible exact LeO.none _)
   | (with_reducible refine LeO.ite ?_ ?_)
   | (with_reducible refine LeO.bind ?_ (fun _ => ?_))
   | exact ih0 _ _ _ _ _ _ _ _ _ _ _ _ _
   | exact ih1 _ _ _ _ _ _ _ _ _ _
   | exact ih2 _ _ _ _ _ _ _ _ _ _ _ _ _ _ _ _
   | exact ih3 _ _ _ _ _ _ _ _ _ _ _ _ _ _ _ _
   | exact ih4 _ _ _ _ _ _ _ _ _ _ _ _ _ _ _ _ _ _
   | exact ih5 _ _ _ _ _ _ _ _ _ _ _ _ _ _ _ _ _ _ _ _ _ _ _ _ _
   | exact ih6 _ _ _ _ _ _ _ _ _ _ _ _ _ _ _ _ _ _
   | exact pend_Check.mono _ _ _
   | exact pend_Last.mono _ _ _ _ _
   | exact pend_Put.mono _ _ _ _ _ _ _
   | exact pend_Release.mono _ _ _ _
   | exact pend_Return.mono _ _ _ _
   | exact pend_Save.mono _ _ _
   | exact pend_Sum.mono _ _ _
   | exact quorumlaw0_Pend.mono _ _ _
   | exact quorumref0_CopyPend.mono _ _ _
   | exact quorumref0_EqPend.mono _ _ _ _ _
   | exact quorumref0_EqWrites.mono _ _ _
   | exact quorumref8_Last.mono _ _ _ _ _
   | exact quorumref8_Pend.mono _ _ _
   | exact quorumref8_Release.mono _ _ _ _
   | exact quorumref8_Return.mono _ _ _ _
   | exact quorumref8_Save.mono _ _ _
   | exact quorumref8_Sum.mono _ _ _
   | exact LeO.none _
   | refine LeO.ite ?_ ?_
   | refine LeO.bind ?_ (fun _ => ?_)
  ·intro y0 y1 y2 y3 y4 y5 y6 y7 y8 y9 y10 y11 y12 y13 y14 y15
   unfold quorumlaw10_step.j1
   repeat' first
   | (with_reducible exact ih0 _ _ _ _ _ _ _ _ _ _ _ _ _)
   | (with_reducible exact ih1 _ _ _ _ _ _ _ _ _ _)
   | (with_reducible exact ih2 _ _ _ _ _ _ _ _ _ _ _ _ _ _ _ _)
   | (with_reducible exact ih3 _ _ _ _ _ _ _ _ _ _ _ _ _ _ _ _)
   | (with_reducible exact ih4 _ _ _ _ _ _ _ _ _ _ _ _ _ _ _ _ _ _)
   | (with_reducible exact ih5 _ _ _ _ _ _ _ _ _ _ _ _ _ _ _ _ _ _ _ _ _ _ _ _ _)
   | (with_reducible exact ih6 _ _ _ _ _ _ _ _ _ _ _ _ _ _ _ _ _ _)
   | (with_reducible exact pend_Check.mono _ _ _)
   | (with_reducible exact pend_Last.mono _ _ _ _ _)
   | (with_reducible exact pend_Put.mono _ _ _ _ _ _ _)
   | (with_reducible exact pend_Release.mono _ _ _ _)
   | (with_reducible exact pend_Return.mono _ _ _ _)
   | (with_reducible exact pend_Save.mono _ _ _)
   | (with_reducible exact pend_Sum.mono _ _ _)
   | (with_reducible exact quorumlaw0_Pend.mono _ _ _)
   | (with_reducible exact quorumref0_CopyPend.mono _ _ _)
   | (with_reducible exact quorumref0_EqPend.mono _ _ _ _ _)
   | (with_reducible exact quorumref0_EqWrites.mono _ _ _)
   | (with_reducible exact quorumref8_Last.mono _ _ _ _ _)
   | (with_reducible exact quorumref8_Pend.mono _ _ _)
   | (with_reducible exact quorumref8_Release.mono _ _ _ _)
   | (with_reducible exact quorumref8_Return.mono _ _ _ _)
   | (with_reducible exact quorumref8_Save.mono _ _ _)
   | (with_reducible exact quorumref8_Sum.mono _ _ _)
   | (with_reducible exact LeO.refl _)
   | (with_reducible exact LeO.none _)
   | (with_reducible refine LeO.ite ?_ ?_)
   | (with_reducible refine LeO.bind ?_ (fun _ => ?_))
   | exact ih0 _ _ _ _ _ _ _ _ _ _ _ _ _
   | exact ih1 _ _ _ _ _ _ _ _ _ _
   | exact ih2 _ _ _ _ _ _ _ _ _ _ _ _ _ _ _ _
   | exact ih3 _ _ _ _ _ _ _ _ _ _ _ _ _ _ _ _
   | exact ih4 _ _ _ _ _ _ _ _ _ _ _ _ _ _ _ _ _ _
   | exact ih5 _ _ _ _ _ _ _ _ _ _ _ _ _ _ _ _ _ _ _ _ _ _ _ _ _
   | exact ih6 _ _ _ _ _ _ _ _ _ _ _ _ _ _ _ _ _ _
   | exact pend_Check.mono _ _ _
   | exact pend_Last.mono _ _ _ _ _
   | exact pend_Put.mono _ _ _ _ _ _ _
   | exact pend_Release.mono _ _ _ _
   | exact pend_Return.mono _ _ _ _
   | exact pend_Save.mono _ _ _
   | exact pend_Sum.mono _ _ _
   | exact quorumlaw0_Pend.mono _ _ _
   | exact quorumref0_CopyPend.mono _ _ _
   | exact quorumref0_EqPend.mono _ _ _ _ _
   | exact quorumref0_EqWrites.mono _ _ _
   | exact quorumref8_Last.mono _ _ _ _ _
   | exact quorumref8_Pend.mono _ _ _
   | exact quorumref8_Release.mono _ _ _ _
   | exact quorumref8_Return.mono _ _ _ _
   | exact quorumref8_Save.mono _ _ _
   | exact quorumref8_Sum.mono _ _ _
   | exact LeO.none _
   | refine LeO.ite ?_ ?_
   | refine LeO.bind ?_ (fun _ => ?_)
  ·intro y0 y1 y2 y3 y4 y5 y6 y7 y8 y9 y10 y11 y12 y13 y14 y15 y16 y17
   unfold quorumlaw10_step.j3
   repeat' first
   | (with_reducible exact ih0 _ _ _ _ _ _ _ _ _ _ _ _ _)
   | (with_reducible exact ih1 _ _ _ _ _ _ _ _ _ _)
   | (with_reducible exact ih2 _ _ _ _ _ _ _ _ _ _ _ _ _ _ _ _)
   | (with_reducible exact ih3 _ _ _ _ _ _ _ _ _ _ _ _ _ _ _ _)
   | (with_reducible exact ih4 _ _ _ _ _ _ _ _ _ _ _ _ _ _ _ _ _ _)
   | (with_reducible exact ih5 _ _ _ _ _ _ _ _ _ _ _ _ _ _ _ _ _ _ _ _ _ _ _ _ _)
   | (with_reducible exact ih6 _ _ _ _ _ _ _ _ _ _ _ _ _ _ _ _ _ _)
   | (with_reducible exact pend_Check.mono _ _ _)
   | (with_reducible exact pend_Last.mono _ _ _ _ _)
   | (with_reducible exact pend_Put.mono _ _ _ _ _ _ _)
   | (with_reducible exact pend_Release.mono _ _ _ _)
   | (with_reducible exact pend_Return.mono _ _ _ _)
   | (with_reducible exact pend_Save.mono _ _ _)
   | (with_reducible exact pend_Sum.mono _ _ _)
   | (with_reducible exact quorumlaw0_Pend.mono _ _ _)
   | (with_reducible exact quorumref0_CopyPend.mono _ _ _)
   | (with_reducible exact quorumref0_EqPend.mono _ _ _ _ _)
   | (with_reducible exact quorumref0_EqWrites.mono _ _ _)
   | (with_reducible exact quorumref8_Last.mono _ _ _ _ _)
   | (with_reducible exact quorumref8_Pend.mono _ _ _)
   | (with_reducible exact quorumref8_Release.mono _ _ _ _)
   | (with_reducible exact quorumref8_Return.mono _ _ _ _)
   | (with_reducible exact quorumref8_Save.mono _ _ _)
   | (with_reducible exact quorumref8_Sum.mono _ _ _)
   | (with_reducible exact LeO.refl _)
   | (with_reducible exact LeO.none _)
   | (with_reducible refine LeO.ite ?_ ?_)
   | (with_reducible refine LeO.bind ?_ (fun _ => ?_))
   | exact ih0 _ _ _ _ _ _ _ _ _ _ _ _ _
   | exact ih1 _ _ _ _ _ _ _ _ _ _
   | exact ih2 _ _ _ _ _ _ _ _ _ _ _ _ _ _ _ _
   | exact ih3 _ _ _ _ _ _ _ _ _ _ _ _ _ _ _ _
   | exact ih4 _ _ _ _ _ _ _ _ _ _ _ _ _ _ _ _ _ _
   | exact ih5 _ _ _ _ _ _ _ _ _ _ _ _ _ _ _ _ _ _ _ _ _ _ _ _ _
   | exact ih6 _ _ _ _ _ _ _ _ _ _ _ _ _ _ _ _ _ _
   | exact pend_Check.mono _ _ _
   | exact pend_Last.mono _ _ _ _ _
   | exact pend_Put.mono _ _ _ _ _ _ _
   | exact pend_Release.mono _ _ _ _
   | exact pend_Return.mono _ _ _ _
   | exact pend_Save.mono _ _ _
   | exact pend_Sum.mono _ _ _
   | exact quorumlaw0_Pend.mono _ _ _
   | exact quorumref0_CopyPend.mono _ _ _
   | exact quorumref0_EqPend.mono _ _ _ _ _
   | exact quorumref0_EqWrites.mono _ _ _
   | exact quorumref8_Last.mono _ _ _ _ _
   | exact quorumref8_Pend.mono _ _ _
   | exact quorumref8_Release.mono _ _ _ _
   | exact quorumref8_Return.mono _ _ _ _
   | exact quorumref8_Save.mono _ _ _
   | exact quorumref8_Sum.mono _ _ _
   | exact LeO.none _
   | refine LeO.ite ?_ ?_
   | refine LeO.bind ?_ (fun _ => ?_)
  ·intro y0 y1 y2 y3 y4 y5 y6 y7 y8 y9 y10 y11 y12 y13 y14 y15 y16 y17 y18 y19 y20 y21 y22 y23 y24
   unfold quorumlaw10_step.j2
   repeat' first
   | (with_reducible exact ih0 _ _ _ _ _ _ _ _ _ _ _ _ _)
   | (with_reducible exact ih1 _ _ _ _ _ _ _ _ _ _)
   | (with_reducible exact ih2 _ _ _ _ _ _ _ _ _ _ _ _ _ _ _ _)
   | (with_reducible exact ih3 _ _ _ _ _ _ _ _ _ _ _ _ _ _ _ _)
   | (with_reducible exact ih4 _ _ _ _ _ _ _ _ _ _ _ _ _ _ _ _ _ _)
   | (with_reducible exact ih5 _ _ _ _ _ _ _ _ _ _ _ _ _ _ _ _ _ _ _ _ _ _ _ _ _)
   | (with_reducible exact ih6 _ _ _ _ _ _ _ _ _ _ _ _ _ _ _ _ _ _)
   | (with_reducible exact pend_Check.mono _ _ _)
   | (with_reducible exact pend_Last.mono _ _ _ _ _)
   | (with_reducible exact pend_Put.mono _ _ _ _ _ _ _)
   | (with_reducible exact pend_Release.mono _ _ _ _)
   | (with_reducible exact pend_Return.mono _ _ _ _)
   | (with_reducible exact pend_Save.mono _ _ _)
   | (with_reducible exact pend_Sum.mono _ _ _)
   | (with_reducible exact quorumlaw0_Pend.mono _ _ _)
   | (with_reducible exact quorumref0_CopyPend.mono _ _ _)
   | (with_reducible exact quorumref0_EqPend.mono _ _ _ _ _)
   | (with_reducible exact quorumref0_EqWrites.mono _ _ _)
   | (with_reducible exact quorumref8_Last.mono _ _ _ _ _)
   | (with_reducible exact quorumref8_Pend.mono _ _ _)
   | (with_reducible exact quorumref8_Release.mono _ _ _ _)
   | (with_reducible exact quorumref8_Return.mono _ _ _ _)
   | (with_reducible exact quorumref8_Save.mono _ _ _)
   | (with_reducible exact quorumref8_Sum.mono _ _ _)
   | (with_reducible exact LeO.refl _)
   | (with_reducible exact LeO.none _)
   | (with_reducible refine LeO.ite ?_ ?_)
   | (with_reducible refine LeO.bind ?_ (fun _ => ?_))
   | exact ih0 _ _ _ _ _ _ _ _ _ _ _ _ _
   | exact ih1 _ _ _ _ _ _ _ _ _ _
   | exact ih2 _ _ _ _ _ _ _ _ _ _ _ _ _ _ _ _
   | exact ih3 _ _ _ _ _ _ _ _ _ _ _ _ _ _ _ _
   | exact ih4 _ _ _ _ _ _ _ _ _ _ _ _ _ _ _ _ _ _
   | exact ih5 _ _ _ _ _ _ _ _ _ _ _ _ _ _ _ _ _ _ _ _ _ _ _ _ _
   | exact ih6 _ _ _ _ _ _ _ _ _ _ _ _ _ _ _ _ _ _
   | exact pend_Check.mono _ _ _
   | exact pend_Last.mono _ _ _ _ _
   | exact pend_Put.mono _ _ _ _ _ _ _
   | exact pend_Release.mono _ _ _ _
   | exact pend_Return.mono _ _ _ _
   | exact pend_Save.mono _ _ _
   | exact pend_Sum.mono _ _ _
   | exact quorumlaw0_Pend.mono _ _ _
   | exact quorumref0_CopyPend.mono _ _ _
   | exact quorumref0_EqPend.mono _ _ _ _ _
   | exact quorumref0_EqWrites.mono _ _ _
   | exact quorumref8_Last.mono _ _ _ _ _
   | exact quorumref8_Pend.mono _ _ _
   | exact quorumref8_Release.mono _ _ _ _
   | exact quorumref8_Return.mono _ _ _ _
   | exact quorumref8_Save.mono _ _ _
   | exact quorumref8_Sum.mono _ _ _
   | exact LeO.none _
   | refine LeO.ite ?_ ?_
   | refine LeO.bind ?_ (fun _ => ?_)
  ·intro y0 y1 y2 y3 y4 y5 y6 y7 y8 y9 y10 y11 y12 y13 y14 y15 y16 y17
   unfold quorumlaw10_step.j4
   repeat' first
   | (with_reducible exact ih0 _ _ _ _ _ _ _ _ _ _ _ _ _)
   | (with_reducible exact ih1 _ _ _ _ _ _ _ _ _ _)
   | (with_reducible exact ih2 _ _ _ _ _ _ _ _ _ _ _ _ _ _ _ _)
   | (with_reducible exact ih3 _ _ _ _ _ _ _ _ _ _ _ _ _ _ _ _)
   | (with_reducible exact ih4 _ _ _ _ _ _ _ _ _ _ _ _ _ _ _ _ _ _)
   | (with_reducible exact ih5 _ _ _ _ _ _ _ _ _ _ _ _ _ _ _ _ _ _ _ _ _ _ _ _ _)
   | (with_reducible exact ih6 _ _ _ _ _ _ _ _ _ _ _ _ _ _ _ _ _ _)
   | (with_reducible exact pend_Check.mono _ _ _)
   | (with_reducible exact pend_Last.mono _ _ _ _ _)
   | (with_reducible exact pend_Put.mono _ _ _ _ _ _ _)
   | (with_reducible exact pend_Release.mono _ _ _ _)
   | (with_reducible exact pend_Return.mono _ _ _ _)
   | (with_reducible exact pend_Save.mono _ _ _)
   | (with_reducible exact pend_Sum.mono _ _ _)
   | (with_reducible exact quorumlaw0_Pend.mono _ _ _)
   | (with_reducible exact quorumref0_CopyPend.mono _ _ _)
   | (with_reducible exact quorumref0_EqPend.mono _ _ _ _ _)
   | (with_reducible exact quorumref0_EqWrites.mono _ _ _)
   | (with_reducible exact quorumref8_Last.mono _ _ _ _ _)
   | (with_reducible exact quorumref8_Pend.mono _ _ _)
   | (with_reducible exact quorumref8_Release.mono _ _ _ _)
   | (with_reducible exact quorumref8_Return.mono _ _ _ _)
   | (with_reducible exact quorumref8_Save.mono _ _ _)
   | (with_reducible exact quorumref8_Sum.mono _ _ _)
   | (with_reducible exact LeO.refl _)
   | (with_reducible exact LeO.none _)
   | (with_reducible refine LeO.ite ?_ ?_)
   | (with_reducible refine LeO.bind ?_ (fun _ => ?_))
   | exact ih0 _ _ _ _ _ _ _ _ _ _ _ _ _
   | exact ih1 _ _ _ _ _ _ _ _ _ _
   | exact ih2 _ _ _ _ _ _ _ _ _ _ _ _ _ _ _ _
   | exact ih3 _ _ _ _ _ _ _ _ _ _ _ _ _ _ _ _
   | exact ih4 _ _ _ _ _ _ _ _ _ _ _ _ _ _ _ _ _ _
   | exact ih5 _ _ _ _ _ _ _ _ _ _ _ _ _ _ _ _ _ _ _ _ _ _ _ _ _
   | exact ih6 _ _ _ _ _ _ _ _ _ _ _ _ _ _ _ _ _ _
   | exact pend_Check.mono _ _ _
   | exact pend_Last.mono _ _ _ _ _
   | exact pend_Put.mono _ _ _ _ _ _ _
   | exact pend_Release.mono _ _ _ _
   | exact pend_Return.mono _ _ _ _
   | exact pend_Save.mono _ _ _
   | exact pend_Sum.mono _ _ _
   | exact quorumlaw0_Pend.mono _ _ _
   | exact quorumref0_CopyPend.mono _ _ _
   | exact quorumref0_EqPend.mono _ _ _ _ _
   | exact quorumref0_EqWrites.mono _ _ _
   | exact quorumref8_Last.mono _ _ _ _ _
   | exact quorumref8_Pend.mono _ _ _
   | exact quorumref8_Release.mono _ _ _ _
   | exact quorumref8_Return.mono _ _ _ _
   | exact quorumref8_Save.mono _ _ _
   | exact quorumref8_Sum.mono _ _ _
   | exact LeO.none _
   | refine LeO.ite ?_ ?_
   | refine LeO.bind ?_ (fun _ => ?_)
theorem quorumlaw10_step.mono : ∀ a0 a1 a2 a3 a4 a5 a6 a7 k, LeO (quorumlaw10_step.f k a0 a1 a2 a3 a4 a5 a6 a7) (quorumlaw10_step.f (k + 1) a0 a1 a2 a3 a4 a5 a6 a7) := by
 intro a0 a1 a2 a3 a4 a5 a6 a7 k
 obtain ⟨ih0, ih1, ih2, ih3, ih4, ih5, ih6⟩ := quorumlaw10_step.mono_l k
 unfold quorumlaw10_step.f
 repeat' first
   | (with_reducible exact ih0 _ _ _ _ _ _ _ _ _ _ _ _ _)
   | (with_reducible exact ih1 _ _ _ _ _ _ _ _ _ _)
   | (with_reducible exact ih2 _ _ _ _ _ _ _ _ _ _ _ _ _ _ _ _)
   | (with_reducible exact ih3 _ _ _ _ _ _ _ _ _ _ _ _ _ _ _ _)
   | (with_reducible exact ih4 _ _ _ _ _ _ _ _ _ _ _ _ _ _ _ _ _ _)
   | (with_reducible exact ih5 _ _ _ _ _ _ _ _ _ _ _ _ _ _ _ _ _ _ _ _ _ _ _ _ _)
   | (with_reducible exact ih6 _ _ _ _ _ _ _ _ _ _ _ _ _ _ _ _ _ _)
   | (with_reducible exact pend_Check.mono _ _ _)
   | (with_reducible exact pend_Last.mono _ _ _ _ _)
   | (with_reducible exact pend_Put.mono _ _ _ _ _ _ _)
   | (with_reducible exact pend_Release.mono _ _ _ _)
   | (with_reducible exact pend_Return.mono _ _ _ _)
   | (with_reducible exact pend_Save.mono _ _ _)
   | (with_reducible exact pend_Sum.mono _ _ _)
   | (with_reducible exact quorumlaw0_Pend.mono _ _ _)
   | (with_reducible exact quorumref0_CopyPend.mono _ _ _)
   | (with_reducible exact quorumref0_EqPend.mono _ _ _ _ _)
   | (with_reducible exact quorumref0_EqWrites.mono _ _ _)
   | (with_reducible exact quorumref8_Last.mono _ _ _ _ _)
   | (with_reducible exact quorumref8_Pend.mono _ _ _)
   | (with_reducible exact quorumref8_Release.mono _ _ _ _)
   | (with_reducible exact quorumref8_Return.mono _ _ _ _)
   | (with_reducible exact quorumref8_Save.mono _ _ _)
   | (with_reducible exact quorumref8_Sum.mono _ _ _)
   | (with_reducible exact LeO.refl _)
   | (with_reducible exact LeO.none _)
   | (with_reducible refine LeO.ite ?_ ?_)
   | (with_reducible refine LeO.bind ?_ (fun _ => ?_))
   | exact ih0 _ _ _ _ _ _ _ _ _ _ _ _ _
   | exact ih1 _ _ _ _ _ _ _ _ _ _
   | exact ih2 _ _ _ _ _ _ _ _ _ _ _ _ _ _ _ _
   | exact ih3 _ _ _ _ _ _ _ _ _ _ _ _ _ _ _ _
   | exact ih4 _ _ _ _ _ _ _ _ _ _ _ _ _ _ _ _ _ _
   | exact ih5 _ _ _ _ _ _ _ _ _ _ _ _ _ _ _ _ _ _ _ _ _ _ _ _ _
   | exact ih6 _ _ _ _ _ _ _ _ _ _ _ _ _ _ _ _ _ _
   | exact pend_Check.mono _ _ _
   | exact pend_Last.mono _ _ _ _ _
   | exact pend_Put.mono _ _ _ _ _ _ _
   | exact pend_Release.mono _ _ _ _
   | exact pend_Return.mono _ _ _ _
   | exact pend_Save.mono _ _ _
   | exact pend_Sum.mono _ _ _
   | exact quorumlaw0_Pend.mono _ _ _
   | exact quorumref0_CopyPend.mono _ _ _
   | exact quorumref0_EqPend.mono _ _ _ _ _
   | exact quorumref0_EqWrites.mono _ _ _
   | exact quorumref8_Last.mono _ _ _ _ _
   | exact quorumref8_Pend.mono _ _ _
   | exact quorumref8_Release.mono _ _ _ _
   | exact quorumref8_Return.mono _ _ _ _
   | exact quorumref8_Save.mono _ _ _
   | exact quorumref8_Sum.mono _ _ _
   | exact LeO.none _
   | refine LeO.ite ?_ ?_
   | refine LeO.bind ?_ (fun _ => ?_)
def quorumlaw10_step.T44 : Bool × List (List Nat × List Nat) := (true, [([], []), ([], []), ([1], [1]), ([], []), ([2, 3], [2, 3]), ([4, 2], [4]), ([5], [5]), ([5], [5]), ([6, 7, 5], [5, 6, 7]), ([5, 8], [5, 8]), ([9, 5], [9]), ([10], [10]), ([11, 10, 10], [10, 11]), ([10], [10]), ([12, 13, 10], [10, 12, 13]), ([10, 14], [10, 14]), ([15, 12], [15]), ([16], [16]), ([16], [16]), ([17, 18, 16, 16], [16, 17, 18]), ([16, 19], [16, 19]), ([20, 19], [20]), ([21], [21]), ([21], [21]), ([22, 23, 21, 21], [21, 22, 23]), ([21, 24], [21, 24]), ([0, 24, 0], [0]), ([25, 26, 0, 1, 2, 3, 4, 5, 6, 7, 8, 9, 10, 11, 12, 13, 14, 15, 16, 17, 18, 19, 20, 21, 22, 23, 24, 25, 26], [25])])
def quorumlaw10_step.B44 : List Nat := [0, 0, 2, 0, 14, 30, 62, 62, 254, 510, 1022, 2046, 4094, 2046, 16382, 32766, 65534, 131070, 131070, 524286, 1048574, 2097150, 4194302, 4194302, 16777214, 33554430, 33554431, 134217727]
theorem quorumlaw10_step.tab44 : rtab .any (opsOf Try.f25 44) = quorumlaw10_step.T44 := by kernel_rfl
theorem quorumlaw10_step.bits44 : waitsOk quorumlaw10_step.T44.2 quorumlaw10_step.B44 = true := by kernel_rfl

end Go.Proofs.Ytbaecdcfefmcgaa.PPnd
