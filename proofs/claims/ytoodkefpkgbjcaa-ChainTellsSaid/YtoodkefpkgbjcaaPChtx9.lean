-- PRINTED by print.py (a twelfth state) out of the translation. Not trusted: Lean checks it.
import Derived.Test.YtoodkefpkgbjcaaPChtx0
import Derived.Test.YtoodkefpkgbjcaaPChtx1
import Derived.Test.YtoodkefpkgbjcaaPChtx2
import Derived.Test.YtoodkefpkgbjcaaPChtx3
import Derived.Test.YtoodkefpkgbjcaaPChtx4
import Derived.Test.YtoodkefpkgbjcaaPChtx5
import Derived.Test.YtoodkefpkgbjcaaPChtx6
import Derived.Test.YtoodkefpkgbjcaaPChtx7
import Derived.Test.YtoodkefpkgbjcaaPChtx8
namespace Go.Proofs.Ytoodkefpkgbjcaa.PCht
open Go.RowKit Go.Proofs.YtoodkefpkgbjcaaW.PrintWords Go.Proofs.YtoodkefpkgbjcaaW.PrintLast Go.Proofs.YtoodkefpkgbjcaaW.PrintMore
attribute [local go_sem] max2_int min2_int max_two min_two max_three min_three max_four min_four   -- for this text's walks alone
set_option linter.unusedVariables false
set_option linter.unusedSimpArgs false

attribute [local go_sem high] eqA39
/-! ### quorumlaw8_ChainTells: function 3 -/
set_option maxHeartbeats 8000000 in
set_option maxRecDepth 100000 in
theorem quorumlaw8_ChainTells.calls (k : Nat) (A0_0 : Option Addr) (c0_0 : Nat) (ai : List (S30)) (A0_1 : Option Addr) (c0_1 : Nat) (ah : List (S39)) (A0_2 : Option Addr) (c0_2 : Nat) (aE : List Int) (A0_3 : Option Addr) (c0_3 : Nat) (ay : List ByteArray) (r : Bool) (w : World) (hr0_0 : Kd.C k30 w A0_0 ai.length ai) (hc0_0 : ai.length ≤ c0_0) (hr0_1 : Kd.C k39 w A0_1 ah.length ah) (hc0_1 : ah.length ≤ c0_1) (hr0_2 : Kd.C (Kd.int .i64) w A0_2 aE.length aE) (hc0_2 : aE.length ≤ c0_2) (hr0_3 : Kd.C Kd.string w A0_3 ay.length ay) (hc0_3 : ay.length ≤ c0_3) (h : quorumlaw8_ChainTells.f k ai ah aE ay = some r) :
  Calls Try.prog 3 #[.agg #[.slice A0_0 ai.length c0_0, .slice A0_1 ah.length c0_1, .slice A0_2 aE.length c0_2, .slice A0_3 ay.length c0_3]] w fun e w' => e = .returned (.bool r) ∧ Below w.heap.size w w' := by
 have hu27 := Try.underlying27
 have hu30 := Try.underlying30
 have hu39 := Try.underlying39
 have dr := mk0 hr0_0
 have lX := mk0 hc0_0
 clear hr0_0 hc0_0
 have gK := mk0 hr0_1
 have lY := mk0 hc0_1
 clear hr0_1 hc0_1
 have kG := mk0 hr0_2
 have lZ := mk0 hc0_2
 clear hr0_2 hc0_2
 have iq := mk0 hr0_3
 have ma := mk0 hc0_3
 clear hr0_3 hc0_3
 have HB := mk0 (Below.refl w.heap.size w)
 have H : ((quorumlaw8_Heavy.f k ai ah aE ay).bind fun mA => (if mA = true then (some true) else ((some (([0, 1, 5, 1073741824, (-1)] : List Int) : List Int)).bind fun je => (if je.length + aE.length < 17592186044416 then (quorumlaw8_ChainTells.l0 k (je ++ aE) 0 ai ah aE ay) else (none))))) = some r := h
 clear h
 replace H := Option.bind_eq_some_iff.mp H
 obtain ⟨mA, A20, H⟩ := H
 try dsimp only at H
 have A2 := mk0 A20
 clear A20
 by_cases c3 : mA = true
 ·subst c3
  rw [if_pos rfl] at H
  obtain rfl := Option.some.inj H
  go_enter Try.func3, Try.ntmps3
  go_wp2_with (first | ((with_reducible refine gate_dst (N := 1) rfl ?_); refine bx_ (N := 1) (cs := #[.slice A0_0 ai.length c0_0, .slice A0_1 ah.length c0_1, .slice A0_2 aE.length c0_2, .slice A0_3 ay.length c0_3]) (t := 27) (h := ?_); intro af hg w4 hbox hb; have n2_ := mk0 (gz_ HB hg); have n3_ := mk0 (gz_ HB hg); replace HB := mk0 (bt_ (b_ HB) hb); have ab := mk0 (hbox); have ng := n2_; have nh := n3_; clear n2_ n3_ hb hbox hg; obtain ⟨gi, gj, gl, gm, gn, gp, gq, gr⟩ := c4_ ab) | ((with_reducible refine gate_callee (f := 15) rfl ?_); refine gL_ (some 34) Try.func15 #[.agg #[.slice A0_0 ai.length c0_0, .slice A0_1 ah.length c0_1, .slice A0_2 aE.length c0_2, .slice A0_3 ay.length c0_3]] (h := ?_); (with_reducible refine (quorumlaw8_Heavy.calls k _ _ ai _ _ ah _ _ aE _ _ ay true _ ?side1 ?side2 ?side3 ?side4 ?side5 ?side6 ?side7 ?side8 A2.out).mono ?_); (case side1 => exact cb_ dr HB); (case side2 => exact lX.out); (case side3 => exact cb_ gK HB); (case side4 => exact lY.out); (case side5 => exact cb_ kG HB); (case side6 => exact lZ.out); (case side7 => exact cb_ iq HB); (case side8 => exact ma.out); rintro e w6 ⟨rfl, hb⟩; refine ⟨_, rfl, ?_⟩; replace ab := mk0 (u_ ab hb); replace HB := mk0 (bt_ (b_ HB) hb); (try clear hb)))
  go_ret
  exact ⟨by first | rfl | (simp [errW_none, errW_some] <;> rfl) | (simp [*, errW_none, errW_some] <;> rfl), b_ HB⟩
 replace c3 := Bool.eq_false_iff.mpr c3
 subst c3
 rw [if_neg (show ¬ (false = true) by decide)] at H
 obtain ⟨je, hy271⟩ : ∃ y_ : List Int, y_ = (([0, 1, 5, 1073741824, (-1)] : List Int)) := ⟨_, rfl⟩
 replace H : (if je.length + aE.length < 17592186044416 then (quorumlaw8_ChainTells.l0 k (je ++ aE) 0 ai ah aE ay) else (none)) = some r := by first | (rw [hy271]; with_reducible exact H) | (have H2_ := (Option.bind_some _ _).symm.trans H; rw [hy271]; with_reducible exact H2_) | (have H2_ := (Option.bind_some _ _).symm.trans H; with_reducible exact H2_) | with_reducible exact H | (rw [hy271]; exact H) | exact H
 have Ny271 := mk0 hy271
 clear hy271
 by_cases c7 : je.length + aE.length < 17592186044416
 rotate_left
 ·rw [if_neg c7] at H
  exact absurd H (by simp)
 rw [if_pos c7] at H
 have LMc7 := mk0 c7
 clear c7
 obtain ⟨aK, hy274⟩ : ∃ y_ : List Int, y_ = (je ++ aE) := ⟨_, rfl⟩
 replace H : (quorumlaw8_ChainTells.l0 k aK 0 ai ah aE ay) = some r := by first | (rw [hy274]; with_reducible exact H) | (have H2_ := (Option.bind_some _ _).symm.trans H; rw [hy274]; with_reducible exact H2_) | (have H2_ := (Option.bind_some _ _).symm.trans H; with_reducible exact H2_) | with_reducible exact H | (rw [hy274]; exact H) | exact H
 have Ny274 := mk0 hy274
 clear hy274
 have H' := mk0 H
 clear H
 go_enter Try.func3, Try.ntmps3
 go_wp2_with (first | ((with_reducible refine gate_dst (N := 1) rfl ?_); refine bx_ (N := 1) (cs := #[.slice A0_0 ai.length c0_0, .slice A0_1 ah.length c0_1, .slice A0_2 aE.length c0_2, .slice A0_3 ay.length c0_3]) (t := 27) (h := ?_); intro af hg w8 hbox hb; have n2_ := mk0 (gz_ HB hg); have n3_ := mk0 (gz_ HB hg); replace HB := mk0 (bt_ (b_ HB) hb); have ab := mk0 (hbox); have ng := n2_; have nh := n3_; clear n2_ n3_ hb hbox hg; obtain ⟨gs, gu, gv, gw, gx, gy, gz, gA⟩ := c4_ ab) | ((with_reducible refine gate_callee (f := 15) rfl ?_); refine gL_ (some 34) Try.func15 #[.agg #[.slice A0_0 ai.length c0_0, .slice A0_1 ah.length c0_1, .slice A0_2 aE.length c0_2, .slice A0_3 ay.length c0_3]] (h := ?_); (with_reducible refine (quorumlaw8_Heavy.calls k _ _ ai _ _ ah _ _ aE _ _ ay false _ ?side1 ?side2 ?side3 ?side4 ?side5 ?side6 ?side7 ?side8 A2.out).mono ?_); (case side1 => exact cb_ dr HB); (case side2 => exact lX.out); (case side3 => exact cb_ gK HB); (case side4 => exact lY.out); (case side5 => exact cb_ kG HB); (case side6 => exact lZ.out); (case side7 => exact cb_ iq HB); (case side8 => exact ma.out); rintro e w10 ⟨rfl, hb⟩; refine ⟨_, rfl, ?_⟩; replace ab := mk0 (u_ ab hb); replace HB := mk0 (bt_ (b_ HB) hb); (try clear hb)) | ((with_reducible refine gate_dst (N := 35) rfl ?_); refine Kd.R_lit (Kd.int .i64) _ 3 ?hg (N := 35) ?hd (xs := ([0, 1, 5, 1073741824, (-1)] : List Int)) (inner := [.int .i64 0, .int .i64 1, .int .i64 5, .int .i64 1073741824, .int .i64 (-1)]) (ok := fun _ => True) (okp := fun _ => True) ?hr ?hp (fun _ hk => hk) trivial (Below.refl _ _) (Nat.le_refl _) (by simp) ?_; (case hd => rfl); (case hg => rfl); (case hr => first | (go_simp; done) | (go_simp; rfl)); (case hp => exact (Reps.one (show Kd.M (Kd.int .i64) _ _ _ 0 [.int .i64 0] from rfl) (Reps.one (show Kd.M (Kd.int .i64) _ _ _ 1 [.int .i64 1] from rfl) (Reps.one (show Kd.M (Kd.int .i64) _ _ _ 5 [.int .i64 5] from rfl) (Reps.one (show Kd.M (Kd.int .i64) _ _ _ 1073741824 [.int .i64 1073741824] from rfl) (Reps.one (show Kd.M (Kd.int .i64) _ _ _ (-1) [.int .i64 (-1)] from rfl) (Reps.none _ _))))))); intro v272 w11 ho12 hb hg_ hnew_; clear hg_ hnew_; (first | rw [← Ny271.out] at ho12 | (simp only [Int.reduceToNat] at ho12; rw [← Ny271.out] at ho12)); have n0_ := mk0 (Kd.R_lower ho12 (bz_ (b_ HB))); replace ab := mk0 (u_ ab hb); replace HB := mk0 (bt_ (b_ HB) hb); have kH := n0_; clear n0_ hb ho12; obtain ⟨es, et, eu, ev, ew, ex, ey, ez⟩ := c4_ ab) | ((with_reducible refine gate_builtin (b := .append) (xs := #[.tmp 35, .tmp 37]) rfl ?_); at_builtin; refine Kd.R_append_rows (Kd.int .i64) (w0 := w) w.heap.size rfl (.tmp 35) (.tmp 37) 24 3 (.int .i64 0) 8 rfl Try.underlying24 info3 rfl (by decide) (by omega) v272 je aE _ _ _ (fun _ => True) (fun _ => False) rfl rfl ?aO ?aR (fun _ _ h => h) (fun _ h => h.elim) ?aF ?aB ?aS ?aL ?_; (case aR => repeat (first | exact (Kd.C_below kG.out HB.out) | (with_reducible refine Kd.C_alloc ?_ _) | (with_reducible refine Kd.C_drewN ?_ _) | (with_reducible refine Kd.C_drew ?_))); (case aB => exact (b_ HB)); (case aF => exact (fun _ _ => trivial)); (case aO => exact (r_ kH)); (case aS => exact (bz_ (b_ HB))); (case aL => have := LMc7.out; omega); intro v275 w14 ho hb hg hat; rw [← Ny274.out] at ho; replace ab := mk0 (blk_grown (g := af) (o := .cells #[.slice A0_0 ai.length c0_0, .slice A0_1 ah.length c0_1, .slice A0_2 aE.length c0_2, .slice A0_3 ay.length c0_3] 27 (0, 0)) (h_ ab) hg (Kd.R_ne kH.out ab.out (by decide))); replace HB := mk0 (hb); have ni := mk0 (ho); clear kH; clear ho hb hg hat))
 go_loopg [4] k (fun kq v4 w' => ∃ (aj : Int), v4 = .int .i64 aj ∧ Fc (quorumlaw8_ChainTells.l0 kq aK aj ai ah aE ay = some r) ∧ Fc (kq ≤ k) ∧ Fc (Kd.R (Kd.int .i64) 3 w' w.heap.size (fun _ => True) v275 aK) ∧ Fc (w'.heap[af]? = some (.cells #[(.slice A0_0 ai.length c0_0), (.slice A0_1 ah.length c0_1), (.slice A0_2 aE.length c0_2), (.slice A0_3 ay.length c0_3)] 27 (0, 0))) ∧ Fc (Below w.heap.size w w'))
 case atStart => exact ⟨(0), (by first | rfl | (simp; done) | (simp [*]; done)), H', ⟨Nat.le_refl _⟩, ⟨by (with_reducible repeat (first | apply Ra_ | apply Rn_ | apply Rd_)); exact ni.out⟩, ⟨h_ ab⟩, ⟨b_ HB⟩⟩
 clear H'
 try clear c3
 try clear c7
 try clear es et eu ev ew ex ey ez
 try clear gi gj gl gm gn gp gq gr
 try clear gs gu gv gw gx gy gz gA
 obtain ⟨aj, rfl, HA, cC, ad, ab, HB⟩ := hrel
 cases gk with
 | zero => exact absurd HA.out (by simp [quorumlaw8_ChainTells.l0])
 | succ k1 =>
 have H := HA.out
 clear HA
 simp only [quorumlaw8_ChainTells.l0] at H
 as_aux_lemma =>
 have HC15 := mk0 H
 clear H
 go_upto_region 5 with (fail)
 go_cut [47] (fun v47 wc => ∃ (kq : Nat) (iA : Bool), v47 = .bool iA ∧ Fc (quorumlaw8_ChainTells.j1 kq aK aj iA ai ah aE ay = some r) ∧ Fc (kq ≤ k1) ∧ Fc (Kd.R (Kd.int .i64) 3 wc w.heap.size (fun _ => True) v275 aK) ∧ Fc (wc.heap[af]? = some (.cells #[(.slice A0_0 ai.length c0_0), (.slice A0_1 ah.length c0_1), (.slice A0_2 aE.length c0_2), (.slice A0_3 ay.length c0_3)] 27 (0, 0))) ∧ Fc (Below w.heap.size w wc))
 case first =>
  have H := HC15.out
  clear HC15
  by_cases c16 : aj < (ai.length : Int)
  ·rw [if_pos c16] at H
   have eP : decide (aj < (ai.length : Int)) = true := decide_eq_true c16
   clear c16
   (first | rw [eP] | (simp only [i64_w, i32_w]; rw [eP]) | skip)
   have H' := mk0 H
   clear H
   obtain ⟨eY, eZ, fa, fb, fc, fd, fe, ff⟩ := c4_ ab
   go_wp2
   go_meet
   case rel => exact ⟨_, (decide (aj < 6)), (by first | rfl | (simp; done) | (simp [*]; done)), H', ⟨by have := cC.out; first | omega | exact Nat.le_refl _⟩, ⟨by (with_reducible repeat (first | apply Ra_ | apply Rn_ | apply Rd_)); exact ad.out⟩, ⟨h_ ab⟩, ⟨b_ HB⟩⟩
  rw [if_neg c16] at H
  have eP : decide (aj < (ai.length : Int)) = false := decide_eq_false c16
  clear c16
  (first | rw [eP] | (simp only [i64_w, i32_w]; rw [eP]) | skip)
  have H' := mk0 H
  clear H
  obtain ⟨fg, fh, fi, fj, fk, fl, fm, fn⟩ := c4_ ab
  go_wp2
  go_meet
  case rel => exact ⟨_, (false), (by first | rfl | (simp; done) | (simp [*]; done)), H', ⟨by have := cC.out; first | omega | exact Nat.le_refl _⟩, ⟨by (with_reducible repeat (first | apply Ra_ | apply Rn_ | apply Rd_)); exact ad.out⟩, ⟨h_ ab⟩, ⟨b_ HB⟩⟩
 clear HC15
 try clear c3
 try clear c7
 try clear c16
 try clear eP
 try clear es et eu ev ew ex ey ez
 try clear eY eZ fa fb fc fd fe ff
 try clear fg fh fi fj fk fl fm fn
 try clear gi gj gl gm gn gp gq gr
 try clear gs gu gv gw gx gy gz gA
 obtain ⟨kq, iA, rfl, HA, br, ad, ab, HB⟩ := hcut
 cases kq with
 | zero => exact absurd HA.out (by simp [quorumlaw8_ChainTells.j1])
 | succ kj14 =>
 have H := HA.out
 clear HA
 simp only [quorumlaw8_ChainTells.j1] at H
 as_aux_lemma =>
 by_cases c19 : iA = true
 rotate_left
 ·replace c19 := Bool.eq_false_iff.mpr c19
  subst c19
  rw [if_neg (show ¬ (false = true) by decide)] at H
  have H' := mk0 H
  clear H
  go_wp2
  go_loopg [27] kj14 (fun kq v27 w' => ∃ (aN : Int), v27 = .int .i64 aN ∧ Fc (quorumlaw8_ChainTells.l4 kq aN ai ah aE ay = some r) ∧ Fc (kq ≤ kj14) ∧ Fc (w'.heap[af]? = some (.cells #[(.slice A0_0 ai.length c0_0), (.slice A0_1 ah.length c0_1), (.slice A0_2 aE.length c0_2), (.slice A0_3 ay.length c0_3)] 27 (0, 0))) ∧ Fc (Below w.heap.size w w'))
  case atStart => exact ⟨(0), (by first | rfl | (simp; done) | (simp [*]; done)), H', ⟨Nat.le_refl _⟩, ⟨h_ ab⟩, ⟨b_ HB⟩⟩
  clear H'
  try clear p1
  try clear c3
  try clear c19
  try clear c20
  try clear c21
  try clear c138
  try clear c139
  try clear c140
  try clear c176
  try clear cl
  try clear dq
  try clear c178
  try clear c179
  try clear c180
  try clear c190
  try clear c191
  try clear ek
  try clear c192
  try clear eU
  try clear el
  try clear em
  try clear c201
  try clear eV
  try clear c202
  try clear eW
  try clear c204
  try clear cN cO cP cQ
  try clear cR cS cT cU
  try clear cV cW cX cY
  try clear dO dP dQ
  try clear df dg dh
  try clear bH bI
  try clear el
  try clear fo
  try clear em
  try clear fp
  obtain ⟨aN, rfl, HA, jF, ab, HB⟩ := hrel
  cases gk with
  | zero => exact absurd HA.out (by simp [quorumlaw8_ChainTells.l4])
  | succ k3 =>
  have H := HA.out
  clear HA
  simp only [quorumlaw8_ChainTells.l4] at H
  as_aux_lemma =>
  have HC221 := mk0 H
  clear H
  go_upto_region 48 with (fail)
  go_cut [274] (fun v274 wc => ∃ (kq : Nat) (fq : Bool), v274 = .bool fq ∧ Fc (quorumlaw8_ChainTells.j16 kq aN fq ai ah aE ay = some r) ∧ Fc (kq ≤ k3) ∧ Fc (wc.heap[af]? = some (.cells #[(.slice A0_0 ai.length c0_0), (.slice A0_1 ah.length c0_1), (.slice A0_2 aE.length c0_2), (.slice A0_3 ay.length c0_3)] 27 (0, 0))) ∧ Fc (Below w.heap.size w wc))
  case first =>
   have H := HC221.out
   clear HC221
   by_cases c222 : aN < (ay.length : Int)
   ·rw [if_pos c222] at H
    have cZ : decide (aN < (ay.length : Int)) = true := decide_eq_true c222
    clear c222
    (first | rw [cZ] | (simp only [i64_w, i32_w]; rw [cZ]) | skip)
    have H' := mk0 H
    clear H
    obtain ⟨dt, du, dv, dw, dx, dy, dz, dA⟩ := c4_ ab
    go_wp2
    go_meet
    case rel => exact ⟨_, (decide (aN < 6)), (by first | rfl | (simp; done) | (simp [*]; done)), H', ⟨by have := cC.out; have := br.out; have := jF.out; first | omega | exact Nat.le_refl _⟩, ⟨h_ ab⟩, ⟨b_ HB⟩⟩
   rw [if_neg c222] at H
   have cZ : decide (aN < (ay.length : Int)) = false := decide_eq_false c222
   clear c222
   (first | rw [cZ] | (simp only [i64_w, i32_w]; rw [cZ]) | skip)
   have H' := mk0 H
   clear H
   obtain ⟨dB, dC, dD, dE, dF, dG, dH, dI⟩ := c4_ ab
   go_wp2
   go_meet
   case rel => exact ⟨_, (false), (by first | rfl | (simp; done) | (simp [*]; done)), H', ⟨by have := cC.out; have := br.out; have := jF.out; first | omega | exact Nat.le_refl _⟩, ⟨h_ ab⟩, ⟨b_ HB⟩⟩
  clear HC221
  try clear p1
  try clear c3
  try clear c19
  try clear c20
  try clear c21
  try clear c138
  try clear c139
  try clear c140
  try clear c176
  try clear cl
  try clear dq
  try clear c178
  try clear c179
  try clear c180
  try clear c190
  try clear c191
  try clear ek
  try clear c192
  try clear eU
  try clear el
  try clear em
  try clear c201
  try clear eV
  try clear c202
  try clear eW
  try clear c204
  try clear c222
  try clear cZ
  try clear cN cO cP cQ
  try clear cR cS cT cU
  try clear cV cW cX cY
  try clear dt du dv dw dx dy dz dA
  try clear dB dC dD dE dF dG dH dI
  try clear dO dP dQ
  try clear df dg dh
  try clear bH bI
  try clear p1
  try clear el
  try clear fo
  try clear em
  try clear fp
  obtain ⟨kq, fq, rfl, HA, eg, ab, HB⟩ := hcut
  cases kq with
  | zero => exact absurd HA.out (by simp [quorumlaw8_ChainTells.j16])
  | succ kj220 =>
  have H := HA.out
  clear HA
  simp only [quorumlaw8_ChainTells.j16] at H
  as_aux_lemma =>
  by_cases c225 : fq = true
  rotate_left
  ·replace c225 := Bool.eq_false_iff.mpr c225
   subst c225
   rw [if_neg (show ¬ (false = true) by decide)] at H
   replace H := Option.bind_eq_some_iff.mp H
   obtain ⟨re, A2790, H⟩ := H
   try dsimp only at H
   have A279 := mk0 A2790
   clear A2790
   obtain rfl := Option.some.inj H
   go_wp2_with (first | ((with_reducible refine gate_callee (f := 31) rfl ?_); refine gL_ (some 338) Try.func31 #[] (h := ?_); (with_reducible refine (quorumlaw8_wakes.calls kj220  re _ A279.out).mono ?_); rintro e w280 ⟨rfl, hb⟩; refine ⟨_, rfl, ?_⟩; replace ab := mk0 (u_ ab hb); replace HB := mk0 (bt_ (b_ HB) hb); (try clear hb)))
   go_ret
   exact ⟨by first | rfl | (simp [errW_none, errW_some] <;> rfl) | (simp [*, errW_none, errW_some] <;> rfl), b_ HB⟩
  subst c225
  rw [if_pos rfl] at H
  have H' := mk0 H
  clear H
  go_wp2
  go_loopg [28] kj220 (fun kq v28 w' => ∃ (aq : Int), v28 = .int .i64 aq ∧ Fc (quorumlaw8_ChainTells.l5 kq aN aq ai ah aE ay = some r) ∧ Fc (kq ≤ kj220) ∧ Fc (w'.heap[af]? = some (.cells #[(.slice A0_0 ai.length c0_0), (.slice A0_1 ah.length c0_1), (.slice A0_2 aE.length c0_2), (.slice A0_3 ay.length c0_3)] 27 (0, 0))) ∧ Fc (Below w.heap.size w w'))
  case atStart => exact ⟨(0), (by first | rfl | (simp; done) | (simp [*]; done)), H', ⟨Nat.le_refl _⟩, ⟨h_ ab⟩, ⟨b_ HB⟩⟩
  clear H'
  try clear p1
  try clear c3
  try clear c19
  try clear c20
  try clear c21
  try clear c138
  try clear c139
  try clear c140
  try clear c176
  try clear cl
  try clear dq
  try clear c178
  try clear c179
  try clear c180
  try clear c190
  try clear c191
  try clear ek
  try clear c192
  try clear eU
  try clear el
  try clear em
  try clear c201
  try clear eV
  try clear c202
  try clear eW
  try clear c204
  try clear c222
  try clear cZ
  try clear c225
  try clear cN cO cP cQ
  try clear cR cS cT cU
  try clear cV cW cX cY
  try clear dt du dv dw dx dy dz dA
  try clear dB dC dD dE dF dG dH dI
  try clear dO dP dQ
  try clear df dg dh
  try clear bH bI
  try clear p1
  try clear el
  try clear fo
  try clear em
  try clear fp
  obtain ⟨aq, rfl, HA, dJ, ab, HB⟩ := hrel
  cases gk with
  | zero => exact absurd HA.out (by simp [quorumlaw8_ChainTells.l5])
  | succ k5 =>
  have H := HA.out
  clear HA
  simp only [quorumlaw8_ChainTells.l5] at H
  as_aux_lemma =>
  have HC226 := mk0 H
  clear H
  go_upto_region 51 with (fail)
  go_cut [285] (fun v285 wc => ∃ (kq : Nat) (fr : Bool), v285 = .bool fr ∧ Fc (quorumlaw8_ChainTells.j18 kq aN aq fr ai ah aE ay = some r) ∧ Fc (kq ≤ k5) ∧ Fc (wc.heap[af]? = some (.cells #[(.slice A0_0 ai.length c0_0), (.slice A0_1 ah.length c0_1), (.slice A0_2 aE.length c0_2), (.slice A0_3 ay.length c0_3)] 27 (0, 0))) ∧ Fc (Below w.heap.size w wc))
  case first =>
   have H := HC226.out
   clear HC226
   by_cases c227 : aq < (ah.length : Int)
   ·rw [if_pos c227] at H
    have dR : decide (aq < (ah.length : Int)) = true := decide_eq_true c227
    clear c227
    (first | rw [dR] | (simp only [i64_w, i32_w]; rw [dR]) | skip)
    have H' := mk0 H
    clear H
    obtain ⟨fs, ft, fu, fv, fw, fx, fy, fz⟩ := c4_ ab
    go_wp2
    go_meet
    case rel => exact ⟨_, (decide (aq < 6)), (by first | rfl | (simp; done) | (simp [*]; done)), H', ⟨by have := cC.out; have := br.out; have := jF.out; have := eg.out; have := dJ.out; first | omega | exact Nat.le_refl _⟩, ⟨h_ ab⟩, ⟨b_ HB⟩⟩
   rw [if_neg c227] at H
   have dR : decide (aq < (ah.length : Int)) = false := decide_eq_false c227
   clear c227
   (first | rw [dR] | (simp only [i64_w, i32_w]; rw [dR]) | skip)
   have H' := mk0 H
   clear H
   obtain ⟨fA, fB, fC, fD, fE, fF, fG, fH⟩ := c4_ ab
   go_wp2
   go_meet
   case rel => exact ⟨_, (false), (by first | rfl | (simp; done) | (simp [*]; done)), H', ⟨by have := cC.out; have := br.out; have := jF.out; have := eg.out; have := dJ.out; first | omega | exact Nat.le_refl _⟩, ⟨h_ ab⟩, ⟨b_ HB⟩⟩
  clear HC226
  try clear p1
  try clear c3
  try clear c19
  try clear c20
  try clear c21
  try clear c138
  try clear c139
  try clear c140
  try clear c176
  try clear cl
  try clear dq
  try clear c178
  try clear c179
  try clear c180
  try clear c190
  try clear c191
  try clear ek
  try clear c192
  try clear eU
  try clear el
  try clear em
  try clear c201
  try clear eV
  try clear c202
  try clear eW
  try clear c204
  try clear c222
  try clear cZ
  try clear c225
  try clear c227
  try clear dR
  try clear cN cO cP cQ
  try clear cR cS cT cU
  try clear cV cW cX cY
  try clear dt du dv dw dx dy dz dA
  try clear dB dC dD dE dF dG dH dI
  try clear fs ft fu fv fw fx fy fz
  try clear fA fB fC fD fE fF fG fH
  try clear dO dP dQ
  try clear df dg dh
  try clear bH bI
  try clear p1
  try clear el
  try clear fo
  try clear em
  try clear fp
  obtain ⟨kq, fr, rfl, HA, eQ, ab, HB⟩ := hcut
  cases kq with
  | zero => exact absurd HA.out (by simp [quorumlaw8_ChainTells.j18])
  | succ kj225 =>
  have H := HA.out
  clear HA
  simp only [quorumlaw8_ChainTells.j18] at H
  as_aux_lemma =>
  by_cases c230 : fr = true
  rotate_left
  ·replace c230 := Bool.eq_false_iff.mpr c230
   subst c230
   rw [if_neg (show ¬ (false = true) by decide)] at H
   have H' := mk0 H
   clear H
   go_wp2
   go_roundg kj225
   case measure => have := cC.out; have := br.out; have := jF.out; have := eg.out; have := dJ.out; have := eQ.out; omega
   case rel => exact ⟨(wrap64 (aN + 1)), (by first | rfl | (simp; done) | (simp [*]; done)), H', ⟨by have := cC.out; have := br.out; have := jF.out; have := eg.out; have := dJ.out; have := eQ.out; omega⟩, ⟨h_ ab⟩, ⟨b_ HB⟩⟩
  subst c230
  rw [if_pos rfl] at H
  by_cases c231 : 0 ≤ aN
  rotate_left
  ·rw [if_neg c231] at H
   exact absurd H (by simp)
  rw [if_pos c231] at H
  have jm : decide (0 ≤ aN) = true := decide_eq_true c231
  clear c231
  by_cases c232 : aN < (ay.length : Int)
  rotate_left
  ·rw [if_neg c232] at H
   exact absurd H (by simp)
  rw [if_pos c232] at H
  have jn : decide (aN < (ay.length : Int)) = true := decide_eq_true c232
  clear c232
  by_cases c233 : 0 ≤ aq
  rotate_left
  ·rw [if_neg c233] at H
   exact absurd H (by simp)
  rw [if_pos c233] at H
  have jo : decide (0 ≤ aq) = true := decide_eq_true c233
  clear c233
  by_cases c234 : aq < (ah.length : Int)
  rotate_left
  ·rw [if_neg c234] at H
   exact absurd H (by simp)
  rw [if_pos c234] at H
  have jp : decide (aq < (ah.length : Int)) = true := decide_eq_true c234
  clear c234
  replace H := Option.bind_eq_some_iff.mp H
  obtain ⟨⟨dS, da, gN⟩, A2350, H⟩ := H
  try dsimp only at H
  have A235 := mk0 A2350
  clear A2350
  have HC236 := mk0 H
  clear H
  try go_wp2
  replace ab := mk0 (bD_ ab.out)
  replace HB := mk0 (b1_ HB.out)
  have ky : 0 ≤ (aN : Int) := of_decide_eq_true (by first | (with_reducible assumption) | assumption)
  have kz : aN < (ay.length : Int) := of_decide_eq_true (by first | (with_reducible assumption) | assumption)
  obtain ⟨cm, rf, dT⟩ := Kd.at_string iq.out aN ky kz
  have dU := dT
  cases rf
  replace dT := (bc_ HB dT :)
  replace ky := eq_true ky
  replace kz := eq_true kz
  have kA : 0 ≤ (aq : Int) := of_decide_eq_true (by first | (with_reducible assumption) | assumption)
  have kB : aq < (ah.length : Int) := of_decide_eq_true (by first | (with_reducible assumption) | assumption)
  obtain ⟨bl, rg, dV, dW, dX⟩ := at_T39 gK.out aq kA kB
  have dY := dX
  have dZ := dW
  have ea := dV
  cases rg
  replace dV := (bc_ HB dV :)
  replace dW := (bc_ HB dW :)
  replace dX := (bc_ HB dX :)
  replace kA := eq_true kA
  replace kB := eq_true kB
  refine start_ (n := 17) (S := fun w' => w'.cell? ⟨af, 0, none⟩ = some (.slice A0_0 ai.length c0_0) ∧ w'.cell? ⟨af, 1, none⟩ = some (.slice (some bl) ah.length c0_1) ∧ w'.cell? ⟨af, 2, none⟩ = some (.slice A0_2 aE.length c0_2) ∧ w'.cell? ⟨af, 3, none⟩ = some (.slice (some cm) ay.length c0_3) ∧ w'.cell? (cm.add (aN).toNat) = some (.string (rdOf ByteArray.empty ay aN)) ∧ w'.cell? (bl.add ((aq).toNat * 3)) = some (.int .i64 ((rd_T39 ah aq).f0)) ∧ w'.cell? ⟨(bl.add ((aq).toNat * 3)).block, (bl.add ((aq).toNat * 3)).off + 1, none⟩ = some (.string ((rd_T39 ah aq).f1)) ∧ w'.cell? ⟨(bl.add ((aq).toNat * 3)).block, (bl.add ((aq).toNat * 3)).off + 2, none⟩ = some (.bool ((rd_T39 ah aq).f2))) (ds := []) (bt 17 0) (by kernel_rfl) rfl rfl ⟨bk_ ab 0, bk_ ab 1, bk_ ab 2, bk_ ab 3, (bc_ HB dU :), (bc_ HB ea :), (bc_ HB dZ :), (bc_ HB dY :)⟩ (fun hHeld => ?_); refine with_tabW quorumlaw8_ChainTells.tab53 quorumlaw8_ChainTells.bits53 (fun HT_ HW_ => ?_)
  generalize wc.drew = w237 at ab HB dT dV dW dX hHeld ⊢
  refine pq_ HT_.out 0 289 (bt 17 1) (h := ?_)
  refine pq_ HT_.out 2 291 (bt 17 5) (h := ?_)
  refine pq_ HT_.out 5 294 (bt 17 37) (h := ?_)
  refine pq_ HT_.out 7 296 (bt 17 165) (h := ?_)
  refine tq8_ HT_.out HW_.out 1 290 (bt 17 167) hHeld (h := ?_)
  refine pq_ HT_.out 3 292 (bt 17 175) (h := ?_)
  refine tq8_ HT_.out HW_.out 4 293 (bt 17 191) hHeld (h := ?_)
  refine tq8_ HT_.out HW_.out 6 295 (bt 17 255) hHeld (h := ?_)
  refine pq_ HT_.out 8 297 (bt 17 511) (h := ?_)
  refine tq8_ HT_.out HW_.out 9 298 (bt 17 1023) hHeld (h := ?_)
  refine join_ (σ := Value × Nat) 2 (bt 17 32767) (fun s_ => [(299, .tuple #[.agg #[.string dS, s_.1], .int .i64 gN]), (29, .pointer (some ⟨s_.2, 0, none⟩)), (288, .tuple #[.agg #[.string dS, s_.1], .int .i64 gN]), (300, .agg #[.string dS, s_.1]), (301, .int .i64 gN)]) (fun s_ w' => (w'.cell? ⟨af, 0, none⟩ = some (.slice A0_0 ai.length c0_0) ∧ w'.cell? ⟨af, 1, none⟩ = some (.slice (some bl) ah.length c0_1) ∧ w'.cell? ⟨af, 2, none⟩ = some (.slice A0_2 aE.length c0_2) ∧ w'.cell? ⟨af, 3, none⟩ = some (.slice (some cm) ay.length c0_3) ∧ w'.cell? (cm.add (aN).toNat) = some (.string (rdOf ByteArray.empty ay aN)) ∧ w'.cell? (bl.add ((aq).toNat * 3)) = some (.int .i64 ((rd_T39 ah aq).f0)) ∧ w'.cell? ⟨(bl.add ((aq).toNat * 3)).block, (bl.add ((aq).toNat * 3)).off + 1, none⟩ = some (.string ((rd_T39 ah aq).f1)) ∧ w'.cell? ⟨(bl.add ((aq).toNat * 3)).block, (bl.add ((aq).toNat * 3)).off + 2, none⟩ = some (.bool ((rd_T39 ah aq).f2))) ∧ (Kd.R k39 39 w' w.heap.size (fun _ => True) s_.1 da) ∧ (w'.heap[af]? = some (.cells #[.slice A0_0 ai.length c0_0, .slice (some bl) ah.length c0_1, .slice A0_2 aE.length c0_2, .slice (some cm) ay.length c0_3] 27 (0, 0))) ∧ (w'.heap[s_.2]? = some (.cells #[.string (⟨#[]⟩ : ByteArray), .slice none 0 0] 30 (0, 0))) ∧ (w.heap.size ≤ s_.2) ∧ (w.heap.size ≤ s_.2) ∧ (af ≠ s_.2) ∧ (s_.2 ≠ af) ∧ (Below w.heap.size w w')) ?_ ?_
  rotate_left
  ·intro hCont
   refine two_ (i := 10) (j := 14) (Ni := some 299) (Nj := some 29) (bt 17 2047) (bt 17 17407) rfl rfl rfl rfl (two_of HT_.out (by kernel_rfl)) (by decide) (by decide) (fun K hK => ?_) (fun K hK => ?_)
   ·skip
    refine goes_ Try.func28 (by kernel_rfl) rfl #[.string (rdOf ByteArray.empty ay aN), .agg #[.int .i64 ((rd_T39 ah aq).f0), .string ((rd_T39 ah aq).f1), .bool ((rd_T39 ah aq).f2)]] (by rfl) rfl rfl (by (try simp only [List.map_toArray, List.map_cons, List.map_nil]); first | done | rfl | (simp only [List.length_drop, List.length_take]; rfl)) ?_
    with_reducible refine (chain_New.calls kj225 (rdOf ByteArray.empty ay aN) ((rd_T39 ah aq).f0) ((rd_T39 ah aq).f1) ((rd_T39 ah aq).f2) dS da gN _ A235.out).mono ?_
    rintro e w238 ⟨v357, rfl, ho0, hb⟩
    refine ⟨_, rfl, ?_⟩
    have n0_ := mk0 (Kd.R_lower ho0 (bz_ (b_ HB)))
    replace ab := mk0 (u_ ab hb)
    replace HB := mk0 (bt_ (b_ HB) hb)
    have di := n0_
    clear n0_
    (try clear hb)
    (try clear hb2)
    (try clear hk)
    (try clear hi)
    (try clear ho0)
    refine hK.out _ _ ⟨bk_ ab 0, bk_ ab 1, bk_ ab 2, bk_ ab 3, (bc_ HB dU :), (bc_ HB ea :), (bc_ HB dZ :), (bc_ HB dY :)⟩ (fun hHeld => ?_)
    clear hK K
    refine norm_ (a' := ?_) ?_ ?_
    rotate_left
    ·show Act.put _ (some 299) _ = _
     simp only [z_]
     rfl
    refine pq_ HT_.out 11 288 (bt 17 4095) (h := ?_)
    refine pq_ HT_.out 12 300 (bt 17 8191) (h := ?_)
    refine pq_ HT_.out 13 301 (bt 17 16383) (h := ?_)
    refine one_ (i := 14) (N := some 29) (bt 17 32767) rfl rfl (one_of HT_.out (by kernel_rfl)) (by decide) (fun K hK => ?_)
    refine box_step ?hg (N := 29) ?hd (cs := #[.string (⟨#[]⟩ : ByteArray), .slice none 0 0]) (t := 30) ?hr ?_; (case hd => rfl); (case hg => rfl); (case hr => first | (go_simp; done) | (go_simp; rfl))
    intro bY hg w239 hbox hb
    have n4_ := mk0 (gz_ HB hg)
    have n5_ := mk0 (gz_ HB hg)
    have n6_ := mk0 (ne1_ ab hg)
    have n7_ := mk0 (ne2_ ab hg)
    replace di := mk0 (Kd.R_below (r_ di) hb)
    replace ab := mk0 (u_ ab hb)
    replace HB := mk0 (bt_ (b_ HB) hb)
    have bm := mk0 (hbox)
    have eh := n4_
    have jG := n5_
    have aP := n6_
    have bT := n7_
    clear n4_ n5_ n6_ n7_ hb hbox hg
    refine hK.out _ _ ⟨bk_ ab 0, bk_ ab 1, bk_ ab 2, bk_ ab 3, (bc_ HB dU :), (bc_ HB ea :), (bc_ HB dZ :), (bc_ HB dY :)⟩ (fun hHeld => ?_)
    clear hK K
    refine norm_ (a' := ?_) ?_ ?_
    rotate_left
    ·show Act.put _ (some 29) _ = _
     simp only [z_]
     rfl
    exact norm_ (by simp only [putAll, Act.put, List.setIfInBounds_toArray, List.set_cons_zero, List.set_cons_succ]) (hCont (v357, bY) _ ⟨hHeld, (r_ di), (h_ ab), (h_ bm), eh.out, jG.out, aP.out, bT.out, (b_ HB)⟩)
   ·skip
    refine box_step ?hg (N := 29) ?hd (cs := #[.string (⟨#[]⟩ : ByteArray), .slice none 0 0]) (t := 30) ?hr ?_; (case hd => rfl); (case hg => rfl); (case hr => first | (go_simp; done) | (go_simp; rfl))
    intro bY hg w238 hbox hb
    have n3_ := mk0 (gz_ HB hg)
    have n4_ := mk0 (gz_ HB hg)
    have n5_ := mk0 (ne1_ ab hg)
    have n6_ := mk0 (ne2_ ab hg)
    replace ab := mk0 (u_ ab hb)
    replace HB := mk0 (bt_ (b_ HB) hb)
    have bm := mk0 (hbox)
    have eh := n3_
    have jG := n4_
    have aP := n5_
    have bT := n6_
    clear n3_ n4_ n5_ n6_ hb hbox hg
    refine hK.out _ _ ⟨bk_ ab 0, bk_ ab 1, bk_ ab 2, bk_ ab 3, (bc_ HB dU :), (bc_ HB ea :), (bc_ HB dZ :), (bc_ HB dY :)⟩ (fun hHeld => ?_)
    clear hK K
    refine norm_ (a' := ?_) ?_ ?_
    rotate_left
    ·show Act.put _ (some 29) _ = _
     simp only [z_]
     rfl
    refine one_ (i := 10) (N := some 299) (bt 17 18431) rfl rfl (one_of HT_.out (by kernel_rfl)) (by decide) (fun K hK => ?_)
    refine goes_ Try.func28 (by kernel_rfl) rfl #[.string (rdOf ByteArray.empty ay aN), .agg #[.int .i64 ((rd_T39 ah aq).f0), .string ((rd_T39 ah aq).f1), .bool ((rd_T39 ah aq).f2)]] (by rfl) rfl rfl (by (try simp only [List.map_toArray, List.map_cons, List.map_nil]); first | done | rfl | (simp only [List.length_drop, List.length_take]; rfl)) ?_
    with_reducible refine (chain_New.calls kj225 (rdOf ByteArray.empty ay aN) ((rd_T39 ah aq).f0) ((rd_T39 ah aq).f1) ((rd_T39 ah aq).f2) dS da gN _ A235.out).mono ?_
    rintro e w239 ⟨v357, rfl, ho0, hb⟩
    refine ⟨_, rfl, ?_⟩
    have n0_ := mk0 (Kd.R_lower ho0 (bz_ (b_ HB)))
    replace ab := mk0 (u_ ab hb)
    replace bm := mk0 (blk_below (g := bY) (o := .cells #[.string (⟨#[]⟩ : ByteArray), .slice none 0 0] 30 (0, 0)) (h_ bm) hb)
    replace HB := mk0 (bt_ (b_ HB) hb)
    have di := n0_
    clear n0_
    (try clear hb)
    (try clear hb2)
    (try clear hk)
    (try clear hi)
    (try clear ho0)
    refine hK.out _ _ ⟨bk_ ab 0, bk_ ab 1, bk_ ab 2, bk_ ab 3, (bc_ HB dU :), (bc_ HB ea :), (bc_ HB dZ :), (bc_ HB dY :)⟩ (fun hHeld => ?_)
    clear hK K
    refine norm_ (a' := ?_) ?_ ?_
    rotate_left
    ·show Act.put _ (some 299) _ = _
     simp only [z_]
     rfl
    refine pq_ HT_.out 11 288 (bt 17 20479) (h := ?_)
    refine pq_ HT_.out 12 300 (bt 17 24575) (h := ?_)
    refine pq_ HT_.out 13 301 (bt 17 32767) (h := ?_)
    exact norm_ (by simp only [putAll, Act.put, List.setIfInBounds_toArray, List.set_cons_zero, List.set_cons_succ]) (hCont (v357, bY) _ ⟨hHeld, (r_ di), (h_ ab), (h_ bm), eh.out, jG.out, aP.out, bT.out, (b_ HB)⟩)
  rintro ⟨v357, bY⟩ w240 ⟨hS_, h0_, h1_, h2_, h3_, h4_, h5_, h6_, h7_⟩
  have n0_ : Fc (Kd.R k39 39 w240 w.heap.size (fun _ => True) v357 da) := ⟨h0_⟩
  have n1_ : Fc (w240.heap[af]? = some (.cells #[.slice A0_0 ai.length c0_0, .slice (some bl) ah.length c0_1, .slice A0_2 aE.length c0_2, .slice (some cm) ay.length c0_3] 27 (0, 0))) := ⟨h1_⟩
  have n2_ : Fc (w240.heap[bY]? = some (.cells #[.string (⟨#[]⟩ : ByteArray), .slice none 0 0] 30 (0, 0))) := ⟨h2_⟩
  have n3_ : Fc (w.heap.size ≤ bY) := ⟨h3_⟩
  have n4_ : Fc (w.heap.size ≤ bY) := ⟨h4_⟩
  have n5_ : Fc (af ≠ bY) := ⟨h5_⟩
  have n6_ : Fc (bY ≠ af) := ⟨h6_⟩
  have n7_ : Fc (Below w.heap.size w w240) := ⟨h7_⟩
  clear ab HB h0_ h1_ h2_ h3_ h4_ h5_ h6_ h7_
  have di := n0_
  have ab := n1_
  have bm := n2_
  have eh := n3_
  have jG := n4_
  have aP := n5_
  have bT := n6_
  have HB := n7_
  clear n0_ n1_ n2_ n3_ n4_ n5_ n6_ n7_
  have hHeld : w240.cell? ⟨af, 0, none⟩ = some (.slice A0_0 ai.length c0_0) ∧ w240.cell? ⟨af, 1, none⟩ = some (.slice (some bl) ah.length c0_1) ∧ w240.cell? ⟨af, 2, none⟩ = some (.slice A0_2 aE.length c0_2) ∧ w240.cell? ⟨af, 3, none⟩ = some (.slice (some cm) ay.length c0_3) ∧ w240.cell? (cm.add (aN).toNat) = some (.string (rdOf ByteArray.empty ay aN)) ∧ w240.cell? (bl.add ((aq).toNat * 3)) = some (.int .i64 ((rd_T39 ah aq).f0)) ∧ w240.cell? ⟨(bl.add ((aq).toNat * 3)).block, (bl.add ((aq).toNat * 3)).off + 1, none⟩ = some (.string ((rd_T39 ah aq).f1)) ∧ w240.cell? ⟨(bl.add ((aq).toNat * 3)).block, (bl.add ((aq).toNat * 3)).off + 2, none⟩ = some (.bool ((rd_T39 ah aq).f2)) := hS_
  obtain ⟨ei, ej, mb⟩ := Kd.R_slice di.out
  (first | subst mb | (injection mb with f1_ f2_ f3_; have f4_ := f1_.symm; have f5_ := f3_.symm; clear f1_ f2_ f3_; subst f4_; subst f5_))
  refine norm_ (a' := ?_) ?_ ?_
  rotate_left
  ·simp only [putAll, Act.put, List.setIfInBounds_toArray, List.set_cons_zero, List.set_cons_succ]
   rfl
  refine one_ (i := 15) (N := none) (bt 17 65535) rfl rfl (one_of HT_.out (by kernel_rfl)) (by decide) (fun K hK => ?_)
  have hs241 : w240.cell? ⟨bY, 0, none⟩ = some (.string (⟨#[]⟩ : ByteArray)) := bk_ bm 0
  have hfs241 := blk_frozen bm.out 0
  have nj := aP.out
  have nk := bT.out
  have hs243 : w240.cell? ⟨bY, 1, none⟩ = some (.slice none 0 0) := bk_ bm 1
  have hfs243 := blk_frozen bm.out 1
  have nl := aP.out
  have nm := bT.out
  refine skip_ (w1 := ?_) (by rfl) rfl ?_ ?_
  rotate_left
  ·go_simp
   rfl
  refine hK.out _ _ ⟨(cf_ aP.out (cf_ aP.out hHeld.1)), (cf_ aP.out (cf_ aP.out hHeld.2.1)), (cf_ aP.out (cf_ aP.out hHeld.2.2.1)), (cf_ aP.out (cf_ aP.out hHeld.2.2.2.1)), (cf_ (nb_ dU eh) (cf_ (nb_ dU eh) hHeld.2.2.2.2.1)), (cf_ (nb_ ea eh) (cf_ (nb_ ea eh) hHeld.2.2.2.2.2.1)), (cf_ (nb_ dZ eh) (cf_ (nb_ dZ eh) hHeld.2.2.2.2.2.2.1)), (cf_ (nb_ dY eh) (cf_ (nb_ dY eh) hHeld.2.2.2.2.2.2.2))⟩ (fun hHeld => ?_)
  clear hK K
  refine pq_ HT_.out 16 30 (bt 17 131071) (h := ?_)
  refine done_ (done_of HT_.out (by kernel_rfl)) ?_
  go_upto_region 56 with (first | ((with_reducible refine gate_dst (N := 32) rfl ?_); refine bx_ (N := 32) (cs := #[.string (⟨#[]⟩ : ByteArray), .slice none 0 0]) (t := 30) (h := ?_); intro db hg w244 hbox hb; have n0_ := mk0 (Kd.R_below (r2_ (Kd.R_mono (Kd.R_far (p := ⟨bY, 1, none⟩) (Kd.R_far (p := ⟨bY, 0, none⟩) (Kd.R_types di.out bm.out (by decide)) (fun _ hk => hk.2) (.string dS)) (fun _ hk => hk.2) (.slice ei da.length ej)) (fun _ h_ => h_.1))) hb); have n5_ := mk0 (gz_ HB hg); have n6_ := mk0 (gz_ HB hg); have n7_ := mk0 ((by rw [hg]; exact Nat.ne_of_lt (blk_lt (g := af) (o := .cells #[.slice A0_0 ai.length c0_0, .slice (some bl) ah.length c0_1, .slice A0_2 aE.length c0_2, .slice (some cm) ay.length c0_3] 27 (0, 0)) (fa_ (fa_ (h_ ab) aP.out) aP.out)) : af ≠ db)); have n8_ := mk0 ((by rw [hg]; exact Nat.ne_of_gt (blk_lt (g := af) (o := .cells #[.slice A0_0 ai.length c0_0, .slice (some bl) ah.length c0_1, .slice A0_2 aE.length c0_2, .slice (some cm) ay.length c0_3] 27 (0, 0)) (fa_ (fa_ (h_ ab) aP.out) aP.out)) : db ≠ af)); have n9_ := mk0 ((by rw [hg]; exact Nat.ne_of_lt (blk_lt (g := bY) (o := .cells #[.string dS, .slice ei da.length ej] 30 (0, 0)) (pu_ (cs := #[.string dS, .slice none 0 0]) (pu_ (cs := #[.string (⟨#[]⟩ : ByteArray), .slice none 0 0]) (h_ bm)))) : bY ≠ db)); have n10_ := mk0 ((by rw [hg]; exact Nat.ne_of_gt (blk_lt (g := bY) (o := .cells #[.string dS, .slice ei da.length ej] 30 (0, 0)) (pu_ (cs := #[.string dS, .slice none 0 0]) (pu_ (cs := #[.string (⟨#[]⟩ : ByteArray), .slice none 0 0]) (h_ bm)))) : db ≠ bY)); replace ab := mk0 (blk_below (g := af) (o := .cells #[.slice A0_0 ai.length c0_0, .slice (some bl) ah.length c0_1, .slice A0_2 aE.length c0_2, .slice (some cm) ay.length c0_3] 27 (0, 0)) (fa_ (fa_ (h_ ab) aP.out) aP.out) hb); replace bm := mk0 (blk_below (g := bY) (o := .cells #[.string dS, .slice ei da.length ej] 30 (0, 0)) (pu_ (cs := #[.string dS, .slice none 0 0]) (pu_ (cs := #[.string (⟨#[]⟩ : ByteArray), .slice none 0 0]) (h_ bm))) hb); replace HB := mk0 (bt_ (b_ HB) hb); have bL := mk0 (hbox); clear di; have di := n0_; have gL := n5_; have sB := n6_; have bh := n7_; have dK := n8_; have dL := n9_; have gB := n10_; clear n0_ n5_ n6_ n7_ n8_ n9_ n10_; clear hb hbox hg))
  (try simp only [Act.put, List.setIfInBounds_toArray, List.set_cons_zero, List.set_cons_succ])
  go_cut [315] (fun v315 wc => ∃ (kq : Nat) (fI : Bool), v315 = .bool fI ∧ Fc (quorumlaw8_ChainTells.j19 kq aN aq gN 1 fI ai ah aE ay dS da (⟨#[]⟩ : ByteArray) = some r) ∧ Fc (kq ≤ kj225) ∧ Fc (Kd.R k39 39 wc w.heap.size (fun _ => True) (.slice ei da.length ej) da) ∧ Fc (wc.heap[af]? = some (.cells #[(.slice A0_0 ai.length c0_0), (.slice (some bl) ah.length c0_1), (.slice A0_2 aE.length c0_2), (.slice (some cm) ay.length c0_3)] 27 (0, 0))) ∧ Fc (wc.heap[bY]? = some (.cells #[.string dS, (.slice ei da.length ej)] 30 (0, 0))) ∧ Fc (wc.heap[db]? = some (.cells #[.string (⟨#[]⟩ : ByteArray), (.slice none 0 0)] 30 (0, 0))) ∧ Fc (Below w.heap.size w wc))
  case first =>
   have H := HC236.out
   clear HC236
   replace H := Option.bind_eq_some_iff.mp H
   obtain ⟨rh, A2450, H⟩ := H
   try dsimp only at H
   have A245 := mk0 A2450
   clear A2450
   by_cases c246 : rh = true
   rotate_left
   ·replace c246 := Bool.eq_false_iff.mpr c246
    subst c246
    rw [if_neg (show ¬ (false = true) by decide)] at H
    have H' := mk0 H
    clear H
    have ri := aP.out
    have rj := bT.out
    have rk := bh.out
    have rl := dK.out
    obtain ⟨hS, hT, hU, hV, hW, hX, hY, hZ⟩ := c4_ ab
    have im : 0 ≤ (aN : Int) := of_decide_eq_true (by first | (with_reducible assumption) | assumption)
    have io : aN < (ay.length : Int) := of_decide_eq_true (by first | (with_reducible assumption) | assumption)
    obtain ⟨kI, mB, dj⟩ := Kd.at_string iq.out aN im io
    obtain rfl : cm = kI := (by injection mB)
    replace dj := (bc_ HB dj :)
    replace im := eq_true im
    replace io := eq_true io
    go_wp2_with (first | ((with_reducible refine gate_callee (f := 29) rfl ?_); refine gL_ (some 307) Try.func29 #[.string (rdOf ByteArray.empty ay aN)] (h := ?_); (with_reducible refine (quorumref1_Key.calls (rdOf ByteArray.empty ay aN) false _ A245.out).mono ?_); rintro e w' ⟨rfl, ⟨nd, rfl⟩⟩; refine ⟨_, rfl, ?_⟩))
    go_meet
    case rel => exact ⟨_, (false), (by first | rfl | (simp; done) | (simp [*]; done)), H', ⟨by have := cC.out; have := br.out; have := jF.out; have := eg.out; have := dJ.out; have := eQ.out; first | omega | exact Nat.le_refl _⟩, ⟨by (with_reducible repeat (first | apply Ra_ | apply Rn_ | apply Rd_)); exact di.out⟩, ⟨h_ ab⟩, ⟨h_ bm⟩, ⟨h_ bL⟩, ⟨b_ HB⟩⟩
   subst c246
   rw [if_pos rfl] at H
   replace H := Option.bind_eq_some_iff.mp H
   obtain ⟨nn, A2470, H⟩ := H
   try dsimp only at H
   have A247 := mk0 A2470
   clear A2470
   have H' := mk0 H
   clear H
   have rm := aP.out
   have rn := bT.out
   have ro := bh.out
   have rp := dK.out
   obtain ⟨ia, ib, ic, ie, ig, ih, ii, ij⟩ := c4_ ab
   have im : 0 ≤ (aN : Int) := of_decide_eq_true (by first | (with_reducible assumption) | assumption)
   have io : aN < (ay.length : Int) := of_decide_eq_true (by first | (with_reducible assumption) | assumption)
   obtain ⟨kI, mB, dj⟩ := Kd.at_string iq.out aN im io
   obtain rfl : cm = kI := (by injection mB)
   replace dj := (bc_ HB dj :)
   replace im := eq_true im
   replace io := eq_true io
   go_wp2_with (first | ((with_reducible refine gate_callee (f := 29) rfl ?_); refine gL_ (some 307) Try.func29 #[.string (rdOf ByteArray.empty ay aN)] (h := ?_); (with_reducible refine (quorumref1_Key.calls (rdOf ByteArray.empty ay aN) true _ A245.out).mono ?_); rintro e w' ⟨rfl, ⟨nd, rfl⟩⟩; refine ⟨_, rfl, ?_⟩; have kC : 0 ≤ (aq : Int) := of_decide_eq_true (by first | (with_reducible assumption) | assumption); have kD : aq < (ah.length : Int) := of_decide_eq_true (by first | (with_reducible assumption) | assumption); obtain ⟨np, rq, fJ, fK, fL⟩ := at_T39 gK.out aq kC kD; obtain rfl : bl = np := (by injection rq); replace fJ := (bc_ HB fJ :); replace fK := (bc_ HB fK :); replace fL := (bc_ HB fL :); replace kC := eq_true kC; replace kD := eq_true kD) | (go_at_call 30; (with_reducible refine (quorumref8_Version.calls ((rd_T39 ah aq).f0) ((rd_T39 ah aq).f1) ((rd_T39 ah aq).f2) nn _ A247.out).mono ?_); rintro e w251 ⟨rfl, hb⟩; replace di := mk0 (Kd.R_below (r_ di) hb); replace ab := mk0 (u_ ab hb); replace bm := mk0 (u_ bm hb); replace bL := mk0 (blk_below (g := db) (o := .cells #[.string (⟨#[]⟩ : ByteArray), .slice none 0 0] 30 (0, 0)) (h_ bL) hb); replace HB := mk0 (bt_ (b_ HB) hb); (try clear hb)))
   go_meet
   case rel => exact ⟨_, (nn), (by first | rfl | (simp; done) | (simp [*]; done)), H', ⟨by have := cC.out; have := br.out; have := jF.out; have := eg.out; have := dJ.out; have := eQ.out; first | omega | exact Nat.le_refl _⟩, ⟨by (with_reducible repeat (first | apply Ra_ | apply Rn_ | apply Rd_)); exact di.out⟩, ⟨h_ ab⟩, ⟨h_ bm⟩, ⟨h_ bL⟩, ⟨b_ HB⟩⟩
  clear HC236
  try clear p1
  try clear c3
  try clear c19
  try clear c20
  try clear c21
  try clear c138
  try clear c139
  try clear c140
  try clear c176
  try clear cl
  try clear dq
  try clear c178
  try clear c179
  try clear c180
  try clear c190
  try clear c191
  try clear ek
  try clear c192
  try clear eU
  try clear el
  try clear em
  try clear c201
  try clear eV
  try clear c202
  try clear eW
  try clear c204
  try clear c222
  try clear cZ
  try clear c225
  try clear c227
  try clear dR
  try clear c230
  try clear c231
  try clear jm
  try clear c232
  try clear jn
  try clear c233
  try clear jo
  try clear c234
  try clear jp
  try clear c246
  try clear cN cO cP cQ
  try clear cR cS cT cU
  try clear cV cW cX cY
  try clear dt du dv dw dx dy dz dA
  try clear dB dC dD dE dF dG dH dI
  try clear fs ft fu fv fw fx fy fz
  try clear fA fB fC fD fE fF fG fH
  try clear ia ib ic ie ig ih ii ij
  try clear hS hT hU hV hW hX hY hZ
  try clear dO dP dQ
  try clear df dg dh
  try clear bH bI
  try clear dT
  try clear dV dW dX
  try clear dj
  try clear fJ fK fL
  try clear p1
  try clear el
  try clear fo
  try clear ky
  try clear kA
  try clear im
  try clear kC
  try clear em
  try clear fp
  try clear kz
  try clear kB
  try clear io
  try clear kD
  obtain ⟨kq, fI, rfl, HA, ir, bc, ab, bm, bL, HB⟩ := hcut
  cases kq with
  | zero => exact absurd HA.out (by simp [quorumlaw8_ChainTells.j19])
  | succ kj235 =>
  have H := HA.out
  clear HA
  simp only [quorumlaw8_ChainTells.j19] at H
  as_aux_lemma =>
  have HC255 := mk0 H
  clear H
  go_upto_if 315 with (fail)
  go_cut [31] (fun v31 wc => ∃ (kq : Nat) (dk : Int) (cz : ByteArray) (cA : List (S39)) (u362001 : Value), v31 = .int .i64 dk ∧ Fc (quorumlaw8_ChainTells.j20 kq aN aq gN dk ai ah aE ay dS da cz cA = some r) ∧ Fc (kq ≤ kj235) ∧ Fc (Kd.R k39 39 wc w.heap.size (fun k_ => some k_ ≠ (u362001 : Value).ownBlock) (.slice ei da.length ej) da) ∧ Fc (Kd.R k39 39 wc w.heap.size (fun k_ => some k_ ≠ ((.slice ei da.length ej) : Value).ownBlock) u362001 cA) ∧ Fc (wc.heap[af]? = some (.cells #[(.slice A0_0 ai.length c0_0), (.slice (some bl) ah.length c0_1), (.slice A0_2 aE.length c0_2), (.slice (some cm) ay.length c0_3)] 27 (0, 0))) ∧ Fc (wc.heap[bY]? = some (.cells #[.string dS, (.slice ei da.length ej)] 30 (0, 0))) ∧ Fc (wc.heap[db]? = some (.cells #[.string cz, u362001] 30 (0, 0))) ∧ Fc (Below w.heap.size w wc))
  case first =>
   have H := HC255.out
   clear HC255
   by_cases c256 : fI = true
   rotate_left
   ·replace c256 := Bool.eq_false_iff.mpr c256
    subst c256
    rw [if_neg (show ¬ (false = true) by decide)] at H
    have H' := mk0 H
    clear H
    go_wp2
    go_meet
    case rel => exact ⟨_, (1), ((⟨#[]⟩ : ByteArray)), (([] : List (S39))), (.slice none 0 0), (by first | rfl | (simp; done) | (simp [*]; done)), H', ⟨by have := cC.out; have := br.out; have := jF.out; have := eg.out; have := dJ.out; have := eQ.out; have := ir.out; first | omega | exact Nat.le_refl _⟩, ⟨by (with_reducible repeat (first | apply Ra_ | apply Rn_ | apply Rd_)); exact Kd.R_mono bc.out (fun _ hk => (by simp [Value.ownBlock]))⟩, ⟨by first | exact Kd.R_nil _ _ _ _ _ | exact Kd.N_nil _ _ _ _ _ | exact Kd.V_nil _ _ _ _ _ | exact Kd.Q_nil _ _ _ _ _ | exact Kd.S_nil _ _ _ _ _⟩, ⟨h_ ab⟩, ⟨h_ bm⟩, ⟨h_ bL⟩, ⟨b_ HB⟩⟩
   subst c256
   rw [if_pos rfl] at H
   by_cases c257 : 0 ≤ aN
   rotate_left
   ·rw [if_neg c257] at H
    exact absurd H (by simp)
   rw [if_pos c257] at H
   have iB : decide (0 ≤ aN) = true := decide_eq_true c257
   clear c257
   (first | rw [iB] | (simp only [i64_w, i32_w]; rw [iB]) | skip)
   by_cases c258 : aN < (ay.length : Int)
   rotate_left
   ·rw [if_neg c258] at H
    exact absurd H (by simp)
   rw [if_pos c258] at H
   have kJ : decide (aN < (ay.length : Int)) = true := decide_eq_true c258
   clear c258
   by_cases c259 : 0 ≤ aq
   rotate_left
   ·rw [if_neg c259] at H
    exact absurd H (by simp)
   rw [if_pos c259] at H
   have kK : decide (0 ≤ aq) = true := decide_eq_true c259
   clear c259
   by_cases c260 : aq < (ah.length : Int)
   rotate_left
   ·rw [if_neg c260] at H
    exact absurd H (by simp)
   rw [if_pos c260] at H
   have kL : decide (aq < (ah.length : Int)) = true := decide_eq_true c260
   clear c260
   obtain ⟨kM, hy368⟩ : ∃ y_ : List (S39), y_ = (([(⟨(rd_T39 ah aq).f0, (rd_T39 ah aq).f1, (rd_T39 ah aq).f2⟩ : S39)] : List (S39))) := ⟨_, rfl⟩
   replace H : (quorumlaw8_ChainTells.j20 kj235 aN aq gN 0 ai ah aE ay dS da (rdOf ByteArray.empty ay aN) kM) = some r := by first | (rw [hy368]; with_reducible exact H) | (have H2_ := (Option.bind_some _ _).symm.trans H; rw [hy368]; with_reducible exact H2_) | (have H2_ := (Option.bind_some _ _).symm.trans H; with_reducible exact H2_) | with_reducible exact H | (rw [hy368]; exact H) | exact H
   have Ny368 := mk0 hy368
   clear hy368
   have H' := mk0 H
   clear H
   try go_wp2
   replace bc := mk0 (Rd_ bc.out)
   replace ab := mk0 (bD_ ab.out)
   replace bm := mk0 (bD_ bm.out)
   replace bL := mk0 (bD_ bL.out)
   replace HB := mk0 (b1_ HB.out)
   have kN : 0 ≤ (aN : Int) := of_decide_eq_true (by first | (with_reducible assumption) | assumption)
   have kO : aN < (ay.length : Int) := of_decide_eq_true (by first | (with_reducible assumption) | assumption)
   obtain ⟨nq, rr, eA⟩ := Kd.at_string iq.out aN kN kO
   have gO := eA
   obtain rfl : cm = nq := (by injection rr)
   replace eA := (bc_ HB eA :)
   replace kN := eq_true kN
   replace kO := eq_true kO
   have kP : 0 ≤ (aq : Int) := of_decide_eq_true (by first | (with_reducible assumption) | assumption)
   have kQ : aq < (ah.length : Int) := of_decide_eq_true (by first | (with_reducible assumption) | assumption)
   obtain ⟨nr, rs, eB, eC, eD⟩ := at_T39 gK.out aq kP kQ
   have gP := eD
   have gQ := eC
   have gR := eB
   obtain rfl : bl = nr := (by injection rs)
   replace eB := (bc_ HB eB :)
   replace eC := (bc_ HB eC :)
   replace eD := (bc_ HB eD :)
   replace kP := eq_true kP
   replace kQ := eq_true kQ
   refine start_ (n := 14) (S := fun w' => w'.cell? ⟨af, 0, none⟩ = some (.slice A0_0 ai.length c0_0) ∧ w'.cell? ⟨af, 1, none⟩ = some (.slice (some bl) ah.length c0_1) ∧ w'.cell? ⟨af, 2, none⟩ = some (.slice A0_2 aE.length c0_2) ∧ w'.cell? ⟨af, 3, none⟩ = some (.slice (some cm) ay.length c0_3) ∧ w'.cell? (cm.add (aN).toNat) = some (.string (rdOf ByteArray.empty ay aN)) ∧ w'.cell? (bl.add ((aq).toNat * 3)) = some (.int .i64 ((rd_T39 ah aq).f0)) ∧ w'.cell? ⟨(bl.add ((aq).toNat * 3)).block, (bl.add ((aq).toNat * 3)).off + 1, none⟩ = some (.string ((rd_T39 ah aq).f1)) ∧ w'.cell? ⟨(bl.add ((aq).toNat * 3)).block, (bl.add ((aq).toNat * 3)).off + 2, none⟩ = some (.bool ((rd_T39 ah aq).f2))) (ds := []) (bt 14 0) (by kernel_rfl) rfl rfl ⟨bk_ ab 0, bk_ ab 1, bk_ ab 2, bk_ ab 3, (bc_ HB gO :), (bc_ HB gR :), (bc_ HB gQ :), (bc_ HB gP :)⟩ (fun hHeld => ?_); refine with_tabW quorumlaw8_ChainTells.tab57 quorumlaw8_ChainTells.bits57 (fun HT_ HW_ => ?_)
   generalize wc.drew = w261 at bc ab bm bL HB eA eB eC eD hHeld ⊢
   refine pq_ HT_.out 0 316 (bt 14 1) (h := ?_)
   refine pq_ HT_.out 2 318 (bt 14 5) (h := ?_)
   refine pq_ HT_.out 5 321 (bt 14 37) (h := ?_)
   refine pq_ HT_.out 7 323 (bt 14 165) (h := ?_)
   refine pq_ HT_.out 12 31 (bt 14 4261) (h := ?_)
   refine tq8_ HT_.out HW_.out 1 317 (bt 14 4263) hHeld (h := ?_)
   refine pq_ HT_.out 3 319 (bt 14 4271) (h := ?_)
   refine tq8_ HT_.out HW_.out 4 320 (bt 14 4287) hHeld (h := ?_)
   refine tq8_ HT_.out HW_.out 6 322 (bt 14 4351) hHeld (h := ?_)
   refine pq_ HT_.out 8 324 (bt 14 4607) (h := ?_)
   refine tq8_ HT_.out HW_.out 9 325 (bt 14 5119) hHeld (h := ?_)
   refine one_ (i := 10) (N := some 326) (bt 14 6143) rfl rfl (one_of HT_.out (by kernel_rfl)) (by decide) (fun K hK => ?_)
   refine Kd.R_lit_step k39 _ 39 ?hg (N := 326) ?hd (xs := ([(⟨(rd_T39 ah aq).f0, (rd_T39 ah aq).f1, (rd_T39 ah aq).f2⟩ : S39)] : List (S39))) (inner := [.int .i64 ((rd_T39 ah aq).f0), .string ((rd_T39 ah aq).f1), .bool ((rd_T39 ah aq).f2)]) (ok := fun _ => True) (okp := fun _ => True) ?hr ?hp (fun _ hk => hk) trivial (Below.refl _ _) (Nat.le_refl _) (by simp) ?_; (case hd => rfl); (case hg => rfl); (case hr => first | (go_simp; done) | (go_simp; rfl)); (case hp => exact (Reps.c3 (show Kd.M k39 _ _ _ (⟨(rd_T39 ah aq).f0, (rd_T39 ah aq).f1, (rd_T39 ah aq).f2⟩ : S39) [.int .i64 ((rd_T39 ah aq).f0), .string ((rd_T39 ah aq).f1), .bool ((rd_T39 ah aq).f2)] from (k39_mkM _ _ _ (⟨(rd_T39 ah aq).f0, (rd_T39 ah aq).f1, (rd_T39 ah aq).f2⟩ : S39) )) (Reps.none _ _)))
   intro v369 w262 ho263 hb hg_ hnew_
   clear hg_ hnew_
   (first | rw [← Ny368.out] at ho263 | (simp only [Int.reduceToNat] at ho263; rw [← Ny368.out] at ho263))
   have n1_ := mk0 (Kd.R_lower (Kd.R_new' ho263 (Kd.R_lt (r_ bc))) (bz_ (b_ HB)))
   replace bc := mk0 (Kd.R_elder' (r_ bc) (Kd.R_base ho263) hb)
   replace ab := mk0 (u_ ab hb)
   replace bm := mk0 (u_ bm hb)
   replace bL := mk0 (blk_below (g := db) (o := .cells #[.string (⟨#[]⟩ : ByteArray), .slice none 0 0] 30 (0, 0)) (h_ bL) hb)
   replace HB := mk0 (bt_ (b_ HB) hb)
   have mc := n1_
   clear n1_ hb ho263
   obtain ⟨kR, kS, md⟩ := Kd.R_slice mc.out
   (first | subst md | (injection md with f1_ f2_ f3_; have f4_ := f1_.symm; have f5_ := f3_.symm; clear f1_ f2_ f3_; subst f4_; subst f5_))
   refine hK.out _ _ ⟨bk_ ab 0, bk_ ab 1, bk_ ab 2, bk_ ab 3, (bc_ HB gO :), (bc_ HB gR :), (bc_ HB gQ :), (bc_ HB gP :)⟩ (fun hHeld => ?_)
   clear hK K
   refine norm_ (a' := ?_) ?_ ?_
   rotate_left
   ·show Act.put _ (some 326) _ = _
    simp only [z_]
    rfl
   refine pq_ HT_.out 11 327 (bt 14 8191) (h := ?_)
   refine one_ (i := 13) (N := none) (bt 14 16383) rfl rfl (one_of HT_.out (by kernel_rfl)) (by decide) (fun K hK => ?_)
   have hs265 : w262.cell? ⟨db, 0, none⟩ = some (.string (⟨#[]⟩ : ByteArray)) := bk_ bL 0
   have hfs265 := blk_frozen bL.out 0
   have ns := bh.out
   have nt := dL.out
   have nu := dK.out
   have nv := gB.out
   have hs266 : w262.cell? ⟨db, 1, none⟩ = some (.slice none 0 0) := bk_ bL 1
   have hfs266 := blk_frozen bL.out 1
   have nw := bh.out
   have nx := dL.out
   have ny := dK.out
   have nz := gB.out
   refine skip_ (w1 := ?_) (by rfl) rfl ?_ ?_
   rotate_left
   ·go_simp
    rfl
   refine hK.out _ _ ⟨(cf_ bh.out (cf_ bh.out hHeld.1)), (cf_ bh.out (cf_ bh.out hHeld.2.1)), (cf_ bh.out (cf_ bh.out hHeld.2.2.1)), (cf_ bh.out (cf_ bh.out hHeld.2.2.2.1)), (cf_ (nb_ gO gL) (cf_ (nb_ gO gL) hHeld.2.2.2.2.1)), (cf_ (nb_ gR gL) (cf_ (nb_ gR gL) hHeld.2.2.2.2.2.1)), (cf_ (nb_ gQ gL) (cf_ (nb_ gQ gL) hHeld.2.2.2.2.2.2.1)), (cf_ (nb_ gP gL) (cf_ (nb_ gP gL) hHeld.2.2.2.2.2.2.2))⟩ (fun hHeld => ?_)
   clear hK K
   refine done_ (done_of HT_.out (by kernel_rfl)) ?_
   try go_wp2
   go_meet
   case rel => exact ⟨_, (0), (rdOf ByteArray.empty ay aN), (kM), (.slice kR kM.length kS), (by first | rfl | (simp; done) | (simp [*]; done)), H', ⟨by have := cC.out; have := br.out; have := jF.out; have := eg.out; have := dJ.out; have := eQ.out; have := ir.out; first | omega | exact Nat.le_refl _⟩, ⟨by (with_reducible repeat (first | apply Ra_ | apply Rn_ | apply Rd_)); exact Kd.R_mono (Kd.R_far (p := ⟨db, 1, none⟩) (Kd.R_far (p := ⟨db, 0, none⟩) (Kd.R_types bc.out bL.out (by decide)) (fun _ hk => hk.2) (.string (rdOf ByteArray.empty ay aN))) (fun _ hk => hk.2) (.slice kR kM.length kS)) (fun _ hk => hk.1.2)⟩, ⟨by (with_reducible repeat (first | apply Ra_ | apply Rn_ | apply Rd_)); exact Kd.R_mono (Kd.R_far (p := ⟨db, 1, none⟩) (Kd.R_far (p := ⟨db, 0, none⟩) (Kd.R_types mc.out bL.out (by decide)) (fun _ hk => hk.2) (.string (rdOf ByteArray.empty ay aN))) (fun _ hk => hk.2) (.slice kR kM.length kS)) (fun _ hk => hk.1.2)⟩, ⟨(fa_ (fa_ (h_ ab) bh.out) bh.out)⟩, ⟨(fa_ (fa_ (h_ bm) dL.out) dL.out)⟩, ⟨(pu_ (cs := #[.string (rdOf ByteArray.empty ay aN), .slice none 0 0]) (pu_ (cs := #[.string (⟨#[]⟩ : ByteArray), .slice none 0 0]) (h_ bL)))⟩, ⟨b_ HB⟩⟩
  clear HC255
  try clear p1
  try clear c3
  try clear c19
  try clear c20
  try clear c21
  try clear c138
  try clear c139
  try clear c140
  try clear c176
  try clear cl
  try clear dq
  try clear c178
  try clear c179
  try clear c180
  try clear c190
  try clear c191
  try clear ek
  try clear c192
  try clear eU
  try clear el
  try clear em
  try clear c201
  try clear eV
  try clear c202
  try clear eW
  try clear c204
  try clear c222
  try clear cZ
  try clear c225
  try clear c227
  try clear dR
  try clear c230
  try clear c231
  try clear jm
  try clear c232
  try clear jn
  try clear c233
  try clear jo
  try clear c234
  try clear jp
  try clear c246
  try clear c256
  try clear c257
  try clear iB
  try clear c258
  try clear kJ
  try clear c259
  try clear kK
  try clear c260
  try clear kL
  try clear cN cO cP cQ
  try clear cR cS cT cU
  try clear cV cW cX cY
  try clear dt du dv dw dx dy dz dA
  try clear dB dC dD dE dF dG dH dI
  try clear fs ft fu fv fw fx fy fz
  try clear fA fB fC fD fE fF fG fH
  try clear ia ib ic ie ig ih ii ij
  try clear hS hT hU hV hW hX hY hZ
  try clear dO dP dQ
  try clear df dg dh
  try clear bH bI
  try clear dT
  try clear dV dW dX
  try clear dj
  try clear fJ fK fL
  try clear eA
  try clear eB eC eD
  try clear p1
  try clear el
  try clear fo
  try clear ky
  try clear kA
  try clear im
  try clear kC
  try clear kN
  try clear kP
  try clear em
  try clear fp
  try clear kz
  try clear kB
  try clear io
  try clear kD
  try clear kO
  try clear kQ
  obtain ⟨kq, dk, cz, cA, u362001, rfl, HA, jH, bc, cf, ab, bm, bL, HB⟩ := hcut
  cases kq with
  | zero => exact absurd HA.out (by simp [quorumlaw8_ChainTells.j20])
  | succ kj254 =>
  have H := HA.out
  clear HA
  simp only [quorumlaw8_ChainTells.j20] at H
  as_aux_lemma =>
  have HC267 := mk0 H
  clear H
  go_upto_region 58 with (fail)
  go_cut [337] (fun v337 wc => ∃ (kq : Nat) (fM : Bool), v337 = .bool fM ∧ Fc (quorumlaw8_ChainTells.j21 kq aN aq fM ai ah aE ay = some r) ∧ Fc (kq ≤ kj254) ∧ Fc (Kd.R k39 39 wc w.heap.size (fun k_ => some k_ ≠ (u362001 : Value).ownBlock) (.slice ei da.length ej) da) ∧ Fc (Kd.R k39 39 wc w.heap.size (fun k_ => some k_ ≠ ((.slice ei da.length ej) : Value).ownBlock) u362001 cA) ∧ Fc (wc.heap[af]? = some (.cells #[(.slice A0_0 ai.length c0_0), (.slice (some bl) ah.length c0_1), (.slice A0_2 aE.length c0_2), (.slice (some cm) ay.length c0_3)] 27 (0, 0))) ∧ Fc (wc.heap[bY]? = some (.cells #[.string dS, (.slice ei da.length ej)] 30 (0, 0))) ∧ Fc (wc.heap[db]? = some (.cells #[.string cz, u362001] 30 (0, 0))) ∧ Fc (Below w.heap.size w wc))
  case first =>
   have H := HC267.out
   clear HC267
   replace H := Option.bind_eq_some_iff.mp H
   obtain ⟨jq, A2680, H⟩ := H
   try dsimp only at H
   have A268 := mk0 A2680
   clear A2680
   by_cases c269 : jq = dk
   rotate_left
   ·rw [if_neg c269] at H
    have gC : (jq == dk) = false := beq_eq_false_iff_ne.mpr c269
    have kT : (jq != dk) = true := bne_iff_ne.mpr c269
    (first | rw [gC] | (simp only [i64_w, i32_w]; rw [gC]) | skip)
    have H' := mk0 H
    clear H
    go_wp2_with (first | ((with_reducible refine gate_callee (f := 19) rfl ?_); refine gL_ (some 329) Try.func19 #[.int .i64 gN] (h := ?_); (with_reducible refine (quorumlaw8_num.calls gN jq _ A268.out).mono ?_); rintro e w' ⟨rfl, ⟨nd, rfl⟩⟩; refine ⟨_, rfl, ?_⟩))
    go_meet
    case rel => exact ⟨_, (true), (by first | rfl | (simp; done) | (simp [*]; done)), H', ⟨by have := cC.out; have := br.out; have := jF.out; have := eg.out; have := dJ.out; have := eQ.out; have := ir.out; have := jH.out; first | omega | exact Nat.le_refl _⟩, ⟨by (with_reducible repeat (first | apply Ra_ | apply Rn_ | apply Rd_)); exact bc.out⟩, ⟨by (with_reducible repeat (first | apply Ra_ | apply Rn_ | apply Rd_)); exact cf.out⟩, ⟨h_ ab⟩, ⟨h_ bm⟩, ⟨h_ bL⟩, ⟨b_ HB⟩⟩
   rw [if_pos c269] at H
   have gC : (jq == dk) = true := beq_iff_eq.mpr c269
   have kT : (jq != dk) = false := bne_eq_false_iff_eq.mpr c269
   clear c269
   (first | rw [gC] | (simp only [i64_w, i32_w]; rw [gC]) | skip)
   replace H := Option.bind_eq_some_iff.mp H
   obtain ⟨nA, A2700, H⟩ := H
   try dsimp only at H
   have A270 := mk0 A2700
   clear A2700
   have H' := mk0 H
   clear H
   go_wp2_with (first | ((with_reducible refine gate_callee (f := 19) rfl ?_); refine gL_ (some 329) Try.func19 #[.int .i64 gN] (h := ?_); (with_reducible refine (quorumlaw8_num.calls gN jq _ A268.out).mono ?_); rintro e w' ⟨rfl, ⟨nd, rfl⟩⟩; refine ⟨_, rfl, ?_⟩; have rt := bT.out; have ru := aP.out; have rv := dL.out; have rx := gB.out; obtain ⟨kU, kV, kW, kX⟩ := c2_ bm; have ry := dK.out; have rz := bh.out; obtain ⟨kY, kZ, la, lb⟩ := c2_ bL; obtain ⟨sC, sD, nB⟩ := Kd.R_slice cf.out; subst nB) | (go_at_call 25; (with_reducible refine (quorumref0_EqChain.calls kj254 dS _ _ da cz _ _ cA nA _ ?side1 ?side2 ?side3 ?side4 A270.out).mono ?_); (case side1 => exact cr_ bc); (case side2 => exact (Kd.R_reads' bc.out).2.1); (case side3 => exact cr_ cf); (case side4 => exact (Kd.R_reads' cf.out).2.1); rintro e w277 ⟨rfl, hb⟩; replace bc := mk0 (Kd.R_below (r_ bc) hb); replace cf := mk0 (Kd.R_below (r_ cf) hb); replace ab := mk0 (u_ ab hb); replace bm := mk0 (u_ bm hb); replace bL := mk0 (u_ bL hb); replace HB := mk0 (bt_ (b_ HB) hb); (try clear hb)))
   go_meet
   case rel => exact ⟨_, (!nA), (by first | rfl | (simp; done) | (simp [*]; done)), H', ⟨by have := cC.out; have := br.out; have := jF.out; have := eg.out; have := dJ.out; have := eQ.out; have := ir.out; have := jH.out; first | omega | exact Nat.le_refl _⟩, ⟨by (with_reducible repeat (first | apply Ra_ | apply Rn_ | apply Rd_)); exact bc.out⟩, ⟨by (with_reducible repeat (first | apply Ra_ | apply Rn_ | apply Rd_)); exact cf.out⟩, ⟨h_ ab⟩, ⟨h_ bm⟩, ⟨h_ bL⟩, ⟨b_ HB⟩⟩
  clear HC267
  try clear p1
  try clear c3
  try clear c19
  try clear c20
  try clear c21
  try clear c138
  try clear c139
  try clear c140
  try clear c176
  try clear cl
  try clear dq
  try clear c178
  try clear c179
  try clear c180
  try clear c190
  try clear c191
  try clear ek
  try clear c192
  try clear eU
  try clear el
  try clear em
  try clear c201
  try clear eV
  try clear c202
  try clear eW
  try clear c204
  try clear c222
  try clear cZ
  try clear c225
  try clear c227
  try clear dR
  try clear c230
  try clear c231
  try clear jm
  try clear c232
  try clear jn
  try clear c233
  try clear jo
  try clear c234
  try clear jp
  try clear c246
  try clear c256
  try clear c257
  try clear iB
  try clear c258
  try clear kJ
  try clear c259
  try clear kK
  try clear c260
  try clear kL
  try clear c269
  try clear gC
  try clear kT
  try clear cN cO cP cQ
  try clear cR cS cT cU
  try clear cV cW cX cY
  try clear dt du dv dw dx dy dz dA
  try clear dB dC dD dE dF dG dH dI
  try clear fs ft fu fv fw fx fy fz
  try clear fA fB fC fD fE fF fG fH
  try clear ia ib ic ie ig ih ii ij
  try clear hS hT hU hV hW hX hY hZ
  try clear kU kV kW kX
  try clear kY kZ la lb
  try clear dO dP dQ
  try clear df dg dh
  try clear bH bI
  try clear dT
  try clear dV dW dX
  try clear dj
  try clear fJ fK fL
  try clear eA
  try clear eB eC eD
  try clear p1
  try clear el
  try clear fo
  try clear ky
  try clear kA
  try clear im
  try clear kC
  try clear kN
  try clear kP
  try clear em
  try clear fp
  try clear kz
  try clear kB
  try clear io
  try clear kD
  try clear kO
  try clear kQ
  obtain ⟨kq, fM, rfl, HA, me, bc, cf, ab, bm, bL, HB⟩ := hcut
  cases kq with
  | zero => exact absurd HA.out (by simp [quorumlaw8_ChainTells.j21])
  | succ kj266 =>
  have H := HA.out
  clear HA
  simp only [quorumlaw8_ChainTells.j21] at H
  as_aux_lemma =>
  by_cases c278 : fM = true
  ·subst c278
   rw [if_pos rfl] at H
   obtain rfl := Option.some.inj H
   go_wp2
   go_ret
   exact ⟨by first | rfl | (simp [errW_none, errW_some] <;> rfl) | (simp [*, errW_none, errW_some] <;> rfl), b_ HB⟩
  replace c278 := Bool.eq_false_iff.mpr c278
  subst c278
  rw [if_neg (show ¬ (false = true) by decide)] at H
  have H' := mk0 H
  clear H
  go_wp2
  go_roundg kj266
  case measure => have := cC.out; have := br.out; have := jF.out; have := eg.out; have := dJ.out; have := eQ.out; have := ir.out; have := jH.out; have := me.out; omega
  case rel => exact ⟨(wrap64 (aq + 1)), (by first | rfl | (simp; done) | (simp [*]; done)), H', ⟨by have := cC.out; have := br.out; have := jF.out; have := eg.out; have := dJ.out; have := eQ.out; have := ir.out; have := jH.out; have := me.out; omega⟩, ⟨h_ ab⟩, ⟨b_ HB⟩⟩
 subst c19
 rw [if_pos rfl] at H
 by_cases c20 : 0 ≤ aj
 rotate_left
 ·rw [if_neg c20] at H
  exact absurd H (by simp)
 rw [if_pos c20] at H
 have jI : decide (0 ≤ aj) = true := decide_eq_true c20
 clear c20
 by_cases c21 : aj < (ai.length : Int)
 rotate_left
 ·rw [if_neg c21] at H
  exact absurd H (by simp)
 rw [if_pos c21] at H
 have jJ : decide (aj < (ai.length : Int)) = true := decide_eq_true c21
 clear c21
 replace H := Option.bind_eq_some_iff.mp H
 obtain ⟨⟨aM, aI⟩, A220, H⟩ := H
 try dsimp only at H
 have A22 := mk0 A220
 clear A220
 replace H := Option.bind_eq_some_iff.mp H
 obtain ⟨en, A230, H⟩ := H
 try dsimp only at H
 have A23 := mk0 A230
 clear A230
 replace H := Option.bind_eq_some_iff.mp H
 obtain ⟨⟨mC, mD⟩, A240, H⟩ := H
 try dsimp only at H
 have A24 := mk0 A240
 clear A240
 have HC25 := mk0 H
 clear H
 obtain ⟨gS, gT, gU, gV, gW, gX, gY, gZ⟩ := c4_ ab
 have jr : 0 ≤ (aj : Int) := of_decide_eq_true (by first | (with_reducible assumption) | assumption)
 have js : aj < (ai.length : Int) := of_decide_eq_true (by first | (with_reducible assumption) | assumption)
 obtain ⟨aw, A277_1, c277_1, rA, eE, eF, jK, jL⟩ := at_T30 dr.out aj jr js
 cases rA
 replace eE := (bc_ HB eE :)
 replace eF := (bc_ HB eF :)
 have lD := mk0 jL
 have lE := mk0 jK
 clear jL jK
 replace jr := eq_true jr
 replace js := eq_true js
 go_upto_if 67 with (first | ((with_reducible refine gate_callee (f := 16) rfl ?_); refine gL_ (some 55) Try.func16 #[.agg #[.string ((rd_T30 ai aj).f0), .slice A277_1 ((rd_T30 ai aj).f1).length c277_1]] (h := ?_); (with_reducible refine (quorumref0_CopyChain.calls kj14 ((rd_T30 ai aj).f0) _ _ ((rd_T30 ai aj).f1) aM aI _ ?side1 ?side2 A22.out).mono ?_); (case side1 => exact cb_ lD HB); (case side2 => exact lE.out); rintro e w27 ⟨v280, rfl, ho0, hb⟩; refine ⟨_, rfl, ?_⟩; have n1_ := mk0 (Kd.R_lower ho0 (bz_ (b_ HB))); replace ad := mk0 (Kd.R_below (r_ ad) hb); replace ab := mk0 (u_ ab hb); replace HB := mk0 (bt_ (b_ HB) hb); have dl := n1_; clear n1_; (try clear hb); (try clear ho0)) | ((with_reducible refine gate_dst (N := 5) rfl ?_); refine bx_ (N := 5) (cs := #[.string (⟨#[]⟩ : ByteArray), .slice none 0 0]) (t := 30) (h := ?_); intro az hg w28 hbox hb; have n5_ := mk0 (gz_ HB hg); have n6_ := mk0 (gz_ HB hg); have n7_ := mk0 (ne1_ ab hg); have n8_ := mk0 (ne2_ ab hg); replace ad := mk0 (Kd.R_below (r_ ad) hb); replace dl := mk0 (Kd.R_below (r_ dl) hb); replace ab := mk0 (u_ ab hb); replace HB := mk0 (bt_ (b_ HB) hb); have ac := mk0 (hbox); have mf := n5_; have sE := n6_; have cg := n7_; have cF := n8_; clear n5_ n6_ n7_ n8_ hb hbox hg; have sF := cF.out; have sG := cg.out; obtain ⟨ha, hc, he, hf⟩ := c2_ ac; obtain ⟨aY, aZ, rB⟩ := Kd.R_slice dl.out; subst rB; obtain ⟨hh, hj, hl, hm, hn, hq, hs, ht⟩ := c4_ ab; have jt : 0 ≤ (aj : Int) := of_decide_eq_true (by first | (with_reducible assumption) | assumption); have ju : aj < (ai.length : Int) := of_decide_eq_true (by first | (with_reducible assumption) | assumption); obtain ⟨nC, A283_1, c283_1, rC, cc, cy, jM, jN⟩ := at_T30 dr.out aj jt ju; obtain rfl : aw = nC := (by injection rC); have eb : aw.block ≠ az := nb_ cc mf; have ec : aw.block ≠ az := nb_ cc mf; replace cc := (bc_ HB cc :); replace cy := (bc_ HB cy :); have lF := mk0 jN; have lG := mk0 jM; clear jN jM; replace cc := (cell_far (p := ⟨az, 0, none⟩) (by first | (rw [add_block]; exact eb) | (show (Addr.add _ _).block ≠ _; rw [add_block]; exact eb) | exact eb) (.string aM)).trans cc; replace cy := (cell_far (p := ⟨az, 0, none⟩) (by first | (rw [add_block]; exact eb) | (show (Addr.add _ _).block ≠ _; rw [add_block]; exact eb) | exact eb) (.string aM)).trans cy; replace cc := (cell_far (p := ⟨az, 1, none⟩) (by first | (rw [add_block]; exact ec) | (show (Addr.add _ _).block ≠ _; rw [add_block]; exact ec) | exact ec) (.slice aY aI.length aZ)).trans cc; replace cy := (cell_far (p := ⟨az, 1, none⟩) (by first | (rw [add_block]; exact ec) | (show (Addr.add _ _).block ≠ _; rw [add_block]; exact ec) | exact ec) (.slice aY aI.length aZ)).trans cy; clear eb ec; replace jt := eq_true jt; replace ju := eq_true ju) | ((with_reducible refine gate_callee (f := 17) rfl ?_); refine gL_ (some 61) Try.func17 #[.agg #[.string ((rd_T30 ai aj).f0), .slice A283_1 ((rd_T30 ai aj).f1).length c283_1]] (h := ?_); (with_reducible refine (quorumref8_Chain.calls kj14 ((rd_T30 ai aj).f0) _ _ ((rd_T30 ai aj).f1) en _ ?side1 ?side2 A23.out).mono ?_); (case side1 => exact Kd.C_below lF.out (b_ HB)); (case side2 => exact lG.out); rintro e w33 ⟨rfl, hb⟩; refine ⟨_, rfl, ?_⟩; have n0_ := mk0 (Kd.R_below (r2_ (Kd.R_mono (Kd.R_far (p := ⟨az, 1, none⟩) (Kd.R_far (p := ⟨az, 0, none⟩) (Kd.R_types ad.out ac.out (by decide)) (fun _ hk => hk.2) (.string aM)) (fun _ hk => hk.2) (.slice aY aI.length aZ)) (fun _ h_ => h_.1))) hb); have n1_ := mk0 (Kd.R_below (r2_ (Kd.R_mono (Kd.R_far (p := ⟨az, 1, none⟩) (Kd.R_far (p := ⟨az, 0, none⟩) (Kd.R_types dl.out ac.out (by decide)) (fun _ hk => hk.2) (.string aM)) (fun _ hk => hk.2) (.slice aY aI.length aZ)) (fun _ h_ => h_.1))) hb); replace ab := mk0 (blk_below (g := af) (o := .cells #[.slice (some aw) ai.length c0_0, .slice A0_1 ah.length c0_1, .slice A0_2 aE.length c0_2, .slice A0_3 ay.length c0_3] 27 (0, 0)) (fa_ (fa_ (h_ ab) cg.out) cg.out) hb); replace ac := mk0 (blk_below (g := az) (o := .cells #[.string aM, .slice aY aI.length aZ] 30 (0, 0)) (pu_ (cs := #[.string aM, .slice none 0 0]) (pu_ (cs := #[.string (⟨#[]⟩ : ByteArray), .slice none 0 0]) (h_ ac))) hb); replace HB := mk0 (bt_ (b_ HB) hb); clear ad dl; have ad := n0_; have dl := n1_; clear n0_ n1_; (try clear hb); obtain ⟨hu, hv, hx, hy⟩ := c2_ ac) | ((with_reducible refine gate_callee (f := 18) rfl ?_); refine gL_ (some 64) Try.func18 #[.agg #[.string aM, .slice aY aI.length aZ]] (h := ?_); (with_reducible refine (chain_Count.calls kj14 aM _ _ aI mC mD _ ?side1 ?side2 A24.out).mono ?_); (case side1 => exact cr_ dl); (case side2 => exact (Kd.R_reads' dl.out).2.1); rintro e w35 ⟨rfl, hb⟩; refine ⟨_, rfl, ?_⟩; replace ad := mk0 (Kd.R_below (r_ ad) hb); replace dl := mk0 (Kd.R_below (r_ dl) hb); replace ab := mk0 (u_ ab hb); replace ac := mk0 (u_ ac hb); replace HB := mk0 (bt_ (b_ HB) hb); (try clear hb)))
 (try simp only [Act.put, List.setIfInBounds_toArray, List.set_cons_zero, List.set_cons_succ])
 go_cut [9, 10] (fun v9 v10 wc => ∃ (kq : Nat) (bP : Int) (iC : Int), v9 = .int .i64 bP ∧ v10 = .int .i64 iC ∧ Fc (quorumlaw8_ChainTells.j2 kq aK aj en mC mD bP iC ai ah aE ay aM aI = some r) ∧ Fc (kq ≤ kj14) ∧ Fc (Kd.R (Kd.int .i64) 3 wc w.heap.size (fun _ => True) v275 aK) ∧ Fc (Kd.R k39 39 wc w.heap.size (fun _ => True) (.slice aY aI.length aZ) aI) ∧ Fc (wc.heap[af]? = some (.cells #[(.slice (some aw) ai.length c0_0), (.slice A0_1 ah.length c0_1), (.slice A0_2 aE.length c0_2), (.slice A0_3 ay.length c0_3)] 27 (0, 0))) ∧ Fc (wc.heap[az]? = some (.cells #[.string aM, (.slice aY aI.length aZ)] 30 (0, 0))) ∧ Fc (Below w.heap.size w wc))
 case first =>
  have H := HC25.out
  clear HC25
  by_cases c36 : en = true
  rotate_left
  ·replace c36 := Bool.eq_false_iff.mpr c36
   subst c36
   rw [if_neg (show ¬ (false = true) by decide)] at H
   have H' := mk0 H
   clear H
   go_wp2
   go_meet
   case rel => exact ⟨_, (1), (0), (by first | rfl | (simp; done) | (simp [*]; done)), (by first | rfl | (simp; done) | (simp [*]; done)), H', ⟨by have := cC.out; have := br.out; first | omega | exact Nat.le_refl _⟩, ⟨by (with_reducible repeat (first | apply Ra_ | apply Rn_ | apply Rd_)); exact ad.out⟩, ⟨by (with_reducible repeat (first | apply Ra_ | apply Rn_ | apply Rd_)); exact dl.out⟩, ⟨h_ ab⟩, ⟨h_ ac⟩, ⟨b_ HB⟩⟩
  subst c36
  rw [if_pos rfl] at H
  have H' := mk0 H
  clear H
  try go_wp2
  have jv : 0 ≤ (aj : Int) := of_decide_eq_true (by first | (with_reducible assumption) | assumption)
  have jw : aj < (ai.length : Int) := of_decide_eq_true (by first | (with_reducible assumption) | assumption)
  obtain ⟨nD, A287_1, c287_1, rD, cD, cE, jO, jP⟩ := at_T30 dr.out aj jv jw
  have lH := cE
  have lI := cD
  obtain rfl : aw = nD := (by injection rD)
  replace cD := (bc_ HB cD :)
  replace cE := (bc_ HB cE :)
  have jQ := mk0 jP
  have pk := mk0 jO
  clear jP jO
  replace jv := eq_true jv
  replace jw := eq_true jw
  have nE : w35.cell? ⟨af, 0, none⟩ = some (.slice (some aw) ai.length c0_0) := bk_ ab 0
  have nF : w35.cell? ⟨af, 1, none⟩ = some (.slice A0_1 ah.length c0_1) := bk_ ab 1
  have nG : w35.cell? ⟨af, 2, none⟩ = some (.slice A0_2 aE.length c0_2) := bk_ ab 2
  have nH : w35.cell? ⟨af, 3, none⟩ = some (.slice A0_3 ay.length c0_3) := bk_ ab 3
  have nI : w35.cell? (aw.add ((aj).toNat * 2)) = some (.string ((rd_T30 ai aj).f0)) := (bc_ HB lI :)
  have nJ : w35.cell? ⟨(aw.add ((aj).toNat * 2)).block, (aw.add ((aj).toNat * 2)).off + 1, none⟩ = some (.slice A287_1 ((rd_T30 ai aj).f1).length c287_1) := (bc_ HB lH :)
  go_quiet (fail)
  clear nE nF nG nH nI nJ
  generalize hq_ : World.drewN w35 _ = w37
  replace ad := mk0 (Kd.R_at hq_ ad.out)
  replace dl := mk0 (Kd.R_at hq_ dl.out)
  replace ab := mk0 (blk_at hq_ ab.out)
  replace ac := mk0 (blk_at hq_ ac.out)
  replace HB := mk0 (below_at hq_ HB.out)
  try replace jQ := cell_at hq_ jQ
  try replace cD := cell_at hq_ cD
  try replace cE := cell_at hq_ cE
  clear hq_
  try go_wp2
  go_meet
  case rel => exact ⟨_, (0), ((((rd_T30 ai aj).f1).length : Int)), (by first | rfl | (simp; done) | (simp [*]; done)), (by first | rfl | (simp; done) | (simp [*]; done)), H', ⟨by have := cC.out; have := br.out; first | omega | exact Nat.le_refl _⟩, ⟨by (with_reducible repeat (first | apply Ra_ | apply Rn_ | apply Rd_)); exact ad.out⟩, ⟨by (with_reducible repeat (first | apply Ra_ | apply Rn_ | apply Rd_)); exact dl.out⟩, ⟨h_ ab⟩, ⟨h_ ac⟩, ⟨b_ HB⟩⟩
 clear HC25
 try clear c3
 try clear c7
 try clear c16
 try clear eP
 try clear c19
 try clear c20
 try clear jI
 try clear c21
 try clear jJ
 try clear c36
 try clear es et eu ev ew ex ey ez
 try clear eY eZ fa fb fc fd fe ff
 try clear fg fh fi fj fk fl fm fn
 try clear gS gT gU gV gW gX gY gZ
 try clear ha hc he hf
 try clear hh hj hl hm hn hq hs ht
 try clear hu hv hx hy
 try clear gi gj gl gm gn gp gq gr
 try clear gs gu gv gw gx gy gz gA
 try clear eE eF
 try clear cc cy
 try clear cD cE
 try clear jr
 try clear jt
 try clear jv
 try clear js
 try clear ju
 try clear jw
 obtain ⟨kq, bP, iC, rfl, rfl, HA, cd, ad, aa, ab, ac, HB⟩ := hcut
 cases kq with
 | zero => exact absurd HA.out (by simp [quorumlaw8_ChainTells.j2])
 | succ kj24 =>
 have H := HA.out
 clear HA
 simp only [quorumlaw8_ChainTells.j2] at H
 as_aux_lemma =>
 have HC38 := mk0 H
 clear H
 go_upto_region 13 with (fail)
 go_cut [90] (fun v90 wc => ∃ (kq : Nat) (iD : Bool), v90 = .bool iD ∧ Fc (quorumlaw8_ChainTells.j3 kq aK aj en bP iD ai ah aE ay aM aI = some r) ∧ Fc (kq ≤ kj24) ∧ Fc (Kd.R (Kd.int .i64) 3 wc w.heap.size (fun _ => True) v275 aK) ∧ Fc (Kd.R k39 39 wc w.heap.size (fun _ => True) (.slice aY aI.length aZ) aI) ∧ Fc (wc.heap[af]? = some (.cells #[(.slice (some aw) ai.length c0_0), (.slice A0_1 ah.length c0_1), (.slice A0_2 aE.length c0_2), (.slice A0_3 ay.length c0_3)] 27 (0, 0))) ∧ Fc (wc.heap[az]? = some (.cells #[.string aM, (.slice aY aI.length aZ)] 30 (0, 0))) ∧ Fc (Below w.heap.size w wc))
 case first =>
  have H := HC38.out
  clear HC38
  replace H := Option.bind_eq_some_iff.mp H
  obtain ⟨lc, A390, H⟩ := H
  try dsimp only at H
  have A39 := mk0 A390
  clear A390
  replace H := Option.bind_eq_some_iff.mp H
  obtain ⟨jx, A400, H⟩ := H
  try dsimp only at H
  have A40 := mk0 A400
  clear A400
  by_cases c41 : jx = bP
  focus
   rw [if_pos c41] at H
   have gM : (jx == bP) = true := beq_iff_eq.mpr c41
   have jR : (jx != bP) = false := bne_eq_false_iff_eq.mpr c41
   clear c41
   (first | rw [gM] | (simp only [i64_w, i32_w]; rw [gM]) | skip)
   replace H := Option.bind_eq_some_iff.mp H
   obtain ⟨kE, A420, H⟩ := H
   try dsimp only at H
   have A42 := mk0 A420
   clear A420
   by_cases c43 : kE = bP
   focus
    rw [if_pos c43] at H
    have jS : (kE == bP) = true := beq_iff_eq.mpr c43
    have jT : (kE != bP) = false := bne_eq_false_iff_eq.mpr c43
    clear c43
    have H' := mk0 H
    clear H
    have sH := cF.out
    have sI := cg.out
    obtain ⟨iE, iF, iG, iH⟩ := c2_ ac
   rotate_left 1
   focus
    rw [if_neg c43] at H
    have jS : (kE == bP) = false := beq_eq_false_iff_ne.mpr c43
    have jT : (kE != bP) = true := bne_iff_ne.mpr c43
    have H' := mk0 H
    clear H
    have sJ := cF.out
    have sK := cg.out
    obtain ⟨iI, iJ, iK, iL⟩ := c2_ ac
   rotate_right 1
  rotate_left 2
  focus
   rw [if_neg c41] at H
   have gM : (jx == bP) = false := beq_eq_false_iff_ne.mpr c41
   have jR : (jx != bP) = true := bne_iff_ne.mpr c41
   (first | rw [gM] | (simp only [i64_w, i32_w]; rw [gM]) | skip)
   have H' := mk0 H
   clear H
   have sL := cF.out
   have sM := cg.out
   obtain ⟨iM, iN, iO, iP⟩ := c2_ ac
  rotate_right 2
  all_goals go_wp2_with (first | ((with_reducible refine gate_callee (f := 20) rfl ?_); refine gL_ (some 76) Try.func20 #[.agg #[.string aM, .slice aY aI.length aZ]] (h := ?_); (with_reducible refine (chain_Check.calls kj24 aM _ _ aI lc _ ?side1 ?side2 A39.out).mono ?_); (case side1 => exact cr_ aa); (case side2 => exact (Kd.R_reads' aa.out).2.1); rintro e w46 ⟨rfl, hb⟩; refine ⟨_, rfl, ?_⟩; replace ad := mk0 (Kd.R_below (r_ ad) hb); replace aa := mk0 (Kd.R_below (r_ aa) hb); replace ab := mk0 (u_ ab hb); replace ac := mk0 (u_ ac hb); replace HB := mk0 (bt_ (b_ HB) hb); (try clear hb)) | ((with_reducible refine gate_callee (f := 19) rfl ?_); refine gL_ (some 77) Try.func19 #[.int .i64 lc] (h := ?_); (with_reducible refine (quorumlaw8_num.calls lc jx _ A40.out).mono ?_); rintro e w' ⟨rfl, ⟨nd, rfl⟩⟩; refine ⟨_, rfl, ?_⟩) | (go_at_call 19; (with_reducible refine (quorumlaw8_num.calls mD kE _ A42.out).mono ?_); rintro e w' ⟨rfl, ⟨nd, rfl⟩⟩) | ((with_reducible refine gate_callee (f := 19) rfl ?_); refine gL_ (some 77) Try.func19 #[.int .i64 lc] (h := ?_); (with_reducible refine (quorumlaw8_num.calls lc jx _ A40.out).mono ?_); rintro e w' ⟨rfl, ⟨nd, rfl⟩⟩; refine ⟨_, rfl, ?_⟩))
  ·go_meet
   case rel => exact ⟨_, ((mC != iC)), (by first | rfl | (simp; done) | (simp [*]; done)), H', ⟨by have := cC.out; have := br.out; have := cd.out; first | omega | exact Nat.le_refl _⟩, ⟨by (with_reducible repeat (first | apply Ra_ | apply Rn_ | apply Rd_)); exact ad.out⟩, ⟨by (with_reducible repeat (first | apply Ra_ | apply Rn_ | apply Rd_)); exact aa.out⟩, ⟨h_ ab⟩, ⟨h_ ac⟩, ⟨b_ HB⟩⟩
  ·go_meet
   case rel => exact ⟨_, (true), (by first | rfl | (simp; done) | (simp [*]; done)), H', ⟨by have := cC.out; have := br.out; have := cd.out; first | omega | exact Nat.le_refl _⟩, ⟨by (with_reducible repeat (first | apply Ra_ | apply Rn_ | apply Rd_)); exact ad.out⟩, ⟨by (with_reducible repeat (first | apply Ra_ | apply Rn_ | apply Rd_)); exact aa.out⟩, ⟨h_ ab⟩, ⟨h_ ac⟩, ⟨b_ HB⟩⟩
  ·go_meet
   case rel => exact ⟨_, (true), (by first | rfl | (simp; done) | (simp [*]; done)), H', ⟨by have := cC.out; have := br.out; have := cd.out; first | omega | exact Nat.le_refl _⟩, ⟨by (with_reducible repeat (first | apply Ra_ | apply Rn_ | apply Rd_)); exact ad.out⟩, ⟨by (with_reducible repeat (first | apply Ra_ | apply Rn_ | apply Rd_)); exact aa.out⟩, ⟨h_ ab⟩, ⟨h_ ac⟩, ⟨b_ HB⟩⟩
 clear HC38
 try clear c3
 try clear c7
 try clear c16
 try clear eP
 try clear c19
 try clear c20
 try clear jI
 try clear c21
 try clear jJ
 try clear c36
 try clear c41
 try clear gM
 try clear jR
 try clear c43
 try clear jS
 try clear jT
 try clear es et eu ev ew ex ey ez
 try clear eY eZ fa fb fc fd fe ff
 try clear fg fh fi fj fk fl fm fn
 try clear gS gT gU gV gW gX gY gZ
 try clear ha hc he hf
 try clear hh hj hl hm hn hq hs ht
 try clear hu hv hx hy
 try clear iE iF iG iH
 try clear iI iJ iK iL
 try clear iM iN iO iP
 try clear gi gj gl gm gn gp gq gr
 try clear gs gu gv gw gx gy gz gA
 try clear eE eF
 try clear cc cy
 try clear cD cE
 try clear jr
 try clear jt
 try clear jv
 try clear js
 try clear ju
 try clear jw
 obtain ⟨kq, iD, rfl, HA, cn, ad, aa, ab, ac, HB⟩ := hcut
 cases kq with
 | zero => exact absurd HA.out (by simp [quorumlaw8_ChainTells.j3])
 | succ kj37 =>
 have H := HA.out
 clear HA
 simp only [quorumlaw8_ChainTells.j3] at H
 as_aux_lemma =>
 by_cases c53 : iD = true
 ·subst c53
  rw [if_pos rfl] at H
  obtain rfl := Option.some.inj H
  go_wp2
  go_ret
  exact ⟨by first | rfl | (simp [errW_none, errW_some] <;> rfl) | (simp [*, errW_none, errW_some] <;> rfl), b_ HB⟩
 replace c53 := Bool.eq_false_iff.mpr c53
 subst c53
 rw [if_neg (show ¬ (false = true) by decide)] at H
 have H' := mk0 H
 clear H
 go_wp2
 go_loopg [11] kj37 (fun kq v11 w' => ∃ (aG : Int), v11 = .int .i64 aG ∧ Fc (quorumlaw8_ChainTells.l1 kq aK aj en bP aG ai ah aE ay aM aI = some r) ∧ Fc (kq ≤ kj37) ∧ Fc (Kd.R (Kd.int .i64) 3 w' w.heap.size (fun _ => True) v275 aK) ∧ Fc (Kd.R k39 39 w' w.heap.size (fun _ => True) (.slice aY aI.length aZ) aI) ∧ Fc (w'.heap[af]? = some (.cells #[(.slice (some aw) ai.length c0_0), (.slice A0_1 ah.length c0_1), (.slice A0_2 aE.length c0_2), (.slice A0_3 ay.length c0_3)] 27 (0, 0))) ∧ Fc (w'.heap[az]? = some (.cells #[.string aM, (.slice aY aI.length aZ)] 30 (0, 0))) ∧ Fc (Below w.heap.size w w'))
 case atStart => exact ⟨(0), (by first | rfl | (simp; done) | (simp [*]; done)), H', ⟨Nat.le_refl _⟩, ⟨by (with_reducible repeat (first | apply Ra_ | apply Rn_ | apply Rd_)); exact ad.out⟩, ⟨by (with_reducible repeat (first | apply Ra_ | apply Rn_ | apply Rd_)); exact aa.out⟩, ⟨h_ ab⟩, ⟨h_ ac⟩, ⟨b_ HB⟩⟩
 clear H'
 try clear c3
 try clear c7
 try clear c16
 try clear eP
 try clear c19
 try clear c20
 try clear jI
 try clear c21
 try clear jJ
 try clear c36
 try clear c41
 try clear gM
 try clear jR
 try clear c43
 try clear jS
 try clear jT
 try clear c53
 try clear es et eu ev ew ex ey ez
 try clear eY eZ fa fb fc fd fe ff
 try clear fg fh fi fj fk fl fm fn
 try clear gS gT gU gV gW gX gY gZ
 try clear ha hc he hf
 try clear hh hj hl hm hn hq hs ht
 try clear hu hv hx hy
 try clear iE iF iG iH
 try clear iI iJ iK iL
 try clear iM iN iO iP
 try clear gi gj gl gm gn gp gq gr
 try clear gs gu gv gw gx gy gz gA
 try clear eE eF
 try clear cc cy
 try clear cD cE
 try clear jr
 try clear jt
 try clear jv
 try clear js
 try clear ju
 try clear jw
 obtain ⟨aG, rfl, HA, dJ, ad, aa, ab, ac, HB⟩ := hrel
 cases gk with
 | zero => exact absurd HA.out (by simp [quorumlaw8_ChainTells.l1])
 | succ k5 =>
 have H := HA.out
 clear HA
 simp only [quorumlaw8_ChainTells.l1] at H
 as_aux_lemma =>
 have HC54 := mk0 H
 clear H
 go_upto_region 16 with (fail)
 go_cut [98] (fun v98 wc => ∃ (kq : Nat) (iQ : Bool), v98 = .bool iQ ∧ Fc (quorumlaw8_ChainTells.j5 kq aK aj en bP aG iQ ai ah aE ay aM aI = some r) ∧ Fc (kq ≤ k5) ∧ Fc (Kd.R (Kd.int .i64) 3 wc w.heap.size (fun _ => True) v275 aK) ∧ Fc (Kd.R k39 39 wc w.heap.size (fun _ => True) (.slice aY aI.length aZ) aI) ∧ Fc (wc.heap[af]? = some (.cells #[(.slice (some aw) ai.length c0_0), (.slice A0_1 ah.length c0_1), (.slice A0_2 aE.length c0_2), (.slice A0_3 ay.length c0_3)] 27 (0, 0))) ∧ Fc (wc.heap[az]? = some (.cells #[.string aM, (.slice aY aI.length aZ)] 30 (0, 0))) ∧ Fc (Below w.heap.size w wc))
 case first =>
  have H := HC54.out
  clear HC54
  by_cases c55 : aG < (aK.length : Int)
  ·rw [if_pos c55] at H
   have it : decide (aG < (aK.length : Int)) = true := decide_eq_true c55
   clear c55
   (first | rw [it] | (simp only [i64_w, i32_w]; rw [it]) | skip)
   have H' := mk0 H
   clear H
   obtain ⟨ta, tb, rE⟩ := Kd.R_slice ad.out
   subst rE
   go_wp2
   go_meet
   case rel => exact ⟨_, (decide (aG < 11)), (by first | rfl | (simp; done) | (simp [*]; done)), H', ⟨by have := cC.out; have := br.out; have := cd.out; have := cn.out; have := dJ.out; first | omega | exact Nat.le_refl _⟩, ⟨by (with_reducible repeat (first | apply Ra_ | apply Rn_ | apply Rd_)); exact ad.out⟩, ⟨by (with_reducible repeat (first | apply Ra_ | apply Rn_ | apply Rd_)); exact aa.out⟩, ⟨h_ ab⟩, ⟨h_ ac⟩, ⟨b_ HB⟩⟩
  rw [if_neg c55] at H
  have it : decide (aG < (aK.length : Int)) = false := decide_eq_false c55
  clear c55
  (first | rw [it] | (simp only [i64_w, i32_w]; rw [it]) | skip)
  have H' := mk0 H
  clear H
  obtain ⟨tc, td, rF⟩ := Kd.R_slice ad.out
  subst rF
  go_wp2
  go_meet
  case rel => exact ⟨_, (false), (by first | rfl | (simp; done) | (simp [*]; done)), H', ⟨by have := cC.out; have := br.out; have := cd.out; have := cn.out; have := dJ.out; first | omega | exact Nat.le_refl _⟩, ⟨by (with_reducible repeat (first | apply Ra_ | apply Rn_ | apply Rd_)); exact ad.out⟩, ⟨by (with_reducible repeat (first | apply Ra_ | apply Rn_ | apply Rd_)); exact aa.out⟩, ⟨h_ ab⟩, ⟨h_ ac⟩, ⟨b_ HB⟩⟩
 clear HC54
 try clear c3
 try clear c7
 try clear c16
 try clear eP
 try clear c19
 try clear c20
 try clear jI
 try clear c21
 try clear jJ
 try clear c36
 try clear c41
 try clear gM
 try clear jR
 try clear c43
 try clear jS
 try clear jT
 try clear c53
 try clear c55
 try clear it
 try clear es et eu ev ew ex ey ez
 try clear eY eZ fa fb fc fd fe ff
 try clear fg fh fi fj fk fl fm fn
 try clear gS gT gU gV gW gX gY gZ
 try clear ha hc he hf
 try clear hh hj hl hm hn hq hs ht
 try clear hu hv hx hy
 try clear iE iF iG iH
 try clear iI iJ iK iL
 try clear iM iN iO iP
 try clear gi gj gl gm gn gp gq gr
 try clear gs gu gv gw gx gy gz gA
 try clear eE eF
 try clear cc cy
 try clear cD cE
 try clear jr
 try clear jt
 try clear jv
 try clear js
 try clear ju
 try clear jw
 obtain ⟨kq, iQ, rfl, HA, cB, ad, aa, ab, ac, HB⟩ := hcut
 cases kq with
 | zero => exact absurd HA.out (by simp [quorumlaw8_ChainTells.j5])
 | succ kj53 =>
 have H := HA.out
 clear HA
 simp only [quorumlaw8_ChainTells.j5] at H
 as_aux_lemma =>
 by_cases c58 : iQ = true
 rotate_left
 ·replace c58 := Bool.eq_false_iff.mpr c58
  subst c58
  rw [if_neg (show ¬ (false = true) by decide)] at H
  have H' := mk0 H
  clear H
  go_wp2
  go_loopg [21] kj53 (fun kq v21 w' => ∃ (ar : Int) (an : List (S39)) (u283001 : Value), v21 = .int .i64 ar ∧ Fc (quorumlaw8_ChainTells.l2 kq aK aj en ar ai ah aE ay aM an = some r) ∧ Fc (kq ≤ kj53) ∧ Fc (Kd.R (Kd.int .i64) 3 w' w.heap.size (fun _ => True) v275 aK) ∧ Fc (Kd.R k39 39 w' w.heap.size (fun _ => True) u283001 an) ∧ Fc (w'.heap[af]? = some (.cells #[(.slice (some aw) ai.length c0_0), (.slice A0_1 ah.length c0_1), (.slice A0_2 aE.length c0_2), (.slice A0_3 ay.length c0_3)] 27 (0, 0))) ∧ Fc (w'.heap[az]? = some (.cells #[.string aM, u283001] 30 (0, 0))) ∧ Fc (Below w.heap.size w w'))
  case atStart => exact ⟨(0), (aI), (.slice aY aI.length aZ), (by first | rfl | (simp; done) | (simp [*]; done)), H', ⟨Nat.le_refl _⟩, ⟨by (with_reducible repeat (first | apply Ra_ | apply Rn_ | apply Rd_)); exact ad.out⟩, ⟨by (with_reducible repeat (first | apply Ra_ | apply Rn_ | apply Rd_)); exact aa.out⟩, ⟨h_ ab⟩, ⟨h_ ac⟩, ⟨b_ HB⟩⟩
  clear H'
  try clear c19
  try clear c58
  try clear c59
  try clear c60
  try clear c112
  try clear eo
  try clear iR
  try clear c116
  try clear iS
  try clear iT
  try clear c131
  obtain ⟨ar, an, u283001, rfl, HA, jy, ad, aa, ab, ac, HB⟩ := hrel
  cases gk with
  | zero => exact absurd HA.out (by simp [quorumlaw8_ChainTells.l2])
  | succ k7 =>
  have H := HA.out
  clear HA
  simp only [quorumlaw8_ChainTells.l2] at H
  as_aux_lemma =>
  have HC132 := mk0 H
  clear H
  go_upto_region 32 with (fail)
  go_cut [187] (fun v187 wc => ∃ (kq : Nat) (fN : Bool), v187 = .bool fN ∧ Fc (quorumlaw8_ChainTells.j10 kq aK aj en ar fN ai ah aE ay aM an = some r) ∧ Fc (kq ≤ k7) ∧ Fc (Kd.R (Kd.int .i64) 3 wc w.heap.size (fun _ => True) v275 aK) ∧ Fc (Kd.R k39 39 wc w.heap.size (fun _ => True) u283001 an) ∧ Fc (wc.heap[af]? = some (.cells #[(.slice (some aw) ai.length c0_0), (.slice A0_1 ah.length c0_1), (.slice A0_2 aE.length c0_2), (.slice A0_3 ay.length c0_3)] 27 (0, 0))) ∧ Fc (wc.heap[az]? = some (.cells #[.string aM, u283001] 30 (0, 0))) ∧ Fc (Below w.heap.size w wc))
  case first =>
   have H := HC132.out
   clear HC132
   by_cases c133 : ar < (ah.length : Int)
   ·rw [if_pos c133] at H
    have gD : decide (ar < (ah.length : Int)) = true := decide_eq_true c133
    clear c133
    (first | rw [gD] | (simp only [i64_w, i32_w]; rw [gD]) | skip)
    have H' := mk0 H
    clear H
    have rG := cg.out
    have rH := cF.out
    obtain ⟨ld, lf, lg, lh, li, lj, lk, ll⟩ := c4_ ab
    go_wp2
    go_meet
    case rel => exact ⟨_, (decide (ar < 6)), (by first | rfl | (simp; done) | (simp [*]; done)), H', ⟨by have := cC.out; have := br.out; have := cd.out; have := cn.out; have := dJ.out; have := cB.out; have := jy.out; first | omega | exact Nat.le_refl _⟩, ⟨by (with_reducible repeat (first | apply Ra_ | apply Rn_ | apply Rd_)); exact ad.out⟩, ⟨by (with_reducible repeat (first | apply Ra_ | apply Rn_ | apply Rd_)); exact aa.out⟩, ⟨h_ ab⟩, ⟨h_ ac⟩, ⟨b_ HB⟩⟩
   rw [if_neg c133] at H
   have gD : decide (ar < (ah.length : Int)) = false := decide_eq_false c133
   clear c133
   (first | rw [gD] | (simp only [i64_w, i32_w]; rw [gD]) | skip)
   have H' := mk0 H
   clear H
   have rI := cg.out
   have rJ := cF.out
   obtain ⟨lm, ln, lo, lp, lq, lr, ls, lu⟩ := c4_ ab
   go_wp2
   go_meet
   case rel => exact ⟨_, (false), (by first | rfl | (simp; done) | (simp [*]; done)), H', ⟨by have := cC.out; have := br.out; have := cd.out; have := cn.out; have := dJ.out; have := cB.out; have := jy.out; first | omega | exact Nat.le_refl _⟩, ⟨by (with_reducible repeat (first | apply Ra_ | apply Rn_ | apply Rd_)); exact ad.out⟩, ⟨by (with_reducible repeat (first | apply Ra_ | apply Rn_ | apply Rd_)); exact aa.out⟩, ⟨h_ ab⟩, ⟨h_ ac⟩, ⟨b_ HB⟩⟩
  clear HC132
  try clear c19
  try clear c58
  try clear c59
  try clear c60
  try clear c112
  try clear eo
  try clear iR
  try clear c116
  try clear iS
  try clear iT
  try clear c131
  try clear c133
  try clear gD
  try clear ld lf lg lh li lj lk ll
  try clear lm ln lo lp lq lr ls lu
  obtain ⟨kq, fN, rfl, HA, dM, ad, aa, ab, ac, HB⟩ := hcut
  cases kq with
  | zero => exact absurd HA.out (by simp [quorumlaw8_ChainTells.j10])
  | succ kj131 =>
  have H := HA.out
  clear HA
  simp only [quorumlaw8_ChainTells.j10] at H
  as_aux_lemma =>
  by_cases c138 : fN = true
  rotate_left
  ·replace c138 := Bool.eq_false_iff.mpr c138
   subst c138
   rw [if_neg (show ¬ (false = true) by decide)] at H
   have H' := mk0 H
   clear H
   go_wp2
   go_roundg kj131
   case measure => have := cC.out; have := br.out; have := cd.out; have := cn.out; have := dJ.out; have := cB.out; have := jy.out; have := dM.out; omega
   case rel => exact ⟨(wrap64 (aj + 1)), (by first | rfl | (simp; done) | (simp [*]; done)), H', ⟨by have := cC.out; have := br.out; have := cd.out; have := cn.out; have := dJ.out; have := cB.out; have := jy.out; have := dM.out; omega⟩, ⟨by (with_reducible repeat (first | apply Ra_ | apply Rn_ | apply Rd_)); exact ad.out⟩, ⟨h_ ab⟩, ⟨b_ HB⟩⟩
  subst c138
  rw [if_pos rfl] at H
  by_cases c139 : 0 ≤ ar
  rotate_left
  ·rw [if_neg c139] at H
   exact absurd H (by simp)
  rw [if_pos c139] at H
  have rK : decide (0 ≤ ar) = true := decide_eq_true c139
  clear c139
  by_cases c140 : ar < (ah.length : Int)
  rotate_left
  ·rw [if_neg c140] at H
   exact absurd H (by simp)
  rw [if_pos c140] at H
  have rL : decide (ar < (ah.length : Int)) = true := decide_eq_true c140
  clear c140
  replace H := Option.bind_eq_some_iff.mp H
  obtain ⟨⟨ci, bR, gE⟩, A1410, H⟩ := H
  try dsimp only at H
  have A141 := mk0 A1410
  clear A1410
  have HC142 := mk0 H
  clear H
  obtain ⟨bE, bF, nK⟩ := Kd.R_slice aa.out
  subst nK
  try go_wp2
  replace ad := mk0 (Rd_ ad.out)
  replace aa := mk0 (Rd_ aa.out)
  replace ab := mk0 (bD_ ab.out)
  replace ac := mk0 (bD_ ac.out)
  replace HB := mk0 (b1_ HB.out)
  have mE : 0 ≤ (ar : Int) := of_decide_eq_true (by first | (with_reducible assumption) | assumption)
  have mF : ar < (ah.length : Int) := of_decide_eq_true (by first | (with_reducible assumption) | assumption)
  obtain ⟨aV, rM, hz, hA, hB⟩ := at_T39 gK.out ar mE mF
  have ed := hB
  have ee := hA
  have ef := hz
  cases rM
  replace hz := (bc_ HB hz :)
  replace hA := (bc_ HB hA :)
  replace hB := (bc_ HB hB :)
  replace mE := eq_true mE
  replace mF := eq_true mF
  refine start_ (n := 13) (S := fun w' => w'.cell? ⟨az, 0, none⟩ = some (.string aM) ∧ w'.cell? ⟨az, 1, none⟩ = some (.slice bE an.length bF) ∧ w'.cell? ⟨af, 0, none⟩ = some (.slice (some aw) ai.length c0_0) ∧ w'.cell? ⟨af, 1, none⟩ = some (.slice (some aV) ah.length c0_1) ∧ w'.cell? ⟨af, 2, none⟩ = some (.slice A0_2 aE.length c0_2) ∧ w'.cell? ⟨af, 3, none⟩ = some (.slice A0_3 ay.length c0_3) ∧ w'.cell? (aV.add ((ar).toNat * 3)) = some (.int .i64 ((rd_T39 ah ar).f0)) ∧ w'.cell? ⟨(aV.add ((ar).toNat * 3)).block, (aV.add ((ar).toNat * 3)).off + 1, none⟩ = some (.string ((rd_T39 ah ar).f1)) ∧ w'.cell? ⟨(aV.add ((ar).toNat * 3)).block, (aV.add ((ar).toNat * 3)).off + 2, none⟩ = some (.bool ((rd_T39 ah ar).f2))) (ds := []) (bt 13 0) (by kernel_rfl) rfl rfl ⟨bk_ ac 0, bk_ ac 1, bk_ ab 0, bk_ ab 1, bk_ ab 2, bk_ ab 3, (bc_ HB ef :), (bc_ HB ee :), (bc_ HB ed :)⟩ (fun hHeld => ?_); refine with_tabW quorumlaw8_ChainTells.tab34 quorumlaw8_ChainTells.bits34 (fun HT_ HW_ => ?_)
  generalize wc.drew = w144 at ad aa ab ac HB hz hA hB hHeld ⊢
  refine pq_ HT_.out 1 192 (bt 13 2) (h := ?_)
  refine pq_ HT_.out 3 194 (bt 13 10) (h := ?_)
  refine tq9_ HT_.out HW_.out 0 191 (bt 13 11) hHeld (h := ?_)
  refine tq9_ HT_.out HW_.out 2 193 (bt 13 15) hHeld (h := ?_)
  refine pq_ HT_.out 4 195 (bt 13 31) (h := ?_)
  refine tq9_ HT_.out HW_.out 5 196 (bt 13 63) hHeld (h := ?_)
  refine join_ (σ := Value × Nat) 2 (bt 13 2047) (fun s_ => [(197, .tuple #[.agg #[.string ci, s_.1], .int .i64 gE]), (22, .pointer (some ⟨s_.2, 0, none⟩)), (190, .tuple #[.agg #[.string ci, s_.1], .int .i64 gE]), (198, .agg #[.string ci, s_.1]), (199, .int .i64 gE)]) (fun s_ w' => (w'.cell? ⟨az, 0, none⟩ = some (.string aM) ∧ w'.cell? ⟨az, 1, none⟩ = some (.slice bE an.length bF) ∧ w'.cell? ⟨af, 0, none⟩ = some (.slice (some aw) ai.length c0_0) ∧ w'.cell? ⟨af, 1, none⟩ = some (.slice (some aV) ah.length c0_1) ∧ w'.cell? ⟨af, 2, none⟩ = some (.slice A0_2 aE.length c0_2) ∧ w'.cell? ⟨af, 3, none⟩ = some (.slice A0_3 ay.length c0_3) ∧ w'.cell? (aV.add ((ar).toNat * 3)) = some (.int .i64 ((rd_T39 ah ar).f0)) ∧ w'.cell? ⟨(aV.add ((ar).toNat * 3)).block, (aV.add ((ar).toNat * 3)).off + 1, none⟩ = some (.string ((rd_T39 ah ar).f1)) ∧ w'.cell? ⟨(aV.add ((ar).toNat * 3)).block, (aV.add ((ar).toNat * 3)).off + 2, none⟩ = some (.bool ((rd_T39 ah ar).f2))) ∧ (Kd.R k39 39 w' w.heap.size (fun k_ => some k_ ≠ (.slice bE an.length bF : Value).ownBlock) s_.1 bR) ∧ (Kd.R k39 39 w' w.heap.size (fun k_ => some k_ ≠ (s_.1 : Value).ownBlock) (.slice bE an.length bF) an) ∧ (Kd.R (Kd.int .i64) 3 w' w.heap.size (fun _ => True) v275 aK) ∧ (w'.heap[af]? = some (.cells #[.slice (some aw) ai.length c0_0, .slice (some aV) ah.length c0_1, .slice A0_2 aE.length c0_2, .slice A0_3 ay.length c0_3] 27 (0, 0))) ∧ (w'.heap[az]? = some (.cells #[.string aM, .slice bE an.length bF] 30 (0, 0))) ∧ (w'.heap[s_.2]? = some (.cells #[.string (⟨#[]⟩ : ByteArray), .slice none 0 0] 30 (0, 0))) ∧ (w.heap.size ≤ s_.2) ∧ (w.heap.size ≤ s_.2) ∧ (af ≠ s_.2) ∧ (s_.2 ≠ af) ∧ (az ≠ s_.2) ∧ (s_.2 ≠ az) ∧ (Below w.heap.size w w')) ?_ ?_
  rotate_left
  ·intro hCont
   refine two_ (i := 6) (j := 10) (Ni := some 197) (Nj := some 22) (bt 13 127) (bt 13 1087) rfl rfl rfl rfl (two_of HT_.out (by kernel_rfl)) (by decide) (by decide) (fun K hK => ?_) (fun K hK => ?_)
   ·skip
    refine goes_ Try.func26 (by kernel_rfl) rfl #[.agg #[.string aM, .slice bE an.length bF], .agg #[.int .i64 ((rd_T39 ah ar).f0), .string ((rd_T39 ah ar).f1), .bool ((rd_T39 ah ar).f2)]] (by rfl) rfl rfl (by (try simp only [List.map_toArray, List.map_cons, List.map_nil]); first | done | rfl | (simp only [List.length_drop, List.length_take]; rfl)) ?_
    with_reducible refine (chain_Add.calls kj131 aM _ _ an ((rd_T39 ah ar).f0) ((rd_T39 ah ar).f1) ((rd_T39 ah ar).f2) ci bR gE _ ?side1 ?side2 A141.out).mono ?_
    (case side1 => exact cr_ aa)
    (case side2 => exact (Kd.R_reads' aa.out).2.1)
    rintro e w145 ⟨v328, rfl, ho0, hb⟩
    refine ⟨_, rfl, ?_⟩
    have n2_ := mk0 (Kd.R_lower (Kd.R_new' ho0 (Kd.R_lt (r_ aa))) (bz_ (b_ HB)))
    replace ad := mk0 (Kd.R_below (r_ ad) hb)
    replace aa := mk0 (Kd.R_elder' (r_ aa) (Kd.R_base ho0) hb)
    replace ab := mk0 (u_ ab hb)
    replace ac := mk0 (u_ ac hb)
    replace HB := mk0 (bt_ (b_ HB) hb)
    have bZ := n2_
    clear n2_
    (try clear hb)
    (try clear hb2)
    (try clear hk)
    (try clear hi)
    (try clear ho0)
    refine hK.out _ _ ⟨bk_ ac 0, bk_ ac 1, bk_ ab 0, bk_ ab 1, bk_ ab 2, bk_ ab 3, (bc_ HB ef :), (bc_ HB ee :), (bc_ HB ed :)⟩ (fun hHeld => ?_)
    clear hK K
    refine norm_ (a' := ?_) ?_ ?_
    rotate_left
    ·show Act.put _ (some 197) _ = _
     simp only [z_]
     rfl
    refine pq_ HT_.out 7 190 (bt 13 255) (h := ?_)
    refine pq_ HT_.out 8 198 (bt 13 511) (h := ?_)
    refine pq_ HT_.out 9 199 (bt 13 1023) (h := ?_)
    refine one_ (i := 10) (N := some 22) (bt 13 2047) rfl rfl (one_of HT_.out (by kernel_rfl)) (by decide) (fun K hK => ?_)
    refine box_step ?hg (N := 22) ?hd (cs := #[.string (⟨#[]⟩ : ByteArray), .slice none 0 0]) (t := 30) ?hr ?_; (case hd => rfl); (case hg => rfl); (case hr => first | (go_simp; done) | (go_simp; rfl))
    intro bn hg w146 hbox hb
    have n7_ := mk0 (gz_ HB hg)
    have n8_ := mk0 (gz_ HB hg)
    have n9_ := mk0 (ne1_ ab hg)
    have n10_ := mk0 (ne2_ ab hg)
    have n11_ := mk0 (ne1_ ac hg)
    have n12_ := mk0 (ne2_ ac hg)
    replace ad := mk0 (Kd.R_below (r_ ad) hb)
    replace aa := mk0 (Kd.R_below (r_ aa) hb)
    replace bZ := mk0 (Kd.R_below (r_ bZ) hb)
    replace ab := mk0 (u_ ab hb)
    replace ac := mk0 (u_ ac hb)
    replace HB := mk0 (bt_ (b_ HB) hb)
    have ax := mk0 (hbox)
    have eR := n7_
    have jU := n8_
    have aQ := n9_
    have bU := n10_
    have aU := n11_
    have bV := n12_
    clear n7_ n8_ n9_ n10_ n11_ n12_ hb hbox hg
    refine hK.out _ _ ⟨bk_ ac 0, bk_ ac 1, bk_ ab 0, bk_ ab 1, bk_ ab 2, bk_ ab 3, (bc_ HB ef :), (bc_ HB ee :), (bc_ HB ed :)⟩ (fun hHeld => ?_)
    clear hK K
    refine norm_ (a' := ?_) ?_ ?_
    rotate_left
    ·show Act.put _ (some 22) _ = _
     simp only [z_]
     rfl
    exact norm_ (by simp only [putAll, Act.put, List.setIfInBounds_toArray, List.set_cons_zero, List.set_cons_succ]) (hCont (v328, bn) _ ⟨hHeld, (r2_ (Kd.R_mono bZ.out (fun _ hk => hk.2))), (r2_ (Kd.R_mono aa.out (fun _ hk => hk.2))), (r_ ad), (h_ ab), (h_ ac), (h_ ax), eR.out, jU.out, aQ.out, bU.out, aU.out, bV.out, (b_ HB)⟩)
   ·skip
    refine box_step ?hg (N := 22) ?hd (cs := #[.string (⟨#[]⟩ : ByteArray), .slice none 0 0]) (t := 30) ?hr ?_; (case hd => rfl); (case hg => rfl); (case hr => first | (go_simp; done) | (go_simp; rfl))
    intro bn hg w145 hbox hb
    have n6_ := mk0 (gz_ HB hg)
    have n7_ := mk0 (gz_ HB hg)
    have n8_ := mk0 (ne1_ ab hg)
    have n9_ := mk0 (ne2_ ab hg)
    have n10_ := mk0 (ne1_ ac hg)
    have n11_ := mk0 (ne2_ ac hg)
    replace ad := mk0 (Kd.R_below (r_ ad) hb)
    replace aa := mk0 (Kd.R_below (r_ aa) hb)
    replace ab := mk0 (u_ ab hb)
    replace ac := mk0 (u_ ac hb)
    replace HB := mk0 (bt_ (b_ HB) hb)
    have ax := mk0 (hbox)
    have eR := n6_
    have jU := n7_
    have aQ := n8_
    have bU := n9_
    have aU := n10_
    have bV := n11_
    clear n6_ n7_ n8_ n9_ n10_ n11_ hb hbox hg
    refine hK.out _ _ ⟨bk_ ac 0, bk_ ac 1, bk_ ab 0, bk_ ab 1, bk_ ab 2, bk_ ab 3, (bc_ HB ef :), (bc_ HB ee :), (bc_ HB ed :)⟩ (fun hHeld => ?_)
    clear hK K
    refine norm_ (a' := ?_) ?_ ?_
    rotate_left
    ·show Act.put _ (some 22) _ = _
     simp only [z_]
     rfl
    refine one_ (i := 6) (N := some 197) (bt 13 1151) rfl rfl (one_of HT_.out (by kernel_rfl)) (by decide) (fun K hK => ?_)
    refine goes_ Try.func26 (by kernel_rfl) rfl #[.agg #[.string aM, .slice bE an.length bF], .agg #[.int .i64 ((rd_T39 ah ar).f0), .string ((rd_T39 ah ar).f1), .bool ((rd_T39 ah ar).f2)]] (by rfl) rfl rfl (by (try simp only [List.map_toArray, List.map_cons, List.map_nil]); first | done | rfl | (simp only [List.length_drop, List.length_take]; rfl)) ?_
    with_reducible refine (chain_Add.calls kj131 aM _ _ an ((rd_T39 ah ar).f0) ((rd_T39 ah ar).f1) ((rd_T39 ah ar).f2) ci bR gE _ ?side1 ?side2 A141.out).mono ?_
    (case side1 => exact cr_ aa)
    (case side2 => exact (Kd.R_reads' aa.out).2.1)
    rintro e w146 ⟨v328, rfl, ho0, hb⟩
    refine ⟨_, rfl, ?_⟩
    have n2_ := mk0 (Kd.R_lower (Kd.R_new' ho0 (Kd.R_lt (r_ aa))) (bz_ (b_ HB)))
    replace ad := mk0 (Kd.R_below (r_ ad) hb)
    replace aa := mk0 (Kd.R_elder' (r_ aa) (Kd.R_base ho0) hb)
    replace ab := mk0 (u_ ab hb)
    replace ac := mk0 (u_ ac hb)
    replace ax := mk0 (blk_below (g := bn) (o := .cells #[.string (⟨#[]⟩ : ByteArray), .slice none 0 0] 30 (0, 0)) (h_ ax) hb)
    replace HB := mk0 (bt_ (b_ HB) hb)
    have bZ := n2_
    clear n2_
    (try clear hb)
    (try clear hb2)
    (try clear hk)
    (try clear hi)
    (try clear ho0)
    refine hK.out _ _ ⟨bk_ ac 0, bk_ ac 1, bk_ ab 0, bk_ ab 1, bk_ ab 2, bk_ ab 3, (bc_ HB ef :), (bc_ HB ee :), (bc_ HB ed :)⟩ (fun hHeld => ?_)
    clear hK K
    refine norm_ (a' := ?_) ?_ ?_
    rotate_left
    ·show Act.put _ (some 197) _ = _
     simp only [z_]
     rfl
    refine pq_ HT_.out 7 190 (bt 13 1279) (h := ?_)
    refine pq_ HT_.out 8 198 (bt 13 1535) (h := ?_)
    refine pq_ HT_.out 9 199 (bt 13 2047) (h := ?_)
    exact norm_ (by simp only [putAll, Act.put, List.setIfInBounds_toArray, List.set_cons_zero, List.set_cons_succ]) (hCont (v328, bn) _ ⟨hHeld, (r2_ (Kd.R_mono bZ.out (fun _ hk => hk.2))), (r2_ (Kd.R_mono aa.out (fun _ hk => hk.2))), (r_ ad), (h_ ab), (h_ ac), (h_ ax), eR.out, jU.out, aQ.out, bU.out, aU.out, bV.out, (b_ HB)⟩)
  rintro ⟨v328, bn⟩ w147 ⟨hS_, h0_, h1_, h2_, h3_, h4_, h5_, h6_, h7_, h8_, h9_, h10_, h11_, h12_⟩
  have n0_ : Fc (Kd.R k39 39 w147 w.heap.size (fun k_ => some k_ ≠ (.slice bE an.length bF : Value).ownBlock) v328 bR) := ⟨h0_⟩
  have n1_ : Fc (Kd.R k39 39 w147 w.heap.size (fun k_ => some k_ ≠ (v328 : Value).ownBlock) (.slice bE an.length bF) an) := ⟨h1_⟩
  have n2_ : Fc (Kd.R (Kd.int .i64) 3 w147 w.heap.size (fun _ => True) v275 aK) := ⟨h2_⟩
  have n3_ : Fc (w147.heap[af]? = some (.cells #[.slice (some aw) ai.length c0_0, .slice (some aV) ah.length c0_1, .slice A0_2 aE.length c0_2, .slice A0_3 ay.length c0_3] 27 (0, 0))) := ⟨h3_⟩
  have n4_ : Fc (w147.heap[az]? = some (.cells #[.string aM, .slice bE an.length bF] 30 (0, 0))) := ⟨h4_⟩
  have n5_ : Fc (w147.heap[bn]? = some (.cells #[.string (⟨#[]⟩ : ByteArray), .slice none 0 0] 30 (0, 0))) := ⟨h5_⟩
  have n6_ : Fc (w.heap.size ≤ bn) := ⟨h6_⟩
  have n7_ : Fc (w.heap.size ≤ bn) := ⟨h7_⟩
  have n8_ : Fc (af ≠ bn) := ⟨h8_⟩
  have n9_ : Fc (bn ≠ af) := ⟨h9_⟩
  have n10_ : Fc (az ≠ bn) := ⟨h10_⟩
  have n11_ : Fc (bn ≠ az) := ⟨h11_⟩
  have n12_ : Fc (Below w.heap.size w w147) := ⟨h12_⟩
  clear ad aa ab ac HB h0_ h1_ h2_ h3_ h4_ h5_ h6_ h7_ h8_ h9_ h10_ h11_ h12_
  have bZ := n0_
  have aa := n1_
  have ad := n2_
  have ab := n3_
  have ac := n4_
  have ax := n5_
  have eR := n6_
  have jU := n7_
  have aQ := n8_
  have bU := n9_
  have aU := n10_
  have bV := n11_
  have HB := n12_
  clear n0_ n1_ n2_ n3_ n4_ n5_ n6_ n7_ n8_ n9_ n10_ n11_ n12_
  have hHeld : w147.cell? ⟨az, 0, none⟩ = some (.string aM) ∧ w147.cell? ⟨az, 1, none⟩ = some (.slice bE an.length bF) ∧ w147.cell? ⟨af, 0, none⟩ = some (.slice (some aw) ai.length c0_0) ∧ w147.cell? ⟨af, 1, none⟩ = some (.slice (some aV) ah.length c0_1) ∧ w147.cell? ⟨af, 2, none⟩ = some (.slice A0_2 aE.length c0_2) ∧ w147.cell? ⟨af, 3, none⟩ = some (.slice A0_3 ay.length c0_3) ∧ w147.cell? (aV.add ((ar).toNat * 3)) = some (.int .i64 ((rd_T39 ah ar).f0)) ∧ w147.cell? ⟨(aV.add ((ar).toNat * 3)).block, (aV.add ((ar).toNat * 3)).off + 1, none⟩ = some (.string ((rd_T39 ah ar).f1)) ∧ w147.cell? ⟨(aV.add ((ar).toNat * 3)).block, (aV.add ((ar).toNat * 3)).off + 2, none⟩ = some (.bool ((rd_T39 ah ar).f2)) := hS_
  obtain ⟨ca, cb, mg⟩ := Kd.R_slice bZ.out
  (first | subst mg | (injection mg with f1_ f2_ f3_; have f4_ := f1_.symm; have f5_ := f3_.symm; clear f1_ f2_ f3_; subst f4_; subst f5_))
  refine norm_ (a' := ?_) ?_ ?_
  rotate_left
  ·simp only [putAll, Act.put, List.setIfInBounds_toArray, List.set_cons_zero, List.set_cons_succ]
   rfl
  refine one_ (i := 11) (N := none) (bt 13 4095) rfl rfl (one_of HT_.out (by kernel_rfl)) (by decide) (fun K hK => ?_)
  have hs148 : w147.cell? ⟨bn, 0, none⟩ = some (.string (⟨#[]⟩ : ByteArray)) := bk_ ax 0
  have hfs148 := blk_frozen ax.out 0
  have nL := aQ.out
  have nM := aU.out
  have nN := bU.out
  have nO := bV.out
  have hs150 : w147.cell? ⟨bn, 1, none⟩ = some (.slice none 0 0) := bk_ ax 1
  have hfs150 := blk_frozen ax.out 1
  have nP := aQ.out
  have nQ := aU.out
  have nR := bU.out
  have nS := bV.out
  refine skip_ (w1 := ?_) (by rfl) rfl ?_ ?_
  rotate_left
  ·go_simp
   rfl
  refine hK.out _ _ ⟨(cf_ aU.out (cf_ aU.out hHeld.1)), (cf_ aU.out (cf_ aU.out hHeld.2.1)), (cf_ aQ.out (cf_ aQ.out hHeld.2.2.1)), (cf_ aQ.out (cf_ aQ.out hHeld.2.2.2.1)), (cf_ aQ.out (cf_ aQ.out hHeld.2.2.2.2.1)), (cf_ aQ.out (cf_ aQ.out hHeld.2.2.2.2.2.1)), (cf_ (nb_ ef eR) (cf_ (nb_ ef eR) hHeld.2.2.2.2.2.2.1)), (cf_ (nb_ ee eR) (cf_ (nb_ ee eR) hHeld.2.2.2.2.2.2.2.1)), (cf_ (nb_ ed eR) (cf_ (nb_ ed eR) hHeld.2.2.2.2.2.2.2.2))⟩ (fun hHeld => ?_)
  clear hK K
  refine pq_ HT_.out 12 23 (bt 13 8191) (h := ?_)
  refine done_ (done_of HT_.out (by kernel_rfl)) ?_
  go_upto_region 37 with (first | ((with_reducible refine gate_dst (N := 25) rfl ?_); refine bx_ (N := 25) (cs := #[.string (⟨#[]⟩ : ByteArray), .slice none 0 0]) (t := 30) (h := ?_); intro bG hg w151 hbox hb; have n0_ := mk0 (Kd.R_below (r2_ (Kd.R_mono (Kd.R_far (p := ⟨bn, 1, none⟩) (Kd.R_far (p := ⟨bn, 0, none⟩) (Kd.R_types ad.out ax.out (by decide)) (fun _ hk => hk.2) (.string ci)) (fun _ hk => hk.2) (.slice ca bR.length cb)) (fun _ h_ => h_.1))) hb); have n1_ := mk0 (Kd.R_below (r2_ (Kd.R_mono (Kd.R_far (p := ⟨bn, 1, none⟩) (Kd.R_far (p := ⟨bn, 0, none⟩) (Kd.R_types aa.out ax.out (by decide)) (fun _ hk => hk.2) (.string ci)) (fun _ hk => hk.2) (.slice ca bR.length cb)) (fun _ h_ => h_.1))) hb); have n2_ := mk0 (Kd.R_below (r2_ (Kd.R_mono (Kd.R_far (p := ⟨bn, 1, none⟩) (Kd.R_far (p := ⟨bn, 0, none⟩) (Kd.R_types bZ.out ax.out (by decide)) (fun _ hk => hk.2) (.string ci)) (fun _ hk => hk.2) (.slice ca bR.length cb)) (fun _ h_ => h_.1))) hb); have n8_ := mk0 (gz_ HB hg); have n9_ := mk0 (gz_ HB hg); have n10_ := mk0 ((by rw [hg]; exact Nat.ne_of_lt (blk_lt (g := af) (o := .cells #[.slice (some aw) ai.length c0_0, .slice (some aV) ah.length c0_1, .slice A0_2 aE.length c0_2, .slice A0_3 ay.length c0_3] 27 (0, 0)) (fa_ (fa_ (h_ ab) aQ.out) aQ.out)) : af ≠ bG)); have n11_ := mk0 ((by rw [hg]; exact Nat.ne_of_gt (blk_lt (g := af) (o := .cells #[.slice (some aw) ai.length c0_0, .slice (some aV) ah.length c0_1, .slice A0_2 aE.length c0_2, .slice A0_3 ay.length c0_3] 27 (0, 0)) (fa_ (fa_ (h_ ab) aQ.out) aQ.out)) : bG ≠ af)); have n12_ := mk0 ((by rw [hg]; exact Nat.ne_of_lt (blk_lt (g := az) (o := .cells #[.string aM, .slice bE an.length bF] 30 (0, 0)) (fa_ (fa_ (h_ ac) aU.out) aU.out)) : az ≠ bG)); have n13_ := mk0 ((by rw [hg]; exact Nat.ne_of_gt (blk_lt (g := az) (o := .cells #[.string aM, .slice bE an.length bF] 30 (0, 0)) (fa_ (fa_ (h_ ac) aU.out) aU.out)) : bG ≠ az)); have n14_ := mk0 ((by rw [hg]; exact Nat.ne_of_lt (blk_lt (g := bn) (o := .cells #[.string ci, .slice ca bR.length cb] 30 (0, 0)) (pu_ (cs := #[.string ci, .slice none 0 0]) (pu_ (cs := #[.string (⟨#[]⟩ : ByteArray), .slice none 0 0]) (h_ ax)))) : bn ≠ bG)); have n15_ := mk0 ((by rw [hg]; exact Nat.ne_of_gt (blk_lt (g := bn) (o := .cells #[.string ci, .slice ca bR.length cb] 30 (0, 0)) (pu_ (cs := #[.string ci, .slice none 0 0]) (pu_ (cs := #[.string (⟨#[]⟩ : ByteArray), .slice none 0 0]) (h_ ax)))) : bG ≠ bn)); replace ab := mk0 (blk_below (g := af) (o := .cells #[.slice (some aw) ai.length c0_0, .slice (some aV) ah.length c0_1, .slice A0_2 aE.length c0_2, .slice A0_3 ay.length c0_3] 27 (0, 0)) (fa_ (fa_ (h_ ab) aQ.out) aQ.out) hb); replace ac := mk0 (blk_below (g := az) (o := .cells #[.string aM, .slice bE an.length bF] 30 (0, 0)) (fa_ (fa_ (h_ ac) aU.out) aU.out) hb); replace ax := mk0 (blk_below (g := bn) (o := .cells #[.string ci, .slice ca bR.length cb] 30 (0, 0)) (pu_ (cs := #[.string ci, .slice none 0 0]) (pu_ (cs := #[.string (⟨#[]⟩ : ByteArray), .slice none 0 0]) (h_ ax))) hb); replace HB := mk0 (bt_ (b_ HB) hb); have aC := mk0 (hbox); clear ad aa bZ; have ad := n0_; have aa := n1_; have bZ := n2_; have eS := n8_; have sN := n9_; have bw := n10_; have iu := n11_; have eG := n12_; have iv := n13_; have cp := n14_; have dN := n15_; clear n0_ n1_ n2_ n8_ n9_ n10_ n11_ n12_ n13_ n14_ n15_; clear hb hbox hg))
  (try simp only [Act.put, List.setIfInBounds_toArray, List.set_cons_zero, List.set_cons_succ])
  go_cut [214] (fun v214 wc => ∃ (kq : Nat) (fO : Bool), v214 = .bool fO ∧ Fc (quorumlaw8_ChainTells.j11 kq aK aj en ar gE 1 fO ai ah aE ay aM an ci bR (⟨#[]⟩ : ByteArray) = some r) ∧ Fc (kq ≤ kj131) ∧ Fc (Kd.R (Kd.int .i64) 3 wc w.heap.size (fun _ => True) v275 aK) ∧ Fc (Kd.R k39 39 wc w.heap.size (fun k_ => some k_ ≠ ((.slice ca bR.length cb) : Value).ownBlock) (.slice bE an.length bF) an) ∧ Fc (Kd.R k39 39 wc w.heap.size (fun k_ => some k_ ≠ ((.slice bE an.length bF) : Value).ownBlock) (.slice ca bR.length cb) bR) ∧ Fc (wc.heap[af]? = some (.cells #[(.slice (some aw) ai.length c0_0), (.slice (some aV) ah.length c0_1), (.slice A0_2 aE.length c0_2), (.slice A0_3 ay.length c0_3)] 27 (0, 0))) ∧ Fc (wc.heap[az]? = some (.cells #[.string aM, (.slice bE an.length bF)] 30 (0, 0))) ∧ Fc (wc.heap[bn]? = some (.cells #[.string ci, (.slice ca bR.length cb)] 30 (0, 0))) ∧ Fc (wc.heap[bG]? = some (.cells #[.string (⟨#[]⟩ : ByteArray), (.slice none 0 0)] 30 (0, 0))) ∧ Fc (Below w.heap.size w wc))
  case first =>
   have H := HC142.out
   clear HC142
   by_cases c152 : en = true
   rotate_left
   ·replace c152 := Bool.eq_false_iff.mpr c152
    subst c152
    rw [if_neg (show ¬ (false = true) by decide)] at H
    have H' := mk0 H
    clear H
    try go_wp2
    go_quiet (fail)
    generalize hq_ : World.drewN w151 _ = w161
    replace ad := mk0 (Kd.R_at hq_ ad.out)
    replace aa := mk0 (Kd.R_at hq_ aa.out)
    replace bZ := mk0 (Kd.R_at hq_ bZ.out)
    replace ab := mk0 (blk_at hq_ ab.out)
    replace ac := mk0 (blk_at hq_ ac.out)
    replace ax := mk0 (blk_at hq_ ax.out)
    replace aC := mk0 (blk_at hq_ aC.out)
    replace HB := mk0 (below_at hq_ HB.out)
    clear hq_
    try go_wp2
    go_meet
    case rel => exact ⟨_, (false), (by first | rfl | (simp; done) | (simp [*]; done)), H', ⟨by have := cC.out; have := br.out; have := cd.out; have := cn.out; have := dJ.out; have := cB.out; have := jy.out; have := dM.out; first | omega | exact Nat.le_refl _⟩, ⟨by (with_reducible repeat (first | apply Ra_ | apply Rn_ | apply Rd_)); exact ad.out⟩, ⟨by (with_reducible repeat (first | apply Ra_ | apply Rn_ | apply Rd_)); exact aa.out⟩, ⟨by (with_reducible repeat (first | apply Ra_ | apply Rn_ | apply Rd_)); exact bZ.out⟩, ⟨h_ ab⟩, ⟨h_ ac⟩, ⟨h_ ax⟩, ⟨h_ aC⟩, ⟨b_ HB⟩⟩
   subst c152
   rw [if_pos rfl] at H
   by_cases c153 : 0 ≤ aj
   rotate_left
   ·rw [if_neg c153] at H
    exact absurd H (by simp)
   rw [if_pos c153] at H
   have iU : decide (0 ≤ aj) = true := decide_eq_true c153
   clear c153
   (first | rw [iU] | (simp only [i64_w, i32_w]; rw [iU]) | skip)
   by_cases c154 : aj < (ai.length : Int)
   rotate_left
   ·rw [if_neg c154] at H
    exact absurd H (by simp)
   rw [if_pos c154] at H
   have lv : decide (aj < (ai.length : Int)) = true := decide_eq_true c154
   clear c154
   replace H := Option.bind_eq_some_iff.mp H
   obtain ⟨⟨mG, mH⟩, A1550, H⟩ := H
   try dsimp only at H
   have A155 := mk0 A1550
   clear A1550
   replace H := Option.bind_eq_some_iff.mp H
   obtain ⟨nT, A1560, H⟩ := H
   try dsimp only at H
   have A156 := mk0 A1560
   clear A1560
   have H' := mk0 H
   clear H
   try go_wp2
   replace ad := mk0 (Rd_ ad.out)
   replace aa := mk0 (Rd_ aa.out)
   replace bZ := mk0 (Rd_ bZ.out)
   replace ab := mk0 (bD_ ab.out)
   replace ac := mk0 (bD_ ac.out)
   replace ax := mk0 (bD_ ax.out)
   replace aC := mk0 (bD_ aC.out)
   replace HB := mk0 (b1_ HB.out)
   have lw : 0 ≤ (aj : Int) := of_decide_eq_true (by first | (with_reducible assumption) | assumption)
   have lx : aj < (ai.length : Int) := of_decide_eq_true (by first | (with_reducible assumption) | assumption)
   obtain ⟨nU, A333_1, c333_1, rN, eH, eI, jV, jW⟩ := at_T30 dr.out aj lw lx
   have iV := eI
   have iW := eH
   obtain rfl : aw = nU := (by injection rN)
   replace eH := (bc_ HB eH :)
   replace eI := (bc_ HB eI :)
   have jX := mk0 jW
   have lJ := mk0 jV
   clear jW jV
   replace lw := eq_true lw
   replace lx := eq_true lx
   have ly : 0 ≤ (ar : Int) := of_decide_eq_true (by first | (with_reducible assumption) | assumption)
   have lz : ar < (ah.length : Int) := of_decide_eq_true (by first | (with_reducible assumption) | assumption)
   obtain ⟨nV, rO, eJ, eK, eL⟩ := at_T39 gK.out ar ly lz
   have iX := eL
   have iY := eK
   have iZ := eJ
   obtain rfl : aV = nV := (by injection rO)
   replace eJ := (bc_ HB eJ :)
   replace eK := (bc_ HB eK :)
   replace eL := (bc_ HB eL :)
   replace ly := eq_true ly
   replace lz := eq_true lz
   refine start_ (n := 15) (S := fun w' => w'.cell? ⟨af, 0, none⟩ = some (.slice (some aw) ai.length c0_0) ∧ w'.cell? ⟨af, 1, none⟩ = some (.slice (some aV) ah.length c0_1) ∧ w'.cell? ⟨af, 2, none⟩ = some (.slice A0_2 aE.length c0_2) ∧ w'.cell? ⟨af, 3, none⟩ = some (.slice A0_3 ay.length c0_3) ∧ w'.cell? (aw.add ((aj).toNat * 2)) = some (.string ((rd_T30 ai aj).f0)) ∧ w'.cell? ⟨(aw.add ((aj).toNat * 2)).block, (aw.add ((aj).toNat * 2)).off + 1, none⟩ = some (.slice A333_1 ((rd_T30 ai aj).f1).length c333_1) ∧ w'.cell? (aV.add ((ar).toNat * 3)) = some (.int .i64 ((rd_T39 ah ar).f0)) ∧ w'.cell? ⟨(aV.add ((ar).toNat * 3)).block, (aV.add ((ar).toNat * 3)).off + 1, none⟩ = some (.string ((rd_T39 ah ar).f1)) ∧ w'.cell? ⟨(aV.add ((ar).toNat * 3)).block, (aV.add ((ar).toNat * 3)).off + 2, none⟩ = some (.bool ((rd_T39 ah ar).f2))) (ds := []) (bt 15 0) (by kernel_rfl) rfl rfl ⟨bk_ ab 0, bk_ ab 1, bk_ ab 2, bk_ ab 3, (bc_ HB iW :), (bc_ HB iV :), (bc_ HB iZ :), (bc_ HB iY :), (bc_ HB iX :)⟩ (fun hHeld => ?_); refine with_tabW quorumlaw8_ChainTells.tab37 quorumlaw8_ChainTells.bits37 (fun HT_ HW_ => ?_)
   generalize w151.drew = w157 at ad aa bZ ab ac ax aC HB jX eH eI eJ eK eL hHeld ⊢
   refine pq_ HT_.out 0 200 (bt 15 1) (h := ?_)
   refine pq_ HT_.out 1 201 (bt 15 3) (h := ?_)
   refine pq_ HT_.out 2 202 (bt 15 7) (h := ?_)
   refine pq_ HT_.out 4 204 (bt 15 23) (h := ?_)
   refine pq_ HT_.out 7 207 (bt 15 151) (h := ?_)
   refine pq_ HT_.out 9 209 (bt 15 663) (h := ?_)
   refine tq9_ HT_.out HW_.out 3 203 (bt 15 671) hHeld (h := ?_)
   refine pq_ HT_.out 5 205 (bt 15 703) (h := ?_)
   refine tq9_ HT_.out HW_.out 6 206 (bt 15 767) hHeld (h := ?_)
   refine tq9_ HT_.out HW_.out 8 208 (bt 15 1023) hHeld (h := ?_)
   refine pq_ HT_.out 10 210 (bt 15 2047) (h := ?_)
   refine tq9_ HT_.out HW_.out 11 211 (bt 15 4095) hHeld (h := ?_)
   refine one_ (i := 12) (N := some 212) (bt 15 8191) rfl rfl (one_of HT_.out (by kernel_rfl)) (by decide) (fun K hK => ?_)
   refine goes_ Try.func27 (by kernel_rfl) rfl #[.agg #[.string ((rd_T30 ai aj).f0), .slice A333_1 ((rd_T30 ai aj).f1).length c333_1], .agg #[.int .i64 ((rd_T39 ah ar).f0), .string ((rd_T39 ah ar).f1), .bool ((rd_T39 ah ar).f2)]] (by rfl) rfl rfl (by (try simp only [List.map_toArray, List.map_cons, List.map_nil]); first | done | rfl | (simp only [List.length_drop, List.length_take]; rfl)) ?_
   with_reducible refine (quorumref8_Add.calls kj131 ((rd_T30 ai aj).f0) _ _ ((rd_T30 ai aj).f1) ((rd_T39 ah ar).f0) ((rd_T39 ah ar).f1) ((rd_T39 ah ar).f2) mG mH _ ?side1 ?side2 A155.out).mono ?_
   (case side1 => exact cb_ jX HB)
   (case side2 => exact lJ.out)
   rintro e w158 ⟨v337, rfl, ho0, hb⟩
   refine ⟨_, rfl, ?_⟩
   have n3_ := mk0 (Kd.R_lower (Kd.R_new' (Kd.R_new' ho0 (Kd.R_lt (r_ aa))) (Kd.R_lt (r_ bZ))) (bz_ (b_ HB)))
   replace ad := mk0 (Kd.R_below (r_ ad) hb)
   replace aa := mk0 (Kd.R_elder' (r_ aa) (Kd.R_base ho0) hb)
   replace bZ := mk0 (Kd.R_elder' (r_ bZ) (Kd.R_base ho0) hb)
   replace ab := mk0 (u_ ab hb)
   replace ac := mk0 (u_ ac hb)
   replace ax := mk0 (u_ ax hb)
   replace aC := mk0 (blk_below (g := bG) (o := .cells #[.string (⟨#[]⟩ : ByteArray), .slice none 0 0] 30 (0, 0)) (h_ aC) hb)
   replace HB := mk0 (bt_ (b_ HB) hb)
   have jf := n3_
   clear n3_
   (try clear hb)
   (try clear hb2)
   (try clear hk)
   (try clear hi)
   (try clear ho0)
   obtain ⟨nW, nX, mh⟩ := Kd.R_slice jf.out
   (first | subst mh | (injection mh with f1_ f2_ f3_; have f4_ := f1_.symm; have f5_ := f3_.symm; clear f1_ f2_ f3_; subst f4_; subst f5_))
   refine hK.out _ _ ⟨bk_ ab 0, bk_ ab 1, bk_ ab 2, bk_ ab 3, (bc_ HB iW :), (bc_ HB iV :), (bc_ HB iZ :), (bc_ HB iY :), (bc_ HB iX :)⟩ (fun hHeld => ?_)
   clear hK K
   refine norm_ (a' := ?_) ?_ ?_
   rotate_left
   ·show Act.put _ (some 212) _ = _
    simp only [z_]
    rfl
   refine one_ (i := 13) (N := some 213) (bt 15 16383) rfl rfl (one_of HT_.out (by kernel_rfl)) (by decide) (fun K hK => ?_)
   refine goes_ Try.func17 (by kernel_rfl) rfl #[.agg #[.string mG, .slice nW mH.length nX]] (by rfl) rfl rfl (by (try simp only [List.map_toArray, List.map_cons, List.map_nil]); first | done | rfl | (simp only [List.length_drop, List.length_take]; rfl)) ?_
   with_reducible refine (quorumref8_Chain.calls kj131 mG _ _ mH nT _ ?side1 ?side2 A156.out).mono ?_
   (case side1 => exact cr_ jf)
   (case side2 => exact (Kd.R_reads' jf.out).2.1)
   rintro e w160 ⟨rfl, hb⟩
   refine ⟨_, rfl, ?_⟩
   replace ad := mk0 (Kd.R_below (r_ ad) hb)
   replace aa := mk0 (Kd.R_below (r_ aa) hb)
   replace bZ := mk0 (Kd.R_below (r_ bZ) hb)
   replace jf := mk0 (Kd.R_below (r_ jf) hb)
   replace ab := mk0 (u_ ab hb)
   replace ac := mk0 (u_ ac hb)
   replace ax := mk0 (u_ ax hb)
   replace aC := mk0 (blk_below (g := bG) (o := .cells #[.string (⟨#[]⟩ : ByteArray), .slice none 0 0] 30 (0, 0)) (h_ aC) hb)
   replace HB := mk0 (bt_ (b_ HB) hb)
   (try clear hb)
   (try clear hb2)
   (try clear hk)
   (try clear hi)
   refine hK.out _ _ ⟨bk_ ab 0, bk_ ab 1, bk_ ab 2, bk_ ab 3, (bc_ HB iW :), (bc_ HB iV :), (bc_ HB iZ :), (bc_ HB iY :), (bc_ HB iX :)⟩ (fun hHeld => ?_)
   clear hK K
   refine norm_ (a' := ?_) ?_ ?_
   rotate_left
   ·show Act.put _ (some 213) _ = _
    simp only [z_]
    rfl
   refine pq_ HT_.out 14 214 (bt 15 32767) (h := ?_)
   refine done_ (done_of HT_.out (by kernel_rfl)) ?_
   try go_wp2
   go_meet
   case rel => exact ⟨_, (nT), (by first | rfl | (simp; done) | (simp [*]; done)), H', ⟨by have := cC.out; have := br.out; have := cd.out; have := cn.out; have := dJ.out; have := cB.out; have := jy.out; have := dM.out; first | omega | exact Nat.le_refl _⟩, ⟨by (with_reducible repeat (first | apply Ra_ | apply Rn_ | apply Rd_)); exact ad.out⟩, ⟨by (with_reducible repeat (first | apply Ra_ | apply Rn_ | apply Rd_)); exact Kd.R_mono aa.out (fun _ hk => hk.1)⟩, ⟨by (with_reducible repeat (first | apply Ra_ | apply Rn_ | apply Rd_)); exact Kd.R_mono bZ.out (fun _ hk => hk.1)⟩, ⟨h_ ab⟩, ⟨h_ ac⟩, ⟨h_ ax⟩, ⟨h_ aC⟩, ⟨b_ HB⟩⟩
  clear HC142
  try clear c3
  try clear c152
  try clear c153
  try clear iU
  try clear c154
  try clear lv
  try clear eH eI
  try clear eJ eK eL
  try clear lw
  try clear ly
  try clear lx
  try clear lz
  obtain ⟨kq, fO, rfl, HA, fP, ad, aa, ag, ab, ac, ax, aC, HB⟩ := hcut
  cases kq with
  | zero => exact absurd HA.out (by simp [quorumlaw8_ChainTells.j11])
  | succ kj141 =>
  have H := HA.out
  clear HA
  simp only [quorumlaw8_ChainTells.j11] at H
  as_aux_lemma =>
  have HC162 := mk0 H
  clear H
  go_upto_if 214 with (fail)
  go_cut [24] (fun v24 wc => ∃ (kq : Nat) (dm : Int) (bg : ByteArray) (bB : List (S39)) (u333001 : Value), v24 = .int .i64 dm ∧ Fc (quorumlaw8_ChainTells.j12 kq aK aj en ar gE dm ai ah aE ay aM an ci bR bg bB = some r) ∧ Fc (kq ≤ kj141) ∧ Fc (Kd.R (Kd.int .i64) 3 wc w.heap.size (fun _ => True) v275 aK) ∧ Fc (Kd.R k39 39 wc w.heap.size (fun k_ => some k_ ≠ ((.slice ca bR.length cb) : Value).ownBlock ∧ some k_ ≠ (u333001 : Value).ownBlock) (.slice bE an.length bF) an) ∧ Fc (Kd.R k39 39 wc w.heap.size (fun k_ => some k_ ≠ ((.slice bE an.length bF) : Value).ownBlock ∧ some k_ ≠ (u333001 : Value).ownBlock) (.slice ca bR.length cb) bR) ∧ Fc (Kd.R k39 39 wc w.heap.size (fun k_ => some k_ ≠ ((.slice bE an.length bF) : Value).ownBlock ∧ some k_ ≠ ((.slice ca bR.length cb) : Value).ownBlock) u333001 bB) ∧ Fc (wc.heap[af]? = some (.cells #[(.slice (some aw) ai.length c0_0), (.slice (some aV) ah.length c0_1), (.slice A0_2 aE.length c0_2), (.slice A0_3 ay.length c0_3)] 27 (0, 0))) ∧ Fc (wc.heap[az]? = some (.cells #[.string aM, (.slice bE an.length bF)] 30 (0, 0))) ∧ Fc (wc.heap[bn]? = some (.cells #[.string ci, (.slice ca bR.length cb)] 30 (0, 0))) ∧ Fc (wc.heap[bG]? = some (.cells #[.string bg, u333001] 30 (0, 0))) ∧ Fc (Below w.heap.size w wc))
  case first =>
   have H := HC162.out
   clear HC162
   by_cases c163 : fO = true
   rotate_left
   ·replace c163 := Bool.eq_false_iff.mpr c163
    subst c163
    rw [if_neg (show ¬ (false = true) by decide)] at H
    have H' := mk0 H
    clear H
    go_wp2
    go_meet
    case rel => exact ⟨_, (1), ((⟨#[]⟩ : ByteArray)), (([] : List (S39))), (.slice none 0 0), (by first | rfl | (simp; done) | (simp [*]; done)), H', ⟨by have := cC.out; have := br.out; have := cd.out; have := cn.out; have := dJ.out; have := cB.out; have := jy.out; have := dM.out; have := fP.out; first | omega | exact Nat.le_refl _⟩, ⟨by (with_reducible repeat (first | apply Ra_ | apply Rn_ | apply Rd_)); exact ad.out⟩, ⟨by (with_reducible repeat (first | apply Ra_ | apply Rn_ | apply Rd_)); exact Kd.R_mono aa.out (fun _ hk => ⟨hk, (by simp [Value.ownBlock])⟩)⟩, ⟨by (with_reducible repeat (first | apply Ra_ | apply Rn_ | apply Rd_)); exact Kd.R_mono ag.out (fun _ hk => ⟨hk, (by simp [Value.ownBlock])⟩)⟩, ⟨by first | exact Kd.R_nil _ _ _ _ _ | exact Kd.N_nil _ _ _ _ _ | exact Kd.V_nil _ _ _ _ _ | exact Kd.Q_nil _ _ _ _ _ | exact Kd.S_nil _ _ _ _ _⟩, ⟨h_ ab⟩, ⟨h_ ac⟩, ⟨h_ ax⟩, ⟨h_ aC⟩, ⟨b_ HB⟩⟩
   subst c163
   rw [if_pos rfl] at H
   by_cases c164 : 0 ≤ aj
   rotate_left
   ·rw [if_neg c164] at H
    exact absurd H (by simp)
   rw [if_pos c164] at H
   have jz : decide (0 ≤ aj) = true := decide_eq_true c164
   clear c164
   (first | rw [jz] | (simp only [i64_w, i32_w]; rw [jz]) | skip)
   by_cases c165 : aj < (ai.length : Int)
   rotate_left
   ·rw [if_neg c165] at H
    exact absurd H (by simp)
   rw [if_pos c165] at H
   have mI : decide (aj < (ai.length : Int)) = true := decide_eq_true c165
   clear c165
   by_cases c166 : 0 ≤ ar
   rotate_left
   ·rw [if_neg c166] at H
    exact absurd H (by simp)
   rw [if_pos c166] at H
   have mJ : decide (0 ≤ ar) = true := decide_eq_true c166
   clear c166
   by_cases c167 : ar < (ah.length : Int)
   rotate_left
   ·rw [if_neg c167] at H
    exact absurd H (by simp)
   rw [if_pos c167] at H
   have mK : decide (ar < (ah.length : Int)) = true := decide_eq_true c167
   clear c167
   replace H := Option.bind_eq_some_iff.mp H
   obtain ⟨⟨jA, jB⟩, A1680, H⟩ := H
   try dsimp only at H
   have A168 := mk0 A1680
   clear A1680
   have H' := mk0 H
   clear H
   try go_wp2
   replace ad := mk0 (Rd_ ad.out)
   replace aa := mk0 (Rd_ aa.out)
   replace ag := mk0 (Rd_ ag.out)
   replace ab := mk0 (bD_ ab.out)
   replace ac := mk0 (bD_ ac.out)
   replace ax := mk0 (bD_ ax.out)
   replace aC := mk0 (bD_ aC.out)
   replace HB := mk0 (b1_ HB.out)
   have lK : 0 ≤ (aj : Int) := of_decide_eq_true (by first | (with_reducible assumption) | assumption)
   have lL : aj < (ai.length : Int) := of_decide_eq_true (by first | (with_reducible assumption) | assumption)
   obtain ⟨nY, A340_1, c340_1, rP, fQ, fR, jY, jZ⟩ := at_T30 dr.out aj lK lL
   have hC := fR
   have hD := fQ
   obtain rfl : aw = nY := (by injection rP)
   replace fQ := (bc_ HB fQ :)
   replace fR := (bc_ HB fR :)
   have ka := mk0 jZ
   have lM := mk0 jY
   clear jZ jY
   replace lK := eq_true lK
   replace lL := eq_true lL
   have lN : 0 ≤ (ar : Int) := of_decide_eq_true (by first | (with_reducible assumption) | assumption)
   have lO : ar < (ah.length : Int) := of_decide_eq_true (by first | (with_reducible assumption) | assumption)
   obtain ⟨nZ, rQ, fS, fT, fU⟩ := at_T39 gK.out ar lN lO
   have hE := fU
   have hF := fT
   have hG := fS
   obtain rfl : aV = nZ := (by injection rQ)
   replace fS := (bc_ HB fS :)
   replace fT := (bc_ HB fT :)
   replace fU := (bc_ HB fU :)
   replace lN := eq_true lN
   replace lO := eq_true lO
   refine start_ (n := 13) (S := fun w' => w'.cell? ⟨af, 0, none⟩ = some (.slice (some aw) ai.length c0_0) ∧ w'.cell? ⟨af, 1, none⟩ = some (.slice (some aV) ah.length c0_1) ∧ w'.cell? ⟨af, 2, none⟩ = some (.slice A0_2 aE.length c0_2) ∧ w'.cell? ⟨af, 3, none⟩ = some (.slice A0_3 ay.length c0_3) ∧ w'.cell? (aw.add ((aj).toNat * 2)) = some (.string ((rd_T30 ai aj).f0)) ∧ w'.cell? ⟨(aw.add ((aj).toNat * 2)).block, (aw.add ((aj).toNat * 2)).off + 1, none⟩ = some (.slice A340_1 ((rd_T30 ai aj).f1).length c340_1) ∧ w'.cell? (aV.add ((ar).toNat * 3)) = some (.int .i64 ((rd_T39 ah ar).f0)) ∧ w'.cell? ⟨(aV.add ((ar).toNat * 3)).block, (aV.add ((ar).toNat * 3)).off + 1, none⟩ = some (.string ((rd_T39 ah ar).f1)) ∧ w'.cell? ⟨(aV.add ((ar).toNat * 3)).block, (aV.add ((ar).toNat * 3)).off + 2, none⟩ = some (.bool ((rd_T39 ah ar).f2))) (ds := []) (bt 13 0) (by kernel_rfl) rfl rfl ⟨bk_ ab 0, bk_ ab 1, bk_ ab 2, bk_ ab 3, (bc_ HB hD :), (bc_ HB hC :), (bc_ HB hG :), (bc_ HB hF :), (bc_ HB hE :)⟩ (fun hHeld => ?_); refine with_tabW quorumlaw8_ChainTells.tab38 quorumlaw8_ChainTells.bits38 (fun HT_ HW_ => ?_)
   generalize wc.drew = w169 at ad aa ag ab ac ax aC HB ka fQ fR fS fT fU hHeld ⊢
   refine pq_ HT_.out 0 215 (bt 13 1) (h := ?_)
   refine pq_ HT_.out 2 217 (bt 13 5) (h := ?_)
   refine pq_ HT_.out 5 220 (bt 13 37) (h := ?_)
   refine pq_ HT_.out 7 222 (bt 13 165) (h := ?_)
   refine tq9_ HT_.out HW_.out 1 216 (bt 13 167) hHeld (h := ?_)
   refine pq_ HT_.out 3 218 (bt 13 175) (h := ?_)
   refine tq9_ HT_.out HW_.out 4 219 (bt 13 191) hHeld (h := ?_)
   refine tq9_ HT_.out HW_.out 6 221 (bt 13 255) hHeld (h := ?_)
   refine pq_ HT_.out 8 223 (bt 13 511) (h := ?_)
   refine tq9_ HT_.out HW_.out 9 224 (bt 13 1023) hHeld (h := ?_)
   refine one_ (i := 10) (N := some 225) (bt 13 2047) rfl rfl (one_of HT_.out (by kernel_rfl)) (by decide) (fun K hK => ?_)
   refine goes_ Try.func27 (by kernel_rfl) rfl #[.agg #[.string ((rd_T30 ai aj).f0), .slice A340_1 ((rd_T30 ai aj).f1).length c340_1], .agg #[.int .i64 ((rd_T39 ah ar).f0), .string ((rd_T39 ah ar).f1), .bool ((rd_T39 ah ar).f2)]] (by rfl) rfl rfl (by (try simp only [List.map_toArray, List.map_cons, List.map_nil]); first | done | rfl | (simp only [List.length_drop, List.length_take]; rfl)) ?_
   with_reducible refine (quorumref8_Add.calls kj141 ((rd_T30 ai aj).f0) _ _ ((rd_T30 ai aj).f1) ((rd_T39 ah ar).f0) ((rd_T39 ah ar).f1) ((rd_T39 ah ar).f2) jA jB _ ?side1 ?side2 A168.out).mono ?_
   (case side1 => exact cb_ ka HB)
   (case side2 => exact lM.out)
   rintro e w170 ⟨v344, rfl, ho0, hb⟩
   refine ⟨_, rfl, ?_⟩
   have n3_ := mk0 (Kd.R_lower (Kd.R_new' (Kd.R_new' ho0 (Kd.R_lt (r_ aa))) (Kd.R_lt (r_ ag))) (bz_ (b_ HB)))
   replace ad := mk0 (Kd.R_below (r_ ad) hb)
   replace aa := mk0 (Kd.R_elder' (r_ aa) (Kd.R_base ho0) hb)
   replace ag := mk0 (Kd.R_elder' (r_ ag) (Kd.R_base ho0) hb)
   replace ab := mk0 (u_ ab hb)
   replace ac := mk0 (u_ ac hb)
   replace ax := mk0 (u_ ax hb)
   replace aC := mk0 (blk_below (g := bG) (o := .cells #[.string (⟨#[]⟩ : ByteArray), .slice none 0 0] 30 (0, 0)) (h_ aC) hb)
   replace HB := mk0 (bt_ (b_ HB) hb)
   have mi := n3_
   clear n3_
   (try clear hb)
   (try clear hb2)
   (try clear hk)
   (try clear hi)
   (try clear ho0)
   obtain ⟨jg, jh, mj⟩ := Kd.R_slice mi.out
   (first | subst mj | (injection mj with f1_ f2_ f3_; have f4_ := f1_.symm; have f5_ := f3_.symm; clear f1_ f2_ f3_; subst f4_; subst f5_))
   refine hK.out _ _ ⟨bk_ ab 0, bk_ ab 1, bk_ ab 2, bk_ ab 3, (bc_ HB hD :), (bc_ HB hC :), (bc_ HB hG :), (bc_ HB hF :), (bc_ HB hE :)⟩ (fun hHeld => ?_)
   clear hK K
   refine norm_ (a' := ?_) ?_ ?_
   rotate_left
   ·show Act.put _ (some 225) _ = _
    simp only [z_]
    rfl
   refine pq_ HT_.out 11 24 (bt 13 4095) (h := ?_)
   refine one_ (i := 12) (N := none) (bt 13 8191) rfl rfl (one_of HT_.out (by kernel_rfl)) (by decide) (fun K hK => ?_)
   have hs171 : w170.cell? ⟨bG, 0, none⟩ = some (.string (⟨#[]⟩ : ByteArray)) := bk_ aC 0
   have hfs171 := blk_frozen aC.out 0
   have oa := bw.out
   have ob := eG.out
   have oc := cp.out
   have od := iu.out
   have oe := iv.out
   have og := dN.out
   have hs173 : w170.cell? ⟨bG, 1, none⟩ = some (.slice none 0 0) := bk_ aC 1
   have hfs173 := blk_frozen aC.out 1
   have oh := bw.out
   have oi := eG.out
   have oj := cp.out
   have ol := iu.out
   have om := iv.out
   have oo := dN.out
   refine skip_ (w1 := ?_) (by rfl) rfl ?_ ?_
   rotate_left
   ·go_simp
    rfl
   refine hK.out _ _ ⟨(cf_ bw.out (cf_ bw.out hHeld.1)), (cf_ bw.out (cf_ bw.out hHeld.2.1)), (cf_ bw.out (cf_ bw.out hHeld.2.2.1)), (cf_ bw.out (cf_ bw.out hHeld.2.2.2.1)), (cf_ (nb_ hD eS) (cf_ (nb_ hD eS) hHeld.2.2.2.2.1)), (cf_ (nb_ hC eS) (cf_ (nb_ hC eS) hHeld.2.2.2.2.2.1)), (cf_ (nb_ hG eS) (cf_ (nb_ hG eS) hHeld.2.2.2.2.2.2.1)), (cf_ (nb_ hF eS) (cf_ (nb_ hF eS) hHeld.2.2.2.2.2.2.2.1)), (cf_ (nb_ hE eS) (cf_ (nb_ hE eS) hHeld.2.2.2.2.2.2.2.2))⟩ (fun hHeld => ?_)
   clear hK K
   refine done_ (done_of HT_.out (by kernel_rfl)) ?_
   try go_wp2
   go_meet
   case rel => exact ⟨_, (0), (jA), (jB), (.slice jg jB.length jh), (by first | rfl | (simp; done) | (simp [*]; done)), H', ⟨by have := cC.out; have := br.out; have := cd.out; have := cn.out; have := dJ.out; have := cB.out; have := jy.out; have := dM.out; have := fP.out; first | omega | exact Nat.le_refl _⟩, ⟨by (with_reducible repeat (first | apply Ra_ | apply Rn_ | apply Rd_)); exact Kd.R_mono (Kd.R_far (p := ⟨bG, 1, none⟩) (Kd.R_far (p := ⟨bG, 0, none⟩) (Kd.R_types ad.out aC.out (by decide)) (fun _ hk => hk.2) (.string jA)) (fun _ hk => hk.2) (.slice jg jB.length jh)) (fun _ hk => trivial)⟩, ⟨by (with_reducible repeat (first | apply Ra_ | apply Rn_ | apply Rd_)); exact Kd.R_mono (Kd.R_far (p := ⟨bG, 1, none⟩) (Kd.R_far (p := ⟨bG, 0, none⟩) (Kd.R_types aa.out aC.out (by decide)) (fun _ hk => hk.2) (.string jA)) (fun _ hk => hk.2) (.slice jg jB.length jh)) (fun _ hk => ⟨hk.1.1, hk.1.2⟩)⟩, ⟨by (with_reducible repeat (first | apply Ra_ | apply Rn_ | apply Rd_)); exact Kd.R_mono (Kd.R_far (p := ⟨bG, 1, none⟩) (Kd.R_far (p := ⟨bG, 0, none⟩) (Kd.R_types ag.out aC.out (by decide)) (fun _ hk => hk.2) (.string jA)) (fun _ hk => hk.2) (.slice jg jB.length jh)) (fun _ hk => ⟨hk.1.1, hk.1.2⟩)⟩, ⟨by (with_reducible repeat (first | apply Ra_ | apply Rn_ | apply Rd_)); exact Kd.R_mono (Kd.R_far (p := ⟨bG, 1, none⟩) (Kd.R_far (p := ⟨bG, 0, none⟩) (Kd.R_types mi.out aC.out (by decide)) (fun _ hk => hk.2) (.string jA)) (fun _ hk => hk.2) (.slice jg jB.length jh)) (fun _ hk => ⟨hk.1.1.2, hk.1.2⟩)⟩, ⟨(fa_ (fa_ (h_ ab) bw.out) bw.out)⟩, ⟨(fa_ (fa_ (h_ ac) eG.out) eG.out)⟩, ⟨(fa_ (fa_ (h_ ax) cp.out) cp.out)⟩, ⟨(pu_ (cs := #[.string jA, .slice none 0 0]) (pu_ (cs := #[.string (⟨#[]⟩ : ByteArray), .slice none 0 0]) (h_ aC)))⟩, ⟨b_ HB⟩⟩
  clear HC162
  try clear c3
  try clear c16
  try clear c152
  try clear c153
  try clear iU
  try clear c154
  try clear lv
  try clear c163
  try clear c164
  try clear jz
  try clear c165
  try clear mI
  try clear c166
  try clear mJ
  try clear c167
  try clear mK
  try clear eH eI
  try clear eJ eK eL
  try clear fQ fR
  try clear fS fT fU
  try clear lw
  try clear ly
  try clear lK
  try clear lN
  try clear lx
  try clear lz
  try clear lL
  try clear lO
  obtain ⟨kq, dm, bg, bB, u333001, rfl, HA, ik, ad, aa, ag, au, ab, ac, ax, aC, HB⟩ := hcut
  cases kq with
  | zero => exact absurd HA.out (by simp [quorumlaw8_ChainTells.j12])
  | succ kj161 =>
  have H := HA.out
  clear HA
  simp only [quorumlaw8_ChainTells.j12] at H
  as_aux_lemma =>
  have HC174 := mk0 H
  clear H
  go_upto_region 39 with (fail)
  go_cut [245] (fun v245 wc => ∃ (kq : Nat) (fV : Bool), v245 = .bool fV ∧ Fc (quorumlaw8_ChainTells.j13 kq aK aj en ar fV ai ah aE ay aM an ci bR = some r) ∧ Fc (kq ≤ kj161) ∧ Fc (Kd.R (Kd.int .i64) 3 wc w.heap.size (fun _ => True) v275 aK) ∧ Fc (Kd.R k39 39 wc w.heap.size (fun k_ => some k_ ≠ ((.slice ca bR.length cb) : Value).ownBlock ∧ some k_ ≠ (u333001 : Value).ownBlock) (.slice bE an.length bF) an) ∧ Fc (Kd.R k39 39 wc w.heap.size (fun k_ => some k_ ≠ ((.slice bE an.length bF) : Value).ownBlock ∧ some k_ ≠ (u333001 : Value).ownBlock) (.slice ca bR.length cb) bR) ∧ Fc (Kd.R k39 39 wc w.heap.size (fun k_ => some k_ ≠ ((.slice bE an.length bF) : Value).ownBlock ∧ some k_ ≠ ((.slice ca bR.length cb) : Value).ownBlock) u333001 bB) ∧ Fc (wc.heap[af]? = some (.cells #[(.slice (some aw) ai.length c0_0), (.slice (some aV) ah.length c0_1), (.slice A0_2 aE.length c0_2), (.slice A0_3 ay.length c0_3)] 27 (0, 0))) ∧ Fc (wc.heap[az]? = some (.cells #[.string aM, (.slice bE an.length bF)] 30 (0, 0))) ∧ Fc (wc.heap[bn]? = some (.cells #[.string ci, (.slice ca bR.length cb)] 30 (0, 0))) ∧ Fc (wc.heap[bG]? = some (.cells #[.string bg, u333001] 30 (0, 0))) ∧ Fc (Below w.heap.size w wc))
  case first =>
   have H := HC174.out
   clear HC174
   replace H := Option.bind_eq_some_iff.mp H
   obtain ⟨ji, A1750, H⟩ := H
   try dsimp only at H
   have A175 := mk0 A1750
   clear A1750
   by_cases c176 : ji = dm
   rotate_left
   ·rw [if_neg c176] at H
    have cl : (ji == dm) = false := beq_eq_false_iff_ne.mpr c176
    have dq : (ji != dm) = true := bne_iff_ne.mpr c176
    (first | rw [cl] | (simp only [i64_w, i32_w]; rw [cl]) | skip)
    have H' := mk0 H
    clear H
    try go_wp2
    replace ad := mk0 (Rd_ ad.out)
    replace aa := mk0 (Rd_ aa.out)
    replace ag := mk0 (Rd_ ag.out)
    replace au := mk0 (Rd_ au.out)
    replace ab := mk0 (bD_ ab.out)
    replace ac := mk0 (bD_ ac.out)
    replace ax := mk0 (bD_ ax.out)
    replace aC := mk0 (bD_ aC.out)
    replace HB := mk0 (b1_ HB.out)
    refine start_ (n := 20) (S := fun w' => True) (ds := []) (bt 20 0) (by kernel_rfl) rfl rfl trivial (fun hHeld => ?_); refine with_tabW quorumlaw8_ChainTells.tab39 quorumlaw8_ChainTells.bits39 (fun HT_ HW_ => ?_)
    generalize wc.drew = w189 at ad aa ag au ab ac ax aC HB hHeld ⊢
    refine pq_ HT_.out 0 226 (bt 20 1) (h := ?_)
    refine pq_ HT_.out 2 228 (bt 20 5) (h := ?_)
    refine one_ (i := 1) (N := some 227) (bt 20 7) rfl rfl (one_of HT_.out (by kernel_rfl)) (by decide) (fun K hK => ?_)
    refine goes_ Try.func19 (by kernel_rfl) rfl #[.int .i64 gE] (by rfl) rfl rfl (by (try simp only [List.map_toArray, List.map_cons, List.map_nil]); first | done | rfl | (simp only [List.length_drop, List.length_take]; rfl)) ?_
    with_reducible refine (quorumlaw8_num.calls gE ji _ A175.out).mono ?_
    rintro e w' ⟨rfl, ⟨nd, rfl⟩⟩
    refine ⟨_, rfl, ?_⟩
    refine hK.out _ _ trivial (fun hHeld => ?_)
    clear hK K
    refine norm_ (a' := ?_) ?_ ?_
    rotate_left
    ·show Act.put _ (some 227) _ = _
     simp only [z_]
     rfl
    refine pq_ HT_.out 3 229 (bt 20 15) (h := ?_)
    refine pq_ HT_.out 4 230 (bt 20 31) (h := ?_)
    refine uq_ HT_.out 5 231 (bt 20 63) (h := ?_)
    refine uq_ HT_.out 6 232 (bt 20 127) (h := ?_)
    refine uq_ HT_.out 7 233 (bt 20 255) (h := ?_)
    refine uq_ HT_.out 8 234 (bt 20 511) (h := ?_)
    refine pq_ HT_.out 9 235 (bt 20 1023) (h := ?_)
    refine pq_ HT_.out 10 236 (bt 20 2047) (h := ?_)
    refine uq_ HT_.out 11 237 (bt 20 4095) (h := ?_)
    refine uq_ HT_.out 12 238 (bt 20 8191) (h := ?_)
    refine uq_ HT_.out 13 239 (bt 20 16383) (h := ?_)
    refine uq_ HT_.out 14 240 (bt 20 32767) (h := ?_)
    refine uq_ HT_.out 15 241 (bt 20 65535) (h := ?_)
    refine uq_ HT_.out 16 242 (bt 20 131071) (h := ?_)
    refine uq_ HT_.out 17 243 (bt 20 262143) (h := ?_)
    refine uq_ HT_.out 18 244 (bt 20 524287) (h := ?_)
    refine pq_ HT_.out 19 245 (bt 20 1048575) (h := ?_)
    refine done_ (done_of HT_.out (by kernel_rfl)) ?_
    try go_wp2
    go_meet
    case rel => exact ⟨_, (true), (by first | rfl | (simp; done) | (simp [*]; done)), H', ⟨by have := cC.out; have := br.out; have := cd.out; have := cn.out; have := dJ.out; have := cB.out; have := jy.out; have := dM.out; have := fP.out; have := ik.out; first | omega | exact Nat.le_refl _⟩, ⟨by (with_reducible repeat (first | apply Ra_ | apply Rn_ | apply Rd_)); exact ad.out⟩, ⟨by (with_reducible repeat (first | apply Ra_ | apply Rn_ | apply Rd_)); exact aa.out⟩, ⟨by (with_reducible repeat (first | apply Ra_ | apply Rn_ | apply Rd_)); exact ag.out⟩, ⟨by (with_reducible repeat (first | apply Ra_ | apply Rn_ | apply Rd_)); exact au.out⟩, ⟨h_ ab⟩, ⟨h_ ac⟩, ⟨h_ ax⟩, ⟨h_ aC⟩, ⟨b_ HB⟩⟩
   rw [if_pos c176] at H
   have cl : (ji == dm) = true := beq_iff_eq.mpr c176
   have dq : (ji != dm) = false := bne_eq_false_iff_eq.mpr c176
   clear c176
   (first | rw [cl] | (simp only [i64_w, i32_w]; rw [cl]) | skip)
   replace H := Option.bind_eq_some_iff.mp H
   obtain ⟨rR, A1770, H⟩ := H
   try dsimp only at H
   have A177 := mk0 A1770
   clear A1770
   by_cases c178 : rR = true
   rotate_left
   ·replace c178 := Bool.eq_false_iff.mpr c178
    subst c178
    rw [if_neg (show ¬ (false = true) by decide)] at H
    have H' := mk0 H
    clear H
    try go_wp2
    replace ad := mk0 (Rd_ ad.out)
    replace aa := mk0 (Rd_ aa.out)
    replace ag := mk0 (Rd_ ag.out)
    replace au := mk0 (Rd_ au.out)
    replace ab := mk0 (bD_ ab.out)
    replace ac := mk0 (bD_ ac.out)
    replace ax := mk0 (bD_ ax.out)
    replace aC := mk0 (bD_ aC.out)
    replace HB := mk0 (b1_ HB.out)
    refine start_ (n := 20) (S := fun w' => w'.cell? ⟨bn, 0, none⟩ = some (.string ci) ∧ w'.cell? ⟨bn, 1, none⟩ = some (.slice ca bR.length cb) ∧ w'.cell? ⟨bG, 0, none⟩ = some (.string bg) ∧ w'.cell? ⟨bG, 1, none⟩ = some (u333001)) (ds := []) (bt 20 0) (by kernel_rfl) rfl rfl ⟨bk_ ax 0, bk_ ax 1, bk_ aC 0, bk_ aC 1⟩ (fun hHeld => ?_); refine with_tabW quorumlaw8_ChainTells.tab39 quorumlaw8_ChainTells.bits39 (fun HT_ HW_ => ?_)
    generalize wc.drew = w186 at ad aa ag au ab ac ax aC HB hHeld ⊢
    refine pq_ HT_.out 0 226 (bt 20 1) (h := ?_)
    refine pq_ HT_.out 2 228 (bt 20 5) (h := ?_)
    refine one_ (i := 1) (N := some 227) (bt 20 7) rfl rfl (one_of HT_.out (by kernel_rfl)) (by decide) (fun K hK => ?_)
    refine goes_ Try.func19 (by kernel_rfl) rfl #[.int .i64 gE] (by rfl) rfl rfl (by (try simp only [List.map_toArray, List.map_cons, List.map_nil]); first | done | rfl | (simp only [List.length_drop, List.length_take]; rfl)) ?_
    with_reducible refine (quorumlaw8_num.calls gE ji _ A175.out).mono ?_
    rintro e w' ⟨rfl, ⟨nd, rfl⟩⟩
    refine ⟨_, rfl, ?_⟩
    obtain ⟨op, oq, ml⟩ := Kd.R_slice au.out
    (first | subst ml | (injection ml with f1_ f2_ f3_; have f4_ := f1_.symm; have f5_ := f3_.symm; clear f1_ f2_ f3_; subst f4_; subst f5_))
    refine hK.out _ _ ⟨bk_ ax 0, bk_ ax 1, bk_ aC 0, bk_ aC 1⟩ (fun hHeld => ?_)
    clear hK K
    refine norm_ (a' := ?_) ?_ ?_
    rotate_left
    ·show Act.put _ (some 227) _ = _
     simp only [z_]
     rfl
    refine pq_ HT_.out 3 229 (bt 20 15) (h := ?_)
    refine pq_ HT_.out 4 230 (bt 20 31) (h := ?_)
    refine tq4_ HT_.out HW_.out 5 231 (bt 20 63) hHeld (h := ?_)
    refine tq4_ HT_.out HW_.out 6 232 (bt 20 127) hHeld (h := ?_)
    refine one_ (i := 7) (N := some 233) (bt 20 255) rfl rfl (one_of HT_.out (by kernel_rfl)) (by decide) (fun K hK => ?_)
    refine goes_ Try.func25 (by kernel_rfl) rfl #[.agg #[.string ci, .slice ca bR.length cb], .agg #[.string bg, .slice op bB.length oq]] (by rfl) rfl rfl (by (try simp only [List.map_toArray, List.map_cons, List.map_nil]); first | done | rfl | (simp only [List.length_drop, List.length_take]; rfl)) ?_
    with_reducible refine (quorumref0_EqChain.calls kj161 ci _ _ bR bg _ _ bB false _ ?side1 ?side2 ?side3 ?side4 A177.out).mono ?_
    (case side1 => exact cr_ ag)
    (case side2 => exact (Kd.R_reads' ag.out).2.1)
    (case side3 => exact cr_ au)
    (case side4 => exact (Kd.R_reads' au.out).2.1)
    rintro e w188 ⟨rfl, hb⟩
    refine ⟨_, rfl, ?_⟩
    replace ad := mk0 (Kd.R_below (r_ ad) hb)
    replace aa := mk0 (Kd.R_below (r_ aa) hb)
    replace ag := mk0 (Kd.R_below (r_ ag) hb)
    replace au := mk0 (Kd.R_below (r_ au) hb)
    replace ab := mk0 (u_ ab hb)
    replace ac := mk0 (u_ ac hb)
    replace ax := mk0 (u_ ax hb)
    replace aC := mk0 (u_ aC hb)
    replace HB := mk0 (bt_ (b_ HB) hb)
    (try clear hb)
    (try clear hb2)
    (try clear hk)
    (try clear hi)
    refine hK.out _ _ ⟨bk_ ax 0, bk_ ax 1, bk_ aC 0, bk_ aC 1⟩ (fun hHeld => ?_)
    clear hK K
    refine norm_ (a' := ?_) ?_ ?_
    rotate_left
    ·show Act.put _ (some 233) _ = _
     simp only [z_]
     rfl
    refine pq_ HT_.out 8 234 (bt 20 511) (h := ?_)
    refine pq_ HT_.out 9 235 (bt 20 1023) (h := ?_)
    refine pq_ HT_.out 10 236 (bt 20 2047) (h := ?_)
    refine uq_ HT_.out 11 237 (bt 20 4095) (h := ?_)
    refine uq_ HT_.out 12 238 (bt 20 8191) (h := ?_)
    refine uq_ HT_.out 13 239 (bt 20 16383) (h := ?_)
    refine uq_ HT_.out 14 240 (bt 20 32767) (h := ?_)
    refine uq_ HT_.out 15 241 (bt 20 65535) (h := ?_)
    refine uq_ HT_.out 16 242 (bt 20 131071) (h := ?_)
    refine uq_ HT_.out 17 243 (bt 20 262143) (h := ?_)
    refine uq_ HT_.out 18 244 (bt 20 524287) (h := ?_)
    refine pq_ HT_.out 19 245 (bt 20 1048575) (h := ?_)
    refine done_ (done_of HT_.out (by kernel_rfl)) ?_
    try go_wp2
    go_meet
    case rel => exact ⟨_, (true), (by first | rfl | (simp; done) | (simp [*]; done)), H', ⟨by have := cC.out; have := br.out; have := cd.out; have := cn.out; have := dJ.out; have := cB.out; have := jy.out; have := dM.out; have := fP.out; have := ik.out; first | omega | exact Nat.le_refl _⟩, ⟨by (with_reducible repeat (first | apply Ra_ | apply Rn_ | apply Rd_)); exact ad.out⟩, ⟨by (with_reducible repeat (first | apply Ra_ | apply Rn_ | apply Rd_)); exact aa.out⟩, ⟨by (with_reducible repeat (first | apply Ra_ | apply Rn_ | apply Rd_)); exact ag.out⟩, ⟨by (with_reducible repeat (first | apply Ra_ | apply Rn_ | apply Rd_)); exact au.out⟩, ⟨h_ ab⟩, ⟨h_ ac⟩, ⟨h_ ax⟩, ⟨h_ aC⟩, ⟨b_ HB⟩⟩
   subst c178
   rw [if_pos rfl] at H
   by_cases c179 : 0 ≤ aj
   rotate_left
   ·rw [if_neg c179] at H
    exact absurd H (by simp)
   rw [if_pos c179] at H
   have rS : decide (0 ≤ aj) = true := decide_eq_true c179
   clear c179
   by_cases c180 : aj < (ai.length : Int)
   rotate_left
   ·rw [if_neg c180] at H
    exact absurd H (by simp)
   rw [if_pos c180] at H
   have rT : decide (aj < (ai.length : Int)) = true := decide_eq_true c180
   clear c180
   replace H := Option.bind_eq_some_iff.mp H
   obtain ⟨os, A1810, H⟩ := H
   try dsimp only at H
   have A181 := mk0 A1810
   clear A1810
   have H' := mk0 H
   clear H
   try go_wp2
   replace ad := mk0 (Rd_ ad.out)
   replace aa := mk0 (Rd_ aa.out)
   replace ag := mk0 (Rd_ ag.out)
   replace au := mk0 (Rd_ au.out)
   replace ab := mk0 (bD_ ab.out)
   replace ac := mk0 (bD_ ac.out)
   replace ax := mk0 (bD_ ax.out)
   replace aC := mk0 (bD_ aC.out)
   replace HB := mk0 (b1_ HB.out)
   have mL : 0 ≤ (aj : Int) := of_decide_eq_true (by first | (with_reducible assumption) | assumption)
   have mM : aj < (ai.length : Int) := of_decide_eq_true (by first | (with_reducible assumption) | assumption)
   obtain ⟨ot, A348_1, c348_1, rU, hH, hI, kb, kc⟩ := at_T30 dr.out aj mL mM
   have hJ := hI
   have hL := hH
   obtain rfl : aw = ot := (by injection rU)
   replace hH := (bc_ HB hH :)
   replace hI := (bc_ HB hI :)
   have kd := mk0 kc
   have lP := mk0 kb
   clear kc kb
   replace mL := eq_true mL
   replace mM := eq_true mM
   refine start_ (n := 20) (S := fun w' => w'.cell? ⟨bn, 0, none⟩ = some (.string ci) ∧ w'.cell? ⟨bn, 1, none⟩ = some (.slice ca bR.length cb) ∧ w'.cell? ⟨bG, 0, none⟩ = some (.string bg) ∧ w'.cell? ⟨bG, 1, none⟩ = some (u333001) ∧ w'.cell? ⟨az, 0, none⟩ = some (.string aM) ∧ w'.cell? ⟨az, 1, none⟩ = some (.slice bE an.length bF) ∧ w'.cell? ⟨af, 0, none⟩ = some (.slice (some aw) ai.length c0_0) ∧ w'.cell? ⟨af, 1, none⟩ = some (.slice (some aV) ah.length c0_1) ∧ w'.cell? ⟨af, 2, none⟩ = some (.slice A0_2 aE.length c0_2) ∧ w'.cell? ⟨af, 3, none⟩ = some (.slice A0_3 ay.length c0_3) ∧ w'.cell? (aw.add ((aj).toNat * 2)) = some (.string ((rd_T30 ai aj).f0)) ∧ w'.cell? ⟨(aw.add ((aj).toNat * 2)).block, (aw.add ((aj).toNat * 2)).off + 1, none⟩ = some (.slice A348_1 ((rd_T30 ai aj).f1).length c348_1)) (ds := []) (bt 20 0) (by kernel_rfl) rfl rfl ⟨bk_ ax 0, bk_ ax 1, bk_ aC 0, bk_ aC 1, bk_ ac 0, bk_ ac 1, bk_ ab 0, bk_ ab 1, bk_ ab 2, bk_ ab 3, (bc_ HB hL :), (bc_ HB hJ :)⟩ (fun hHeld => ?_); refine with_tabW quorumlaw8_ChainTells.tab39 quorumlaw8_ChainTells.bits39 (fun HT_ HW_ => ?_)
   generalize wc.drew = w182 at ad aa ag au ab ac ax aC HB kd hH hI hHeld ⊢
   refine pq_ HT_.out 0 226 (bt 20 1) (h := ?_)
   refine pq_ HT_.out 2 228 (bt 20 5) (h := ?_)
   refine one_ (i := 1) (N := some 227) (bt 20 7) rfl rfl (one_of HT_.out (by kernel_rfl)) (by decide) (fun K hK => ?_)
   refine goes_ Try.func19 (by kernel_rfl) rfl #[.int .i64 gE] (by rfl) rfl rfl (by (try simp only [List.map_toArray, List.map_cons, List.map_nil]); first | done | rfl | (simp only [List.length_drop, List.length_take]; rfl)) ?_
   with_reducible refine (quorumlaw8_num.calls gE ji _ A175.out).mono ?_
   rintro e w' ⟨rfl, ⟨nd, rfl⟩⟩
   refine ⟨_, rfl, ?_⟩
   obtain ⟨ou, ov, mm⟩ := Kd.R_slice au.out
   (first | subst mm | (injection mm with f1_ f2_ f3_; have f4_ := f1_.symm; have f5_ := f3_.symm; clear f1_ f2_ f3_; subst f4_; subst f5_))
   refine hK.out _ _ ⟨bk_ ax 0, bk_ ax 1, bk_ aC 0, bk_ aC 1, bk_ ac 0, bk_ ac 1, bk_ ab 0, bk_ ab 1, bk_ ab 2, bk_ ab 3, ((bc_ HB hL :)), ((bc_ HB hJ :))⟩ (fun hHeld => ?_)
   clear hK K
   refine norm_ (a' := ?_) ?_ ?_
   rotate_left
   ·show Act.put _ (some 227) _ = _
    simp only [z_]
    rfl
   refine pq_ HT_.out 3 229 (bt 20 15) (h := ?_)
   refine pq_ HT_.out 4 230 (bt 20 31) (h := ?_)
   refine tq12_ HT_.out HW_.out 5 231 (bt 20 63) hHeld (h := ?_)
   refine tq12_ HT_.out HW_.out 6 232 (bt 20 127) hHeld (h := ?_)
   refine one_ (i := 7) (N := some 233) (bt 20 255) rfl rfl (one_of HT_.out (by kernel_rfl)) (by decide) (fun K hK => ?_)
   refine goes_ Try.func25 (by kernel_rfl) rfl #[.agg #[.string ci, .slice ca bR.length cb], .agg #[.string bg, .slice ou bB.length ov]] (by rfl) rfl rfl (by (try simp only [List.map_toArray, List.map_cons, List.map_nil]); first | done | rfl | (simp only [List.length_drop, List.length_take]; rfl)) ?_
   with_reducible refine (quorumref0_EqChain.calls kj161 ci _ _ bR bg _ _ bB true _ ?side1 ?side2 ?side3 ?side4 A177.out).mono ?_
   (case side1 => exact cr_ ag)
   (case side2 => exact (Kd.R_reads' ag.out).2.1)
   (case side3 => exact cr_ au)
   (case side4 => exact (Kd.R_reads' au.out).2.1)
   rintro e w184 ⟨rfl, hb⟩
   refine ⟨_, rfl, ?_⟩
   replace ad := mk0 (Kd.R_below (r_ ad) hb)
   replace aa := mk0 (Kd.R_below (r_ aa) hb)
   replace ag := mk0 (Kd.R_below (r_ ag) hb)
   replace au := mk0 (Kd.R_below (r_ au) hb)
   replace ab := mk0 (u_ ab hb)
   replace ac := mk0 (u_ ac hb)
   replace ax := mk0 (u_ ax hb)
   replace aC := mk0 (u_ aC hb)
   replace HB := mk0 (bt_ (b_ HB) hb)
   (try clear hb)
   (try clear hb2)
   (try clear hk)
   (try clear hi)
   refine hK.out _ _ ⟨bk_ ax 0, bk_ ax 1, bk_ aC 0, bk_ aC 1, bk_ ac 0, bk_ ac 1, bk_ ab 0, bk_ ab 1, bk_ ab 2, bk_ ab 3, (bc_ HB hL :), (bc_ HB hJ :)⟩ (fun hHeld => ?_)
   clear hK K
   refine norm_ (a' := ?_) ?_ ?_
   rotate_left
   ·show Act.put _ (some 233) _ = _
    simp only [z_]
    rfl
   refine pq_ HT_.out 8 234 (bt 20 511) (h := ?_)
   refine pq_ HT_.out 9 235 (bt 20 1023) (h := ?_)
   refine pq_ HT_.out 10 236 (bt 20 2047) (h := ?_)
   refine pq_ HT_.out 12 238 (bt 20 6143) (h := ?_)
   refine pq_ HT_.out 14 240 (bt 20 22527) (h := ?_)
   refine tq12_ HT_.out HW_.out 11 237 (bt 20 24575) hHeld (h := ?_)
   refine tq12_ HT_.out HW_.out 13 239 (bt 20 32767) hHeld (h := ?_)
   refine pq_ HT_.out 15 241 (bt 20 65535) (h := ?_)
   refine tq12_ HT_.out HW_.out 16 242 (bt 20 131071) hHeld (h := ?_)
   refine one_ (i := 17) (N := some 243) (bt 20 262143) rfl rfl (one_of HT_.out (by kernel_rfl)) (by decide) (fun K hK => ?_)
   refine goes_ Try.func25 (by kernel_rfl) rfl #[.agg #[.string aM, .slice bE an.length bF], .agg #[.string ((rd_T30 ai aj).f0), .slice A348_1 ((rd_T30 ai aj).f1).length c348_1]] (by rfl) rfl rfl (by (try simp only [List.map_toArray, List.map_cons, List.map_nil]); first | done | rfl | (simp only [List.length_drop, List.length_take]; rfl)) ?_
   with_reducible refine (quorumref0_EqChain.calls kj161 aM _ _ an ((rd_T30 ai aj).f0) _ _ ((rd_T30 ai aj).f1) os _ ?side1 ?side2 ?side3 ?side4 A181.out).mono ?_
   (case side1 => exact cr_ aa)
   (case side2 => exact (Kd.R_reads' aa.out).2.1)
   (case side3 => exact cb_ kd HB)
   (case side4 => exact lP.out)
   rintro e w185 ⟨rfl, hb⟩
   refine ⟨_, rfl, ?_⟩
   replace ad := mk0 (Kd.R_below (r_ ad) hb)
   replace aa := mk0 (Kd.R_below (r_ aa) hb)
   replace ag := mk0 (Kd.R_below (r_ ag) hb)
   replace au := mk0 (Kd.R_below (r_ au) hb)
   replace ab := mk0 (u_ ab hb)
   replace ac := mk0 (u_ ac hb)
   replace ax := mk0 (u_ ax hb)
   replace aC := mk0 (u_ aC hb)
   replace HB := mk0 (bt_ (b_ HB) hb)
   (try clear hb)
   (try clear hb2)
   (try clear hk)
   (try clear hi)
   refine hK.out _ _ ⟨bk_ ax 0, bk_ ax 1, bk_ aC 0, bk_ aC 1, bk_ ac 0, bk_ ac 1, bk_ ab 0, bk_ ab 1, bk_ ab 2, bk_ ab 3, (bc_ HB hL :), (bc_ HB hJ :)⟩ (fun hHeld => ?_)
   clear hK K
   refine norm_ (a' := ?_) ?_ ?_
   rotate_left
   ·show Act.put _ (some 243) _ = _
    simp only [z_]
    rfl
   refine pq_ HT_.out 18 244 (bt 20 524287) (h := ?_)
   refine pq_ HT_.out 19 245 (bt 20 1048575) (h := ?_)
   refine done_ (done_of HT_.out (by kernel_rfl)) ?_
   try go_wp2
   go_meet
   case rel => exact ⟨_, (!os), (by first | rfl | (simp; done) | (simp [*]; done)), H', ⟨by have := cC.out; have := br.out; have := cd.out; have := cn.out; have := dJ.out; have := cB.out; have := jy.out; have := dM.out; have := fP.out; have := ik.out; first | omega | exact Nat.le_refl _⟩, ⟨by (with_reducible repeat (first | apply Ra_ | apply Rn_ | apply Rd_)); exact ad.out⟩, ⟨by (with_reducible repeat (first | apply Ra_ | apply Rn_ | apply Rd_)); exact aa.out⟩, ⟨by (with_reducible repeat (first | apply Ra_ | apply Rn_ | apply Rd_)); exact ag.out⟩, ⟨by (with_reducible repeat (first | apply Ra_ | apply Rn_ | apply Rd_)); exact au.out⟩, ⟨h_ ab⟩, ⟨h_ ac⟩, ⟨h_ ax⟩, ⟨h_ aC⟩, ⟨b_ HB⟩⟩
  clear HC174
  try clear c3
  try clear c19
  try clear c176
  try clear cl
  try clear dq
  try clear c178
  try clear c179
  try clear c180
  obtain ⟨kq, fV, rfl, HA, ke, ad, aa, ag, au, ab, ac, ax, aC, HB⟩ := hcut
  cases kq with
  | zero => exact absurd HA.out (by simp [quorumlaw8_ChainTells.j13])
  | succ kj173 =>
  have H := HA.out
  clear HA
  simp only [quorumlaw8_ChainTells.j13] at H
  as_aux_lemma =>
  by_cases c190 : fV = true
  ·subst c190
   rw [if_pos rfl] at H
   obtain rfl := Option.some.inj H
   go_wp2
   go_ret
   exact ⟨by first | rfl | (simp [errW_none, errW_some] <;> rfl) | (simp [*, errW_none, errW_some] <;> rfl), b_ HB⟩
  replace c190 := Bool.eq_false_iff.mpr c190
  subst c190
  rw [if_neg (show ¬ (false = true) by decide)] at H
  have H' := mk0 H
  clear H
  go_wp2
  go_loopg [26] kj173 (fun kq v26 w' => ∃ (bb : Int) (bi : List (S39)) (aH : List (S39)) (eX : List (S39)) (u283001 : Value) (u332001 : Value) (u333001 : Value), v26 = .int .i64 bb ∧ Fc (quorumlaw8_ChainTells.l3 kq aK aj en ar bb ai ah aE ay aM bi ci aH = some r) ∧ Fc (kq ≤ kj173) ∧ Fc (Kd.R (Kd.int .i64) 3 w' w.heap.size (fun _ => True) v275 aK) ∧ Fc (Kd.R k39 39 w' w.heap.size (fun k_ => some k_ ≠ (u332001 : Value).ownBlock ∧ some k_ ≠ (u333001 : Value).ownBlock) u283001 bi) ∧ Fc (Kd.R k39 39 w' w.heap.size (fun k_ => some k_ ≠ (u283001 : Value).ownBlock ∧ some k_ ≠ (u333001 : Value).ownBlock) u332001 aH) ∧ Fc (Kd.R k39 39 w' w.heap.size (fun k_ => some k_ ≠ (u283001 : Value).ownBlock ∧ some k_ ≠ (u332001 : Value).ownBlock) u333001 eX) ∧ Fc (w'.heap[af]? = some (.cells #[(.slice (some aw) ai.length c0_0), (.slice (some aV) ah.length c0_1), (.slice A0_2 aE.length c0_2), (.slice A0_3 ay.length c0_3)] 27 (0, 0))) ∧ Fc (w'.heap[az]? = some (.cells #[.string aM, u283001] 30 (0, 0))) ∧ Fc (w'.heap[bn]? = some (.cells #[.string ci, u332001] 30 (0, 0))) ∧ Fc (w'.heap[bG]? = some (.cells #[.string bg, u333001] 30 (0, 0))) ∧ Fc (Below w.heap.size w w'))
  case atStart => exact ⟨(0), (an), (bR), (bB), (.slice bE an.length bF), (.slice ca bR.length cb), (u333001), (by first | rfl | (simp; done) | (simp [*]; done)), H', ⟨Nat.le_refl _⟩, ⟨by (with_reducible repeat (first | apply Ra_ | apply Rn_ | apply Rd_)); exact ad.out⟩, ⟨by (with_reducible repeat (first | apply Ra_ | apply Rn_ | apply Rd_)); exact aa.out⟩, ⟨by (with_reducible repeat (first | apply Ra_ | apply Rn_ | apply Rd_)); exact ag.out⟩, ⟨by (with_reducible repeat (first | apply Ra_ | apply Rn_ | apply Rd_)); exact au.out⟩, ⟨h_ ab⟩, ⟨h_ ac⟩, ⟨h_ ax⟩, ⟨h_ aC⟩, ⟨b_ HB⟩⟩
  clear H'
  try clear c3
  try clear c19
  try clear c176
  try clear cl
  try clear dq
  try clear c178
  try clear c179
  try clear c180
  try clear c190
  obtain ⟨bb, bi, aH, eX, u283001, u332001, u333001, rfl, HA, lQ, ad, aa, ag, au, ab, ac, ax, aC, HB⟩ := hrel
  cases gk with
  | zero => exact absurd HA.out (by simp [quorumlaw8_ChainTells.l3])
  | succ k12 =>
  have H := HA.out
  clear HA
  simp only [quorumlaw8_ChainTells.l3] at H
  as_aux_lemma =>
  by_cases c191 : bb < (aH.length : Int)
  ·rw [if_pos c191] at H
   have ek : decide (bb < (aH.length : Int)) = true := decide_eq_true c191
   clear c191
   by_cases c192 : 0 ≤ bb
   rotate_left
   ·rw [if_neg c192] at H
    exact absurd H (by simp)
   rw [if_pos c192] at H
   have eU : decide (0 ≤ bb) = true := decide_eq_true c192
   clear c192
   obtain ⟨mN, hy350⟩ : ∃ y_ : List (S39), y_ = (aH.set (bb : Int).toNat (⟨(-9), (⟨#[]⟩ : ByteArray), false⟩ : S39)) := ⟨_, rfl⟩
   replace H : (quorumlaw8_ChainTells.l3 k12 aK aj en ar (wrap64 (bb + 1)) ai ah aE ay aM bi ci mN) = some r := by first | (rw [hy350]; with_reducible exact H) | (have H2_ := (Option.bind_some _ _).symm.trans H; rw [hy350]; with_reducible exact H2_) | (have H2_ := (Option.bind_some _ _).symm.trans H; with_reducible exact H2_) | with_reducible exact H | (rw [hy350]; exact H) | exact H
   have Ny350 := mk0 hy350
   clear hy350
   have H' := mk0 H
   clear H
   have rV := bU.out
   have rW := aQ.out
   have rX := bV.out
   have rY := aU.out
   have rZ := cp.out
   have sa := dN.out
   obtain ⟨cN, cO, cP, cQ⟩ := c2_ ax
   obtain ⟨sO, fW, ow⟩ := Kd.R_slice ag.out
   subst ow
   have el : 0 ≤ (bb : Int) := of_decide_eq_true (by first | (with_reducible assumption) | assumption)
   have em : (bb : Int) < ((aH.length : Int) : Int) := of_decide_eq_true (by first | (with_reducible assumption) | assumption)
   obtain ⟨go193, sP, mn, mo, gl193, cl193, HG193⟩ := Kd.R_form ag.out (by omega)
   (first | cases mn | (injection mn with ea_ en_ ec_; (first | subst ea_ | (injection ea_ with ea_; subst ea_)); subst ec_; clear en_))
   have GB193 := mk0 mo
   have GG193 := mk0 HG193
   clear mo gl193 HG193
   obtain ⟨ce193, hcl193, hM193, hcc193, hfr193⟩ := Kd.R_elem ag.out z39 (bb : Int) el em
   obtain rfl := k39_openM hM193
   have dO : wr.cell? ⟨go193, (bb : Int).toNat * 3, none⟩ = some (.int .i64 ((rd_T39 aH bb).f0)) := hcc193 0 _ rfl
   have dP : wr.cell? ⟨go193, (bb : Int).toNat * 3 + 1, none⟩ = some (.string ((rd_T39 aH bb).f1)) := hcc193 1 _ rfl
   have dQ : wr.cell? ⟨go193, (bb : Int).toNat * 3 + 2, none⟩ = some (.bool ((rd_T39 aH bb).f2)) := hcc193 2 _ rfl
   have hf193_0 : wr.frozen? ⟨go193, (bb : Int).toNat * 3, none⟩ = false := hfr193 0
   have hf193_1 : wr.frozen? ⟨go193, (bb : Int).toNat * 3 + 1, none⟩ = false := hfr193 1
   have hf193_2 : wr.frozen? ⟨go193, (bb : Int).toNat * 3 + 2, none⟩ = false := hfr193 2
   clear hcl193 hcc193 hfr193 hM193
   replace el := eq_true el
   replace em := eq_true em
   have HX199 := mk0 (show Kd.R k39 39 wr w.heap.size (fun k_ => some k_ ≠ (u283001 : Value).ownBlock ∧ some k_ ≠ (u333001 : Value).ownBlock) (.slice (some ⟨go193, 0, none⟩) aH.length fW) aH from (r_ ag))
   obtain ⟨ce199, hcl199, hM199, hcc199, hfr199⟩ := Kd.R_elem HX199.out z39 (bb : Int) (of_decide_eq_true (by first | (with_reducible assumption) | assumption)) (by have h_ : (bb : Int) < ((aH.length : Int) : Int) := of_decide_eq_true (by first | (with_reducible assumption) | assumption); first | exact h_ | (have e_ := (Kd.R_reads' ag.out).1; omega) | simpa using h_)
   obtain rfl := k39_openM hM199
   have HP199 := Kd.R_seg HX199.out (bb : Int) (of_decide_eq_true (by first | (with_reducible assumption) | assumption)) (by have h_ : (bb : Int) < ((aH.length : Int) : Int) := of_decide_eq_true (by first | (with_reducible assumption) | assumption); first | exact h_ | (have e_ := (Kd.R_reads' ag.out).1; omega) | simpa using h_) (seg := [.int .i64 (-9), .string (⟨#[]⟩ : ByteArray), .bool false]) (j := 0) hcl199 hcc199 (show 3 ≤ 3 from by decide) (x' := (⟨(-9), (⟨#[]⟩ : ByteArray), false⟩ : S39)) (k39_mkM _ _ _ (⟨(-9), (⟨#[]⟩ : ByteArray), false⟩ : S39) ) (fun _ hk => hk)
   have df := hcc199 0 _ rfl
   (try simp only [show (k39).sz = 3 from rfl, Nat.mul_one, Nat.add_zero] at df)
   have hf199_0 := hfr199 0
   (try simp only [show (k39).sz = 3 from rfl, Nat.mul_one, Nat.add_zero] at hf199_0)
   have dg := hcc199 1 _ rfl
   (try simp only [show (k39).sz = 3 from rfl, Nat.mul_one, Nat.add_zero] at dg)
   have hf199_1 := hfr199 1
   (try simp only [show (k39).sz = 3 from rfl, Nat.mul_one, Nat.add_zero] at hf199_1)
   have dh := hcc199 2 _ rfl
   (try simp only [show (k39).sz = 3 from rfl, Nat.mul_one, Nat.add_zero] at dh)
   have hf199_2 := hfr199 2
   (try simp only [show (k39).sz = 3 from rfl, Nat.mul_one, Nat.add_zero] at hf199_2)
   clear hcl199 hcc199 hfr199 hM199
   go_wp2_with (first | ((with_reducible refine gate_store (t := 39) (p := 257) rfl ?_); refine sv_ (t := 39) (p := 257) (w1 := (((wr.setCell ⟨go193, (bb : Int).toNat * 3, none⟩ (.int .i64 (-9))).setCell ⟨go193, (bb : Int).toNat * 3 + 1, none⟩ (.string (⟨#[]⟩ : ByteArray))).setCell ⟨go193, (bb : Int).toNat * 3 + 2, none⟩ (.bool false))) (h := ?_); intro w200 hw; have hg : wr.grownBy w200 (some go193) := (by rw [hw]; exact HP199.2); have hp_ : Kd.R k39 39 w200 w.heap.size (fun k_ => some k_ ≠ (u283001 : Value).ownBlock ∧ some k_ ≠ (u333001 : Value).ownBlock) (.slice (some ⟨go193, 0, none⟩) aH.length fW) mN := (by rw [hw, Ny350.out]; exact HP199.1); clear HP199; have n0_ := mk0 (Kd.R_over' (v := (.slice (some ⟨go193, 0, none⟩) aH.length fW)) (r_ ad) (Kd.R_typed ag.out) (by decide) hg); have n4_ := mk0 (blk_grown (g := af) (o := .cells #[.slice (some aw) ai.length c0_0, .slice (some aV) ah.length c0_1, .slice A0_2 aE.length c0_2, .slice A0_3 ay.length c0_3] 27 (0, 0)) (h_ ab) hg (Kd.R_ne ag.out ab.out (by decide))); have n5_ := mk0 (blk_grown (g := az) (o := .cells #[.string aM, u283001] 30 (0, 0)) (h_ ac) hg (Kd.R_ne ag.out ac.out (by decide))); have n6_ := mk0 (blk_grown (g := bn) (o := .cells #[.string ci, .slice (some ⟨go193, 0, none⟩) aH.length fW] 30 (0, 0)) (h_ ax) hg (Kd.R_ne ag.out ax.out (by decide))); have n7_ := mk0 (blk_grown (g := bG) (o := .cells #[.string bg, u333001] 30 (0, 0)) (h_ aC) hg (Kd.R_ne ag.out aC.out (by decide))); replace aa := mk0 (Kd.R_after (v := (.slice (some ⟨go193, 0, none⟩) aH.length fW)) (v1 := (.slice (some ⟨go193, 0, none⟩) aH.length fW)) (ok := (fun k_ => some k_ ≠ (u333001 : Value).ownBlock)) (r2_ (Kd.R_mono aa.out (fun _ hk => ⟨hk.2, hk.1⟩))) hg (.inl rfl)); replace ag := mk0 (hp_); replace au := mk0 (Kd.R_after (v := (.slice (some ⟨go193, 0, none⟩) aH.length fW)) (v1 := (.slice (some ⟨go193, 0, none⟩) aH.length fW)) (ok := (fun k_ => some k_ ≠ (u283001 : Value).ownBlock)) (r_ au) hg (.inl rfl)); replace HB := mk0 ((by rw [hw]; exact bs_ (bs_ (bs_ (HB.out) GB193.out) GB193.out) GB193.out : Below w.heap.size w w200)); clear ad ab ac ax aC; have ad := n0_; have ab := n4_; have ac := n5_; have ax := n6_; have aC := n7_; clear n0_ n4_ n5_ n6_ n7_; clear hg hw hp_))
   go_roundg k12
   case measure => have := cC.out; have := br.out; have := cd.out; have := cn.out; have := dJ.out; have := cB.out; have := jy.out; have := dM.out; have := fP.out; have := ik.out; have := ke.out; have := lQ.out; omega
   case rel => exact ⟨(wrap64 (bb + 1)), (bi), (mN), (eX), (u283001), (.slice (some ⟨go193, 0, none⟩) aH.length fW), (u333001), (by first | rfl | (simp; done) | (simp [*]; done)), H', ⟨by have := cC.out; have := br.out; have := cd.out; have := cn.out; have := dJ.out; have := cB.out; have := jy.out; have := dM.out; have := fP.out; have := ik.out; have := ke.out; have := lQ.out; omega⟩, ⟨by (with_reducible repeat (first | apply Ra_ | apply Rn_ | apply Rd_)); exact ad.out⟩, ⟨by (with_reducible repeat (first | apply Ra_ | apply Rn_ | apply Rd_)); exact Kd.R_mono aa.out (fun _ hk => ⟨hk.2, hk.1⟩)⟩, ⟨by (with_reducible repeat (first | apply Ra_ | apply Rn_ | apply Rd_)); exact ag.out⟩, ⟨by (with_reducible repeat (first | apply Ra_ | apply Rn_ | apply Rd_)); exact au.out⟩, ⟨h_ ab⟩, ⟨h_ ac⟩, ⟨h_ ax⟩, ⟨h_ aC⟩, ⟨b_ HB⟩⟩
  rw [if_neg c191] at H
  have ek : decide (bb < (aH.length : Int)) = false := decide_eq_false c191
  clear c191
  by_cases c201 : 0 ≤ aj
  rotate_left
  ·rw [if_neg c201] at H
   exact absurd H (by simp)
  rw [if_pos c201] at H
  have eV : decide (0 ≤ aj) = true := decide_eq_true c201
  clear c201
  by_cases c202 : aj < (ai.length : Int)
  rotate_left
  ·rw [if_neg c202] at H
   exact absurd H (by simp)
  rw [if_pos c202] at H
  have eW : decide (aj < (ai.length : Int)) = true := decide_eq_true c202
  clear c202
  replace H := Option.bind_eq_some_iff.mp H
  obtain ⟨sb, A2030, H⟩ := H
  try dsimp only at H
  have A203 := mk0 A2030
  clear A2030
  by_cases c204 : sb = true
  rotate_left
  ·replace c204 := Bool.eq_false_iff.mpr c204
   subst c204
   rw [if_neg (show ¬ (false = true) by decide)] at H
   obtain rfl := Option.some.inj H
   have sc := bU.out
   have sd := aQ.out
   have se := bV.out
   have sf := aU.out
   have sg := cp.out
   have sh := dN.out
   obtain ⟨cV, cW, cX, cY⟩ := c2_ ax
   obtain ⟨sQ, sR, ox⟩ := Kd.R_slice ag.out
   subst ox
   try go_wp2
   replace ad := mk0 (Rd_ ad.out)
   replace aa := mk0 (Rd_ aa.out)
   replace ag := mk0 (Rd_ ag.out)
   replace au := mk0 (Rd_ au.out)
   replace ab := mk0 (bD_ ab.out)
   replace ac := mk0 (bD_ ac.out)
   replace ax := mk0 (bD_ ax.out)
   replace aC := mk0 (bD_ aC.out)
   replace HB := mk0 (b1_ HB.out)
   have fo : 0 ≤ (aj : Int) := of_decide_eq_true (by first | (with_reducible assumption) | assumption)
   have fp : aj < (ai.length : Int) := of_decide_eq_true (by first | (with_reducible assumption) | assumption)
   obtain ⟨lA, A351_1, c351_1, mO, bH, bI, fX, fY⟩ := at_T30 dr.out aj fo fp
   have fZ := bI
   have ga := bH
   obtain rfl : aw = lA := (by injection mO)
   replace bH := (bc_ HB bH :)
   replace bI := (bc_ HB bI :)
   have gb := mk0 fY
   have ja := mk0 fX
   clear fY fX
   replace fo := eq_true fo
   replace fp := eq_true fp
   obtain ⟨mq, mr, ms⟩ := Kd.R_slice aa.out
   (first | subst ms | (injection ms with f1_ f2_ f3_; have f4_ := f1_.symm; have f5_ := f3_.symm; clear f1_ f2_ f3_; subst f4_; subst f5_))
   refine start_ (n := 8) (S := fun w' => w'.cell? ⟨az, 0, none⟩ = some (.string aM) ∧ w'.cell? ⟨az, 1, none⟩ = some (.slice mq bi.length mr) ∧ w'.cell? ⟨af, 0, none⟩ = some (.slice (some aw) ai.length c0_0) ∧ w'.cell? ⟨af, 1, none⟩ = some (.slice (some aV) ah.length c0_1) ∧ w'.cell? ⟨af, 2, none⟩ = some (.slice A0_2 aE.length c0_2) ∧ w'.cell? ⟨af, 3, none⟩ = some (.slice A0_3 ay.length c0_3) ∧ w'.cell? (aw.add ((aj).toNat * 2)) = some (.string ((rd_T30 ai aj).f0)) ∧ w'.cell? ⟨(aw.add ((aj).toNat * 2)).block, (aw.add ((aj).toNat * 2)).off + 1, none⟩ = some (.slice A351_1 ((rd_T30 ai aj).f1).length c351_1)) (ds := []) (bt 8 0) (by kernel_rfl) rfl rfl ⟨bk_ ac 0, bk_ ac 1, bk_ ab 0, bk_ ab 1, bk_ ab 2, bk_ ab 3, (bc_ HB ga :), (bc_ HB fZ :)⟩ (fun hHeld => ?_); refine with_tabW quorumlaw8_ChainTells.tab45 quorumlaw8_ChainTells.bits45 (fun HT_ HW_ => ?_)
   generalize wr.drew = w218 at ad aa ag au ab ac ax aC HB gb bH bI hHeld ⊢
   refine pq_ HT_.out 1 259 (bt 8 2) (h := ?_)
   refine pq_ HT_.out 3 261 (bt 8 10) (h := ?_)
   refine tq8_ HT_.out HW_.out 0 258 (bt 8 11) hHeld (h := ?_)
   refine tq8_ HT_.out HW_.out 2 260 (bt 8 15) hHeld (h := ?_)
   refine pq_ HT_.out 4 262 (bt 8 31) (h := ?_)
   refine tq8_ HT_.out HW_.out 5 263 (bt 8 63) hHeld (h := ?_)
   refine one_ (i := 6) (N := some 264) (bt 8 127) rfl rfl (one_of HT_.out (by kernel_rfl)) (by decide) (fun K hK => ?_)
   refine goes_ Try.func25 (by kernel_rfl) rfl #[.agg #[.string aM, .slice mq bi.length mr], .agg #[.string ((rd_T30 ai aj).f0), .slice A351_1 ((rd_T30 ai aj).f1).length c351_1]] (by rfl) rfl rfl (by (try simp only [List.map_toArray, List.map_cons, List.map_nil]); first | done | rfl | (simp only [List.length_drop, List.length_take]; rfl)) ?_
   with_reducible refine (quorumref0_EqChain.calls k12 aM _ _ bi ((rd_T30 ai aj).f0) _ _ ((rd_T30 ai aj).f1) false _ ?side1 ?side2 ?side3 ?side4 A203.out).mono ?_
   (case side1 => exact cr_ aa)
   (case side2 => exact (Kd.R_reads' aa.out).2.1)
   (case side3 => exact cb_ gb HB)
   (case side4 => exact ja.out)
   rintro e w220 ⟨rfl, hb⟩
   refine ⟨_, rfl, ?_⟩
   replace ad := mk0 (Kd.R_below (r_ ad) hb)
   replace aa := mk0 (Kd.R_below (r_ aa) hb)
   replace ag := mk0 (Kd.R_below (r_ ag) hb)
   replace au := mk0 (Kd.R_below (r_ au) hb)
   replace ab := mk0 (u_ ab hb)
   replace ac := mk0 (u_ ac hb)
   replace ax := mk0 (u_ ax hb)
   replace aC := mk0 (u_ aC hb)
   replace HB := mk0 (bt_ (b_ HB) hb)
   (try clear hb)
   (try clear hb2)
   (try clear hk)
   (try clear hi)
   refine hK.out _ _ ⟨bk_ ac 0, bk_ ac 1, bk_ ab 0, bk_ ab 1, bk_ ab 2, bk_ ab 3, (bc_ HB ga :), (bc_ HB fZ :)⟩ (fun hHeld => ?_)
   clear hK K
   refine norm_ (a' := ?_) ?_ ?_
   rotate_left
   ·show Act.put _ (some 264) _ = _
    simp only [z_]
    rfl
   refine pq_ HT_.out 7 265 (bt 8 255) (h := ?_)
   refine done_ (done_of HT_.out (by kernel_rfl)) ?_
   try go_wp2
   go_ret
   exact ⟨by first | rfl | (simp [errW_none, errW_some] <;> rfl) | (simp [*, errW_none, errW_some] <;> rfl), b_ HB⟩
  subst c204
  rw [if_pos rfl] at H
  have H' := mk0 H
  clear H
  have si := bU.out
  have sj := aQ.out
  have sk := bV.out
  have sl := aU.out
  have sm := cp.out
  have sn := dN.out
  obtain ⟨cR, cS, cT, cU⟩ := c2_ ax
  obtain ⟨sS, sT, oy⟩ := Kd.R_slice ag.out
  subst oy
  try go_wp2
  replace ad := mk0 (Rd_ ad.out)
  replace aa := mk0 (Rd_ aa.out)
  replace ag := mk0 (Rd_ ag.out)
  replace au := mk0 (Rd_ au.out)
  replace ab := mk0 (bD_ ab.out)
  replace ac := mk0 (bD_ ac.out)
  replace ax := mk0 (bD_ ax.out)
  replace aC := mk0 (bD_ aC.out)
  replace HB := mk0 (b1_ HB.out)
  have fo : 0 ≤ (aj : Int) := of_decide_eq_true (by first | (with_reducible assumption) | assumption)
  have fp : aj < (ai.length : Int) := of_decide_eq_true (by first | (with_reducible assumption) | assumption)
  obtain ⟨lA, A351_1, c351_1, mO, bH, bI, fX, fY⟩ := at_T30 dr.out aj fo fp
  have fZ := bI
  have ga := bH
  obtain rfl : aw = lA := (by injection mO)
  replace bH := (bc_ HB bH :)
  replace bI := (bc_ HB bI :)
  have gb := mk0 fY
  have ja := mk0 fX
  clear fY fX
  replace fo := eq_true fo
  replace fp := eq_true fp
  obtain ⟨lB, lC, mt⟩ := Kd.R_slice aa.out
  (first | subst mt | (injection mt with f1_ f2_ f3_; have f4_ := f1_.symm; have f5_ := f3_.symm; clear f1_ f2_ f3_; subst f4_; subst f5_))
  refine start_ (n := 8) (S := fun w' => w'.cell? ⟨az, 0, none⟩ = some (.string aM) ∧ w'.cell? ⟨az, 1, none⟩ = some (.slice lB bi.length lC) ∧ w'.cell? ⟨af, 0, none⟩ = some (.slice (some aw) ai.length c0_0) ∧ w'.cell? ⟨af, 1, none⟩ = some (.slice (some aV) ah.length c0_1) ∧ w'.cell? ⟨af, 2, none⟩ = some (.slice A0_2 aE.length c0_2) ∧ w'.cell? ⟨af, 3, none⟩ = some (.slice A0_3 ay.length c0_3) ∧ w'.cell? (aw.add ((aj).toNat * 2)) = some (.string ((rd_T30 ai aj).f0)) ∧ w'.cell? ⟨(aw.add ((aj).toNat * 2)).block, (aw.add ((aj).toNat * 2)).off + 1, none⟩ = some (.slice A351_1 ((rd_T30 ai aj).f1).length c351_1)) (ds := []) (bt 8 0) (by kernel_rfl) rfl rfl ⟨bk_ ac 0, bk_ ac 1, bk_ ab 0, bk_ ab 1, bk_ ab 2, bk_ ab 3, (bc_ HB ga :), (bc_ HB fZ :)⟩ (fun hHeld => ?_); refine with_tabW quorumlaw8_ChainTells.tab45 quorumlaw8_ChainTells.bits45 (fun HT_ HW_ => ?_)
  generalize wr.drew = w210 at ad aa ag au ab ac ax aC HB gb bH bI hHeld ⊢
  refine pq_ HT_.out 1 259 (bt 8 2) (h := ?_)
  refine pq_ HT_.out 3 261 (bt 8 10) (h := ?_)
  refine tq8_ HT_.out HW_.out 0 258 (bt 8 11) hHeld (h := ?_)
  refine tq8_ HT_.out HW_.out 2 260 (bt 8 15) hHeld (h := ?_)
  refine pq_ HT_.out 4 262 (bt 8 31) (h := ?_)
  refine tq8_ HT_.out HW_.out 5 263 (bt 8 63) hHeld (h := ?_)
  refine one_ (i := 6) (N := some 264) (bt 8 127) rfl rfl (one_of HT_.out (by kernel_rfl)) (by decide) (fun K hK => ?_)
  refine goes_ Try.func25 (by kernel_rfl) rfl #[.agg #[.string aM, .slice lB bi.length lC], .agg #[.string ((rd_T30 ai aj).f0), .slice A351_1 ((rd_T30 ai aj).f1).length c351_1]] (by rfl) rfl rfl (by (try simp only [List.map_toArray, List.map_cons, List.map_nil]); first | done | rfl | (simp only [List.length_drop, List.length_take]; rfl)) ?_
  with_reducible refine (quorumref0_EqChain.calls k12 aM _ _ bi ((rd_T30 ai aj).f0) _ _ ((rd_T30 ai aj).f1) true _ ?side1 ?side2 ?side3 ?side4 A203.out).mono ?_
  (case side1 => exact cr_ aa)
  (case side2 => exact (Kd.R_reads' aa.out).2.1)
  (case side3 => exact cb_ gb HB)
  (case side4 => exact ja.out)
  rintro e w212 ⟨rfl, hb⟩
  refine ⟨_, rfl, ?_⟩
  replace ad := mk0 (Kd.R_below (r_ ad) hb)
  replace aa := mk0 (Kd.R_below (r_ aa) hb)
  replace ag := mk0 (Kd.R_below (r_ ag) hb)
  replace au := mk0 (Kd.R_below (r_ au) hb)
  replace ab := mk0 (u_ ab hb)
  replace ac := mk0 (u_ ac hb)
  replace ax := mk0 (u_ ax hb)
  replace aC := mk0 (u_ aC hb)
  replace HB := mk0 (bt_ (b_ HB) hb)
  (try clear hb)
  (try clear hb2)
  (try clear hk)
  (try clear hi)
  refine hK.out _ _ ⟨bk_ ac 0, bk_ ac 1, bk_ ab 0, bk_ ab 1, bk_ ab 2, bk_ ab 3, (bc_ HB ga :), (bc_ HB fZ :)⟩ (fun hHeld => ?_)
  clear hK K
  refine norm_ (a' := ?_) ?_ ?_
  rotate_left
  ·show Act.put _ (some 264) _ = _
   simp only [z_]
   rfl
  refine pq_ HT_.out 7 265 (bt 8 255) (h := ?_)
  refine done_ (done_of HT_.out (by kernel_rfl)) ?_
  try go_wp2
  go_roundg k12
  case measure => have := cC.out; have := br.out; have := cd.out; have := cn.out; have := dJ.out; have := cB.out; have := jy.out; have := dM.out; have := fP.out; have := ik.out; have := ke.out; have := lQ.out; omega
  case rel => exact ⟨(wrap64 (ar + 1)), (bi), (.slice lB bi.length lC), (by first | rfl | (simp; done) | (simp [*]; done)), H', ⟨by have := cC.out; have := br.out; have := cd.out; have := cn.out; have := dJ.out; have := cB.out; have := jy.out; have := dM.out; have := fP.out; have := ik.out; have := ke.out; have := lQ.out; omega⟩, ⟨by (with_reducible repeat (first | apply Ra_ | apply Rn_ | apply Rd_)); exact ad.out⟩, ⟨by (with_reducible repeat (first | apply Ra_ | apply Rn_ | apply Rd_)); exact Kd.R_mono aa.out (fun _ hk => trivial)⟩, ⟨h_ ab⟩, ⟨h_ ac⟩, ⟨b_ HB⟩⟩
 subst c58
 rw [if_pos rfl] at H
 by_cases c59 : 0 ≤ aG
 rotate_left
 ·rw [if_neg c59] at H
  exact absurd H (by simp)
 rw [if_pos c59] at H
 have sU : decide (0 ≤ aG) = true := decide_eq_true c59
 clear c59
 by_cases c60 : aG < (aK.length : Int)
 rotate_left
 ·rw [if_neg c60] at H
  exact absurd H (by simp)
 rw [if_pos c60] at H
 have sV : decide (aG < (aK.length : Int)) = true := decide_eq_true c60
 clear c60
 replace H := Option.bind_eq_some_iff.mp H
 obtain ⟨⟨bJ, bK, bM, ep⟩, A610, H⟩ := H
 try dsimp only at H
 have A61 := mk0 A610
 clear A610
 replace H := Option.bind_eq_some_iff.mp H
 obtain ⟨⟨co, bC, gF⟩, A620, H⟩ := H
 try dsimp only at H
 have A62 := mk0 A620
 clear A620
 have HC63 := mk0 H
 clear H
 try go_wp2
 replace ad := mk0 (Rd_ ad.out)
 replace aa := mk0 (Rd_ aa.out)
 replace ab := mk0 (bD_ ab.out)
 replace ac := mk0 (bD_ ac.out)
 replace HB := mk0 (b1_ HB.out)
 obtain ⟨te, il, oz⟩ := Kd.R_slice ad.out
 (first | subst oz | (injection oz with f1_ f2_ f3_; have f4_ := f1_.symm; have f5_ := f3_.symm; clear f1_ f2_ f3_; subst f4_; subst f5_))
 have mP : 0 ≤ (aG : Int) := of_decide_eq_true (by first | (with_reducible assumption) | assumption)
 have mQ : aG < (aK.length : Int) := of_decide_eq_true (by first | (with_reducible assumption) | assumption)
 obtain ⟨bQ, so, kf⟩ := Kd.at_int (Kd.R_reads' ad.out).2.2 aG mP mQ
 cases so
 replace mP := eq_true mP
 replace mQ := eq_true mQ
 refine start_ (n := 12) (S := fun w' => w'.cell? ⟨az, 0, none⟩ = some (.string aM) ∧ w'.cell? ⟨az, 1, none⟩ = some (.slice aY aI.length aZ) ∧ w'.cell? (bQ.add (aG).toNat) = some (.int .i64 (rd aK aG))) (ds := []) (bt 12 0) (by kernel_rfl) rfl rfl ⟨bk_ ac 0, bk_ ac 1, kf⟩ (fun hHeld => ?_); refine with_tabW quorumlaw8_ChainTells.tab18 quorumlaw8_ChainTells.bits18 (fun HT_ HW_ => ?_)
 generalize wc.drew = w64 at ad aa ab ac HB kf hHeld ⊢
 refine pq_ HT_.out 1 103 (bt 12 2) (h := ?_)
 refine pq_ HT_.out 2 104 (bt 12 6) (h := ?_)
 refine pq_ HT_.out 3 105 (bt 12 14) (h := ?_)
 refine tq3_ HT_.out HW_.out 0 102 (bt 12 15) hHeld (h := ?_)
 refine tq3_ HT_.out HW_.out 4 106 (bt 12 31) hHeld (h := ?_)
 refine join_ (σ := Nat) 2 (bt 12 1023) (fun s_ => [(107, .tuple #[.agg #[.int .i64 bJ, .string bK, .bool bM], .int .i64 ep]), (12, .pointer (some ⟨s_, 0, none⟩)), (101, .tuple #[.agg #[.int .i64 bJ, .string bK, .bool bM], .int .i64 ep]), (108, .agg #[.int .i64 bJ, .string bK, .bool bM]), (109, .int .i64 ep)]) (fun s_ w' => (w'.cell? ⟨az, 0, none⟩ = some (.string aM) ∧ w'.cell? ⟨az, 1, none⟩ = some (.slice aY aI.length aZ) ∧ w'.cell? (bQ.add (aG).toNat) = some (.int .i64 (rd aK aG))) ∧ (Kd.R k39 39 w' w.heap.size (fun k_ => k_ ≠ s_) (.slice aY aI.length aZ) aI) ∧ (Kd.R (Kd.int .i64) 3 w' w.heap.size (fun _ => True) (.slice (some bQ) aK.length il) aK) ∧ (w'.heap[af]? = some (.cells #[.slice (some aw) ai.length c0_0, .slice A0_1 ah.length c0_1, .slice A0_2 aE.length c0_2, .slice A0_3 ay.length c0_3] 27 (0, 0))) ∧ (w'.heap[az]? = some (.cells #[.string aM, .slice aY aI.length aZ] 30 (0, 0))) ∧ (w'.heap[s_]? = some (.cells #[.int .i64 0, .string (⟨#[]⟩ : ByteArray), .bool false] 39 (0, 0))) ∧ (w.heap.size ≤ s_) ∧ (w.heap.size ≤ s_) ∧ (af ≠ s_) ∧ (s_ ≠ af) ∧ (az ≠ s_) ∧ (s_ ≠ az) ∧ (Below w.heap.size w w')) ?_ ?_
 rotate_left
 ·intro hCont
  refine two_ (i := 5) (j := 9) (Ni := some 107) (Nj := some 12) (bt 12 63) (bt 12 543) rfl rfl rfl rfl (two_of HT_.out (by kernel_rfl)) (by decide) (by decide) (fun K hK => ?_) (fun K hK => ?_)
  ·skip
   refine goes_ Try.func21 (by kernel_rfl) rfl #[.agg #[.string aM, .slice aY aI.length aZ], .int .i64 (rd aK aG)] (by rfl) rfl rfl (by (try simp only [List.map_toArray, List.map_cons, List.map_nil]); first | done | rfl | (simp only [List.length_drop, List.length_take]; rfl)) ?_
   with_reducible refine (chain_At.calls kj53 aM _ _ aI (rd aK aG) bJ bK bM ep _ ?side1 ?side2 A61.out).mono ?_
   (case side1 => exact cr_ aa)
   (case side2 => exact (Kd.R_reads' aa.out).2.1)
   rintro e w66 ⟨rfl, hb⟩
   have HS2_ := (hb.cell (World.block_lt_of_cell? _ _ hHeld.2.2)).trans hHeld.2.2
   refine ⟨_, rfl, ?_⟩
   replace ad := mk0 (Kd.R_below (r_ ad) hb)
   replace aa := mk0 (Kd.R_below (r_ aa) hb)
   replace ab := mk0 (u_ ab hb)
   replace ac := mk0 (u_ ac hb)
   replace HB := mk0 (bt_ (b_ HB) hb)
   (try clear hb)
   (try clear hb2)
   (try clear hk)
   (try clear hi)
   refine hK.out _ _ ⟨bk_ ac 0, bk_ ac 1, HS2_⟩ (fun hHeld => ?_)
   clear hK K
   refine norm_ (a' := ?_) ?_ ?_
   rotate_left
   ·show Act.put _ (some 107) _ = _
    simp only [z_]
    rfl
   refine pq_ HT_.out 6 101 (bt 12 127) (h := ?_)
   refine pq_ HT_.out 7 108 (bt 12 255) (h := ?_)
   refine pq_ HT_.out 8 109 (bt 12 511) (h := ?_)
   refine one_ (i := 9) (N := some 12) (bt 12 1023) rfl rfl (one_of HT_.out (by kernel_rfl)) (by decide) (fun K hK => ?_)
   refine box_step ?hg (N := 12) ?hd (cs := #[.int .i64 0, .string (⟨#[]⟩ : ByteArray), .bool false]) (t := 39) ?hr ?_; (case hd => rfl); (case hg => rfl); (case hr => first | (go_simp; done) | (go_simp; rfl))
   intro ao hg w67 hbox hb
   have HS2_ := (hb.cell (World.block_lt_of_cell? _ _ hHeld.2.2)).trans hHeld.2.2
   have n6_ := mk0 (gz_ HB hg)
   have n7_ := mk0 (gz_ HB hg)
   have n8_ := mk0 (ne1_ ab hg)
   have n9_ := mk0 (ne2_ ab hg)
   have n10_ := mk0 (ne1_ ac hg)
   have n11_ := mk0 (ne2_ ac hg)
   replace ad := mk0 (Kd.R_below (r_ ad) hb)
   replace aa := mk0 (Kd.R_below (Kd.R_elderB (r_ aa) ao (Nat.le_of_eq hg.symm)) hb)
   replace ab := mk0 (u_ ab hb)
   replace ac := mk0 (u_ ac hb)
   replace HB := mk0 (bt_ (b_ HB) hb)
   have ae := mk0 (hbox)
   have kg := n6_
   have kh := n7_
   have bN := n8_
   have cq := n9_
   have bd := n10_
   have cr := n11_
   clear n6_ n7_ n8_ n9_ n10_ n11_ hb hbox hg
   refine hK.out _ _ ⟨bk_ ac 0, bk_ ac 1, HS2_⟩ (fun hHeld => ?_)
   clear hK K
   refine norm_ (a' := ?_) ?_ ?_
   rotate_left
   ·show Act.put _ (some 12) _ = _
    simp only [z_]
    rfl
   exact norm_ (by simp only [putAll, Act.put, List.setIfInBounds_toArray, List.set_cons_zero, List.set_cons_succ]) (hCont (ao) _ ⟨hHeld, (r2_ (Kd.R_mono aa.out (fun _ hk => hk.2))), (r_ ad), (h_ ab), (h_ ac), (h_ ae), kg.out, kh.out, bN.out, cq.out, bd.out, cr.out, (b_ HB)⟩)
  ·skip
   refine box_step ?hg (N := 12) ?hd (cs := #[.int .i64 0, .string (⟨#[]⟩ : ByteArray), .bool false]) (t := 39) ?hr ?_; (case hd => rfl); (case hg => rfl); (case hr => first | (go_simp; done) | (go_simp; rfl))
   intro ao hg w66 hbox hb
   have HS2_ := (hb.cell (World.block_lt_of_cell? _ _ hHeld.2.2)).trans hHeld.2.2
   have n6_ := mk0 (gz_ HB hg)
   have n7_ := mk0 (gz_ HB hg)
   have n8_ := mk0 (ne1_ ab hg)
   have n9_ := mk0 (ne2_ ab hg)
   have n10_ := mk0 (ne1_ ac hg)
   have n11_ := mk0 (ne2_ ac hg)
   replace ad := mk0 (Kd.R_below (r_ ad) hb)
   replace aa := mk0 (Kd.R_below (Kd.R_elderB (r_ aa) ao (Nat.le_of_eq hg.symm)) hb)
   replace ab := mk0 (u_ ab hb)
   replace ac := mk0 (u_ ac hb)
   replace HB := mk0 (bt_ (b_ HB) hb)
   have ae := mk0 (hbox)
   have kg := n6_
   have kh := n7_
   have bN := n8_
   have cq := n9_
   have bd := n10_
   have cr := n11_
   clear n6_ n7_ n8_ n9_ n10_ n11_ hb hbox hg
   refine hK.out _ _ ⟨bk_ ac 0, bk_ ac 1, HS2_⟩ (fun hHeld => ?_)
   clear hK K
   refine norm_ (a' := ?_) ?_ ?_
   rotate_left
   ·show Act.put _ (some 12) _ = _
    simp only [z_]
    rfl
   refine one_ (i := 5) (N := some 107) (bt 12 575) rfl rfl (one_of HT_.out (by kernel_rfl)) (by decide) (fun K hK => ?_)
   refine goes_ Try.func21 (by kernel_rfl) rfl #[.agg #[.string aM, .slice aY aI.length aZ], .int .i64 (rd aK aG)] (by rfl) rfl rfl (by (try simp only [List.map_toArray, List.map_cons, List.map_nil]); first | done | rfl | (simp only [List.length_drop, List.length_take]; rfl)) ?_
   with_reducible refine (chain_At.calls kj53 aM _ _ aI (rd aK aG) bJ bK bM ep _ ?side1 ?side2 A61.out).mono ?_
   (case side1 => exact cr_ aa)
   (case side2 => exact (Kd.R_reads' aa.out).2.1)
   rintro e w67 ⟨rfl, hb⟩
   have HS2_ := (hb.cell (World.block_lt_of_cell? _ _ hHeld.2.2)).trans hHeld.2.2
   refine ⟨_, rfl, ?_⟩
   replace ad := mk0 (Kd.R_below (r_ ad) hb)
   replace aa := mk0 (Kd.R_below (r_ aa) hb)
   replace ab := mk0 (u_ ab hb)
   replace ac := mk0 (u_ ac hb)
   replace ae := mk0 (blk_below (g := ao) (o := .cells #[.int .i64 0, .string (⟨#[]⟩ : ByteArray), .bool false] 39 (0, 0)) (h_ ae) hb)
   replace HB := mk0 (bt_ (b_ HB) hb)
   (try clear hb)
   (try clear hb2)
   (try clear hk)
   (try clear hi)
   refine hK.out _ _ ⟨bk_ ac 0, bk_ ac 1, HS2_⟩ (fun hHeld => ?_)
   clear hK K
   refine norm_ (a' := ?_) ?_ ?_
   rotate_left
   ·show Act.put _ (some 107) _ = _
    simp only [z_]
    rfl
   refine pq_ HT_.out 6 101 (bt 12 639) (h := ?_)
   refine pq_ HT_.out 7 108 (bt 12 767) (h := ?_)
   refine pq_ HT_.out 8 109 (bt 12 1023) (h := ?_)
   exact norm_ (by simp only [putAll, Act.put, List.setIfInBounds_toArray, List.set_cons_zero, List.set_cons_succ]) (hCont (ao) _ ⟨hHeld, (r2_ (Kd.R_mono aa.out (fun _ hk => hk.2))), (r_ ad), (h_ ab), (h_ ac), (h_ ae), kg.out, kh.out, bN.out, cq.out, bd.out, cr.out, (b_ HB)⟩)
 rintro ao w68 ⟨hS_, h0_, h1_, h2_, h3_, h4_, h5_, h6_, h7_, h8_, h9_, h10_, h11_⟩
 have n0_ : Fc (Kd.R k39 39 w68 w.heap.size (fun k_ => k_ ≠ ao) (.slice aY aI.length aZ) aI) := ⟨h0_⟩
 have n1_ : Fc (Kd.R (Kd.int .i64) 3 w68 w.heap.size (fun _ => True) (.slice (some bQ) aK.length il) aK) := ⟨h1_⟩
 have n2_ : Fc (w68.heap[af]? = some (.cells #[.slice (some aw) ai.length c0_0, .slice A0_1 ah.length c0_1, .slice A0_2 aE.length c0_2, .slice A0_3 ay.length c0_3] 27 (0, 0))) := ⟨h2_⟩
 have n3_ : Fc (w68.heap[az]? = some (.cells #[.string aM, .slice aY aI.length aZ] 30 (0, 0))) := ⟨h3_⟩
 have n4_ : Fc (w68.heap[ao]? = some (.cells #[.int .i64 0, .string (⟨#[]⟩ : ByteArray), .bool false] 39 (0, 0))) := ⟨h4_⟩
 have n5_ : Fc (w.heap.size ≤ ao) := ⟨h5_⟩
 have n6_ : Fc (w.heap.size ≤ ao) := ⟨h6_⟩
 have n7_ : Fc (af ≠ ao) := ⟨h7_⟩
 have n8_ : Fc (ao ≠ af) := ⟨h8_⟩
 have n9_ : Fc (az ≠ ao) := ⟨h9_⟩
 have n10_ : Fc (ao ≠ az) := ⟨h10_⟩
 have n11_ : Fc (Below w.heap.size w w68) := ⟨h11_⟩
 clear ad aa ab ac HB h0_ h1_ h2_ h3_ h4_ h5_ h6_ h7_ h8_ h9_ h10_ h11_
 have aa := n0_
 have ad := n1_
 have ab := n2_
 have ac := n3_
 have ae := n4_
 have kg := n5_
 have kh := n6_
 have bN := n7_
 have cq := n8_
 have bd := n9_
 have cr := n10_
 have HB := n11_
 clear n0_ n1_ n2_ n3_ n4_ n5_ n6_ n7_ n8_ n9_ n10_ n11_
 have hHeld : w68.cell? ⟨az, 0, none⟩ = some (.string aM) ∧ w68.cell? ⟨az, 1, none⟩ = some (.slice aY aI.length aZ) ∧ w68.cell? (bQ.add (aG).toNat) = some (.int .i64 (rd aK aG)) := hS_
 refine norm_ (a' := ?_) ?_ ?_
 rotate_left
 ·simp only [putAll, Act.put, List.setIfInBounds_toArray, List.set_cons_zero, List.set_cons_succ]
  rfl
 refine one_ (i := 10) (N := none) (bt 12 2047) rfl rfl (one_of HT_.out (by kernel_rfl)) (by decide) (fun K hK => ?_)
 have hs69 : w68.cell? ⟨ao, 0, none⟩ = some (.int .i64 0) := bk_ ae 0
 have hfs69 := blk_frozen ae.out 0
 have pl := bN.out
 have pm := bd.out
 have pn := cq.out
 have po := cr.out
 have hs70 : w68.cell? ⟨ao, 1, none⟩ = some (.string (⟨#[]⟩ : ByteArray)) := bk_ ae 1
 have hfs70 := blk_frozen ae.out 1
 have pp := bN.out
 have pq := bd.out
 have pr := cq.out
 have ps := cr.out
 have hs71 : w68.cell? ⟨ao, 2, none⟩ = some (.bool false) := bk_ ae 2
 have hfs71 := blk_frozen ae.out 2
 have pt := bN.out
 have pu := bd.out
 have pv := cq.out
 have pw := cr.out
 refine skip_ (w1 := ?_) (by rfl) rfl ?_ ?_
 rotate_left
 ·go_simp
  rfl
 refine hK.out _ _ ⟨(cf_ bd.out ((cf_ bd.out (cf_ bd.out hHeld.1)))), (cf_ bd.out ((cf_ bd.out (cf_ bd.out hHeld.2.1)))), ((cell_far (p := ⟨ao, _, none⟩) (by first | exact Kd.own_blk (Kd.R_ne ad.out ae.out (by decide)) | (rw [add_block]; exact Kd.own_blk (Kd.R_ne ad.out ae.out (by decide))) | (show (Addr.add _ _).block ≠ _; rw [add_block]; exact Kd.own_blk (Kd.R_ne ad.out ae.out (by decide))) | (dsimp only; exact Kd.own_blk (Kd.R_ne ad.out ae.out (by decide)))) _).trans (((cell_far (p := ⟨ao, _, none⟩) (by first | exact Kd.own_blk (Kd.R_ne ad.out ae.out (by decide)) | (rw [add_block]; exact Kd.own_blk (Kd.R_ne ad.out ae.out (by decide))) | (show (Addr.add _ _).block ≠ _; rw [add_block]; exact Kd.own_blk (Kd.R_ne ad.out ae.out (by decide))) | (dsimp only; exact Kd.own_blk (Kd.R_ne ad.out ae.out (by decide)))) _).trans (((cell_far (p := ⟨ao, _, none⟩) (by first | exact Kd.own_blk (Kd.R_ne ad.out ae.out (by decide)) | (rw [add_block]; exact Kd.own_blk (Kd.R_ne ad.out ae.out (by decide))) | (show (Addr.add _ _).block ≠ _; rw [add_block]; exact Kd.own_blk (Kd.R_ne ad.out ae.out (by decide))) | (dsimp only; exact Kd.own_blk (Kd.R_ne ad.out ae.out (by decide)))) _).trans hHeld.2.2)))))⟩ (fun hHeld => ?_)
 clear hK K
 refine pq_ HT_.out 11 13 (bt 12 4095) (h := ?_)
 refine done_ (done_of HT_.out (by kernel_rfl)) ?_
 try go_wp2
 have n0_ : Fc (Kd.R (Kd.int .i64) 3 (((w68.setCell ⟨ao, 0, none⟩ (.int .i64 bJ)).setCell ⟨ao, 1, none⟩ (.string bK)).setCell ⟨ao, 2, none⟩ (.bool bM)) w.heap.size (fun _ => True) (.slice (some bQ) aK.length il) aK) := ⟨by (with_reducible repeat (first | apply Ra_ | apply Rn_ | apply Rd_)); exact Kd.R_mono (Kd.R_far (p := ⟨ao, 2, none⟩) (Kd.R_far (p := ⟨ao, 1, none⟩) (Kd.R_far (p := ⟨ao, 0, none⟩) (Kd.R_types ad.out ae.out (by decide)) (fun _ hk => hk.2) (.int .i64 bJ)) (fun _ hk => hk.2) (.string bK)) (fun _ hk => hk.2) (.bool bM)) (fun _ hk => trivial)⟩
 have n1_ : Fc (Kd.R k39 39 (((w68.setCell ⟨ao, 0, none⟩ (.int .i64 bJ)).setCell ⟨ao, 1, none⟩ (.string bK)).setCell ⟨ao, 2, none⟩ (.bool bM)) w.heap.size (fun k_ => k_ ≠ ao) (.slice aY aI.length aZ) aI) := ⟨by (with_reducible repeat (first | apply Ra_ | apply Rn_ | apply Rd_)); exact Kd.R_mono (Kd.R_far (p := ⟨ao, 2, none⟩) (Kd.R_far (p := ⟨ao, 1, none⟩) (Kd.R_far (p := ⟨ao, 0, none⟩) (Kd.R_mono aa.out (fun k_ hk => (⟨hk, hk⟩ : _ ∧ k_ ≠ ao))) (fun _ hk => hk.2) (.int .i64 bJ)) (fun _ hk => hk.2) (.string bK)) (fun _ hk => hk.2) (.bool bM)) (fun _ hk => hk.1)⟩
 have n2_ : Fc ((((w68.setCell ⟨ao, 0, none⟩ (.int .i64 bJ)).setCell ⟨ao, 1, none⟩ (.string bK)).setCell ⟨ao, 2, none⟩ (.bool bM)).heap[af]? = some (.cells #[.slice (some aw) ai.length c0_0, .slice A0_1 ah.length c0_1, .slice A0_2 aE.length c0_2, .slice A0_3 ay.length c0_3] 27 (0, 0))) := ⟨(fa_ (fa_ (fa_ (h_ ab) bN.out) bN.out) bN.out)⟩
 have n3_ : Fc ((((w68.setCell ⟨ao, 0, none⟩ (.int .i64 bJ)).setCell ⟨ao, 1, none⟩ (.string bK)).setCell ⟨ao, 2, none⟩ (.bool bM)).heap[az]? = some (.cells #[.string aM, .slice aY aI.length aZ] 30 (0, 0))) := ⟨(fa_ (fa_ (fa_ (h_ ac) bd.out) bd.out) bd.out)⟩
 have n4_ : Fc ((((w68.setCell ⟨ao, 0, none⟩ (.int .i64 bJ)).setCell ⟨ao, 1, none⟩ (.string bK)).setCell ⟨ao, 2, none⟩ (.bool bM)).heap[ao]? = some (.cells #[.int .i64 bJ, .string bK, .bool bM] 39 (0, 0))) := ⟨(pu_ (cs := #[.int .i64 bJ, .string bK, .bool false]) (pu_ (cs := #[.int .i64 bJ, .string (⟨#[]⟩ : ByteArray), .bool false]) (pu_ (cs := #[.int .i64 0, .string (⟨#[]⟩ : ByteArray), .bool false]) (h_ ae))))⟩
 have n5_ : Fc (Below w.heap.size w (((w68.setCell ⟨ao, 0, none⟩ (.int .i64 bJ)).setCell ⟨ao, 1, none⟩ (.string bK)).setCell ⟨ao, 2, none⟩ (.bool bM))) := ⟨b_ HB⟩
 (try clear ad)
 (try clear aa)
 (try clear ab)
 (try clear ac)
 (try clear ae)
 (try clear HB)
 generalize (((w68.setCell ⟨ao, 0, none⟩ (.int .i64 bJ)).setCell ⟨ao, 1, none⟩ (.string bK)).setCell ⟨ao, 2, none⟩ (.bool bM)) = w72 at n0_ n1_ n2_ n3_ n4_ n5_ ⊢
 have ad := n0_
 have aa := n1_
 have ab := n2_
 have ac := n3_
 have ae := n4_
 have HB := n5_
 clear n0_ n1_ n2_ n3_ n4_ n5_
 replace ad := mk0 (Rd_ ad.out)
 replace aa := mk0 (Rd_ aa.out)
 replace ab := mk0 (bD_ ab.out)
 replace ac := mk0 (bD_ ac.out)
 replace ae := mk0 (bD_ ae.out)
 replace HB := mk0 (b1_ HB.out)
 have mR : 0 ≤ (aG : Int) := of_decide_eq_true (by first | (with_reducible assumption) | assumption)
 have mS : aG < (aK.length : Int) := of_decide_eq_true (by first | (with_reducible assumption) | assumption)
 obtain ⟨oA, sp, ki⟩ := Kd.at_int (Kd.R_reads' ad.out).2.2 aG mR mS
 obtain rfl : bQ = oA := (by injection sp)
 replace mR := eq_true mR
 replace mS := eq_true mS
 refine start_ (n := 12) (S := fun w' => w'.cell? ⟨az, 0, none⟩ = some (.string aM) ∧ w'.cell? ⟨az, 1, none⟩ = some (.slice aY aI.length aZ) ∧ w'.cell? (bQ.add (aG).toNat) = some (.int .i64 (rd aK aG))) (ds := []) (bt 12 0) (by kernel_rfl) rfl rfl ⟨bk_ ac 0, bk_ ac 1, ki⟩ (fun hHeld => ?_); refine with_tabW quorumlaw8_ChainTells.tab19 quorumlaw8_ChainTells.bits19 (fun HT_ HW_ => ?_)
 generalize w72.drew = w73 at ad aa ab ac ae HB ki hHeld ⊢
 refine pq_ HT_.out 1 112 (bt 12 2) (h := ?_)
 refine pq_ HT_.out 2 113 (bt 12 6) (h := ?_)
 refine pq_ HT_.out 3 114 (bt 12 14) (h := ?_)
 refine tq3_ HT_.out HW_.out 0 111 (bt 12 15) hHeld (h := ?_)
 refine tq3_ HT_.out HW_.out 4 115 (bt 12 31) hHeld (h := ?_)
 refine join_ (σ := Value × Nat) 2 (bt 12 1023) (fun s_ => [(116, .tuple #[.agg #[.string co, s_.1], .int .i64 gF]), (14, .pointer (some ⟨s_.2, 0, none⟩)), (110, .tuple #[.agg #[.string co, s_.1], .int .i64 gF]), (117, .agg #[.string co, s_.1]), (118, .int .i64 gF)]) (fun s_ w' => (w'.cell? ⟨az, 0, none⟩ = some (.string aM) ∧ w'.cell? ⟨az, 1, none⟩ = some (.slice aY aI.length aZ) ∧ w'.cell? (bQ.add (aG).toNat) = some (.int .i64 (rd aK aG))) ∧ (Kd.R k39 39 w' w.heap.size (fun k_ => some k_ ≠ (.slice aY aI.length aZ : Value).ownBlock ∧ k_ ≠ ao) s_.1 bC) ∧ (Kd.R k39 39 w' w.heap.size (fun k_ => some k_ ≠ (s_.1 : Value).ownBlock ∧ k_ ≠ ao) (.slice aY aI.length aZ) aI) ∧ (Kd.R (Kd.int .i64) 3 w' w.heap.size (fun _ => True) (.slice (some bQ) aK.length il) aK) ∧ (w'.heap[af]? = some (.cells #[.slice (some aw) ai.length c0_0, .slice A0_1 ah.length c0_1, .slice A0_2 aE.length c0_2, .slice A0_3 ay.length c0_3] 27 (0, 0))) ∧ (w'.heap[az]? = some (.cells #[.string aM, .slice aY aI.length aZ] 30 (0, 0))) ∧ (w'.heap[ao]? = some (.cells #[.int .i64 bJ, .string bK, .bool bM] 39 (0, 0))) ∧ (w'.heap[s_.2]? = some (.cells #[.string (⟨#[]⟩ : ByteArray), .slice none 0 0] 30 (0, 0))) ∧ (w.heap.size ≤ s_.2) ∧ (w.heap.size ≤ s_.2) ∧ (af ≠ s_.2) ∧ (s_.2 ≠ af) ∧ (az ≠ s_.2) ∧ (s_.2 ≠ az) ∧ (ao ≠ s_.2) ∧ (s_.2 ≠ ao) ∧ (Below w.heap.size w w')) ?_ ?_
 rotate_left
 ·intro hCont
  refine two_ (i := 5) (j := 9) (Ni := some 116) (Nj := some 14) (bt 12 63) (bt 12 543) rfl rfl rfl rfl (two_of HT_.out (by kernel_rfl)) (by decide) (by decide) (fun K hK => ?_) (fun K hK => ?_)
  ·skip
   refine goes_ Try.func22 (by kernel_rfl) rfl #[.agg #[.string aM, .slice aY aI.length aZ], .int .i64 (rd aK aG)] (by rfl) rfl rfl (by (try simp only [List.map_toArray, List.map_cons, List.map_nil]); first | done | rfl | (simp only [List.length_drop, List.length_take]; rfl)) ?_
   with_reducible refine (chain_Purge.calls kj53 aM _ _ aI (rd aK aG) co bC gF _ ?side1 ?side2 A62.out).mono ?_
   (case side1 => exact cr_ aa)
   (case side2 => exact (Kd.R_reads' aa.out).2.1)
   rintro e w74 ⟨v300, rfl, ho0, hb⟩
   have HS2_ := (hb.cell (World.block_lt_of_cell? _ _ hHeld.2.2)).trans hHeld.2.2
   refine ⟨_, rfl, ?_⟩
   have n2_ := mk0 (Kd.R_lower (Kd.R_newB (Kd.R_new' ho0 (Kd.R_lt (r_ aa))) (g := ao) (o := .cells #[.int .i64 bJ, .string bK, .bool bM] 39 (0, 0)) (h_ ae)) (bz_ (b_ HB)))
   replace ad := mk0 (Kd.R_below (r_ ad) hb)
   replace aa := mk0 (Kd.R_elder' (r_ aa) (Kd.R_base ho0) hb)
   replace ab := mk0 (u_ ab hb)
   replace ac := mk0 (u_ ac hb)
   replace ae := mk0 (u_ ae hb)
   replace HB := mk0 (bt_ (b_ HB) hb)
   have bk := n2_
   clear n2_
   (try clear hb)
   (try clear hb2)
   (try clear hk)
   (try clear hi)
   (try clear ho0)
   refine hK.out _ _ ⟨bk_ ac 0, bk_ ac 1, HS2_⟩ (fun hHeld => ?_)
   clear hK K
   refine norm_ (a' := ?_) ?_ ?_
   rotate_left
   ·show Act.put _ (some 116) _ = _
    simp only [z_]
    rfl
   refine pq_ HT_.out 6 110 (bt 12 127) (h := ?_)
   refine pq_ HT_.out 7 117 (bt 12 255) (h := ?_)
   refine pq_ HT_.out 8 118 (bt 12 511) (h := ?_)
   refine one_ (i := 9) (N := some 14) (bt 12 1023) rfl rfl (one_of HT_.out (by kernel_rfl)) (by decide) (fun K hK => ?_)
   refine box_step ?hg (N := 14) ?hd (cs := #[.string (⟨#[]⟩ : ByteArray), .slice none 0 0]) (t := 30) ?hr ?_; (case hd => rfl); (case hg => rfl); (case hr => first | (go_simp; done) | (go_simp; rfl))
   intro aX hg w75 hbox hb
   have HS2_ := (hb.cell (World.block_lt_of_cell? _ _ hHeld.2.2)).trans hHeld.2.2
   have n8_ := mk0 (gz_ HB hg)
   have n9_ := mk0 (gz_ HB hg)
   have n10_ := mk0 (ne1_ ab hg)
   have n11_ := mk0 (ne2_ ab hg)
   have n12_ := mk0 (ne1_ ac hg)
   have n13_ := mk0 (ne2_ ac hg)
   have n14_ := mk0 (ne1_ ae hg)
   have n15_ := mk0 (ne2_ ae hg)
   replace ad := mk0 (Kd.R_below (r_ ad) hb)
   replace aa := mk0 (Kd.R_below (r_ aa) hb)
   replace bk := mk0 (Kd.R_below (r_ bk) hb)
   replace ab := mk0 (u_ ab hb)
   replace ac := mk0 (u_ ac hb)
   replace ae := mk0 (u_ ae hb)
   replace HB := mk0 (bt_ (b_ HB) hb)
   have al := mk0 (hbox)
   have kj := n8_
   have kk := n9_
   have bx := n10_
   have cG := n11_
   have be := n12_
   have cH := n13_
   have bz := n14_
   have cI := n15_
   clear n8_ n9_ n10_ n11_ n12_ n13_ n14_ n15_ hb hbox hg
   refine hK.out _ _ ⟨bk_ ac 0, bk_ ac 1, HS2_⟩ (fun hHeld => ?_)
   clear hK K
   refine norm_ (a' := ?_) ?_ ?_
   rotate_left
   ·show Act.put _ (some 14) _ = _
    simp only [z_]
    rfl
   exact norm_ (by simp only [putAll, Act.put, List.setIfInBounds_toArray, List.set_cons_zero, List.set_cons_succ]) (hCont (v300, aX) _ ⟨hHeld, (r2_ (Kd.R_mono bk.out (fun _ hk => ⟨hk.1.2, hk.2⟩))), (r2_ (Kd.R_mono aa.out (fun _ hk => ⟨hk.2, hk.1⟩))), (r_ ad), (h_ ab), (h_ ac), (h_ ae), (h_ al), kj.out, kk.out, bx.out, cG.out, be.out, cH.out, bz.out, cI.out, (b_ HB)⟩)
  ·skip
   refine box_step ?hg (N := 14) ?hd (cs := #[.string (⟨#[]⟩ : ByteArray), .slice none 0 0]) (t := 30) ?hr ?_; (case hd => rfl); (case hg => rfl); (case hr => first | (go_simp; done) | (go_simp; rfl))
   intro aX hg w74 hbox hb
   have HS2_ := (hb.cell (World.block_lt_of_cell? _ _ hHeld.2.2)).trans hHeld.2.2
   have n7_ := mk0 (gz_ HB hg)
   have n8_ := mk0 (gz_ HB hg)
   have n9_ := mk0 (ne1_ ab hg)
   have n10_ := mk0 (ne2_ ab hg)
   have n11_ := mk0 (ne1_ ac hg)
   have n12_ := mk0 (ne2_ ac hg)
   have n13_ := mk0 (ne1_ ae hg)
   have n14_ := mk0 (ne2_ ae hg)
   replace ad := mk0 (Kd.R_below (r_ ad) hb)
   replace aa := mk0 (Kd.R_below (r_ aa) hb)
   replace ab := mk0 (u_ ab hb)
   replace ac := mk0 (u_ ac hb)
   replace ae := mk0 (u_ ae hb)
   replace HB := mk0 (bt_ (b_ HB) hb)
   have al := mk0 (hbox)
   have kj := n7_
   have kk := n8_
   have bx := n9_
   have cG := n10_
   have be := n11_
   have cH := n12_
   have bz := n13_
   have cI := n14_
   clear n7_ n8_ n9_ n10_ n11_ n12_ n13_ n14_ hb hbox hg
   refine hK.out _ _ ⟨bk_ ac 0, bk_ ac 1, HS2_⟩ (fun hHeld => ?_)
   clear hK K
   refine norm_ (a' := ?_) ?_ ?_
   rotate_left
   ·show Act.put _ (some 14) _ = _
    simp only [z_]
    rfl
   refine one_ (i := 5) (N := some 116) (bt 12 575) rfl rfl (one_of HT_.out (by kernel_rfl)) (by decide) (fun K hK => ?_)
   refine goes_ Try.func22 (by kernel_rfl) rfl #[.agg #[.string aM, .slice aY aI.length aZ], .int .i64 (rd aK aG)] (by rfl) rfl rfl (by (try simp only [List.map_toArray, List.map_cons, List.map_nil]); first | done | rfl | (simp only [List.length_drop, List.length_take]; rfl)) ?_
   with_reducible refine (chain_Purge.calls kj53 aM _ _ aI (rd aK aG) co bC gF _ ?side1 ?side2 A62.out).mono ?_
   (case side1 => exact cr_ aa)
   (case side2 => exact (Kd.R_reads' aa.out).2.1)
   rintro e w75 ⟨v300, rfl, ho0, hb⟩
   have HS2_ := (hb.cell (World.block_lt_of_cell? _ _ hHeld.2.2)).trans hHeld.2.2
   refine ⟨_, rfl, ?_⟩
   have n2_ := mk0 (Kd.R_lower (Kd.R_newB (Kd.R_new' ho0 (Kd.R_lt (r_ aa))) (g := ao) (o := .cells #[.int .i64 bJ, .string bK, .bool bM] 39 (0, 0)) (h_ ae)) (bz_ (b_ HB)))
   replace ad := mk0 (Kd.R_below (r_ ad) hb)
   replace aa := mk0 (Kd.R_elder' (r_ aa) (Kd.R_base ho0) hb)
   replace ab := mk0 (u_ ab hb)
   replace ac := mk0 (u_ ac hb)
   replace ae := mk0 (u_ ae hb)
   replace al := mk0 (blk_below (g := aX) (o := .cells #[.string (⟨#[]⟩ : ByteArray), .slice none 0 0] 30 (0, 0)) (h_ al) hb)
   replace HB := mk0 (bt_ (b_ HB) hb)
   have bk := n2_
   clear n2_
   (try clear hb)
   (try clear hb2)
   (try clear hk)
   (try clear hi)
   (try clear ho0)
   refine hK.out _ _ ⟨bk_ ac 0, bk_ ac 1, HS2_⟩ (fun hHeld => ?_)
   clear hK K
   refine norm_ (a' := ?_) ?_ ?_
   rotate_left
   ·show Act.put _ (some 116) _ = _
    simp only [z_]
    rfl
   refine pq_ HT_.out 6 110 (bt 12 639) (h := ?_)
   refine pq_ HT_.out 7 117 (bt 12 767) (h := ?_)
   refine pq_ HT_.out 8 118 (bt 12 1023) (h := ?_)
   exact norm_ (by simp only [putAll, Act.put, List.setIfInBounds_toArray, List.set_cons_zero, List.set_cons_succ]) (hCont (v300, aX) _ ⟨hHeld, (r2_ (Kd.R_mono bk.out (fun _ hk => ⟨hk.1.2, hk.2⟩))), (r2_ (Kd.R_mono aa.out (fun _ hk => ⟨hk.2, hk.1⟩))), (r_ ad), (h_ ab), (h_ ac), (h_ ae), (h_ al), kj.out, kk.out, bx.out, cG.out, be.out, cH.out, bz.out, cI.out, (b_ HB)⟩)
 rintro ⟨v300, aX⟩ w76 ⟨hS_, h0_, h1_, h2_, h3_, h4_, h5_, h6_, h7_, h8_, h9_, h10_, h11_, h12_, h13_, h14_, h15_⟩
 have n0_ : Fc (Kd.R k39 39 w76 w.heap.size (fun k_ => some k_ ≠ (.slice aY aI.length aZ : Value).ownBlock ∧ k_ ≠ ao) v300 bC) := ⟨h0_⟩
 have n1_ : Fc (Kd.R k39 39 w76 w.heap.size (fun k_ => some k_ ≠ (v300 : Value).ownBlock ∧ k_ ≠ ao) (.slice aY aI.length aZ) aI) := ⟨h1_⟩
 have n2_ : Fc (Kd.R (Kd.int .i64) 3 w76 w.heap.size (fun _ => True) (.slice (some bQ) aK.length il) aK) := ⟨h2_⟩
 have n3_ : Fc (w76.heap[af]? = some (.cells #[.slice (some aw) ai.length c0_0, .slice A0_1 ah.length c0_1, .slice A0_2 aE.length c0_2, .slice A0_3 ay.length c0_3] 27 (0, 0))) := ⟨h3_⟩
 have n4_ : Fc (w76.heap[az]? = some (.cells #[.string aM, .slice aY aI.length aZ] 30 (0, 0))) := ⟨h4_⟩
 have n5_ : Fc (w76.heap[ao]? = some (.cells #[.int .i64 bJ, .string bK, .bool bM] 39 (0, 0))) := ⟨h5_⟩
 have n6_ : Fc (w76.heap[aX]? = some (.cells #[.string (⟨#[]⟩ : ByteArray), .slice none 0 0] 30 (0, 0))) := ⟨h6_⟩
 have n7_ : Fc (w.heap.size ≤ aX) := ⟨h7_⟩
 have n8_ : Fc (w.heap.size ≤ aX) := ⟨h8_⟩
 have n9_ : Fc (af ≠ aX) := ⟨h9_⟩
 have n10_ : Fc (aX ≠ af) := ⟨h10_⟩
 have n11_ : Fc (az ≠ aX) := ⟨h11_⟩
 have n12_ : Fc (aX ≠ az) := ⟨h12_⟩
 have n13_ : Fc (ao ≠ aX) := ⟨h13_⟩
 have n14_ : Fc (aX ≠ ao) := ⟨h14_⟩
 have n15_ : Fc (Below w.heap.size w w76) := ⟨h15_⟩
 clear ad aa ab ac ae HB h0_ h1_ h2_ h3_ h4_ h5_ h6_ h7_ h8_ h9_ h10_ h11_ h12_ h13_ h14_ h15_
 have bk := n0_
 have aa := n1_
 have ad := n2_
 have ab := n3_
 have ac := n4_
 have ae := n5_
 have al := n6_
 have kj := n7_
 have kk := n8_
 have bx := n9_
 have cG := n10_
 have be := n11_
 have cH := n12_
 have bz := n13_
 have cI := n14_
 have HB := n15_
 clear n0_ n1_ n2_ n3_ n4_ n5_ n6_ n7_ n8_ n9_ n10_ n11_ n12_ n13_ n14_ n15_
 have hHeld : w76.cell? ⟨az, 0, none⟩ = some (.string aM) ∧ w76.cell? ⟨az, 1, none⟩ = some (.slice aY aI.length aZ) ∧ w76.cell? (bQ.add (aG).toNat) = some (.int .i64 (rd aK aG)) := hS_
 obtain ⟨cj, ck, oB⟩ := Kd.R_slice bk.out
 (first | subst oB | (injection oB with f1_ f2_ f3_; have f4_ := f1_.symm; have f5_ := f3_.symm; clear f1_ f2_ f3_; subst f4_; subst f5_))
 refine norm_ (a' := ?_) ?_ ?_
 rotate_left
 ·simp only [putAll, Act.put, List.setIfInBounds_toArray, List.set_cons_zero, List.set_cons_succ]
  rfl
 refine one_ (i := 10) (N := none) (bt 12 2047) rfl rfl (one_of HT_.out (by kernel_rfl)) (by decide) (fun K hK => ?_)
 have hs77 : w76.cell? ⟨aX, 0, none⟩ = some (.string (⟨#[]⟩ : ByteArray)) := bk_ al 0
 have hfs77 := blk_frozen al.out 0
 have px := bx.out
 have py := be.out
 have pz := bz.out
 have pA := cG.out
 have pB := cH.out
 have pC := cI.out
 have hs79 : w76.cell? ⟨aX, 1, none⟩ = some (.slice none 0 0) := bk_ al 1
 have hfs79 := blk_frozen al.out 1
 have pD := bx.out
 have pE := be.out
 have pF := bz.out
 have pG := cG.out
 have pH := cH.out
 have pI := cI.out
 refine skip_ (w1 := ?_) (by rfl) rfl ?_ ?_
 rotate_left
 ·go_simp
  rfl
 refine hK.out _ _ ⟨(cf_ be.out (cf_ be.out hHeld.1)), (cf_ be.out (cf_ be.out hHeld.2.1)), ((cell_far (p := ⟨aX, _, none⟩) (by first | exact Kd.own_blk (Kd.R_ne ad.out al.out (by decide)) | (rw [add_block]; exact Kd.own_blk (Kd.R_ne ad.out al.out (by decide))) | (show (Addr.add _ _).block ≠ _; rw [add_block]; exact Kd.own_blk (Kd.R_ne ad.out al.out (by decide))) | (dsimp only; exact Kd.own_blk (Kd.R_ne ad.out al.out (by decide)))) _).trans (((cell_far (p := ⟨aX, _, none⟩) (by first | exact Kd.own_blk (Kd.R_ne ad.out al.out (by decide)) | (rw [add_block]; exact Kd.own_blk (Kd.R_ne ad.out al.out (by decide))) | (show (Addr.add _ _).block ≠ _; rw [add_block]; exact Kd.own_blk (Kd.R_ne ad.out al.out (by decide))) | (dsimp only; exact Kd.own_blk (Kd.R_ne ad.out al.out (by decide)))) _).trans hHeld.2.2)))⟩ (fun hHeld => ?_)
 clear hK K
 refine pq_ HT_.out 11 15 (bt 12 4095) (h := ?_)
 refine done_ (done_of HT_.out (by kernel_rfl)) ?_
 go_upto_if 119 with (first | ((with_reducible refine gate_dst (N := 17) rfl ?_); refine bx_ (N := 17) (cs := #[.int .i64 0, .string (⟨#[]⟩ : ByteArray), .bool false]) (t := 39) (h := ?_); intro aD hg w80 hbox hb; have n0_ := mk0 (Kd.R_below (r2_ (Kd.R_mono (Kd.R_far (p := ⟨aX, 1, none⟩) (Kd.R_far (p := ⟨aX, 0, none⟩) (Kd.R_types ad.out al.out (by decide)) (fun _ hk => hk.2) (.string co)) (fun _ hk => hk.2) (.slice cj bC.length ck)) (fun _ h_ => h_.1))) hb); have n1_ := mk0 (Kd.R_below (Kd.R_elderB (r2_ (Kd.R_mono (Kd.R_far (p := ⟨aX, 1, none⟩) (Kd.R_far (p := ⟨aX, 0, none⟩) (Kd.R_types aa.out al.out (by decide)) (fun _ hk => hk.2) (.string co)) (fun _ hk => hk.2) (.slice cj bC.length ck)) (fun _ h_ => h_.1))) aD (Nat.le_of_eq hg.symm)) hb); have n2_ := mk0 (Kd.R_below (Kd.R_elderB (r2_ (Kd.R_mono (Kd.R_far (p := ⟨aX, 1, none⟩) (Kd.R_far (p := ⟨aX, 0, none⟩) (Kd.R_types bk.out al.out (by decide)) (fun _ hk => hk.2) (.string co)) (fun _ hk => hk.2) (.slice cj bC.length ck)) (fun _ h_ => h_.1))) aD (Nat.le_of_eq hg.symm)) hb); have n9_ := mk0 (gz_ HB hg); have n10_ := mk0 (gz_ HB hg); have n11_ := mk0 ((by rw [hg]; exact Nat.ne_of_lt (blk_lt (g := af) (o := .cells #[.slice (some aw) ai.length c0_0, .slice A0_1 ah.length c0_1, .slice A0_2 aE.length c0_2, .slice A0_3 ay.length c0_3] 27 (0, 0)) (fa_ (fa_ (h_ ab) bx.out) bx.out)) : af ≠ aD)); have n12_ := mk0 ((by rw [hg]; exact Nat.ne_of_gt (blk_lt (g := af) (o := .cells #[.slice (some aw) ai.length c0_0, .slice A0_1 ah.length c0_1, .slice A0_2 aE.length c0_2, .slice A0_3 ay.length c0_3] 27 (0, 0)) (fa_ (fa_ (h_ ab) bx.out) bx.out)) : aD ≠ af)); have n13_ := mk0 ((by rw [hg]; exact Nat.ne_of_lt (blk_lt (g := az) (o := .cells #[.string aM, .slice aY aI.length aZ] 30 (0, 0)) (fa_ (fa_ (h_ ac) be.out) be.out)) : az ≠ aD)); have n14_ := mk0 ((by rw [hg]; exact Nat.ne_of_gt (blk_lt (g := az) (o := .cells #[.string aM, .slice aY aI.length aZ] 30 (0, 0)) (fa_ (fa_ (h_ ac) be.out) be.out)) : aD ≠ az)); have n15_ := mk0 ((by rw [hg]; exact Nat.ne_of_lt (blk_lt (g := ao) (o := .cells #[.int .i64 bJ, .string bK, .bool bM] 39 (0, 0)) (fa_ (fa_ (h_ ae) bz.out) bz.out)) : ao ≠ aD)); have n16_ := mk0 ((by rw [hg]; exact Nat.ne_of_gt (blk_lt (g := ao) (o := .cells #[.int .i64 bJ, .string bK, .bool bM] 39 (0, 0)) (fa_ (fa_ (h_ ae) bz.out) bz.out)) : aD ≠ ao)); have n17_ := mk0 ((by rw [hg]; exact Nat.ne_of_lt (blk_lt (g := aX) (o := .cells #[.string co, .slice cj bC.length ck] 30 (0, 0)) (pu_ (cs := #[.string co, .slice none 0 0]) (pu_ (cs := #[.string (⟨#[]⟩ : ByteArray), .slice none 0 0]) (h_ al)))) : aX ≠ aD)); have n18_ := mk0 ((by rw [hg]; exact Nat.ne_of_gt (blk_lt (g := aX) (o := .cells #[.string co, .slice cj bC.length ck] 30 (0, 0)) (pu_ (cs := #[.string co, .slice none 0 0]) (pu_ (cs := #[.string (⟨#[]⟩ : ByteArray), .slice none 0 0]) (h_ al)))) : aD ≠ aX)); replace ab := mk0 (blk_below (g := af) (o := .cells #[.slice (some aw) ai.length c0_0, .slice A0_1 ah.length c0_1, .slice A0_2 aE.length c0_2, .slice A0_3 ay.length c0_3] 27 (0, 0)) (fa_ (fa_ (h_ ab) bx.out) bx.out) hb); replace ac := mk0 (blk_below (g := az) (o := .cells #[.string aM, .slice aY aI.length aZ] 30 (0, 0)) (fa_ (fa_ (h_ ac) be.out) be.out) hb); replace ae := mk0 (blk_below (g := ao) (o := .cells #[.int .i64 bJ, .string bK, .bool bM] 39 (0, 0)) (fa_ (fa_ (h_ ae) bz.out) bz.out) hb); replace al := mk0 (blk_below (g := aX) (o := .cells #[.string co, .slice cj bC.length ck] 30 (0, 0)) (pu_ (cs := #[.string co, .slice none 0 0]) (pu_ (cs := #[.string (⟨#[]⟩ : ByteArray), .slice none 0 0]) (h_ al))) hb); replace HB := mk0 (bt_ (b_ HB) hb); have ak := mk0 (hbox); clear ad aa bk; have ad := n0_; have aa := n1_; have bk := n2_; have sW := n9_; have sX := n10_; have cJ := n11_; have gG := n12_; have cK := n13_; have gH := n14_; have cL := n15_; have gI := n16_; have cM := n17_; have gJ := n18_; clear n0_ n1_ n2_ n9_ n10_ n11_ n12_ n13_ n14_ n15_ n16_ n17_ n18_; clear hb hbox hg) | ((with_reducible refine gate_dst (N := 18) rfl ?_); refine bx_ (N := 18) (cs := #[.string (⟨#[]⟩ : ByteArray), .slice none 0 0]) (t := 30) (h := ?_); intro ba hg w81 hbox hb; have n10_ := mk0 (gz_ HB hg); have n11_ := mk0 (gz_ HB hg); have n12_ := mk0 (ne1_ ab hg); have n13_ := mk0 (ne2_ ab hg); have n14_ := mk0 (ne1_ ac hg); have n15_ := mk0 (ne2_ ac hg); have n16_ := mk0 (ne1_ ae hg); have n17_ := mk0 (ne2_ ae hg); have n18_ := mk0 (ne1_ al hg); have n19_ := mk0 (ne2_ al hg); have n20_ := mk0 ((by rw [hg]; exact Nat.ne_of_lt (blk_lt (g := aD) (o := .cells #[.int .i64 0, .string (⟨#[]⟩ : ByteArray), .bool false] 39 (0, 0)) (h_ ak)) : aD ≠ ba)); have n21_ := mk0 ((by rw [hg]; exact Nat.ne_of_gt (blk_lt (g := aD) (o := .cells #[.int .i64 0, .string (⟨#[]⟩ : ByteArray), .bool false] 39 (0, 0)) (h_ ak)) : ba ≠ aD)); replace ad := mk0 (Kd.R_below (r_ ad) hb); replace aa := mk0 (Kd.R_below (r_ aa) hb); replace bk := mk0 (Kd.R_below (r_ bk) hb); replace ab := mk0 (u_ ab hb); replace ac := mk0 (u_ ac hb); replace ae := mk0 (u_ ae hb); replace al := mk0 (u_ al hb); replace ak := mk0 (blk_below (g := aD) (o := .cells #[.int .i64 0, .string (⟨#[]⟩ : ByteArray), .bool false] 39 (0, 0)) (h_ ak) hb); replace HB := mk0 (bt_ (b_ HB) hb); have ap := mk0 (hbox); have kl := n10_; have sY := n11_; have bA := n12_; have iw := n13_; have eM := n14_; have ix := n15_; have eN := n16_; have iy := n17_; have eO := n18_; have iz := n19_; have ct := n20_; have ch := n21_; clear n10_ n11_ n12_ n13_ n14_ n15_ n16_ n17_ n18_ n19_ n20_ n21_; clear hb hbox hg))
 (try simp only [Act.put, List.setIfInBounds_toArray, List.set_cons_zero, List.set_cons_succ])
 go_cut [16] (fun v16 wc => ∃ (kq : Nat) (er : Int) (bs : Int) (bu : ByteArray) (bv : Bool) (bD : ByteArray) (bS : List (S39)) (u306001 : Value), v16 = .int .i64 er ∧ Fc (quorumlaw8_ChainTells.j7 kq aK aj en bP aG ep gF er ai ah aE ay aM aI bJ bK bM co bC bs bu bv bD bS = some r) ∧ Fc (kq ≤ kj53) ∧ Fc (Kd.R (Kd.int .i64) 3 wc w.heap.size (fun _ => True) (.slice (some bQ) aK.length il) aK) ∧ Fc (Kd.R k39 39 wc w.heap.size (fun k_ => some k_ ≠ ((.slice cj bC.length ck) : Value).ownBlock ∧ some k_ ≠ (u306001 : Value).ownBlock ∧ k_ ≠ ao ∧ k_ ≠ aD) (.slice aY aI.length aZ) aI) ∧ Fc (Kd.R k39 39 wc w.heap.size (fun k_ => some k_ ≠ ((.slice aY aI.length aZ) : Value).ownBlock ∧ some k_ ≠ (u306001 : Value).ownBlock ∧ k_ ≠ ao ∧ k_ ≠ aD) (.slice cj bC.length ck) bC) ∧ Fc (Kd.R k39 39 wc w.heap.size (fun k_ => some k_ ≠ ((.slice aY aI.length aZ) : Value).ownBlock ∧ some k_ ≠ ((.slice cj bC.length ck) : Value).ownBlock ∧ k_ ≠ ao ∧ k_ ≠ aD) u306001 bS) ∧ Fc (wc.heap[af]? = some (.cells #[(.slice (some aw) ai.length c0_0), (.slice A0_1 ah.length c0_1), (.slice A0_2 aE.length c0_2), (.slice A0_3 ay.length c0_3)] 27 (0, 0))) ∧ Fc (wc.heap[az]? = some (.cells #[.string aM, (.slice aY aI.length aZ)] 30 (0, 0))) ∧ Fc (wc.heap[ao]? = some (.cells #[.int .i64 bJ, .string bK, .bool bM] 39 (0, 0))) ∧ Fc (wc.heap[aX]? = some (.cells #[.string co, (.slice cj bC.length ck)] 30 (0, 0))) ∧ Fc (wc.heap[aD]? = some (.cells #[.int .i64 bs, .string bu, .bool bv] 39 (0, 0))) ∧ Fc (wc.heap[ba]? = some (.cells #[.string bD, u306001] 30 (0, 0))) ∧ Fc (Below w.heap.size w wc))
 case first =>
  have H := HC63.out
  clear HC63
  by_cases c82 : en = true
  rotate_left
  ·replace c82 := Bool.eq_false_iff.mpr c82
   subst c82
   rw [if_neg (show ¬ (false = true) by decide)] at H
   have H' := mk0 H
   clear H
   go_wp2
   go_meet
   case rel => exact ⟨_, (1), (0), ((⟨#[]⟩ : ByteArray)), (false), ((⟨#[]⟩ : ByteArray)), (([] : List (S39))), (.slice none 0 0), (by first | rfl | (simp; done) | (simp [*]; done)), H', ⟨by have := cC.out; have := br.out; have := cd.out; have := cn.out; have := dJ.out; have := cB.out; first | omega | exact Nat.le_refl _⟩, ⟨by (with_reducible repeat (first | apply Ra_ | apply Rn_ | apply Rd_)); exact ad.out⟩, ⟨by (with_reducible repeat (first | apply Ra_ | apply Rn_ | apply Rd_)); exact Kd.R_mono aa.out (fun _ hk => ⟨hk.1.1, ⟨(by simp [Value.ownBlock]), ⟨hk.1.2, hk.2⟩⟩⟩)⟩, ⟨by (with_reducible repeat (first | apply Ra_ | apply Rn_ | apply Rd_)); exact Kd.R_mono bk.out (fun _ hk => ⟨hk.1.1, ⟨(by simp [Value.ownBlock]), ⟨hk.1.2, hk.2⟩⟩⟩)⟩, ⟨by first | exact Kd.R_nil _ _ _ _ _ | exact Kd.N_nil _ _ _ _ _ | exact Kd.V_nil _ _ _ _ _ | exact Kd.Q_nil _ _ _ _ _ | exact Kd.S_nil _ _ _ _ _⟩, ⟨h_ ab⟩, ⟨h_ ac⟩, ⟨h_ ae⟩, ⟨h_ al⟩, ⟨h_ ak⟩, ⟨h_ ap⟩, ⟨b_ HB⟩⟩
  subst c82
  rw [if_pos rfl] at H
  by_cases c83 : 0 ≤ aj
  rotate_left
  ·rw [if_neg c83] at H
   exact absurd H (by simp)
  rw [if_pos c83] at H
  have mu : decide (0 ≤ aj) = true := decide_eq_true c83
  clear c83
  (first | rw [mu] | (simp only [i64_w, i32_w]; rw [mu]) | skip)
  by_cases c84 : aj < (ai.length : Int)
  rotate_left
  ·rw [if_neg c84] at H
   exact absurd H (by simp)
  rw [if_pos c84] at H
  have sZ : decide (aj < (ai.length : Int)) = true := decide_eq_true c84
  clear c84
  replace H := Option.bind_eq_some_iff.mp H
  obtain ⟨⟨bO, bW, ce, kF⟩, A850, H⟩ := H
  try dsimp only at H
  have A85 := mk0 A850
  clear A850
  have HC86 := mk0 H
  clear H
  try go_wp2
  replace ad := mk0 (Rd_ ad.out)
  replace aa := mk0 (Rd_ aa.out)
  replace bk := mk0 (Rd_ bk.out)
  replace ab := mk0 (bD_ ab.out)
  replace ac := mk0 (bD_ ac.out)
  replace ae := mk0 (bD_ ae.out)
  replace al := mk0 (bD_ al.out)
  replace ak := mk0 (bD_ ak.out)
  replace ap := mk0 (bD_ ap.out)
  replace HB := mk0 (b1_ HB.out)
  have mT : 0 ≤ (aj : Int) := of_decide_eq_true (by first | (with_reducible assumption) | assumption)
  have mU : aj < (ai.length : Int) := of_decide_eq_true (by first | (with_reducible assumption) | assumption)
  obtain ⟨oC, A306_1, c306_1, sq, hM, hN, km, kn⟩ := at_T30 dr.out aj mT mU
  have dn := hN
  have dp := hM
  obtain rfl : aw = oC := (by injection sq)
  replace hM := (bc_ HB hM :)
  replace hN := (bc_ HB hN :)
  have jb := mk0 kn
  have ko := mk0 km
  clear kn km
  replace mT := eq_true mT
  replace mU := eq_true mU
  have mV : 0 ≤ (aG : Int) := of_decide_eq_true (by first | (with_reducible assumption) | assumption)
  have mW : aG < (aK.length : Int) := of_decide_eq_true (by first | (with_reducible assumption) | assumption)
  obtain ⟨oD, sr, kp⟩ := Kd.at_int (Kd.R_reads' ad.out).2.2 aG mV mW
  obtain rfl : bQ = oD := (by injection sr)
  replace mV := eq_true mV
  replace mW := eq_true mW
  refine start_ (n := 16) (S := fun w' => w'.cell? ⟨af, 0, none⟩ = some (.slice (some aw) ai.length c0_0) ∧ w'.cell? ⟨af, 1, none⟩ = some (.slice A0_1 ah.length c0_1) ∧ w'.cell? ⟨af, 2, none⟩ = some (.slice A0_2 aE.length c0_2) ∧ w'.cell? ⟨af, 3, none⟩ = some (.slice A0_3 ay.length c0_3) ∧ w'.cell? (aw.add ((aj).toNat * 2)) = some (.string ((rd_T30 ai aj).f0)) ∧ w'.cell? ⟨(aw.add ((aj).toNat * 2)).block, (aw.add ((aj).toNat * 2)).off + 1, none⟩ = some (.slice A306_1 ((rd_T30 ai aj).f1).length c306_1) ∧ w'.cell? (bQ.add (aG).toNat) = some (.int .i64 (rd aK aG))) (ds := []) (bt 16 0) (by kernel_rfl) rfl rfl ⟨bk_ ab 0, bk_ ab 1, bk_ ab 2, bk_ ab 3, (bc_ HB dp :), (bc_ HB dn :), kp⟩ (fun hHeld => ?_); refine with_tabW quorumlaw8_ChainTells.tab25 quorumlaw8_ChainTells.bits25 (fun HT_ HW_ => ?_)
  generalize w81.drew = w87 at ad aa bk ab ac ae al ak ap HB jb hM hN kp hHeld ⊢
  refine pq_ HT_.out 0 121 (bt 16 1) (h := ?_)
  refine pq_ HT_.out 2 123 (bt 16 5) (h := ?_)
  refine pq_ HT_.out 5 126 (bt 16 37) (h := ?_)
  refine pq_ HT_.out 6 127 (bt 16 101) (h := ?_)
  refine pq_ HT_.out 7 128 (bt 16 229) (h := ?_)
  refine tq7_ HT_.out HW_.out 1 122 (bt 16 231) hHeld (h := ?_)
  refine pq_ HT_.out 3 124 (bt 16 239) (h := ?_)
  refine tq7_ HT_.out HW_.out 4 125 (bt 16 255) hHeld (h := ?_)
  refine tq7_ HT_.out HW_.out 8 129 (bt 16 511) hHeld (h := ?_)
  refine join_ (σ := Nat) 2 (bt 16 16383) (fun s_ => [(130, .tuple #[.agg #[.int .i64 bO, .string bW, .bool ce], .bool kF]), (19, .pointer (some ⟨s_, 0, none⟩)), (120, .tuple #[.agg #[.int .i64 bO, .string bW, .bool ce], .bool kF]), (131, .agg #[.int .i64 bO, .string bW, .bool ce]), (132, .bool kF)]) (fun s_ w' => (w'.cell? ⟨af, 0, none⟩ = some (.slice (some aw) ai.length c0_0) ∧ w'.cell? ⟨af, 1, none⟩ = some (.slice A0_1 ah.length c0_1) ∧ w'.cell? ⟨af, 2, none⟩ = some (.slice A0_2 aE.length c0_2) ∧ w'.cell? ⟨af, 3, none⟩ = some (.slice A0_3 ay.length c0_3) ∧ w'.cell? (aw.add ((aj).toNat * 2)) = some (.string ((rd_T30 ai aj).f0)) ∧ w'.cell? ⟨(aw.add ((aj).toNat * 2)).block, (aw.add ((aj).toNat * 2)).off + 1, none⟩ = some (.slice A306_1 ((rd_T30 ai aj).f1).length c306_1) ∧ w'.cell? (bQ.add (aG).toNat) = some (.int .i64 (rd aK aG))) ∧ (Kd.R k39 39 w' w.heap.size (fun k_ => some k_ ≠ (.slice aY aI.length aZ : Value).ownBlock ∧ k_ ≠ ao ∧ k_ ≠ aD ∧ k_ ≠ s_) (.slice cj bC.length ck) bC) ∧ (Kd.R k39 39 w' w.heap.size (fun k_ => some k_ ≠ (.slice cj bC.length ck : Value).ownBlock ∧ k_ ≠ ao ∧ k_ ≠ aD ∧ k_ ≠ s_) (.slice aY aI.length aZ) aI) ∧ (Kd.R (Kd.int .i64) 3 w' w.heap.size (fun _ => True) (.slice (some bQ) aK.length il) aK) ∧ (w'.heap[af]? = some (.cells #[.slice (some aw) ai.length c0_0, .slice A0_1 ah.length c0_1, .slice A0_2 aE.length c0_2, .slice A0_3 ay.length c0_3] 27 (0, 0))) ∧ (w'.heap[az]? = some (.cells #[.string aM, .slice aY aI.length aZ] 30 (0, 0))) ∧ (w'.heap[ao]? = some (.cells #[.int .i64 bJ, .string bK, .bool bM] 39 (0, 0))) ∧ (w'.heap[aX]? = some (.cells #[.string co, .slice cj bC.length ck] 30 (0, 0))) ∧ (w'.heap[aD]? = some (.cells #[.int .i64 0, .string (⟨#[]⟩ : ByteArray), .bool false] 39 (0, 0))) ∧ (w'.heap[ba]? = some (.cells #[.string (⟨#[]⟩ : ByteArray), .slice none 0 0] 30 (0, 0))) ∧ (w'.heap[s_]? = some (.cells #[.int .i64 0, .string (⟨#[]⟩ : ByteArray), .bool false] 39 (0, 0))) ∧ (w.heap.size ≤ s_) ∧ (w.heap.size ≤ s_) ∧ (af ≠ s_) ∧ (s_ ≠ af) ∧ (az ≠ s_) ∧ (s_ ≠ az) ∧ (ao ≠ s_) ∧ (s_ ≠ ao) ∧ (aX ≠ s_) ∧ (s_ ≠ aX) ∧ (aD ≠ s_) ∧ (s_ ≠ aD) ∧ (ba ≠ s_) ∧ (s_ ≠ ba) ∧ (Below w.heap.size w w')) ?_ ?_
  rotate_left
  ·intro hCont
   refine two_ (i := 9) (j := 13) (Ni := some 130) (Nj := some 19) (bt 16 1023) (bt 16 8703) rfl rfl rfl rfl (two_of HT_.out (by kernel_rfl)) (by decide) (by decide) (fun K hK => ?_) (fun K hK => ?_)
   ·skip
    refine goes_ Try.func23 (by kernel_rfl) rfl #[.agg #[.string ((rd_T30 ai aj).f0), .slice A306_1 ((rd_T30 ai aj).f1).length c306_1], .int .i64 (rd aK aG)] (by rfl) rfl rfl (by (try simp only [List.map_toArray, List.map_cons, List.map_nil]); first | done | rfl | (simp only [List.length_drop, List.length_take]; rfl)) ?_
    with_reducible refine (quorumref8_At.calls kj53 ((rd_T30 ai aj).f0) _ _ ((rd_T30 ai aj).f1) (rd aK aG) bO bW ce kF _ ?side1 ?side2 A85.out).mono ?_
    (case side1 => exact cb_ jb HB)
    (case side2 => exact ko.out)
    rintro e w88 ⟨rfl, hb⟩
    have HS6_ := (hb.cell (World.block_lt_of_cell? _ _ hHeld.2.2.2.2.2.2)).trans hHeld.2.2.2.2.2.2
    refine ⟨_, rfl, ?_⟩
    replace ad := mk0 (Kd.R_below (r_ ad) hb)
    replace aa := mk0 (Kd.R_below (r_ aa) hb)
    replace bk := mk0 (Kd.R_below (r_ bk) hb)
    replace ab := mk0 (u_ ab hb)
    replace ac := mk0 (u_ ac hb)
    replace ae := mk0 (u_ ae hb)
    replace al := mk0 (u_ al hb)
    replace ak := mk0 (blk_below (g := aD) (o := .cells #[.int .i64 0, .string (⟨#[]⟩ : ByteArray), .bool false] 39 (0, 0)) (h_ ak) hb)
    replace ap := mk0 (blk_below (g := ba) (o := .cells #[.string (⟨#[]⟩ : ByteArray), .slice none 0 0] 30 (0, 0)) (h_ ap) hb)
    replace HB := mk0 (bt_ (b_ HB) hb)
    (try clear hb)
    (try clear hb2)
    (try clear hk)
    (try clear hi)
    refine hK.out _ _ ⟨bk_ ab 0, bk_ ab 1, bk_ ab 2, bk_ ab 3, (bc_ HB dp :), (bc_ HB dn :), HS6_⟩ (fun hHeld => ?_)
    clear hK K
    refine norm_ (a' := ?_) ?_ ?_
    rotate_left
    ·show Act.put _ (some 130) _ = _
     simp only [z_]
     rfl
    refine pq_ HT_.out 10 120 (bt 16 2047) (h := ?_)
    refine pq_ HT_.out 11 131 (bt 16 4095) (h := ?_)
    refine pq_ HT_.out 12 132 (bt 16 8191) (h := ?_)
    refine one_ (i := 13) (N := some 19) (bt 16 16383) rfl rfl (one_of HT_.out (by kernel_rfl)) (by decide) (fun K hK => ?_)
    refine box_step ?hg (N := 19) ?hd (cs := #[.int .i64 0, .string (⟨#[]⟩ : ByteArray), .bool false]) (t := 39) ?hr ?_; (case hd => rfl); (case hg => rfl); (case hr => first | (go_simp; done) | (go_simp; rfl))
    intro am hg w89 hbox hb
    have HS6_ := (hb.cell (World.block_lt_of_cell? _ _ hHeld.2.2.2.2.2.2)).trans hHeld.2.2.2.2.2.2
    have n11_ := mk0 (gz_ HB hg)
    have n12_ := mk0 (gz_ HB hg)
    have n13_ := mk0 (ne1_ ab hg)
    have n14_ := mk0 (ne2_ ab hg)
    have n15_ := mk0 (ne1_ ac hg)
    have n16_ := mk0 (ne2_ ac hg)
    have n17_ := mk0 (ne1_ ae hg)
    have n18_ := mk0 (ne2_ ae hg)
    have n19_ := mk0 (ne1_ al hg)
    have n20_ := mk0 (ne2_ al hg)
    have n21_ := mk0 ((by rw [hg]; exact Nat.ne_of_lt (blk_lt (g := aD) (o := .cells #[.int .i64 0, .string (⟨#[]⟩ : ByteArray), .bool false] 39 (0, 0)) (h_ ak)) : aD ≠ am))
    have n22_ := mk0 ((by rw [hg]; exact Nat.ne_of_gt (blk_lt (g := aD) (o := .cells #[.int .i64 0, .string (⟨#[]⟩ : ByteArray), .bool false] 39 (0, 0)) (h_ ak)) : am ≠ aD))
    have n23_ := mk0 ((by rw [hg]; exact Nat.ne_of_lt (blk_lt (g := ba) (o := .cells #[.string (⟨#[]⟩ : ByteArray), .slice none 0 0] 30 (0, 0)) (h_ ap)) : ba ≠ am))
    have n24_ := mk0 ((by rw [hg]; exact Nat.ne_of_gt (blk_lt (g := ba) (o := .cells #[.string (⟨#[]⟩ : ByteArray), .slice none 0 0] 30 (0, 0)) (h_ ap)) : am ≠ ba))
    replace ad := mk0 (Kd.R_below (r_ ad) hb)
    replace aa := mk0 (Kd.R_below (Kd.R_elderB (r_ aa) am (Nat.le_of_eq hg.symm)) hb)
    replace bk := mk0 (Kd.R_below (Kd.R_elderB (r_ bk) am (Nat.le_of_eq hg.symm)) hb)
    replace ab := mk0 (u_ ab hb)
    replace ac := mk0 (u_ ac hb)
    replace ae := mk0 (u_ ae hb)
    replace al := mk0 (u_ al hb)
    replace ak := mk0 (blk_below (g := aD) (o := .cells #[.int .i64 0, .string (⟨#[]⟩ : ByteArray), .bool false] 39 (0, 0)) (h_ ak) hb)
    replace ap := mk0 (blk_below (g := ba) (o := .cells #[.string (⟨#[]⟩ : ByteArray), .slice none 0 0] 30 (0, 0)) (h_ ap) hb)
    replace HB := mk0 (bt_ (b_ HB) hb)
    have aW := mk0 (hbox)
    have eT := n11_
    have kr := n12_
    have aJ := n13_
    have cu := n14_
    have bo := n15_
    have cv := n16_
    have bp := n17_
    have cw := n18_
    have bq := n19_
    have cx := n20_
    have bf := n21_
    have aT := n22_
    have bj := n23_
    have bX := n24_
    clear n11_ n12_ n13_ n14_ n15_ n16_ n17_ n18_ n19_ n20_ n21_ n22_ n23_ n24_ hb hbox hg
    refine hK.out _ _ ⟨bk_ ab 0, bk_ ab 1, bk_ ab 2, bk_ ab 3, (bc_ HB dp :), (bc_ HB dn :), HS6_⟩ (fun hHeld => ?_)
    clear hK K
    refine norm_ (a' := ?_) ?_ ?_
    rotate_left
    ·show Act.put _ (some 19) _ = _
     simp only [z_]
     rfl
    exact norm_ (by simp only [putAll, Act.put, List.setIfInBounds_toArray, List.set_cons_zero, List.set_cons_succ]) (hCont (am) _ ⟨hHeld, (r2_ (Kd.R_mono bk.out (fun _ hk => ⟨hk.1.1.1, ⟨hk.1.1.2, ⟨hk.1.2, hk.2⟩⟩⟩))), (r2_ (Kd.R_mono aa.out (fun _ hk => ⟨hk.1.1.1, ⟨hk.1.1.2, ⟨hk.1.2, hk.2⟩⟩⟩))), (r_ ad), (h_ ab), (h_ ac), (h_ ae), (h_ al), (h_ ak), (h_ ap), (h_ aW), eT.out, kr.out, aJ.out, cu.out, bo.out, cv.out, bp.out, cw.out, bq.out, cx.out, bf.out, aT.out, bj.out, bX.out, (b_ HB)⟩)
   ·skip
    refine box_step ?hg (N := 19) ?hd (cs := #[.int .i64 0, .string (⟨#[]⟩ : ByteArray), .bool false]) (t := 39) ?hr ?_; (case hd => rfl); (case hg => rfl); (case hr => first | (go_simp; done) | (go_simp; rfl))
    intro am hg w88 hbox hb
    have HS6_ := (hb.cell (World.block_lt_of_cell? _ _ hHeld.2.2.2.2.2.2)).trans hHeld.2.2.2.2.2.2
    have n11_ := mk0 (gz_ HB hg)
    have n12_ := mk0 (gz_ HB hg)
    have n13_ := mk0 (ne1_ ab hg)
    have n14_ := mk0 (ne2_ ab hg)
    have n15_ := mk0 (ne1_ ac hg)
    have n16_ := mk0 (ne2_ ac hg)
    have n17_ := mk0 (ne1_ ae hg)
    have n18_ := mk0 (ne2_ ae hg)
    have n19_ := mk0 (ne1_ al hg)
    have n20_ := mk0 (ne2_ al hg)
    have n21_ := mk0 ((by rw [hg]; exact Nat.ne_of_lt (blk_lt (g := aD) (o := .cells #[.int .i64 0, .string (⟨#[]⟩ : ByteArray), .bool false] 39 (0, 0)) (h_ ak)) : aD ≠ am))
    have n22_ := mk0 ((by rw [hg]; exact Nat.ne_of_gt (blk_lt (g := aD) (o := .cells #[.int .i64 0, .string (⟨#[]⟩ : ByteArray), .bool false] 39 (0, 0)) (h_ ak)) : am ≠ aD))
    have n23_ := mk0 ((by rw [hg]; exact Nat.ne_of_lt (blk_lt (g := ba) (o := .cells #[.string (⟨#[]⟩ : ByteArray), .slice none 0 0] 30 (0, 0)) (h_ ap)) : ba ≠ am))
    have n24_ := mk0 ((by rw [hg]; exact Nat.ne_of_gt (blk_lt (g := ba) (o := .cells #[.string (⟨#[]⟩ : ByteArray), .slice none 0 0] 30 (0, 0)) (h_ ap)) : am ≠ ba))
    replace ad := mk0 (Kd.R_below (r_ ad) hb)
    replace aa := mk0 (Kd.R_below (Kd.R_elderB (r_ aa) am (Nat.le_of_eq hg.symm)) hb)
    replace bk := mk0 (Kd.R_below (Kd.R_elderB (r_ bk) am (Nat.le_of_eq hg.symm)) hb)
    replace ab := mk0 (u_ ab hb)
    replace ac := mk0 (u_ ac hb)
    replace ae := mk0 (u_ ae hb)
    replace al := mk0 (u_ al hb)
    replace ak := mk0 (blk_below (g := aD) (o := .cells #[.int .i64 0, .string (⟨#[]⟩ : ByteArray), .bool false] 39 (0, 0)) (h_ ak) hb)
    replace ap := mk0 (blk_below (g := ba) (o := .cells #[.string (⟨#[]⟩ : ByteArray), .slice none 0 0] 30 (0, 0)) (h_ ap) hb)
    replace HB := mk0 (bt_ (b_ HB) hb)
    have aW := mk0 (hbox)
    have eT := n11_
    have kr := n12_
    have aJ := n13_
    have cu := n14_
    have bo := n15_
    have cv := n16_
    have bp := n17_
    have cw := n18_
    have bq := n19_
    have cx := n20_
    have bf := n21_
    have aT := n22_
    have bj := n23_
    have bX := n24_
    clear n11_ n12_ n13_ n14_ n15_ n16_ n17_ n18_ n19_ n20_ n21_ n22_ n23_ n24_ hb hbox hg
    refine hK.out _ _ ⟨bk_ ab 0, bk_ ab 1, bk_ ab 2, bk_ ab 3, (bc_ HB dp :), (bc_ HB dn :), HS6_⟩ (fun hHeld => ?_)
    clear hK K
    refine norm_ (a' := ?_) ?_ ?_
    rotate_left
    ·show Act.put _ (some 19) _ = _
     simp only [z_]
     rfl
    refine one_ (i := 9) (N := some 130) (bt 16 9215) rfl rfl (one_of HT_.out (by kernel_rfl)) (by decide) (fun K hK => ?_)
    refine goes_ Try.func23 (by kernel_rfl) rfl #[.agg #[.string ((rd_T30 ai aj).f0), .slice A306_1 ((rd_T30 ai aj).f1).length c306_1], .int .i64 (rd aK aG)] (by rfl) rfl rfl (by (try simp only [List.map_toArray, List.map_cons, List.map_nil]); first | done | rfl | (simp only [List.length_drop, List.length_take]; rfl)) ?_
    with_reducible refine (quorumref8_At.calls kj53 ((rd_T30 ai aj).f0) _ _ ((rd_T30 ai aj).f1) (rd aK aG) bO bW ce kF _ ?side1 ?side2 A85.out).mono ?_
    (case side1 => exact cb_ jb HB)
    (case side2 => exact ko.out)
    rintro e w89 ⟨rfl, hb⟩
    have HS6_ := (hb.cell (World.block_lt_of_cell? _ _ hHeld.2.2.2.2.2.2)).trans hHeld.2.2.2.2.2.2
    refine ⟨_, rfl, ?_⟩
    replace ad := mk0 (Kd.R_below (r_ ad) hb)
    replace aa := mk0 (Kd.R_below (r_ aa) hb)
    replace bk := mk0 (Kd.R_below (r_ bk) hb)
    replace ab := mk0 (u_ ab hb)
    replace ac := mk0 (u_ ac hb)
    replace ae := mk0 (u_ ae hb)
    replace al := mk0 (u_ al hb)
    replace ak := mk0 (blk_below (g := aD) (o := .cells #[.int .i64 0, .string (⟨#[]⟩ : ByteArray), .bool false] 39 (0, 0)) (h_ ak) hb)
    replace ap := mk0 (blk_below (g := ba) (o := .cells #[.string (⟨#[]⟩ : ByteArray), .slice none 0 0] 30 (0, 0)) (h_ ap) hb)
    replace aW := mk0 (blk_below (g := am) (o := .cells #[.int .i64 0, .string (⟨#[]⟩ : ByteArray), .bool false] 39 (0, 0)) (h_ aW) hb)
    replace HB := mk0 (bt_ (b_ HB) hb)
    (try clear hb)
    (try clear hb2)
    (try clear hk)
    (try clear hi)
    refine hK.out _ _ ⟨bk_ ab 0, bk_ ab 1, bk_ ab 2, bk_ ab 3, (bc_ HB dp :), (bc_ HB dn :), HS6_⟩ (fun hHeld => ?_)
    clear hK K
    refine norm_ (a' := ?_) ?_ ?_
    rotate_left
    ·show Act.put _ (some 130) _ = _
     simp only [z_]
     rfl
    refine pq_ HT_.out 10 120 (bt 16 10239) (h := ?_)
    refine pq_ HT_.out 11 131 (bt 16 12287) (h := ?_)
    refine pq_ HT_.out 12 132 (bt 16 16383) (h := ?_)
    exact norm_ (by simp only [putAll, Act.put, List.setIfInBounds_toArray, List.set_cons_zero, List.set_cons_succ]) (hCont (am) _ ⟨hHeld, (r2_ (Kd.R_mono bk.out (fun _ hk => ⟨hk.1.1.1, ⟨hk.1.1.2, ⟨hk.1.2, hk.2⟩⟩⟩))), (r2_ (Kd.R_mono aa.out (fun _ hk => ⟨hk.1.1.1, ⟨hk.1.1.2, ⟨hk.1.2, hk.2⟩⟩⟩))), (r_ ad), (h_ ab), (h_ ac), (h_ ae), (h_ al), (h_ ak), (h_ ap), (h_ aW), eT.out, kr.out, aJ.out, cu.out, bo.out, cv.out, bp.out, cw.out, bq.out, cx.out, bf.out, aT.out, bj.out, bX.out, (b_ HB)⟩)
  rintro am w90 ⟨hS_, h0_, h1_, h2_, h3_, h4_, h5_, h6_, h7_, h8_, h9_, h10_, h11_, h12_, h13_, h14_, h15_, h16_, h17_, h18_, h19_, h20_, h21_, h22_, h23_, h24_⟩
  have n0_ : Fc (Kd.R k39 39 w90 w.heap.size (fun k_ => some k_ ≠ (.slice aY aI.length aZ : Value).ownBlock ∧ k_ ≠ ao ∧ k_ ≠ aD ∧ k_ ≠ am) (.slice cj bC.length ck) bC) := ⟨h0_⟩
  have n1_ : Fc (Kd.R k39 39 w90 w.heap.size (fun k_ => some k_ ≠ (.slice cj bC.length ck : Value).ownBlock ∧ k_ ≠ ao ∧ k_ ≠ aD ∧ k_ ≠ am) (.slice aY aI.length aZ) aI) := ⟨h1_⟩
  have n2_ : Fc (Kd.R (Kd.int .i64) 3 w90 w.heap.size (fun _ => True) (.slice (some bQ) aK.length il) aK) := ⟨h2_⟩
  have n3_ : Fc (w90.heap[af]? = some (.cells #[.slice (some aw) ai.length c0_0, .slice A0_1 ah.length c0_1, .slice A0_2 aE.length c0_2, .slice A0_3 ay.length c0_3] 27 (0, 0))) := ⟨h3_⟩
  have n4_ : Fc (w90.heap[az]? = some (.cells #[.string aM, .slice aY aI.length aZ] 30 (0, 0))) := ⟨h4_⟩
  have n5_ : Fc (w90.heap[ao]? = some (.cells #[.int .i64 bJ, .string bK, .bool bM] 39 (0, 0))) := ⟨h5_⟩
  have n6_ : Fc (w90.heap[aX]? = some (.cells #[.string co, .slice cj bC.length ck] 30 (0, 0))) := ⟨h6_⟩
  have n7_ : Fc (w90.heap[aD]? = some (.cells #[.int .i64 0, .string (⟨#[]⟩ : ByteArray), .bool false] 39 (0, 0))) := ⟨h7_⟩
  have n8_ : Fc (w90.heap[ba]? = some (.cells #[.string (⟨#[]⟩ : ByteArray), .slice none 0 0] 30 (0, 0))) := ⟨h8_⟩
  have n9_ : Fc (w90.heap[am]? = some (.cells #[.int .i64 0, .string (⟨#[]⟩ : ByteArray), .bool false] 39 (0, 0))) := ⟨h9_⟩
  have n10_ : Fc (w.heap.size ≤ am) := ⟨h10_⟩
  have n11_ : Fc (w.heap.size ≤ am) := ⟨h11_⟩
  have n12_ : Fc (af ≠ am) := ⟨h12_⟩
  have n13_ : Fc (am ≠ af) := ⟨h13_⟩
  have n14_ : Fc (az ≠ am) := ⟨h14_⟩
  have n15_ : Fc (am ≠ az) := ⟨h15_⟩
  have n16_ : Fc (ao ≠ am) := ⟨h16_⟩
  have n17_ : Fc (am ≠ ao) := ⟨h17_⟩
  have n18_ : Fc (aX ≠ am) := ⟨h18_⟩
  have n19_ : Fc (am ≠ aX) := ⟨h19_⟩
  have n20_ : Fc (aD ≠ am) := ⟨h20_⟩
  have n21_ : Fc (am ≠ aD) := ⟨h21_⟩
  have n22_ : Fc (ba ≠ am) := ⟨h22_⟩
  have n23_ : Fc (am ≠ ba) := ⟨h23_⟩
  have n24_ : Fc (Below w.heap.size w w90) := ⟨h24_⟩
  clear ad aa bk ab ac ae al ak ap HB h0_ h1_ h2_ h3_ h4_ h5_ h6_ h7_ h8_ h9_ h10_ h11_ h12_ h13_ h14_ h15_ h16_ h17_ h18_ h19_ h20_ h21_ h22_ h23_ h24_
  have bk := n0_
  have aa := n1_
  have ad := n2_
  have ab := n3_
  have ac := n4_
  have ae := n5_
  have al := n6_
  have ak := n7_
  have ap := n8_
  have aW := n9_
  have eT := n10_
  have kr := n11_
  have aJ := n12_
  have cu := n13_
  have bo := n14_
  have cv := n15_
  have bp := n16_
  have cw := n17_
  have bq := n18_
  have cx := n19_
  have bf := n20_
  have aT := n21_
  have bj := n22_
  have bX := n23_
  have HB := n24_
  clear n0_ n1_ n2_ n3_ n4_ n5_ n6_ n7_ n8_ n9_ n10_ n11_ n12_ n13_ n14_ n15_ n16_ n17_ n18_ n19_ n20_ n21_ n22_ n23_ n24_
  have hHeld : w90.cell? ⟨af, 0, none⟩ = some (.slice (some aw) ai.length c0_0) ∧ w90.cell? ⟨af, 1, none⟩ = some (.slice A0_1 ah.length c0_1) ∧ w90.cell? ⟨af, 2, none⟩ = some (.slice A0_2 aE.length c0_2) ∧ w90.cell? ⟨af, 3, none⟩ = some (.slice A0_3 ay.length c0_3) ∧ w90.cell? (aw.add ((aj).toNat * 2)) = some (.string ((rd_T30 ai aj).f0)) ∧ w90.cell? ⟨(aw.add ((aj).toNat * 2)).block, (aw.add ((aj).toNat * 2)).off + 1, none⟩ = some (.slice A306_1 ((rd_T30 ai aj).f1).length c306_1) ∧ w90.cell? (bQ.add (aG).toNat) = some (.int .i64 (rd aK aG)) := hS_
  refine norm_ (a' := ?_) ?_ ?_
  rotate_left
  ·simp only [putAll, Act.put, List.setIfInBounds_toArray, List.set_cons_zero, List.set_cons_succ]
   rfl
  refine one_ (i := 14) (N := none) (bt 16 32767) rfl rfl (one_of HT_.out (by kernel_rfl)) (by decide) (fun K hK => ?_)
  have hs91 : w90.cell? ⟨am, 0, none⟩ = some (.int .i64 0) := bk_ aW 0
  have hfs91 := blk_frozen aW.out 0
  have pJ := aJ.out
  have pK := bo.out
  have pL := bp.out
  have pM := bq.out
  have pN := bf.out
  have pO := bj.out
  have pP := cu.out
  have pQ := cv.out
  have pR := cw.out
  have pS := cx.out
  have pT := aT.out
  have pU := bX.out
  have hs92 : w90.cell? ⟨am, 1, none⟩ = some (.string (⟨#[]⟩ : ByteArray)) := bk_ aW 1
  have hfs92 := blk_frozen aW.out 1
  have pV := aJ.out
  have pW := bo.out
  have pX := bp.out
  have pY := bq.out
  have pZ := bf.out
  have qa := bj.out
  have qb := cu.out
  have qc := cv.out
  have qd := cw.out
  have qe := cx.out
  have qf := aT.out
  have qg := bX.out
  have hs93 : w90.cell? ⟨am, 2, none⟩ = some (.bool false) := bk_ aW 2
  have hfs93 := blk_frozen aW.out 2
  have qh := aJ.out
  have qi := bo.out
  have qj := bp.out
  have qk := bq.out
  have ql := bf.out
  have qm := bj.out
  have qn := cu.out
  have qo := cv.out
  have qp := cw.out
  have qq := cx.out
  have qr := aT.out
  have qs := bX.out
  refine skip_ (w1 := ?_) (by rfl) rfl ?_ ?_
  rotate_left
  ·go_simp
   rfl
  refine hK.out _ _ ⟨(cf_ aJ.out ((cf_ aJ.out (cf_ aJ.out hHeld.1)))), (cf_ aJ.out ((cf_ aJ.out (cf_ aJ.out hHeld.2.1)))), (cf_ aJ.out ((cf_ aJ.out (cf_ aJ.out hHeld.2.2.1)))), (cf_ aJ.out ((cf_ aJ.out (cf_ aJ.out hHeld.2.2.2.1)))), (cf_ (nb_ dp eT) ((cf_ (nb_ dp eT) (cf_ (nb_ dp eT) hHeld.2.2.2.2.1)))), (cf_ (nb_ dn eT) ((cf_ (nb_ dn eT) (cf_ (nb_ dn eT) hHeld.2.2.2.2.2.1)))), ((cell_far (p := ⟨am, _, none⟩) (by first | exact Kd.own_blk (Kd.R_ne ad.out aW.out (by decide)) | (rw [add_block]; exact Kd.own_blk (Kd.R_ne ad.out aW.out (by decide))) | (show (Addr.add _ _).block ≠ _; rw [add_block]; exact Kd.own_blk (Kd.R_ne ad.out aW.out (by decide))) | (dsimp only; exact Kd.own_blk (Kd.R_ne ad.out aW.out (by decide)))) _).trans (((cell_far (p := ⟨am, _, none⟩) (by first | exact Kd.own_blk (Kd.R_ne ad.out aW.out (by decide)) | (rw [add_block]; exact Kd.own_blk (Kd.R_ne ad.out aW.out (by decide))) | (show (Addr.add _ _).block ≠ _; rw [add_block]; exact Kd.own_blk (Kd.R_ne ad.out aW.out (by decide))) | (dsimp only; exact Kd.own_blk (Kd.R_ne ad.out aW.out (by decide)))) _).trans (((cell_far (p := ⟨am, _, none⟩) (by first | exact Kd.own_blk (Kd.R_ne ad.out aW.out (by decide)) | (rw [add_block]; exact Kd.own_blk (Kd.R_ne ad.out aW.out (by decide))) | (show (Addr.add _ _).block ≠ _; rw [add_block]; exact Kd.own_blk (Kd.R_ne ad.out aW.out (by decide))) | (dsimp only; exact Kd.own_blk (Kd.R_ne ad.out aW.out (by decide)))) _).trans hHeld.2.2.2.2.2.2)))))⟩ (fun hHeld => ?_)
  clear hK K
  refine pq_ HT_.out 15 20 (bt 16 65535) (h := ?_)
  refine done_ (done_of HT_.out (by kernel_rfl)) ?_
  go_upto_if 133 with (fail)
  go_cut [16] (fun v16 wc => ∃ (kq : Nat) (jc : Int) (dc : Int) (dd : ByteArray) (de : Bool), v16 = .int .i64 jc ∧ Fc (quorumlaw8_ChainTells.j6 kq aK aj true bP aG ep gF jc ai ah aE ay aM aI bJ bK bM co bC dc dd de = some r) ∧ Fc (kq ≤ kj53) ∧ Fc (Kd.R (Kd.int .i64) 3 wc w.heap.size (fun _ => True) (.slice (some bQ) aK.length il) aK) ∧ Fc (Kd.R k39 39 wc w.heap.size (fun k_ => some k_ ≠ ((.slice cj bC.length ck) : Value).ownBlock ∧ k_ ≠ ao ∧ k_ ≠ aD ∧ k_ ≠ am) (.slice aY aI.length aZ) aI) ∧ Fc (Kd.R k39 39 wc w.heap.size (fun k_ => some k_ ≠ ((.slice aY aI.length aZ) : Value).ownBlock ∧ k_ ≠ ao ∧ k_ ≠ aD ∧ k_ ≠ am) (.slice cj bC.length ck) bC) ∧ Fc (wc.heap[af]? = some (.cells #[(.slice (some aw) ai.length c0_0), (.slice A0_1 ah.length c0_1), (.slice A0_2 aE.length c0_2), (.slice A0_3 ay.length c0_3)] 27 (0, 0))) ∧ Fc (wc.heap[az]? = some (.cells #[.string aM, (.slice aY aI.length aZ)] 30 (0, 0))) ∧ Fc (wc.heap[ao]? = some (.cells #[.int .i64 bJ, .string bK, .bool bM] 39 (0, 0))) ∧ Fc (wc.heap[aX]? = some (.cells #[.string co, (.slice cj bC.length ck)] 30 (0, 0))) ∧ Fc (wc.heap[aD]? = some (.cells #[.int .i64 dc, .string dd, .bool de] 39 (0, 0))) ∧ Fc (wc.heap[ba]? = some (.cells #[.string (⟨#[]⟩ : ByteArray), (.slice none 0 0)] 30 (0, 0))) ∧ Fc (wc.heap[am]? = some (.cells #[.int .i64 bO, .string bW, .bool ce] 39 (0, 0))) ∧ Fc (Below w.heap.size w wc))
  case first =>
   have H := HC86.out
   clear HC86
   by_cases c94 : kF = true
   rotate_left
   ·replace c94 := Bool.eq_false_iff.mpr c94
    subst c94
    rw [if_neg (show ¬ (false = true) by decide)] at H
    have H' := mk0 H
    clear H
    go_wp2
    go_meet
    case rel => exact ⟨_, (3), (0), ((⟨#[]⟩ : ByteArray)), (false), (by first | rfl | (simp; done) | (simp [*]; done)), H', ⟨by have := cC.out; have := br.out; have := cd.out; have := cn.out; have := dJ.out; have := cB.out; first | omega | exact Nat.le_refl _⟩, ⟨by (with_reducible repeat (first | apply Ra_ | apply Rn_ | apply Rd_)); exact Kd.R_mono (Kd.R_far (p := ⟨am, 2, none⟩) (Kd.R_far (p := ⟨am, 1, none⟩) (Kd.R_far (p := ⟨am, 0, none⟩) (Kd.R_types ad.out aW.out (by decide)) (fun _ hk => hk.2) (.int .i64 bO)) (fun _ hk => hk.2) (.string bW)) (fun _ hk => hk.2) (.bool ce)) (fun _ hk => trivial)⟩, ⟨by (with_reducible repeat (first | apply Ra_ | apply Rn_ | apply Rd_)); exact Kd.R_mono (Kd.R_far (p := ⟨am, 2, none⟩) (Kd.R_far (p := ⟨am, 1, none⟩) (Kd.R_far (p := ⟨am, 0, none⟩) (Kd.R_mono aa.out (fun k_ hk => (⟨hk, hk.2.2.2⟩ : _ ∧ k_ ≠ am))) (fun _ hk => hk.2) (.int .i64 bO)) (fun _ hk => hk.2) (.string bW)) (fun _ hk => hk.2) (.bool ce)) (fun _ hk => ⟨hk.1.1, ⟨hk.1.2.1, ⟨hk.1.2.2.1, hk.1.2.2.2⟩⟩⟩)⟩, ⟨by (with_reducible repeat (first | apply Ra_ | apply Rn_ | apply Rd_)); exact Kd.R_mono (Kd.R_far (p := ⟨am, 2, none⟩) (Kd.R_far (p := ⟨am, 1, none⟩) (Kd.R_far (p := ⟨am, 0, none⟩) (Kd.R_mono bk.out (fun k_ hk => (⟨hk, hk.2.2.2⟩ : _ ∧ k_ ≠ am))) (fun _ hk => hk.2) (.int .i64 bO)) (fun _ hk => hk.2) (.string bW)) (fun _ hk => hk.2) (.bool ce)) (fun _ hk => ⟨hk.1.1, ⟨hk.1.2.1, ⟨hk.1.2.2.1, hk.1.2.2.2⟩⟩⟩)⟩, ⟨(fa_ (fa_ (fa_ (h_ ab) aJ.out) aJ.out) aJ.out)⟩, ⟨(fa_ (fa_ (fa_ (h_ ac) bo.out) bo.out) bo.out)⟩, ⟨(fa_ (fa_ (fa_ (h_ ae) bp.out) bp.out) bp.out)⟩, ⟨(fa_ (fa_ (fa_ (h_ al) bq.out) bq.out) bq.out)⟩, ⟨(fa_ (fa_ (fa_ (h_ ak) bf.out) bf.out) bf.out)⟩, ⟨(fa_ (fa_ (fa_ (h_ ap) bj.out) bj.out) bj.out)⟩, ⟨(pu_ (cs := #[.int .i64 bO, .string bW, .bool false]) (pu_ (cs := #[.int .i64 bO, .string (⟨#[]⟩ : ByteArray), .bool false]) (pu_ (cs := #[.int .i64 0, .string (⟨#[]⟩ : ByteArray), .bool false]) (h_ aW))))⟩, ⟨b_ HB⟩⟩
   subst c94
   rw [if_pos rfl] at H
   have H' := mk0 H
   clear H
   try go_wp2
   have n0_ : Fc (Kd.R (Kd.int .i64) 3 (((w90.setCell ⟨am, 0, none⟩ (.int .i64 bO)).setCell ⟨am, 1, none⟩ (.string bW)).setCell ⟨am, 2, none⟩ (.bool ce)) w.heap.size (fun _ => True) (.slice (some bQ) aK.length il) aK) := ⟨by (with_reducible repeat (first | apply Ra_ | apply Rn_ | apply Rd_)); exact Kd.R_mono (Kd.R_far (p := ⟨am, 2, none⟩) (Kd.R_far (p := ⟨am, 1, none⟩) (Kd.R_far (p := ⟨am, 0, none⟩) (Kd.R_types ad.out aW.out (by decide)) (fun _ hk => hk.2) (.int .i64 bO)) (fun _ hk => hk.2) (.string bW)) (fun _ hk => hk.2) (.bool ce)) (fun _ hk => trivial)⟩
   have n1_ : Fc (Kd.R k39 39 (((w90.setCell ⟨am, 0, none⟩ (.int .i64 bO)).setCell ⟨am, 1, none⟩ (.string bW)).setCell ⟨am, 2, none⟩ (.bool ce)) w.heap.size (fun k_ => some k_ ≠ (.slice cj bC.length ck : Value).ownBlock ∧ k_ ≠ ao ∧ k_ ≠ aD ∧ k_ ≠ am) (.slice aY aI.length aZ) aI) := ⟨by (with_reducible repeat (first | apply Ra_ | apply Rn_ | apply Rd_)); exact Kd.R_mono (Kd.R_far (p := ⟨am, 2, none⟩) (Kd.R_far (p := ⟨am, 1, none⟩) (Kd.R_far (p := ⟨am, 0, none⟩) (Kd.R_mono aa.out (fun k_ hk => (⟨hk, hk.2.2.2⟩ : _ ∧ k_ ≠ am))) (fun _ hk => hk.2) (.int .i64 bO)) (fun _ hk => hk.2) (.string bW)) (fun _ hk => hk.2) (.bool ce)) (fun _ hk => ⟨hk.1.1, ⟨hk.1.2.1, ⟨hk.1.2.2.1, hk.1.2.2.2⟩⟩⟩)⟩
   have n2_ : Fc (Kd.R k39 39 (((w90.setCell ⟨am, 0, none⟩ (.int .i64 bO)).setCell ⟨am, 1, none⟩ (.string bW)).setCell ⟨am, 2, none⟩ (.bool ce)) w.heap.size (fun k_ => some k_ ≠ (.slice aY aI.length aZ : Value).ownBlock ∧ k_ ≠ ao ∧ k_ ≠ aD ∧ k_ ≠ am) (.slice cj bC.length ck) bC) := ⟨by (with_reducible repeat (first | apply Ra_ | apply Rn_ | apply Rd_)); exact Kd.R_mono (Kd.R_far (p := ⟨am, 2, none⟩) (Kd.R_far (p := ⟨am, 1, none⟩) (Kd.R_far (p := ⟨am, 0, none⟩) (Kd.R_mono bk.out (fun k_ hk => (⟨hk, hk.2.2.2⟩ : _ ∧ k_ ≠ am))) (fun _ hk => hk.2) (.int .i64 bO)) (fun _ hk => hk.2) (.string bW)) (fun _ hk => hk.2) (.bool ce)) (fun _ hk => ⟨hk.1.1, ⟨hk.1.2.1, ⟨hk.1.2.2.1, hk.1.2.2.2⟩⟩⟩)⟩
   have n3_ : Fc ((((w90.setCell ⟨am, 0, none⟩ (.int .i64 bO)).setCell ⟨am, 1, none⟩ (.string bW)).setCell ⟨am, 2, none⟩ (.bool ce)).heap[af]? = some (.cells #[.slice (some aw) ai.length c0_0, .slice A0_1 ah.length c0_1, .slice A0_2 aE.length c0_2, .slice A0_3 ay.length c0_3] 27 (0, 0))) := ⟨(fa_ (fa_ (fa_ (h_ ab) aJ.out) aJ.out) aJ.out)⟩
   have n4_ : Fc ((((w90.setCell ⟨am, 0, none⟩ (.int .i64 bO)).setCell ⟨am, 1, none⟩ (.string bW)).setCell ⟨am, 2, none⟩ (.bool ce)).heap[az]? = some (.cells #[.string aM, .slice aY aI.length aZ] 30 (0, 0))) := ⟨(fa_ (fa_ (fa_ (h_ ac) bo.out) bo.out) bo.out)⟩
   have n5_ : Fc ((((w90.setCell ⟨am, 0, none⟩ (.int .i64 bO)).setCell ⟨am, 1, none⟩ (.string bW)).setCell ⟨am, 2, none⟩ (.bool ce)).heap[ao]? = some (.cells #[.int .i64 bJ, .string bK, .bool bM] 39 (0, 0))) := ⟨(fa_ (fa_ (fa_ (h_ ae) bp.out) bp.out) bp.out)⟩
   have n6_ : Fc ((((w90.setCell ⟨am, 0, none⟩ (.int .i64 bO)).setCell ⟨am, 1, none⟩ (.string bW)).setCell ⟨am, 2, none⟩ (.bool ce)).heap[aX]? = some (.cells #[.string co, .slice cj bC.length ck] 30 (0, 0))) := ⟨(fa_ (fa_ (fa_ (h_ al) bq.out) bq.out) bq.out)⟩
   have n7_ : Fc ((((w90.setCell ⟨am, 0, none⟩ (.int .i64 bO)).setCell ⟨am, 1, none⟩ (.string bW)).setCell ⟨am, 2, none⟩ (.bool ce)).heap[aD]? = some (.cells #[.int .i64 0, .string (⟨#[]⟩ : ByteArray), .bool false] 39 (0, 0))) := ⟨(fa_ (fa_ (fa_ (h_ ak) bf.out) bf.out) bf.out)⟩
   have n8_ : Fc ((((w90.setCell ⟨am, 0, none⟩ (.int .i64 bO)).setCell ⟨am, 1, none⟩ (.string bW)).setCell ⟨am, 2, none⟩ (.bool ce)).heap[ba]? = some (.cells #[.string (⟨#[]⟩ : ByteArray), .slice none 0 0] 30 (0, 0))) := ⟨(fa_ (fa_ (fa_ (h_ ap) bj.out) bj.out) bj.out)⟩
   have n9_ : Fc ((((w90.setCell ⟨am, 0, none⟩ (.int .i64 bO)).setCell ⟨am, 1, none⟩ (.string bW)).setCell ⟨am, 2, none⟩ (.bool ce)).heap[am]? = some (.cells #[.int .i64 bO, .string bW, .bool ce] 39 (0, 0))) := ⟨(pu_ (cs := #[.int .i64 bO, .string bW, .bool false]) (pu_ (cs := #[.int .i64 bO, .string (⟨#[]⟩ : ByteArray), .bool false]) (pu_ (cs := #[.int .i64 0, .string (⟨#[]⟩ : ByteArray), .bool false]) (h_ aW))))⟩
   have n10_ : Fc (Below w.heap.size w (((w90.setCell ⟨am, 0, none⟩ (.int .i64 bO)).setCell ⟨am, 1, none⟩ (.string bW)).setCell ⟨am, 2, none⟩ (.bool ce))) := ⟨b_ HB⟩
   (try clear ad)
   (try clear aa)
   (try clear bk)
   (try clear ab)
   (try clear ac)
   (try clear ae)
   (try clear al)
   (try clear ak)
   (try clear ap)
   (try clear aW)
   (try clear HB)
   generalize (((w90.setCell ⟨am, 0, none⟩ (.int .i64 bO)).setCell ⟨am, 1, none⟩ (.string bW)).setCell ⟨am, 2, none⟩ (.bool ce)) = w95 at n0_ n1_ n2_ n3_ n4_ n5_ n6_ n7_ n8_ n9_ n10_ ⊢
   have ad := n0_
   have aa := n1_
   have bk := n2_
   have ab := n3_
   have ac := n4_
   have ae := n5_
   have al := n6_
   have ak := n7_
   have ap := n8_
   have aW := n9_
   have HB := n10_
   clear n0_ n1_ n2_ n3_ n4_ n5_ n6_ n7_ n8_ n9_ n10_
   replace ad := mk0 (Rd_ ad.out)
   replace aa := mk0 (Rd_ aa.out)
   replace bk := mk0 (Rd_ bk.out)
   replace ab := mk0 (bD_ ab.out)
   replace ac := mk0 (bD_ ac.out)
   replace ae := mk0 (bD_ ae.out)
   replace al := mk0 (bD_ al.out)
   replace ak := mk0 (bD_ ak.out)
   replace ap := mk0 (bD_ ap.out)
   replace aW := mk0 (bD_ aW.out)
   replace HB := mk0 (b1_ HB.out)
   refine start_ (n := 3) (S := fun w' => w'.cell? ⟨am, 0, none⟩ = some (.int .i64 bO) ∧ w'.cell? ⟨am, 1, none⟩ = some (.string bW) ∧ w'.cell? ⟨am, 2, none⟩ = some (.bool ce)) (ds := []) #[false, false, false] (by kernel_rfl) rfl rfl ⟨bk_ aW 0, bk_ aW 1, bk_ aW 2⟩ (fun hHeld => ?_)
   generalize w95.drew = w96 at ad aa bk ab ac ae al ak ap aW HB hHeld ⊢
   refine pure_ (i := 1) (N := some 16) #[false, true, false] rfl rfl (by kernel_rfl) (fun _ _ _ h => h) (Or.inl ⟨by rfl, by intro w'; go_simp; with_reducible rfl⟩) (by simp only [z_]; rfl) ?_
   refine take_ (i := 0) (N := some 134) #[true, true, false] rfl rfl (by kernel_rfl) (fun _ _ _ h => h) (Or.inl ⟨by rfl, by rintro w' ⟨s0, s1, s2⟩; go_simp; with_reducible rfl⟩) hHeld (by simp only [z_]; rfl) ?_
   refine one_ (i := 2) (N := none) #[true, true, true] rfl rfl (by kernel_rfl) (by decide) (fun K hK => ?_)
   have hs97 : w96.cell? ⟨aD, 0, none⟩ = some (.int .i64 0) := bk_ ak 0
   have hfs97 := blk_frozen ak.out 0
   have qt := cJ.out
   have qu := cK.out
   have qv := cL.out
   have qw := cM.out
   have qx := ch.out
   have qy := aT.out
   have qz := gG.out
   have qA := gH.out
   have qB := gI.out
   have qC := gJ.out
   have qD := ct.out
   have qE := bf.out
   have hs98 : w96.cell? ⟨aD, 1, none⟩ = some (.string (⟨#[]⟩ : ByteArray)) := bk_ ak 1
   have hfs98 := blk_frozen ak.out 1
   have qF := cJ.out
   have qG := cK.out
   have qH := cL.out
   have qI := cM.out
   have qJ := ch.out
   have qK := aT.out
   have qL := gG.out
   have qM := gH.out
   have qN := gI.out
   have qO := gJ.out
   have qP := ct.out
   have qQ := bf.out
   have hs99 : w96.cell? ⟨aD, 2, none⟩ = some (.bool false) := bk_ ak 2
   have hfs99 := blk_frozen ak.out 2
   have qR := cJ.out
   have qS := cK.out
   have qT := cL.out
   have qU := cM.out
   have qV := ch.out
   have qW := aT.out
   have qX := gG.out
   have qY := gH.out
   have qZ := gI.out
   have ra := gJ.out
   have rb := ct.out
   have rc := bf.out
   refine skip_ (w1 := ?_) (by rfl) rfl ?_ ?_
   rotate_left
   ·go_simp
    rfl
   refine hK.out _ _ ⟨(cf_ aT.out ((cf_ aT.out (cf_ aT.out hHeld.1)))), (cf_ aT.out ((cf_ aT.out (cf_ aT.out hHeld.2.1)))), (cf_ aT.out ((cf_ aT.out (cf_ aT.out hHeld.2.2))))⟩ (fun hHeld => ?_)
   clear hK K
   refine done_ (by kernel_rfl) ?_
   try go_wp2
   go_meet
   case rel => exact ⟨_, (0), (bO), (bW), (ce), (by first | rfl | (simp; done) | (simp [*]; done)), H', ⟨by have := cC.out; have := br.out; have := cd.out; have := cn.out; have := dJ.out; have := cB.out; first | omega | exact Nat.le_refl _⟩, ⟨by (with_reducible repeat (first | apply Ra_ | apply Rn_ | apply Rd_)); exact Kd.R_mono (Kd.R_far (p := ⟨aD, 2, none⟩) (Kd.R_far (p := ⟨aD, 1, none⟩) (Kd.R_far (p := ⟨aD, 0, none⟩) (Kd.R_types ad.out ak.out (by decide)) (fun _ hk => hk.2) (.int .i64 bO)) (fun _ hk => hk.2) (.string bW)) (fun _ hk => hk.2) (.bool ce)) (fun _ hk => trivial)⟩, ⟨by (with_reducible repeat (first | apply Ra_ | apply Rn_ | apply Rd_)); exact Kd.R_mono (Kd.R_far (p := ⟨aD, 2, none⟩) (Kd.R_far (p := ⟨aD, 1, none⟩) (Kd.R_far (p := ⟨aD, 0, none⟩) (Kd.R_mono aa.out (fun k_ hk => (⟨hk, hk.2.2.1⟩ : _ ∧ k_ ≠ aD))) (fun _ hk => hk.2) (.int .i64 bO)) (fun _ hk => hk.2) (.string bW)) (fun _ hk => hk.2) (.bool ce)) (fun _ hk => ⟨hk.1.1, ⟨hk.1.2.1, ⟨hk.1.2.2.1, hk.1.2.2.2⟩⟩⟩)⟩, ⟨by (with_reducible repeat (first | apply Ra_ | apply Rn_ | apply Rd_)); exact Kd.R_mono (Kd.R_far (p := ⟨aD, 2, none⟩) (Kd.R_far (p := ⟨aD, 1, none⟩) (Kd.R_far (p := ⟨aD, 0, none⟩) (Kd.R_mono bk.out (fun k_ hk => (⟨hk, hk.2.2.1⟩ : _ ∧ k_ ≠ aD))) (fun _ hk => hk.2) (.int .i64 bO)) (fun _ hk => hk.2) (.string bW)) (fun _ hk => hk.2) (.bool ce)) (fun _ hk => ⟨hk.1.1, ⟨hk.1.2.1, ⟨hk.1.2.2.1, hk.1.2.2.2⟩⟩⟩)⟩, ⟨(fa_ (fa_ (fa_ (h_ ab) cJ.out) cJ.out) cJ.out)⟩, ⟨(fa_ (fa_ (fa_ (h_ ac) cK.out) cK.out) cK.out)⟩, ⟨(fa_ (fa_ (fa_ (h_ ae) cL.out) cL.out) cL.out)⟩, ⟨(fa_ (fa_ (fa_ (h_ al) cM.out) cM.out) cM.out)⟩, ⟨(pu_ (cs := #[.int .i64 bO, .string bW, .bool false]) (pu_ (cs := #[.int .i64 bO, .string (⟨#[]⟩ : ByteArray), .bool false]) (pu_ (cs := #[.int .i64 0, .string (⟨#[]⟩ : ByteArray), .bool false]) (h_ ak))))⟩, ⟨(fa_ (fa_ (fa_ (h_ ap) ch.out) ch.out) ch.out)⟩, ⟨(fa_ (fa_ (fa_ (h_ aW) aT.out) aT.out) aT.out)⟩, ⟨b_ HB⟩⟩
  clear HC86
  try clear c3
  try clear c94
  obtain ⟨kq, jc, dc, dd, de, rfl, HA, ss, ad, aa, av, ab, ac, ae, al, ak, ap, aW, HB⟩ := hcut
  cases kq with
  | zero => exact absurd HA.out (by simp [quorumlaw8_ChainTells.j6])
  | succ kj85 =>
  have H := HA.out
  clear HA
  simp only [quorumlaw8_ChainTells.j6] at H
  as_aux_lemma =>
  by_cases c100 : 0 ≤ aj
  rotate_left
  ·rw [if_neg c100] at H
   exact absurd H (by simp)
  rw [if_pos c100] at H
  have mX : decide (0 ≤ aj) = true := decide_eq_true c100
  clear c100
  by_cases c101 : aj < (ai.length : Int)
  rotate_left
  ·rw [if_neg c101] at H
   exact absurd H (by simp)
  rw [if_pos c101] at H
  have mY : decide (aj < (ai.length : Int)) = true := decide_eq_true c101
  clear c101
  by_cases c102 : 0 ≤ aG
  rotate_left
  ·rw [if_neg c102] at H
   exact absurd H (by simp)
  rw [if_pos c102] at H
  have mZ : decide (0 ≤ aG) = true := decide_eq_true c102
  clear c102
  by_cases c103 : aG < (aK.length : Int)
  rotate_left
  ·rw [if_neg c103] at H
   exact absurd H (by simp)
  rw [if_pos c103] at H
  have na : decide (aG < (aK.length : Int)) = true := decide_eq_true c103
  clear c103
  replace H := Option.bind_eq_some_iff.mp H
  obtain ⟨⟨jC, jD, st⟩, A1040, H⟩ := H
  try dsimp only at H
  have A104 := mk0 A1040
  clear A1040
  have H' := mk0 H
  clear H
  try go_wp2
  replace ad := mk0 (Rd_ ad.out)
  replace aa := mk0 (Rd_ aa.out)
  replace av := mk0 (Rd_ av.out)
  replace ab := mk0 (bD_ ab.out)
  replace ac := mk0 (bD_ ac.out)
  replace ae := mk0 (bD_ ae.out)
  replace al := mk0 (bD_ al.out)
  replace ak := mk0 (bD_ ak.out)
  replace ap := mk0 (bD_ ap.out)
  replace aW := mk0 (bD_ aW.out)
  replace HB := mk0 (b1_ HB.out)
  have lR : 0 ≤ (aj : Int) := of_decide_eq_true (by first | (with_reducible assumption) | assumption)
  have lS : aj < (ai.length : Int) := of_decide_eq_true (by first | (with_reducible assumption) | assumption)
  obtain ⟨oE, A313_1, c313_1, su, gc, gd, ks, kt⟩ := at_T30 dr.out aj lR lS
  have hO := gd
  have hP := gc
  obtain rfl : aw = oE := (by injection su)
  replace gc := (bc_ HB gc :)
  replace gd := (bc_ HB gd :)
  have ku := mk0 kt
  have lT := mk0 ks
  clear kt ks
  replace lR := eq_true lR
  replace lS := eq_true lS
  have lU : 0 ≤ (aG : Int) := of_decide_eq_true (by first | (with_reducible assumption) | assumption)
  have lV : aG < (aK.length : Int) := of_decide_eq_true (by first | (with_reducible assumption) | assumption)
  obtain ⟨oF, sv, jd⟩ := Kd.at_int (Kd.R_reads' ad.out).2.2 aG lU lV
  obtain rfl : bQ = oF := (by injection sv)
  replace lU := eq_true lU
  replace lV := eq_true lV
  refine start_ (n := 14) (S := fun w' => w'.cell? ⟨af, 0, none⟩ = some (.slice (some aw) ai.length c0_0) ∧ w'.cell? ⟨af, 1, none⟩ = some (.slice A0_1 ah.length c0_1) ∧ w'.cell? ⟨af, 2, none⟩ = some (.slice A0_2 aE.length c0_2) ∧ w'.cell? ⟨af, 3, none⟩ = some (.slice A0_3 ay.length c0_3) ∧ w'.cell? (aw.add ((aj).toNat * 2)) = some (.string ((rd_T30 ai aj).f0)) ∧ w'.cell? ⟨(aw.add ((aj).toNat * 2)).block, (aw.add ((aj).toNat * 2)).off + 1, none⟩ = some (.slice A313_1 ((rd_T30 ai aj).f1).length c313_1) ∧ w'.cell? (bQ.add (aG).toNat) = some (.int .i64 (rd aK aG))) (ds := []) (bt 14 0) (by kernel_rfl) rfl rfl ⟨bk_ ab 0, bk_ ab 1, bk_ ab 2, bk_ ab 3, (bc_ HB hP :), (bc_ HB hO :), jd⟩ (fun hHeld => ?_); refine with_tabW quorumlaw8_ChainTells.tab28 quorumlaw8_ChainTells.bits28 (fun HT_ HW_ => ?_)
  generalize wc.drew = w105 at ad aa av ab ac ae al ak ap aW HB ku gc gd jd hHeld ⊢
  refine pq_ HT_.out 0 136 (bt 14 1) (h := ?_)
  refine pq_ HT_.out 2 138 (bt 14 5) (h := ?_)
  refine pq_ HT_.out 5 141 (bt 14 37) (h := ?_)
  refine pq_ HT_.out 6 142 (bt 14 101) (h := ?_)
  refine pq_ HT_.out 7 143 (bt 14 229) (h := ?_)
  refine tq7_ HT_.out HW_.out 1 137 (bt 14 231) hHeld (h := ?_)
  refine pq_ HT_.out 3 139 (bt 14 239) (h := ?_)
  refine tq7_ HT_.out HW_.out 4 140 (bt 14 255) hHeld (h := ?_)
  refine tq7_ HT_.out HW_.out 8 144 (bt 14 511) hHeld (h := ?_)
  refine one_ (i := 9) (N := some 145) (bt 14 1023) rfl rfl (one_of HT_.out (by kernel_rfl)) (by decide) (fun K hK => ?_)
  refine goes_ Try.func24 (by kernel_rfl) rfl #[.agg #[.string ((rd_T30 ai aj).f0), .slice A313_1 ((rd_T30 ai aj).f1).length c313_1], .int .i64 (rd aK aG)] (by rfl) rfl rfl (by (try simp only [List.map_toArray, List.map_cons, List.map_nil]); first | done | rfl | (simp only [List.length_drop, List.length_take]; rfl)) ?_
  with_reducible refine (quorumref8_Purge.calls kj85 ((rd_T30 ai aj).f0) _ _ ((rd_T30 ai aj).f1) (rd aK aG) jC jD st _ ?side1 ?side2 A104.out).mono ?_
  (case side1 => exact cb_ ku HB)
  (case side2 => exact lT.out)
  rintro e w106 ⟨v317, rfl, ho0, hb⟩
  have HS6_ := (hb.cell (World.block_lt_of_cell? _ _ hHeld.2.2.2.2.2.2)).trans hHeld.2.2.2.2.2.2
  refine ⟨_, rfl, ?_⟩
  have n3_ := mk0 (Kd.R_lower (Kd.R_newB (Kd.R_newB (Kd.R_newB (Kd.R_new' (Kd.R_new' ho0 (Kd.R_lt (r_ aa))) (Kd.R_lt (r_ av))) (g := ao) (o := .cells #[.int .i64 bJ, .string bK, .bool bM] 39 (0, 0)) (h_ ae)) (g := aD) (o := .cells #[.int .i64 dc, .string dd, .bool de] 39 (0, 0)) (h_ ak)) (g := am) (o := .cells #[.int .i64 bO, .string bW, .bool ce] 39 (0, 0)) (h_ aW)) (bz_ (b_ HB)))
  replace ad := mk0 (Kd.R_below (r_ ad) hb)
  replace aa := mk0 (Kd.R_elder' (r_ aa) (Kd.R_base ho0) hb)
  replace av := mk0 (Kd.R_elder' (r_ av) (Kd.R_base ho0) hb)
  replace ab := mk0 (u_ ab hb)
  replace ac := mk0 (u_ ac hb)
  replace ae := mk0 (u_ ae hb)
  replace al := mk0 (u_ al hb)
  replace ak := mk0 (u_ ak hb)
  replace ap := mk0 (blk_below (g := ba) (o := .cells #[.string (⟨#[]⟩ : ByteArray), .slice none 0 0] 30 (0, 0)) (h_ ap) hb)
  replace aW := mk0 (u_ aW hb)
  replace HB := mk0 (bt_ (b_ HB) hb)
  have mv := n3_
  clear n3_
  (try clear hb)
  (try clear hb2)
  (try clear hk)
  (try clear hi)
  (try clear ho0)
  obtain ⟨jj, jk, mw⟩ := Kd.R_slice mv.out
  (first | subst mw | (injection mw with f1_ f2_ f3_; have f4_ := f1_.symm; have f5_ := f3_.symm; clear f1_ f2_ f3_; subst f4_; subst f5_))
  refine hK.out _ _ ⟨bk_ ab 0, bk_ ab 1, bk_ ab 2, bk_ ab 3, (bc_ HB hP :), (bc_ HB hO :), HS6_⟩ (fun hHeld => ?_)
  clear hK K
  refine norm_ (a' := ?_) ?_ ?_
  rotate_left
  ·show Act.put _ (some 145) _ = _
   simp only [z_]
   rfl
  refine pq_ HT_.out 10 135 (bt 14 2047) (h := ?_)
  refine pq_ HT_.out 11 146 (bt 14 4095) (h := ?_)
  refine pq_ HT_.out 12 147 (bt 14 8191) (h := ?_)
  refine one_ (i := 13) (N := none) (bt 14 16383) rfl rfl (one_of HT_.out (by kernel_rfl)) (by decide) (fun K hK => ?_)
  have hs107 : w106.cell? ⟨ba, 0, none⟩ = some (.string (⟨#[]⟩ : ByteArray)) := bk_ ap 0
  have hfs107 := blk_frozen ap.out 0
  have oG := bA.out
  have oH := eM.out
  have oI := eN.out
  have oJ := eO.out
  have oK := ct.out
  have oL := bX.out
  have oM := iw.out
  have oN := ix.out
  have oO := iy.out
  have oP := iz.out
  have oQ := ch.out
  have oR := bj.out
  have hs109 : w106.cell? ⟨ba, 1, none⟩ = some (.slice none 0 0) := bk_ ap 1
  have hfs109 := blk_frozen ap.out 1
  have oS := bA.out
  have oT := eM.out
  have oU := eN.out
  have oV := eO.out
  have oW := ct.out
  have oX := bX.out
  have oY := iw.out
  have oZ := ix.out
  have pa := iy.out
  have pb := iz.out
  have pc := ch.out
  have pd := bj.out
  refine skip_ (w1 := ?_) (by rfl) rfl ?_ ?_
  rotate_left
  ·go_simp
   rfl
  refine hK.out _ _ ⟨(cf_ bA.out (cf_ bA.out hHeld.1)), (cf_ bA.out (cf_ bA.out hHeld.2.1)), (cf_ bA.out (cf_ bA.out hHeld.2.2.1)), (cf_ bA.out (cf_ bA.out hHeld.2.2.2.1)), (cf_ (nb_ hP kl) (cf_ (nb_ hP kl) hHeld.2.2.2.2.1)), (cf_ (nb_ hO kl) (cf_ (nb_ hO kl) hHeld.2.2.2.2.2.1)), ((cell_far (p := ⟨ba, _, none⟩) (by first | exact Kd.own_blk (Kd.R_ne ad.out ap.out (by decide)) | (rw [add_block]; exact Kd.own_blk (Kd.R_ne ad.out ap.out (by decide))) | (show (Addr.add _ _).block ≠ _; rw [add_block]; exact Kd.own_blk (Kd.R_ne ad.out ap.out (by decide))) | (dsimp only; exact Kd.own_blk (Kd.R_ne ad.out ap.out (by decide)))) _).trans (((cell_far (p := ⟨ba, _, none⟩) (by first | exact Kd.own_blk (Kd.R_ne ad.out ap.out (by decide)) | (rw [add_block]; exact Kd.own_blk (Kd.R_ne ad.out ap.out (by decide))) | (show (Addr.add _ _).block ≠ _; rw [add_block]; exact Kd.own_blk (Kd.R_ne ad.out ap.out (by decide))) | (dsimp only; exact Kd.own_blk (Kd.R_ne ad.out ap.out (by decide)))) _).trans hHeld.2.2.2.2.2.2)))⟩ (fun hHeld => ?_)
  clear hK K
  refine done_ (done_of HT_.out (by kernel_rfl)) ?_
  try go_wp2
  go_meet
  case rel => exact ⟨_, (jc), (dc), (dd), (de), (jC), (jD), (.slice jj jD.length jk), (by first | rfl | (simp; done) | (simp [*]; done)), H', ⟨by have := cC.out; have := br.out; have := cd.out; have := cn.out; have := dJ.out; have := cB.out; have := ss.out; first | omega | exact Nat.le_refl _⟩, ⟨by (with_reducible repeat (first | apply Ra_ | apply Rn_ | apply Rd_)); exact Kd.R_mono (Kd.R_far (p := ⟨ba, 1, none⟩) (Kd.R_far (p := ⟨ba, 0, none⟩) (Kd.R_types ad.out ap.out (by decide)) (fun _ hk => hk.2) (.string jC)) (fun _ hk => hk.2) (.slice jj jD.length jk)) (fun _ hk => trivial)⟩, ⟨by (with_reducible repeat (first | apply Ra_ | apply Rn_ | apply Rd_)); exact Kd.R_mono (Kd.R_far (p := ⟨ba, 1, none⟩) (Kd.R_far (p := ⟨ba, 0, none⟩) (Kd.R_types aa.out ap.out (by decide)) (fun _ hk => hk.2) (.string jC)) (fun _ hk => hk.2) (.slice jj jD.length jk)) (fun _ hk => ⟨hk.1.1.1, ⟨hk.1.2, ⟨hk.1.1.2.1, hk.1.1.2.2.1⟩⟩⟩)⟩, ⟨by (with_reducible repeat (first | apply Ra_ | apply Rn_ | apply Rd_)); exact Kd.R_mono (Kd.R_far (p := ⟨ba, 1, none⟩) (Kd.R_far (p := ⟨ba, 0, none⟩) (Kd.R_types av.out ap.out (by decide)) (fun _ hk => hk.2) (.string jC)) (fun _ hk => hk.2) (.slice jj jD.length jk)) (fun _ hk => ⟨hk.1.1.1, ⟨hk.1.2, ⟨hk.1.1.2.1, hk.1.1.2.2.1⟩⟩⟩)⟩, ⟨by (with_reducible repeat (first | apply Ra_ | apply Rn_ | apply Rd_)); exact Kd.R_mono (Kd.R_far (p := ⟨ba, 1, none⟩) (Kd.R_far (p := ⟨ba, 0, none⟩) (Kd.R_types mv.out ap.out (by decide)) (fun _ hk => hk.2) (.string jC)) (fun _ hk => hk.2) (.slice jj jD.length jk)) (fun _ hk => ⟨hk.1.1.1.1.1.2, ⟨hk.1.1.1.1.2, ⟨hk.1.1.1.2, hk.1.1.2⟩⟩⟩)⟩, ⟨(fa_ (fa_ (h_ ab) bA.out) bA.out)⟩, ⟨(fa_ (fa_ (h_ ac) eM.out) eM.out)⟩, ⟨(fa_ (fa_ (h_ ae) eN.out) eN.out)⟩, ⟨(fa_ (fa_ (h_ al) eO.out) eO.out)⟩, ⟨(fa_ (fa_ (h_ ak) ct.out) ct.out)⟩, ⟨(pu_ (cs := #[.string jC, .slice none 0 0]) (pu_ (cs := #[.string (⟨#[]⟩ : ByteArray), .slice none 0 0]) (h_ ap)))⟩, ⟨b_ HB⟩⟩
 clear HC63
 try clear c3
 try clear c82
 try clear c83
 try clear c84
 try clear c94
 try clear c100
 try clear mX
 try clear c101
 try clear mY
 try clear c102
 try clear mZ
 try clear c103
 try clear na
 try clear gc gd
 try clear jd
 try clear lR
 try clear lU
 try clear lS
 try clear lV
 obtain ⟨kq, er, bs, bu, bv, bD, bS, u306001, rfl, HA, jE, ad, aa, av, aA, ab, ac, ae, al, ak, ap, HB⟩ := hcut
 cases kq with
 | zero => exact absurd HA.out (by simp [quorumlaw8_ChainTells.j7])
 | succ kj62 =>
 have H := HA.out
 clear HA
 simp only [quorumlaw8_ChainTells.j7] at H
 as_aux_lemma =>
 have HC110 := mk0 H
 clear H
 go_upto_region 29 with (fail)
 go_cut [178] (fun v178 wc => ∃ (kq : Nat) (gf : Bool), v178 = .bool gf ∧ Fc (quorumlaw8_ChainTells.j8 kq aK aj en bP aG gf ai ah aE ay aM aI = some r) ∧ Fc (kq ≤ kj62) ∧ Fc (Kd.R (Kd.int .i64) 3 wc w.heap.size (fun _ => True) (.slice (some bQ) aK.length il) aK) ∧ Fc (Kd.R k39 39 wc w.heap.size (fun k_ => some k_ ≠ ((.slice cj bC.length ck) : Value).ownBlock ∧ some k_ ≠ (u306001 : Value).ownBlock ∧ k_ ≠ ao ∧ k_ ≠ aD) (.slice aY aI.length aZ) aI) ∧ Fc (Kd.R k39 39 wc w.heap.size (fun k_ => some k_ ≠ ((.slice aY aI.length aZ) : Value).ownBlock ∧ some k_ ≠ (u306001 : Value).ownBlock ∧ k_ ≠ ao ∧ k_ ≠ aD) (.slice cj bC.length ck) bC) ∧ Fc (Kd.R k39 39 wc w.heap.size (fun k_ => some k_ ≠ ((.slice aY aI.length aZ) : Value).ownBlock ∧ some k_ ≠ ((.slice cj bC.length ck) : Value).ownBlock ∧ k_ ≠ ao ∧ k_ ≠ aD) u306001 bS) ∧ Fc (wc.heap[af]? = some (.cells #[(.slice (some aw) ai.length c0_0), (.slice A0_1 ah.length c0_1), (.slice A0_2 aE.length c0_2), (.slice A0_3 ay.length c0_3)] 27 (0, 0))) ∧ Fc (wc.heap[az]? = some (.cells #[.string aM, (.slice aY aI.length aZ)] 30 (0, 0))) ∧ Fc (wc.heap[ao]? = some (.cells #[.int .i64 bJ, .string bK, .bool bM] 39 (0, 0))) ∧ Fc (wc.heap[aX]? = some (.cells #[.string co, (.slice cj bC.length ck)] 30 (0, 0))) ∧ Fc (wc.heap[aD]? = some (.cells #[.int .i64 bs, .string bu, .bool bv] 39 (0, 0))) ∧ Fc (wc.heap[ba]? = some (.cells #[.string bD, u306001] 30 (0, 0))) ∧ Fc (Below w.heap.size w wc))
 case first =>
  have H := HC110.out
  clear HC110
  replace H := Option.bind_eq_some_iff.mp H
  obtain ⟨ip, A1110, H⟩ := H
  try dsimp only at H
  have A111 := mk0 A1110
  clear A1110
  by_cases c112 : ip = er
  rotate_left
  ·rw [if_neg c112] at H
   have eo : (ip == er) = false := beq_eq_false_iff_ne.mpr c112
   have iR : (ip != er) = true := bne_iff_ne.mpr c112
   (first | rw [eo] | (simp only [i64_w, i32_w]; rw [eo]) | skip)
   have H' := mk0 H
   clear H
   try go_wp2
   replace ad := mk0 (Rd_ ad.out)
   replace aa := mk0 (Rd_ aa.out)
   replace av := mk0 (Rd_ av.out)
   replace aA := mk0 (Rd_ aA.out)
   replace ab := mk0 (bD_ ab.out)
   replace ac := mk0 (bD_ ac.out)
   replace ae := mk0 (bD_ ae.out)
   replace al := mk0 (bD_ al.out)
   replace ak := mk0 (bD_ ak.out)
   replace ap := mk0 (bD_ ap.out)
   replace HB := mk0 (b1_ HB.out)
   refine start_ (n := 31) (S := fun w' => True) (ds := []) (bt 31 0) (by kernel_rfl) rfl rfl trivial (fun hHeld => ?_); refine with_tabW quorumlaw8_ChainTells.tab29 quorumlaw8_ChainTells.bits29 (fun HT_ HW_ => ?_)
   generalize wc.drew = w130 at ad aa av aA ab ac ae al ak ap HB hHeld ⊢
   refine pq_ HT_.out 0 148 (bt 31 1) (h := ?_)
   refine pq_ HT_.out 2 150 (bt 31 5) (h := ?_)
   refine one_ (i := 1) (N := some 149) (bt 31 7) rfl rfl (one_of HT_.out (by kernel_rfl)) (by decide) (fun K hK => ?_)
   refine goes_ Try.func19 (by kernel_rfl) rfl #[.int .i64 ep] (by rfl) rfl rfl (by (try simp only [List.map_toArray, List.map_cons, List.map_nil]); first | done | rfl | (simp only [List.length_drop, List.length_take]; rfl)) ?_
   with_reducible refine (quorumlaw8_num.calls ep ip _ A111.out).mono ?_
   rintro e w' ⟨rfl, ⟨nd, rfl⟩⟩
   refine ⟨_, rfl, ?_⟩
   refine hK.out _ _ trivial (fun hHeld => ?_)
   clear hK K
   refine norm_ (a' := ?_) ?_ ?_
   rotate_left
   ·show Act.put _ (some 149) _ = _
    simp only [z_]
    rfl
   refine pq_ HT_.out 3 151 (bt 31 15) (h := ?_)
   refine pq_ HT_.out 4 152 (bt 31 31) (h := ?_)
   refine uq_ HT_.out 5 153 (bt 31 63) (h := ?_)
   refine uq_ HT_.out 6 154 (bt 31 127) (h := ?_)
   refine uq_ HT_.out 7 155 (bt 31 255) (h := ?_)
   refine pq_ HT_.out 8 156 (bt 31 511) (h := ?_)
   refine pq_ HT_.out 9 157 (bt 31 1023) (h := ?_)
   refine uq_ HT_.out 10 158 (bt 31 2047) (h := ?_)
   refine uq_ HT_.out 11 159 (bt 31 4095) (h := ?_)
   refine uq_ HT_.out 12 160 (bt 31 8191) (h := ?_)
   refine uq_ HT_.out 13 161 (bt 31 16383) (h := ?_)
   refine pq_ HT_.out 14 162 (bt 31 32767) (h := ?_)
   refine pq_ HT_.out 15 163 (bt 31 65535) (h := ?_)
   refine uq_ HT_.out 16 164 (bt 31 131071) (h := ?_)
   refine uq_ HT_.out 17 165 (bt 31 262143) (h := ?_)
   refine uq_ HT_.out 18 166 (bt 31 524287) (h := ?_)
   refine uq_ HT_.out 19 167 (bt 31 1048575) (h := ?_)
   refine pq_ HT_.out 20 168 (bt 31 2097151) (h := ?_)
   refine pq_ HT_.out 21 169 (bt 31 4194303) (h := ?_)
   refine uq_ HT_.out 22 170 (bt 31 8388607) (h := ?_)
   refine uq_ HT_.out 23 171 (bt 31 16777215) (h := ?_)
   refine uq_ HT_.out 24 172 (bt 31 33554431) (h := ?_)
   refine uq_ HT_.out 25 173 (bt 31 67108863) (h := ?_)
   refine uq_ HT_.out 26 174 (bt 31 134217727) (h := ?_)
   refine uq_ HT_.out 27 175 (bt 31 268435455) (h := ?_)
   refine uq_ HT_.out 28 176 (bt 31 536870911) (h := ?_)
   refine uq_ HT_.out 29 177 (bt 31 1073741823) (h := ?_)
   refine pq_ HT_.out 30 178 (bt 31 2147483647) (h := ?_)
   refine done_ (done_of HT_.out (by kernel_rfl)) ?_
   try go_wp2
   go_meet
   case rel => exact ⟨_, (true), (by first | rfl | (simp; done) | (simp [*]; done)), H', ⟨by have := cC.out; have := br.out; have := cd.out; have := cn.out; have := dJ.out; have := cB.out; have := jE.out; first | omega | exact Nat.le_refl _⟩, ⟨by (with_reducible repeat (first | apply Ra_ | apply Rn_ | apply Rd_)); exact ad.out⟩, ⟨by (with_reducible repeat (first | apply Ra_ | apply Rn_ | apply Rd_)); exact aa.out⟩, ⟨by (with_reducible repeat (first | apply Ra_ | apply Rn_ | apply Rd_)); exact av.out⟩, ⟨by (with_reducible repeat (first | apply Ra_ | apply Rn_ | apply Rd_)); exact aA.out⟩, ⟨h_ ab⟩, ⟨h_ ac⟩, ⟨h_ ae⟩, ⟨h_ al⟩, ⟨h_ ak⟩, ⟨h_ ap⟩, ⟨b_ HB⟩⟩
  rw [if_pos c112] at H
  have eo : (ip == er) = true := beq_iff_eq.mpr c112
  have iR : (ip != er) = false := bne_eq_false_iff_eq.mpr c112
  clear c112
  (first | rw [eo] | (simp only [i64_w, i32_w]; rw [eo]) | skip)
  by_cases c113 : (!(bJ == bs) || (!(bK.toList == bu.toList) || (!(bM == bv)))) = true
  ·rw [if_pos c113] at H
   have nb : (!(bJ == bs) || (!(bK.toList == bu.toList) || (!(bM == bv)))) = true := c113
   clear c113
   have H' := mk0 H
   clear H
   try go_wp2
   replace ad := mk0 (Rd_ ad.out)
   replace aa := mk0 (Rd_ aa.out)
   replace av := mk0 (Rd_ av.out)
   replace aA := mk0 (Rd_ aA.out)
   replace ab := mk0 (bD_ ab.out)
   replace ac := mk0 (bD_ ac.out)
   replace ae := mk0 (bD_ ae.out)
   replace al := mk0 (bD_ al.out)
   replace ak := mk0 (bD_ ak.out)
   replace ap := mk0 (bD_ ap.out)
   replace HB := mk0 (b1_ HB.out)
   refine start_ (n := 31) (S := fun w' => w'.cell? ⟨ao, 0, none⟩ = some (.int .i64 bJ) ∧ w'.cell? ⟨ao, 1, none⟩ = some (.string bK) ∧ w'.cell? ⟨ao, 2, none⟩ = some (.bool bM) ∧ w'.cell? ⟨aD, 0, none⟩ = some (.int .i64 bs) ∧ w'.cell? ⟨aD, 1, none⟩ = some (.string bu) ∧ w'.cell? ⟨aD, 2, none⟩ = some (.bool bv)) (ds := []) (bt 31 0) (by kernel_rfl) rfl rfl ⟨bk_ ae 0, bk_ ae 1, bk_ ae 2, bk_ ak 0, bk_ ak 1, bk_ ak 2⟩ (fun hHeld => ?_); refine with_tabW quorumlaw8_ChainTells.tab29 quorumlaw8_ChainTells.bits29 (fun HT_ HW_ => ?_)
   generalize wc.drew = w114 at ad aa av aA ab ac ae al ak ap HB hHeld ⊢
   refine pq_ HT_.out 0 148 (bt 31 1) (h := ?_)
   refine pq_ HT_.out 2 150 (bt 31 5) (h := ?_)
   refine one_ (i := 1) (N := some 149) (bt 31 7) rfl rfl (one_of HT_.out (by kernel_rfl)) (by decide) (fun K hK => ?_)
   refine goes_ Try.func19 (by kernel_rfl) rfl #[.int .i64 ep] (by rfl) rfl rfl (by (try simp only [List.map_toArray, List.map_cons, List.map_nil]); first | done | rfl | (simp only [List.length_drop, List.length_take]; rfl)) ?_
   with_reducible refine (quorumlaw8_num.calls ep ip _ A111.out).mono ?_
   rintro e w' ⟨rfl, ⟨nd, rfl⟩⟩
   refine ⟨_, rfl, ?_⟩
   refine hK.out _ _ ⟨bk_ ae 0, bk_ ae 1, bk_ ae 2, bk_ ak 0, bk_ ak 1, bk_ ak 2⟩ (fun hHeld => ?_)
   clear hK K
   refine norm_ (a' := ?_) ?_ ?_
   rotate_left
   ·show Act.put _ (some 149) _ = _
    simp only [z_]
    rfl
   refine pq_ HT_.out 3 151 (bt 31 15) (h := ?_)
   refine pq_ HT_.out 4 152 (bt 31 31) (h := ?_)
   refine tq6_ HT_.out HW_.out 5 153 (bt 31 63) hHeld (h := ?_)
   refine tq6_ HT_.out HW_.out 6 154 (bt 31 127) hHeld (h := ?_)
   refine pq_ HT_.out 7 155 (bt 31 255) (h := ?_)
   refine pq_ HT_.out 8 156 (bt 31 511) (h := ?_)
   refine pq_ HT_.out 9 157 (bt 31 1023) (h := ?_)
   refine uq_ HT_.out 10 158 (bt 31 2047) (h := ?_)
   refine uq_ HT_.out 11 159 (bt 31 4095) (h := ?_)
   refine uq_ HT_.out 12 160 (bt 31 8191) (h := ?_)
   refine uq_ HT_.out 13 161 (bt 31 16383) (h := ?_)
   refine pq_ HT_.out 14 162 (bt 31 32767) (h := ?_)
   refine pq_ HT_.out 15 163 (bt 31 65535) (h := ?_)
   refine uq_ HT_.out 16 164 (bt 31 131071) (h := ?_)
   refine uq_ HT_.out 17 165 (bt 31 262143) (h := ?_)
   refine uq_ HT_.out 18 166 (bt 31 524287) (h := ?_)
   refine uq_ HT_.out 19 167 (bt 31 1048575) (h := ?_)
   refine pq_ HT_.out 20 168 (bt 31 2097151) (h := ?_)
   refine pq_ HT_.out 21 169 (bt 31 4194303) (h := ?_)
   refine uq_ HT_.out 22 170 (bt 31 8388607) (h := ?_)
   refine uq_ HT_.out 23 171 (bt 31 16777215) (h := ?_)
   refine uq_ HT_.out 24 172 (bt 31 33554431) (h := ?_)
   refine uq_ HT_.out 25 173 (bt 31 67108863) (h := ?_)
   refine uq_ HT_.out 26 174 (bt 31 134217727) (h := ?_)
   refine uq_ HT_.out 27 175 (bt 31 268435455) (h := ?_)
   refine uq_ HT_.out 28 176 (bt 31 536870911) (h := ?_)
   refine uq_ HT_.out 29 177 (bt 31 1073741823) (h := ?_)
   refine pq_ HT_.out 30 178 (bt 31 2147483647) (h := ?_)
   refine done_ (done_of HT_.out (by kernel_rfl)) ?_
   try go_wp2
   go_meet
   case rel => exact ⟨_, (true), (by first | rfl | (simp; done) | (simp [*]; done)), H', ⟨by have := cC.out; have := br.out; have := cd.out; have := cn.out; have := dJ.out; have := cB.out; have := jE.out; first | omega | exact Nat.le_refl _⟩, ⟨by (with_reducible repeat (first | apply Ra_ | apply Rn_ | apply Rd_)); exact ad.out⟩, ⟨by (with_reducible repeat (first | apply Ra_ | apply Rn_ | apply Rd_)); exact aa.out⟩, ⟨by (with_reducible repeat (first | apply Ra_ | apply Rn_ | apply Rd_)); exact av.out⟩, ⟨by (with_reducible repeat (first | apply Ra_ | apply Rn_ | apply Rd_)); exact aA.out⟩, ⟨h_ ab⟩, ⟨h_ ac⟩, ⟨h_ ae⟩, ⟨h_ al⟩, ⟨h_ ak⟩, ⟨h_ ap⟩, ⟨b_ HB⟩⟩
  rw [if_neg c113] at H
  have nb : (!(bJ == bs) || (!(bK.toList == bu.toList) || (!(bM == bv)))) = false := by simpa using c113
  clear c113
  replace H := Option.bind_eq_some_iff.mp H
  obtain ⟨jl, A1150, H⟩ := H
  try dsimp only at H
  have A115 := mk0 A1150
  clear A1150
  by_cases c116 : jl = bP
  rotate_left
  ·rw [if_neg c116] at H
   have iS : (jl == bP) = false := beq_eq_false_iff_ne.mpr c116
   have iT : (jl != bP) = true := bne_iff_ne.mpr c116
   have H' := mk0 H
   clear H
   try go_wp2
   replace ad := mk0 (Rd_ ad.out)
   replace aa := mk0 (Rd_ aa.out)
   replace av := mk0 (Rd_ av.out)
   replace aA := mk0 (Rd_ aA.out)
   replace ab := mk0 (bD_ ab.out)
   replace ac := mk0 (bD_ ac.out)
   replace ae := mk0 (bD_ ae.out)
   replace al := mk0 (bD_ al.out)
   replace ak := mk0 (bD_ ak.out)
   replace ap := mk0 (bD_ ap.out)
   replace HB := mk0 (b1_ HB.out)
   refine start_ (n := 31) (S := fun w' => w'.cell? ⟨ao, 0, none⟩ = some (.int .i64 bJ) ∧ w'.cell? ⟨ao, 1, none⟩ = some (.string bK) ∧ w'.cell? ⟨ao, 2, none⟩ = some (.bool bM) ∧ w'.cell? ⟨aD, 0, none⟩ = some (.int .i64 bs) ∧ w'.cell? ⟨aD, 1, none⟩ = some (.string bu) ∧ w'.cell? ⟨aD, 2, none⟩ = some (.bool bv)) (ds := []) (bt 31 0) (by kernel_rfl) rfl rfl ⟨bk_ ae 0, bk_ ae 1, bk_ ae 2, bk_ ak 0, bk_ ak 1, bk_ ak 2⟩ (fun hHeld => ?_); refine with_tabW quorumlaw8_ChainTells.tab29 quorumlaw8_ChainTells.bits29 (fun HT_ HW_ => ?_)
   generalize wc.drew = w129 at ad aa av aA ab ac ae al ak ap HB hHeld ⊢
   refine pq_ HT_.out 0 148 (bt 31 1) (h := ?_)
   refine pq_ HT_.out 2 150 (bt 31 5) (h := ?_)
   refine one_ (i := 1) (N := some 149) (bt 31 7) rfl rfl (one_of HT_.out (by kernel_rfl)) (by decide) (fun K hK => ?_)
   refine goes_ Try.func19 (by kernel_rfl) rfl #[.int .i64 ep] (by rfl) rfl rfl (by (try simp only [List.map_toArray, List.map_cons, List.map_nil]); first | done | rfl | (simp only [List.length_drop, List.length_take]; rfl)) ?_
   with_reducible refine (quorumlaw8_num.calls ep ip _ A111.out).mono ?_
   rintro e w' ⟨rfl, ⟨nd, rfl⟩⟩
   refine ⟨_, rfl, ?_⟩
   refine hK.out _ _ ⟨bk_ ae 0, bk_ ae 1, bk_ ae 2, bk_ ak 0, bk_ ak 1, bk_ ak 2⟩ (fun hHeld => ?_)
   clear hK K
   refine norm_ (a' := ?_) ?_ ?_
   rotate_left
   ·show Act.put _ (some 149) _ = _
    simp only [z_]
    rfl
   refine pq_ HT_.out 3 151 (bt 31 15) (h := ?_)
   refine pq_ HT_.out 4 152 (bt 31 31) (h := ?_)
   refine tq6_ HT_.out HW_.out 5 153 (bt 31 63) hHeld (h := ?_)
   refine tq6_ HT_.out HW_.out 6 154 (bt 31 127) hHeld (h := ?_)
   refine pq_ HT_.out 7 155 (bt 31 255) (h := ?_)
   refine pq_ HT_.out 8 156 (bt 31 511) (h := ?_)
   refine pq_ HT_.out 9 157 (bt 31 1023) (h := ?_)
   refine pq_ HT_.out 10 158 (bt 31 2047) (h := ?_)
   refine pq_ HT_.out 12 160 (bt 31 6143) (h := ?_)
   refine one_ (i := 11) (N := some 159) (bt 31 8191) rfl rfl (one_of HT_.out (by kernel_rfl)) (by decide) (fun K hK => ?_)
   refine goes_ Try.func19 (by kernel_rfl) rfl #[.int .i64 gF] (by rfl) rfl rfl (by (try simp only [List.map_toArray, List.map_cons, List.map_nil]); first | done | rfl | (simp only [List.length_drop, List.length_take]; rfl)) ?_
   with_reducible refine (quorumlaw8_num.calls gF jl _ A115.out).mono ?_
   rintro e w' ⟨rfl, ⟨nd, rfl⟩⟩
   refine ⟨_, rfl, ?_⟩
   refine hK.out _ _ ⟨bk_ ae 0, bk_ ae 1, bk_ ae 2, bk_ ak 0, bk_ ak 1, bk_ ak 2⟩ (fun hHeld => ?_)
   clear hK K
   refine norm_ (a' := ?_) ?_ ?_
   rotate_left
   ·show Act.put _ (some 159) _ = _
    simp only [z_]
    rfl
   refine pq_ HT_.out 13 161 (bt 31 16383) (h := ?_)
   refine pq_ HT_.out 14 162 (bt 31 32767) (h := ?_)
   refine pq_ HT_.out 15 163 (bt 31 65535) (h := ?_)
   refine uq_ HT_.out 16 164 (bt 31 131071) (h := ?_)
   refine uq_ HT_.out 17 165 (bt 31 262143) (h := ?_)
   refine uq_ HT_.out 18 166 (bt 31 524287) (h := ?_)
   refine uq_ HT_.out 19 167 (bt 31 1048575) (h := ?_)
   refine pq_ HT_.out 20 168 (bt 31 2097151) (h := ?_)
   refine pq_ HT_.out 21 169 (bt 31 4194303) (h := ?_)
   refine uq_ HT_.out 22 170 (bt 31 8388607) (h := ?_)
   refine uq_ HT_.out 23 171 (bt 31 16777215) (h := ?_)
   refine uq_ HT_.out 24 172 (bt 31 33554431) (h := ?_)
   refine uq_ HT_.out 25 173 (bt 31 67108863) (h := ?_)
   refine uq_ HT_.out 26 174 (bt 31 134217727) (h := ?_)
   refine uq_ HT_.out 27 175 (bt 31 268435455) (h := ?_)
   refine uq_ HT_.out 28 176 (bt 31 536870911) (h := ?_)
   refine uq_ HT_.out 29 177 (bt 31 1073741823) (h := ?_)
   refine pq_ HT_.out 30 178 (bt 31 2147483647) (h := ?_)
   refine done_ (done_of HT_.out (by kernel_rfl)) ?_
   try go_wp2
   go_meet
   case rel => exact ⟨_, (true), (by first | rfl | (simp; done) | (simp [*]; done)), H', ⟨by have := cC.out; have := br.out; have := cd.out; have := cn.out; have := dJ.out; have := cB.out; have := jE.out; first | omega | exact Nat.le_refl _⟩, ⟨by (with_reducible repeat (first | apply Ra_ | apply Rn_ | apply Rd_)); exact ad.out⟩, ⟨by (with_reducible repeat (first | apply Ra_ | apply Rn_ | apply Rd_)); exact aa.out⟩, ⟨by (with_reducible repeat (first | apply Ra_ | apply Rn_ | apply Rd_)); exact av.out⟩, ⟨by (with_reducible repeat (first | apply Ra_ | apply Rn_ | apply Rd_)); exact aA.out⟩, ⟨h_ ab⟩, ⟨h_ ac⟩, ⟨h_ ae⟩, ⟨h_ al⟩, ⟨h_ ak⟩, ⟨h_ ap⟩, ⟨b_ HB⟩⟩
  rw [if_pos c116] at H
  have iS : (jl == bP) = true := beq_iff_eq.mpr c116
  have iT : (jl != bP) = false := bne_eq_false_iff_eq.mpr c116
  clear c116
  replace H := Option.bind_eq_some_iff.mp H
  obtain ⟨sw, A1170, H⟩ := H
  try dsimp only at H
  have A117 := mk0 A1170
  clear A1170
  by_cases c118 : sw = true
  rotate_left
  ·replace c118 := Bool.eq_false_iff.mpr c118
   subst c118
   rw [if_neg (show ¬ (false = true) by decide)] at H
   have H' := mk0 H
   clear H
   try go_wp2
   replace ad := mk0 (Rd_ ad.out)
   replace aa := mk0 (Rd_ aa.out)
   replace av := mk0 (Rd_ av.out)
   replace aA := mk0 (Rd_ aA.out)
   replace ab := mk0 (bD_ ab.out)
   replace ac := mk0 (bD_ ac.out)
   replace ae := mk0 (bD_ ae.out)
   replace al := mk0 (bD_ al.out)
   replace ak := mk0 (bD_ ak.out)
   replace ap := mk0 (bD_ ap.out)
   replace HB := mk0 (b1_ HB.out)
   refine start_ (n := 31) (S := fun w' => w'.cell? ⟨ao, 0, none⟩ = some (.int .i64 bJ) ∧ w'.cell? ⟨ao, 1, none⟩ = some (.string bK) ∧ w'.cell? ⟨ao, 2, none⟩ = some (.bool bM) ∧ w'.cell? ⟨aD, 0, none⟩ = some (.int .i64 bs) ∧ w'.cell? ⟨aD, 1, none⟩ = some (.string bu) ∧ w'.cell? ⟨aD, 2, none⟩ = some (.bool bv) ∧ w'.cell? ⟨aX, 0, none⟩ = some (.string co) ∧ w'.cell? ⟨aX, 1, none⟩ = some (.slice cj bC.length ck) ∧ w'.cell? ⟨ba, 0, none⟩ = some (.string bD) ∧ w'.cell? ⟨ba, 1, none⟩ = some (u306001)) (ds := []) (bt 31 0) (by kernel_rfl) rfl rfl ⟨bk_ ae 0, bk_ ae 1, bk_ ae 2, bk_ ak 0, bk_ ak 1, bk_ ak 2, bk_ al 0, bk_ al 1, bk_ ap 0, bk_ ap 1⟩ (fun hHeld => ?_); refine with_tabW quorumlaw8_ChainTells.tab29 quorumlaw8_ChainTells.bits29 (fun HT_ HW_ => ?_)
   generalize wc.drew = w126 at ad aa av aA ab ac ae al ak ap HB hHeld ⊢
   refine pq_ HT_.out 0 148 (bt 31 1) (h := ?_)
   refine pq_ HT_.out 2 150 (bt 31 5) (h := ?_)
   refine one_ (i := 1) (N := some 149) (bt 31 7) rfl rfl (one_of HT_.out (by kernel_rfl)) (by decide) (fun K hK => ?_)
   refine goes_ Try.func19 (by kernel_rfl) rfl #[.int .i64 ep] (by rfl) rfl rfl (by (try simp only [List.map_toArray, List.map_cons, List.map_nil]); first | done | rfl | (simp only [List.length_drop, List.length_take]; rfl)) ?_
   with_reducible refine (quorumlaw8_num.calls ep ip _ A111.out).mono ?_
   rintro e w' ⟨rfl, ⟨nd, rfl⟩⟩
   refine ⟨_, rfl, ?_⟩
   refine hK.out _ _ ⟨bk_ ae 0, bk_ ae 1, bk_ ae 2, bk_ ak 0, bk_ ak 1, bk_ ak 2, bk_ al 0, bk_ al 1, bk_ ap 0, bk_ ap 1⟩ (fun hHeld => ?_)
   clear hK K
   refine norm_ (a' := ?_) ?_ ?_
   rotate_left
   ·show Act.put _ (some 149) _ = _
    simp only [z_]
    rfl
   refine pq_ HT_.out 3 151 (bt 31 15) (h := ?_)
   refine pq_ HT_.out 4 152 (bt 31 31) (h := ?_)
   refine tq10_ HT_.out HW_.out 5 153 (bt 31 63) hHeld (h := ?_)
   refine tq10_ HT_.out HW_.out 6 154 (bt 31 127) hHeld (h := ?_)
   refine pq_ HT_.out 7 155 (bt 31 255) (h := ?_)
   refine pq_ HT_.out 8 156 (bt 31 511) (h := ?_)
   refine pq_ HT_.out 9 157 (bt 31 1023) (h := ?_)
   refine pq_ HT_.out 10 158 (bt 31 2047) (h := ?_)
   refine pq_ HT_.out 12 160 (bt 31 6143) (h := ?_)
   refine one_ (i := 11) (N := some 159) (bt 31 8191) rfl rfl (one_of HT_.out (by kernel_rfl)) (by decide) (fun K hK => ?_)
   refine goes_ Try.func19 (by kernel_rfl) rfl #[.int .i64 gF] (by rfl) rfl rfl (by (try simp only [List.map_toArray, List.map_cons, List.map_nil]); first | done | rfl | (simp only [List.length_drop, List.length_take]; rfl)) ?_
   with_reducible refine (quorumlaw8_num.calls gF jl _ A115.out).mono ?_
   rintro e w' ⟨rfl, ⟨nd, rfl⟩⟩
   refine ⟨_, rfl, ?_⟩
   obtain ⟨pe, pf, mx⟩ := Kd.R_slice aA.out
   (first | subst mx | (injection mx with f1_ f2_ f3_; have f4_ := f1_.symm; have f5_ := f3_.symm; clear f1_ f2_ f3_; subst f4_; subst f5_))
   refine hK.out _ _ ⟨bk_ ae 0, bk_ ae 1, bk_ ae 2, bk_ ak 0, bk_ ak 1, bk_ ak 2, bk_ al 0, bk_ al 1, bk_ ap 0, bk_ ap 1⟩ (fun hHeld => ?_)
   clear hK K
   refine norm_ (a' := ?_) ?_ ?_
   rotate_left
   ·show Act.put _ (some 159) _ = _
    simp only [z_]
    rfl
   refine pq_ HT_.out 13 161 (bt 31 16383) (h := ?_)
   refine pq_ HT_.out 14 162 (bt 31 32767) (h := ?_)
   refine pq_ HT_.out 15 163 (bt 31 65535) (h := ?_)
   refine tq10_ HT_.out HW_.out 16 164 (bt 31 131071) hHeld (h := ?_)
   refine tq10_ HT_.out HW_.out 17 165 (bt 31 262143) hHeld (h := ?_)
   refine one_ (i := 18) (N := some 166) (bt 31 524287) rfl rfl (one_of HT_.out (by kernel_rfl)) (by decide) (fun K hK => ?_)
   refine goes_ Try.func25 (by kernel_rfl) rfl #[.agg #[.string co, .slice cj bC.length ck], .agg #[.string bD, .slice pe bS.length pf]] (by rfl) rfl rfl (by (try simp only [List.map_toArray, List.map_cons, List.map_nil]); first | done | rfl | (simp only [List.length_drop, List.length_take]; rfl)) ?_
   with_reducible refine (quorumref0_EqChain.calls kj62 co _ _ bC bD _ _ bS false _ ?side1 ?side2 ?side3 ?side4 A117.out).mono ?_
   (case side1 => exact cr_ av)
   (case side2 => exact (Kd.R_reads' av.out).2.1)
   (case side3 => exact cr_ aA)
   (case side4 => exact (Kd.R_reads' aA.out).2.1)
   rintro e w128 ⟨rfl, hb⟩
   refine ⟨_, rfl, ?_⟩
   replace ad := mk0 (Kd.R_below (r_ ad) hb)
   replace aa := mk0 (Kd.R_below (r_ aa) hb)
   replace av := mk0 (Kd.R_below (r_ av) hb)
   replace aA := mk0 (Kd.R_below (r_ aA) hb)
   replace ab := mk0 (u_ ab hb)
   replace ac := mk0 (u_ ac hb)
   replace ae := mk0 (u_ ae hb)
   replace al := mk0 (u_ al hb)
   replace ak := mk0 (u_ ak hb)
   replace ap := mk0 (u_ ap hb)
   replace HB := mk0 (bt_ (b_ HB) hb)
   (try clear hb)
   (try clear hb2)
   (try clear hk)
   (try clear hi)
   refine hK.out _ _ ⟨bk_ ae 0, bk_ ae 1, bk_ ae 2, bk_ ak 0, bk_ ak 1, bk_ ak 2, bk_ al 0, bk_ al 1, bk_ ap 0, bk_ ap 1⟩ (fun hHeld => ?_)
   clear hK K
   refine norm_ (a' := ?_) ?_ ?_
   rotate_left
   ·show Act.put _ (some 166) _ = _
    simp only [z_]
    rfl
   refine pq_ HT_.out 19 167 (bt 31 1048575) (h := ?_)
   refine pq_ HT_.out 20 168 (bt 31 2097151) (h := ?_)
   refine pq_ HT_.out 21 169 (bt 31 4194303) (h := ?_)
   refine uq_ HT_.out 22 170 (bt 31 8388607) (h := ?_)
   refine uq_ HT_.out 23 171 (bt 31 16777215) (h := ?_)
   refine uq_ HT_.out 24 172 (bt 31 33554431) (h := ?_)
   refine uq_ HT_.out 25 173 (bt 31 67108863) (h := ?_)
   refine uq_ HT_.out 26 174 (bt 31 134217727) (h := ?_)
   refine uq_ HT_.out 27 175 (bt 31 268435455) (h := ?_)
   refine uq_ HT_.out 28 176 (bt 31 536870911) (h := ?_)
   refine uq_ HT_.out 29 177 (bt 31 1073741823) (h := ?_)
   refine pq_ HT_.out 30 178 (bt 31 2147483647) (h := ?_)
   refine done_ (done_of HT_.out (by kernel_rfl)) ?_
   try go_wp2
   go_meet
   case rel => exact ⟨_, (true), (by first | rfl | (simp; done) | (simp [*]; done)), H', ⟨by have := cC.out; have := br.out; have := cd.out; have := cn.out; have := dJ.out; have := cB.out; have := jE.out; first | omega | exact Nat.le_refl _⟩, ⟨by (with_reducible repeat (first | apply Ra_ | apply Rn_ | apply Rd_)); exact ad.out⟩, ⟨by (with_reducible repeat (first | apply Ra_ | apply Rn_ | apply Rd_)); exact aa.out⟩, ⟨by (with_reducible repeat (first | apply Ra_ | apply Rn_ | apply Rd_)); exact av.out⟩, ⟨by (with_reducible repeat (first | apply Ra_ | apply Rn_ | apply Rd_)); exact aA.out⟩, ⟨h_ ab⟩, ⟨h_ ac⟩, ⟨h_ ae⟩, ⟨h_ al⟩, ⟨h_ ak⟩, ⟨h_ ap⟩, ⟨b_ HB⟩⟩
  subst c118
  rw [if_pos rfl] at H
  by_cases c119 : 0 ≤ aj
  rotate_left
  ·rw [if_neg c119] at H
   exact absurd H (by simp)
  rw [if_pos c119] at H
  have sx : decide (0 ≤ aj) = true := decide_eq_true c119
  clear c119
  by_cases c120 : aj < (ai.length : Int)
  rotate_left
  ·rw [if_neg c120] at H
   exact absurd H (by simp)
  rw [if_pos c120] at H
  have sy : decide (aj < (ai.length : Int)) = true := decide_eq_true c120
  clear c120
  replace H := Option.bind_eq_some_iff.mp H
  obtain ⟨pg, A1210, H⟩ := H
  try dsimp only at H
  have A121 := mk0 A1210
  clear A1210
  have H' := mk0 H
  clear H
  try go_wp2
  replace ad := mk0 (Rd_ ad.out)
  replace aa := mk0 (Rd_ aa.out)
  replace av := mk0 (Rd_ av.out)
  replace aA := mk0 (Rd_ aA.out)
  replace ab := mk0 (bD_ ab.out)
  replace ac := mk0 (bD_ ac.out)
  replace ae := mk0 (bD_ ae.out)
  replace al := mk0 (bD_ al.out)
  replace ak := mk0 (bD_ ak.out)
  replace ap := mk0 (bD_ ap.out)
  replace HB := mk0 (b1_ HB.out)
  have nc : 0 ≤ (aj : Int) := of_decide_eq_true (by first | (with_reducible assumption) | assumption)
  have nf : aj < (ai.length : Int) := of_decide_eq_true (by first | (with_reducible assumption) | assumption)
  obtain ⟨ph, A323_1, c323_1, sA, hQ, hR, kv, kw⟩ := at_T30 dr.out aj nc nf
  have gg := hR
  have gh := hQ
  obtain rfl : aw = ph := (by injection sA)
  replace hQ := (bc_ HB hQ :)
  replace hR := (bc_ HB hR :)
  have kx := mk0 kw
  have lW := mk0 kv
  clear kw kv
  replace nc := eq_true nc
  replace nf := eq_true nf
  refine start_ (n := 31) (S := fun w' => w'.cell? ⟨ao, 0, none⟩ = some (.int .i64 bJ) ∧ w'.cell? ⟨ao, 1, none⟩ = some (.string bK) ∧ w'.cell? ⟨ao, 2, none⟩ = some (.bool bM) ∧ w'.cell? ⟨aD, 0, none⟩ = some (.int .i64 bs) ∧ w'.cell? ⟨aD, 1, none⟩ = some (.string bu) ∧ w'.cell? ⟨aD, 2, none⟩ = some (.bool bv) ∧ w'.cell? ⟨aX, 0, none⟩ = some (.string co) ∧ w'.cell? ⟨aX, 1, none⟩ = some (.slice cj bC.length ck) ∧ w'.cell? ⟨ba, 0, none⟩ = some (.string bD) ∧ w'.cell? ⟨ba, 1, none⟩ = some (u306001) ∧ w'.cell? ⟨az, 0, none⟩ = some (.string aM) ∧ w'.cell? ⟨az, 1, none⟩ = some (.slice aY aI.length aZ) ∧ w'.cell? ⟨af, 0, none⟩ = some (.slice (some aw) ai.length c0_0) ∧ w'.cell? ⟨af, 1, none⟩ = some (.slice A0_1 ah.length c0_1) ∧ w'.cell? ⟨af, 2, none⟩ = some (.slice A0_2 aE.length c0_2) ∧ w'.cell? ⟨af, 3, none⟩ = some (.slice A0_3 ay.length c0_3) ∧ w'.cell? (aw.add ((aj).toNat * 2)) = some (.string ((rd_T30 ai aj).f0)) ∧ w'.cell? ⟨(aw.add ((aj).toNat * 2)).block, (aw.add ((aj).toNat * 2)).off + 1, none⟩ = some (.slice A323_1 ((rd_T30 ai aj).f1).length c323_1)) (ds := []) (bt 31 0) (by kernel_rfl) rfl rfl ⟨bk_ ae 0, bk_ ae 1, bk_ ae 2, bk_ ak 0, bk_ ak 1, bk_ ak 2, bk_ al 0, bk_ al 1, bk_ ap 0, bk_ ap 1, bk_ ac 0, bk_ ac 1, bk_ ab 0, bk_ ab 1, bk_ ab 2, bk_ ab 3, (bc_ HB gh :), (bc_ HB gg :)⟩ (fun hHeld => ?_); refine with_tabW quorumlaw8_ChainTells.tab29 quorumlaw8_ChainTells.bits29 (fun HT_ HW_ => ?_)
  generalize wc.drew = w122 at ad aa av aA ab ac ae al ak ap HB kx hQ hR hHeld ⊢
  refine pq_ HT_.out 0 148 (bt 31 1) (h := ?_)
  refine pq_ HT_.out 2 150 (bt 31 5) (h := ?_)
  refine one_ (i := 1) (N := some 149) (bt 31 7) rfl rfl (one_of HT_.out (by kernel_rfl)) (by decide) (fun K hK => ?_)
  refine goes_ Try.func19 (by kernel_rfl) rfl #[.int .i64 ep] (by rfl) rfl rfl (by (try simp only [List.map_toArray, List.map_cons, List.map_nil]); first | done | rfl | (simp only [List.length_drop, List.length_take]; rfl)) ?_
  with_reducible refine (quorumlaw8_num.calls ep ip _ A111.out).mono ?_
  rintro e w' ⟨rfl, ⟨nd, rfl⟩⟩
  refine ⟨_, rfl, ?_⟩
  refine hK.out _ _ ⟨bk_ ae 0, bk_ ae 1, bk_ ae 2, bk_ ak 0, bk_ ak 1, bk_ ak 2, bk_ al 0, bk_ al 1, bk_ ap 0, bk_ ap 1, bk_ ac 0, bk_ ac 1, bk_ ab 0, bk_ ab 1, bk_ ab 2, bk_ ab 3, ((bc_ HB gh :)), ((bc_ HB gg :))⟩ (fun hHeld => ?_)
  clear hK K
  refine norm_ (a' := ?_) ?_ ?_
  rotate_left
  ·show Act.put _ (some 149) _ = _
   simp only [z_]
   rfl
  refine pq_ HT_.out 3 151 (bt 31 15) (h := ?_)
  refine pq_ HT_.out 4 152 (bt 31 31) (h := ?_)
  refine t1 HT_.out HW_.out 5 153 (bt 31 63) rfl rfl (by kernel_rfl) (fun _ _ _ h => h) (by rfl) (by rintro w' ⟨s0, s1, s2, s3, s4, s5, s6, s7, s8, s9, s10, s11, s12, s13, s14, s15, s16, s17⟩; go_simp; with_reducible rfl) hHeld (by simp only [z_]; rfl) ?_
  refine t1 HT_.out HW_.out 6 154 (bt 31 127) rfl rfl (by kernel_rfl) (fun _ _ _ h => h) (by rfl) (by rintro w' ⟨s0, s1, s2, s3, s4, s5, s6, s7, s8, s9, s10, s11, s12, s13, s14, s15, s16, s17⟩; go_simp; with_reducible rfl) hHeld (by simp only [z_]; rfl) ?_
  refine pq_ HT_.out 7 155 (bt 31 255) (h := ?_)
  refine pq_ HT_.out 8 156 (bt 31 511) (h := ?_)
  refine pq_ HT_.out 9 157 (bt 31 1023) (h := ?_)
  refine pq_ HT_.out 10 158 (bt 31 2047) (h := ?_)
  refine pq_ HT_.out 12 160 (bt 31 6143) (h := ?_)
  refine one_ (i := 11) (N := some 159) (bt 31 8191) rfl rfl (one_of HT_.out (by kernel_rfl)) (by decide) (fun K hK => ?_)
  refine goes_ Try.func19 (by kernel_rfl) rfl #[.int .i64 gF] (by rfl) rfl rfl (by (try simp only [List.map_toArray, List.map_cons, List.map_nil]); first | done | rfl | (simp only [List.length_drop, List.length_take]; rfl)) ?_
  with_reducible refine (quorumlaw8_num.calls gF jl _ A115.out).mono ?_
  rintro e w' ⟨rfl, ⟨nd, rfl⟩⟩
  refine ⟨_, rfl, ?_⟩
  obtain ⟨pi, pj, my⟩ := Kd.R_slice aA.out
  (first | subst my | (injection my with f1_ f2_ f3_; have f4_ := f1_.symm; have f5_ := f3_.symm; clear f1_ f2_ f3_; subst f4_; subst f5_))
  refine hK.out _ _ ⟨bk_ ae 0, bk_ ae 1, bk_ ae 2, bk_ ak 0, bk_ ak 1, bk_ ak 2, bk_ al 0, bk_ al 1, bk_ ap 0, bk_ ap 1, bk_ ac 0, bk_ ac 1, bk_ ab 0, bk_ ab 1, bk_ ab 2, bk_ ab 3, (bc_ HB gh :), (bc_ HB gg :)⟩ (fun hHeld => ?_)
  clear hK K
  refine norm_ (a' := ?_) ?_ ?_
  rotate_left
  ·show Act.put _ (some 159) _ = _
   simp only [z_]
   rfl
  refine pq_ HT_.out 13 161 (bt 31 16383) (h := ?_)
  refine pq_ HT_.out 14 162 (bt 31 32767) (h := ?_)
  refine pq_ HT_.out 15 163 (bt 31 65535) (h := ?_)
  refine t1 HT_.out HW_.out 16 164 (bt 31 131071) rfl rfl (by kernel_rfl) (fun _ _ _ h => h) (by rfl) (by rintro w' ⟨s0, s1, s2, s3, s4, s5, s6, s7, s8, s9, s10, s11, s12, s13, s14, s15, s16, s17⟩; go_simp; with_reducible rfl) hHeld (by simp only [z_]; rfl) ?_
  refine t1 HT_.out HW_.out 17 165 (bt 31 262143) rfl rfl (by kernel_rfl) (fun _ _ _ h => h) (by rfl) (by rintro w' ⟨s0, s1, s2, s3, s4, s5, s6, s7, s8, s9, s10, s11, s12, s13, s14, s15, s16, s17⟩; go_simp; with_reducible rfl) hHeld (by simp only [z_]; rfl) ?_
  refine one_ (i := 18) (N := some 166) (bt 31 524287) rfl rfl (one_of HT_.out (by kernel_rfl)) (by decide) (fun K hK => ?_)
  refine goes_ Try.func25 (by kernel_rfl) rfl #[.agg #[.string co, .slice cj bC.length ck], .agg #[.string bD, .slice pi bS.length pj]] (by rfl) rfl rfl (by (try simp only [List.map_toArray, List.map_cons, List.map_nil]); first | done | rfl | (simp only [List.length_drop, List.length_take]; rfl)) ?_
  with_reducible refine (quorumref0_EqChain.calls kj62 co _ _ bC bD _ _ bS true _ ?side1 ?side2 ?side3 ?side4 A117.out).mono ?_
  (case side1 => exact cr_ av)
  (case side2 => exact (Kd.R_reads' av.out).2.1)
  (case side3 => exact cr_ aA)
  (case side4 => exact (Kd.R_reads' aA.out).2.1)
  rintro e w124 ⟨rfl, hb⟩
  refine ⟨_, rfl, ?_⟩
  replace ad := mk0 (Kd.R_below (r_ ad) hb)
  replace aa := mk0 (Kd.R_below (r_ aa) hb)
  replace av := mk0 (Kd.R_below (r_ av) hb)
  replace aA := mk0 (Kd.R_below (r_ aA) hb)
  replace ab := mk0 (u_ ab hb)
  replace ac := mk0 (u_ ac hb)
  replace ae := mk0 (u_ ae hb)
  replace al := mk0 (u_ al hb)
  replace ak := mk0 (u_ ak hb)
  replace ap := mk0 (u_ ap hb)
  replace HB := mk0 (bt_ (b_ HB) hb)
  (try clear hb)
  (try clear hb2)
  (try clear hk)
  (try clear hi)
  refine hK.out _ _ ⟨bk_ ae 0, bk_ ae 1, bk_ ae 2, bk_ ak 0, bk_ ak 1, bk_ ak 2, bk_ al 0, bk_ al 1, bk_ ap 0, bk_ ap 1, bk_ ac 0, bk_ ac 1, bk_ ab 0, bk_ ab 1, bk_ ab 2, bk_ ab 3, (bc_ HB gh :), (bc_ HB gg :)⟩ (fun hHeld => ?_)
  clear hK K
  refine norm_ (a' := ?_) ?_ ?_
  rotate_left
  ·show Act.put _ (some 166) _ = _
   simp only [z_]
   rfl
  refine pq_ HT_.out 19 167 (bt 31 1048575) (h := ?_)
  refine pq_ HT_.out 20 168 (bt 31 2097151) (h := ?_)
  refine pq_ HT_.out 21 169 (bt 31 4194303) (h := ?_)
  refine pq_ HT_.out 23 171 (bt 31 12582911) (h := ?_)
  refine pq_ HT_.out 25 173 (bt 31 46137343) (h := ?_)
  refine t1 HT_.out HW_.out 22 170 (bt 31 50331647) rfl rfl (by kernel_rfl) (fun _ _ _ h => h) (by rfl) (by rintro w' ⟨s0, s1, s2, s3, s4, s5, s6, s7, s8, s9, s10, s11, s12, s13, s14, s15, s16, s17⟩; go_simp; with_reducible rfl) hHeld (by simp only [z_]; rfl) ?_
  refine t1 HT_.out HW_.out 24 172 (bt 31 67108863) rfl rfl (by kernel_rfl) (fun _ _ _ h => h) (by rfl) (by rintro w' ⟨s0, s1, s2, s3, s4, s5, s6, s7, s8, s9, s10, s11, s12, s13, s14, s15, s16, s17⟩; go_simp; with_reducible rfl) hHeld (by simp only [z_]; rfl) ?_
  refine pq_ HT_.out 26 174 (bt 31 134217727) (h := ?_)
  refine t1 HT_.out HW_.out 27 175 (bt 31 268435455) rfl rfl (by kernel_rfl) (fun _ _ _ h => h) (by rfl) (by rintro w' ⟨s0, s1, s2, s3, s4, s5, s6, s7, s8, s9, s10, s11, s12, s13, s14, s15, s16, s17⟩; go_simp; with_reducible rfl) hHeld (by simp only [z_]; rfl) ?_
  refine one_ (i := 28) (N := some 176) (bt 31 536870911) rfl rfl (one_of HT_.out (by kernel_rfl)) (by decide) (fun K hK => ?_)
  refine goes_ Try.func25 (by kernel_rfl) rfl #[.agg #[.string aM, .slice aY aI.length aZ], .agg #[.string ((rd_T30 ai aj).f0), .slice A323_1 ((rd_T30 ai aj).f1).length c323_1]] (by rfl) rfl rfl (by (try simp only [List.map_toArray, List.map_cons, List.map_nil]); first | done | rfl | (simp only [List.length_drop, List.length_take]; rfl)) ?_
  with_reducible refine (quorumref0_EqChain.calls kj62 aM _ _ aI ((rd_T30 ai aj).f0) _ _ ((rd_T30 ai aj).f1) pg _ ?side1 ?side2 ?side3 ?side4 A121.out).mono ?_
  (case side1 => exact cr_ aa)
  (case side2 => exact (Kd.R_reads' aa.out).2.1)
  (case side3 => exact cb_ kx HB)
  (case side4 => exact lW.out)
  rintro e w125 ⟨rfl, hb⟩
  refine ⟨_, rfl, ?_⟩
  replace ad := mk0 (Kd.R_below (r_ ad) hb)
  replace aa := mk0 (Kd.R_below (r_ aa) hb)
  replace av := mk0 (Kd.R_below (r_ av) hb)
  replace aA := mk0 (Kd.R_below (r_ aA) hb)
  replace ab := mk0 (u_ ab hb)
  replace ac := mk0 (u_ ac hb)
  replace ae := mk0 (u_ ae hb)
  replace al := mk0 (u_ al hb)
  replace ak := mk0 (u_ ak hb)
  replace ap := mk0 (u_ ap hb)
  replace HB := mk0 (bt_ (b_ HB) hb)
  (try clear hb)
  (try clear hb2)
  (try clear hk)
  (try clear hi)
  refine hK.out _ _ ⟨bk_ ae 0, bk_ ae 1, bk_ ae 2, bk_ ak 0, bk_ ak 1, bk_ ak 2, bk_ al 0, bk_ al 1, bk_ ap 0, bk_ ap 1, bk_ ac 0, bk_ ac 1, bk_ ab 0, bk_ ab 1, bk_ ab 2, bk_ ab 3, (bc_ HB gh :), (bc_ HB gg :)⟩ (fun hHeld => ?_)
  clear hK K
  refine norm_ (a' := ?_) ?_ ?_
  rotate_left
  ·show Act.put _ (some 176) _ = _
   simp only [z_]
   rfl
  refine pq_ HT_.out 29 177 (bt 31 1073741823) (h := ?_)
  refine pq_ HT_.out 30 178 (bt 31 2147483647) (h := ?_)
  refine done_ (done_of HT_.out (by kernel_rfl)) ?_
  try go_wp2
  go_meet
  case rel => exact ⟨_, (!pg), (by first | rfl | (simp; done) | (simp [*]; done)), H', ⟨by have := cC.out; have := br.out; have := cd.out; have := cn.out; have := dJ.out; have := cB.out; have := jE.out; first | omega | exact Nat.le_refl _⟩, ⟨by (with_reducible repeat (first | apply Ra_ | apply Rn_ | apply Rd_)); exact ad.out⟩, ⟨by (with_reducible repeat (first | apply Ra_ | apply Rn_ | apply Rd_)); exact aa.out⟩, ⟨by (with_reducible repeat (first | apply Ra_ | apply Rn_ | apply Rd_)); exact av.out⟩, ⟨by (with_reducible repeat (first | apply Ra_ | apply Rn_ | apply Rd_)); exact aA.out⟩, ⟨h_ ab⟩, ⟨h_ ac⟩, ⟨h_ ae⟩, ⟨h_ al⟩, ⟨h_ ak⟩, ⟨h_ ap⟩, ⟨b_ HB⟩⟩
 clear HC110
 try clear c19
 try clear c112
 try clear eo
 try clear iR
 try clear c116
 try clear iS
 try clear iT
 obtain ⟨kq, gf, rfl, HA, mz, ad, aa, av, aA, ab, ac, ae, al, ak, ap, HB⟩ := hcut
 cases kq with
 | zero => exact absurd HA.out (by simp [quorumlaw8_ChainTells.j8])
 | succ kj109 =>
 have H := HA.out
 clear HA
 simp only [quorumlaw8_ChainTells.j8] at H
 as_aux_lemma =>
 by_cases c131 : gf = true
 ·subst c131
  rw [if_pos rfl] at H
  obtain rfl := Option.some.inj H
  go_wp2
  go_ret
  exact ⟨by first | rfl | (simp [errW_none, errW_some] <;> rfl) | (simp [*, errW_none, errW_some] <;> rfl), b_ HB⟩
 replace c131 := Bool.eq_false_iff.mpr c131
 subst c131
 rw [if_neg (show ¬ (false = true) by decide)] at H
 have H' := mk0 H
 clear H
 go_wp2
 go_roundg kj109
 case measure => have := cC.out; have := br.out; have := cd.out; have := cn.out; have := dJ.out; have := cB.out; have := jE.out; have := mz.out; omega
 case rel => exact ⟨(wrap64 (aG + 1)), (by first | rfl | (simp; done) | (simp [*]; done)), H', ⟨by have := cC.out; have := br.out; have := cd.out; have := cn.out; have := dJ.out; have := cB.out; have := jE.out; have := mz.out; omega⟩, ⟨by (with_reducible repeat (first | apply Ra_ | apply Rn_ | apply Rd_)); exact ad.out⟩, ⟨by (with_reducible repeat (first | apply Ra_ | apply Rn_ | apply Rd_)); exact Kd.R_mono aa.out (fun _ hk => trivial)⟩, ⟨h_ ab⟩, ⟨h_ ac⟩, ⟨b_ HB⟩⟩

end Go.Proofs.Ytoodkefpkgbjcaa.PCht
