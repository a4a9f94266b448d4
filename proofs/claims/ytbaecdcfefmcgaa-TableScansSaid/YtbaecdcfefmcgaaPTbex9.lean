-- PRINTED by print.py (a twelfth state) out of the translation. Not trusted: Lean checks it.
import Derived.Test.YtbaecdcfefmcgaaPTbex0
import Derived.Test.YtbaecdcfefmcgaaPTbex4
import Derived.Test.YtbaecdcfefmcgaaPTbex5
import Derived.Test.YtbaecdcfefmcgaaPTbex8
import Derived.Test.YtbaecdcfefmcgaaShelfP
namespace Go.Proofs.Ytbaecdcfefmcgaa.PTbe
open Go.RowKit Go.Proofs.YtbaecdcfefmcgaaW.PrintWords Go.Proofs.YtbaecdcfefmcgaaW.PrintLast Go.Proofs.YtbaecdcfefmcgaaW.PrintMore
attribute [local go_sem] max2_int min2_int max_two min_two max_three min_three max_four min_four   -- for this text's walks alone
set_option maxHeartbeats 8000000
set_option maxRecDepth 100000
set_option linter.unusedVariables false
set_option linter.unusedSimpArgs false
/-! ### table_Left: function 120 -/
def table_Left.l0 : Nat → Int → List (S99) → Int → Int → List (S99) → Option ((List (S99)))
 | 0, _, _, _, _, _ => none
 | k + 1, x1, x9, x10, x11, x215000 => if x11 < x10 then (if 0 ≤ x11 then (if x11 < (x9.length : Int) then ((chain_Left.f k ((rd_T99 x9 x11).f0) ((rd_T99 x9 x11).f1) x1).bind fun bt217 => (if (bt217.2.length : Int) > 0 then (if x215000.length < 3518437208883 then (table_Left.l0 k x1 x9 x10 (wrap64 (x11 + 1)) (x215000 ++ [(⟨bt217.1, bt217.2⟩ : S99)])) else (none)) else (table_Left.l0 k x1 x9 x10 (wrap64 (x11 + 1)) x215000))) else (none)) else (none)) else (some x215000)
def table_Left.f (k : Nat) (l0_0 : List (S99)) (a1 : Int) : Option ((List (S99))) := table_Left.l0 k a1 l0_0 (l0_0.length : Int) 0 ([] : List (S99))
theorem table_Left.mono_l : ∀ k, (∀ y0 y1 y2 y3 y4, LeO (table_Left.l0 k y0 y1 y2 y3 y4) (table_Left.l0 (k + 1) y0 y1 y2 y3 y4))
 | 0 => fun _ _ _ _ _ r h => by simp [table_Left.l0] at h
 | k + 1 => by
  have ih0 := table_Left.mono_l k
  all_goals (intros; first | unfold table_Left.l0)
  all_goals (repeat' first | (with_reducible exact ih0 ..) | (with_reducible exact chain_Left.mono ..) | (with_reducible exact LeO.refl _) | (with_reducible exact LeO.none _) | (with_reducible refine LeO.ite ?_ ?_) | (with_reducible refine LeO.bind ?_ (fun _ => ?_)) | exact LeO.none _ | refine LeO.ite ?_ ?_ | refine LeO.bind ?_ (fun _ => ?_))
theorem table_Left.mono : ∀ a0 a1 k, LeO (table_Left.f k a0 a1) (table_Left.f (k + 1) a0 a1) := by
 intro a0 a1 k
 have ih0 := table_Left.mono_l k
 unfold table_Left.f
 repeat' first | (with_reducible exact ih0 ..) | (with_reducible exact chain_Left.mono ..) | (with_reducible exact LeO.refl _) | (with_reducible exact LeO.none _) | (with_reducible refine LeO.ite ?_ ?_) | (with_reducible refine LeO.bind ?_ (fun _ => ?_)) | exact LeO.none _ | refine LeO.ite ?_ ?_ | refine LeO.bind ?_ (fun _ => ?_)
theorem table_Left.calls (k : Nat) (A0_0 : Option Addr) (c0_0 : Nat) (l0_0 : List (S99)) (a1 : Int) (r : List (S99)) (w : World) (hr0_0 : Kd.C k99 w A0_0 l0_0.length l0_0) (hc0_0 : l0_0.length ≤ c0_0) (h : table_Left.f k l0_0 a1 = some r) :
  Calls Try.prog 120 #[.agg #[.slice A0_0 l0_0.length c0_0], .int .i64 a1] w fun e w' => ∃ v0_ : Value, e = .returned (.agg #[v0_]) ∧ Kd.S k99 99 w' w.heap.size (fun _ => True) v0_ r ∧ Below w.heap.size w w' := by
 have hu47 := Try.underlying47
 have hu99 := Try.underlying99
 have bg := mk0 hr0_0
 have cb := mk0 hc0_0
 clear hr0_0 hc0_0
 have HB := mk0 (Below.refl w.heap.size w)
 have H : (table_Left.l0 k a1 l0_0 (l0_0.length : Int) 0 ([] : List (S99))) = some r := h
 clear h
 have H' := mk0 H
 clear H
 go_enter Try.func120, Try.ntmps120
 go_wp2_with (first | ((with_reducible refine gate_dst (N := 2) rfl ?_); refine bx_ (N := 2) (cs := #[.slice A0_0 l0_0.length c0_0]) (t := 47) (h := ?_); intro ba hg w3 hbox hb; have n2_ := mk0 (gz_ HB hg); have bb := mk0 (gz_ HB hg); replace HB := mk0 (bt_ (b_ HB) hb); have ae := mk0 (hbox); have cc := bb; clear n2_ bb; clear hb hbox hg) | ((with_reducible refine gate_dst (N := 4) rfl ?_); refine bx_ (N := 4) (cs := #[.slice none 0 0]) (t := 47) (h := ?_); intro aQ hg w4 hbox hb; have bb := mk0 (gz_ HB hg); have bh := mk0 (gz_ HB hg); have aR := mk0 (ne1_ ae hg); have aT := mk0 (ne2_ ae hg); replace ae := mk0 (u_ ae hb); replace HB := mk0 (bt_ (b_ HB) hb); have ac := mk0 (hbox); have cd := bh; have ax := aR; have aH := aT; clear bb bh aR aT hb hbox hg; have cE := ax.out; have cF := aH.out; obtain ⟨bm, bn⟩ := c1_ ae))
 go_loopg [11] k (fun kq v11 w' => ∃ (ab : Int) (af : List (S99)) (aj : Value), v11 = .int .i64 ab ∧ Fc (table_Left.l0 kq a1 l0_0 (l0_0.length : Int) ab af = some r) ∧ Fc (kq ≤ k) ∧ Fc (Kd.S k99 99 w' w.heap.size (fun _ => True) aj af) ∧ Fc (w'.heap[ba]? = some (.cells #[(.slice A0_0 l0_0.length c0_0)] 47 (0, 0))) ∧ Fc (w'.heap[aQ]? = some (.cells #[aj] 47 (0, 0))) ∧ Fc (Below w.heap.size w w'))
 case atStart => exact ⟨(0), (([] : List (S99))), (.slice none 0 0), sm_, H', ⟨Nat.le_refl _⟩, ⟨nl_⟩, ⟨h_ ae⟩, ⟨h_ ac⟩, ⟨b_ HB⟩⟩
 case round =>
  clear H'
  try clear bm
  try clear bn
  obtain ⟨ab, af, aj, rfl, HA, bo, aa, ae, ac, HB⟩ := hrel
  cases gk with
  | zero => exact absurd HA.out (by simp [table_Left.l0])
  | succ k1 =>
   have H := HA.out
   clear HA
   simp only [table_Left.l0] at H
   as_aux_lemma =>
    by_cases c7 : ab < (l0_0.length : Int)
    ·rw [if_pos c7] at H
     have bB := decide_eq_true c7
     clear c7
     by_cases c8 : 0 ≤ ab
     ·rw [if_pos c8] at H
      have cG := decide_eq_true c8
      clear c8
      by_cases c9 : ab < (l0_0.length : Int)
      ·rw [if_pos c9] at H
       have cH := decide_eq_true c9
       clear c9
       replace H := ob_ H
       obtain ⟨⟨aw, ao⟩, bC, H⟩ := H
       try dsimp only at H
       by_cases bf : (ao.length : Int) > 0
       ·rw [if_pos bf] at H
        have bt := decide_eq_true bf
        have bu : decide (0 < ao.length) = true := decide_eq_true (by omega)
        clear bf
        by_cases bp : af.length < 3518437208883
        ·rw [if_pos bp] at H
         have LMc12 := mk0 bp
         clear bp
         obtain ⟨be, aU⟩ : ∃ y_ : List (S99), y_ = (af ++ [(⟨aw, ao⟩ : S99)]) := ⟨_, rfl⟩
         replace H : (table_Left.l0 k1 a1 l0_0 (l0_0.length : Int) (wrap64 (ab + 1)) be) = some r := by first | (rw [aU]; with_reducible exact H) | (have H2_ := (Option.bind_some _ _).symm.trans H; rw [aU]; with_reducible exact H2_) | (have H2_ := (Option.bind_some _ _).symm.trans H; with_reducible exact H2_) | with_reducible exact H | (rw [aU]; exact H) | exact H
         have bv := mk0 aU
         clear aU
         have H' := mk0 H
         clear H
         have aV : 0 ≤ (ab : Int) := od_
         have aW : ab < (l0_0.length : Int) := od_
         obtain ⟨bc, ar, au, bi, ay, az, aA, aC⟩ := at_T99 bg.out ab aV aW
         cases bi
         replace ay := (bc_ HB ay :)
         replace az := (bc_ HB az :)
         have aX := mk0 aC
         have aY := mk0 aA
         clear aC aA
         replace aV := eq_true aV
         replace aW := eq_true aW
         go_wp2_with (first | ((with_reducible refine gate_dst (N := 6) rfl ?_); refine bx_ (N := 6) (cs := #[.string (⟨#[]⟩ : ByteArray), .slice none 0 0]) (t := 99) (h := ?_); intro ai hg cJ hbox hb; have aR := mk0 (gz_ HB hg); have aT := mk0 (gz_ HB hg); have aZ := mk0 (ne1_ ae hg); have a3 := mk0 (ne2_ ae hg); have a4 := mk0 (ne1_ ac hg); have aD := mk0 (ne2_ ac hg); replace aa := mk0 (Kd.S_below (Kd.S_elderB (s_ aa) ai (Nat.le_of_eq hg.symm)) hb); replace ae := mk0 (u_ ae hb); replace ac := mk0 (u_ ac hb); replace HB := mk0 (bt_ (b_ HB) hb); have ag := mk0 (hbox); have bw := aR; have bx := aT; have ak := aZ; have aI := a3; have al := a4; have aJ := aD; clear aR aT aZ a3 a4 aD hb hbox hg; have ce := aI.out; have cf := ak.out; have cg := aJ.out; have ch := al.out; obtain ⟨bD, bE, bF, bG⟩ := c2_ ag) | ((with_reducible refine gate_callee (f := 165) rfl ?_); refine gL_ (some 17) Try.func165 #[.agg #[.string ((rd_T99 l0_0 ab).f0), .slice ar ((rd_T99 l0_0 ab).f1).length au], .int .i64 a1] (h := ?_); (with_reducible refine (chain_Left.calls k1 ((rd_T99 l0_0 ab).f0) _ _ ((rd_T99 l0_0 ab).f1) a1 aw ao _ ?side1 ?side2 bC.out).mono ?_); (case side1 => exact Kd.C_below aX.out (b_ HB)); (case side2 => exact aY.out); rintro e cK ⟨bH, rfl, ho0, hb⟩; refine ⟨_, rfl, ?_⟩; have a5 := mk0 (Kd.R_lower ho0 (bz_ (b_ HB))); replace aa := mk0 (Kd.S_elder' (s2_ (Kd.S_mono (Kd.S_far (p := ⟨ai, 1, none⟩) (Kd.S_far (p := ⟨ai, 0, none⟩) (Kd.S_mono aa.out (fun k_ hk => (⟨hk, hk.2⟩ : _ ∧ k_ ≠ ai))) (fun _ hk => hk.2) (.string ((rd_T99 l0_0 ab).f0))) (fun _ hk => hk.2) (.slice ar ((rd_T99 l0_0 ab).f1).length au)) (fun _ h_ => h_.1))) (Kd.R_base ho0) hb); replace ae := mk0 (blk_below (fa_ (fa_ (h_ ae) ak.out) ak.out) hb); replace ac := mk0 (blk_below (fa_ (fa_ (h_ ac) al.out) al.out) hb); replace ag := mk0 (blk_below (g := ai) (o := .cells #[.string ((rd_T99 l0_0 ab).f0), .slice ar ((rd_T99 l0_0 ab).f1).length au] 99 (0, 0)) (pu_ (cs := #[.string ((rd_T99 l0_0 ab).f0), .slice none 0 0]) (pu_ (cs := #[.string (⟨#[]⟩ : ByteArray), .slice none 0 0]) (h_ ag))) hb); replace HB := mk0 (bt_ (b_ HB) hb); have ap := a5; clear a5; (try clear hb); (try clear ho0)) | ((with_reducible refine gate_dst (N := 7) rfl ?_); refine bx_ (N := 7) (cs := #[.string (⟨#[]⟩ : ByteArray), .slice none 0 0]) (t := 99) (h := ?_); intro ah hg ci hbox hb; have aZ := mk0 (gz_ HB hg); have a3 := mk0 (gz_ HB hg); have a4 := mk0 (ne1_ ae hg); have aD := mk0 (ne2_ ae hg); have a6 := mk0 (ne1_ ac hg); have a7 := mk0 (ne2_ ac hg); have a8 := mk0 (ne1_ ag hg); have a9 := mk0 (ne2_ ag hg); replace aa := mk0 (Kd.S_below (Kd.S_elderB (s_ aa) ah (Nat.le_of_eq hg.symm)) hb); replace ap := mk0 (Kd.R_below (r_ ap) hb); replace ae := mk0 (u_ ae hb); replace ac := mk0 (u_ ac hb); replace ag := mk0 (u_ ag hb); replace HB := mk0 (bt_ (b_ HB) hb); have aq := mk0 (hbox); have bz := aZ; have bA := a3; have am := a4; have aK := aD; have an := a6; have aM := a7; have av := a8; have aN := a9; clear aZ a3 a4 aD a6 a7 a8 a9 hb hbox hg; have cj := aK.out; have ck := am.out; have cl := aM.out; have cm := an.out; have cn := aN.out; have co := av.out; obtain ⟨bI, bJ, bK, bL⟩ := c2_ aq; obtain ⟨aE, aG, bM⟩ := Kd.R_slice ap.out; subst bM) | ((with_reducible refine gate_store (t := 99) (p := 7) rfl ?_); refine sv_ (t := 99) (p := 7) (w1 := ((ci.setCell ⟨ah, 0, none⟩ (.string aw)).setCell ⟨ah, 1, none⟩ (.slice aE ao.length aG))) (h := ?_); intro bd hw; have bN : Fc (Kd.S k99 99 bd w.heap.size (fun k_ => some k_ ≠ (.slice aE ao.length aG : Value).ownBlock ∧ k_ ≠ ai ∧ k_ ≠ ah) aj af) := ⟨(by rw [hw]; exact (s2_ (Kd.S_mono (Kd.S_far (p := ⟨ah, 1, none⟩) (Kd.S_far (p := ⟨ah, 0, none⟩) (Kd.S_mono aa.out (fun k_ hk => (⟨hk, hk.2⟩ : _ ∧ k_ ≠ ah))) (fun _ hk => hk.2) (.string aw)) (fun _ hk => hk.2) (.slice aE ao.length aG)) (fun _ hk => ⟨hk.1.1.2, ⟨hk.1.1.1.2, hk.1.2⟩⟩))))⟩; have a5 : Fc (Kd.R k72 72 bd w.heap.size (fun _ => True) (.slice aE ao.length aG) ao) := ⟨(by rw [hw]; exact (r2_ (Kd.R_mono (Kd.R_far (p := ⟨ah, 1, none⟩) (Kd.R_far (p := ⟨ah, 0, none⟩) (Kd.R_types ap.out aq.out (by decide)) (fun _ hk => hk.2) (.string aw)) (fun _ hk => hk.2) (.slice aE ao.length aG)) (fun _ hk => trivial))))⟩; have n2_ : Fc (bd.heap[ba]? = some (.cells #[.slice (some bc) l0_0.length c0_0] 47 (0, 0))) := ⟨(by rw [hw]; exact (fa_ (fa_ (h_ ae) am.out) am.out))⟩; have bb : Fc (bd.heap[aQ]? = some (.cells #[aj] 47 (0, 0))) := ⟨(by rw [hw]; exact (fa_ (fa_ (h_ ac) an.out) an.out))⟩; have bh : Fc (bd.heap[ai]? = some (.cells #[.string ((rd_T99 l0_0 ab).f0), .slice ar ((rd_T99 l0_0 ab).f1).length au] 99 (0, 0))) := ⟨(by rw [hw]; exact (fa_ (fa_ (h_ ag) av.out) av.out))⟩; have aR : Fc (bd.heap[ah]? = some (.cells #[.string aw, .slice aE ao.length aG] 99 (0, 0))) := ⟨(by rw [hw]; exact (pu_ (cs := #[.string aw, .slice none 0 0]) (pu_ (cs := #[.string (⟨#[]⟩ : ByteArray), .slice none 0 0]) (h_ aq))))⟩; have aT : Fc (Below w.heap.size w bd) := ⟨(by rw [hw]; exact (b_ HB))⟩; clear hw aa ap ae ac ag aq HB; have aa := bN; have ap := a5; have ae := n2_; have ac := bb; have ag := bh; have aq := aR; have HB := aT; clear bN a5 n2_ bb bh aR aT; obtain ⟨bO, bP, bQ, bR⟩ := c2_ aq; have cp := aH.out; have cq := ax.out; obtain ⟨bS, bT⟩ := c1_ ac) | ((with_reducible refine gate_builtin (b := .append) (xs := #[.tmp 23, .tmp 25]) rfl ?_); at_builtin; refine Kd.S_append k99 (w0 := w) w.heap.size rfl (.tmp 23) (.tmp 25) 45 99 (.agg #[(.string ⟨#[]⟩), (.slice none 0 0)]) 40 rfl Try.underlying45 info99 rfl (by decide) (by omega) aj af (⟨aw, ao⟩ : S99) [.string aw, .slice aE ao.length aG] (fun k_ => k_ ≠ ai ∧ k_ ≠ ah) (fun k_ => some k_ = (.slice aE ao.length aG : Value).ownBlock) rfl rfl ?aP (fun k_ hk_ => ((Kd.R_mono (ok' := fun k_ => ((fun k_ => k_ ≠ ai ∧ k_ ≠ ah)) k_ ∧ some k_ ≠ (aj : Value).ownBlock) (Kd.R_types (Kd.R_types (Kd.R_apart' (ap.out) (Kd.S_typed aa.out) (by decide)) ag.out (by decide)) aq.out (by decide)) (fun k_ hk => ⟨⟨hk.1.2, hk.2⟩, hk.1.1.2⟩))).1 k_ hk_.symm) ?aF ?aO ?aB ?aS ?aL ?_; (case aP => exact k99_mkM _ _ _ (⟨aw, ao⟩ : S99) (Kd.R_mono (Kd.R_tight rfl (Kd.R_mono (ok' := fun k_ => ((fun k_ => k_ ≠ ai ∧ k_ ≠ ah)) k_ ∧ some k_ ≠ (aj : Value).ownBlock) (Kd.R_types (Kd.R_types (Kd.R_apart' (ap.out) (Kd.S_typed aa.out) (by decide)) ag.out (by decide)) aq.out (by decide)) (fun k_ hk => ⟨⟨hk.1.2, hk.2⟩, hk.1.1.2⟩))) (fun _ h_ => h_))); (case aB => exact (b_ HB)); (case aF => exact (fun k_ hk => ⟨Kd.freshB (g := ai) (o := .cells #[.string ((rd_T99 l0_0 ab).f0), .slice ar ((rd_T99 l0_0 ab).f1).length au] 99 (0, 0)) (h_ ag) k_ hk, Kd.freshB (g := ah) (o := .cells #[.string aw, .slice aE ao.length aG] 99 (0, 0)) (h_ aq) k_ hk⟩)); (case aO => exact (s2_ (Kd.S_mono aa.out (fun k_ hk => ⟨⟨hk.2.1, hk.2.2⟩, fun e_ => hk.1 e_⟩)))); (case aS => exact (bz_ (b_ HB))); (case aL => have := LMc12.out; omega); intro cI cL ho hb hg hat; rw [← bv.out] at ho; replace ae := mk0 (blk_grown (g := ba) (o := .cells #[.slice (some bc) l0_0.length c0_0] 47 (0, 0)) (h_ ae) hg (Kd.S_ne aa.out ae.out (by decide))); replace ac := mk0 (blk_grown (g := aQ) (o := .cells #[aj] 47 (0, 0)) (h_ ac) hg (Kd.S_ne aa.out ac.out (by decide))); replace ag := mk0 (blk_grown (g := ai) (o := .cells #[.string ((rd_T99 l0_0 ab).f0), .slice ar ((rd_T99 l0_0 ab).f1).length au] 99 (0, 0)) (h_ ag) hg (Kd.S_away aa.out (fun _ hk => hk.2.1))); replace aq := mk0 (blk_grown (g := ah) (o := .cells #[.string aw, .slice aE ao.length aG] 99 (0, 0)) (h_ aq) hg (Kd.S_away aa.out (fun _ hk => hk.2.2))); replace HB := mk0 (hb); have bj := mk0 (ho); clear aa ap; clear ho hb hg hat; obtain ⟨bq, br, bU⟩ := Kd.S_slice bj.out; subst bU; obtain ⟨bV, bW⟩ := c1_ ac))
         go_roundg k1
         case measure => have := bo.out; omega
         case rel => exact ⟨(wrap64 (ab + 1)), (be), (.slice bq be.length br), sm_, H', ⟨by have := bo.out; omega⟩, ⟨by (with_reducible repeat (first | apply Kd.S_alloc | apply Kd.S_drewN | apply Kd.S_drew)); exact Kd.S_mono (Kd.S_far (p := ⟨aQ, 0, none⟩) (Kd.S_types bj.out ac.out (by decide)) (fun _ hk => hk.2) (.slice bq be.length br)) (fun _ hk => trivial)⟩, ⟨(fa_ (h_ ae) ax.out)⟩, ⟨(pu_ (cs := #[aj]) (h_ ac))⟩, ⟨b_ HB⟩⟩
        ·rw [if_neg bp] at H
         exact absurd H (by simp)
       ·rw [if_neg bf] at H
        have bt := decide_eq_false bf
        have bu : decide (0 < ao.length) = false := decide_eq_false (by omega)
        clear bf
        have H' := mk0 H
        clear H
        have aV : 0 ≤ (ab : Int) := od_
        have aW : ab < (l0_0.length : Int) := od_
        obtain ⟨bc, ar, au, bi, ay, az, aA, aC⟩ := at_T99 bg.out ab aV aW
        cases bi
        replace ay := (bc_ HB ay :)
        replace az := (bc_ HB az :)
        have aX := mk0 aC
        have aY := mk0 aA
        clear aC aA
        replace aV := eq_true aV
        replace aW := eq_true aW
        go_wp2_with (first | ((with_reducible refine gate_dst (N := 6) rfl ?_); refine bx_ (N := 6) (cs := #[.string (⟨#[]⟩ : ByteArray), .slice none 0 0]) (t := 99) (h := ?_); intro ai hg cM hbox hb; have aR := mk0 (gz_ HB hg); have aT := mk0 (gz_ HB hg); have aZ := mk0 (ne1_ ae hg); have a3 := mk0 (ne2_ ae hg); have a4 := mk0 (ne1_ ac hg); have aD := mk0 (ne2_ ac hg); replace aa := mk0 (Kd.S_below (Kd.S_elderB (s_ aa) ai (Nat.le_of_eq hg.symm)) hb); replace ae := mk0 (u_ ae hb); replace ac := mk0 (u_ ac hb); replace HB := mk0 (bt_ (b_ HB) hb); have ag := mk0 (hbox); have bw := aR; have bx := aT; have ak := aZ; have aI := a3; have al := a4; have aJ := aD; clear aR aT aZ a3 a4 aD hb hbox hg; have cr := aI.out; have ct := ak.out; have cu := aJ.out; have cv := al.out; obtain ⟨bX, bY, bZ, b0⟩ := c2_ ag) | ((with_reducible refine gate_callee (f := 165) rfl ?_); refine gL_ (some 17) Try.func165 #[.agg #[.string ((rd_T99 l0_0 ab).f0), .slice ar ((rd_T99 l0_0 ab).f1).length au], .int .i64 a1] (h := ?_); (with_reducible refine (chain_Left.calls k1 ((rd_T99 l0_0 ab).f0) _ _ ((rd_T99 l0_0 ab).f1) a1 aw ao _ ?side1 ?side2 bC.out).mono ?_); (case side1 => exact Kd.C_below aX.out (b_ HB)); (case side2 => exact aY.out); rintro e cN ⟨bH, rfl, ho0, hb⟩; refine ⟨_, rfl, ?_⟩; have a5 := mk0 (Kd.R_lower ho0 (bz_ (b_ HB))); replace aa := mk0 (Kd.S_elder' (s2_ (Kd.S_mono (Kd.S_far (p := ⟨ai, 1, none⟩) (Kd.S_far (p := ⟨ai, 0, none⟩) (Kd.S_mono aa.out (fun k_ hk => (⟨hk, hk.2⟩ : _ ∧ k_ ≠ ai))) (fun _ hk => hk.2) (.string ((rd_T99 l0_0 ab).f0))) (fun _ hk => hk.2) (.slice ar ((rd_T99 l0_0 ab).f1).length au)) (fun _ h_ => h_.1))) (Kd.R_base ho0) hb); replace ae := mk0 (blk_below (fa_ (fa_ (h_ ae) ak.out) ak.out) hb); replace ac := mk0 (blk_below (fa_ (fa_ (h_ ac) al.out) al.out) hb); replace ag := mk0 (blk_below (g := ai) (o := .cells #[.string ((rd_T99 l0_0 ab).f0), .slice ar ((rd_T99 l0_0 ab).f1).length au] 99 (0, 0)) (pu_ (cs := #[.string ((rd_T99 l0_0 ab).f0), .slice none 0 0]) (pu_ (cs := #[.string (⟨#[]⟩ : ByteArray), .slice none 0 0]) (h_ ag))) hb); replace HB := mk0 (bt_ (b_ HB) hb); have ap := a5; clear a5; (try clear hb); (try clear ho0)) | ((with_reducible refine gate_dst (N := 7) rfl ?_); refine bx_ (N := 7) (cs := #[.string (⟨#[]⟩ : ByteArray), .slice none 0 0]) (t := 99) (h := ?_); intro ah hg cO hbox hb; have aZ := mk0 (gz_ HB hg); have a3 := mk0 (gz_ HB hg); have a4 := mk0 (ne1_ ae hg); have aD := mk0 (ne2_ ae hg); have a6 := mk0 (ne1_ ac hg); have a7 := mk0 (ne2_ ac hg); have a8 := mk0 (ne1_ ag hg); have a9 := mk0 (ne2_ ag hg); replace aa := mk0 (Kd.S_below (Kd.S_elderB (s_ aa) ah (Nat.le_of_eq hg.symm)) hb); replace ap := mk0 (Kd.R_below (r_ ap) hb); replace ae := mk0 (u_ ae hb); replace ac := mk0 (u_ ac hb); replace ag := mk0 (u_ ag hb); replace HB := mk0 (bt_ (b_ HB) hb); have aq := mk0 (hbox); have bz := aZ; have bA := a3; have am := a4; have aK := aD; have an := a6; have aM := a7; have av := a8; have aN := a9; clear aZ a3 a4 aD a6 a7 a8 a9 hb hbox hg; have cw := aK.out; have cx := am.out; have cy := aM.out; have cz := an.out; have cA := aN.out; have cB := av.out; obtain ⟨b1, b2, b3, b4⟩ := c2_ aq; obtain ⟨b5, b6, b7⟩ := Kd.R_slice ap.out; subst b7))
        go_roundg k1
        case measure => have := bo.out; omega
        case rel => exact ⟨(wrap64 (ab + 1)), (af), (aj), sm_, H', ⟨by have := bo.out; omega⟩, ⟨by (with_reducible repeat (first | apply Kd.S_alloc | apply Kd.S_drewN | apply Kd.S_drew)); exact Kd.S_mono (Kd.S_far (p := ⟨ah, 1, none⟩) (Kd.S_far (p := ⟨ah, 0, none⟩) (Kd.S_mono aa.out (fun k_ hk => (⟨hk, hk.2⟩ : _ ∧ k_ ≠ ah))) (fun _ hk => hk.2) (.string aw)) (fun _ hk => hk.2) (.slice b5 ao.length b6)) (fun _ hk => trivial)⟩, ⟨(fa_ (fa_ (h_ ae) am.out) am.out)⟩, ⟨(fa_ (fa_ (h_ ac) an.out) an.out)⟩, ⟨b_ HB⟩⟩
      ·rw [if_neg c9] at H
       exact absurd H (by simp)
     ·rw [if_neg c8] at H
      exact absurd H (by simp)
    ·rw [if_neg c7] at H
     have bB := decide_eq_false c7
     clear c7
     obtain rfl := Option.some.inj H
     have cC := aH.out
     have cD := ax.out
     obtain ⟨b8, b9⟩ := c1_ ac
     obtain ⟨bk, bl, ca⟩ := Kd.S_slice aa.out
     subst ca
     go_wp2
     refine bodyPost_ret (results_cell_row rfl _ _ aQ 47 #[.slice bk af.length bl] (0, 0) _ rfl (pu_ (cs := #[.slice bk af.length bl]) (h_ ac)) Try.underlying47 rfl (by kernel_rfl)) rfl ?_
     exact ⟨_, sa_, by (with_reducible repeat (first | apply Kd.S_alloc | apply Kd.S_drewN | apply Kd.S_drew)); exact Kd.S_mono (Kd.S_far (p := ⟨aQ, 0, none⟩) (Kd.S_types aa.out ac.out (by decide)) (fun _ hk => hk.2) (.slice bk af.length bl)) (fun _ hk => trivial), b_ HB⟩
/-! ### table_Purge: function 71 -/
def table_Purge.f (k : Nat) (l0_0 : List (S99)) (a1 : Int) : Option ((List (S99)) × Int) := (table_May.f k l0_0).bind fun t227 => (if t227 = true then ((table_Left.f k l0_0 a1).bind fun t228 => (some (t228, 0))) else (some (([] : List (S99)), 1)))
theorem table_Purge.mono : ∀ a0 a1 k, LeO (table_Purge.f k a0 a1) (table_Purge.f (k + 1) a0 a1) := by
 intro a0 a1 k
 unfold table_Purge.f
 repeat' first | (with_reducible exact table_Left.mono ..) | (with_reducible exact table_May.mono ..) | (with_reducible exact LeO.refl _) | (with_reducible exact LeO.none _) | (with_reducible refine LeO.ite ?_ ?_) | (with_reducible refine LeO.bind ?_ (fun _ => ?_)) | exact LeO.none _ | refine LeO.ite ?_ ?_ | refine LeO.bind ?_ (fun _ => ?_)
theorem table_Purge.calls (k : Nat) (A0_0 : Option Addr) (c0_0 : Nat) (l0_0 : List (S99)) (a1 : Int) (r1 : List (S99)) (r2 : Int) (w : World) (hr0_0 : Kd.C k99 w A0_0 l0_0.length l0_0) (hc0_0 : l0_0.length ≤ c0_0) (h : table_Purge.f k l0_0 a1 = some (r1, r2)) :
  Calls Try.prog 71 #[.agg #[.slice A0_0 l0_0.length c0_0], .int .i64 a1] w fun e w' => ∃ v0_ : Value, e = .returned (.tuple #[.agg #[v0_], .int .i64 r2]) ∧ Kd.S k99 99 w' w.heap.size (fun _ => True) v0_ r1 ∧ Below w.heap.size w w' := by
 have hu47 := Try.underlying47
 have ae := mk0 hr0_0
 have af := mk0 hc0_0
 clear hr0_0 hc0_0
 have HB := mk0 (Below.refl w.heap.size w)
 have H : ((table_May.f k l0_0).bind fun aj => (if aj = true then ((table_Left.f k l0_0 a1).bind fun ac => (some (ac, 0))) else (some (([] : List (S99)), 1)))) = some (r1, r2) := h
 clear h
 replace H := ob_ H
 obtain ⟨aj, A3, H⟩ := H
 try dsimp only at H
 by_cases c4 : aj = true
 focus
  subst c4
  rw [if_pos rfl] at H
  replace H := ob_ H
  obtain ⟨ac, A5, H⟩ := H
  try dsimp only at H
  simp only [Option.some.injEq, Prod.mk.injEq] at H
  obtain ⟨rfl, rfl⟩ := H
  go_enter Try.func71, Try.ntmps71
 rotate_left 1
 focus
  replace c4 := Bool.eq_false_iff.mpr c4
  subst c4
  rw [if_neg nf_] at H
  simp only [Option.some.injEq, Prod.mk.injEq] at H
  obtain ⟨rfl, rfl⟩ := H
  go_enter Try.func71, Try.ntmps71
 rotate_right 1
 all_goals go_wp2_with (first | ((with_reducible refine gate_dst (N := 2) rfl ?_); refine bx_ (N := 2) (cs := #[.slice A0_0 l0_0.length c0_0]) (t := 47) (h := ?_); intro aE hg w6 hbox hb; have n2_ := mk0 (gz_ HB hg); have ap := mk0 (gz_ HB hg); replace HB := mk0 (bt_ (b_ HB) hb); have aa := mk0 (hbox); have aG := ap; clear n2_ ap; clear hb hbox hg) | ((with_reducible refine gate_dst (N := 4) rfl ?_); refine bx_ (N := 4) (cs := #[.slice none 0 0]) (t := 47) (h := ?_); intro ag hg w7 hbox hb; have ap := mk0 (gz_ HB hg); have au := mk0 (gz_ HB hg); have av := mk0 (ne1_ aa hg); have aw := mk0 (ne2_ aa hg); replace aa := mk0 (u_ aa hb); replace HB := mk0 (bt_ (b_ HB) hb); have ab := mk0 (hbox); have aH := au; have ah := av; have ai := aw; clear ap au av aw hb hbox hg; have aI := ah.out; have aJ := ai.out; obtain ⟨aC, aD⟩ := c1_ aa) | ((with_reducible refine gate_callee (f := 95) rfl ?_); refine gL_ (some 7) Try.func95 #[.agg #[.slice A0_0 l0_0.length c0_0]] (h := ?_); (with_reducible refine (table_May.calls k _ _ l0_0 true _ ?side1 ?side2 A3.out).mono ?_); (case side1 => exact cb_ ae HB); (case side2 => exact af.out); rintro e aM ⟨rfl, hb⟩; refine ⟨_, rfl, ?_⟩; replace aa := mk0 (u_ aa hb); replace ab := mk0 (u_ ab hb); replace HB := mk0 (bt_ (b_ HB) hb); (try clear hb); obtain ⟨ak, al⟩ := c1_ aa; (try obtain ⟨am, an⟩ := c1_ ab)) | ((with_reducible refine gate_callee (f := 120) rfl ?_); refine gL_ (some 12) Try.func120 #[.agg #[.slice A0_0 l0_0.length c0_0], .int .i64 a1] (h := ?_); (with_reducible refine (table_Left.calls k _ _ l0_0 a1 ac _ ?side1 ?side2 A5.out).mono ?_); (case side1 => exact cb_ ae HB); (case side2 => exact af.out); rintro e aN ⟨aK, rfl, ho0, hb⟩; refine ⟨_, rfl, ?_⟩; have ax := mk0 (Kd.S_lower ho0 (bz_ (b_ HB))); replace aa := mk0 (u_ aa hb); replace ab := mk0 (u_ ab hb); replace HB := mk0 (bt_ (b_ HB) hb); have ao := ax; clear ax; (try clear hb); (try clear ho0); obtain ⟨aq, ar, ay⟩ := Kd.S_slice ao.out; subst ay; obtain ⟨az, aA⟩ := c1_ ab) | ((with_reducible refine gate_callee (f := 95) rfl ?_); refine gL_ (some 7) Try.func95 #[.agg #[.slice A0_0 l0_0.length c0_0]] (h := ?_); (with_reducible refine (table_May.calls k _ _ l0_0 false _ ?side1 ?side2 A3.out).mono ?_); (case side1 => exact cb_ ae HB); (case side2 => exact af.out); rintro e aQ ⟨rfl, hb⟩; refine ⟨_, rfl, ?_⟩; replace aa := mk0 (u_ aa hb); replace ab := mk0 (u_ ab hb); replace HB := mk0 (bt_ (b_ HB) hb); (try clear hb); obtain ⟨am, an⟩ := c1_ ab; (try obtain ⟨ak, al⟩ := c1_ aa)))
 ·refine bodyPost_ret (results_ct rfl _ _ ag 47 #[.slice aq ac.length ar] (0, 0) _ rfl (pu_ (cs := #[.slice none 0 0]) (h_ ab)) Try.underlying47 rfl (by kernel_rfl)) rfl ?_
  exact ⟨_, sa_, by (with_reducible repeat (first | apply Kd.S_alloc | apply Kd.S_drewN | apply Kd.S_drew)); exact Kd.S_mono (Kd.S_far (p := ⟨ag, 0, none⟩) (Kd.S_types ao.out ab.out (by decide)) (fun _ hk => hk.2) (.slice aq ac.length ar)) (fun _ hk => trivial), b_ HB⟩
 ·refine bodyPost_ret (results_ct rfl _ _ ag 47 #[.slice none 0 0] (0, 0) _ rfl (pu_ (cs := #[.slice none 0 0]) (h_ ab)) Try.underlying47 rfl (by kernel_rfl)) rfl ?_
  exact ⟨_, sa_, nl_, b_ HB⟩
/-! ### quorumref8_Purge: function 121 -/
def quorumref8_Purge.j0 : Nat → ByteArray → List (S72) → Option (ByteArray × (List (S72)) × Bool)
 | 0, _, _ => none
 | k + 1, x232000, x232001 => if (x232001.length : Int) = 0 then (some ((⟨#[]⟩ : ByteArray), ([] : List (S72)), false)) else (some (x232000, x232001, true))
def quorumref8_Purge.f (k : Nat) (a0_0 : ByteArray) (l0_1 : List (S72)) (a1 : Int) : Option (ByteArray × (List (S72)) × Bool) := (quorumref0_CopyChain.f k a0_0 l0_1).bind fun bt233 => ((quorumref8_newest.f k bt233.1 bt233.2 a1).bind fun t237 => (if t237 ≥ 0 then (if 0 ≤ t237 then (if t237 < (bt233.2.length : Int) then (if ((rd_T72 bt233.2 t237).f2 = true) then (if t237 ≤ (bt233.2.length : Int) then (quorumref8_Purge.j0 k bt233.1 (bt233.2.take (t237 : Int).toNat)) else (none)) else (if 0 ≤ (wrap64 (t237 + 1)) then (if (wrap64 (t237 + 1)) ≤ (bt233.2.length : Int) then (quorumref8_Purge.j0 k bt233.1 (bt233.2.take ((wrap64 (t237 + 1)) : Int).toNat)) else (none)) else (none))) else (none)) else (none)) else (quorumref8_Purge.j0 k bt233.1 bt233.2)))
theorem quorumref8_Purge.mono_l : ∀ k, (∀ y0 y1, LeO (quorumref8_Purge.j0 k y0 y1) (quorumref8_Purge.j0 (k + 1) y0 y1))
 | 0 => fun _ _ r h => by simp [quorumref8_Purge.j0] at h
 | k + 1 => by
  have ih0 := quorumref8_Purge.mono_l k
  all_goals (intros; first | unfold quorumref8_Purge.j0)
  all_goals (repeat' first | (with_reducible exact ih0 ..) | (with_reducible exact quorumref0_CopyChain.mono ..) | (with_reducible exact quorumref8_newest.mono ..) | (with_reducible exact LeO.refl _) | (with_reducible exact LeO.none _) | (with_reducible refine LeO.ite ?_ ?_) | (with_reducible refine LeO.bind ?_ (fun _ => ?_)) | exact LeO.none _ | refine LeO.ite ?_ ?_ | refine LeO.bind ?_ (fun _ => ?_))
theorem quorumref8_Purge.mono : ∀ a0 a1 a2 k, LeO (quorumref8_Purge.f k a0 a1 a2) (quorumref8_Purge.f (k + 1) a0 a1 a2) := by
 intro a0 a1 a2 k
 have ih0 := quorumref8_Purge.mono_l k
 unfold quorumref8_Purge.f
 repeat' first | (with_reducible exact ih0 ..) | (with_reducible exact quorumref0_CopyChain.mono ..) | (with_reducible exact quorumref8_newest.mono ..) | (with_reducible exact LeO.refl _) | (with_reducible exact LeO.none _) | (with_reducible refine LeO.ite ?_ ?_) | (with_reducible refine LeO.bind ?_ (fun _ => ?_)) | exact LeO.none _ | refine LeO.ite ?_ ?_ | refine LeO.bind ?_ (fun _ => ?_)
theorem quorumref8_Purge.calls (k : Nat) (a0_0 : ByteArray) (A0_1 : Option Addr) (c0_1 : Nat) (l0_1 : List (S72)) (a1 : Int) (r1 : ByteArray) (r2 : List (S72)) (r3 : Bool) (w : World) (hr0_1 : Kd.C k72 w A0_1 l0_1.length l0_1) (hc0_1 : l0_1.length ≤ c0_1) (h : quorumref8_Purge.f k a0_0 l0_1 a1 = some (r1, r2, r3)) :
  Calls Try.prog 121 #[.agg #[.string a0_0, .slice A0_1 l0_1.length c0_1], .int .i64 a1] w fun e w' => ∃ v1_ : Value, e = .returned (.tuple #[.agg #[.string r1, v1_], .bool r3]) ∧ Kd.R k72 72 w' w.heap.size (fun _ => True) v1_ r2 ∧ Below w.heap.size w w' := by
 have hu99 := Try.underlying99
 have bf := mk0 hr0_1
 have bg := mk0 hc0_1
 clear hr0_1 hc0_1
 have HB := mk0 (Below.refl w.heap.size w)
 have H : ((quorumref0_CopyChain.f k a0_0 l0_1).bind fun bt233 => ((quorumref8_newest.f k bt233.1 bt233.2 a1).bind fun aa => (if aa ≥ 0 then (if 0 ≤ aa then (if aa < (bt233.2.length : Int) then (if ((rd_T72 bt233.2 aa).f2 = true) then (if aa ≤ (bt233.2.length : Int) then (quorumref8_Purge.j0 k bt233.1 (bt233.2.take (aa : Int).toNat)) else (none)) else (if 0 ≤ (wrap64 (aa + 1)) then (if (wrap64 (aa + 1)) ≤ (bt233.2.length : Int) then (quorumref8_Purge.j0 k bt233.1 (bt233.2.take ((wrap64 (aa + 1)) : Int).toNat)) else (none)) else (none))) else (none)) else (none)) else (quorumref8_Purge.j0 k bt233.1 bt233.2)))) = some (r1, r2, r3) := h
 clear h
 replace H := ob_ H
 obtain ⟨⟨ah, ac⟩, A3, H⟩ := H
 try dsimp only at H
 replace H := ob_ H
 obtain ⟨aa, A4, H⟩ := H
 try dsimp only at H
 have HC5 := mk0 H
 clear H
 go_enter Try.func121, Try.ntmps121
 go_upto_if 13 with (first | ((with_reducible refine gate_dst (N := 2) rfl ?_); refine bx_ (N := 2) (cs := #[.string a0_0, .slice A0_1 l0_1.length c0_1]) (t := 99) (h := ?_); intro am hg w6 hbox hb; have n2_ := mk0 (gz_ HB hg); have aZ := mk0 (gz_ HB hg); replace HB := mk0 (bt_ (b_ HB) hb); have ab := mk0 (hbox); have bT := aZ; clear n2_ aZ; clear hb hbox hg) | ((with_reducible refine gate_dst (N := 4) rfl ?_); refine bx_ (N := 4) (cs := #[.string (⟨#[]⟩ : ByteArray), .slice none 0 0]) (t := 99) (h := ?_); intro ao hg w7 hbox hb; have aZ := mk0 (gz_ HB hg); have bn := mk0 (gz_ HB hg); have bo := mk0 (ne1_ ab hg); have bp := mk0 (ne2_ ab hg); replace ab := mk0 (u_ ab hb); replace HB := mk0 (bt_ (b_ HB) hb); have ai := mk0 (hbox); have bU := bn; have aj := bo; have ae := bp; clear aZ bn bo bp hb hbox hg; have cc := aj.out; have cd := ae.out; obtain ⟨a3, a4, a5, a6⟩ := c2_ ab) | ((with_reducible refine gate_callee (f := 119) rfl ?_); refine gL_ (some 8) Try.func119 #[.agg #[.string a0_0, .slice A0_1 l0_1.length c0_1]] (h := ?_); (with_reducible refine (quorumref0_CopyChain.calls k a0_0 _ _ l0_1 ah ac _ ?side1 ?side2 A3.out).mono ?_); (case side1 => exact cb_ bf HB); (case side2 => exact bg.out); rintro e ch ⟨ce, rfl, ho0, hb⟩; refine ⟨_, rfl, ?_⟩; have aI := mk0 (Kd.R_lower ho0 (bz_ (b_ HB))); replace ab := mk0 (u_ ab hb); replace ai := mk0 (blk_below (g := ao) (o := .cells #[.string (⟨#[]⟩ : ByteArray), .slice none 0 0] 99 (0, 0)) (h_ ai) hb); replace HB := mk0 (bt_ (b_ HB) hb); have af := aI; clear aI; (try clear hb); (try clear ho0); obtain ⟨aJ, aK, aM, aN⟩ := c2_ ab; obtain ⟨az, ak, bq⟩ := Kd.R_slice af.out; subst bq) | ((with_reducible refine gate_callee (f := 100) rfl ?_); refine gL_ (some 11) Try.func100 #[.agg #[.string ah, .slice az ac.length ak], .int .i64 a1] (h := ?_); (with_reducible refine (quorumref8_newest.calls k ah _ _ ac a1 aa _ ?side1 ?side2 A4.out).mono ?_); (case side1 => refine (Kd.R_reads' (e := 72) (base := w.heap.size) (ok := fun k_ => True) (n := ac.length) (c := ak) ?_).2.2; exact (r2_ (Kd.R_mono (Kd.R_far (p := ⟨am, 1, none⟩) (Kd.R_far (p := ⟨am, 0, none⟩) (Kd.R_types af.out ab.out (by decide)) (fun _ hk => hk.2) (.string ah)) (fun _ hk => hk.2) (.slice az ac.length ak)) (fun _ h_ => h_.1)))); (case side2 => exact (Kd.R_reads' af.out).2.1); rintro e ci ⟨rfl, hb⟩; refine ⟨_, rfl, ?_⟩; have aI := mk0 (Kd.R_below (r2_ (Kd.R_mono (Kd.R_far (p := ⟨am, 1, none⟩) (Kd.R_far (p := ⟨am, 0, none⟩) (Kd.R_types af.out ab.out (by decide)) (fun _ hk => hk.2) (.string ah)) (fun _ hk => hk.2) (.slice az ac.length ak)) (fun _ h_ => h_.1))) hb); replace ab := mk0 (blk_below (g := am) (o := .cells #[.string ah, .slice az ac.length ak] 99 (0, 0)) (pu_ (cs := #[.string ah, .slice A0_1 l0_1.length c0_1]) (pu_ (cs := #[.string a0_0, .slice A0_1 l0_1.length c0_1]) (h_ ab))) hb); replace ai := mk0 (blk_below (g := ao) (o := .cells #[.string (⟨#[]⟩ : ByteArray), .slice none 0 0] 99 (0, 0)) (fa_ (fa_ (h_ ai) ae.out) ae.out) hb); replace HB := mk0 (bt_ (b_ HB) hb); clear af; have af := aI; clear aI; (try clear hb)))
 (try simp only [Act.put, List.setIfInBounds_toArray, List.set_cons_zero, List.set_cons_succ])
 go_cut [] (fun wc => ∃ (kq : Nat) (ag : List (S72)) (aq : Value), Fc (quorumref8_Purge.j0 kq ah ag = some (r1, r2, r3)) ∧ Fc (kq ≤ k) ∧ Fc (Kd.R k72 72 wc w.heap.size (fun _ => True) aq ag) ∧ Fc (wc.heap[am]? = some (.cells #[.string ah, aq] 99 (0, 0))) ∧ Fc (wc.heap[ao]? = some (.cells #[.string (⟨#[]⟩ : ByteArray), (.slice none 0 0)] 99 (0, 0))) ∧ Fc (Below w.heap.size w wc))
 case first =>
  have H := HC5.out
  clear HC5
  by_cases aH : aa ≥ 0
  ·rw [if_pos aH] at H
   have ar := decide_eq_true aH
   clear aH
   (first | rw [ar] | (simp only [i64_w, i32_w]; rw [ar]) | skip)
   by_cases a7 : 0 ≤ aa
   ·rw [if_pos a7] at H
    have bV := decide_eq_true a7
    clear a7
    by_cases a8 : aa < (ac.length : Int)
    ·rw [if_pos a8] at H
     have bW := decide_eq_true a8
     clear a8
     obtain ⟨ba, aE⟩ : ∃ b_ : Bool, b_ = ((rd_T72 ac aa).f2) := ⟨_, rfl⟩
     replace H : (if (ba = true) then (if aa ≤ (ac.length : Int) then (quorumref8_Purge.j0 k ah (ac.take (aa : Int).toNat)) else (none)) else (if 0 ≤ (wrap64 (aa + 1)) then (if (wrap64 (aa + 1)) ≤ (ac.length : Int) then (quorumref8_Purge.j0 k ah (ac.take ((wrap64 (aa + 1)) : Int).toNat)) else (none)) else (none))) = some (r1, r2, r3) := by rw [← aE] at H; exact H
     have Nbq17 := mk0 aE
     clear aE
     by_cases a9 : (ba = true)
     ·subst a9
      rw [if_pos rfl] at H
      by_cases aQ : aa ≤ (ac.length : Int)
      ·rw [if_pos aQ] at H
       have bX := eq_true aQ
       have bY := decide_eq_true aQ
       clear aQ
       obtain ⟨aA, au⟩ : ∃ y_ : List (S72), y_ = (ac.take (aa : Int).toNat) := ⟨_, rfl⟩
       replace H : (quorumref8_Purge.j0 k ah aA) = some (r1, r2, r3) := by first | (rw [au]; with_reducible exact H) | (have H2_ := (Option.bind_some _ _).symm.trans H; rw [au]; with_reducible exact H2_) | (have H2_ := (Option.bind_some _ _).symm.trans H; with_reducible exact H2_) | with_reducible exact H | (rw [au]; exact H) | exact H
       have aR := mk0 au
       clear au
       have H' := mk0 H
       clear H
       have bZ := aj.out
       have b0 := ae.out
       obtain ⟨br, bt, bu, bv⟩ := c2_ ab
       have av : 0 ≤ (aa : Int) := od_
       have aw : aa < (ac.length : Int) := od_
       obtain ⟨al, aT, aU, aV, ax⟩ := at_T72 (Kd.R_reads' af.out).2.2 aa av aw
       (try rw [← Nbq17.out] at ax)
       cases aT
       replace av := eq_true av
       replace aw := eq_true aw
       have bh : (aa : Int) ≤ ((ac.length : Int) : Int) := od_
       obtain ⟨i022, hi022, _, hsz22, _⟩ := info_parts info72
       have hcut22 := cut_to (P := Try.prog) 97 72 .i64 Try.underlying97 hi022 (some al) ac.length ak aa od_ bh (Kd.R_reads' af.out).2.1
       have hr22 := Kd.R_take (m := (aa : Int).toNat) af.out (by omega)
       have bb : aA.length = (aa : Int).toNat := (by rw [aR.out, List.length_take]; omega)
       rw [← aR.out] at hr22
       rw [← bb] at hr22 hcut22
       clear bb hi022 hsz22 af
       have bi := mk0 hr22
       clear hr22
       replace bh := eq_true bh
       go_wp2
       go_meet
       case rel => exact ⟨_, (aA), (.slice (some al) aA.length ak), H', ⟨by first | omega | exact Nat.le_refl _⟩, ⟨by (with_reducible repeat (first | apply Ra_ | apply Rn_ | apply Rd_)); exact Kd.R_mono (Kd.R_far (p := ⟨am, 1, none⟩) (Kd.R_types bi.out ab.out (by decide)) (fun _ hk => hk.2) (.slice (some al) aA.length ak)) (fun _ hk => trivial)⟩, ⟨(pu_ (cs := #[.string ah, .slice (some al) ac.length ak]) (h_ ab))⟩, ⟨(fa_ (h_ ai) ae.out)⟩, ⟨b_ HB⟩⟩
      ·rw [if_neg aQ] at H
       exact absurd H (by simp)
     ·replace a9 := Bool.eq_false_iff.mpr a9
      subst a9
      rw [if_neg nf_] at H
      obtain ⟨an, aG⟩ : ∃ j_ : Int, (wrap64 (aa + 1)) = j_ := ⟨_, rfl⟩
      replace H : (if 0 ≤ (an) then (if (an) ≤ (ac.length : Int) then (quorumref8_Purge.j0 k ah (ac.take ((an) : Int).toNat)) else (none)) else (none)) = some (r1, r2, r3) := by first | (rw [aG] at H; exact H) | (simp only [aG] at H ⊢; exact H)
      have hji23w : (IntKind.i64.wrap (aa + 1)) = an := (i64_w _).trans aG
      by_cases aW : 0 ≤ (an)
      ·rw [if_pos aW] at H
       have b1 := eq_true aW
       have b2 := decide_eq_true aW
       clear aW
       by_cases aX : (an) ≤ (ac.length : Int)
       ·rw [if_pos aX] at H
        have b3 := eq_true aX
        have b4 := decide_eq_true aX
        clear aX
        obtain ⟨aC, ay⟩ : ∃ y_ : List (S72), y_ = (ac.take ((an) : Int).toNat) := ⟨_, rfl⟩
        replace H : (quorumref8_Purge.j0 k ah aC) = some (r1, r2, r3) := by first | (rw [ay]; with_reducible exact H) | (have H2_ := (Option.bind_some _ _).symm.trans H; rw [ay]; with_reducible exact H2_) | (have H2_ := (Option.bind_some _ _).symm.trans H; with_reducible exact H2_) | with_reducible exact H | (rw [ay]; exact H) | exact H
        have aY := mk0 ay
        clear ay
        have H' := mk0 H
        clear H
        have b5 := aj.out
        have b6 := ae.out
        obtain ⟨bw, bx, bz, bA⟩ := c2_ ab
        have av : 0 ≤ (aa : Int) := od_
        have aw : aa < (ac.length : Int) := od_
        obtain ⟨al, aT, aU, aV, ax⟩ := at_T72 (Kd.R_reads' af.out).2.2 aa av aw
        (try rw [← Nbq17.out] at ax)
        cases aT
        replace av := eq_true av
        replace aw := eq_true aw
        have bj : ((an) : Int) ≤ ((ac.length : Int) : Int) := od_
        obtain ⟨i028, hi028, _, hsz28, _⟩ := info_parts info72
        have hcut28 := cut_to (P := Try.prog) 97 72 .i64 Try.underlying97 hi028 (some al) ac.length ak (an) od_ bj (Kd.R_reads' af.out).2.1
        have hr28 := Kd.R_take (m := ((an) : Int).toNat) af.out (by omega)
        have bc : aC.length = ((an) : Int).toNat := (by rw [aY.out, List.length_take]; omega)
        rw [← aY.out] at hr28
        rw [← bc] at hr28 hcut28
        clear bc hi028 hsz28 af
        have bk := mk0 hr28
        clear hr28
        replace bj := eq_true bj
        go_wp2
        go_meet
        case rel => exact ⟨_, (aC), (.slice (some al) aC.length ak), H', ⟨by first | omega | exact Nat.le_refl _⟩, ⟨by (with_reducible repeat (first | apply Ra_ | apply Rn_ | apply Rd_)); exact Kd.R_mono (Kd.R_far (p := ⟨am, 1, none⟩) (Kd.R_types bk.out ab.out (by decide)) (fun _ hk => hk.2) (.slice (some al) aC.length ak)) (fun _ hk => trivial)⟩, ⟨(pu_ (cs := #[.string ah, .slice (some al) ac.length ak]) (h_ ab))⟩, ⟨(fa_ (h_ ai) ae.out)⟩, ⟨b_ HB⟩⟩
       ·rw [if_neg aX] at H
        exact absurd H (by simp)
      ·rw [if_neg aW] at H
       exact absurd H (by simp)
    ·rw [if_neg a8] at H
     exact absurd H (by simp)
   ·rw [if_neg a7] at H
    exact absurd H (by simp)
  ·rw [if_neg aH] at H
   have ar := decide_eq_false aH
   clear aH
   (first | rw [ar] | (simp only [i64_w, i32_w]; rw [ar]) | skip)
   have H' := mk0 H
   clear H
   go_wp2
   go_meet
   case rel => exact ⟨_, (ac), (.slice az ac.length ak), H', ⟨by first | omega | exact Nat.le_refl _⟩, ⟨r2_ af.out⟩, ⟨h_ ab⟩, ⟨h_ ai⟩, ⟨b_ HB⟩⟩
 case rest =>
  clear HC5
  try clear aJ
  try clear aK
  try clear a3
  try clear a4
  try clear aM
  try clear aN
  try clear a5
  try clear a6
  obtain ⟨kq, ag, aq, HA, cj, ap, ab, ai, HB⟩ := hcut
  cases kq with
  | zero => exact absurd HA.out (by simp [quorumref8_Purge.j0])
  | succ ck =>
   have H := HA.out
   clear HA
   simp only [quorumref8_Purge.j0] at H
   as_aux_lemma =>
    by_cases aD : (ag.length : Int) = 0
    ·rw [if_pos aD] at H
     have bl := beq_iff_eq.mpr aD
     have bm := bne_eq_false_iff_eq.mpr aD
     clear aD
     simp only [Option.some.injEq, Prod.mk.injEq] at H
     obtain ⟨rfl, rfl, rfl⟩ := H
     have b7 := aj.out
     have b8 := ae.out
     obtain ⟨bB, bC, bD, bE⟩ := c2_ ab
     obtain ⟨cf, cg, bF⟩ := Kd.R_slice ap.out
     subst bF
     obtain ⟨bG, bH, bI, bJ⟩ := c2_ ai
     go_wp2
     refine bodyPost_ret (results_ct rfl _ _ ao 99 #[.string (⟨#[]⟩ : ByteArray), .slice none 0 0] (0, 0) _ rfl (pu_ (cs := #[.string (⟨#[]⟩ : ByteArray), .slice none 0 0]) (pu_ (cs := #[.string (⟨#[]⟩ : ByteArray), .slice none 0 0]) (h_ ai))) Try.underlying99 rfl (by kernel_rfl)) rfl ?_
     exact ⟨_, sa_, nl_, b_ HB⟩
    ·rw [if_neg aD] at H
     have bl := beq_eq_false_iff_ne.mpr aD
     have bm := bne_iff_ne.mpr aD
     have b9 : ¬ (ag = []) := fun h_ => aD (by rw [h_]; rfl)
     simp only [Option.some.injEq, Prod.mk.injEq] at H
     obtain ⟨rfl, rfl, rfl⟩ := H
     have ca := aj.out
     have cb := ae.out
     obtain ⟨bK, bL, bM, bN⟩ := c2_ ab
     obtain ⟨bd, be, bO⟩ := Kd.R_slice ap.out
     subst bO
     obtain ⟨bP, bQ, bR, bS⟩ := c2_ ai
     go_wp2
     refine bodyPost_ret (results_ct rfl _ _ ao 99 #[.string ah, .slice bd ag.length be] (0, 0) _ rfl (pu_ (cs := #[.string ah, .slice none 0 0]) (pu_ (cs := #[.string (⟨#[]⟩ : ByteArray), .slice none 0 0]) (h_ ai))) Try.underlying99 rfl (by kernel_rfl)) rfl ?_
     exact ⟨_, sa_, by (with_reducible repeat (first | apply Ra_ | apply Rn_ | apply Rd_)); exact Kd.R_mono (Kd.R_far (p := ⟨ao, 1, none⟩) (Kd.R_far (p := ⟨ao, 0, none⟩) (Kd.R_types ap.out ai.out (by decide)) (fun _ hk => hk.2) (.string ah)) (fun _ hk => hk.2) (.slice bd ag.length be)) (fun _ hk => trivial), b_ HB⟩
/-! ### quorumref8_PurgeAll: function 72 -/
def quorumref8_PurgeAll.l0 : Nat → Int → Int → List (S99) → List (S99) → Option ((List (S99)))
 | 0, _, _, _, _ => none
 | k + 1, x1, x6, x246000, x248000 => if x6 < (x246000.length : Int) then (if 0 ≤ x6 then ((quorumref8_Purge.f k ((rd_T99 x246000 x6).f0) ((rd_T99 x246000 x6).f1) x1).bind fun bt249 => (if bt249.2.2 = true then (if x248000.length < 3518437208883 then (quorumref8_PurgeAll.l0 k x1 (wrap64 (x6 + 1)) x246000 (x248000 ++ [(⟨bt249.1, bt249.2.1⟩ : S99)])) else (none)) else (quorumref8_PurgeAll.l0 k x1 (wrap64 (x6 + 1)) x246000 x248000))) else (none)) else (some x248000)
def quorumref8_PurgeAll.f (k : Nat) (l0_0 : List (S99)) (a1 : Int) : Option ((List (S99))) := quorumref8_PurgeAll.l0 k a1 0 l0_0 ([] : List (S99))
theorem quorumref8_PurgeAll.mono_l : ∀ k, (∀ y0 y1 y2 y3, LeO (quorumref8_PurgeAll.l0 k y0 y1 y2 y3) (quorumref8_PurgeAll.l0 (k + 1) y0 y1 y2 y3))
 | 0 => fun _ _ _ _ r h => by simp [quorumref8_PurgeAll.l0] at h
 | k + 1 => by
  have ih0 := quorumref8_PurgeAll.mono_l k
  all_goals (intros; first | unfold quorumref8_PurgeAll.l0)
  all_goals (repeat' first | (with_reducible exact ih0 ..) | (with_reducible exact quorumref8_Purge.mono ..) | (with_reducible exact LeO.refl _) | (with_reducible exact LeO.none _) | (with_reducible refine LeO.ite ?_ ?_) | (with_reducible refine LeO.bind ?_ (fun _ => ?_)) | exact LeO.none _ | refine LeO.ite ?_ ?_ | refine LeO.bind ?_ (fun _ => ?_))
theorem quorumref8_PurgeAll.mono : ∀ a0 a1 k, LeO (quorumref8_PurgeAll.f k a0 a1) (quorumref8_PurgeAll.f (k + 1) a0 a1) := by
 intro a0 a1 k
 have ih0 := quorumref8_PurgeAll.mono_l k
 unfold quorumref8_PurgeAll.f
 repeat' first | (with_reducible exact ih0 ..) | (with_reducible exact quorumref8_Purge.mono ..) | (with_reducible exact LeO.refl _) | (with_reducible exact LeO.none _) | (with_reducible refine LeO.ite ?_ ?_) | (with_reducible refine LeO.bind ?_ (fun _ => ?_)) | exact LeO.none _ | refine LeO.ite ?_ ?_ | refine LeO.bind ?_ (fun _ => ?_)
theorem quorumref8_PurgeAll.calls (k : Nat) (A0_0 : Option Addr) (c0_0 : Nat) (l0_0 : List (S99)) (a1 : Int) (r : List (S99)) (w : World) (hr0_0 : Kd.C k99 w A0_0 l0_0.length l0_0) (hc0_0 : l0_0.length ≤ c0_0) (h : quorumref8_PurgeAll.f k l0_0 a1 = some r) :
  Calls Try.prog 72 #[.agg #[.slice A0_0 l0_0.length c0_0], .int .i64 a1] w fun e w' => ∃ v0_ : Value, e = .returned (.agg #[v0_]) ∧ Kd.S k99 99 w' w.heap.size (fun _ => True) v0_ r ∧ Below w.heap.size w w' := by
 have hu47 := Try.underlying47
 have hu99 := Try.underlying99
 have bg := mk0 hr0_0
 have b4 := mk0 hc0_0
 clear hr0_0 hc0_0
 have HB := mk0 (Below.refl w.heap.size w)
 have H : (quorumref8_PurgeAll.l0 k a1 0 l0_0 ([] : List (S99))) = some r := h
 clear h
 have H' := mk0 H
 clear H
 go_enter Try.func72, Try.ntmps72
 go_wp2_with (first | ((with_reducible refine gate_dst (N := 2) rfl ?_); refine bx_ (N := 2) (cs := #[.slice A0_0 l0_0.length c0_0]) (t := 47) (h := ?_); intro ba hg w3 hbox hb; have n2_ := mk0 (gz_ HB hg); have bb := mk0 (gz_ HB hg); replace HB := mk0 (bt_ (b_ HB) hb); have ab := mk0 (hbox); have b5 := bb; clear n2_ bb; clear hb hbox hg) | ((with_reducible refine gate_dst (N := 4) rfl ?_); refine bx_ (N := 4) (cs := #[.slice none 0 0]) (t := 47) (h := ?_); intro aI hg w4 hbox hb; have bb := mk0 (gz_ HB hg); have bc := mk0 (gz_ HB hg); have aW := mk0 (ne1_ ab hg); have aX := mk0 (ne2_ ab hg); replace ab := mk0 (u_ ab hb); replace HB := mk0 (bt_ (b_ HB) hb); have ac := mk0 (hbox); have b6 := bc; have az := aW; have aA := aX; clear bb bc aW aX; clear hb hbox hg) | ((with_reducible refine gate_dst (N := 5) rfl ?_); refine bx_ (N := 5) (cs := #[.slice none 0 0]) (t := 47) (h := ?_); intro aT hg w5 hbox hb; have bc := mk0 (gz_ HB hg); have aW := mk0 (gz_ HB hg); have aX := mk0 (ne1_ ab hg); have aY := mk0 (ne2_ ab hg); have aZ := mk0 (ne1_ ac hg); have a3 := mk0 (ne2_ ac hg); replace ab := mk0 (u_ ab hb); replace ac := mk0 (u_ ac hb); replace HB := mk0 (bt_ (b_ HB) hb); have ae := mk0 (hbox); have b7 := aW; have aq := aX; have aC := aY; have aD := aZ; have aJ := a3; clear bc aW aX aY aZ a3; clear hb hbox hg))
 go_loopg [6] k (fun kq v6 w' => ∃ (ai : Int) (af : List (S99)) (ah : Value), v6 = .int .i64 ai ∧ Fc (quorumref8_PurgeAll.l0 kq a1 ai l0_0 af = some r) ∧ Fc (kq ≤ k) ∧ Fc (Kd.S k99 99 w' w.heap.size (fun _ => True) ah af) ∧ Fc (w'.heap[ba]? = some (.cells #[(.slice A0_0 l0_0.length c0_0)] 47 (0, 0))) ∧ Fc (w'.heap[aI]? = some (.cells #[(.slice none 0 0)] 47 (0, 0))) ∧ Fc (w'.heap[aT]? = some (.cells #[ah] 47 (0, 0))) ∧ Fc (Below w.heap.size w w'))
 case atStart => exact ⟨(0), (([] : List (S99))), (.slice none 0 0), sm_, H', ⟨Nat.le_refl _⟩, ⟨nl_⟩, ⟨h_ ab⟩, ⟨h_ ac⟩, ⟨h_ ae⟩, ⟨b_ HB⟩⟩
 case round =>
  clear H'
  obtain ⟨ai, af, ah, rfl, HA, bj, aa, ab, ac, ae, HB⟩ := hrel
  cases gk with
  | zero => exact absurd HA.out (by simp [quorumref8_PurgeAll.l0])
  | succ k1 =>
   have H := HA.out
   clear HA
   simp only [quorumref8_PurgeAll.l0] at H
   as_aux_lemma =>
    by_cases c6 : ai < (l0_0.length : Int)
    ·rw [if_pos c6] at H
     have bt := decide_eq_true c6
     clear c6
     by_cases c7 : 0 ≤ ai
     ·rw [if_pos c7] at H
      have cC := decide_eq_true c7
      clear c7
      replace H := ob_ H
      obtain ⟨⟨ap, ao, bu⟩, A8, H⟩ := H
      try dsimp only at H
      by_cases c9 : bu = true
      ·subst c9
       rw [if_pos rfl] at H
       by_cases bk : af.length < 3518437208883
       ·rw [if_pos bk] at H
        have LMc10 := mk0 bk
        clear bk
        obtain ⟨bf, aK⟩ : ∃ y_ : List (S99), y_ = (af ++ [(⟨ap, ao⟩ : S99)]) := ⟨_, rfl⟩
        replace H : (quorumref8_PurgeAll.l0 k1 a1 (wrap64 (ai + 1)) l0_0 bf) = some r := by first | (rw [aK]; with_reducible exact H) | (have H2_ := (Option.bind_some _ _).symm.trans H; rw [aK]; with_reducible exact H2_) | (have H2_ := (Option.bind_some _ _).symm.trans H; with_reducible exact H2_) | with_reducible exact H | (rw [aK]; exact H) | exact H
        have bp := mk0 aK
        clear aK
        have H' := mk0 H
        clear H
        have b8 := az.out
        have b9 := aA.out
        have ca := aq.out
        have cb := aC.out
        obtain ⟨bv, bw⟩ := c1_ ab
        have aM : 0 ≤ (ai : Int) := od_
        have aN : ai < (l0_0.length : Int) := od_
        obtain ⟨bd, aU, aV, bh, ar, au, av, aw⟩ := at_T99 bg.out ai aM aN
        cases bh
        replace ar := (bc_ HB ar :)
        replace au := (bc_ HB au :)
        have aQ := mk0 aw
        have aR := mk0 av
        clear aw av
        replace aM := eq_true aM
        replace aN := eq_true aN
        go_wp2_with (first | ((with_reducible refine gate_callee (f := 121) rfl ?_); refine gL_ (some 23) Try.func121 #[.agg #[.string ((rd_T99 l0_0 ai).f0), .slice aU ((rd_T99 l0_0 ai).f1).length aV], .int .i64 a1] (h := ?_); (with_reducible refine (quorumref8_Purge.calls k1 ((rd_T99 l0_0 ai).f0) _ _ ((rd_T99 l0_0 ai).f1) a1 ap ao true _ ?side1 ?side2 A8.out).mono ?_); (case side1 => exact cb_ aQ HB); (case side2 => exact aR.out); rintro e cE ⟨bx, rfl, ho0, hb⟩; refine ⟨_, rfl, ?_⟩; have a4 := mk0 (Kd.R_lower ho0 (bz_ (b_ HB))); replace aa := mk0 (Kd.S_elder' (s_ aa) (Kd.R_base ho0) hb); replace ab := mk0 (u_ ab hb); replace ac := mk0 (u_ ac hb); replace ae := mk0 (u_ ae hb); replace HB := mk0 (bt_ (b_ HB) hb); have am := a4; clear a4; (try clear hb); (try clear ho0)) | ((with_reducible refine gate_dst (N := 7) rfl ?_); refine bx_ (N := 7) (cs := #[.string (⟨#[]⟩ : ByteArray), .slice none 0 0]) (t := 99) (h := ?_); intro ag hg cc hbox hb; have aY := mk0 (gz_ HB hg); have aZ := mk0 (gz_ HB hg); have a3 := mk0 (ne1_ ab hg); have a5 := mk0 (ne2_ ab hg); have a6 := mk0 (ne1_ ac hg); have a7 := mk0 (ne2_ ac hg); have a8 := mk0 (ne1_ ae hg); have a9 := mk0 (ne2_ ae hg); replace aa := mk0 (Kd.S_below (Kd.S_elderB (s_ aa) ag (Nat.le_of_eq hg.symm)) hb); replace am := mk0 (Kd.R_below (r_ am) hb); replace ab := mk0 (u_ ab hb); replace ac := mk0 (u_ ac hb); replace ae := mk0 (u_ ae hb); replace HB := mk0 (bt_ (b_ HB) hb); have an := mk0 (hbox); have bq := aY; have br := aZ; have aj := a3; have aE := a5; have ak := a6; have aG := a7; have al := a8; have aH := a9; clear aY aZ a3 a5 a6 a7 a8 a9 hb hbox hg; have cd := aE.out; have ce := aj.out; have cf := aG.out; have cg := ak.out; have ch := aH.out; have ci := al.out; obtain ⟨bz, bA, bB, bC⟩ := c2_ an; obtain ⟨ax, ay, bD⟩ := Kd.R_slice am.out; subst bD) | ((with_reducible refine gate_store (t := 99) (p := 7) rfl ?_); refine sv_ (t := 99) (p := 7) (w1 := ((cc.setCell ⟨ag, 0, none⟩ (.string ap)).setCell ⟨ag, 1, none⟩ (.slice ax ao.length ay))) (h := ?_); intro be hw; have bE : Fc (Kd.S k99 99 be w.heap.size (fun k_ => some k_ ≠ (.slice ax ao.length ay : Value).ownBlock ∧ k_ ≠ ag) ah af) := ⟨(by rw [hw]; exact (s2_ (Kd.S_mono (Kd.S_far (p := ⟨ag, 1, none⟩) (Kd.S_far (p := ⟨ag, 0, none⟩) (Kd.S_mono aa.out (fun k_ hk => (⟨hk, hk.2⟩ : _ ∧ k_ ≠ ag))) (fun _ hk => hk.2) (.string ap)) (fun _ hk => hk.2) (.slice ax ao.length ay)) (fun _ hk => ⟨hk.1.1.2, hk.1.2⟩))))⟩; have a4 : Fc (Kd.R k72 72 be w.heap.size (fun _ => True) (.slice ax ao.length ay) ao) := ⟨(by rw [hw]; exact (r2_ (Kd.R_mono (Kd.R_far (p := ⟨ag, 1, none⟩) (Kd.R_far (p := ⟨ag, 0, none⟩) (Kd.R_types am.out an.out (by decide)) (fun _ hk => hk.2) (.string ap)) (fun _ hk => hk.2) (.slice ax ao.length ay)) (fun _ hk => trivial))))⟩; have n2_ : Fc (be.heap[ba]? = some (.cells #[.slice (some bd) l0_0.length c0_0] 47 (0, 0))) := ⟨(by rw [hw]; exact (fa_ (fa_ (h_ ab) aj.out) aj.out))⟩; have bb : Fc (be.heap[aI]? = some (.cells #[.slice none 0 0] 47 (0, 0))) := ⟨(by rw [hw]; exact (fa_ (fa_ (h_ ac) ak.out) ak.out))⟩; have bc : Fc (be.heap[aT]? = some (.cells #[ah] 47 (0, 0))) := ⟨(by rw [hw]; exact (fa_ (fa_ (h_ ae) al.out) al.out))⟩; have aW : Fc (be.heap[ag]? = some (.cells #[.string ap, .slice ax ao.length ay] 99 (0, 0))) := ⟨(by rw [hw]; exact (pu_ (cs := #[.string ap, .slice none 0 0]) (pu_ (cs := #[.string (⟨#[]⟩ : ByteArray), .slice none 0 0]) (h_ an))))⟩; have aX : Fc (Below w.heap.size w be) := ⟨(by rw [hw]; exact (b_ HB))⟩; clear hw aa am ab ac ae an HB; have aa := bE; have am := a4; have ab := n2_; have ac := bb; have ae := bc; have an := aW; have HB := aX; clear bE a4 n2_ bb bc aW aX; have cj := aJ.out; have ck := aD.out; obtain ⟨bF, bG⟩ := c1_ ae; obtain ⟨bH, bI, bJ, bK⟩ := c2_ an) | ((with_reducible refine gate_builtin (b := .append) (xs := #[.tmp 28, .tmp 30]) rfl ?_); at_builtin; refine Kd.S_append k99 (w0 := w) w.heap.size rfl (.tmp 28) (.tmp 30) 45 99 (.agg #[(.string ⟨#[]⟩), (.slice none 0 0)]) 40 rfl Try.underlying45 info99 rfl (by decide) (by omega) ah af (⟨ap, ao⟩ : S99) [.string ap, .slice ax ao.length ay] (fun k_ => k_ ≠ ag) (fun k_ => some k_ = (.slice ax ao.length ay : Value).ownBlock) rfl rfl ?aP (fun k_ hk_ => ((Kd.R_mono (ok' := fun k_ => ((fun k_ => k_ ≠ ag)) k_ ∧ some k_ ≠ (ah : Value).ownBlock) (Kd.R_types (Kd.R_apart' (am.out) (Kd.S_typed aa.out) (by decide)) an.out (by decide)) (fun k_ hk => ⟨hk.2, hk.1.2⟩))).1 k_ hk_.symm) ?aF ?aO ?aB ?aS ?aL ?_; (case aP => exact k99_mkM _ _ _ (⟨ap, ao⟩ : S99) (Kd.R_mono (Kd.R_tight rfl (Kd.R_mono (ok' := fun k_ => ((fun k_ => k_ ≠ ag)) k_ ∧ some k_ ≠ (ah : Value).ownBlock) (Kd.R_types (Kd.R_apart' (am.out) (Kd.S_typed aa.out) (by decide)) an.out (by decide)) (fun k_ hk => ⟨hk.2, hk.1.2⟩))) (fun _ h_ => h_))); (case aB => exact (b_ HB)); (case aF => exact (fun k_ hk => Kd.freshB (g := ag) (o := .cells #[.string ap, .slice ax ao.length ay] 99 (0, 0)) (h_ an) k_ hk)); (case aO => exact (s2_ (Kd.S_mono aa.out (fun k_ hk => ⟨hk.2, fun e_ => hk.1 e_⟩)))); (case aS => exact (bz_ (b_ HB))); (case aL => have := LMc10.out; omega); intro cD cF ho hb hg hat; rw [← bp.out] at ho; replace ab := mk0 (blk_grown (g := ba) (o := .cells #[.slice (some bd) l0_0.length c0_0] 47 (0, 0)) (h_ ab) hg (Kd.S_ne aa.out ab.out (by decide))); replace ac := mk0 (blk_grown (g := aI) (o := .cells #[.slice none 0 0] 47 (0, 0)) (h_ ac) hg (Kd.S_ne aa.out ac.out (by decide))); replace ae := mk0 (blk_grown (g := aT) (o := .cells #[ah] 47 (0, 0)) (h_ ae) hg (Kd.S_ne aa.out ae.out (by decide))); replace an := mk0 (blk_grown (g := ag) (o := .cells #[.string ap, .slice ax ao.length ay] 99 (0, 0)) (h_ an) hg (Kd.S_away aa.out (fun _ hk => hk.2))); replace HB := mk0 (hb); have bi := mk0 (ho); clear aa am; clear ho hb hg hat; obtain ⟨bl, bm, bL⟩ := Kd.S_slice bi.out; subst bL; obtain ⟨bM, bN⟩ := c1_ ae))
        go_roundg k1
        case measure => have := bj.out; omega
        case rel => exact ⟨(wrap64 (ai + 1)), (bf), (.slice bl bf.length bm), sm_, H', ⟨by have := bj.out; omega⟩, ⟨by (with_reducible repeat (first | apply Kd.S_alloc | apply Kd.S_drewN | apply Kd.S_drew)); exact Kd.S_mono (Kd.S_far (p := ⟨aT, 0, none⟩) (Kd.S_types bi.out ae.out (by decide)) (fun _ hk => hk.2) (.slice bl bf.length bm)) (fun _ hk => trivial)⟩, ⟨(fa_ (h_ ab) aq.out)⟩, ⟨(fa_ (h_ ac) aD.out)⟩, ⟨(pu_ (cs := #[ah]) (h_ ae))⟩, ⟨b_ HB⟩⟩
       ·rw [if_neg bk] at H
        exact absurd H (by simp)
      ·replace c9 := Bool.eq_false_iff.mpr c9
       subst c9
       rw [if_neg nf_] at H
       have H' := mk0 H
       clear H
       have cl := az.out
       have cm := aA.out
       have cn := aq.out
       have co := aC.out
       obtain ⟨bO, bP⟩ := c1_ ab
       have aM : 0 ≤ (ai : Int) := od_
       have aN : ai < (l0_0.length : Int) := od_
       obtain ⟨bd, aU, aV, bh, ar, au, av, aw⟩ := at_T99 bg.out ai aM aN
       cases bh
       replace ar := (bc_ HB ar :)
       replace au := (bc_ HB au :)
       have aQ := mk0 aw
       have aR := mk0 av
       clear aw av
       replace aM := eq_true aM
       replace aN := eq_true aN
       go_wp2_with (first | ((with_reducible refine gate_callee (f := 121) rfl ?_); refine gL_ (some 23) Try.func121 #[.agg #[.string ((rd_T99 l0_0 ai).f0), .slice aU ((rd_T99 l0_0 ai).f1).length aV], .int .i64 a1] (h := ?_); (with_reducible refine (quorumref8_Purge.calls k1 ((rd_T99 l0_0 ai).f0) _ _ ((rd_T99 l0_0 ai).f1) a1 ap ao false _ ?side1 ?side2 A8.out).mono ?_); (case side1 => exact cb_ aQ HB); (case side2 => exact aR.out); rintro e cG ⟨bx, rfl, ho0, hb⟩; refine ⟨_, rfl, ?_⟩; have a4 := mk0 (Kd.R_lower ho0 (bz_ (b_ HB))); replace aa := mk0 (Kd.S_elder' (s_ aa) (Kd.R_base ho0) hb); replace ab := mk0 (u_ ab hb); replace ac := mk0 (u_ ac hb); replace ae := mk0 (u_ ae hb); replace HB := mk0 (bt_ (b_ HB) hb); have am := a4; clear a4; (try clear hb); (try clear ho0)) | ((with_reducible refine gate_dst (N := 7) rfl ?_); refine bx_ (N := 7) (cs := #[.string (⟨#[]⟩ : ByteArray), .slice none 0 0]) (t := 99) (h := ?_); intro ag hg cH hbox hb; have aY := mk0 (gz_ HB hg); have aZ := mk0 (gz_ HB hg); have a3 := mk0 (ne1_ ab hg); have a5 := mk0 (ne2_ ab hg); have a6 := mk0 (ne1_ ac hg); have a7 := mk0 (ne2_ ac hg); have a8 := mk0 (ne1_ ae hg); have a9 := mk0 (ne2_ ae hg); replace aa := mk0 (Kd.S_below (Kd.S_elderB (s_ aa) ag (Nat.le_of_eq hg.symm)) hb); replace am := mk0 (Kd.R_below (r_ am) hb); replace ab := mk0 (u_ ab hb); replace ac := mk0 (u_ ac hb); replace ae := mk0 (u_ ae hb); replace HB := mk0 (bt_ (b_ HB) hb); have an := mk0 (hbox); have bq := aY; have br := aZ; have aj := a3; have aE := a5; have ak := a6; have aG := a7; have al := a8; have aH := a9; clear aY aZ a3 a5 a6 a7 a8 a9 hb hbox hg; have cp := aE.out; have cq := aj.out; have cr := aG.out; have ct := ak.out; have cu := aH.out; have cv := al.out; obtain ⟨bQ, bR, bS, bT⟩ := c2_ an; obtain ⟨bU, bV, bW⟩ := Kd.R_slice am.out; subst bW))
       go_roundg k1
       case measure => have := bj.out; omega
       case rel => exact ⟨(wrap64 (ai + 1)), (af), (ah), sm_, H', ⟨by have := bj.out; omega⟩, ⟨by (with_reducible repeat (first | apply Kd.S_alloc | apply Kd.S_drewN | apply Kd.S_drew)); exact Kd.S_mono (Kd.S_far (p := ⟨ag, 1, none⟩) (Kd.S_far (p := ⟨ag, 0, none⟩) (Kd.S_mono aa.out (fun k_ hk => (⟨hk, hk.2⟩ : _ ∧ k_ ≠ ag))) (fun _ hk => hk.2) (.string ap)) (fun _ hk => hk.2) (.slice bU ao.length bV)) (fun _ hk => trivial)⟩, ⟨(fa_ (fa_ (h_ ab) aj.out) aj.out)⟩, ⟨(fa_ (fa_ (h_ ac) ak.out) ak.out)⟩, ⟨(fa_ (fa_ (h_ ae) al.out) al.out)⟩, ⟨b_ HB⟩⟩
     ·rw [if_neg c7] at H
      exact absurd H (by simp)
    ·rw [if_neg c6] at H
     have bt := decide_eq_false c6
     clear c6
     obtain rfl := Option.some.inj H
     have cw := az.out
     have cx := aA.out
     have cy := aq.out
     have cz := aC.out
     obtain ⟨bX, bY⟩ := c1_ ab
     have cA := aJ.out
     have cB := aD.out
     obtain ⟨bZ, b0⟩ := c1_ ae
     obtain ⟨bn, bo, b1⟩ := Kd.S_slice aa.out
     subst b1
     obtain ⟨b2, b3⟩ := c1_ ac
     go_wp2
     refine bodyPost_ret (results_cell_row rfl _ _ aI 47 #[.slice bn af.length bo] (0, 0) _ rfl (pu_ (cs := #[.slice none 0 0]) (h_ ac)) Try.underlying47 rfl (by kernel_rfl)) rfl ?_
     exact ⟨_, sa_, by (with_reducible repeat (first | apply Kd.S_alloc | apply Kd.S_drewN | apply Kd.S_drew)); exact Kd.S_mono (Kd.S_far (p := ⟨aI, 0, none⟩) (Kd.S_types aa.out ac.out (by decide)) (fun _ hk => hk.2) (.slice bn af.length bo)) (fun _ hk => trivial), b_ HB⟩
-- NOT PRINTED: function 197 (bytealg_abigen_runtime_cmpstring)
-- NOT PRINTED: function 175 (bytealg_CompareString)
-- NOT PRINTED: function 139 (strings_Compare)
-- NOT PRINTED: function 169 (table_seek_1)
/-! ### api_Chain_string: function 168 (by hand) -/
def api_Chain_string.cmp (a b : ByteArray) : Int := Lib.compareBytes a.data.toList b.data.toList
def api_Chain_string.bs (l : List (S99)) (k : ByteArray) : Nat → Nat → Nat → Nat
  | 0, i, _ => i
  | f + 1, i, j => if i < j then (if api_Chain_string.cmp (rd_T99 l (((i + j) / 2 : Nat) : Int)).f0 k < 0 then api_Chain_string.bs l k f ((i + j) / 2 + 1) j else api_Chain_string.bs l k f i ((i + j) / 2)) else i
def api_Chain_string.f (l0 : List (S99)) (a1 : ByteArray) : Option (Int × Bool) :=
  some ((api_Chain_string.bs l0 a1 l0.length 0 l0.length : Nat), decide (api_Chain_string.bs l0 a1 l0.length 0 l0.length < l0.length) && (api_Chain_string.cmp (rd_T99 l0 ((api_Chain_string.bs l0 a1 l0.length 0 l0.length : Nat) : Int)).f0 a1 == 0))
theorem api_Chain_string.clo (s : ByteArray) (A : Option Addr) (n c : Nat) (k : ByteArray) (W : World) : Calls Try.prog 169 #[.agg #[.string s, .slice A n c], .string k] W fun e W' => e = .returned (.int .i64 (api_Chain_string.cmp s k)) ∧ Below W.heap.size W W' := by
  have hcmp := fun W' => Go.Proofs.Any.strings_Compare Try.strCmp s k W'
  change ∀ W', Calls Try.prog 139 _ _ _ at hcmp
  unfold api_Chain_string.cmp
  generalize Lib.compareBytes s.data.toList k.data.toList = q at hcmp ⊢
  have HB := Aside0.mk (Below.refl W.heap.size W)
  go_enter Try.func169, Try.ntmps169
  go_wp2_with (first | (go_at_call 139; refine (hcmp _).mono ?_; rintro e w' ⟨rfl, rfl⟩) | go_in)
  go_ret
  exact ⟨rfl, by repeat (first | (with_reducible first | exact HB.out | apply bL_ | apply pN_ | apply b1_) | exact HB.out)⟩
set_option maxHeartbeats 4000000 in
set_option maxRecDepth 100000 in
theorem api_Chain_string.calls (A0 : Option Addr) (c0 : Nat) (l0 : List (S99)) (a1 : ByteArray) (r1 : Int) (r2 : Bool) (w : World) (hr0 : Kd.C k99 w A0 l0.length l0) (hc0 : l0.length ≤ c0) (h : api_Chain_string.f l0 a1 = some (r1, r2)) :
    Calls Try.prog 168 #[.slice A0 l0.length c0, .string a1, .func (Fn.func 169) #[] #[]] w fun e w' => e = .returned (.tuple #[.int .i64 r1, .bool r2]) ∧ Below w.heap.size w w' := by
  have hlen := hr0.2.1
  have eg : ∀ args w, (callFunc 169 args).run Try.prog w = .ok (.enter 169 args) w := enters_of Try.func169 (by kernel_rfl) rfl
  have HR0 := Aside0.mk hr0
  have HC0 := Aside0.mk hc0
  have HL := Aside0.mk hlen
  have HH := Aside0.mk h
  clear hr0 hc0 h hlen
  have HP := Aside0.mk (api_Chain_string.clo)
  have HB := Aside0.mk (Below.refl w.heap.size w)
  go_enter Try.func168, Try.ntmps168
  go_wp2
  go_loopg [9, 10] l0.length (fun kq v9 v10 w' => ∃ (i j : Nat), v9 = .int .i64 i ∧ v10 = .int .i64 j ∧ Aside0 (i ≤ j ∧ j ≤ l0.length) ∧ Aside0 (j - i ≤ kq) ∧ Aside0 (api_Chain_string.bs l0 a1 kq i j = api_Chain_string.bs l0 a1 l0.length 0 l0.length) ∧ Aside0 (Below w.heap.size w w'))
  case atStart => exact ⟨0, l0.length, rfl, rfl, ⟨by omega, by omega⟩, ⟨by omega⟩, ⟨rfl⟩, HB⟩
  case round =>
    clear HB
    obtain ⟨i, j, rfl, rfl, HI, HK, HS, HB⟩ := hrel
    by_cases hij : i < j
    · cases gk with
      | zero => exact absurd HK.out (by omega)
      | succ k1 =>
        have hi2 := HI.out
        have hl2 := HL.out
        have hm : wrap64 (IntKind.u64.wrap (wrap64 ((i : Int) + (j : Int))) / 2) = (((i + j) / 2 : Nat) : Int) := by
          have e : IntKind.u64.wrap (wrap64 ((i : Int) + (j : Int))) = (i : Int) + (j : Int) := by
            simp only [IntKind.wrap, IntKind.signed, IntKind.bits]
            unfold wrap64
            simp
            omega
          rw [e]
          unfold wrap64
          omega
        obtain ⟨m, hmd⟩ : ∃ m, m = (i + j) / 2 := ⟨_, rfl⟩
        rw [← hmd] at hm
        have aa : (0:Int) ≤ (m : Int) := by omega
        have ab : (m:Int) < (l0.length : Int) := by omega
        obtain ⟨ad, A1, c1, e1, hx0, hx1, hl1, hi1⟩ := at_T99 HR0.out (m:Int) aa ab
        cases e1
        replace hx0 := (HB.out.cell (World.block_lt_of_cell? w _ hx0)).trans hx0
        replace hx1 := (HB.out.cell (World.block_lt_of_cell? w _ hx1)).trans hx1
        have hcall := HP.out (rd_T99 l0 (m : Int)).f0 A1 (rd_T99 l0 (m : Int)).f1.length c1 a1 wr
        have HM := Aside0.mk hmd
        have HJ := Aside0.mk hij
        clear hi1 hl1 hi2 hl2 hmd
        simp only [Int.toNat_natCast] at hx0 hx1
        go_wp2_with ((with_reducible refine hcall.mono ?_); rintro e w' ⟨rfl, hb'⟩)
        all_goals go_roundg k1
        case measure => omega
        case measure => omega
        all_goals rename_i hcm
        all_goals have hi2 := HI.out
        all_goals have hl2 := HL.out
        all_goals have hm2 := HM.out
        all_goals have hj2 := HJ.out
        all_goals have hk2 := HK.out
        all_goals have hs2 := HS.out
        · refine ⟨m + 1, j, ?_, rfl, ⟨by omega, by omega⟩, ⟨by omega⟩, ⟨?_⟩, ⟨HB.out.trans (hb'.mono HB.out.size)⟩⟩
          · congr 1
            unfold wrap64
            omega
          · rw [← hs2]
            show _ = api_Chain_string.bs l0 a1 (k1 + 1) i j
            rw [api_Chain_string.bs, if_pos hij, ← hm2, if_pos hcm]
        · refine ⟨i, m, rfl, rfl, ⟨by omega, by omega⟩, ⟨by omega⟩, ⟨?_⟩, ⟨HB.out.trans (hb'.mono HB.out.size)⟩⟩
          rw [← hs2]
          show _ = api_Chain_string.bs l0 a1 (k1 + 1) i j
          rw [api_Chain_string.bs, if_pos hij, ← hm2, if_neg (by omega)]
    · have hi2 := HI.out
      obtain rfl : i = j := by omega
      have hbs : api_Chain_string.bs l0 a1 gk i i = i := by cases gk <;> simp [api_Chain_string.bs]
      have hf := HH.out
      unfold api_Chain_string.f at hf
      rw [← HS.out, hbs] at hf
      simp only [Option.some.injEq, Prod.mk.injEq] at hf
      obtain ⟨rfl, rfl⟩ := hf
      clear hbs
      by_cases hi : i < l0.length
      · have aa : (0:Int) ≤ (i : Int) := by omega
        have ab : (i:Int) < (l0.length : Int) := by omega
        obtain ⟨ad, A1, c1, e1, hx0, hx1, hl1, hi1⟩ := at_T99 HR0.out (i:Int) aa ab
        cases e1
        replace hx0 := (HB.out.cell (World.block_lt_of_cell? w _ hx0)).trans hx0
        replace hx1 := (HB.out.cell (World.block_lt_of_cell? w _ hx1)).trans hx1
        have hcall := HP.out (rd_T99 l0 (i : Int)).f0 A1 (rd_T99 l0 (i : Int)).f1.length c1 a1 wr
        clear hi1 hl1 hi2
        simp only [Int.toNat_natCast] at hx0 hx1
        go_wp2_with ((with_reducible refine hcall.mono ?_); rintro e w' ⟨rfl, hb'⟩)
        go_ret2
        exact ⟨by simp [hi], HB.out.trans (hb'.mono HB.out.size)⟩
      · go_wp2
        go_ret2
        exact ⟨by simp [hi], HB.out⟩
/-! ### table_seek: function 126 -/
def table_seek.f (l0_0 : List (S99)) (a1 : ByteArray) : Option (Int × Bool) := (api_Chain_string.f l0_0 a1).bind fun bt260 => (some (bt260.1, bt260.2))
theorem table_seek.calls (A0_0 : Option Addr) (c0_0 : Nat) (l0_0 : List (S99)) (a1 : ByteArray) (r1 : Int) (r2 : Bool) (w : World) (hr0_0 : Kd.C k99 w A0_0 l0_0.length l0_0) (hc0_0 : l0_0.length ≤ c0_0) (h : table_seek.f l0_0 a1 = some (r1, r2)) :
  Calls Try.prog 126 #[.agg #[.slice A0_0 l0_0.length c0_0], .string a1] w fun e w' => e = .returned (.tuple #[.int .i64 r1, .bool r2]) ∧ Below w.heap.size w w' := by
 have hu47 := Try.underlying47
 have ab := mk0 hr0_0
 have ac := mk0 hc0_0
 clear hr0_0 hc0_0
 have HB := mk0 (Below.refl w.heap.size w)
 have H : ((api_Chain_string.f l0_0 a1).bind fun bt260 => (some (bt260.1, bt260.2))) = some (r1, r2) := h
 clear h
 replace H := ob_ H
 obtain ⟨⟨ae, af⟩, A3, H⟩ := H
 try dsimp only at H
 simp only [Option.some.injEq, Prod.mk.injEq] at H
 obtain ⟨rfl, rfl⟩ := H
 go_enter Try.func126, Try.ntmps126
 go_wp2_with (first | ((with_reducible refine gate_dst (N := 2) rfl ?_); refine bx_ (N := 2) (cs := #[.slice A0_0 l0_0.length c0_0]) (t := 47) (h := ?_); intro aj hg w4 hbox hb; have n2_ := mk0 (gz_ HB hg); have ag := mk0 (gz_ HB hg); replace HB := mk0 (bt_ (b_ HB) hb); have aa := mk0 (hbox); have ak := ag; clear n2_ ag hb hbox hg; obtain ⟨ah, ai⟩ := c1_ aa) | ((with_reducible refine gate_callee (f := 168) rfl ?_); refine gL_ (some 9) Try.func168 #[.slice A0_0 l0_0.length c0_0, .string a1, .func (Fn.func 169) #[] #[]] (h := ?_); (with_reducible refine (api_Chain_string.calls _ _ l0_0 a1  ae af _ ?side1 ?side2 A3.out).mono ?_); (case side1 => exact cb_ ab HB); (case side2 => exact ac.out); rintro e w6 ⟨rfl, hb⟩; refine ⟨_, rfl, ?_⟩; replace aa := mk0 (u_ aa hb); replace HB := mk0 (bt_ (b_ HB) hb); (try clear hb)))
 go_ret2
 exact ⟨sa_, b_ HB⟩
end Go.Proofs.Ytbaecdcfefmcgaa.PTbe
