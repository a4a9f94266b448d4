-- PRINTED by print.py (a twelfth state) out of the translation. Not trusted: Lean checks it.
import Derived.Test.YtoodkefpkgbjcaaPTbpx0
import Derived.Test.YtoodkefpkgbjcaaPTbpx1
import Derived.Test.YtoodkefpkgbjcaaPTbpx7
namespace Go.Proofs.Ytoodkefpkgbjcaa.PTbp
open Go.RowKit Go.Proofs.YtoodkefpkgbjcaaW.PrintWords Go.Proofs.YtoodkefpkgbjcaaW.PrintLast Go.Proofs.YtoodkefpkgbjcaaW.PrintMore
attribute [local go_sem] max2_int min2_int max_two min_two max_three min_three max_four min_four   -- for this text's walks alone
set_option linter.unusedVariables false
set_option linter.unusedSimpArgs false

attribute [local go_sem high] eqA145
/-! ### table_Left: function 90 -/
def table_Left.l0 : Nat → Int → List (S30) → Int → Int → List (S30) → Option ((List (S30)))
 | 0, _, _, _, _, _ => none
 | k + 1, x1, x9, x10, x11, x170000 => if x11 < x10 then (if 0 ≤ x11 then (if x11 < (x9.length : Int) then ((chain_Left.f ((rd_T30 x9 x11).f0) ((rd_T30 x9 x11).f1) x1).bind fun bt172 => (if (bt172.2.length : Int) > 0 then (if x170000.length < 3518437208883 then (table_Left.l0 k x1 x9 x10 (wrap64 (x11 + 1)) (x170000 ++ [(⟨bt172.1, bt172.2⟩ : S30)])) else (none)) else (table_Left.l0 k x1 x9 x10 (wrap64 (x11 + 1)) x170000))) else (none)) else (none)) else (some x170000)
def table_Left.f (k : Nat) (l0_0 : List (S30)) (a1 : Int) : Option ((List (S30))) := table_Left.l0 k a1 l0_0 (l0_0.length : Int) 0 ([] : List (S30))
theorem table_Left.mono_l : ∀ k, (∀ y0 y1 y2 y3 y4, LeO (table_Left.l0 k y0 y1 y2 y3 y4) (table_Left.l0 (k + 1) y0 y1 y2 y3 y4))
 | 0 => fun _ _ _ _ _ r h => by simp [table_Left.l0] at h
 | k + 1 => by
  have ih0 := table_Left.mono_l k
  ·intro y0 y1 y2 y3 y4
   unfold table_Left.l0
   repeat' first
   | (with_reducible exact ih0 _ _ _ _ _)
   | (with_reducible exact LeO.refl _)
   | (with_reducible exact LeO.none _)
   | (with_reducible refine LeO.ite ?_ ?_)
   | (with_reducible refine LeO.bind ?_ (fun _ => ?_))
   | exact ih0 _ _ _ _ _
   | exact LeO.none _
   | refine LeO.ite ?_ ?_
   | refine LeO.bind ?_ (fun _ => ?_)
theorem table_Left.mono : ∀ a0 a1 k, LeO (table_Left.f k a0 a1) (table_Left.f (k + 1) a0 a1) := by
 intro a0 a1 k
 have ih0 := table_Left.mono_l k
 unfold table_Left.f
 repeat' first
   | (with_reducible exact ih0 _ _ _ _ _)
   | (with_reducible exact LeO.refl _)
   | (with_reducible exact LeO.none _)
   | (with_reducible refine LeO.ite ?_ ?_)
   | (with_reducible refine LeO.bind ?_ (fun _ => ?_))
   | exact ih0 _ _ _ _ _
   | exact LeO.none _
   | refine LeO.ite ?_ ?_
   | refine LeO.bind ?_ (fun _ => ?_)
set_option maxHeartbeats 8000000 in
set_option maxRecDepth 100000 in
theorem table_Left.calls (k : Nat) (A0_0 : Option Addr) (c0_0 : Nat) (l0_0 : List (S30)) (a1 : Int) (r : List (S30)) (w : World) (hr0_0 : Kd.C k30 w A0_0 l0_0.length l0_0) (hc0_0 : l0_0.length ≤ c0_0) (h : table_Left.f k l0_0 a1 = some r) :
  Calls Try.prog 90 #[.agg #[.slice A0_0 l0_0.length c0_0], .int .i64 a1] w fun e w' => ∃ v0_ : Value, e = .returned (.agg #[v0_]) ∧ Kd.S k30 30 w' w.heap.size (fun _ => True) v0_ r ∧ Below w.heap.size w w' := by
 have hu79 := Try.underlying79
 have hu30 := Try.underlying30
 have HR0_0 := mk0 hr0_0
 have HC0_0 := mk0 hc0_0
 clear hr0_0 hc0_0
 have HB := mk0 (Below.refl w.heap.size w)
 have H : (table_Left.l0 k a1 l0_0 (l0_0.length : Int) 0 ([] : List (S30))) = some r := h
 clear h
 have H' := mk0 H
 clear H
 go_enter Try.func90, Try.ntmps90
 go_wp2_with (first | ((with_reducible refine gate_dst (N := 2) rfl ?_); refine bx_ (N := 2) (cs := #[.slice A0_0 l0_0.length c0_0]) (t := 79) (h := ?_); intro gb168 hg w3 hbox hb; have n2_ := mk0 (gz_ HB hg); have n3_ := mk0 (gz_ HB hg); replace HB := mk0 (bt_ (b_ HB) hb); have BK168 := mk0 (hbox); have GW168 := n2_; have GE168 := n3_; clear n2_ n3_; clear hb hbox hg) | ((with_reducible refine gate_dst (N := 4) rfl ?_); refine bx_ (N := 4) (cs := #[.slice none 0 0]) (t := 79) (h := ?_); intro gb169 hg w4 hbox hb; have n3_ := mk0 (gz_ HB hg); have n4_ := mk0 (gz_ HB hg); have n5_ := mk0 (ne1_ BK168 hg); have n6_ := mk0 (ne2_ BK168 hg); replace BK168 := mk0 (u_ BK168 hb); replace HB := mk0 (bt_ (b_ HB) hb); have BK169 := mk0 (hbox); have GW169 := n3_; have GE169 := n4_; have NB168_169 := n5_; have NB169_168 := n6_; clear n3_ n4_ n5_ n6_ hb hbox hg; have hnb5 := NB168_169.out; have hnc5 := NB169_168.out; obtain ⟨hcz6_0, hfz6_0⟩ := c1_ BK168))
 go_loopg [11] k (fun kq v11 w' => ∃ (x11_1 : Int) (x170000_1 : List (S30)) (u170000 : Value), v11 = .int .i64 x11_1 ∧ Fc (table_Left.l0 kq a1 l0_0 (l0_0.length : Int) x11_1 x170000_1 = some r) ∧ Fc (kq ≤ k) ∧ Fc (Kd.S k30 30 w' w.heap.size (fun _ => True) u170000 x170000_1) ∧ Fc (w'.heap[gb168]? = some (.cells #[(.slice A0_0 l0_0.length c0_0)] 79 (0, 0))) ∧ Fc (w'.heap[gb169]? = some (.cells #[u170000] 79 (0, 0))) ∧ Fc (Below w.heap.size w w'))
 case atStart => exact ⟨(0), (([] : List (S30))), (.slice none 0 0), (by first | rfl | (simp; done) | (simp [*]; done)), H', ⟨Nat.le_refl _⟩, ⟨by first | exact Kd.S_nil _ _ _ _ _ | exact Kd.N_nil _ _ _ _ _ | exact Kd.V_nil _ _ _ _ _ | exact Kd.Q_nil _ _ _ _ _ | exact Kd.R_nil _ _ _ _ _⟩, ⟨h_ BK168⟩, ⟨h_ BK169⟩, ⟨b_ HB⟩⟩
 case round =>
  clear H'
  try clear hcz6_0
  try clear hfz6_0
  obtain ⟨x11_1, x170000_1, u170000, rfl, HA, HK1, HO_170000, BK168, BK169, HB⟩ := hrel
  cases gk with
  | zero => exact absurd HA.out (by simp [table_Left.l0])
  | succ k1 =>
   have H := HA.out
   clear HA
   simp only [table_Left.l0] at H
   as_aux_lemma =>
    by_cases c7 : x11_1 < (l0_0.length : Int)
    ·rw [if_pos c7] at H
     have c7b0 : decide (x11_1 < (l0_0.length : Int)) = true := decide_eq_true c7
     clear c7
     by_cases c8 : 0 ≤ x11_1
     ·rw [if_pos c8] at H
      have c8b0 : decide (0 ≤ x11_1) = true := decide_eq_true c8
      clear c8
      by_cases c9 : x11_1 < (l0_0.length : Int)
      ·rw [if_pos c9] at H
       have c9b0 : decide (x11_1 < (l0_0.length : Int)) = true := decide_eq_true c9
       clear c9
       replace H := Option.bind_eq_some_iff.mp H
       obtain ⟨⟨t172, t173⟩, A100, H⟩ := H
       try dsimp only at H
       have A10 := mk0 A100
       clear A100
       by_cases c11 : (t173.length : Int) > 0
       ·rw [if_pos c11] at H
        have c11b0 : decide (0 < (t173.length : Int)) = true := decide_eq_true c11
        have c11b1 : decide (0 < t173.length) = true := decide_eq_true (by omega)
        clear c11
        by_cases c12 : x170000_1.length < 3518437208883
        ·rw [if_pos c12] at H
         have LMc12 := mk0 c12
         clear c12
         obtain ⟨y177, hy177⟩ : ∃ y_ : List (S30), y_ = (x170000_1 ++ [(⟨t172, t173⟩ : S30)]) := ⟨_, rfl⟩
         replace H : (table_Left.l0 k1 a1 l0_0 (l0_0.length : Int) (wrap64 (x11_1 + 1)) y177) = some r := by first | (rw [hy177]; with_reducible exact H) | (have H2_ := (Option.bind_some _ _).symm.trans H; rw [hy177]; with_reducible exact H2_) | (have H2_ := (Option.bind_some _ _).symm.trans H; with_reducible exact H2_) | with_reducible exact H | (rw [hy177]; exact H) | exact H
         have Ny177 := mk0 hy177
         clear hy177
         have H' := mk0 H
         clear H
         have p170 : 0 ≤ (x11_1 : Int) := of_decide_eq_true (by first | (with_reducible assumption) | assumption)
         have q170 : x11_1 < (l0_0.length : Int) := of_decide_eq_true (by first | (with_reducible assumption) | assumption)
         obtain ⟨ad170, A170_1, c170_1, e170, hx170_0, hx170_1, hl170_1, hi170_1⟩ := at_T30 HR0_0.out x11_1 p170 q170
         cases e170
         replace hx170_0 := bc_ HB hx170_0
         replace hx170_1 := bc_ HB hx170_1
         have HR170_1 := mk0 hi170_1
         have HC170_1 := mk0 hl170_1
         clear hi170_1 hl170_1
         replace p170 := eq_true p170
         replace q170 := eq_true q170
         go_wp2_with (first | ((with_reducible refine gate_dst (N := 6) rfl ?_); refine bx_ (N := 6) (cs := #[.string (⟨#[]⟩ : ByteArray), .slice none 0 0]) (t := 30) (h := ?_); intro gb171 hg w13 hbox hb; have n5_ := mk0 (gz_ HB hg); have n6_ := mk0 (gz_ HB hg); have n7_ := mk0 (ne1_ BK168 hg); have n8_ := mk0 (ne2_ BK168 hg); have n9_ := mk0 (ne1_ BK169 hg); have n10_ := mk0 (ne2_ BK169 hg); replace HO_170000 := mk0 (Kd.S_below (Kd.S_elderB (s_ HO_170000) gb171 (Nat.le_of_eq hg.symm)) hb); replace BK168 := mk0 (u_ BK168 hb); replace BK169 := mk0 (u_ BK169 hb); replace HB := mk0 (bt_ (b_ HB) hb); have BK171 := mk0 (hbox); have GW171 := n5_; have GE171 := n6_; have NB168_171 := n7_; have NB171_168 := n8_; have NB169_171 := n9_; have NB171_169 := n10_; clear n5_ n6_ n7_ n8_ n9_ n10_ hb hbox hg; have hnb14 := NB171_168.out; have hnc14 := NB168_171.out; have hnb15 := NB171_169.out; have hnc15 := NB169_171.out; obtain ⟨hcz16_0, hcz16_1, hfz16_0, hfz16_1⟩ := c2_ BK171) | ((with_reducible refine gate_callee (f := 63) rfl ?_); refine gL_ (some 17) Try.func63 #[.agg #[.string ((rd_T30 l0_0 x11_1).f0), .slice A170_1 ((rd_T30 l0_0 x11_1).f1).length c170_1], .int .i64 a1] (h := ?_); (with_reducible refine (chain_Left.calls ((rd_T30 l0_0 x11_1).f0) _ _ ((rd_T30 l0_0 x11_1).f1) a1 t172 t173 _ ?side1 ?side2 A10.out).mono ?_); (case side1 => exact Kd.C_below HR170_1.out (b_ HB)); (case side2 => exact HC170_1.out); rintro e w17 ⟨v174, rfl, ho0, hb⟩; refine ⟨_, rfl, ?_⟩; have n1_ := mk0 (Kd.R_lower ho0 (bz_ (b_ HB))); replace HO_170000 := mk0 (Kd.S_elder' (s2_ (Kd.S_mono (Kd.S_far (p := ⟨gb171, 1, none⟩) (Kd.S_far (p := ⟨gb171, 0, none⟩) (Kd.S_mono HO_170000.out (fun k_ hk => (⟨hk, hk.2⟩ : _ ∧ k_ ≠ gb171))) (fun _ hk => hk.2) (.string ((rd_T30 l0_0 x11_1).f0))) (fun _ hk => hk.2) (.slice A170_1 ((rd_T30 l0_0 x11_1).f1).length c170_1)) (fun _ h_ => h_.1))) (Kd.R_base ho0) hb); replace BK168 := mk0 (blk_below (g := gb168) (o := .cells #[.slice (some ad170) l0_0.length c0_0] 79 (0, 0)) (fa_ (fa_ (h_ BK168) NB168_171.out) NB168_171.out) hb); replace BK169 := mk0 (blk_below (g := gb169) (o := .cells #[u170000] 79 (0, 0)) (fa_ (fa_ (h_ BK169) NB169_171.out) NB169_171.out) hb); replace BK171 := mk0 (blk_below (g := gb171) (o := .cells #[.string ((rd_T30 l0_0 x11_1).f0), .slice A170_1 ((rd_T30 l0_0 x11_1).f1).length c170_1] 30 (0, 0)) (pu_ (cs := #[.string ((rd_T30 l0_0 x11_1).f0), .slice none 0 0]) (pu_ (cs := #[.string (⟨#[]⟩ : ByteArray), .slice none 0 0]) (h_ BK171))) hb); replace HB := mk0 (bt_ (b_ HB) hb); have HO175 := n1_; clear n1_; (try clear hb); (try clear ho0)) | ((with_reducible refine gate_dst (N := 7) rfl ?_); refine bx_ (N := 7) (cs := #[.string (⟨#[]⟩ : ByteArray), .slice none 0 0]) (t := 30) (h := ?_); intro gb176 hg w18 hbox hb; have n7_ := mk0 (gz_ HB hg); have n8_ := mk0 (gz_ HB hg); have n9_ := mk0 (ne1_ BK168 hg); have n10_ := mk0 (ne2_ BK168 hg); have n11_ := mk0 (ne1_ BK169 hg); have n12_ := mk0 (ne2_ BK169 hg); have n13_ := mk0 (ne1_ BK171 hg); have n14_ := mk0 (ne2_ BK171 hg); replace HO_170000 := mk0 (Kd.S_below (Kd.S_elderB (s_ HO_170000) gb176 (Nat.le_of_eq hg.symm)) hb); replace HO175 := mk0 (Kd.R_below (r_ HO175) hb); replace BK168 := mk0 (u_ BK168 hb); replace BK169 := mk0 (u_ BK169 hb); replace BK171 := mk0 (u_ BK171 hb); replace HB := mk0 (bt_ (b_ HB) hb); have BK176 := mk0 (hbox); have GW176 := n7_; have GE176 := n8_; have NB168_176 := n9_; have NB176_168 := n10_; have NB169_176 := n11_; have NB176_169 := n12_; have NB171_176 := n13_; have NB176_171 := n14_; clear n7_ n8_ n9_ n10_ n11_ n12_ n13_ n14_ hb hbox hg; have hnb19 := NB176_168.out; have hnc19 := NB168_176.out; have hnb20 := NB176_169.out; have hnc20 := NB169_176.out; have hnb21 := NB176_171.out; have hnc21 := NB171_176.out; obtain ⟨hcz22_0, hcz22_1, hfz22_0, hfz22_1⟩ := c2_ BK176; obtain ⟨Ao23, co23, eo23⟩ := Kd.R_slice HO175.out; subst eo23) | ((with_reducible refine gate_store (t := 30) (p := 7) rfl ?_); refine sv_ (t := 30) (p := 7) (w1 := ((w18.setCell ⟨gb176, 0, none⟩ (.string t172)).setCell ⟨gb176, 1, none⟩ (.slice Ao23 t173.length co23))) (h := ?_); intro w24 hw; have n0_ : Fc (Kd.S k30 30 w24 w.heap.size (fun k_ => some k_ ≠ (.slice Ao23 t173.length co23 : Value).ownBlock ∧ k_ ≠ gb171 ∧ k_ ≠ gb176) u170000 x170000_1) := ⟨(by rw [hw]; exact (s2_ (Kd.S_mono (Kd.S_far (p := ⟨gb176, 1, none⟩) (Kd.S_far (p := ⟨gb176, 0, none⟩) (Kd.S_mono HO_170000.out (fun k_ hk => (⟨hk, hk.2⟩ : _ ∧ k_ ≠ gb176))) (fun _ hk => hk.2) (.string t172)) (fun _ hk => hk.2) (.slice Ao23 t173.length co23)) (fun _ hk => ⟨hk.1.1.2, ⟨hk.1.1.1.2, hk.1.2⟩⟩))))⟩; have n1_ : Fc (Kd.R k39 39 w24 w.heap.size (fun _ => True) (.slice Ao23 t173.length co23) t173) := ⟨(by rw [hw]; exact (r2_ (Kd.R_mono (Kd.R_far (p := ⟨gb176, 1, none⟩) (Kd.R_far (p := ⟨gb176, 0, none⟩) (Kd.R_types HO175.out BK176.out (by decide)) (fun _ hk => hk.2) (.string t172)) (fun _ hk => hk.2) (.slice Ao23 t173.length co23)) (fun _ hk => trivial))))⟩; have n2_ : Fc (w24.heap[gb168]? = some (.cells #[.slice (some ad170) l0_0.length c0_0] 79 (0, 0))) := ⟨(by rw [hw]; exact (fa_ (fa_ (h_ BK168) NB168_176.out) NB168_176.out))⟩; have n3_ : Fc (w24.heap[gb169]? = some (.cells #[u170000] 79 (0, 0))) := ⟨(by rw [hw]; exact (fa_ (fa_ (h_ BK169) NB169_176.out) NB169_176.out))⟩; have n4_ : Fc (w24.heap[gb171]? = some (.cells #[.string ((rd_T30 l0_0 x11_1).f0), .slice A170_1 ((rd_T30 l0_0 x11_1).f1).length c170_1] 30 (0, 0))) := ⟨(by rw [hw]; exact (fa_ (fa_ (h_ BK171) NB171_176.out) NB171_176.out))⟩; have n5_ : Fc (w24.heap[gb176]? = some (.cells #[.string t172, .slice Ao23 t173.length co23] 30 (0, 0))) := ⟨(by rw [hw]; exact (pu_ (cs := #[.string t172, .slice none 0 0]) (pu_ (cs := #[.string (⟨#[]⟩ : ByteArray), .slice none 0 0]) (h_ BK176))))⟩; have n6_ : Fc (Below w.heap.size w w24) := ⟨(by rw [hw]; exact (b_ HB))⟩; clear hw HO_170000 HO175 BK168 BK169 BK171 BK176 HB; have HO_170000 := n0_; have HO175 := n1_; have BK168 := n2_; have BK169 := n3_; have BK171 := n4_; have BK176 := n5_; have HB := n6_; clear n0_ n1_ n2_ n3_ n4_ n5_ n6_; obtain ⟨hcz25_0, hcz25_1, hfz25_0, hfz25_1⟩ := c2_ BK176; have hnb26 := NB169_168.out; have hnc26 := NB168_169.out; obtain ⟨hcz27_0, hfz27_0⟩ := c1_ BK169) | ((with_reducible refine gate_builtin (b := .append) (xs := #[.tmp 23, .tmp 25]) rfl ?_); at_builtin; refine Kd.S_append k30 (w0 := w) w.heap.size rfl (.tmp 23) (.tmp 25) 22 30 (.agg #[(.string ⟨#[]⟩), (.slice none 0 0)]) 40 rfl Try.underlying22 info30 rfl (by decide) (by omega) u170000 x170000_1 (⟨t172, t173⟩ : S30) [.string t172, .slice Ao23 t173.length co23] (fun k_ => k_ ≠ gb171 ∧ k_ ≠ gb176) (fun k_ => some k_ = (.slice Ao23 t173.length co23 : Value).ownBlock) rfl rfl ?aP (fun k_ hk_ => ((Kd.R_mono (ok' := fun k_ => ((fun k_ => k_ ≠ gb171 ∧ k_ ≠ gb176)) k_ ∧ some k_ ≠ (u170000 : Value).ownBlock) (Kd.R_types (Kd.R_types (Kd.R_apart' (HO175.out) (Kd.S_typed HO_170000.out) (by decide)) BK171.out (by decide)) BK176.out (by decide)) (fun k_ hk => ⟨⟨hk.1.2, hk.2⟩, hk.1.1.2⟩))).1 k_ hk_.symm) ?aF ?aO ?aB ?aS ?aL ?_; (case aP => exact k30_mkM _ _ _ (⟨t172, t173⟩ : S30) (Kd.R_mono (Kd.R_tight rfl (Kd.R_mono (ok' := fun k_ => ((fun k_ => k_ ≠ gb171 ∧ k_ ≠ gb176)) k_ ∧ some k_ ≠ (u170000 : Value).ownBlock) (Kd.R_types (Kd.R_types (Kd.R_apart' (HO175.out) (Kd.S_typed HO_170000.out) (by decide)) BK171.out (by decide)) BK176.out (by decide)) (fun k_ hk => ⟨⟨hk.1.2, hk.2⟩, hk.1.1.2⟩))) (fun _ h_ => h_))); (case aB => exact (b_ HB)); (case aF => exact (fun k_ hk => ⟨Kd.freshB (g := gb171) (o := .cells #[.string ((rd_T30 l0_0 x11_1).f0), .slice A170_1 ((rd_T30 l0_0 x11_1).f1).length c170_1] 30 (0, 0)) (h_ BK171) k_ hk, Kd.freshB (g := gb176) (o := .cells #[.string t172, .slice Ao23 t173.length co23] 30 (0, 0)) (h_ BK176) k_ hk⟩)); (case aO => exact (s2_ (Kd.S_mono HO_170000.out (fun k_ hk => ⟨⟨hk.2.1, hk.2.2⟩, fun e_ => hk.1 e_⟩)))); (case aS => exact (bz_ (b_ HB))); (case aL => have := LMc12.out; omega); intro v178 w28 ho hb hg hat; rw [← Ny177.out] at ho; replace BK168 := mk0 (blk_grown (g := gb168) (o := .cells #[.slice (some ad170) l0_0.length c0_0] 79 (0, 0)) (h_ BK168) hg (Kd.S_ne HO_170000.out BK168.out (by decide))); replace BK169 := mk0 (blk_grown (g := gb169) (o := .cells #[u170000] 79 (0, 0)) (h_ BK169) hg (Kd.S_ne HO_170000.out BK169.out (by decide))); replace BK171 := mk0 (blk_grown (g := gb171) (o := .cells #[.string ((rd_T30 l0_0 x11_1).f0), .slice A170_1 ((rd_T30 l0_0 x11_1).f1).length c170_1] 30 (0, 0)) (h_ BK171) hg (Kd.S_away HO_170000.out (fun _ hk => hk.2.1))); replace BK176 := mk0 (blk_grown (g := gb176) (o := .cells #[.string t172, .slice Ao23 t173.length co23] 30 (0, 0)) (h_ BK176) hg (Kd.S_away HO_170000.out (fun _ hk => hk.2.2))); replace HB := mk0 (hb); have HO179 := mk0 (ho); clear HO_170000 HO175; clear ho hb hg hat; obtain ⟨Ao29, co29, eo29⟩ := Kd.S_slice HO179.out; subst eo29; obtain ⟨hcz30_0, hfz30_0⟩ := c1_ BK169))
         go_roundg k1
         case measure => have := HK1.out; omega
         case rel => exact ⟨(wrap64 (x11_1 + 1)), (y177), (.slice Ao29 y177.length co29), (by first | rfl | (simp; done) | (simp [*]; done)), H', ⟨by have := HK1.out; omega⟩, ⟨by (with_reducible repeat (first | apply Kd.S_alloc | apply Kd.S_drewN | apply Kd.S_drew)); exact Kd.S_mono (Kd.S_far (p := ⟨gb169, 0, none⟩) (Kd.S_types HO179.out BK169.out (by decide)) (fun _ hk => hk.2) (.slice Ao29 y177.length co29)) (fun _ hk => trivial)⟩, ⟨(fa_ (h_ BK168) NB168_169.out)⟩, ⟨(pu_ (cs := #[u170000]) (h_ BK169))⟩, ⟨b_ HB⟩⟩
        ·rw [if_neg c12] at H
         exact absurd H (by simp)
       ·rw [if_neg c11] at H
        have c11b0 : decide (0 < (t173.length : Int)) = false := decide_eq_false c11
        have c11b1 : decide (0 < t173.length) = false := decide_eq_false (by omega)
        clear c11
        have H' := mk0 H
        clear H
        have p170 : 0 ≤ (x11_1 : Int) := of_decide_eq_true (by first | (with_reducible assumption) | assumption)
        have q170 : x11_1 < (l0_0.length : Int) := of_decide_eq_true (by first | (with_reducible assumption) | assumption)
        obtain ⟨ad170, A170_1, c170_1, e170, hx170_0, hx170_1, hl170_1, hi170_1⟩ := at_T30 HR0_0.out x11_1 p170 q170
        cases e170
        replace hx170_0 := bc_ HB hx170_0
        replace hx170_1 := bc_ HB hx170_1
        have HR170_1 := mk0 hi170_1
        have HC170_1 := mk0 hl170_1
        clear hi170_1 hl170_1
        replace p170 := eq_true p170
        replace q170 := eq_true q170
        go_wp2_with (first | ((with_reducible refine gate_dst (N := 6) rfl ?_); refine bx_ (N := 6) (cs := #[.string (⟨#[]⟩ : ByteArray), .slice none 0 0]) (t := 30) (h := ?_); intro gb171 hg w31 hbox hb; have n5_ := mk0 (gz_ HB hg); have n6_ := mk0 (gz_ HB hg); have n7_ := mk0 (ne1_ BK168 hg); have n8_ := mk0 (ne2_ BK168 hg); have n9_ := mk0 (ne1_ BK169 hg); have n10_ := mk0 (ne2_ BK169 hg); replace HO_170000 := mk0 (Kd.S_below (Kd.S_elderB (s_ HO_170000) gb171 (Nat.le_of_eq hg.symm)) hb); replace BK168 := mk0 (u_ BK168 hb); replace BK169 := mk0 (u_ BK169 hb); replace HB := mk0 (bt_ (b_ HB) hb); have BK171 := mk0 (hbox); have GW171 := n5_; have GE171 := n6_; have NB168_171 := n7_; have NB171_168 := n8_; have NB169_171 := n9_; have NB171_169 := n10_; clear n5_ n6_ n7_ n8_ n9_ n10_ hb hbox hg; have hnb32 := NB171_168.out; have hnc32 := NB168_171.out; have hnb33 := NB171_169.out; have hnc33 := NB169_171.out; obtain ⟨hcz34_0, hcz34_1, hfz34_0, hfz34_1⟩ := c2_ BK171) | ((with_reducible refine gate_callee (f := 63) rfl ?_); refine gL_ (some 17) Try.func63 #[.agg #[.string ((rd_T30 l0_0 x11_1).f0), .slice A170_1 ((rd_T30 l0_0 x11_1).f1).length c170_1], .int .i64 a1] (h := ?_); (with_reducible refine (chain_Left.calls ((rd_T30 l0_0 x11_1).f0) _ _ ((rd_T30 l0_0 x11_1).f1) a1 t172 t173 _ ?side1 ?side2 A10.out).mono ?_); (case side1 => exact Kd.C_below HR170_1.out (b_ HB)); (case side2 => exact HC170_1.out); rintro e w35 ⟨v174, rfl, ho0, hb⟩; refine ⟨_, rfl, ?_⟩; have n1_ := mk0 (Kd.R_lower ho0 (bz_ (b_ HB))); replace HO_170000 := mk0 (Kd.S_elder' (s2_ (Kd.S_mono (Kd.S_far (p := ⟨gb171, 1, none⟩) (Kd.S_far (p := ⟨gb171, 0, none⟩) (Kd.S_mono HO_170000.out (fun k_ hk => (⟨hk, hk.2⟩ : _ ∧ k_ ≠ gb171))) (fun _ hk => hk.2) (.string ((rd_T30 l0_0 x11_1).f0))) (fun _ hk => hk.2) (.slice A170_1 ((rd_T30 l0_0 x11_1).f1).length c170_1)) (fun _ h_ => h_.1))) (Kd.R_base ho0) hb); replace BK168 := mk0 (blk_below (g := gb168) (o := .cells #[.slice (some ad170) l0_0.length c0_0] 79 (0, 0)) (fa_ (fa_ (h_ BK168) NB168_171.out) NB168_171.out) hb); replace BK169 := mk0 (blk_below (g := gb169) (o := .cells #[u170000] 79 (0, 0)) (fa_ (fa_ (h_ BK169) NB169_171.out) NB169_171.out) hb); replace BK171 := mk0 (blk_below (g := gb171) (o := .cells #[.string ((rd_T30 l0_0 x11_1).f0), .slice A170_1 ((rd_T30 l0_0 x11_1).f1).length c170_1] 30 (0, 0)) (pu_ (cs := #[.string ((rd_T30 l0_0 x11_1).f0), .slice none 0 0]) (pu_ (cs := #[.string (⟨#[]⟩ : ByteArray), .slice none 0 0]) (h_ BK171))) hb); replace HB := mk0 (bt_ (b_ HB) hb); have HO175 := n1_; clear n1_; (try clear hb); (try clear ho0)) | ((with_reducible refine gate_dst (N := 7) rfl ?_); refine bx_ (N := 7) (cs := #[.string (⟨#[]⟩ : ByteArray), .slice none 0 0]) (t := 30) (h := ?_); intro gb176 hg w36 hbox hb; have n7_ := mk0 (gz_ HB hg); have n8_ := mk0 (gz_ HB hg); have n9_ := mk0 (ne1_ BK168 hg); have n10_ := mk0 (ne2_ BK168 hg); have n11_ := mk0 (ne1_ BK169 hg); have n12_ := mk0 (ne2_ BK169 hg); have n13_ := mk0 (ne1_ BK171 hg); have n14_ := mk0 (ne2_ BK171 hg); replace HO_170000 := mk0 (Kd.S_below (Kd.S_elderB (s_ HO_170000) gb176 (Nat.le_of_eq hg.symm)) hb); replace HO175 := mk0 (Kd.R_below (r_ HO175) hb); replace BK168 := mk0 (u_ BK168 hb); replace BK169 := mk0 (u_ BK169 hb); replace BK171 := mk0 (u_ BK171 hb); replace HB := mk0 (bt_ (b_ HB) hb); have BK176 := mk0 (hbox); have GW176 := n7_; have GE176 := n8_; have NB168_176 := n9_; have NB176_168 := n10_; have NB169_176 := n11_; have NB176_169 := n12_; have NB171_176 := n13_; have NB176_171 := n14_; clear n7_ n8_ n9_ n10_ n11_ n12_ n13_ n14_ hb hbox hg; have hnb37 := NB176_168.out; have hnc37 := NB168_176.out; have hnb38 := NB176_169.out; have hnc38 := NB169_176.out; have hnb39 := NB176_171.out; have hnc39 := NB171_176.out; obtain ⟨hcz40_0, hcz40_1, hfz40_0, hfz40_1⟩ := c2_ BK176; obtain ⟨Ao41, co41, eo41⟩ := Kd.R_slice HO175.out; subst eo41))
        go_roundg k1
        case measure => have := HK1.out; omega
        case rel => exact ⟨(wrap64 (x11_1 + 1)), (x170000_1), (u170000), (by first | rfl | (simp; done) | (simp [*]; done)), H', ⟨by have := HK1.out; omega⟩, ⟨by (with_reducible repeat (first | apply Kd.S_alloc | apply Kd.S_drewN | apply Kd.S_drew)); exact Kd.S_mono (Kd.S_far (p := ⟨gb176, 1, none⟩) (Kd.S_far (p := ⟨gb176, 0, none⟩) (Kd.S_mono HO_170000.out (fun k_ hk => (⟨hk, hk.2⟩ : _ ∧ k_ ≠ gb176))) (fun _ hk => hk.2) (.string t172)) (fun _ hk => hk.2) (.slice Ao41 t173.length co41)) (fun _ hk => trivial)⟩, ⟨(fa_ (fa_ (h_ BK168) NB168_176.out) NB168_176.out)⟩, ⟨(fa_ (fa_ (h_ BK169) NB169_176.out) NB169_176.out)⟩, ⟨b_ HB⟩⟩
      ·rw [if_neg c9] at H
       exact absurd H (by simp)
     ·rw [if_neg c8] at H
      exact absurd H (by simp)
    ·rw [if_neg c7] at H
     have c7b0 : decide (x11_1 < (l0_0.length : Int)) = false := decide_eq_false c7
     clear c7
     obtain rfl := Option.some.inj H
     have hnb42 := NB169_168.out
     have hnc42 := NB168_169.out
     obtain ⟨hcz43_0, hfz43_0⟩ := c1_ BK169
     obtain ⟨Ao44, co44, eo44⟩ := Kd.S_slice HO_170000.out
     subst eo44
     go_wp2
     refine bodyPost_ret (results_cell_row rfl _ _ gb169 79 #[.slice Ao44 x170000_1.length co44] (0, 0) _ rfl (pu_ (cs := #[.slice Ao44 x170000_1.length co44]) (h_ BK169)) Try.underlying79 rfl (by kernel_rfl)) rfl ?_
     exact ⟨_, by first | rfl | (simp [errW_none, errW_some] <;> rfl) | (simp [*, errW_none, errW_some] <;> rfl), by (with_reducible repeat (first | apply Kd.S_alloc | apply Kd.S_drewN | apply Kd.S_drew)); exact Kd.S_mono (Kd.S_far (p := ⟨gb169, 0, none⟩) (Kd.S_types HO_170000.out BK169.out (by decide)) (fun _ hk => hk.2) (.slice Ao44 x170000_1.length co44)) (fun _ hk => trivial), b_ HB⟩

/-! ### table_Purge: function 47 -/
def table_Purge.f (k : Nat) (l0_0 : List (S30)) (a1 : Int) : Option ((List (S30)) × Int) := (table_May.f k l0_0).bind fun t182 => (if t182 = true then ((table_Left.f k l0_0 a1).bind fun t183 => (some (t183, 0))) else (some (([] : List (S30)), 1)))
theorem table_Purge.mono : ∀ a0 a1 k, LeO (table_Purge.f k a0 a1) (table_Purge.f (k + 1) a0 a1) := by
 intro a0 a1 k
 unfold table_Purge.f
 repeat' first
   | (with_reducible exact table_Left.mono _ _ _)
   | (with_reducible exact table_May.mono _ _)
   | (with_reducible exact LeO.refl _)
   | (with_reducible exact LeO.none _)
   | (with_reducible refine LeO.ite ?_ ?_)
   | (with_reducible refine LeO.bind ?_ (fun _ => ?_))
   | exact table_Left.mono _ _ _
   | exact table_May.mono _ _
   | exact LeO.none _
   | refine LeO.ite ?_ ?_
   | refine LeO.bind ?_ (fun _ => ?_)
set_option maxHeartbeats 8000000 in
set_option maxRecDepth 100000 in
theorem table_Purge.calls (k : Nat) (A0_0 : Option Addr) (c0_0 : Nat) (l0_0 : List (S30)) (a1 : Int) (r1 : List (S30)) (r2 : Int) (w : World) (hr0_0 : Kd.C k30 w A0_0 l0_0.length l0_0) (hc0_0 : l0_0.length ≤ c0_0) (h : table_Purge.f k l0_0 a1 = some (r1, r2)) :
  Calls Try.prog 47 #[.agg #[.slice A0_0 l0_0.length c0_0], .int .i64 a1] w fun e w' => ∃ v0_ : Value, e = .returned (.tuple #[.agg #[v0_], .int .i64 r2]) ∧ Kd.S k30 30 w' w.heap.size (fun _ => True) v0_ r1 ∧ Below w.heap.size w w' := by
 have hu79 := Try.underlying79
 have HR0_0 := mk0 hr0_0
 have HC0_0 := mk0 hc0_0
 clear hr0_0 hc0_0
 have HB := mk0 (Below.refl w.heap.size w)
 have H : ((table_May.f k l0_0).bind fun t182 => (if t182 = true then ((table_Left.f k l0_0 a1).bind fun t183 => (some (t183, 0))) else (some (([] : List (S30)), 1)))) = some (r1, r2) := h
 clear h
 replace H := Option.bind_eq_some_iff.mp H
 obtain ⟨t182, A30, H⟩ := H
 try dsimp only at H
 have A3 := mk0 A30
 clear A30
 by_cases c4 : t182 = true
 focus
  subst c4
  rw [if_pos rfl] at H
  replace H := Option.bind_eq_some_iff.mp H
  obtain ⟨t183, A50, H⟩ := H
  try dsimp only at H
  have A5 := mk0 A50
  clear A50
  simp only [Option.some.injEq, Prod.mk.injEq] at H
  obtain ⟨rfl, rfl⟩ := H
  go_enter Try.func47, Try.ntmps47
 rotate_left 1
 focus
  replace c4 := Bool.eq_false_iff.mpr c4
  subst c4
  rw [if_neg (show ¬ (false = true) by decide)] at H
  simp only [Option.some.injEq, Prod.mk.injEq] at H
  obtain ⟨rfl, rfl⟩ := H
  go_enter Try.func47, Try.ntmps47
 rotate_right 1
 all_goals go_wp2_with (first | ((with_reducible refine gate_dst (N := 2) rfl ?_); refine bx_ (N := 2) (cs := #[.slice A0_0 l0_0.length c0_0]) (t := 79) (h := ?_); intro gb180 hg w6 hbox hb; have n2_ := mk0 (gz_ HB hg); have n3_ := mk0 (gz_ HB hg); replace HB := mk0 (bt_ (b_ HB) hb); have BK180 := mk0 (hbox); have GW180 := n2_; have GE180 := n3_; clear n2_ n3_; clear hb hbox hg) | ((with_reducible refine gate_dst (N := 4) rfl ?_); refine bx_ (N := 4) (cs := #[.slice none 0 0]) (t := 79) (h := ?_); intro gb181 hg w7 hbox hb; have n3_ := mk0 (gz_ HB hg); have n4_ := mk0 (gz_ HB hg); have n5_ := mk0 (ne1_ BK180 hg); have n6_ := mk0 (ne2_ BK180 hg); replace BK180 := mk0 (u_ BK180 hb); replace HB := mk0 (bt_ (b_ HB) hb); have BK181 := mk0 (hbox); have GW181 := n3_; have GE181 := n4_; have NB180_181 := n5_; have NB181_180 := n6_; clear n3_ n4_ n5_ n6_ hb hbox hg; have hnb8 := NB180_181.out; have hnc8 := NB181_180.out; obtain ⟨hcz9_0, hfz9_0⟩ := c1_ BK180) | ((with_reducible refine gate_callee (f := 89) rfl ?_); refine gL_ (some 7) Try.func89 #[.agg #[.slice A0_0 l0_0.length c0_0]] (h := ?_); (with_reducible refine (table_May.calls k _ _ l0_0 true _ ?side1 ?side2 A3.out).mono ?_); (case side1 => exact cb_ HR0_0 HB); (case side2 => exact HC0_0.out); rintro e w10 ⟨rfl, hb⟩; refine ⟨_, rfl, ?_⟩; replace BK180 := mk0 (u_ BK180 hb); replace BK181 := mk0 (u_ BK181 hb); replace HB := mk0 (bt_ (b_ HB) hb); (try clear hb); obtain ⟨hcz11_0, hfz11_0⟩ := c1_ BK180; (try obtain ⟨hcz20_0, hfz20_0⟩ := c1_ BK181)) | ((with_reducible refine gate_callee (f := 90) rfl ?_); refine gL_ (some 12) Try.func90 #[.agg #[.slice A0_0 l0_0.length c0_0], .int .i64 a1] (h := ?_); (with_reducible refine (table_Left.calls k _ _ l0_0 a1 t183 _ ?side1 ?side2 A5.out).mono ?_); (case side1 => exact cb_ HR0_0 HB); (case side2 => exact HC0_0.out); rintro e w12 ⟨v184, rfl, ho0, hb⟩; refine ⟨_, rfl, ?_⟩; have n0_ := mk0 (Kd.S_lower ho0 (bz_ (b_ HB))); replace BK180 := mk0 (u_ BK180 hb); replace BK181 := mk0 (u_ BK181 hb); replace HB := mk0 (bt_ (b_ HB) hb); have HO185 := n0_; clear n0_; (try clear hb); (try clear ho0); obtain ⟨Ao13, co13, eo13⟩ := Kd.S_slice HO185.out; subst eo13; obtain ⟨hcz14_0, hfz14_0⟩ := c1_ BK181) | ((with_reducible refine gate_callee (f := 89) rfl ?_); refine gL_ (some 7) Try.func89 #[.agg #[.slice A0_0 l0_0.length c0_0]] (h := ?_); (with_reducible refine (table_May.calls k _ _ l0_0 false _ ?side1 ?side2 A3.out).mono ?_); (case side1 => exact cb_ HR0_0 HB); (case side2 => exact HC0_0.out); rintro e w19 ⟨rfl, hb⟩; refine ⟨_, rfl, ?_⟩; replace BK180 := mk0 (u_ BK180 hb); replace BK181 := mk0 (u_ BK181 hb); replace HB := mk0 (bt_ (b_ HB) hb); (try clear hb); obtain ⟨hcz20_0, hfz20_0⟩ := c1_ BK181; (try obtain ⟨hcz11_0, hfz11_0⟩ := c1_ BK180)))
 ·refine bodyPost_ret (results_ct rfl _ _ gb181 79 #[.slice Ao13 t183.length co13] (0, 0) _ rfl (pu_ (cs := #[.slice none 0 0]) (h_ BK181)) Try.underlying79 rfl (by kernel_rfl)) rfl ?_
  exact ⟨_, by first | rfl | (simp [errW_none, errW_some] <;> rfl) | (simp [*, errW_none, errW_some] <;> rfl), by (with_reducible repeat (first | apply Kd.S_alloc | apply Kd.S_drewN | apply Kd.S_drew)); exact Kd.S_mono (Kd.S_far (p := ⟨gb181, 0, none⟩) (Kd.S_types HO185.out BK181.out (by decide)) (fun _ hk => hk.2) (.slice Ao13 t183.length co13)) (fun _ hk => trivial), b_ HB⟩
 ·refine bodyPost_ret (results_ct rfl _ _ gb181 79 #[.slice none 0 0] (0, 0) _ rfl (pu_ (cs := #[.slice none 0 0]) (h_ BK181)) Try.underlying79 rfl (by kernel_rfl)) rfl ?_
  exact ⟨_, by first | rfl | (simp [errW_none, errW_some] <;> rfl) | (simp [*, errW_none, errW_some] <;> rfl), by first | exact Kd.S_nil _ _ _ _ _ | exact Kd.N_nil _ _ _ _ _ | exact Kd.V_nil _ _ _ _ _ | exact Kd.Q_nil _ _ _ _ _ | exact Kd.R_nil _ _ _ _ _, b_ HB⟩

/-! ### quorumlaw9_num: function 48 -/
def quorumlaw9_num.f (a0 : Int) : Option (Int) := some a0
set_option maxHeartbeats 8000000 in
set_option maxRecDepth 100000 in
theorem quorumlaw9_num.calls (a0 : Int) (r : Int) (w : World) (h : quorumlaw9_num.f a0 = some r) :
  Calls Try.prog 48 #[.int .i64 a0] w fun e w' => e = .returned (.int .i64 r) ∧ Drawn0 w w' := by
 have H : (some a0) = some r := h
 clear h
 obtain rfl := Option.some.inj H
 go_enter Try.func48, Try.ntmps48
 go_wp2
 go_ret
 exact ⟨by first | rfl | (simp; done) | (simp [*]; done), by repeat (first | exact Drawn0.refl _ | apply Drawn0.step)⟩

/-! ### chain_Look: function 62 -/
def chain_Look.f (a0_0 : ByteArray) (l0_1 : List (S39)) (a1 : Int) : Option (Int × ByteArray × Bool × Bool) := (chain_place.f a0_0 l0_1 a1).bind fun t188 => (if t188 = (l0_1.length : Int) then (some (0, (⟨#[]⟩ : ByteArray), false, false)) else (if 0 ≤ t188 then (if t188 < (l0_1.length : Int) then (if (rd_T39 l0_1 t188).f2 = true then (some (0, (⟨#[]⟩ : ByteArray), false, false)) else (some ((rd_T39 l0_1 t188).f0, (rd_T39 l0_1 t188).f1, (rd_T39 l0_1 t188).f2, true))) else (none)) else (none)))
set_option maxHeartbeats 8000000 in
set_option maxRecDepth 100000 in
theorem chain_Look.calls (a0_0 : ByteArray) (A0_1 : Option Addr) (c0_1 : Nat) (l0_1 : List (S39)) (a1 : Int) (r1 : Int) (r2 : ByteArray) (r3 : Bool) (r4 : Bool) (w : World) (hr0_1 : Kd.C k39 w A0_1 l0_1.length l0_1) (hc0_1 : l0_1.length ≤ c0_1) (h : chain_Look.f a0_0 l0_1 a1 = some (r1, r2, r3, r4)) :
  Calls Try.prog 62 #[.agg #[.string a0_0, .slice A0_1 l0_1.length c0_1], .int .i64 a1] w fun e w' => e = .returned (.tuple #[.agg #[.int .i64 r1, .string r2, .bool r3], .bool r4]) ∧ Below w.heap.size w w' := by
 have hu30 := Try.underlying30
 have hu39 := Try.underlying39
 have HR0_1 := mk0 hr0_1
 have HC0_1 := mk0 hc0_1
 clear hr0_1 hc0_1
 have HB := mk0 (Below.refl w.heap.size w)
 have H : ((chain_place.f a0_0 l0_1 a1).bind fun t188 => (if t188 = (l0_1.length : Int) then (some (0, (⟨#[]⟩ : ByteArray), false, false)) else (if 0 ≤ t188 then (if t188 < (l0_1.length : Int) then (if (rd_T39 l0_1 t188).f2 = true then (some (0, (⟨#[]⟩ : ByteArray), false, false)) else (some ((rd_T39 l0_1 t188).f0, (rd_T39 l0_1 t188).f1, (rd_T39 l0_1 t188).f2, true))) else (none)) else (none)))) = some (r1, r2, r3, r4) := h
 clear h
 replace H := Option.bind_eq_some_iff.mp H
 obtain ⟨t188, A30, H⟩ := H
 try dsimp only at H
 have A3 := mk0 A30
 clear A30
 by_cases c4 : t188 = (l0_1.length : Int)
 focus
  rw [if_pos c4] at H
  have c4b0 : (t188 == (l0_1.length : Int)) = true := beq_iff_eq.mpr c4
  have c4b1 : (t188 != (l0_1.length : Int)) = false := bne_eq_false_iff_eq.mpr c4
  clear c4
  simp only [Option.some.injEq, Prod.mk.injEq] at H
  obtain ⟨rfl, rfl, rfl, rfl⟩ := H
  go_enter Try.func62, Try.ntmps62
 rotate_left 1
 focus
  rw [if_neg c4] at H
  have c4b0 : (t188 == (l0_1.length : Int)) = false := beq_eq_false_iff_ne.mpr c4
  have c4b1 : (t188 != (l0_1.length : Int)) = true := bne_iff_ne.mpr c4
  by_cases c12 : 0 ≤ t188
  focus
   rw [if_pos c12] at H
   have c12b0 : decide (0 ≤ t188) = true := decide_eq_true c12
   clear c12
   by_cases c13 : t188 < (l0_1.length : Int)
   focus
    rw [if_pos c13] at H
    have c13b0 : decide (t188 < (l0_1.length : Int)) = true := decide_eq_true c13
    clear c13
    obtain ⟨bq14, hbq14⟩ : ∃ b_ : Bool, b_ = ((rd_T39 l0_1 t188).f2) := ⟨_, rfl⟩
    replace H : (if bq14 = true then (some (0, (⟨#[]⟩ : ByteArray), false, false)) else (some ((rd_T39 l0_1 t188).f0, (rd_T39 l0_1 t188).f1, bq14, true))) = some (r1, r2, r3, r4) := by rw [← hbq14] at H; exact H
    have Nbq14 := mk0 hbq14
    clear hbq14
    by_cases c15 : bq14 = true
    focus
     subst c15
     rw [if_pos rfl] at H
     simp only [Option.some.injEq, Prod.mk.injEq] at H
     obtain ⟨rfl, rfl, rfl, rfl⟩ := H
     go_enter Try.func62, Try.ntmps62
    rotate_left 1
    focus
     replace c15 := Bool.eq_false_iff.mpr c15
     subst c15
     rw [if_neg (show ¬ (false = true) by decide)] at H
     simp only [Option.some.injEq, Prod.mk.injEq] at H
     obtain ⟨rfl, rfl, rfl, rfl⟩ := H
     go_enter Try.func62, Try.ntmps62
    rotate_right 1
   rotate_left 2
   ·rw [if_neg c13] at H
    exact absurd H (by simp)
  rotate_left 2
  ·rw [if_neg c12] at H
   exact absurd H (by simp)
 rotate_right 1
 all_goals go_wp2_with (first | ((with_reducible refine gate_dst (N := 2) rfl ?_); refine bx_ (N := 2) (cs := #[.string a0_0, .slice A0_1 l0_1.length c0_1]) (t := 30) (h := ?_); intro gb186 hg w23 hbox hb; have n2_ := mk0 (gz_ HB hg); have n3_ := mk0 (gz_ HB hg); replace HB := mk0 (bt_ (b_ HB) hb); have BK186 := mk0 (hbox); have GW186 := n2_; have GE186 := n3_; clear n2_ n3_; clear hb hbox hg) | ((with_reducible refine gate_dst (N := 4) rfl ?_); refine bx_ (N := 4) (cs := #[.int .i64 0, .string (⟨#[]⟩ : ByteArray), .bool false]) (t := 39) (h := ?_); intro gb187 hg w24 hbox hb; have n3_ := mk0 (gz_ HB hg); have n4_ := mk0 (gz_ HB hg); have n5_ := mk0 (ne1_ BK186 hg); have n6_ := mk0 (ne2_ BK186 hg); replace BK186 := mk0 (u_ BK186 hb); replace HB := mk0 (bt_ (b_ HB) hb); have BK187 := mk0 (hbox); have GW187 := n3_; have GE187 := n4_; have NB186_187 := n5_; have NB187_186 := n6_; clear n3_ n4_ n5_ n6_ hb hbox hg; have hnb25 := NB186_187.out; have hnc25 := NB187_186.out; obtain ⟨hcz26_0, hcz26_1, hfz26_0, hfz26_1⟩ := c2_ BK186) | ((with_reducible refine gate_callee (f := 120) rfl ?_); refine gL_ (some 9) Try.func120 #[.agg #[.string a0_0, .slice A0_1 l0_1.length c0_1], .int .i64 a1] (h := ?_); (with_reducible refine (chain_place.calls a0_0 _ _ l0_1 a1 t188 _ ?side1 ?side2 A3.out).mono ?_); (case side1 => exact cb_ HR0_1 HB); (case side2 => exact HC0_1.out); rintro e w27 ⟨rfl, hb⟩; refine ⟨_, rfl, ?_⟩; replace BK186 := mk0 (u_ BK186 hb); replace BK187 := mk0 (blk_below (g := gb187) (o := .cells #[.int .i64 0, .string (⟨#[]⟩ : ByteArray), .bool false] 39 (0, 0)) (h_ BK187) hb); replace HB := mk0 (bt_ (b_ HB) hb); (try clear hb); obtain ⟨hcz28_0, hcz28_1, hfz28_0, hfz28_1⟩ := c2_ BK186; have p189 : 0 ≤ (t188 : Int) := of_decide_eq_true (by first | (with_reducible assumption) | assumption); have q189 : t188 < (l0_1.length : Int) := of_decide_eq_true (by first | (with_reducible assumption) | assumption); obtain ⟨ad189, e189, hx189_0, hx189_1, hx189_2⟩ := at_T39 HR0_1.out t188 p189 q189; (try rw [← Nbq14.out] at hx189_2); cases e189; replace hx189_0 := bc_ HB hx189_0; replace hx189_1 := bc_ HB hx189_1; replace hx189_2 := bc_ HB hx189_2; replace p189 := eq_true p189; replace q189 := eq_true q189; have p190 : 0 ≤ (t188 : Int) := of_decide_eq_true (by first | (with_reducible assumption) | assumption); have q190 : t188 < (l0_1.length : Int) := of_decide_eq_true (by first | (with_reducible assumption) | assumption); obtain ⟨ad190, e190, hx190_0, hx190_1, hx190_2⟩ := at_T39 HR0_1.out t188 p190 q190; (try rw [← Nbq14.out] at hx190_2); obtain rfl : ad189 = ad190 := (by injection e190); replace hx190_0 := bc_ HB hx190_0; replace hx190_1 := bc_ HB hx190_1; replace hx190_2 := bc_ HB hx190_2; replace p190 := eq_true p190; replace q190 := eq_true q190; obtain ⟨hcz29_0, hcz29_1, hcz29_2, hfz29_0, hfz29_1, hfz29_2⟩ := c3_ BK187) | ((with_reducible refine gate_callee (f := 120) rfl ?_); refine gL_ (some 9) Try.func120 #[.agg #[.string a0_0, .slice A0_1 l0_1.length c0_1], .int .i64 a1] (h := ?_); (with_reducible refine (chain_place.calls a0_0 _ _ l0_1 a1 t188 _ ?side1 ?side2 A3.out).mono ?_); (case side1 => exact cb_ HR0_1 HB); (case side2 => exact HC0_1.out); rintro e w9 ⟨rfl, hb⟩; refine ⟨_, rfl, ?_⟩; replace BK186 := mk0 (u_ BK186 hb); replace BK187 := mk0 (blk_below (g := gb187) (o := .cells #[.int .i64 0, .string (⟨#[]⟩ : ByteArray), .bool false] 39 (0, 0)) (h_ BK187) hb); replace HB := mk0 (bt_ (b_ HB) hb); (try clear hb); obtain ⟨hcz10_0, hcz10_1, hfz10_0, hfz10_1⟩ := c2_ BK186; obtain ⟨hcz11_0, hcz11_1, hcz11_2, hfz11_0, hfz11_1, hfz11_2⟩ := c3_ BK187) | ((with_reducible refine gate_callee (f := 120) rfl ?_); refine gL_ (some 9) Try.func120 #[.agg #[.string a0_0, .slice A0_1 l0_1.length c0_1], .int .i64 a1] (h := ?_); (with_reducible refine (chain_place.calls a0_0 _ _ l0_1 a1 t188 _ ?side1 ?side2 A3.out).mono ?_); (case side1 => exact cb_ HR0_1 HB); (case side2 => exact HC0_1.out); rintro e w20 ⟨rfl, hb⟩; refine ⟨_, rfl, ?_⟩; replace BK186 := mk0 (u_ BK186 hb); replace BK187 := mk0 (blk_below (g := gb187) (o := .cells #[.int .i64 0, .string (⟨#[]⟩ : ByteArray), .bool false] 39 (0, 0)) (h_ BK187) hb); replace HB := mk0 (bt_ (b_ HB) hb); (try clear hb); obtain ⟨hcz21_0, hcz21_1, hfz21_0, hfz21_1⟩ := c2_ BK186; have p189 : 0 ≤ (t188 : Int) := of_decide_eq_true (by first | (with_reducible assumption) | assumption); have q189 : t188 < (l0_1.length : Int) := of_decide_eq_true (by first | (with_reducible assumption) | assumption); obtain ⟨ad189, e189, hx189_0, hx189_1, hx189_2⟩ := at_T39 HR0_1.out t188 p189 q189; (try rw [← Nbq14.out] at hx189_2); cases e189; replace hx189_0 := bc_ HB hx189_0; replace hx189_1 := bc_ HB hx189_1; replace hx189_2 := bc_ HB hx189_2; replace p189 := eq_true p189; replace q189 := eq_true q189; obtain ⟨hcz22_0, hcz22_1, hcz22_2, hfz22_0, hfz22_1, hfz22_2⟩ := c3_ BK187))
 ·refine bodyPost_ret (results_ct rfl _ _ gb187 39 #[.int .i64 0, .string (⟨#[]⟩ : ByteArray), .bool false] (0, 0) _ rfl (pu_ (cs := #[.int .i64 0, .string (⟨#[]⟩ : ByteArray), .bool false]) (pu_ (cs := #[.int .i64 0, .string (⟨#[]⟩ : ByteArray), .bool false]) (pu_ (cs := #[.int .i64 0, .string (⟨#[]⟩ : ByteArray), .bool false]) (h_ BK187)))) Try.underlying39 rfl (by kernel_rfl)) rfl ?_
  exact ⟨by first | rfl | (simp [errW_none, errW_some] <;> rfl) | (simp [*, errW_none, errW_some] <;> rfl), b_ HB⟩
 ·refine bodyPost_ret (results_ct rfl _ _ gb187 39 #[.int .i64 0, .string (⟨#[]⟩ : ByteArray), .bool false] (0, 0) _ rfl (pu_ (cs := #[.int .i64 0, .string (⟨#[]⟩ : ByteArray), .bool false]) (pu_ (cs := #[.int .i64 0, .string (⟨#[]⟩ : ByteArray), .bool false]) (pu_ (cs := #[.int .i64 0, .string (⟨#[]⟩ : ByteArray), .bool false]) (h_ BK187)))) Try.underlying39 rfl (by kernel_rfl)) rfl ?_
  exact ⟨by first | rfl | (simp [errW_none, errW_some] <;> rfl) | (simp [*, errW_none, errW_some] <;> rfl), b_ HB⟩
 ·refine bodyPost_ret (results_ct rfl _ _ gb187 39 #[.int .i64 ((rd_T39 l0_1 t188).f0), .string ((rd_T39 l0_1 t188).f1), .bool false] (0, 0) _ rfl (pu_ (cs := #[.int .i64 ((rd_T39 l0_1 t188).f0), .string ((rd_T39 l0_1 t188).f1), .bool false]) (pu_ (cs := #[.int .i64 ((rd_T39 l0_1 t188).f0), .string (⟨#[]⟩ : ByteArray), .bool false]) (pu_ (cs := #[.int .i64 0, .string (⟨#[]⟩ : ByteArray), .bool false]) (h_ BK187)))) Try.underlying39 rfl (by kernel_rfl)) rfl ?_
  exact ⟨by first | rfl | (simp [errW_none, errW_some] <;> rfl) | (simp [*, errW_none, errW_some] <;> rfl), b_ HB⟩

/-! ### table_Rows: function 91 -/
def table_Rows.l0 : Nat → Int → List (S145) → List (S30) → Int → Int → Option ((List (S145)))
 | 0, _, _, _, _, _ => none
 | k + 1, x1, x4, x10, x11, x12 => if x12 < x11 then (if 0 ≤ x12 then (if x12 < (x10.length : Int) then ((chain_Look.f ((rd_T30 x10 x12).f0) ((rd_T30 x10 x12).f1) x1).bind fun bt194 => (if bt194.2.2.2 = true then (if x4.length < 4398046511104 then (table_Rows.l0 k x1 (x4 ++ [(⟨(rd_T30 x10 x12).f0, bt194.2.1⟩ : S145)]) x10 x11 (wrap64 (x12 + 1))) else (none)) else (table_Rows.l0 k x1 x4 x10 x11 (wrap64 (x12 + 1))))) else (none)) else (none)) else (some x4)
def table_Rows.f (k : Nat) (l0_0 : List (S30)) (a1 : Int) : Option ((List (S145))) := table_Rows.l0 k a1 ([] : List (S145)) l0_0 (l0_0.length : Int) 0
theorem table_Rows.mono_l : ∀ k, (∀ y0 y1 y2 y3 y4, LeO (table_Rows.l0 k y0 y1 y2 y3 y4) (table_Rows.l0 (k + 1) y0 y1 y2 y3 y4))
 | 0 => fun _ _ _ _ _ r h => by simp [table_Rows.l0] at h
 | k + 1 => by
  have ih0 := table_Rows.mono_l k
  ·intro y0 y1 y2 y3 y4
   unfold table_Rows.l0
   repeat' first
   | (with_reducible exact ih0 _ _ _ _ _)
   | (with_reducible exact LeO.refl _)
   | (with_reducible exact LeO.none _)
   | (with_reducible refine LeO.ite ?_ ?_)
   | (with_reducible refine LeO.bind ?_ (fun _ => ?_))
   | exact ih0 _ _ _ _ _
   | exact LeO.none _
   | refine LeO.ite ?_ ?_
   | refine LeO.bind ?_ (fun _ => ?_)
theorem table_Rows.mono : ∀ a0 a1 k, LeO (table_Rows.f k a0 a1) (table_Rows.f (k + 1) a0 a1) := by
 intro a0 a1 k
 have ih0 := table_Rows.mono_l k
 unfold table_Rows.f
 repeat' first
   | (with_reducible exact ih0 _ _ _ _ _)
   | (with_reducible exact LeO.refl _)
   | (with_reducible exact LeO.none _)
   | (with_reducible refine LeO.ite ?_ ?_)
   | (with_reducible refine LeO.bind ?_ (fun _ => ?_))
   | exact ih0 _ _ _ _ _
   | exact LeO.none _
   | refine LeO.ite ?_ ?_
   | refine LeO.bind ?_ (fun _ => ?_)
set_option maxHeartbeats 8000000 in
set_option maxRecDepth 100000 in
theorem table_Rows.calls (k : Nat) (A0_0 : Option Addr) (c0_0 : Nat) (l0_0 : List (S30)) (a1 : Int) (r : List (S145)) (w : World) (hr0_0 : Kd.C k30 w A0_0 l0_0.length l0_0) (hc0_0 : l0_0.length ≤ c0_0) (h : table_Rows.f k l0_0 a1 = some r) :
  Calls Try.prog 91 #[.agg #[.slice A0_0 l0_0.length c0_0], .int .i64 a1] w fun e w' => ∃ v0_ : Value, e = .returned (v0_) ∧ Kd.R k145 145 w' w.heap.size (fun _ => True) v0_ r ∧ Below w.heap.size w w' := by
 have hu79 := Try.underlying79
 have hu30 := Try.underlying30
 have hu39 := Try.underlying39
 have hu145 := Try.underlying145
 have HR0_0 := mk0 hr0_0
 have HC0_0 := mk0 hc0_0
 clear hr0_0 hc0_0
 have HB := mk0 (Below.refl w.heap.size w)
 have H : (table_Rows.l0 k a1 ([] : List (S145)) l0_0 (l0_0.length : Int) 0) = some r := h
 clear h
 have H' := mk0 H
 clear H
 go_enter Try.func91, Try.ntmps91
 go_wp2_with (first | ((with_reducible refine gate_dst (N := 2) rfl ?_); refine bx_ (N := 2) (cs := #[.slice A0_0 l0_0.length c0_0]) (t := 79) (h := ?_); intro gb191 hg w3 hbox hb; have n2_ := mk0 (gz_ HB hg); have n3_ := mk0 (gz_ HB hg); replace HB := mk0 (bt_ (b_ HB) hb); have BK191 := mk0 (hbox); have GW191 := n2_; have GE191 := n3_; clear n2_ n3_ hb hbox hg; obtain ⟨hcz4_0, hfz4_0⟩ := c1_ BK191))
 go_loopg [4, 12] k (fun kq v4 v12 w' => ∃ (x4_1 : List (S145)) (x12_1 : Int), v12 = .int .i64 x12_1 ∧ Fc (table_Rows.l0 kq a1 x4_1 l0_0 (l0_0.length : Int) x12_1 = some r) ∧ Fc (kq ≤ k) ∧ Fc (Kd.R k145 145 w' w.heap.size (fun _ => True) v4 x4_1) ∧ Fc (w'.heap[gb191]? = some (.cells #[(.slice A0_0 l0_0.length c0_0)] 79 (0, 0))) ∧ Fc (Below w.heap.size w w'))
 case atStart => exact ⟨(([] : List (S145))), (0), (by first | rfl | (simp; done) | (simp [*]; done)), H', ⟨Nat.le_refl _⟩, ⟨by first | exact Kd.R_nil _ _ _ _ _ | exact Kd.N_nil _ _ _ _ _ | exact Kd.V_nil _ _ _ _ _ | exact Kd.Q_nil _ _ _ _ _ | exact Kd.S_nil _ _ _ _ _⟩, ⟨h_ BK191⟩, ⟨b_ HB⟩⟩
 case round =>
  clear H'
  try clear hcz4_0
  try clear hfz4_0
  obtain ⟨x4_1, x12_1, rfl, HA, HK1, HO_4, BK191, HB⟩ := hrel
  cases gk with
  | zero => exact absurd HA.out (by simp [table_Rows.l0])
  | succ k1 =>
   have H := HA.out
   clear HA
   simp only [table_Rows.l0] at H
   as_aux_lemma =>
    by_cases c5 : x12_1 < (l0_0.length : Int)
    ·rw [if_pos c5] at H
     have c5b0 : decide (x12_1 < (l0_0.length : Int)) = true := decide_eq_true c5
     clear c5
     by_cases c6 : 0 ≤ x12_1
     ·rw [if_pos c6] at H
      have c6b0 : decide (0 ≤ x12_1) = true := decide_eq_true c6
      clear c6
      by_cases c7 : x12_1 < (l0_0.length : Int)
      ·rw [if_pos c7] at H
       have c7b0 : decide (x12_1 < (l0_0.length : Int)) = true := decide_eq_true c7
       clear c7
       replace H := Option.bind_eq_some_iff.mp H
       obtain ⟨⟨t194, t195, t196, t197⟩, A80, H⟩ := H
       try dsimp only at H
       have A8 := mk0 A80
       clear A80
       by_cases c9 : t197 = true
       ·subst c9
        rw [if_pos rfl] at H
        by_cases c10 : x4_1.length < 4398046511104
        ·rw [if_pos c10] at H
         have LMc10 := mk0 c10
         clear c10
         obtain ⟨y199, hy199⟩ : ∃ y_ : List (S145), y_ = (x4_1 ++ [(⟨(rd_T30 l0_0 x12_1).f0, t195⟩ : S145)]) := ⟨_, rfl⟩
         replace H : (table_Rows.l0 k1 a1 y199 l0_0 (l0_0.length : Int) (wrap64 (x12_1 + 1))) = some r := by first | (rw [hy199]; with_reducible exact H) | (have H2_ := (Option.bind_some _ _).symm.trans H; rw [hy199]; with_reducible exact H2_) | (have H2_ := (Option.bind_some _ _).symm.trans H; with_reducible exact H2_) | with_reducible exact H | (rw [hy199]; exact H) | exact H
         have Ny199 := mk0 hy199
         clear hy199
         have H' := mk0 H
         clear H
         have p192 : 0 ≤ (x12_1 : Int) := of_decide_eq_true (by first | (with_reducible assumption) | assumption)
         have q192 : x12_1 < (l0_0.length : Int) := of_decide_eq_true (by first | (with_reducible assumption) | assumption)
         obtain ⟨ad192, A192_1, c192_1, e192, hx192_0, hx192_1, hl192_1, hi192_1⟩ := at_T30 HR0_0.out x12_1 p192 q192
         cases e192
         replace hx192_0 := bc_ HB hx192_0
         replace hx192_1 := bc_ HB hx192_1
         have HR192_1 := mk0 hi192_1
         have HC192_1 := mk0 hl192_1
         clear hi192_1 hl192_1
         replace p192 := eq_true p192
         replace q192 := eq_true q192
         go_wp2_with (first | ((with_reducible refine gate_dst (N := 6) rfl ?_); refine bx_ (N := 6) (cs := #[.string (⟨#[]⟩ : ByteArray), .slice none 0 0]) (t := 30) (h := ?_); intro gb193 hg w11 hbox hb; have n4_ := mk0 (gz_ HB hg); have n5_ := mk0 (gz_ HB hg); have n6_ := mk0 (ne1_ BK191 hg); have n7_ := mk0 (ne2_ BK191 hg); replace HO_4 := mk0 (Kd.R_below (r_ HO_4) hb); replace BK191 := mk0 (u_ BK191 hb); replace HB := mk0 (bt_ (b_ HB) hb); have BK193 := mk0 (hbox); have GW193 := n4_; have GE193 := n5_; have NB191_193 := n6_; have NB193_191 := n7_; clear n4_ n5_ n6_ n7_ hb hbox hg; have hnb12 := NB193_191.out; have hnc12 := NB191_193.out; obtain ⟨hcz13_0, hcz13_1, hfz13_0, hfz13_1⟩ := c2_ BK193) | ((with_reducible refine gate_callee (f := 62) rfl ?_); refine gL_ (some 19) Try.func62 #[.agg #[.string ((rd_T30 l0_0 x12_1).f0), .slice A192_1 ((rd_T30 l0_0 x12_1).f1).length c192_1], .int .i64 a1] (h := ?_); (with_reducible refine (chain_Look.calls ((rd_T30 l0_0 x12_1).f0) _ _ ((rd_T30 l0_0 x12_1).f1) a1 t194 t195 t196 true _ ?side1 ?side2 A8.out).mono ?_); (case side1 => exact Kd.C_below HR192_1.out (b_ HB)); (case side2 => exact HC192_1.out); rintro e w14 ⟨rfl, hb⟩; refine ⟨_, rfl, ?_⟩; have n0_ := mk0 (Kd.R_below (r2_ (Kd.R_mono (Kd.R_far (p := ⟨gb193, 1, none⟩) (Kd.R_far (p := ⟨gb193, 0, none⟩) (Kd.R_types HO_4.out BK193.out (by decide)) (fun _ hk => hk.2) (.string ((rd_T30 l0_0 x12_1).f0))) (fun _ hk => hk.2) (.slice A192_1 ((rd_T30 l0_0 x12_1).f1).length c192_1)) (fun _ h_ => h_.1))) hb); replace BK191 := mk0 (blk_below (g := gb191) (o := .cells #[.slice (some ad192) l0_0.length c0_0] 79 (0, 0)) (fa_ (fa_ (h_ BK191) NB191_193.out) NB191_193.out) hb); replace BK193 := mk0 (blk_below (g := gb193) (o := .cells #[.string ((rd_T30 l0_0 x12_1).f0), .slice A192_1 ((rd_T30 l0_0 x12_1).f1).length c192_1] 30 (0, 0)) (pu_ (cs := #[.string ((rd_T30 l0_0 x12_1).f0), .slice none 0 0]) (pu_ (cs := #[.string (⟨#[]⟩ : ByteArray), .slice none 0 0]) (h_ BK193))) hb); replace HB := mk0 (bt_ (b_ HB) hb); clear HO_4; have HO_4 := n0_; clear n0_; (try clear hb)) | ((with_reducible refine gate_dst (N := 7) rfl ?_); refine bx_ (N := 7) (cs := #[.int .i64 0, .string (⟨#[]⟩ : ByteArray), .bool false]) (t := 39) (h := ?_); intro gb198 hg w15 hbox hb; have n5_ := mk0 (gz_ HB hg); have n6_ := mk0 (gz_ HB hg); have n7_ := mk0 (ne1_ BK191 hg); have n8_ := mk0 (ne2_ BK191 hg); have n9_ := mk0 (ne1_ BK193 hg); have n10_ := mk0 (ne2_ BK193 hg); replace HO_4 := mk0 (Kd.R_below (r_ HO_4) hb); replace BK191 := mk0 (u_ BK191 hb); replace BK193 := mk0 (u_ BK193 hb); replace HB := mk0 (bt_ (b_ HB) hb); have BK198 := mk0 (hbox); have GW198 := n5_; have GE198 := n6_; have NB191_198 := n7_; have NB198_191 := n8_; have NB193_198 := n9_; have NB198_193 := n10_; clear n5_ n6_ n7_ n8_ n9_ n10_ hb hbox hg; have hnb16 := NB198_191.out; have hnc16 := NB191_198.out; have hnb17 := NB198_193.out; have hnc17 := NB193_198.out; obtain ⟨hcz18_0, hcz18_1, hcz18_2, hfz18_0, hfz18_1, hfz18_2⟩ := c3_ BK198; obtain ⟨hcz19_0, hcz19_1, hfz19_0, hfz19_1⟩ := c2_ BK193) | ((with_reducible refine gate_builtin (b := .append) (xs := #[.tmp 23, .tmp 29]) rfl ?_); at_builtin; refine Kd.R_append k145 (w0 := w) w.heap.size rfl (.tmp 23) (.tmp 29) 87 145 (.agg #[(.string ⟨#[]⟩), (.string ⟨#[]⟩)]) 32 rfl Try.underlying87 info145 rfl (by decide) (by omega) u4 x4_1 (⟨(rd_T30 l0_0 x12_1).f0, t195⟩ : S145) [.string ((rd_T30 l0_0 x12_1).f0), .string t195] (fun _ => True) (fun _ => False) rfl (by first | (go_simp; done) | (go_simp; rfl)) ?aP (fun _ hk => hk.elim) ?aF ?aO ?aB ?aS ?aL ?_; (case aP => exact k145_mkM _ _ _ (⟨(rd_T30 l0_0 x12_1).f0, t195⟩ : S145)); (case aB => exact (b_ HB)); (case aF => exact (fun _ _ => trivial)); (case aO => exact (r2_ (Kd.R_mono (Kd.R_far (p := ⟨gb198, 2, none⟩) (Kd.R_far (p := ⟨gb198, 1, none⟩) (Kd.R_far (p := ⟨gb198, 0, none⟩) (Kd.R_types HO_4.out BK198.out (by decide)) (fun _ hk => hk.2) (.int .i64 t194)) (fun _ hk => hk.2) (.string t195)) (fun _ hk => hk.2) (.bool t196)) (fun _ hk => trivial)))); (case aS => exact (bz_ (b_ HB))); (case aL => have := LMc10.out; omega); intro v200 w20 ho hb hg hat; rw [← Ny199.out] at ho; replace BK191 := mk0 (blk_grown (g := gb191) (o := .cells #[.slice (some ad192) l0_0.length c0_0] 79 (0, 0)) (fa_ (fa_ (fa_ (h_ BK191) NB191_198.out) NB191_198.out) NB191_198.out) hg (Kd.R_ne HO_4.out BK191.out (by decide))); replace BK193 := mk0 (blk_grown (g := gb193) (o := .cells #[.string ((rd_T30 l0_0 x12_1).f0), .slice A192_1 ((rd_T30 l0_0 x12_1).f1).length c192_1] 30 (0, 0)) (fa_ (fa_ (fa_ (h_ BK193) NB193_198.out) NB193_198.out) NB193_198.out) hg (Kd.R_ne HO_4.out BK193.out (by decide))); replace BK198 := mk0 (blk_grown (g := gb198) (o := .cells #[.int .i64 t194, .string t195, .bool t196] 39 (0, 0)) (pu_ (cs := #[.int .i64 t194, .string t195, .bool false]) (pu_ (cs := #[.int .i64 t194, .string (⟨#[]⟩ : ByteArray), .bool false]) (pu_ (cs := #[.int .i64 0, .string (⟨#[]⟩ : ByteArray), .bool false]) (h_ BK198)))) hg (Kd.R_ne HO_4.out BK198.out (by decide))); replace HB := mk0 (hb); have HO201 := mk0 (ho); clear HO_4; clear ho hb hg hat))
         go_roundg k1
         case measure => have := HK1.out; omega
         case rel => exact ⟨(y199), (wrap64 (x12_1 + 1)), (by first | rfl | (simp; done) | (simp [*]; done)), H', ⟨by have := HK1.out; omega⟩, ⟨by (with_reducible repeat (first | apply Ra_ | apply Rn_ | apply Rd_)); exact HO201.out⟩, ⟨h_ BK191⟩, ⟨b_ HB⟩⟩
        ·rw [if_neg c10] at H
         exact absurd H (by simp)
       ·replace c9 := Bool.eq_false_iff.mpr c9
        subst c9
        rw [if_neg (show ¬ (false = true) by decide)] at H
        have H' := mk0 H
        clear H
        have p192 : 0 ≤ (x12_1 : Int) := of_decide_eq_true (by first | (with_reducible assumption) | assumption)
        have q192 : x12_1 < (l0_0.length : Int) := of_decide_eq_true (by first | (with_reducible assumption) | assumption)
        obtain ⟨ad192, A192_1, c192_1, e192, hx192_0, hx192_1, hl192_1, hi192_1⟩ := at_T30 HR0_0.out x12_1 p192 q192
        cases e192
        replace hx192_0 := bc_ HB hx192_0
        replace hx192_1 := bc_ HB hx192_1
        have HR192_1 := mk0 hi192_1
        have HC192_1 := mk0 hl192_1
        clear hi192_1 hl192_1
        replace p192 := eq_true p192
        replace q192 := eq_true q192
        go_wp2_with (first | ((with_reducible refine gate_dst (N := 6) rfl ?_); refine bx_ (N := 6) (cs := #[.string (⟨#[]⟩ : ByteArray), .slice none 0 0]) (t := 30) (h := ?_); intro gb193 hg w21 hbox hb; have n4_ := mk0 (gz_ HB hg); have n5_ := mk0 (gz_ HB hg); have n6_ := mk0 (ne1_ BK191 hg); have n7_ := mk0 (ne2_ BK191 hg); replace HO_4 := mk0 (Kd.R_below (r_ HO_4) hb); replace BK191 := mk0 (u_ BK191 hb); replace HB := mk0 (bt_ (b_ HB) hb); have BK193 := mk0 (hbox); have GW193 := n4_; have GE193 := n5_; have NB191_193 := n6_; have NB193_191 := n7_; clear n4_ n5_ n6_ n7_ hb hbox hg; have hnb22 := NB193_191.out; have hnc22 := NB191_193.out; obtain ⟨hcz23_0, hcz23_1, hfz23_0, hfz23_1⟩ := c2_ BK193) | ((with_reducible refine gate_callee (f := 62) rfl ?_); refine gL_ (some 19) Try.func62 #[.agg #[.string ((rd_T30 l0_0 x12_1).f0), .slice A192_1 ((rd_T30 l0_0 x12_1).f1).length c192_1], .int .i64 a1] (h := ?_); (with_reducible refine (chain_Look.calls ((rd_T30 l0_0 x12_1).f0) _ _ ((rd_T30 l0_0 x12_1).f1) a1 t194 t195 t196 false _ ?side1 ?side2 A8.out).mono ?_); (case side1 => exact Kd.C_below HR192_1.out (b_ HB)); (case side2 => exact HC192_1.out); rintro e w24 ⟨rfl, hb⟩; refine ⟨_, rfl, ?_⟩; have n0_ := mk0 (Kd.R_below (r2_ (Kd.R_mono (Kd.R_far (p := ⟨gb193, 1, none⟩) (Kd.R_far (p := ⟨gb193, 0, none⟩) (Kd.R_types HO_4.out BK193.out (by decide)) (fun _ hk => hk.2) (.string ((rd_T30 l0_0 x12_1).f0))) (fun _ hk => hk.2) (.slice A192_1 ((rd_T30 l0_0 x12_1).f1).length c192_1)) (fun _ h_ => h_.1))) hb); replace BK191 := mk0 (blk_below (g := gb191) (o := .cells #[.slice (some ad192) l0_0.length c0_0] 79 (0, 0)) (fa_ (fa_ (h_ BK191) NB191_193.out) NB191_193.out) hb); replace BK193 := mk0 (blk_below (g := gb193) (o := .cells #[.string ((rd_T30 l0_0 x12_1).f0), .slice A192_1 ((rd_T30 l0_0 x12_1).f1).length c192_1] 30 (0, 0)) (pu_ (cs := #[.string ((rd_T30 l0_0 x12_1).f0), .slice none 0 0]) (pu_ (cs := #[.string (⟨#[]⟩ : ByteArray), .slice none 0 0]) (h_ BK193))) hb); replace HB := mk0 (bt_ (b_ HB) hb); clear HO_4; have HO_4 := n0_; clear n0_; (try clear hb)) | ((with_reducible refine gate_dst (N := 7) rfl ?_); refine bx_ (N := 7) (cs := #[.int .i64 0, .string (⟨#[]⟩ : ByteArray), .bool false]) (t := 39) (h := ?_); intro gb198 hg w25 hbox hb; have n5_ := mk0 (gz_ HB hg); have n6_ := mk0 (gz_ HB hg); have n7_ := mk0 (ne1_ BK191 hg); have n8_ := mk0 (ne2_ BK191 hg); have n9_ := mk0 (ne1_ BK193 hg); have n10_ := mk0 (ne2_ BK193 hg); replace HO_4 := mk0 (Kd.R_below (r_ HO_4) hb); replace BK191 := mk0 (u_ BK191 hb); replace BK193 := mk0 (u_ BK193 hb); replace HB := mk0 (bt_ (b_ HB) hb); have BK198 := mk0 (hbox); have GW198 := n5_; have GE198 := n6_; have NB191_198 := n7_; have NB198_191 := n8_; have NB193_198 := n9_; have NB198_193 := n10_; clear n5_ n6_ n7_ n8_ n9_ n10_ hb hbox hg; have hnb26 := NB198_191.out; have hnc26 := NB191_198.out; have hnb27 := NB198_193.out; have hnc27 := NB193_198.out; obtain ⟨hcz28_0, hcz28_1, hcz28_2, hfz28_0, hfz28_1, hfz28_2⟩ := c3_ BK198))
        go_roundg k1
        case measure => have := HK1.out; omega
        case rel => exact ⟨(x4_1), (wrap64 (x12_1 + 1)), (by first | rfl | (simp; done) | (simp [*]; done)), H', ⟨by have := HK1.out; omega⟩, ⟨by (with_reducible repeat (first | apply Ra_ | apply Rn_ | apply Rd_)); exact Kd.R_mono (Kd.R_far (p := ⟨gb198, 2, none⟩) (Kd.R_far (p := ⟨gb198, 1, none⟩) (Kd.R_far (p := ⟨gb198, 0, none⟩) (Kd.R_types HO_4.out BK198.out (by decide)) (fun _ hk => hk.2) (.int .i64 t194)) (fun _ hk => hk.2) (.string t195)) (fun _ hk => hk.2) (.bool t196)) (fun _ hk => trivial)⟩, ⟨(fa_ (fa_ (fa_ (h_ BK191) NB191_198.out) NB191_198.out) NB191_198.out)⟩, ⟨b_ HB⟩⟩
      ·rw [if_neg c7] at H
       exact absurd H (by simp)
     ·rw [if_neg c6] at H
      exact absurd H (by simp)
    ·rw [if_neg c5] at H
     have c5b0 : decide (x12_1 < (l0_0.length : Int)) = false := decide_eq_false c5
     clear c5
     obtain rfl := Option.some.inj H
     go_wp2
     go_ret
     exact ⟨_, by first | rfl | (simp [errW_none, errW_some] <;> rfl) | (simp [*, errW_none, errW_some] <;> rfl), by (with_reducible repeat (first | apply Ra_ | apply Rn_ | apply Rd_)); exact HO_4.out, b_ HB⟩

/-! ### table_Map: function 49 -/
def table_Map.f (k : Nat) (l0_0 : List (S30)) (a1 : Int) : Option ((List (S145)) × Int) := (table_May.f k l0_0).bind fun t203 => (if t203 = true then ((table_Rows.f k l0_0 a1).bind fun t204 => (some (t204, 0))) else (some (([] : List (S145)), 1)))
theorem table_Map.mono : ∀ a0 a1 k, LeO (table_Map.f k a0 a1) (table_Map.f (k + 1) a0 a1) := by
 intro a0 a1 k
 unfold table_Map.f
 repeat' first
   | (with_reducible exact table_May.mono _ _)
   | (with_reducible exact table_Rows.mono _ _ _)
   | (with_reducible exact LeO.refl _)
   | (with_reducible exact LeO.none _)
   | (with_reducible refine LeO.ite ?_ ?_)
   | (with_reducible refine LeO.bind ?_ (fun _ => ?_))
   | exact table_May.mono _ _
   | exact table_Rows.mono _ _ _
   | exact LeO.none _
   | refine LeO.ite ?_ ?_
   | refine LeO.bind ?_ (fun _ => ?_)
set_option maxHeartbeats 8000000 in
set_option maxRecDepth 100000 in
theorem table_Map.calls (k : Nat) (A0_0 : Option Addr) (c0_0 : Nat) (l0_0 : List (S30)) (a1 : Int) (r1 : List (S145)) (r2 : Int) (w : World) (hr0_0 : Kd.C k30 w A0_0 l0_0.length l0_0) (hc0_0 : l0_0.length ≤ c0_0) (h : table_Map.f k l0_0 a1 = some (r1, r2)) :
  Calls Try.prog 49 #[.agg #[.slice A0_0 l0_0.length c0_0], .int .i64 a1] w fun e w' => ∃ v0_ : Value, e = .returned (.tuple #[v0_, .int .i64 r2]) ∧ Kd.R k145 145 w' w.heap.size (fun _ => True) v0_ r1 ∧ Below w.heap.size w w' := by
 have hu79 := Try.underlying79
 have HR0_0 := mk0 hr0_0
 have HC0_0 := mk0 hc0_0
 clear hr0_0 hc0_0
 have HB := mk0 (Below.refl w.heap.size w)
 have H : ((table_May.f k l0_0).bind fun t203 => (if t203 = true then ((table_Rows.f k l0_0 a1).bind fun t204 => (some (t204, 0))) else (some (([] : List (S145)), 1)))) = some (r1, r2) := h
 clear h
 replace H := Option.bind_eq_some_iff.mp H
 obtain ⟨t203, A30, H⟩ := H
 try dsimp only at H
 have A3 := mk0 A30
 clear A30
 by_cases c4 : t203 = true
 ·subst c4
  rw [if_pos rfl] at H
  replace H := Option.bind_eq_some_iff.mp H
  obtain ⟨t204, A50, H⟩ := H
  try dsimp only at H
  have A5 := mk0 A50
  clear A50
  simp only [Option.some.injEq, Prod.mk.injEq] at H
  obtain ⟨rfl, rfl⟩ := H
  go_enter Try.func49, Try.ntmps49
  go_wp2_with (first | ((with_reducible refine gate_dst (N := 2) rfl ?_); refine bx_ (N := 2) (cs := #[.slice A0_0 l0_0.length c0_0]) (t := 79) (h := ?_); intro gb202 hg w6 hbox hb; have n2_ := mk0 (gz_ HB hg); have n3_ := mk0 (gz_ HB hg); replace HB := mk0 (bt_ (b_ HB) hb); have BK202 := mk0 (hbox); have GW202 := n2_; have GE202 := n3_; clear n2_ n3_ hb hbox hg; obtain ⟨hcz7_0, hfz7_0⟩ := c1_ BK202) | ((with_reducible refine gate_callee (f := 89) rfl ?_); refine gL_ (some 7) Try.func89 #[.agg #[.slice A0_0 l0_0.length c0_0]] (h := ?_); (with_reducible refine (table_May.calls k _ _ l0_0 true _ ?side1 ?side2 A3.out).mono ?_); (case side1 => exact cb_ HR0_0 HB); (case side2 => exact HC0_0.out); rintro e w8 ⟨rfl, hb⟩; refine ⟨_, rfl, ?_⟩; replace BK202 := mk0 (u_ BK202 hb); replace HB := mk0 (bt_ (b_ HB) hb); (try clear hb); obtain ⟨hcz9_0, hfz9_0⟩ := c1_ BK202) | ((with_reducible refine gate_callee (f := 91) rfl ?_); refine gL_ (some 11) Try.func91 #[.agg #[.slice A0_0 l0_0.length c0_0], .int .i64 a1] (h := ?_); (with_reducible refine (table_Rows.calls k _ _ l0_0 a1 t204 _ ?side1 ?side2 A5.out).mono ?_); (case side1 => exact cb_ HR0_0 HB); (case side2 => exact HC0_0.out); rintro e w10 ⟨v205, rfl, ho0, hb⟩; refine ⟨_, rfl, ?_⟩; have n0_ := mk0 (Kd.R_lower ho0 (bz_ (b_ HB))); replace BK202 := mk0 (u_ BK202 hb); replace HB := mk0 (bt_ (b_ HB) hb); have HO206 := n0_; clear n0_; (try clear hb); (try clear ho0)))
  go_ret2
  exact ⟨_, by first | rfl | (simp [errW_none, errW_some] <;> rfl) | (simp [*, errW_none, errW_some] <;> rfl), by (with_reducible repeat (first | apply Ra_ | apply Rn_ | apply Rd_)); exact HO206.out, b_ HB⟩
 ·replace c4 := Bool.eq_false_iff.mpr c4
  subst c4
  rw [if_neg (show ¬ (false = true) by decide)] at H
  simp only [Option.some.injEq, Prod.mk.injEq] at H
  obtain ⟨rfl, rfl⟩ := H
  go_enter Try.func49, Try.ntmps49
  go_wp2_with (first | ((with_reducible refine gate_dst (N := 2) rfl ?_); refine bx_ (N := 2) (cs := #[.slice A0_0 l0_0.length c0_0]) (t := 79) (h := ?_); intro gb202 hg w11 hbox hb; have n2_ := mk0 (gz_ HB hg); have n3_ := mk0 (gz_ HB hg); replace HB := mk0 (bt_ (b_ HB) hb); have BK202 := mk0 (hbox); have GW202 := n2_; have GE202 := n3_; clear n2_ n3_ hb hbox hg; obtain ⟨hcz12_0, hfz12_0⟩ := c1_ BK202) | ((with_reducible refine gate_callee (f := 89) rfl ?_); refine gL_ (some 7) Try.func89 #[.agg #[.slice A0_0 l0_0.length c0_0]] (h := ?_); (with_reducible refine (table_May.calls k _ _ l0_0 false _ ?side1 ?side2 A3.out).mono ?_); (case side1 => exact cb_ HR0_0 HB); (case side2 => exact HC0_0.out); rintro e w13 ⟨rfl, hb⟩; refine ⟨_, rfl, ?_⟩; replace BK202 := mk0 (u_ BK202 hb); replace HB := mk0 (bt_ (b_ HB) hb); (try clear hb)))
  go_ret2
  exact ⟨_, by first | rfl | (simp [errW_none, errW_some] <;> rfl) | (simp [*, errW_none, errW_some] <;> rfl), by first | exact Kd.R_nil _ _ _ _ _ | exact Kd.N_nil _ _ _ _ _ | exact Kd.V_nil _ _ _ _ _ | exact Kd.Q_nil _ _ _ _ _ | exact Kd.S_nil _ _ _ _ _, b_ HB⟩

/-! ### quorumref0_EqRows: function 50 -/
def quorumref0_EqRows.l0 : Nat → List (S145) → List (S145) → Int → Option (Bool)
 | 0, _, _, _ => none
 | k + 1, x0, x1, x5 => if x5 < (x0.length : Int) then (if 0 ≤ x5 then (if x5 < (x1.length : Int) then (if (!((((rd_T145 x0 x5).f0).toList) == (((rd_T145 x1 x5).f0).toList)) || (!((((rd_T145 x0 x5).f1).toList) == (((rd_T145 x1 x5).f1).toList)))) = true then (some false) else (quorumref0_EqRows.l0 k x0 x1 (wrap64 (x5 + 1)))) else (none)) else (none)) else (some true)
def quorumref0_EqRows.f (k : Nat) (l0 : List (S145)) (l1 : List (S145)) : Option (Bool) := if (l0.length : Int) = (l1.length : Int) then (quorumref0_EqRows.l0 k l0 l1 0) else (some false)
theorem quorumref0_EqRows.mono_l : ∀ k, (∀ y0 y1 y2, LeO (quorumref0_EqRows.l0 k y0 y1 y2) (quorumref0_EqRows.l0 (k + 1) y0 y1 y2))
 | 0 => fun _ _ _ r h => by simp [quorumref0_EqRows.l0] at h
 | k + 1 => by
  have ih0 := quorumref0_EqRows.mono_l k
  ·intro y0 y1 y2
   unfold quorumref0_EqRows.l0
   repeat' first
   | (with_reducible exact ih0 _ _ _)
   | (with_reducible exact LeO.refl _)
   | (with_reducible exact LeO.none _)
   | (with_reducible refine LeO.ite ?_ ?_)
   | (with_reducible refine LeO.bind ?_ (fun _ => ?_))
   | exact ih0 _ _ _
   | exact LeO.none _
   | refine LeO.ite ?_ ?_
   | refine LeO.bind ?_ (fun _ => ?_)
theorem quorumref0_EqRows.mono : ∀ a0 a1 k, LeO (quorumref0_EqRows.f k a0 a1) (quorumref0_EqRows.f (k + 1) a0 a1) := by
 intro a0 a1 k
 have ih0 := quorumref0_EqRows.mono_l k
 unfold quorumref0_EqRows.f
 repeat' first
   | (with_reducible exact ih0 _ _ _)
   | (with_reducible exact LeO.refl _)
   | (with_reducible exact LeO.none _)
   | (with_reducible refine LeO.ite ?_ ?_)
   | (with_reducible refine LeO.bind ?_ (fun _ => ?_))
   | exact ih0 _ _ _
   | exact LeO.none _
   | refine LeO.ite ?_ ?_
   | refine LeO.bind ?_ (fun _ => ?_)
set_option maxHeartbeats 8000000 in
set_option maxRecDepth 100000 in
theorem quorumref0_EqRows.calls (k : Nat) (A0 : Option Addr) (c0 : Nat) (l0 : List (S145)) (A1 : Option Addr) (c1 : Nat) (l1 : List (S145)) (r : Bool) (w : World) (hr0 : Kd.C k145 w A0 l0.length l0) (hc0 : l0.length ≤ c0) (hr1 : Kd.C k145 w A1 l1.length l1) (hc1 : l1.length ≤ c1) (h : quorumref0_EqRows.f k l0 l1 = some r) :
  Calls Try.prog 50 #[.slice A0 l0.length c0, .slice A1 l1.length c1] w fun e w' => e = .returned (.bool r) ∧ Drawn0 w w' := by
 have hu145 := Try.underlying145
 have HR0 := mk0 hr0
 have HC0 := mk0 hc0
 clear hr0 hc0
 have HR1 := mk0 hr1
 have HC1 := mk0 hc1
 clear hr1 hc1
 have H : (if (l0.length : Int) = (l1.length : Int) then (quorumref0_EqRows.l0 k l0 l1 0) else (some false)) = some r := h
 clear h
 by_cases c3 : (l0.length : Int) = (l1.length : Int)
 ·rw [if_pos c3] at H
  have c3b0 : ((l0.length : Int) == (l1.length : Int)) = true := beq_iff_eq.mpr c3
  have c3b1 : ((l0.length : Int) != (l1.length : Int)) = false := bne_eq_false_iff_eq.mpr c3
  have c3b2 : (l0.length == l1.length) = true := by first | simpa using c3 | (simp at c3 ⊢; omega)
  clear c3
  have H' := mk0 H
  clear H
  go_enter Try.func50, Try.ntmps50
  go_wp2
  repeat (go_quiet (fail); try go_wp2)
  go_loopg [5] k (fun kq v5 w' => ∃ (x5_1 : Int), v5 = .int .i64 x5_1 ∧ Fc (quorumref0_EqRows.l0 kq l0 l1 x5_1 = some r) ∧ Fc (kq ≤ k) ∧ Drawn0 w w')
  case atStart => exact ⟨(0), (by first | rfl | (simp; done) | (simp [*]; done)), H', ⟨Nat.le_refl _⟩, by repeat (first | exact Drawn0.refl _ | apply Drawn0.step)⟩
  case round =>
   clear H'
   try clear c1
   try clear c3
   try clear c3b0
   try clear c3b1
   try clear c3b2
   obtain ⟨x5_1, rfl, HA, HK1, ⟨m1, rfl⟩⟩ := hrel
   cases gk with
   | zero => exact absurd HA.out (by simp [quorumref0_EqRows.l0])
   | succ k1 =>
    have H := HA.out
    clear HA
    simp only [quorumref0_EqRows.l0] at H
    as_aux_lemma =>
     by_cases c4 : x5_1 < (l0.length : Int)
     ·rw [if_pos c4] at H
      have c4b0 : decide (x5_1 < (l0.length : Int)) = true := decide_eq_true c4
      clear c4
      by_cases c5 : 0 ≤ x5_1
      ·rw [if_pos c5] at H
       have c5b0 : decide (0 ≤ x5_1) = true := decide_eq_true c5
       clear c5
       by_cases c6 : x5_1 < (l1.length : Int)
       ·rw [if_pos c6] at H
        have c6b0 : decide (x5_1 < (l1.length : Int)) = true := decide_eq_true c6
        clear c6
        by_cases c7 : (!((((rd_T145 l0 x5_1).f0).toList) == (((rd_T145 l1 x5_1).f0).toList)) || (!((((rd_T145 l0 x5_1).f1).toList) == (((rd_T145 l1 x5_1).f1).toList)))) = true
        ·rw [if_pos c7] at H
         have c7b0 : (!((((rd_T145 l0 x5_1).f0).toList) == (((rd_T145 l1 x5_1).f0).toList)) || (!((((rd_T145 l0 x5_1).f1).toList) == (((rd_T145 l1 x5_1).f1).toList)))) = true := c7
         clear c7
         obtain rfl := Option.some.inj H
         have p207 : 0 ≤ (x5_1 : Int) := of_decide_eq_true (by first | (with_reducible assumption) | assumption)
         have q207 : x5_1 < (l0.length : Int) := of_decide_eq_true (by first | (with_reducible assumption) | assumption)
         obtain ⟨ad207, e207, hx207_0, hx207_1⟩ := at_T145 HR0.out x5_1 p207 q207
         cases e207
         replace p207 := eq_true p207
         replace q207 := eq_true q207
         have p208 : 0 ≤ (x5_1 : Int) := of_decide_eq_true (by first | (with_reducible assumption) | assumption)
         have q208 : x5_1 < (l1.length : Int) := of_decide_eq_true (by first | (with_reducible assumption) | assumption)
         obtain ⟨ad208, e208, hx208_0, hx208_1⟩ := at_T145 HR1.out x5_1 p208 q208
         cases e208
         replace p208 := eq_true p208
         replace q208 := eq_true q208
         go_wp2
         repeat (go_quiet (fail); try go_wp2)
         go_ret
         exact ⟨by first | rfl | (simp; done) | (simp [*]; done), by repeat (first | exact Drawn0.refl _ | apply Drawn0.step)⟩
        ·rw [if_neg c7] at H
         have c7b0 : (!((((rd_T145 l0 x5_1).f0).toList) == (((rd_T145 l1 x5_1).f0).toList)) || (!((((rd_T145 l0 x5_1).f1).toList) == (((rd_T145 l1 x5_1).f1).toList)))) = false := by simpa using c7
         clear c7
         have H' := mk0 H
         clear H
         have p207 : 0 ≤ (x5_1 : Int) := of_decide_eq_true (by first | (with_reducible assumption) | assumption)
         have q207 : x5_1 < (l0.length : Int) := of_decide_eq_true (by first | (with_reducible assumption) | assumption)
         obtain ⟨ad207, e207, hx207_0, hx207_1⟩ := at_T145 HR0.out x5_1 p207 q207
         cases e207
         replace p207 := eq_true p207
         replace q207 := eq_true q207
         have p208 : 0 ≤ (x5_1 : Int) := of_decide_eq_true (by first | (with_reducible assumption) | assumption)
         have q208 : x5_1 < (l1.length : Int) := of_decide_eq_true (by first | (with_reducible assumption) | assumption)
         obtain ⟨ad208, e208, hx208_0, hx208_1⟩ := at_T145 HR1.out x5_1 p208 q208
         cases e208
         replace p208 := eq_true p208
         replace q208 := eq_true q208
         go_wp2
         repeat (go_quiet (fail); try go_wp2)
         go_roundg k1
         case measure => have := HK1.out; omega
         case rel => exact ⟨(wrap64 (x5_1 + 1)), (by first | rfl | (simp; done) | (simp [*]; done)), H', ⟨by have := HK1.out; omega⟩, by repeat (first | exact Drawn0.refl _ | apply Drawn0.step)⟩
       ·rw [if_neg c6] at H
        exact absurd H (by simp)
      ·rw [if_neg c5] at H
       exact absurd H (by simp)
     ·rw [if_neg c4] at H
      have c4b0 : decide (x5_1 < (l0.length : Int)) = false := decide_eq_false c4
      clear c4
      obtain rfl := Option.some.inj H
      go_wp2
      repeat (go_quiet (fail); try go_wp2)
      go_ret
      exact ⟨by first | rfl | (simp; done) | (simp [*]; done), by repeat (first | exact Drawn0.refl _ | apply Drawn0.step)⟩
 ·rw [if_neg c3] at H
  have c3b0 : ((l0.length : Int) == (l1.length : Int)) = false := beq_eq_false_iff_ne.mpr c3
  have c3b1 : ((l0.length : Int) != (l1.length : Int)) = true := bne_iff_ne.mpr c3
  have c3b2 : (l0.length == l1.length) = false := by first | simpa using c3 | (simp at c3 ⊢; omega)
  obtain rfl := Option.some.inj H
  go_enter Try.func50, Try.ntmps50
  go_wp2
  repeat (go_quiet (fail); try go_wp2)
  go_ret
  exact ⟨by first | rfl | (simp; done) | (simp [*]; done), by repeat (first | exact Drawn0.refl _ | apply Drawn0.step)⟩

-- NOT PRINTED: function 159 (api_Version_159)

-- NOT PRINTED: function 186 (api_Version_186)

-- NOT PRINTED: function 160 (api_Version_160)

end Go.Proofs.Ytoodkefpkgbjcaa.PTbp
