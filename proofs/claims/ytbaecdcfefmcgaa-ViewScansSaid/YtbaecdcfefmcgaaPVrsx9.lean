-- PRINTED by print.py (a twelfth state) out of the translation. Not trusted: Lean checks it.
import Derived.Test.YtbaecdcfefmcgaaPVrsx0
import Derived.Test.YtbaecdcfefmcgaaPVrsx6
import Derived.Test.YtbaecdcfefmcgaaPVrsx7
import Derived.Test.YtbaecdcfefmcgaaPVrsx8
namespace Go.Proofs.Ytbaecdcfefmcgaa.PVrs
open Go.RowKit Go.Proofs.YtbaecdcfefmcgaaW.PrintWords Go.Proofs.YtbaecdcfefmcgaaW.PrintLast Go.Proofs.YtbaecdcfefmcgaaW.PrintMore
attribute [local go_sem] max2_int min2_int max_two min_two max_three min_three max_four min_four   -- for this text's walks alone
set_option linter.unusedVariables false
set_option linter.unusedSimpArgs false

/-! ### table_Rows: function 91 -/
def table_Rows.l0 : Nat → Int → List (S82) → List (S99) → Int → Int → Option ((List (S82)))
 | 0, _, _, _, _, _ => none
 | k + 1, x1, x4, x10, x11, x12 => if x12 < x11 then (if 0 ≤ x12 then (if x12 < (x10.length : Int) then ((chain_Look.f k ((rd_T99 x10 x12).f0) ((rd_T99 x10 x12).f1) x1).bind fun bt239 => (if bt239.2.2.2 = true then (if x4.length < 4398046511104 then (table_Rows.l0 k x1 (x4 ++ [(⟨(rd_T99 x10 x12).f0, bt239.2.1⟩ : S82)]) x10 x11 (wrap64 (x12 + 1))) else (none)) else (table_Rows.l0 k x1 x4 x10 x11 (wrap64 (x12 + 1))))) else (none)) else (none)) else (some x4)
def table_Rows.f (k : Nat) (l0_0 : List (S99)) (a1 : Int) : Option ((List (S82))) := table_Rows.l0 k a1 ([] : List (S82)) l0_0 (l0_0.length : Int) 0
theorem table_Rows.mono_l : ∀ k, (∀ y0 y1 y2 y3 y4, LeO (table_Rows.l0 k y0 y1 y2 y3 y4) (table_Rows.l0 (k + 1) y0 y1 y2 y3 y4))
 | 0 => fun _ _ _ _ _ r h => by simp [table_Rows.l0] at h
 | k + 1 => by
  have ih0 := table_Rows.mono_l k
  ·intro y0 y1 y2 y3 y4
   unfold table_Rows.l0
   repeat' first
   | (with_reducible exact ih0 _ _ _ _ _)
   | (with_reducible exact chain_Look.mono _ _ _ _)
   | (with_reducible exact LeO.refl _)
   | (with_reducible exact LeO.none _)
   | (with_reducible refine LeO.ite ?_ ?_)
   | (with_reducible refine LeO.bind ?_ (fun _ => ?_))
   | exact ih0 _ _ _ _ _
   | exact chain_Look.mono _ _ _ _
   | exact LeO.none _
   | refine LeO.ite ?_ ?_
   | refine LeO.bind ?_ (fun _ => ?_)
theorem table_Rows.mono : ∀ a0 a1 k, LeO (table_Rows.f k a0 a1) (table_Rows.f (k + 1) a0 a1) := by
 intro a0 a1 k
 have ih0 := table_Rows.mono_l k
 unfold table_Rows.f
 repeat' first
   | (with_reducible exact ih0 _ _ _ _ _)
   | (with_reducible exact chain_Look.mono _ _ _ _)
   | (with_reducible exact LeO.refl _)
   | (with_reducible exact LeO.none _)
   | (with_reducible refine LeO.ite ?_ ?_)
   | (with_reducible refine LeO.bind ?_ (fun _ => ?_))
   | exact ih0 _ _ _ _ _
   | exact chain_Look.mono _ _ _ _
   | exact LeO.none _
   | refine LeO.ite ?_ ?_
   | refine LeO.bind ?_ (fun _ => ?_)
set_option maxHeartbeats 8000000 in
set_option maxRecDepth 100000 in
theorem table_Rows.calls (k : Nat) (A0_0 : Option Addr) (c0_0 : Nat) (l0_0 : List (S99)) (a1 : Int) (r : List (S82)) (w : World) (hr0_0 : Kd.C k99 w A0_0 l0_0.length l0_0) (hc0_0 : l0_0.length ≤ c0_0) (h : table_Rows.f k l0_0 a1 = some r) :
  Calls Try.prog 91 #[.agg #[.slice A0_0 l0_0.length c0_0], .int .i64 a1] w fun e w' => ∃ v0_ : Value, e = .returned (v0_) ∧ Kd.R k82 82 w' w.heap.size (fun _ => True) v0_ r ∧ Below w.heap.size w w' := by
 have hu47 := Try.underlying47
 have hu99 := Try.underlying99
 have hu72 := Try.underlying72
 have hu82 := Try.underlying82
 have HR0_0 := mk0 hr0_0
 have HC0_0 := mk0 hc0_0
 clear hr0_0 hc0_0
 have HB := mk0 (Below.refl w.heap.size w)
 have H : (table_Rows.l0 k a1 ([] : List (S82)) l0_0 (l0_0.length : Int) 0) = some r := h
 clear h
 have H' := mk0 H
 clear H
 go_enter Try.func91, Try.ntmps91
 go_wp2_with (first | ((with_reducible refine gate_dst (N := 2) rfl ?_); refine bx_ (N := 2) (cs := #[.slice A0_0 l0_0.length c0_0]) (t := 47) (h := ?_); intro gb236 hg w3 hbox hb; have n2_ := mk0 (gz_ HB hg); have n3_ := mk0 (gz_ HB hg); replace HB := mk0 (bt_ (b_ HB) hb); have BK236 := mk0 (hbox); have GW236 := n2_; have GE236 := n3_; clear n2_ n3_ hb hbox hg; obtain ⟨hcz4_0, hfz4_0⟩ := c1_ BK236))
 go_loopg [4, 12] k (fun kq v4 v12 w' => ∃ (x4_1 : List (S82)) (x12_1 : Int), v12 = .int .i64 x12_1 ∧ Fc (table_Rows.l0 kq a1 x4_1 l0_0 (l0_0.length : Int) x12_1 = some r) ∧ Fc (kq ≤ k) ∧ Fc (Kd.R k82 82 w' w.heap.size (fun _ => True) v4 x4_1) ∧ Fc (w'.heap[gb236]? = some (.cells #[(.slice A0_0 l0_0.length c0_0)] 47 (0, 0))) ∧ Fc (Below w.heap.size w w'))
 case atStart => exact ⟨(([] : List (S82))), (0), (by first | rfl | (simp; done) | (simp [*]; done)), H', ⟨Nat.le_refl _⟩, ⟨by first | exact Kd.R_nil _ _ _ _ _ | exact Kd.N_nil _ _ _ _ _ | exact Kd.V_nil _ _ _ _ _ | exact Kd.Q_nil _ _ _ _ _ | exact Kd.S_nil _ _ _ _ _⟩, ⟨h_ BK236⟩, ⟨b_ HB⟩⟩
 case round =>
  clear H'
  try clear hcz4_0
  try clear hfz4_0
  obtain ⟨x4_1, x12_1, rfl, HA, HK1, HO_4, BK236, HB⟩ := hrel
  cases gk with
  | zero => exact absurd HA.out (by simp [table_Rows.l0])
  | succ k1 =>
   have H := HA.out
   clear HA
   simp only [table_Rows.l0] at H
   as_aux_lemma =>
    by_cases c5 : x12_1 < (l0_0.length : Int)
    ·rw [if_pos c5] at H
     have c5b0 : decide (x12_1 < (l0_0.length : Int)) = true := decide_eq_true c5
     clear c5
     by_cases c6 : 0 ≤ x12_1
     ·rw [if_pos c6] at H
      have c6b0 : decide (0 ≤ x12_1) = true := decide_eq_true c6
      clear c6
      by_cases c7 : x12_1 < (l0_0.length : Int)
      ·rw [if_pos c7] at H
       have c7b0 : decide (x12_1 < (l0_0.length : Int)) = true := decide_eq_true c7
       clear c7
       replace H := Option.bind_eq_some_iff.mp H
       obtain ⟨⟨t239, t240, t241, t242⟩, A80, H⟩ := H
       try dsimp only at H
       have A8 := mk0 A80
       clear A80
       by_cases c9 : t242 = true
       ·subst c9
        rw [if_pos rfl] at H
        by_cases c10 : x4_1.length < 4398046511104
        ·rw [if_pos c10] at H
         have LMc10 := mk0 c10
         clear c10
         obtain ⟨y244, hy244⟩ : ∃ y_ : List (S82), y_ = (x4_1 ++ [(⟨(rd_T99 l0_0 x12_1).f0, t240⟩ : S82)]) := ⟨_, rfl⟩
         replace H : (table_Rows.l0 k1 a1 y244 l0_0 (l0_0.length : Int) (wrap64 (x12_1 + 1))) = some r := by first | (rw [hy244]; with_reducible exact H) | (have H2_ := (Option.bind_some _ _).symm.trans H; rw [hy244]; with_reducible exact H2_) | (have H2_ := (Option.bind_some _ _).symm.trans H; with_reducible exact H2_) | with_reducible exact H | (rw [hy244]; exact H) | exact H
         have Ny244 := mk0 hy244
         clear hy244
         have H' := mk0 H
         clear H
         have p237 : 0 ≤ (x12_1 : Int) := of_decide_eq_true (by first | (with_reducible assumption) | assumption)
         have q237 : x12_1 < (l0_0.length : Int) := of_decide_eq_true (by first | (with_reducible assumption) | assumption)
         obtain ⟨ad237, A237_1, c237_1, e237, hx237_0, hx237_1, hl237_1, hi237_1⟩ := at_T99 HR0_0.out x12_1 p237 q237
         cases e237
         replace hx237_0 := (bc_ HB hx237_0 :)
         replace hx237_1 := (bc_ HB hx237_1 :)
         have HR237_1 := mk0 hi237_1
         have HC237_1 := mk0 hl237_1
         clear hi237_1 hl237_1
         replace p237 := eq_true p237
         replace q237 := eq_true q237
         go_wp2_with (first | ((with_reducible refine gate_dst (N := 6) rfl ?_); refine bx_ (N := 6) (cs := #[.string (⟨#[]⟩ : ByteArray), .slice none 0 0]) (t := 99) (h := ?_); intro gb238 hg w11 hbox hb; have n4_ := mk0 (gz_ HB hg); have n5_ := mk0 (gz_ HB hg); have n6_ := mk0 (ne1_ BK236 hg); have n7_ := mk0 (ne2_ BK236 hg); replace HO_4 := mk0 (Kd.R_below (r_ HO_4) hb); replace BK236 := mk0 (u_ BK236 hb); replace HB := mk0 (bt_ (b_ HB) hb); have BK238 := mk0 (hbox); have GW238 := n4_; have GE238 := n5_; have NB236_238 := n6_; have NB238_236 := n7_; clear n4_ n5_ n6_ n7_ hb hbox hg; have hnb12 := NB238_236.out; have hnc12 := NB236_238.out; obtain ⟨hcz13_0, hcz13_1, hfz13_0, hfz13_1⟩ := c2_ BK238) | ((with_reducible refine gate_callee (f := 142) rfl ?_); refine gL_ (some 19) Try.func142 #[.agg #[.string ((rd_T99 l0_0 x12_1).f0), .slice A237_1 ((rd_T99 l0_0 x12_1).f1).length c237_1], .int .i64 a1] (h := ?_); (with_reducible refine (chain_Look.calls k1 ((rd_T99 l0_0 x12_1).f0) _ _ ((rd_T99 l0_0 x12_1).f1) a1 t239 t240 t241 true _ ?side1 ?side2 A8.out).mono ?_); (case side1 => exact Kd.C_below HR237_1.out (b_ HB)); (case side2 => exact HC237_1.out); rintro e w14 ⟨rfl, hb⟩; refine ⟨_, rfl, ?_⟩; have n0_ := mk0 (Kd.R_below (r2_ (Kd.R_mono (Kd.R_far (p := ⟨gb238, 1, none⟩) (Kd.R_far (p := ⟨gb238, 0, none⟩) (Kd.R_types HO_4.out BK238.out (by decide)) (fun _ hk => hk.2) (.string ((rd_T99 l0_0 x12_1).f0))) (fun _ hk => hk.2) (.slice A237_1 ((rd_T99 l0_0 x12_1).f1).length c237_1)) (fun _ h_ => h_.1))) hb); replace BK236 := mk0 (blk_below (g := gb236) (o := .cells #[.slice (some ad237) l0_0.length c0_0] 47 (0, 0)) (fa_ (fa_ (h_ BK236) NB236_238.out) NB236_238.out) hb); replace BK238 := mk0 (blk_below (g := gb238) (o := .cells #[.string ((rd_T99 l0_0 x12_1).f0), .slice A237_1 ((rd_T99 l0_0 x12_1).f1).length c237_1] 99 (0, 0)) (pu_ (cs := #[.string ((rd_T99 l0_0 x12_1).f0), .slice none 0 0]) (pu_ (cs := #[.string (⟨#[]⟩ : ByteArray), .slice none 0 0]) (h_ BK238))) hb); replace HB := mk0 (bt_ (b_ HB) hb); clear HO_4; have HO_4 := n0_; clear n0_; (try clear hb)) | ((with_reducible refine gate_dst (N := 7) rfl ?_); refine bx_ (N := 7) (cs := #[.int .i64 0, .string (⟨#[]⟩ : ByteArray), .bool false]) (t := 72) (h := ?_); intro gb243 hg w15 hbox hb; have n5_ := mk0 (gz_ HB hg); have n6_ := mk0 (gz_ HB hg); have n7_ := mk0 (ne1_ BK236 hg); have n8_ := mk0 (ne2_ BK236 hg); have n9_ := mk0 (ne1_ BK238 hg); have n10_ := mk0 (ne2_ BK238 hg); replace HO_4 := mk0 (Kd.R_below (r_ HO_4) hb); replace BK236 := mk0 (u_ BK236 hb); replace BK238 := mk0 (u_ BK238 hb); replace HB := mk0 (bt_ (b_ HB) hb); have BK243 := mk0 (hbox); have GW243 := n5_; have GE243 := n6_; have NB236_243 := n7_; have NB243_236 := n8_; have NB238_243 := n9_; have NB243_238 := n10_; clear n5_ n6_ n7_ n8_ n9_ n10_ hb hbox hg; have hnb16 := NB243_236.out; have hnc16 := NB236_243.out; have hnb17 := NB243_238.out; have hnc17 := NB238_243.out; obtain ⟨hcz18_0, hcz18_1, hcz18_2, hfz18_0, hfz18_1, hfz18_2⟩ := c3_ BK243; obtain ⟨hcz19_0, hcz19_1, hfz19_0, hfz19_1⟩ := c2_ BK238) | ((with_reducible refine gate_builtin (b := .append) (xs := #[.tmp 23, .tmp 29]) rfl ?_); at_builtin; refine Kd.R_append k82 (w0 := w) w.heap.size rfl (.tmp 23) (.tmp 29) 78 82 (.agg #[(.string ⟨#[]⟩), (.string ⟨#[]⟩)]) 32 rfl Try.underlying78 info82 rfl (by decide) (by omega) u4 x4_1 (⟨(rd_T99 l0_0 x12_1).f0, t240⟩ : S82) [.string ((rd_T99 l0_0 x12_1).f0), .string t240] (fun _ => True) (fun _ => False) rfl (by first | (go_simp; done) | (go_simp; rfl)) ?aP (fun _ hk => hk.elim) ?aF ?aO ?aB ?aS ?aL ?_; (case aP => exact k82_mkM _ _ _ (⟨(rd_T99 l0_0 x12_1).f0, t240⟩ : S82)); (case aB => exact (b_ HB)); (case aF => exact (fun _ _ => trivial)); (case aO => exact (r2_ (Kd.R_mono (Kd.R_far (p := ⟨gb243, 2, none⟩) (Kd.R_far (p := ⟨gb243, 1, none⟩) (Kd.R_far (p := ⟨gb243, 0, none⟩) (Kd.R_types HO_4.out BK243.out (by decide)) (fun _ hk => hk.2) (.int .i64 t239)) (fun _ hk => hk.2) (.string t240)) (fun _ hk => hk.2) (.bool t241)) (fun _ hk => trivial)))); (case aS => exact (bz_ (b_ HB))); (case aL => have := LMc10.out; omega); intro v245 w20 ho hb hg hat; rw [← Ny244.out] at ho; replace BK236 := mk0 (blk_grown (g := gb236) (o := .cells #[.slice (some ad237) l0_0.length c0_0] 47 (0, 0)) (fa_ (fa_ (fa_ (h_ BK236) NB236_243.out) NB236_243.out) NB236_243.out) hg (Kd.R_ne HO_4.out BK236.out (by decide))); replace BK238 := mk0 (blk_grown (g := gb238) (o := .cells #[.string ((rd_T99 l0_0 x12_1).f0), .slice A237_1 ((rd_T99 l0_0 x12_1).f1).length c237_1] 99 (0, 0)) (fa_ (fa_ (fa_ (h_ BK238) NB238_243.out) NB238_243.out) NB238_243.out) hg (Kd.R_ne HO_4.out BK238.out (by decide))); replace BK243 := mk0 (blk_grown (g := gb243) (o := .cells #[.int .i64 t239, .string t240, .bool t241] 72 (0, 0)) (pu_ (cs := #[.int .i64 t239, .string t240, .bool false]) (pu_ (cs := #[.int .i64 t239, .string (⟨#[]⟩ : ByteArray), .bool false]) (pu_ (cs := #[.int .i64 0, .string (⟨#[]⟩ : ByteArray), .bool false]) (h_ BK243)))) hg (Kd.R_ne HO_4.out BK243.out (by decide))); replace HB := mk0 (hb); have HO246 := mk0 (ho); clear HO_4; clear ho hb hg hat))
         go_roundg k1
         case measure => have := HK1.out; omega
         case rel => exact ⟨(y244), (wrap64 (x12_1 + 1)), (by first | rfl | (simp; done) | (simp [*]; done)), H', ⟨by have := HK1.out; omega⟩, ⟨by (with_reducible repeat (first | apply Ra_ | apply Rn_ | apply Rd_)); exact HO246.out⟩, ⟨h_ BK236⟩, ⟨b_ HB⟩⟩
        ·rw [if_neg c10] at H
         exact absurd H (by simp)
       ·replace c9 := Bool.eq_false_iff.mpr c9
        subst c9
        rw [if_neg (show ¬ (false = true) by decide)] at H
        have H' := mk0 H
        clear H
        have p237 : 0 ≤ (x12_1 : Int) := of_decide_eq_true (by first | (with_reducible assumption) | assumption)
        have q237 : x12_1 < (l0_0.length : Int) := of_decide_eq_true (by first | (with_reducible assumption) | assumption)
        obtain ⟨ad237, A237_1, c237_1, e237, hx237_0, hx237_1, hl237_1, hi237_1⟩ := at_T99 HR0_0.out x12_1 p237 q237
        cases e237
        replace hx237_0 := (bc_ HB hx237_0 :)
        replace hx237_1 := (bc_ HB hx237_1 :)
        have HR237_1 := mk0 hi237_1
        have HC237_1 := mk0 hl237_1
        clear hi237_1 hl237_1
        replace p237 := eq_true p237
        replace q237 := eq_true q237
        go_wp2_with (first | ((with_reducible refine gate_dst (N := 6) rfl ?_); refine bx_ (N := 6) (cs := #[.string (⟨#[]⟩ : ByteArray), .slice none 0 0]) (t := 99) (h := ?_); intro gb238 hg w21 hbox hb; have n4_ := mk0 (gz_ HB hg); have n5_ := mk0 (gz_ HB hg); have n6_ := mk0 (ne1_ BK236 hg); have n7_ := mk0 (ne2_ BK236 hg); replace HO_4 := mk0 (Kd.R_below (r_ HO_4) hb); replace BK236 := mk0 (u_ BK236 hb); replace HB := mk0 (bt_ (b_ HB) hb); have BK238 := mk0 (hbox); have GW238 := n4_; have GE238 := n5_; have NB236_238 := n6_; have NB238_236 := n7_; clear n4_ n5_ n6_ n7_ hb hbox hg; have hnb22 := NB238_236.out; have hnc22 := NB236_238.out; obtain ⟨hcz23_0, hcz23_1, hfz23_0, hfz23_1⟩ := c2_ BK238) | ((with_reducible refine gate_callee (f := 142) rfl ?_); refine gL_ (some 19) Try.func142 #[.agg #[.string ((rd_T99 l0_0 x12_1).f0), .slice A237_1 ((rd_T99 l0_0 x12_1).f1).length c237_1], .int .i64 a1] (h := ?_); (with_reducible refine (chain_Look.calls k1 ((rd_T99 l0_0 x12_1).f0) _ _ ((rd_T99 l0_0 x12_1).f1) a1 t239 t240 t241 false _ ?side1 ?side2 A8.out).mono ?_); (case side1 => exact Kd.C_below HR237_1.out (b_ HB)); (case side2 => exact HC237_1.out); rintro e w24 ⟨rfl, hb⟩; refine ⟨_, rfl, ?_⟩; have n0_ := mk0 (Kd.R_below (r2_ (Kd.R_mono (Kd.R_far (p := ⟨gb238, 1, none⟩) (Kd.R_far (p := ⟨gb238, 0, none⟩) (Kd.R_types HO_4.out BK238.out (by decide)) (fun _ hk => hk.2) (.string ((rd_T99 l0_0 x12_1).f0))) (fun _ hk => hk.2) (.slice A237_1 ((rd_T99 l0_0 x12_1).f1).length c237_1)) (fun _ h_ => h_.1))) hb); replace BK236 := mk0 (blk_below (g := gb236) (o := .cells #[.slice (some ad237) l0_0.length c0_0] 47 (0, 0)) (fa_ (fa_ (h_ BK236) NB236_238.out) NB236_238.out) hb); replace BK238 := mk0 (blk_below (g := gb238) (o := .cells #[.string ((rd_T99 l0_0 x12_1).f0), .slice A237_1 ((rd_T99 l0_0 x12_1).f1).length c237_1] 99 (0, 0)) (pu_ (cs := #[.string ((rd_T99 l0_0 x12_1).f0), .slice none 0 0]) (pu_ (cs := #[.string (⟨#[]⟩ : ByteArray), .slice none 0 0]) (h_ BK238))) hb); replace HB := mk0 (bt_ (b_ HB) hb); clear HO_4; have HO_4 := n0_; clear n0_; (try clear hb)) | ((with_reducible refine gate_dst (N := 7) rfl ?_); refine bx_ (N := 7) (cs := #[.int .i64 0, .string (⟨#[]⟩ : ByteArray), .bool false]) (t := 72) (h := ?_); intro gb243 hg w25 hbox hb; have n5_ := mk0 (gz_ HB hg); have n6_ := mk0 (gz_ HB hg); have n7_ := mk0 (ne1_ BK236 hg); have n8_ := mk0 (ne2_ BK236 hg); have n9_ := mk0 (ne1_ BK238 hg); have n10_ := mk0 (ne2_ BK238 hg); replace HO_4 := mk0 (Kd.R_below (r_ HO_4) hb); replace BK236 := mk0 (u_ BK236 hb); replace BK238 := mk0 (u_ BK238 hb); replace HB := mk0 (bt_ (b_ HB) hb); have BK243 := mk0 (hbox); have GW243 := n5_; have GE243 := n6_; have NB236_243 := n7_; have NB243_236 := n8_; have NB238_243 := n9_; have NB243_238 := n10_; clear n5_ n6_ n7_ n8_ n9_ n10_ hb hbox hg; have hnb26 := NB243_236.out; have hnc26 := NB236_243.out; have hnb27 := NB243_238.out; have hnc27 := NB238_243.out; obtain ⟨hcz28_0, hcz28_1, hcz28_2, hfz28_0, hfz28_1, hfz28_2⟩ := c3_ BK243))
        go_roundg k1
        case measure => have := HK1.out; omega
        case rel => exact ⟨(x4_1), (wrap64 (x12_1 + 1)), (by first | rfl | (simp; done) | (simp [*]; done)), H', ⟨by have := HK1.out; omega⟩, ⟨by (with_reducible repeat (first | apply Ra_ | apply Rn_ | apply Rd_)); exact Kd.R_mono (Kd.R_far (p := ⟨gb243, 2, none⟩) (Kd.R_far (p := ⟨gb243, 1, none⟩) (Kd.R_far (p := ⟨gb243, 0, none⟩) (Kd.R_types HO_4.out BK243.out (by decide)) (fun _ hk => hk.2) (.int .i64 t239)) (fun _ hk => hk.2) (.string t240)) (fun _ hk => hk.2) (.bool t241)) (fun _ hk => trivial)⟩, ⟨(fa_ (fa_ (fa_ (h_ BK236) NB236_243.out) NB236_243.out) NB236_243.out)⟩, ⟨b_ HB⟩⟩
      ·rw [if_neg c7] at H
       exact absurd H (by simp)
     ·rw [if_neg c6] at H
      exact absurd H (by simp)
    ·rw [if_neg c5] at H
     have c5b0 : decide (x12_1 < (l0_0.length : Int)) = false := decide_eq_false c5
     clear c5
     obtain rfl := Option.some.inj H
     go_wp2
     go_ret
     exact ⟨_, by first | rfl | (simp [errW_none, errW_some] <;> rfl) | (simp [*, errW_none, errW_some] <;> rfl), by (with_reducible repeat (first | apply Ra_ | apply Rn_ | apply Rd_)); exact HO_4.out, b_ HB⟩

/-! ### view_Scan: function 33 -/
def view_Scan.j0 : Nat → List (S47) → Int → Int → Int → Bool → Bool → List (S36) → List Int → ByteArray → ByteArray → Bool → Option ((List (S82)) × Int)
 | 0, _, _, _, _, _, _, _, _, _, _, _ => none
 | k + 1, x0, x2, x4, x5, x6, x31, x248000, x248001, x249000, x249001, x249002 => if x31 = true then (some (([] : List (S82)), 1)) else (if 0 ≤ x2 then (if x2 < (x0.length : Int) then ((table_Rows.f k ((rd_T47 x0 x2).f0) x4).bind fun t253 => ((view_Merge.f k t253 x248000 x248001 x2).bind fun t256 => ((table_Some.f t256 x249000 x249001 x249002 x5 x6).bind fun t259 => (some (t259, 0))))) else (none)) else (none))
def view_Scan.f (k : Nat) (l0 : List (S47)) (l1_0 : List (S36)) (l1_1 : List Int) (a2 : Int) (a3_0 : ByteArray) (a3_1 : ByteArray) (a3_2 : Bool) (a4 : Int) (a5 : Int) (a6 : Bool) : Option ((List (S82)) × Int) := (view_May.f k l0 l1_0 l1_1).bind fun t249 => (if t249 = true then ((view_there.f l0 a2).bind fun t250 => (if t250 = true then ((table_Asks.f k a3_0 a3_1 a3_2 a5).bind fun t251 => (view_Scan.j0 k l0 a2 a4 a5 a6 (!t251) l1_0 l1_1 a3_0 a3_1 a3_2)) else (view_Scan.j0 k l0 a2 a4 a5 a6 true l1_0 l1_1 a3_0 a3_1 a3_2))) else (view_Scan.j0 k l0 a2 a4 a5 a6 true l1_0 l1_1 a3_0 a3_1 a3_2))
theorem view_Scan.mono_l : ∀ k, (∀ y0 y1 y2 y3 y4 y5 y6 y7 y8 y9 y10, LeO (view_Scan.j0 k y0 y1 y2 y3 y4 y5 y6 y7 y8 y9 y10) (view_Scan.j0 (k + 1) y0 y1 y2 y3 y4 y5 y6 y7 y8 y9 y10))
 | 0 => fun _ _ _ _ _ _ _ _ _ _ _ r h => by simp [view_Scan.j0] at h
 | k + 1 => by
  have ih0 := view_Scan.mono_l k
  ·intro y0 y1 y2 y3 y4 y5 y6 y7 y8 y9 y10
   unfold view_Scan.j0
   repeat' first
   | (with_reducible exact ih0 _ _ _ _ _ _ _ _ _ _ _)
   | (with_reducible exact table_Asks.mono _ _ _ _ _)
   | (with_reducible exact table_Rows.mono _ _ _)
   | (with_reducible exact view_May.mono _ _ _ _)
   | (with_reducible exact view_Merge.mono _ _ _ _ _)
   | (with_reducible exact LeO.refl _)
   | (with_reducible exact LeO.none _)
   | (with_reducible refine LeO.ite ?_ ?_)
   | (with_reducible refine LeO.bind ?_ (fun _ => ?_))
   | exact ih0 _ _ _ _ _ _ _ _ _ _ _
   | exact table_Asks.mono _ _ _ _ _
   | exact table_Rows.mono _ _ _
   | exact view_May.mono _ _ _ _
   | exact view_Merge.mono _ _ _ _ _
   | exact LeO.none _
   | refine LeO.ite ?_ ?_
   | refine LeO.bind ?_ (fun _ => ?_)
theorem view_Scan.mono : ∀ a0 a1 a2 a3 a4 a5 a6 a7 a8 a9 k, LeO (view_Scan.f k a0 a1 a2 a3 a4 a5 a6 a7 a8 a9) (view_Scan.f (k + 1) a0 a1 a2 a3 a4 a5 a6 a7 a8 a9) := by
 intro a0 a1 a2 a3 a4 a5 a6 a7 a8 a9 k
 have ih0 := view_Scan.mono_l k
 unfold view_Scan.f
 repeat' first
   | (with_reducible exact ih0 _ _ _ _ _ _ _ _ _ _ _)
   | (with_reducible exact table_Asks.mono _ _ _ _ _)
   | (with_reducible exact table_Rows.mono _ _ _)
   | (with_reducible exact view_May.mono _ _ _ _)
   | (with_reducible exact view_Merge.mono _ _ _ _ _)
   | (with_reducible exact LeO.refl _)
   | (with_reducible exact LeO.none _)
   | (with_reducible refine LeO.ite ?_ ?_)
   | (with_reducible refine LeO.bind ?_ (fun _ => ?_))
   | exact ih0 _ _ _ _ _ _ _ _ _ _ _
   | exact table_Asks.mono _ _ _ _ _
   | exact table_Rows.mono _ _ _
   | exact view_May.mono _ _ _ _
   | exact view_Merge.mono _ _ _ _ _
   | exact LeO.none _
   | refine LeO.ite ?_ ?_
   | refine LeO.bind ?_ (fun _ => ?_)
def view_Scan.T3 : Bool × List (List Nat × List Nat) := (true, [([], []), ([], []), ([0, 1], [0, 1]), ([2], [2]), ([], []), ([3, 4], [3, 4]), ([], []), ([], []), ([5, 6, 7, 5], [5, 6, 7]), ([], []), ([], []), ([], []), ([8, 9, 10, 11, 8], [8, 9, 10, 11]), ([12, 12, 0, 1, 2, 3, 4, 5, 6, 7, 8, 9, 10, 11, 12], [12]), ([13, 0, 1, 2, 3, 4, 5, 6, 7, 8, 9, 10, 11, 12, 13], [])])
def view_Scan.B3 : List Nat := [0, 0, 3, 7, 0, 31, 0, 0, 255, 0, 0, 0, 4095, 8191, 16383]
theorem view_Scan.tab3 : rtab .any (opsOf Try.f33 3) = view_Scan.T3 := by kernel_rfl
theorem view_Scan.bits3 : waitsOk view_Scan.T3.2 view_Scan.B3 = true := by kernel_rfl
set_option maxHeartbeats 8000000 in
set_option maxRecDepth 100000 in
theorem view_Scan.calls (k : Nat) (A0 : Option Addr) (c0 : Nat) (l0 : List (S47)) (A1_0 : Option Addr) (c1_0 : Nat) (l1_0 : List (S36)) (A1_1 : Option Addr) (c1_1 : Nat) (l1_1 : List Int) (a2 : Int) (a3_0 : ByteArray) (a3_1 : ByteArray) (a3_2 : Bool) (a4 : Int) (a5 : Int) (a6 : Bool) (r1 : List (S82)) (r2 : Int) (w : World) (hr0 : Kd.C k47 w A0 l0.length l0) (hc0 : l0.length ≤ c0) (hr1_0 : Kd.C k36 w A1_0 l1_0.length l1_0) (hc1_0 : l1_0.length ≤ c1_0) (hr1_1 : Kd.C (Kd.int .i64) w A1_1 l1_1.length l1_1) (hc1_1 : l1_1.length ≤ c1_1) (h : view_Scan.f k l0 l1_0 l1_1 a2 a3_0 a3_1 a3_2 a4 a5 a6 = some (r1, r2)) :
  Calls Try.prog 33 #[.slice A0 l0.length c0, .agg #[.slice A1_0 l1_0.length c1_0, .slice A1_1 l1_1.length c1_1], .int .i64 a2, .agg #[.string a3_0, .string a3_1, .bool a3_2], .int .i64 a4, .int .i64 a5, .bool a6] w fun e w' => ∃ v0_ : Value, e = .returned (.tuple #[v0_, .int .i64 r2]) ∧ Kd.R k82 82 w' w.heap.size (fun _ => True) v0_ r1 ∧ Below w.heap.size w w' := by
 have hu34 := Try.underlying34
 have hu74 := Try.underlying74
 have hu47 := Try.underlying47
 have HR0 := mk0 hr0
 have HC0 := mk0 hc0
 clear hr0 hc0
 have HR1_0 := mk0 hr1_0
 have HC1_0 := mk0 hc1_0
 clear hr1_0 hc1_0
 have HR1_1 := mk0 hr1_1
 have HC1_1 := mk0 hc1_1
 clear hr1_1 hc1_1
 have HB := mk0 (Below.refl w.heap.size w)
 have H : ((view_May.f k l0 l1_0 l1_1).bind fun t249 => (if t249 = true then ((view_there.f l0 a2).bind fun t250 => (if t250 = true then ((table_Asks.f k a3_0 a3_1 a3_2 a5).bind fun t251 => (view_Scan.j0 k l0 a2 a4 a5 a6 (!t251) l1_0 l1_1 a3_0 a3_1 a3_2)) else (view_Scan.j0 k l0 a2 a4 a5 a6 true l1_0 l1_1 a3_0 a3_1 a3_2))) else (view_Scan.j0 k l0 a2 a4 a5 a6 true l1_0 l1_1 a3_0 a3_1 a3_2))) = some (r1, r2) := h
 clear h
 have HC8 := mk0 H
 clear H
 go_enter Try.func33, Try.ntmps33
 go_upto_region 1 with (first | ((with_reducible refine gate_dst (N := 8) rfl ?_); refine bx_ (N := 8) (cs := #[.slice A1_0 l1_0.length c1_0, .slice A1_1 l1_1.length c1_1]) (t := 34) (h := ?_); intro gb247 hg w9 hbox hb; have n2_ := mk0 (gz_ HB hg); have n3_ := mk0 (gz_ HB hg); replace HB := mk0 (bt_ (b_ HB) hb); have BK247 := mk0 (hbox); have GW247 := n2_; have GE247 := n3_; clear n2_ n3_; clear hb hbox hg) | ((with_reducible refine gate_dst (N := 10) rfl ?_); refine bx_ (N := 10) (cs := #[.string a3_0, .string a3_1, .bool a3_2]) (t := 74) (h := ?_); intro gb248 hg w10 hbox hb; have n3_ := mk0 (gz_ HB hg); have n4_ := mk0 (gz_ HB hg); have n5_ := mk0 (ne1_ BK247 hg); have n6_ := mk0 (ne2_ BK247 hg); replace BK247 := mk0 (u_ BK247 hb); replace HB := mk0 (bt_ (b_ HB) hb); have BK248 := mk0 (hbox); have GW248 := n3_; have GE248 := n4_; have NB247_248 := n5_; have NB248_247 := n6_; clear n3_ n4_ n5_ n6_; clear hb hbox hg))
 (try simp only [Act.put, List.setIfInBounds_toArray, List.set_cons_zero, List.set_cons_succ])
 go_cut [31] (fun v31 wc => ∃ (kq : Nat) (x31_7 : Bool), v31 = .bool x31_7 ∧ Fc (view_Scan.j0 kq l0 a2 a4 a5 a6 x31_7 l1_0 l1_1 a3_0 a3_1 a3_2 = some (r1, r2)) ∧ Fc (kq ≤ k) ∧ Fc (wc.heap[gb247]? = some (.cells #[(.slice A1_0 l1_0.length c1_0), (.slice A1_1 l1_1.length c1_1)] 34 (0, 0))) ∧ Fc (wc.heap[gb248]? = some (.cells #[.string a3_0, .string a3_1, .bool a3_2] 74 (0, 0))) ∧ Fc (Below w.heap.size w wc))
 case first =>
  have H := HC8.out
  clear HC8
  replace H := Option.bind_eq_some_iff.mp H
  obtain ⟨t249, A110, H⟩ := H
  try dsimp only at H
  have A11 := mk0 A110
  clear A110
  by_cases c12 : t249 = true
  ·subst c12
   rw [if_pos rfl] at H
   replace H := Option.bind_eq_some_iff.mp H
   obtain ⟨t250, A130, H⟩ := H
   try dsimp only at H
   have A13 := mk0 A130
   clear A130
   by_cases c14 : t250 = true
   ·subst c14
    rw [if_pos rfl] at H
    replace H := Option.bind_eq_some_iff.mp H
    obtain ⟨t251, A150, H⟩ := H
    try dsimp only at H
    have A15 := mk0 A150
    clear A150
    have H' := mk0 H
    clear H
    have hnb16 := NB247_248.out
    have hnc16 := NB248_247.out
    obtain ⟨hcz17_0, hcz17_1, hfz17_0, hfz17_1⟩ := c2_ BK247
    go_wp2_with (first | ((with_reducible refine gate_callee (f := 40) rfl ?_); refine gL_ (some 18) Try.func40 #[.slice A0 l0.length c0, .agg #[.slice A1_0 l1_0.length c1_0, .slice A1_1 l1_1.length c1_1]] (h := ?_); (with_reducible refine (view_May.calls k _ _ l0 _ _ l1_0 _ _ l1_1 true _ ?side1 ?side2 ?side3 ?side4 ?side5 ?side6 A11.out).mono ?_); (case side1 => exact cb_ HR0 HB); (case side2 => exact HC0.out); (case side3 => exact cb_ HR1_0 HB); (case side4 => exact HC1_0.out); (case side5 => exact cb_ HR1_1 HB); (case side6 => exact HC1_1.out); rintro e w18 ⟨rfl, hb⟩; refine ⟨_, rfl, ?_⟩; replace BK247 := mk0 (u_ BK247 hb); replace BK248 := mk0 (u_ BK248 hb); replace HB := mk0 (bt_ (b_ HB) hb); (try clear hb)) | (go_at_call 41; (with_reducible refine (view_there.calls _ _ l0 a2 true _ ?side1 ?side2 A13.out).mono ?_); (case side1 => exact cb_ HR0 HB); (case side2 => exact HC0.out); rintro e w' ⟨rfl, ⟨nd, rfl⟩⟩; obtain ⟨hcz19_0, hcz19_1, hcz19_2, hfz19_0, hfz19_1, hfz19_2⟩ := c3_ BK248) | (go_at_call 88; (with_reducible refine (table_Asks.calls k a3_0 a3_1 a3_2 a5 t251 _ A15.out).mono ?_); rintro e w20 ⟨rfl, hb⟩; replace BK247 := mk0 (u_ BK247 hb); replace BK248 := mk0 (u_ BK248 hb); replace HB := mk0 (bt_ (b_ HB) hb); (try clear hb)))
    go_meet
    case rel => exact ⟨_, (!t251), (by first | rfl | (simp; done) | (simp [*]; done)), H', ⟨by first | omega | exact Nat.le_refl _⟩, ⟨h_ BK247⟩, ⟨h_ BK248⟩, ⟨b_ HB⟩⟩
   ·replace c14 := Bool.eq_false_iff.mpr c14
    subst c14
    rw [if_neg (show ¬ (false = true) by decide)] at H
    have H' := mk0 H
    clear H
    have hnb21 := NB247_248.out
    have hnc21 := NB248_247.out
    obtain ⟨hcz22_0, hcz22_1, hfz22_0, hfz22_1⟩ := c2_ BK247
    go_wp2_with (first | ((with_reducible refine gate_callee (f := 40) rfl ?_); refine gL_ (some 18) Try.func40 #[.slice A0 l0.length c0, .agg #[.slice A1_0 l1_0.length c1_0, .slice A1_1 l1_1.length c1_1]] (h := ?_); (with_reducible refine (view_May.calls k _ _ l0 _ _ l1_0 _ _ l1_1 true _ ?side1 ?side2 ?side3 ?side4 ?side5 ?side6 A11.out).mono ?_); (case side1 => exact cb_ HR0 HB); (case side2 => exact HC0.out); (case side3 => exact cb_ HR1_0 HB); (case side4 => exact HC1_0.out); (case side5 => exact cb_ HR1_1 HB); (case side6 => exact HC1_1.out); rintro e w23 ⟨rfl, hb⟩; refine ⟨_, rfl, ?_⟩; replace BK247 := mk0 (u_ BK247 hb); replace BK248 := mk0 (u_ BK248 hb); replace HB := mk0 (bt_ (b_ HB) hb); (try clear hb)) | (go_at_call 41; (with_reducible refine (view_there.calls _ _ l0 a2 false _ ?side1 ?side2 A13.out).mono ?_); (case side1 => exact cb_ HR0 HB); (case side2 => exact HC0.out); rintro e w' ⟨rfl, ⟨nd, rfl⟩⟩))
    go_meet
    case rel => exact ⟨_, (true), (by first | rfl | (simp; done) | (simp [*]; done)), H', ⟨by first | omega | exact Nat.le_refl _⟩, ⟨h_ BK247⟩, ⟨h_ BK248⟩, ⟨b_ HB⟩⟩
  ·replace c12 := Bool.eq_false_iff.mpr c12
   subst c12
   rw [if_neg (show ¬ (false = true) by decide)] at H
   have H' := mk0 H
   clear H
   have hnb24 := NB247_248.out
   have hnc24 := NB248_247.out
   obtain ⟨hcz25_0, hcz25_1, hfz25_0, hfz25_1⟩ := c2_ BK247
   go_wp2_with (first | ((with_reducible refine gate_callee (f := 40) rfl ?_); refine gL_ (some 18) Try.func40 #[.slice A0 l0.length c0, .agg #[.slice A1_0 l1_0.length c1_0, .slice A1_1 l1_1.length c1_1]] (h := ?_); (with_reducible refine (view_May.calls k _ _ l0 _ _ l1_0 _ _ l1_1 false _ ?side1 ?side2 ?side3 ?side4 ?side5 ?side6 A11.out).mono ?_); (case side1 => exact cb_ HR0 HB); (case side2 => exact HC0.out); (case side3 => exact cb_ HR1_0 HB); (case side4 => exact HC1_0.out); (case side5 => exact cb_ HR1_1 HB); (case side6 => exact HC1_1.out); rintro e w26 ⟨rfl, hb⟩; refine ⟨_, rfl, ?_⟩; replace BK247 := mk0 (u_ BK247 hb); replace BK248 := mk0 (u_ BK248 hb); replace HB := mk0 (bt_ (b_ HB) hb); (try clear hb)))
   go_meet
   case rel => exact ⟨_, (true), (by first | rfl | (simp; done) | (simp [*]; done)), H', ⟨by first | omega | exact Nat.le_refl _⟩, ⟨h_ BK247⟩, ⟨h_ BK248⟩, ⟨b_ HB⟩⟩
 case rest =>
  clear HC8
  try clear c12
  try clear c14
  try clear hcz17_0
  try clear hcz17_1
  try clear hcz19_0
  try clear hcz19_1
  try clear hcz19_2
  try clear hcz22_0
  try clear hcz22_1
  try clear hcz25_0
  try clear hcz25_1
  try clear hfz17_0
  try clear hfz17_1
  try clear hfz19_0
  try clear hfz19_1
  try clear hfz19_2
  try clear hfz22_0
  try clear hfz22_1
  try clear hfz25_0
  try clear hfz25_1
  obtain ⟨kq, x31_7, rfl, HA, HJ7, BK247, BK248, HB⟩ := hcut
  cases kq with
  | zero => exact absurd HA.out (by simp [view_Scan.j0])
  | succ kj7 =>
   have H := HA.out
   clear HA
   simp only [view_Scan.j0] at H
   as_aux_lemma =>
    by_cases c27 : x31_7 = true
    ·subst c27
     rw [if_pos rfl] at H
     simp only [Option.some.injEq, Prod.mk.injEq] at H
     obtain ⟨rfl, rfl⟩ := H
     go_wp2
     go_ret2
     exact ⟨_, by first | rfl | (simp [errW_none, errW_some] <;> rfl) | (simp [*, errW_none, errW_some] <;> rfl), by first | exact Kd.R_nil _ _ _ _ _ | exact Kd.N_nil _ _ _ _ _ | exact Kd.V_nil _ _ _ _ _ | exact Kd.Q_nil _ _ _ _ _ | exact Kd.S_nil _ _ _ _ _, b_ HB⟩
    ·replace c27 := Bool.eq_false_iff.mpr c27
     subst c27
     rw [if_neg (show ¬ (false = true) by decide)] at H
     by_cases c28 : 0 ≤ a2
     ·rw [if_pos c28] at H
      have c28b0 : decide (0 ≤ a2) = true := decide_eq_true c28
      clear c28
      by_cases c29 : a2 < (l0.length : Int)
      ·rw [if_pos c29] at H
       have c29b0 : decide (a2 < (l0.length : Int)) = true := decide_eq_true c29
       clear c29
       replace H := Option.bind_eq_some_iff.mp H
       obtain ⟨t253, A300, H⟩ := H
       try dsimp only at H
       have A30 := mk0 A300
       clear A300
       replace H := Option.bind_eq_some_iff.mp H
       obtain ⟨t256, A310, H⟩ := H
       try dsimp only at H
       have A31 := mk0 A310
       clear A310
       replace H := Option.bind_eq_some_iff.mp H
       obtain ⟨t259, A320, H⟩ := H
       try dsimp only at H
       have A32 := mk0 A320
       clear A320
       simp only [Option.some.injEq, Prod.mk.injEq] at H
       obtain ⟨rfl, rfl⟩ := H
       try go_wp2
       replace BK247 := mk0 (bD_ BK247.out)
       replace BK248 := mk0 (bD_ BK248.out)
       replace HB := mk0 (b1_ HB.out)
       have p252 : 0 ≤ (a2 : Int) := of_decide_eq_true (by first | (with_reducible assumption) | assumption)
       have q252 : a2 < (l0.length : Int) := of_decide_eq_true (by first | (with_reducible assumption) | assumption)
       obtain ⟨ad252, A252_0, c252_0, e252, hx252_0, hl252_0, hi252_0⟩ := at_T47 HR0.out a2 p252 q252
       have hw252_0 := hx252_0
       cases e252
       replace hx252_0 := (bc_ HB hx252_0 :)
       have HR252_0 := mk0 hi252_0
       have HC252_0 := mk0 hl252_0
       clear hi252_0 hl252_0
       replace p252 := eq_true p252
       replace q252 := eq_true q252
       refine start_ (n := 15) (S := fun w' => w'.cell? ⟨gb247, 0, none⟩ = some (.slice A1_0 l1_0.length c1_0) ∧ w'.cell? ⟨gb247, 1, none⟩ = some (.slice A1_1 l1_1.length c1_1) ∧ w'.cell? ⟨gb248, 0, none⟩ = some (.string a3_0) ∧ w'.cell? ⟨gb248, 1, none⟩ = some (.string a3_1) ∧ w'.cell? ⟨gb248, 2, none⟩ = some (.bool a3_2) ∧ w'.cell? (ad252.add (a2).toNat) = some (.slice A252_0 ((rd_T47 l0 a2).f0).length c252_0)) (ds := []) (bt 15 0) (by kernel_rfl) rfl rfl ⟨bk_ BK247 0, bk_ BK247 1, bk_ BK248 0, bk_ BK248 1, bk_ BK248 2, ((bc_ HB hw252_0 :))⟩ (fun hHeld => ?_); refine with_tabW view_Scan.tab3 view_Scan.bits3 (fun HT_ HW_ => ?_)
       generalize wc.drew = w33 at BK247 BK248 HB HR252_0 hx252_0 hHeld ⊢
       refine pq_ HT_.out 0 32 (bt 15 1) (h := ?_)
       refine pq_ HT_.out 1 33 (bt 15 3) (h := ?_)
       refine pq_ HT_.out 2 34 (bt 15 7) (h := ?_)
       refine pq_ HT_.out 4 36 (bt 15 23) (h := ?_)
       refine pq_ HT_.out 7 39 (bt 15 151) (h := ?_)
       refine pq_ HT_.out 10 42 (bt 15 1175) (h := ?_)
       refine pq_ HT_.out 11 43 (bt 15 3223) (h := ?_)
       refine tq6_ HT_.out HW_.out 3 35 (bt 15 3231) hHeld (h := ?_)
       refine tq6_ HT_.out HW_.out 6 38 (bt 15 3295) hHeld (h := ?_)
       refine tq6_ HT_.out HW_.out 9 41 (bt 15 3807) hHeld (h := ?_)
       refine one_ (i := 5) (N := some 37) (bt 15 3839) rfl rfl (one_of HT_.out (by kernel_rfl)) (by decide) (fun K hK => ?_)
       refine goes_ Try.func91 (by kernel_rfl) rfl #[.agg #[.slice A252_0 ((rd_T47 l0 a2).f0).length c252_0], .int .i64 a4] (by rfl) rfl rfl (by (try simp only [List.map_toArray, List.map_cons, List.map_nil]); first | done | rfl | (simp only [List.length_drop, List.length_take]; rfl)) ?_
       with_reducible refine (table_Rows.calls kj7 _ _ ((rd_T47 l0 a2).f0) a4 t253 _ ?side1 ?side2 A30.out).mono ?_
       (case side1 => exact cb_ HR252_0 HB)
       (case side2 => exact HC252_0.out)
       rintro e w34 ⟨v254, rfl, ho0, hb⟩
       refine ⟨_, rfl, ?_⟩
       have n0_ := mk0 (Kd.R_lower ho0 (bz_ (b_ HB)))
       replace BK247 := mk0 (u_ BK247 hb)
       replace BK248 := mk0 (u_ BK248 hb)
       replace HB := mk0 (bt_ (b_ HB) hb)
       have HO255 := n0_
       clear n0_
       (try clear hb)
       (try clear hb2)
       (try clear hk)
       (try clear hi)
       (try clear ho0)
       obtain ⟨Ao35, co35, eo35⟩ := Kd.R_slice HO255.out
       (first | subst eo35 | (injection eo35 with f1_ f2_ f3_; have f4_ := f1_.symm; have f5_ := f3_.symm; clear f1_ f2_ f3_; subst f4_; subst f5_))
       refine hK.out _ _ ⟨bk_ BK247 0, bk_ BK247 1, bk_ BK248 0, bk_ BK248 1, bk_ BK248 2, ((bc_ HB hw252_0 :))⟩ (fun hHeld => ?_)
       clear hK K
       refine norm_ (a' := ?_) ?_ ?_
       rotate_left
       ·show Act.put _ (some 37) _ = _
        simp only [z_]
        rfl
       refine one_ (i := 8) (N := some 40) (bt 15 4095) rfl rfl (one_of HT_.out (by kernel_rfl)) (by decide) (fun K hK => ?_)
       refine goes_ Try.func90 (by kernel_rfl) rfl #[.slice Ao35 t253.length co35, .agg #[.slice A1_0 l1_0.length c1_0, .slice A1_1 l1_1.length c1_1], .int .i64 a2] (by rfl) rfl rfl (by (try simp only [List.map_toArray, List.map_cons, List.map_nil]); first | done | rfl | (simp only [List.length_drop, List.length_take]; rfl)) ?_
       with_reducible refine (view_Merge.calls kj7 _ _ t253 _ _ l1_0 _ _ l1_1 a2 t256 _ ?side1 ?side2 ?side3 ?side4 ?side5 ?side6 A31.out).mono ?_
       (case side1 => exact cr_ HO255)
       (case side2 => exact (Kd.R_reads' HO255.out).2.1)
       (case side3 => exact cb_ HR1_0 HB)
       (case side4 => exact HC1_0.out)
       (case side5 => exact cb_ HR1_1 HB)
       (case side6 => exact HC1_1.out)
       rintro e w36 ⟨v257, rfl, ho0, hb⟩
       refine ⟨_, rfl, ?_⟩
       have n1_ := mk0 (Kd.R_lower (Kd.R_new' ho0 (Kd.R_lt (r_ HO255))) (bz_ (b_ HB)))
       replace HO255 := mk0 (Kd.R_elder' (r_ HO255) (Kd.R_base ho0) hb)
       replace BK247 := mk0 (u_ BK247 hb)
       replace BK248 := mk0 (u_ BK248 hb)
       replace HB := mk0 (bt_ (b_ HB) hb)
       have HO258 := n1_
       clear n1_
       (try clear hb)
       (try clear hb2)
       (try clear hk)
       (try clear hi)
       (try clear ho0)
       obtain ⟨Ao37, co37, eo37⟩ := Kd.R_slice HO258.out
       (first | subst eo37 | (injection eo37 with f1_ f2_ f3_; have f4_ := f1_.symm; have f5_ := f3_.symm; clear f1_ f2_ f3_; subst f4_; subst f5_))
       refine hK.out _ _ ⟨bk_ BK247 0, bk_ BK247 1, bk_ BK248 0, bk_ BK248 1, bk_ BK248 2, ((bc_ HB hw252_0 :))⟩ (fun hHeld => ?_)
       clear hK K
       refine norm_ (a' := ?_) ?_ ?_
       rotate_left
       ·show Act.put _ (some 40) _ = _
        simp only [z_]
        rfl
       refine one_ (i := 12) (N := some 44) (bt 15 8191) rfl rfl (one_of HT_.out (by kernel_rfl)) (by decide) (fun K hK => ?_)
       refine goes_ Try.func89 (by kernel_rfl) rfl #[.slice Ao37 t256.length co37, .agg #[.string a3_0, .string a3_1, .bool a3_2], .int .i64 a5, .bool a6] (by rfl) rfl rfl (by (try simp only [List.map_toArray, List.map_cons, List.map_nil]); first | done | rfl | (simp only [List.length_drop, List.length_take]; rfl)) ?_
       with_reducible refine (table_Some.calls _ _ t256 a3_0 a3_1 a3_2 a5 a6 t259 _ ?side1 ?side2 A32.out).mono ?_
       (case side1 => exact cr_ HO258)
       (case side2 => exact (Kd.R_reads' HO258.out).2.1)
       rintro e w38 ⟨v260, rfl, ho0, hb⟩
       refine ⟨_, rfl, ?_⟩
       have n2_ := mk0 (Kd.R_lower (Kd.R_new' (Kd.R_new' ho0 (Kd.R_lt (r_ HO255))) (Kd.R_lt (r_ HO258))) (bz_ (b_ HB)))
       replace HO255 := mk0 (Kd.R_elder' (r_ HO255) (Kd.R_base ho0) hb)
       replace HO258 := mk0 (Kd.R_elder' (r_ HO258) (Kd.R_base ho0) hb)
       replace BK247 := mk0 (u_ BK247 hb)
       replace BK248 := mk0 (u_ BK248 hb)
       replace HB := mk0 (bt_ (b_ HB) hb)
       have HO261 := n2_
       clear n2_
       (try clear hb)
       (try clear hb2)
       (try clear hk)
       (try clear hi)
       (try clear ho0)
       refine hK.out _ _ ⟨bk_ BK247 0, bk_ BK247 1, bk_ BK248 0, bk_ BK248 1, bk_ BK248 2, ((bc_ HB hw252_0 :))⟩ (fun hHeld => ?_)
       clear hK K
       refine norm_ (a' := ?_) ?_ ?_
       rotate_left
       ·show Act.put _ (some 44) _ = _
        simp only [z_]
        rfl
       refine pq_ HT_.out 13 14 (bt 15 16383) (h := ?_)
       refine pq_ HT_.out 14 15 (bt 15 32767) (h := ?_)
       refine done_ (done_of HT_.out (by kernel_rfl)) ?_
       try go_wp2
       go_ret2
       exact ⟨_, by first | rfl | (simp [errW_none, errW_some] <;> rfl) | (simp [*, errW_none, errW_some] <;> rfl), by (with_reducible repeat (first | apply Ra_ | apply Rn_ | apply Rd_)); exact Kd.R_mono HO261.out (fun _ hk => trivial), b_ HB⟩
      ·rw [if_neg c29] at H
       exact absurd H (by simp)
     ·rw [if_neg c28] at H
      exact absurd H (by simp)

end Go.Proofs.Ytbaecdcfefmcgaa.PVrs
