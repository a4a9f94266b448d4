-- PRINTED by print.py (a twelfth state) out of the translation. Not trusted: Lean checks it.
import Derived.Test.YtbaecdcfefmcgaaPTbex0
import Derived.Test.YtbaecdcfefmcgaaPTbex2
import Derived.Test.YtbaecdcfefmcgaaPTbex8
namespace Go.Proofs.Ytbaecdcfefmcgaa.PTbe
open Go.RowKit Go.Proofs.YtbaecdcfefmcgaaW.PrintWords Go.Proofs.YtbaecdcfefmcgaaW.PrintLast Go.Proofs.YtbaecdcfefmcgaaW.PrintMore
attribute [local go_sem] max2_int min2_int max_two min_two max_three min_three max_four min_four   -- for this text's walks alone
set_option maxHeartbeats 8000000
set_option maxRecDepth 100000
set_option linter.unusedVariables false
set_option linter.unusedSimpArgs false
attribute [local go_sem high] eqA82
/-! ### quorumref0_EqRows: function 83 -/
def quorumref0_EqRows.l0 : Nat → List (S82) → List (S82) → Int → Option (Bool)
 | 0, _, _, _ => none
 | k + 1, x0, x1, x5 => if x5 < (x0.length : Int) then (if 0 ≤ x5 then (if x5 < (x1.length : Int) then (if (!((((rd_T82 x0 x5).f0).toList) == (((rd_T82 x1 x5).f0).toList)) || (!((((rd_T82 x0 x5).f1).toList) == (((rd_T82 x1 x5).f1).toList)))) = true then (some false) else (quorumref0_EqRows.l0 k x0 x1 (wrap64 (x5 + 1)))) else (none)) else (none)) else (some true)
def quorumref0_EqRows.f (k : Nat) (l0 : List (S82)) (l1 : List (S82)) : Option (Bool) := if (l0.length : Int) = (l1.length : Int) then (quorumref0_EqRows.l0 k l0 l1 0) else (some false)
theorem quorumref0_EqRows.mono_l : ∀ k, (∀ y0 y1 y2, LeO (quorumref0_EqRows.l0 k y0 y1 y2) (quorumref0_EqRows.l0 (k + 1) y0 y1 y2))
 | 0 => fun _ _ _ r h => by simp [quorumref0_EqRows.l0] at h
 | k + 1 => by
  have ih0 := quorumref0_EqRows.mono_l k
  all_goals (intros; first | unfold quorumref0_EqRows.l0)
  all_goals (repeat' first | (with_reducible exact ih0 ..) | (with_reducible exact LeO.refl _) | (with_reducible exact LeO.none _) | (with_reducible refine LeO.ite ?_ ?_) | (with_reducible refine LeO.bind ?_ (fun _ => ?_)) | exact LeO.none _ | refine LeO.ite ?_ ?_ | refine LeO.bind ?_ (fun _ => ?_))
theorem quorumref0_EqRows.mono : ∀ a0 a1 k, LeO (quorumref0_EqRows.f k a0 a1) (quorumref0_EqRows.f (k + 1) a0 a1) := by
 intro a0 a1 k
 have ih0 := quorumref0_EqRows.mono_l k
 unfold quorumref0_EqRows.f
 repeat' first | (with_reducible exact ih0 ..) | (with_reducible exact LeO.refl _) | (with_reducible exact LeO.none _) | (with_reducible refine LeO.ite ?_ ?_) | (with_reducible refine LeO.bind ?_ (fun _ => ?_)) | exact LeO.none _ | refine LeO.ite ?_ ?_ | refine LeO.bind ?_ (fun _ => ?_)
theorem quorumref0_EqRows.calls (k : Nat) (A0 : Option Addr) (c0 : Nat) (l0 : List (S82)) (A1 : Option Addr) (c1 : Nat) (l1 : List (S82)) (r : Bool) (w : World) (hr0 : Kd.C k82 w A0 l0.length l0) (hc0 : l0.length ≤ c0) (hr1 : Kd.C k82 w A1 l1.length l1) (hc1 : l1.length ≤ c1) (h : quorumref0_EqRows.f k l0 l1 = some r) :
  Calls Try.prog 83 #[.slice A0 l0.length c0, .slice A1 l1.length c1] w fun e w' => e = .returned (.bool r) ∧ Drawn0 w w' := by
 have hu82 := Try.underlying82
 have HR0 := mk0 hr0
 have HC0 := mk0 hc0
 clear hr0 hc0
 have HR1 := mk0 hr1
 have HC1 := mk0 hc1
 clear hr1 hc1
 have H : (if (l0.length : Int) = (l1.length : Int) then (quorumref0_EqRows.l0 k l0 l1 0) else (some false)) = some r := h
 clear h
 by_cases c3 : (l0.length : Int) = (l1.length : Int)
 ·rw [if_pos c3] at H
  have al := beq_iff_eq.mpr c3
  have am := bne_eq_false_iff_eq.mpr c3
  have an : (l0.length == l1.length) = true := by first | simpa using c3 | (simp at c3 ⊢; omega)
  clear c3
  have H' := mk0 H
  clear H
  go_enter Try.func83, Try.ntmps83
  go_wp2
  repeat (go_quiet (fail); try go_wp2)
  go_loopg [5] k (fun kq v5 w' => ∃ (aa : Int), v5 = .int .i64 aa ∧ Fc (quorumref0_EqRows.l0 kq l0 l1 aa = some r) ∧ Fc (kq ≤ k) ∧ Drawn0 w w')
  case atStart => exact ⟨(0), sm_, H', ⟨Nat.le_refl _⟩, by repeat (first | exact Drawn0.refl _ | apply Drawn0.step)⟩
  case round =>
   clear H'
   try clear c3
   try clear al
   try clear am
   try clear an
   obtain ⟨aa, rfl, HA, aq, ⟨m1, rfl⟩⟩ := hrel
   cases gk with
   | zero => exact absurd HA.out (by simp [quorumref0_EqRows.l0])
   | succ k1 =>
    have H := HA.out
    clear HA
    simp only [quorumref0_EqRows.l0] at H
    as_aux_lemma =>
     by_cases c4 : aa < (l0.length : Int)
     ·rw [if_pos c4] at H
      have ar := decide_eq_true c4
      clear c4
      by_cases c5 : 0 ≤ aa
      ·rw [if_pos c5] at H
       have av := decide_eq_true c5
       clear c5
       by_cases c6 : aa < (l1.length : Int)
       ·rw [if_pos c6] at H
        have aw := decide_eq_true c6
        clear c6
        by_cases c7 : (!((((rd_T82 l0 aa).f0).toList) == (((rd_T82 l1 aa).f0).toList)) || (!((((rd_T82 l0 aa).f1).toList) == (((rd_T82 l1 aa).f1).toList)))) = true
        ·rw [if_pos c7] at H
         have au : (!((((rd_T82 l0 aa).f0).toList) == (((rd_T82 l1 aa).f0).toList)) || (!((((rd_T82 l0 aa).f1).toList) == (((rd_T82 l1 aa).f1).toList)))) = true := c7
         clear c7
         obtain rfl := Option.some.inj H
         have ab : 0 ≤ (aa : Int) := od_
         have ac : aa < (l0.length : Int) := od_
         obtain ⟨ao, af, ag, ah⟩ := at_T82 HR0.out aa ab ac
         cases af
         replace ab := eq_true ab
         replace ac := eq_true ac
         have ad : 0 ≤ (aa : Int) := od_
         have ae : aa < (l1.length : Int) := od_
         obtain ⟨ap, ai, aj, ak⟩ := at_T82 HR1.out aa ad ae
         cases ai
         replace ad := eq_true ad
         replace ae := eq_true ae
         go_wp2
         repeat (go_quiet (fail); try go_wp2)
         go_ret
         exact ⟨by first | rfl | (simp; done) | (simp [*]; done), by repeat (first | exact Drawn0.refl _ | apply Drawn0.step)⟩
        ·rw [if_neg c7] at H
         have au : (!((((rd_T82 l0 aa).f0).toList) == (((rd_T82 l1 aa).f0).toList)) || (!((((rd_T82 l0 aa).f1).toList) == (((rd_T82 l1 aa).f1).toList)))) = false := by simpa using c7
         clear c7
         have H' := mk0 H
         clear H
         have ab : 0 ≤ (aa : Int) := od_
         have ac : aa < (l0.length : Int) := od_
         obtain ⟨ao, af, ag, ah⟩ := at_T82 HR0.out aa ab ac
         cases af
         replace ab := eq_true ab
         replace ac := eq_true ac
         have ad : 0 ≤ (aa : Int) := od_
         have ae : aa < (l1.length : Int) := od_
         obtain ⟨ap, ai, aj, ak⟩ := at_T82 HR1.out aa ad ae
         cases ai
         replace ad := eq_true ad
         replace ae := eq_true ae
         go_wp2
         repeat (go_quiet (fail); try go_wp2)
         go_roundg k1
         case measure => have := aq.out; omega
         case rel => exact ⟨(wrap64 (aa + 1)), sm_, H', ⟨by have := aq.out; omega⟩, by repeat (first | exact Drawn0.refl _ | apply Drawn0.step)⟩
       ·rw [if_neg c6] at H
        exact absurd H (by simp)
      ·rw [if_neg c5] at H
       exact absurd H (by simp)
     ·rw [if_neg c4] at H
      have ar := decide_eq_false c4
      clear c4
      obtain rfl := Option.some.inj H
      go_wp2
      repeat (go_quiet (fail); try go_wp2)
      go_ret
      exact ⟨by first | rfl | (simp; done) | (simp [*]; done), by repeat (first | exact Drawn0.refl _ | apply Drawn0.step)⟩
 ·rw [if_neg c3] at H
  have al := beq_eq_false_iff_ne.mpr c3
  have am := bne_iff_ne.mpr c3
  have an : (l0.length == l1.length) = false := by first | simpa using c3 | (simp at c3 ⊢; omega)
  obtain rfl := Option.some.inj H
  go_enter Try.func83, Try.ntmps83
  go_wp2
  repeat (go_quiet (fail); try go_wp2)
  go_ret
  exact ⟨by first | rfl | (simp; done) | (simp [*]; done), by repeat (first | exact Drawn0.refl _ | apply Drawn0.step)⟩
/-! ### table_Own: function 125 -/
def table_Own.l0 : Nat → List (S99) → Int → Int → List (S99) → Option ((List (S99)))
 | 0, _, _, _, _ => none
 | k + 1, x6, x7, x8, x348000 => if x8 < x7 then (if 0 ≤ x8 then (if x8 < (x6.length : Int) then ((chain_Own.f ((rd_T99 x6 x8).f0) ((rd_T99 x6 x8).f1)).bind fun bt350 => (if x348000.length < 3518437208883 then (table_Own.l0 k x6 x7 (wrap64 (x8 + 1)) (x348000 ++ [(⟨bt350.1, bt350.2⟩ : S99)])) else (none))) else (none)) else (none)) else (some x348000)
def table_Own.f (k : Nat) (l0_0 : List (S99)) : Option ((List (S99))) := table_Own.l0 k l0_0 (l0_0.length : Int) 0 ([] : List (S99))
theorem table_Own.mono_l : ∀ k, (∀ y0 y1 y2 y3, LeO (table_Own.l0 k y0 y1 y2 y3) (table_Own.l0 (k + 1) y0 y1 y2 y3))
 | 0 => fun _ _ _ _ r h => by simp [table_Own.l0] at h
 | k + 1 => by
  have ih0 := table_Own.mono_l k
  all_goals (intros; first | unfold table_Own.l0)
  all_goals (repeat' first | (with_reducible exact ih0 ..) | (with_reducible exact LeO.refl _) | (with_reducible exact LeO.none _) | (with_reducible refine LeO.ite ?_ ?_) | (with_reducible refine LeO.bind ?_ (fun _ => ?_)) | exact LeO.none _ | refine LeO.ite ?_ ?_ | refine LeO.bind ?_ (fun _ => ?_))
theorem table_Own.mono : ∀ a0 k, LeO (table_Own.f k a0) (table_Own.f (k + 1) a0) := by
 intro a0 k
 have ih0 := table_Own.mono_l k
 unfold table_Own.f
 repeat' first | (with_reducible exact ih0 ..) | (with_reducible exact LeO.refl _) | (with_reducible exact LeO.none _) | (with_reducible refine LeO.ite ?_ ?_) | (with_reducible refine LeO.bind ?_ (fun _ => ?_)) | exact LeO.none _ | refine LeO.ite ?_ ?_ | refine LeO.bind ?_ (fun _ => ?_)
def table_Own.T4 : Bool × List (List Nat × List Nat) := (true, [([], []), ([0], [0]), ([], []), ([2], [2]), ([3], [3]), ([1, 4, 3], [1, 4]), ([0, 1, 2, 3, 4, 5], []), ([6, 5, 5, 0, 1, 2, 3, 4, 5], [5, 6])])
def table_Own.B4 : List Nat := [0, 1, 0, 4, 12, 31, 63, 127]
theorem table_Own.tab4 : rtab .any (opsOf Try.f125 4) = table_Own.T4 := by kernel_rfl
theorem table_Own.bits4 : waitsOk table_Own.T4.2 table_Own.B4 = true := by kernel_rfl
theorem table_Own.calls (k : Nat) (A0_0 : Option Addr) (c0_0 : Nat) (l0_0 : List (S99)) (r : List (S99)) (w : World) (hr0_0 : Kd.C k99 w A0_0 l0_0.length l0_0) (hc0_0 : l0_0.length ≤ c0_0) (h : table_Own.f k l0_0 = some r) :
  Calls Try.prog 125 #[.agg #[.slice A0_0 l0_0.length c0_0]] w fun e w' => ∃ v0_ : Value, e = .returned (.agg #[v0_]) ∧ Kd.S k99 99 w' w.heap.size (fun _ => True) v0_ r ∧ Below w.heap.size w w' := by
 have hu47 := Try.underlying47
 have hu99 := Try.underlying99
 have a9 := mk0 hr0_0
 have bu := mk0 hc0_0
 clear hr0_0 hc0_0
 have HB := mk0 (Below.refl w.heap.size w)
 have H : (table_Own.l0 k l0_0 (l0_0.length : Int) 0 ([] : List (S99))) = some r := h
 clear h
 have H' := mk0 H
 clear H
 go_enter Try.func125, Try.ntmps125
 go_wp2_with (first | ((with_reducible refine gate_dst (N := 1) rfl ?_); refine bx_ (N := 1) (cs := #[.slice A0_0 l0_0.length c0_0]) (t := 47) (h := ?_); intro aC hg w2 hbox hb; have n2_ := mk0 (gz_ HB hg); have av := mk0 (gz_ HB hg); replace HB := mk0 (bt_ (b_ HB) hb); have ae := mk0 (hbox); have bv := av; clear n2_ av; clear hb hbox hg) | ((with_reducible refine gate_dst (N := 2) rfl ?_); refine bx_ (N := 2) (cs := #[.slice none 0 0]) (t := 47) (h := ?_); intro am hg w3 hbox hb; have av := mk0 (gz_ HB hg); have aG := mk0 (gz_ HB hg); have aW := mk0 (ne1_ ae hg); have aJ := mk0 (ne2_ ae hg); replace ae := mk0 (u_ ae hb); replace HB := mk0 (bt_ (b_ HB) hb); have ac := mk0 (hbox); have bw := aG; have ak := aW; have an := aJ; clear av aG aW aJ hb hbox hg; have bH := ak.out; have bI := an.out; obtain ⟨aX, aY⟩ := c1_ ae))
 go_loopg [8] k (fun kq v8 w' => ∃ (ab : Int) (ag : List (S99)) (ah : Value), v8 = .int .i64 ab ∧ Fc (table_Own.l0 kq l0_0 (l0_0.length : Int) ab ag = some r) ∧ Fc (kq ≤ k) ∧ Fc (Kd.S k99 99 w' w.heap.size (fun _ => True) ah ag) ∧ Fc (w'.heap[aC]? = some (.cells #[(.slice A0_0 l0_0.length c0_0)] 47 (0, 0))) ∧ Fc (w'.heap[am]? = some (.cells #[ah] 47 (0, 0))) ∧ Fc (Below w.heap.size w w'))
 case atStart => exact ⟨(0), (([] : List (S99))), (.slice none 0 0), sm_, H', ⟨Nat.le_refl _⟩, ⟨nl_⟩, ⟨h_ ae⟩, ⟨h_ ac⟩, ⟨b_ HB⟩⟩
 case round =>
  clear H'
  try clear aX
  try clear aY
  obtain ⟨ab, ag, ah, rfl, HA, bc, aa, ae, ac, HB⟩ := hrel
  cases gk with
  | zero => exact absurd HA.out (by simp [table_Own.l0])
  | succ k1 =>
   have H := HA.out
   clear HA
   simp only [table_Own.l0] at H
   as_aux_lemma =>
    by_cases c6 : ab < (l0_0.length : Int)
    ·rw [if_pos c6] at H
     have bd := decide_eq_true c6
     clear c6
     by_cases c7 : 0 ≤ ab
     ·rw [if_pos c7] at H
      have bJ := decide_eq_true c7
      clear c7
      by_cases c8 : ab < (l0_0.length : Int)
      ·rw [if_pos c8] at H
       have bK := decide_eq_true c8
       clear c8
       replace H := ob_ H
       obtain ⟨⟨aw, ar⟩, A9, H⟩ := H
       try dsimp only at H
       by_cases aZ : ag.length < 3518437208883
       ·rw [if_pos aZ] at H
        have LMc10 := mk0 aZ
        clear aZ
        obtain ⟨aE, ap⟩ : ∃ y_ : List (S99), y_ = (ag ++ [(⟨aw, ar⟩ : S99)]) := ⟨_, rfl⟩
        replace H : (table_Own.l0 k1 l0_0 (l0_0.length : Int) (wrap64 (ab + 1)) aE) = some r := by first | (rw [ap]; with_reducible exact H) | (have H2_ := (Option.bind_some _ _).symm.trans H; rw [ap]; with_reducible exact H2_) | (have H2_ := (Option.bind_some _ _).symm.trans H; with_reducible exact H2_) | with_reducible exact H | (rw [ap]; exact H) | exact H
        have ba := mk0 ap
        clear ap
        have H' := mk0 H
        clear H
        have aK : 0 ≤ (ab : Int) := od_
        have aM : ab < (l0_0.length : Int) := od_
        obtain ⟨aN, ai, aj, be, ax, ay, az, aA⟩ := at_T99 a9.out ab aK aM
        cases be
        replace ax := (bc_ HB ax :)
        replace ay := (bc_ HB ay :)
        have aQ := mk0 aA
        have aR := mk0 az
        clear aA az
        replace aK := eq_true aK
        replace aM := eq_true aM
        try go_wp2_with (first | ((with_reducible refine gate_dst (N := 4) rfl ?_); refine bx_ (N := 4) (cs := #[.string (⟨#[]⟩ : ByteArray), .slice none 0 0]) (t := 99) (h := ?_); intro ad hg aH hbox hb; have aW := mk0 (gz_ HB hg); have aJ := mk0 (gz_ HB hg); have bf := mk0 (ne1_ ae hg); have bg := mk0 (ne2_ ae hg); have bh := mk0 (ne1_ ac hg); have a2 := mk0 (ne2_ ac hg); replace aa := mk0 (Kd.S_below (Kd.S_elderB (s_ aa) ad (Nat.le_of_eq hg.symm)) hb); replace ae := mk0 (u_ ae hb); replace ac := mk0 (u_ ac hb); replace HB := mk0 (bt_ (b_ HB) hb); have af := mk0 (hbox); have bx := aJ; have ao := bf; have aD := bg; have al := bh; have aq := a2; clear aW aJ bf bg bh a2 hb hbox hg; have bz := aD.out; have bA := ao.out; have bB := aq.out; have bC := al.out; obtain ⟨bi, bj, bk, bl⟩ := c2_ af))
        have bb : Fc (Kd.S k99 99 ((aH.setCell ⟨ad, 0, none⟩ (.string ((rd_T99 l0_0 ab).f0))).setCell ⟨ad, 1, none⟩ (.slice ai ((rd_T99 l0_0 ab).f1).length aj)) w.heap.size (fun k_ => k_ ≠ ad) ah ag) := ⟨by (with_reducible repeat (first | apply Kd.S_alloc | apply Kd.S_drewN | apply Kd.S_drew)); exact Kd.S_mono (Kd.S_far (p := ⟨ad, 1, none⟩) (Kd.S_far (p := ⟨ad, 0, none⟩) (Kd.S_mono aa.out (fun k_ hk => (⟨hk, hk.2⟩ : _ ∧ k_ ≠ ad))) (fun _ hk => hk.2) (.string ((rd_T99 l0_0 ab).f0))) (fun _ hk => hk.2) (.slice ai ((rd_T99 l0_0 ab).f1).length aj)) (fun _ hk => hk.1.2)⟩
        have aI : Fc (((aH.setCell ⟨ad, 0, none⟩ (.string ((rd_T99 l0_0 ab).f0))).setCell ⟨ad, 1, none⟩ (.slice ai ((rd_T99 l0_0 ab).f1).length aj)).heap[aC]? = some (.cells #[.slice (some aN) l0_0.length c0_0] 47 (0, 0))) := ⟨(fa_ (fa_ (h_ ae) ao.out) ao.out)⟩
        have n2_ : Fc (((aH.setCell ⟨ad, 0, none⟩ (.string ((rd_T99 l0_0 ab).f0))).setCell ⟨ad, 1, none⟩ (.slice ai ((rd_T99 l0_0 ab).f1).length aj)).heap[am]? = some (.cells #[ah] 47 (0, 0))) := ⟨(fa_ (fa_ (h_ ac) al.out) al.out)⟩
        have av : Fc (((aH.setCell ⟨ad, 0, none⟩ (.string ((rd_T99 l0_0 ab).f0))).setCell ⟨ad, 1, none⟩ (.slice ai ((rd_T99 l0_0 ab).f1).length aj)).heap[ad]? = some (.cells #[.string ((rd_T99 l0_0 ab).f0), .slice ai ((rd_T99 l0_0 ab).f1).length aj] 99 (0, 0))) := ⟨(pu_ (cs := #[.string ((rd_T99 l0_0 ab).f0), .slice none 0 0]) (pu_ (cs := #[.string (⟨#[]⟩ : ByteArray), .slice none 0 0]) (h_ af)))⟩
        have aG : Fc (Below w.heap.size w ((aH.setCell ⟨ad, 0, none⟩ (.string ((rd_T99 l0_0 ab).f0))).setCell ⟨ad, 1, none⟩ (.slice ai ((rd_T99 l0_0 ab).f1).length aj))) := ⟨b_ HB⟩
        (try clear aa)
        (try clear ae)
        (try clear ac)
        (try clear af)
        (try clear HB)
        generalize ((aH.setCell ⟨ad, 0, none⟩ (.string ((rd_T99 l0_0 ab).f0))).setCell ⟨ad, 1, none⟩ (.slice ai ((rd_T99 l0_0 ab).f1).length aj)) = bD at bb aI n2_ av aG ⊢
        have aa := bb
        have ae := aI
        have ac := n2_
        have af := av
        have HB := aG
        clear bb aI n2_ av aG
        replace aa := mk0 (Kd.S_drew aa.out)
        replace ae := mk0 (bD_ ae.out)
        replace ac := mk0 (bD_ ac.out)
        replace af := mk0 (bD_ af.out)
        replace HB := mk0 (b1_ HB.out)
        refine start_ (n := 8) (S := fun w' => w'.cell? ⟨am, 0, none⟩ = some (ah) ∧ w'.cell? ⟨ad, 0, none⟩ = some (.string ((rd_T99 l0_0 ab).f0)) ∧ w'.cell? ⟨ad, 1, none⟩ = some (.slice ai ((rd_T99 l0_0 ab).f1).length aj)) (ds := [7]) (bt 8 0) (by kernel_rfl) rfl rfl ⟨bk_ ac 0, bk_ af 0, bk_ af 1⟩ (fun hHeld => ?_); refine with_tabW table_Own.tab4 table_Own.bits4 (fun HT_ HW_ => ?_)
        generalize bD.drew = bN at aa ae ac af HB hHeld ⊢
        refine pq_ HT_.out 0 12 (bt 8 1) (h := ?_)
        refine tq3_ HT_.out HW_.out 1 13 (bt 8 3) hHeld (h := ?_)
        refine tq3_ HT_.out HW_.out 2 14 (bt 8 7) hHeld (h := ?_)
        refine one_ (i := 3) (N := some 15) (bt 8 15) rfl rfl (one_of HT_.out (by kernel_rfl)) (by decide) (fun K hK => ?_)
        refine goes_ Try.func167 (by kernel_rfl) rfl #[.agg #[.string ((rd_T99 l0_0 ab).f0), .slice ai ((rd_T99 l0_0 ab).f1).length aj]] (by rfl) rfl rfl gs_ ?_
        with_reducible refine (chain_Own.calls ((rd_T99 l0_0 ab).f0) _ _ ((rd_T99 l0_0 ab).f1) aw ar _ ?side1 ?side2 A9.out).mono ?_
        (case side1 => exact cb_ aQ HB)
        (case side2 => exact aR.out)
        rintro e bO ⟨bL, rfl, ho0, hb⟩
        refine ⟨_, rfl, ?_⟩
        have aI := mk0 (Kd.R_lower ho0 (bz_ (b_ HB)))
        replace aa := mk0 (Kd.S_elder' (s_ aa) (Kd.R_base ho0) hb)
        replace ae := mk0 (u_ ae hb)
        replace ac := mk0 (u_ ac hb)
        replace af := mk0 (u_ af hb)
        replace HB := mk0 (bt_ (b_ HB) hb)
        have au := aI
        clear aI
        (try clear hb)
        (try clear hk)
        (try clear hi)
        (try clear ho0)
        obtain ⟨a3, a4, a5⟩ := Kd.R_slice au.out
        (first | subst a5 | (injection a5 with f1_ f2_ f3_; have f4_ := f1_.symm; have f5_ := f3_.symm; clear f1_ f2_ f3_; subst f4_; subst f5_))
        refine hK.out _ _ ⟨bk_ ac 0, bk_ af 0, bk_ af 1⟩ (fun hHeld => ?_)
        clear hK K
        refine norm_ (a' := ?_) ?_ ?_
        rotate_left
        ·show Act.put _ (some 15) _ = _
         simp only [z_]
         rfl
        refine one_ (i := 4) (N := some 16) (bt 8 31) rfl rfl (one_of HT_.out (by kernel_rfl)) (by decide) (fun K hK => ?_)
        refine value_ (w1 := ?_) (v := ?_) (by rfl) rfl ?_ ?_
        rotate_left 2
        ·go_simp
         constructor
         ·rfl
         ·rfl
        refine hK.out _ _ ⟨(blk_cell (bA_ ac.out _) 0).trans rfl, (blk_cell (bA_ af.out _) 0).trans rfl, (blk_cell (bA_ af.out _) 1).trans rfl⟩ (fun hHeld => ?_)
        clear hK K
        refine norm_ (a' := ?_) ?_ ?_
        rotate_left
        ·show Act.put _ (some 16) _ = _
         simp only [z_]
         rfl
        refine one_ (i := 5) (N := some 17) (bt 8 63) rfl rfl (one_of HT_.out (by kernel_rfl)) (by decide) (fun K hK => ?_)
        refine Kd.S_append_step k99 (w0 := w) w.heap.size (by rfl) (.tmp 13) (.tmp 16) 45 99 (.agg #[(.string ⟨#[]⟩), (.slice none 0 0)]) 40 rfl Try.underlying45 info99 rfl (by decide) (by omega) ah ag (⟨aw, ar⟩ : S99) [.string aw, .slice a3 ar.length a4] (fun k_ => k_ ≠ ad) (fun k_ => some k_ = (.slice a3 ar.length a4 : Value).ownBlock) rfl rfl ?aP (fun k_ hk_ => ((Kd.R_mono (ok' := fun k_ => ((fun k_ => k_ ≠ ad)) k_ ∧ some k_ ≠ (ah : Value).ownBlock) (Kd.R_types (Kd.R_apart' (au.out) (Kd.S_typed aa.out) (by decide)) af.out (by decide)) (fun k_ hk => ⟨hk.2, hk.1.2⟩))).1 k_ hk_.symm) ?aF ?aO ?aB ?aS ?aL ?_
        (case aP => exact k99_mkM _ _ _ (⟨aw, ar⟩ : S99) (Kd.R_mono (Kd.R_tight rfl (Kd.R_mono (ok' := fun k_ => ((fun k_ => k_ ≠ ad)) k_ ∧ some k_ ≠ (ah : Value).ownBlock) (Kd.R_types (Kd.R_apart' (au.out) (Kd.S_typed aa.out) (by decide)) af.out (by decide)) (fun k_ hk => ⟨hk.2, hk.1.2⟩))) (fun _ h_ => h_)))
        (case aB => exact (b_ HB))
        (case aF => exact (fun k_ hk => Kd.freshB (g := ad) (o := .cells #[.string ((rd_T99 l0_0 ab).f0), .slice ai ((rd_T99 l0_0 ab).f1).length aj] 99 (0, 0)) (h_ af) k_ hk))
        (case aO => exact (s2_ (Kd.S_mono aa.out (fun k_ hk => ⟨hk.1, fun e_ => hk.2 e_⟩))))
        (case aS => exact (bz_ (b_ HB)))
        (case aL => have := LMc10.out; omega)
        intro bM bE ho hb hg hat
        rw [← ba.out] at ho
        replace ae := mk0 (blk_grown (g := aC) (o := .cells #[.slice (some aN) l0_0.length c0_0] 47 (0, 0)) (h_ ae) hg (Kd.S_ne aa.out ae.out (by decide)))
        replace ac := mk0 (blk_grown (g := am) (o := .cells #[ah] 47 (0, 0)) (h_ ac) hg (Kd.S_ne aa.out ac.out (by decide)))
        replace af := mk0 (blk_grown (g := ad) (o := .cells #[.string ((rd_T99 l0_0 ab).f0), .slice ai ((rd_T99 l0_0 ab).f1).length aj] 99 (0, 0)) (h_ af) hg (Kd.S_away aa.out (fun _ hk => hk.1)))
        replace HB := mk0 (hb)
        have aT := mk0 (ho)
        clear aa au
        clear ho hb hg hat
        obtain ⟨a6, a7, a8⟩ := Kd.S_slice aT.out
        (first | subst a8 | (injection a8 with f1_ f2_ f3_; have f4_ := f1_.symm; have f5_ := f3_.symm; clear f1_ f2_ f3_; subst f4_; subst f5_))
        refine hK.out _ _ ⟨bk_ ac 0, bk_ af 0, bk_ af 1⟩ (fun hHeld => ?_)
        clear hK K
        refine norm_ (a' := ?_) ?_ ?_
        rotate_left
        ·show Act.put _ (some 17) _ = _
         simp only [z_]
         rfl
        refine pq_ HT_.out 6 18 (bt 8 127) (h := ?_)
        refine last_ (i := 7) (N := none) (bt 8 255) rfl rfl (one_of HT_.out (by kernel_rfl)) (by decide) (fun K hK => ?_)
        have hs21 : bE.cell? ⟨am, 0, none⟩ = some (ah) := bk_ ac 0
        have hfs21 := blk_frozen ac.out 0
        have bm := ak.out
        have bn := aq.out
        have bo := an.out
        have bp := al.out
        refine skip_ (w1 := ?_) (by rfl) rfl ?_ ?_
        rotate_left
        ·go_simp
         rfl
        refine hK.out _ _ ?_
        clear hK K
        refine done_ (done_of HT_.out (by kernel_rfl)) ?_
        try go_wp2
        go_roundg k1
        case measure => have := bc.out; omega
        case rel => exact ⟨(wrap64 (ab + 1)), (aE), (.slice a6 aE.length a7), sm_, H', ⟨by have := bc.out; omega⟩, ⟨by (with_reducible repeat (first | apply Kd.S_alloc | apply Kd.S_drewN | apply Kd.S_drew)); exact Kd.S_mono (Kd.S_far (p := ⟨am, 0, none⟩) (Kd.S_types aT.out ac.out (by decide)) (fun _ hk => hk.2) (.slice a6 aE.length a7)) (fun _ hk => trivial)⟩, ⟨(fa_ (h_ ae) ak.out)⟩, ⟨(pu_ (cs := #[ah]) (h_ ac))⟩, ⟨b_ HB⟩⟩
       ·rw [if_neg aZ] at H
        exact absurd H (by simp)
      ·rw [if_neg c8] at H
       exact absurd H (by simp)
     ·rw [if_neg c7] at H
      exact absurd H (by simp)
    ·rw [if_neg c6] at H
     have bd := decide_eq_false c6
     clear c6
     obtain rfl := Option.some.inj H
     have bF := an.out
     have bG := ak.out
     obtain ⟨bq, br⟩ := c1_ ac
     obtain ⟨aU, aV, bs⟩ := Kd.S_slice aa.out
     subst bs
     go_wp2
     refine bodyPost_ret (results_cell_row rfl _ _ am 47 #[.slice aU ag.length aV] (0, 0) _ rfl (pu_ (cs := #[.slice aU ag.length aV]) (h_ ac)) Try.underlying47 rfl (by kernel_rfl)) rfl ?_
     exact ⟨_, sa_, by (with_reducible repeat (first | apply Kd.S_alloc | apply Kd.S_drewN | apply Kd.S_drew)); exact Kd.S_mono (Kd.S_far (p := ⟨am, 0, none⟩) (Kd.S_types aa.out ac.out (by decide)) (fun _ hk => hk.2) (.slice aU ag.length aV)) (fun _ hk => trivial), b_ HB⟩
-- NOT PRINTED: function 203 (api_Version_203)
-- NOT PRINTED: function 207 (api_Version_207)
-- NOT PRINTED: function 204 (api_Version_204)
/-! ### api_Version_195: function 195 (by hand) -/
open HCopy in
set_option maxHeartbeats 2000000 in
set_option maxRecDepth 100000 in
/-- There is room, and the place is not the end. -/
theorem api_Version_195.room (g cap n i : Nat) (cur : Array Value) (inner xs : List Value) (g2 c2 : Nat) (cur2 : Array Value) (w : World)
    (hg : w.heap[g]? = some (.cells cur 72 (0, 0))) (hg2 : w.heap[g2]? = some (.cells cur2 72 (0, 0))) (hne : g2 ≠ g) (hi : i < n) (hroom : n + 1 ≤ cap) (hcm : cap ≤ maxLen)
    (hsz : cur.size = cap * 3) (hin : cur.toList.take (n * 3) = inner) (hsz2 : 3 ≤ cur2.size) (hin2 : cur2.toList.take 3 = xs) (h1 : ∀ v ∈ inner, v.oneCell' = true) (h2 : ∀ v ∈ xs, v.oneCell' = true) :
    Calls Try.prog 195 #[.slice (some ⟨g, 0, none⟩) n cap, .int .i64 i, .slice (some ⟨g2, 0, none⟩) 1 c2] w fun e w' =>
      ∃ cur' : Array Value, e = .returned (.slice (some ⟨g, 0, none⟩) (n + 1) cap) ∧ w' = w.drew.setRow g cur' ∧ cur'.size = cap * 3 ∧ cur'.toList.take ((n + 1) * 3) = inner.take (i * 3) ++ xs ++ inner.drop (i * 3) := by
  have hlen : inner.length = n * 3 := by rw [← hin, List.length_take, Array.length_toList, hsz]; omega
  have hxl : xs.length = 3 := by rw [← hin2, List.length_take, Array.length_toList]; omega
  have hmx : cap ≤ 9223372036854775807 := by unfold maxLen at hcm; omega
  have hu := Try.underlying97
  have hs : (Try.prog.info? 72).map (·.size) = some 3 := by
    have h := info72
    cases hq : Try.prog.info? 72 with
    | none => rw [hq] at h; simp at h
    | some i => rw [hq] at h; simp at h; simp [h.2.1]
  have hdl : (inner.drop (i * 3)).length = (n - i) * 3 := by rw [List.length_drop, hlen, Nat.sub_mul]
  -- the first copy
  obtain ⟨cur1, hcur1⟩ : ∃ c : Array Value, c = (cur.toList.take ((i + 1) * 3) ++ inner.drop (i * 3) ++ cur.toList.drop ((i + 1) * 3 + (inner.drop (i * 3)).length)).toArray := ⟨_, rfl⟩
  have hcp1 : ∀ ty dc sc, (Builtin.copy_ #[97, 97] ty #[.slice (some ⟨g, (i + 1) * 3, none⟩) (n - i) dc, .slice (some ⟨g, i * 3, none⟩) (n + 1 - i) sc]).run Try.prog w.drew = .ok (goInt (n - i : Nat)) (w.drew.setRow g cur1) := fun ty dc sc => by
    rw [hcur1]
    refine run_copy_k w.drew 97 97 ty 72 g ((i + 1) * 3) (n - i) dc ⟨g, i * 3, none⟩ (n + 1 - i) sc cur 72 (inner.drop (i * 3)) 3 (n - i) hu hs hg (by show _ = min _ _; omega) hdl (fun j v hj => ?_) (by rw [hdl, hsz]; omega) (fun v hv => h1 v (List.mem_of_mem_drop hv))
    rw [List.getElem?_drop, ← hin] at hj
    have hjl : i * 3 + j < n * 3 := by
      rcases Nat.lt_or_ge (i * 3 + j) (n * 3) with h | h
      · exact h
      · rw [List.getElem?_eq_none (by rw [List.length_take]; omega)] at hj; cases hj
    rw [List.getElem?_take_of_lt hjl] at hj
    rw [Addr.add_lit]
    exact (cell_of_row w g _ cur 72 (0, 0) hg).trans (by rw [← hj]; simp)
  have hsz1 : cur1.size = cap * 3 := by
    rw [hcur1]
    simp only [List.size_toArray, List.length_append, List.length_take, List.length_drop, Array.length_toList, hlen, hsz]
    omega
  have hW1 : (w.drew.setRow g cur1).heap[g]? = some (.cells cur1 72 (0, 0)) := setRow_heap w.drew g cur _ 72 _ hg
  have hW2 : (w.drew.setRow g cur1).heap[g2]? = some (.cells cur2 72 (0, 0)) := (setRow_other w.drew g g2 cur1 hne).trans hg2
  obtain ⟨W1, hW⟩ : ∃ W1, W1 = w.drew.setRow g cur1 := ⟨_, rfl⟩
  obtain ⟨cur', hcur'⟩ : ∃ c : Array Value, c = (cur1.toList.take (i * 3) ++ xs ++ cur1.toList.drop (i * 3 + xs.length)).toArray := ⟨_, rfl⟩
  have hcp2 : ∀ ty dc sc, (Builtin.copy_ #[97, 97] ty #[.slice (some ⟨g, i * 3, none⟩) (n + 1 - i) dc, .slice (some ⟨g2, 0, none⟩) 1 sc]).run Try.prog W1 = .ok (goInt (1 : Nat)) (W1.setRow g cur') := fun ty dc sc => by
    rw [hcur', hW]
    refine run_copy_k _ 97 97 ty 72 g (i * 3) (n + 1 - i) dc ⟨g2, 0, none⟩ 1 sc cur1 72 xs 3 1 hu hs hW1 (by show _ = min _ _; omega) (by rw [hxl]) (fun j v hj => ?_) (by rw [hxl, hsz1]; omega) h2
    rw [← hin2] at hj
    have hjl : j < 3 := by
      rcases Nat.lt_or_ge j 3 with h | h
      · exact h
      · rw [List.getElem?_eq_none (by rw [List.length_take]; omega)] at hj; cases hj
    rw [List.getElem?_take_of_lt hjl] at hj
    rw [Addr.add_lit]
    exact (cell_of_row _ g2 _ cur2 72 (0, 0) hW2).trans (by rw [← hj]; simp)
  have hov : ∀ lb cb, (callFunc 203 #[.slice (some ⟨g2, 0, none⟩) 1 c2, .slice (some ⟨g, (i + 1) * 3, none⟩) lb cb]).run Try.prog w = .ok (.value (.bool false)) w := fun lb cb => by
    rw [run_callFunc_extern Try.func203 (by kernel_rfl) (by kernel_rfl) (by kernel_rfl) (e := Extern.SlicesOverlaps.overlaps #[97, 97] #[4]) (by kernel_rfl),
      Lib.run_overlaps_apart w 97 4 72 hu 3 (fun w => by kernel_rfl) ⟨g2, 0, none⟩ ⟨g, (i + 1) * 3, none⟩ 1 c2 lb cb hne 72 72 cur2.size cur.size (by simp [World.shape?, hg2]) (by simp [World.shape?, hg]) (by omega) (by simp [World.frozen?, hg2]) (by simp [World.frozen?, hg2])]
    rfl
  have hfin : cur'.size = cap * 3 ∧ cur'.toList.take ((n + 1) * 3) = inner.take (i * 3) ++ xs ++ inner.drop (i * 3) := by
    constructor
    · rw [hcur']
      simp only [List.size_toArray, List.length_append, List.length_take, List.length_drop, Array.length_toList, hxl, hsz1]
      omega
    · have e1 : cur1.toList.take (i * 3) = inner.take (i * 3) := by
        rw [hcur1, ← hin]
        simp only [List.append_assoc]
        rw [List.take_append_of_le_length (by rw [List.length_take, Array.length_toList, hsz]; omega), List.take_take, List.take_take]
        congr 1
        omega
      have e2 : (cur1.toList.drop (i * 3 + 3)).take ((n - i) * 3) = inner.drop (i * 3) := by
        have h3 : (cur.toList.take ((i + 1) * 3)).length = i * 3 + 3 := by rw [List.length_take, Array.length_toList, hsz]; omega
        rw [hcur1]
        simp only [List.append_assoc]
        rw [← h3, List.drop_left, ← hdl, List.take_left]
      rw [hcur']
      simp only [List.append_assoc]
      have h4 : (cur1.toList.take (i * 3)).length = i * 3 := by rw [List.length_take, Array.length_toList, hsz1]; omega
      have e3 : (n + 1) * 3 = (cur1.toList.take (i * 3)).length + (xs.length + (n - i) * 3) := by rw [h4, hxl]; omega
      rw [e3, List.take_length_add_append, List.take_length_add_append, hxl, e2, e1]
  have HF := Aside0.mk hfin
  have HE := Aside0.mk (show W1.setRow g cur' = w.drew.setRow g cur' by rw [hW, setRow_setRow])
  rw [← hW] at hcp1
  clear hfin hcur' hW hW1 hW2 hsz1 hcur1 hdl hlen hxl hsz hin hsz2 hin2 h1 h2 hg hg2 hcm
  have hin' : (i : Int) ≤ (n : Int) + 1 := by omega
  have hb1 : ¬ ((i : Int) = (n : Int)) := by omega
  have hb2 : ¬ ((n : Int) + 1 > (cap : Int)) := by omega
  have hb7 : (0 : Int) ≤ (i : Int) + 1 := by omega
  have hb8 : i ≤ n := by omega
  have hb9 : i ≤ n + 1 := by omega
  have hb4 : ¬ (cap = i) := by omega
  have hb5 : ¬ (cap = i + 1) := by omega
  have hw1 : IntKind.i64.wrap ((i : Int) + 1) = (i : Int) + 1 := by rw [IntKind.wrap_i64]; omega
  have htn : ((i : Int) + 1).toNat = i + 1 := by omega
  go_enter Try.func195, Try.ntmps195
  go_wp2_with (simp only [hov])
  go_region_law (refine step_copy_run rfl _ _ 97 97 rfl _ _ (by simp [Act.eval, Act.put]) (by simp [Act.eval, Act.put]) (hcp1 _ _ _) ?_)
  go_wp2_with (at_builtin; refine wpList_copy_run _ rfl _ _ 97 97 rfl _ _ rfl rfl (hcp2 _ _ _) ?_)
  go_ret
  exact ⟨cur', rfl, HE.out, HF.out.1, HF.out.2⟩
open HCopy in
set_option maxHeartbeats 2000000 in
set_option maxRecDepth 100000 in
/-- There is no room, and the place is not the end: a new row. -/
theorem api_Version_195.grow (g cap n i : Nat) (cur : Array Value) (inner xs : List Value) (g2 c2 : Nat) (cur2 : Array Value) (w : World)
    (hg : w.heap[g]? = some (.cells cur 72 (0, 0))) (hg2 : w.heap[g2]? = some (.cells cur2 72 (0, 0))) (hi : i < n) (hnc : n ≤ cap) (hroom : cap < n + 1) (hbig : n + 1 < 4398046511104)
    (hsz : cur.size = cap * 3) (hin : cur.toList.take (n * 3) = inner) (hsz2 : 3 ≤ cur2.size) (hin2 : cur2.toList.take 3 = xs) (h1 : ∀ v ∈ inner, v.oneCell' = true) (h2 : ∀ v ∈ xs, v.oneCell' = true) :
    Calls Try.prog 195 #[.slice (some ⟨g, 0, none⟩) n cap, .int .i64 i, .slice (some ⟨g2, 0, none⟩) 1 c2] w fun e w' =>
      ∃ (cap' : Nat) (cur' : Array Value), e = .returned (.slice (some ⟨w.heap.size, 0, none⟩) (n + 1) cap') ∧ n + 1 ≤ cap' ∧ cap' ≤ maxLen ∧ w'.heap[w.heap.size]? = some (.cells cur' 72 (0, 0)) ∧ Below w.heap.size w w' ∧ cur'.size = cap' * 3 ∧ cur'.toList.take ((n + 1) * 3) = inner.take (i * 3) ++ xs ++ inner.drop (i * 3) := by
  have hlen : inner.length = n * 3 := by rw [← hin, List.length_take, Array.length_toList, hsz]; omega
  have hxl : xs.length = 3 := by rw [← hin2, List.length_take, Array.length_toList]; omega
  have hu := Try.underlying97
  have hs : (Try.prog.info? 72).map (·.size) = some 3 := by
    have h := info72
    cases hq : Try.prog.info? 72 with
    | none => rw [hq] at h; simp at h
    | some i => rw [hq] at h; simp at h; simp [h.2.1]
  have hdl : (inner.drop (i * 3)).length = (n - i) * 3 := by rw [List.length_drop, hlen, Nat.sub_mul]
  have hgl : g < w.heap.size := blk_lt hg
  have hg2l : g2 < w.heap.size := blk_lt hg2
  obtain ⟨i0, hi0, hzz⟩ := Option.map_eq_some_iff.1 info72
  simp only [Prod.mk.injEq] at hzz
  obtain ⟨cap', hc1, hc2, happ⟩ := run_append_zeros_grow (P := Try.prog) w 97 3 97 72 i0 _ 3 32 hu Try.underlying3 hi0 hzz.1 hzz.2.1 hzz.2.2 (by rfl) (by omega) (by omega) g i cap cur hg (by rw [hsz]; omega) .i64 (n + 1 - i) (by omega) (by omega) (by omega)
  rw [show i + (n + 1 - i) = n + 1 by omega] at happ
  obtain ⟨cur0, hcur0⟩ : ∃ c : Array Value, c = ((cur.toList.take (i * 3)).toArray ++ Builtin.zeroCells ((.agg #[(.int .i64 0), (.string ⟨#[]⟩), (.bool false)]) : Value).cells (n + 1 - i) ++ Builtin.zeroCells ((.agg #[(.int .i64 0), (.string ⟨#[]⟩), (.bool false)]) : Value).cells (cap' - (i + (n + 1 - i)))) := ⟨_, rfl⟩
  have hsz0 : cur0.size = cap' * 3 := by
    rw [hcur0]
    simp only [Array.size_append, List.size_toArray, List.length_take, Array.length_toList, hsz, size_zeroCells, Value.cells, List.length_cons, List.length_nil]
    omega
  have ht0 : cur0.toList.take (i * 3) = inner.take (i * 3) := by
    rw [hcur0, ← hin]
    simp only [Array.toList_append, List.append_assoc]
    rw [List.take_append_of_le_length (by rw [List.length_take, Array.length_toList, hsz]; omega), List.take_take, List.take_take]
    congr 1
    omega
  rw [show cap' - (n + 1) = cap' - (i + (n + 1 - i)) by omega, ← hcur0] at happ
  obtain ⟨W0, hW0⟩ : ∃ W0, W0 = w.drew.alloc (.cells cur0 72) := ⟨_, rfl⟩
  have hB0 : Below w.heap.size w W0 := by rw [hW0]; exact below_alloc (below_drew (Below.refl _ _)) _
  have hh0 : W0.heap[w.heap.size]? = some (.cells cur0 72 (0, 0)) := by rw [hW0]; exact heap_alloc_new w.drew _
  have hg0 : W0.heap[g]? = some (.cells cur 72 (0, 0)) := (hB0.block g hgl).trans hg
  have hg20 : W0.heap[g2]? = some (.cells cur2 72 (0, 0)) := (hB0.block g2 hg2l).trans hg2
  -- the first copy: v
  obtain ⟨cur1, hcur1⟩ : ∃ c : Array Value, c = (cur0.toList.take (i * 3) ++ xs ++ cur0.toList.drop (i * 3 + xs.length)).toArray := ⟨_, rfl⟩
  have hcp1 : ∀ ty dc sc, (Builtin.copy_ #[97, 97] ty #[.slice (some ⟨w.heap.size, i * 3, none⟩) (n + 1 - i) dc, .slice (some ⟨g2, 0, none⟩) 1 sc]).run Try.prog W0 = .ok (goInt (1 : Nat)) (W0.setRow w.heap.size cur1) := fun ty dc sc => by
    rw [hcur1]
    refine run_copy_k _ 97 97 ty 72 w.heap.size (i * 3) (n + 1 - i) dc ⟨g2, 0, none⟩ 1 sc cur0 72 xs 3 1 hu hs hh0 (by show _ = min _ _; omega) (by rw [hxl]) (fun j v hj => ?_) (by rw [hxl, hsz0]; omega) h2
    rw [← hin2] at hj
    have hjl : j < 3 := by
      rcases Nat.lt_or_ge j 3 with h | h
      · exact h
      · rw [List.getElem?_eq_none (by rw [List.length_take]; omega)] at hj; cases hj
    rw [List.getElem?_take_of_lt hjl] at hj
    rw [Addr.add_lit]
    exact (cell_of_row _ g2 _ cur2 72 (0, 0) hg20).trans (by rw [← hj]; simp)
  have hsz1 : cur1.size = cap' * 3 := by
    rw [hcur1]
    simp only [List.size_toArray, List.length_append, List.length_take, List.length_drop, Array.length_toList, hxl, hsz0]
    omega
  obtain ⟨W1, hW1⟩ : ∃ W1, W1 = W0.setRow w.heap.size cur1 := ⟨_, rfl⟩
  have hB1 : Below w.heap.size w W1 := by rw [hW1]; exact below_setRow hB0 (Nat.le_refl _) _
  have hh1 : W1.heap[w.heap.size]? = some (.cells cur1 72 (0, 0)) := by rw [hW1]; exact setRow_heap W0 _ cur0 _ 72 _ hh0
  have hg1 : W1.heap[g]? = some (.cells cur 72 (0, 0)) := (hB1.block g hgl).trans hg
  rw [← hW1] at hcp1
  -- the second one: what stood from i on
  obtain ⟨cur', hcur'⟩ : ∃ c : Array Value, c = (cur1.toList.take ((i + 1) * 3) ++ inner.drop (i * 3) ++ cur1.toList.drop ((i + 1) * 3 + (inner.drop (i * 3)).length)).toArray := ⟨_, rfl⟩
  have hcp2 : ∀ ty dc sc, (Builtin.copy_ #[97, 97] ty #[.slice (some ⟨w.heap.size, (i + 1) * 3, none⟩) (n - i) dc, .slice (some ⟨g, i * 3, none⟩) (n - i) sc]).run Try.prog W1.drew = .ok (goInt (n - i : Nat)) (W1.drew.setRow w.heap.size cur') := fun ty dc sc => by
    rw [hcur']
    refine run_copy_k W1.drew 97 97 ty 72 w.heap.size ((i + 1) * 3) (n - i) dc ⟨g, i * 3, none⟩ (n - i) sc cur1 72 (inner.drop (i * 3)) 3 (n - i) hu hs hh1 (by show _ = min _ _; omega) hdl (fun j v hj => ?_) (by rw [hdl, hsz1]; omega) (fun v hv => h1 v (List.mem_of_mem_drop hv))
    rw [List.getElem?_drop, ← hin] at hj
    have hjl : i * 3 + j < n * 3 := by
      rcases Nat.lt_or_ge (i * 3 + j) (n * 3) with h | h
      · exact h
      · rw [List.getElem?_eq_none (by rw [List.length_take]; omega)] at hj; cases hj
    rw [List.getElem?_take_of_lt hjl] at hj
    rw [Addr.add_lit]
    exact (cell_of_row W1.drew g _ cur 72 (0, 0) hg1).trans (by rw [← hj]; simp)
  have hsz' : cur'.size = cap' * 3 := by
    rw [hcur']
    simp only [List.size_toArray, List.length_append, List.length_take, List.length_drop, Array.length_toList, hlen, hsz1]
    omega
  have hfin : cur'.toList.take ((n + 1) * 3) = inner.take (i * 3) ++ xs ++ inner.drop (i * 3) := by
    have h4 : (cur1.toList.take ((i + 1) * 3)) = inner.take (i * 3) ++ xs := by
      have h5 : (cur0.toList.take (i * 3)).length = i * 3 := by rw [List.length_take, Array.length_toList, hsz0]; omega
      rw [hcur1]
      simp only [List.append_assoc]
      rw [show (i + 1) * 3 = (cur0.toList.take (i * 3)).length + xs.length by rw [h5, hxl]; omega, List.take_length_add_append, List.take_left, ht0]
    have h6 : (inner.take (i * 3) ++ xs).length = (i + 1) * 3 := by rw [List.length_append, List.length_take, hlen, hxl]; omega
    rw [hcur', h4]
    simp only [List.append_assoc]
    rw [← List.append_assoc, show (n + 1) * 3 = (inner.take (i * 3) ++ xs).length + (inner.drop (i * 3)).length by rw [h6, hdl]; omega, List.take_length_add_append, List.take_left, List.append_assoc]
  obtain ⟨W2, hW2⟩ : ∃ W2, W2 = W1.drew.setRow w.heap.size cur' := ⟨_, rfl⟩
  have HF := Aside0.mk (show W2.heap[w.heap.size]? = some (.cells cur' 72 (0, 0)) ∧ Below w.heap.size w W2 ∧ cur'.size = cap' * 3 ∧ cur'.toList.take ((n + 1) * 3) = inner.take (i * 3) ++ xs ++ inner.drop (i * 3) from
    ⟨by rw [hW2]; exact setRow_heap W1.drew _ cur1 _ 72 _ hh1, by rw [hW2]; exact below_setRow (below_drew hB1) (Nat.le_refl _) _, hsz', hfin⟩)
  have HC := Aside0.mk (And.intro hc1 hc2)
  rw [← hW2] at hcp2
  rw [← hW0] at happ
  have hcx : cap ≤ 9223372036854775807 := by omega
  have hcy : cap' ≤ 9223372036854775807 := by unfold maxLen at hc2; omega
  have hcz : i + 1 ≤ cap' := by omega
  clear hfin hcur' hW0 hW1 hW2 hsz1 hcur1 hdl hlen hxl hsz hin hsz2 hin2 h1 h2 hg hg2 hc2 hB0 hh0 hg0 hg20 hB1 hh1 hg1 hsz' hsz0 ht0 hcur0 hi0 hzz
  have hin' : (i : Int) ≤ (n : Int) + 1 := by omega
  have hb1 : ¬ ((i : Int) = (n : Int)) := by omega
  have hb7 : (0 : Int) ≤ (i : Int) + 1 := by omega
  have hb8 : i ≤ n := by omega
  have hb9 : i ≤ n + 1 := by omega
  have hb4 : ¬ (cap = i) := by omega
  have hz3 : (cap : Int) < (n : Int) + 1 := by omega
  have hic : i ≤ cap := by omega
  have hb5 : ¬ (cap' = i) := by omega
  have hb6 : ¬ (cap' = i + 1) := by omega
  have hsub : (n : Int) + 1 - (i : Int) = ((n + 1 - i : Nat) : Int) := by omega
  have hw1 : IntKind.i64.wrap ((i : Int) + 1) = (i : Int) + 1 := by rw [IntKind.wrap_i64]; omega
  have htn : ((i : Int) + 1).toNat = i + 1 := by omega
  go_enter Try.func195, Try.ntmps195
  go_wp2_with (first
    | (at_builtin; refine wpList_append_run _ rfl _ _ 97 3 rfl _ _ rfl rfl _ _ happ ?_)
    | (at_builtin; refine wpList_copy_run _ rfl _ _ 97 97 rfl _ _ rfl rfl (hcp1 _ _ _) ?_)
    | (at_builtin; refine wpList_copy_run _ rfl _ _ 97 97 rfl _ _ rfl rfl (hcp2 _ _ _) ?_))
  go_region_law (refine step_copy_run rfl _ _ 97 97 rfl _ _ (by simp [Act.eval, Act.put]) (by simp [Act.eval, Act.put]) (hcp2 _ _ _) ?_)
  go_wp2
  go_ret
  exact ⟨cap', cur', rfl, by have := HC.out.1; omega, HC.out.2, HF.out.1, HF.out.2.1, HF.out.2.2.1, HF.out.2.2.2⟩
def api_Version_195.f (l0 : List (S72)) (a1 : Int) (l2 : List (S72)) : Option (List (S72)) := if l2.length = 1 ∧ 0 ≤ a1 ∧ a1 ≤ l0.length ∧ l0.length + 1 < 4398046511104 then some (l0.take a1.toNat ++ l2 ++ l0.drop a1.toNat) else none
theorem api_Version_195.one {w : World} {base : Nat} {ok : Nat → Prop} {l : List (S72)} {cs : List Value} (h : Reps (k72.M w base ok) 3 l cs) : ∀ u ∈ cs, u.oneCell' = true := by
  intro u hu
  obtain ⟨q, hq, rfl⟩ := List.mem_iff_getElem.1 hu
  have hql : q / 3 < l.length := by
    have := h.1
    omega
  have hc := h.2 (q / 3) _ (List.getElem?_eq_getElem hql)
  refine k72.K_one (k72.K_of_M hc) _ ?_
  rw [List.mem_iff_getElem?]
  refine ⟨q % 3, ?_⟩
  rw [List.getElem?_take, if_pos (Nat.mod_lt _ (by omega)), List.getElem?_drop, Nat.mul_comm, Nat.div_add_mod, List.getElem?_eq_getElem hq]
open HCopy in
theorem api_Version_195.reps {w w' : World} {base base' : Nat} {ok ok' : Nat → Prop} {l l2 : List (S72)} {cs ds : List Value} (i : Nat) (hi : i ≤ l.length) (h : Reps (k72.M w base ok) 3 l cs) (h2 : Reps (k72.M w' base' ok') 3 l2 ds) (hb : base' ≤ base) :
    Reps (k72.M w' base' (fun _ => True)) 3 (l.take i ++ l2 ++ l.drop i) (cs.take (i * 3) ++ ds ++ cs.drop (i * 3)) :=
  Reps.append (Reps.append ((Reps.take h i hi).imp_ fun _ _ hm => flat_move rfl hb hm) (h2.imp_ fun _ _ hm => flat_move rfl (Nat.le_refl _) hm)) ((Reps.drop h i).imp_ fun _ _ hm => flat_move rfl hb hm)
open HCopy in
set_option maxHeartbeats 2000000 in
set_option maxRecDepth 100000 in
/-- The place is the end. -/
theorem api_Version_195.last (P0_ : Nat → Prop) (u9000_ : Value) (l0 : List (S72)) (P2_ : Nat → Prop) (u9001_ : Value) (x : (S72)) (w0 w : World) (hB : Below w0.heap.size w0 w) (ho0 : Kd.R k72 72 w w0.heap.size P0_ u9000_ l0) (ho2 : Kd.R k72 72 w w0.heap.size P2_ u9001_ [x]) (hlim : l0.length + 1 < 4398046511104) :
    Calls Try.prog 195 #[u9000_, .int .i64 l0.length, u9001_] w fun e w' => ∃ v0_, e = .returned v0_ ∧ Kd.R k72 72 w' w0.heap.size (fun k_ => ((P0_ k_ ∨ P2_ k_) ∨ w.heap.size ≤ k_)) v0_ (l0 ++ [x]) ∧ Below w0.heap.size w0 w' ∧ Kept w w' (fun k_ => P0_ k_ ∨ P2_ k_) := by
  obtain ⟨A2, c2, rfl, hc2, hC2⟩ := Kd.R_reads ho2
  obtain ⟨A0, c0, hu0, hc0, hC0⟩ := Kd.R_reads ho0
  obtain ⟨ad2, rfl, _⟩ := hC2.2.2 (by simp)
  have hoK : Kd.R k72 72 w w0.heap.size (fun k_ => ((P0_ k_ ∨ P2_ k_) ∨ w.heap.size ≤ k_)) u9000_ l0 := Kd.R_mono ho0 (fun k hk => .inl (.inl hk))
  have hP0 := Aside0.mk ho0.1
  have HO := Aside0.mk hoK
  have HC := Aside0.mk hC2
  have HBB := Aside0.mk hB
  have hlen : l0.length ≤ c0 := hc0
  clear ho0 ho2 hC0 hC2 hoK hB
  subst hu0
  go_enter Try.func195, Try.ntmps195
  go_wp2_with (at_builtin; (refine Kd.R_append_rows k72 (w0 := w0) w0.heap.size rfl _ _ 97 72 ((.agg #[(.int .i64 0), (.string ⟨#[]⟩), (.bool false)])) 32 rfl Try.underlying97 info72 rfl (by decide) (by omega) _ l0 [x] _ _ _ (fun k_ => ((P0_ k_ ∨ P2_ k_) ∨ w.heap.size ≤ k_)) (fun _ => False) rfl rfl HO.out HC.out (fun _ _ h => h) (fun _ h => h.elim) (fun k hk => .inr hk) HBB.out HBB.out.size (by show (l0.length + 1) * 32 ≤ 140737488355328; omega) ?_); intro v1 w1 ho hb hg hat)
  all_goals go_ret
  all_goals exact ⟨_, rfl, ho, hb, Kept.of_grown hg (Kept.refl _ _) (fun k hk => .inl (.inl (hP0.out k hk)))⟩
open HCopy in
theorem api_Version_195.calls (P0_ : Nat → Prop) (u9000_ : Value) (l0 : List (S72)) (a1 : Int) (P2_ : Nat → Prop) (u9001_ : Value) (l2 : List (S72)) (r : List (S72)) (w0 w : World) (hB : Below w0.heap.size w0 w) (ho0 : Kd.R k72 72 w w0.heap.size P0_ u9000_ l0) (hp0_2 : ∀ k_, P0_ k_ → ¬ P2_ k_) (ho2 : Kd.R k72 72 w w0.heap.size P2_ u9001_ l2) (hp2_0 : ∀ k_, P2_ k_ → ¬ P0_ k_) (h : api_Version_195.f l0 a1 l2 = some r) :
    Calls Try.prog 195 #[u9000_, .int .i64 a1, u9001_] w fun e w' => ∃ v0_, e = .returned v0_ ∧ Kd.R k72 72 w' w0.heap.size (fun k_ => ((P0_ k_ ∨ P2_ k_) ∨ w.heap.size ≤ k_)) v0_ r ∧ Below w0.heap.size w0 w' ∧ Kept w w' (fun k_ => P0_ k_ ∨ P2_ k_) := by
  unfold api_Version_195.f at h
  split at h
  case isFalse => cases h
  case isTrue hc =>
    obtain ⟨hl1, hi0, hil, hlim⟩ := hc
    obtain rfl := Option.some.inj h
    obtain ⟨i, rfl⟩ : ∃ i : Nat, a1 = (i : Int) := ⟨a1.toNat, by omega⟩
    obtain ⟨x, rfl⟩ := List.length_eq_one_iff.1 hl1
    clear h
    rw [Int.toNat_natCast]
    by_cases hin : i < l0.length
    · obtain ⟨hok2, inner2, ⟨hlen2, hcase2⟩, hr2⟩ := ho2
      rcases hcase2 with ⟨_, hn⟩ | ⟨g2, c2, cur2, rfl, hbg2, hg2, aa, hcm2, hsz2, ht2⟩
      · simp at hn
      obtain ⟨hok, inner, ⟨hlen, hcase⟩, hr⟩ := ho0
      rcases hcase with ⟨_, hn⟩ | ⟨g, cap, cur, rfl, hbg, hg, hnc, hcm, hsz, ht⟩
      · omega
      have hP0 : P0_ g := hok g (by simp [Value.ownBlock])
      have hP2 : P2_ g2 := hok2 g2 (by simp [Value.ownBlock])
      have hne : g2 ≠ g := fun e => hp0_2 g hP0 (e ▸ hP2)
      have hbw := hB.size
      have hR := fun (w' : World) => api_Version_195.reps (w' := w') (base' := w0.heap.size) (ok' := fun _ => True) i (by omega) hr (hr2.imp_ fun _ _ hm => flat_move (w1 := w') (base1 := w0.heap.size) (ok1 := fun _ => True) rfl (Nat.le_refl _) hm) (Nat.le_refl _)
      by_cases hroom : l0.length + 1 ≤ cap
      · refine (api_Version_195.room g cap l0.length i cur inner inner2 g2 c2 cur2 w hg hg2 hne hin hroom hcm hsz ht (by show 3 ≤ _; have : k72.sz = 3 := rfl; rw [this] at hsz2; have : 1 ≤ c2 := aa; omega) ht2 (api_Version_195.one hr) (api_Version_195.one hr2)).mono ?_
        rintro e w' ⟨cur', rfl, rfl, hs', ht'⟩
        refine ⟨_, rfl, ?_, ?_, ?_⟩
        · exact row_R k72 rfl (Nat.le_refl _) (setRow_heap w.drew g cur _ 72 _ hg) hbg (by simp; omega) hroom hcm hs' ht' (hR w) (.inl (.inl hP0))
        · exact below_setRow (below_drew hB) hbg _
        · exact ⟨by simp [World.setRow], fun k hk hn => setRow_other w.drew g k cur' (fun e => hn (.inl (e ▸ hP0)))⟩
      · refine (api_Version_195.grow g cap l0.length i cur inner inner2 g2 c2 cur2 w hg hg2 hin hnc (by omega) hlim hsz ht (by show 3 ≤ _; have : k72.sz = 3 := rfl; rw [this] at hsz2; have : 1 ≤ c2 := aa; omega) ht2 (api_Version_195.one hr) (api_Version_195.one hr2)).mono ?_
        rintro e w' ⟨cap', cur', rfl, hc1, hc2', hh, hbb, hs', ht'⟩
        refine ⟨_, rfl, ?_, ?_, ?_⟩
        · exact row_R k72 rfl (Nat.le_refl _) hh hbw (by simp; omega) hc1 hc2' hs' ht' (hR w) (.inr (Nat.le_refl _))
        · exact hB.trans (hbb.mono hbw)
        · exact Kept.of_below hbb _
    · obtain rfl : i = l0.length := by omega
      rw [List.take_length, List.drop_length, List.append_nil]
      exact api_Version_195.last P0_ u9000_ l0 P2_ u9001_ x w0 w hB ho0 ho2 hlim
end Go.Proofs.Ytbaecdcfefmcgaa.PTbe
