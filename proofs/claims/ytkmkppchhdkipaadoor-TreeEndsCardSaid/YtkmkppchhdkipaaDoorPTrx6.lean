-- PRINTED by print.py (a twelfth state) out of the translation. Not trusted: Lean checks it.
import Derived.Test.YtkmkppchhdkipaaDoorPTrx0
import Derived.Test.YtkmkppchhdkipaaDoorPTrx1
import Derived.Test.YtkmkppchhdkipaaDoorPTrx3
import Derived.Test.YtkmkppchhdkipaaDoorPTrx33
import Derived.Test.YtkmkppchhdkipaaDoorPTrx44
import Derived.Test.YtkmkppchhdkipaaDoorPTrx4
import Derived.Test.YtkmkppchhdkipaaDoorPTrx5
namespace Go.Proofs.YtkmkppchhdkipaaDoor.PTr
open Go.RowKit Go.Proofs.YtkmkppchhdkipaaDoorW.PrintWords Go.Proofs.YtkmkppchhdkipaaDoorW.PrintLast Go.Proofs.YtkmkppchhdkipaaDoorW.PrintMore
attribute [local go_sem] max2_int min2_int max_two min_two max_three min_three max_four min_four   -- for this text's walks alone
set_option linter.unusedVariables false
set_option linter.unusedSimpArgs false

/-! ### quorumlaw6_each: function 17 -/
mutual
noncomputable def quorumlaw6_each.l0 : Nat → Int → Int → Int → List (S85) → Int → List Int → Option (Bool)
 | 0, _, _, _, _, _, _ => none
 | k + 1, x2, x7, x10, x278000, x278001, x278002 => if x10 < x7 then ((quorumlaw6_way_at.f x2 x10 x7).bind fun t278 => ((quorumlaw6_digits.f k (wrap64 (100 + t278))).bind fun t279 => (if 1 + t279.size ≤ 9223372036854775807 then ((tree_Cut.f k x278000 x278001 x278002 ((⟨#[107]⟩ : ByteArray) ++ t279)).bind fun bt280 => ((quorumref6_Tree.f bt280.1 bt280.2.1 bt280.2.2.1).bind fun bt289 => ((quorumlaw6_num.f bt280.2.2.2).bind fun t294 => (if t294 = 0 then (if bt289.2.2 = true then (quorumlaw6_each.j1 k x2 x7 x10 ((bt289.1.length : Int) != (wrap64 ((wrap64 (x7 - 1)) - x10))) bt280.1 bt280.2.1 bt280.2.2.1) else (quorumlaw6_each.j1 k x2 x7 x10 true bt280.1 bt280.2.1 bt280.2.2.1)) else (quorumlaw6_each.j1 k x2 x7 x10 true bt280.1 bt280.2.1 bt280.2.2.1))))) else (none)))) else ((quorumlaw6_wakes.f k).bind fun t295 => (some t295))
noncomputable def quorumlaw6_each.j1 : Nat → Int → Int → Int → Bool → List (S85) → Int → List Int → Option (Bool)
 | 0, _, _, _, _, _, _, _ => none
 | k + 1, x2, x7, x10, x67, x289000, x289001, x289002 => if x67 = true then (some false) else (quorumlaw6_each.l0 k x2 x7 (wrap64 (x10 + 1)) x289000 x289001 x289002)
end
noncomputable def quorumlaw6_each.f (k : Nat) (l0_0 : List (S85)) (a0_1 : Int) (l0_2 : List Int) (l0_3 : List (S70)) (a1 : Int) (a2 : Int) : Option (Bool) := (quorumlaw0_Within.f (l0_3.length : Int) 40).bind fun t268 => ((quorumlaw6_grown.f k (wrap64 (5 + t268)) a1).bind fun bt269 => (if bt269.2.2.2 = true then (quorumlaw6_each.l0 k a2 (wrap64 (5 + t268)) 0 bt269.1 bt269.2.1 bt269.2.2.1) else (some false)))
theorem quorumlaw6_each.mono_l : ∀ k, (∀ y0 y1 y2 y3 y4 y5, LeO (quorumlaw6_each.l0 k y0 y1 y2 y3 y4 y5) (quorumlaw6_each.l0 (k + 1) y0 y1 y2 y3 y4 y5)) ∧ (∀ y0 y1 y2 y3 y4 y5 y6, LeO (quorumlaw6_each.j1 k y0 y1 y2 y3 y4 y5 y6) (quorumlaw6_each.j1 (k + 1) y0 y1 y2 y3 y4 y5 y6))
 | 0 => ⟨fun _ _ _ _ _ _ r h => by simp [quorumlaw6_each.l0] at h, fun _ _ _ _ _ _ _ r h => by simp [quorumlaw6_each.j1] at h⟩
 | k + 1 => by
  obtain ⟨ih0, ih1⟩ := quorumlaw6_each.mono_l k
  refine ⟨?_, ?_⟩
  ·intro y0 y1 y2 y3 y4 y5
   unfold quorumlaw6_each.l0
   repeat' first
   | (with_reducible exact ih0 _ _ _ _ _ _)
   | (with_reducible exact ih1 _ _ _ _ _ _ _)
   | (with_reducible exact quorumlaw6_digits.mono _ _)
   | (with_reducible exact quorumlaw6_grown.mono _ _ _)
   | (with_reducible exact quorumlaw6_wakes.mono _)
   | (with_reducible exact tree_Cut.mono _ _ _ _ _)
   | (with_reducible exact LeO.refl _)
   | (with_reducible exact LeO.none _)
   | (with_reducible refine LeO.ite ?_ ?_)
   | (with_reducible refine LeO.bind ?_ (fun _ => ?_))
   | exact ih0 _ _ _ _ _ _
   | exact ih1 _ _ _ _ _ _ _
   | exact quorumlaw6_digits.mono _ _
   | exact quorumlaw6_grown.mono _ _ _
   | exact quorumlaw6_wakes.mono _
   | exact tree_Cut.mono _ _ _ _ _
   | exact LeO.none _
   | refine LeO.ite ?_ ?_
   | refine LeO.bind ?_ (fun _ => ?_)
  ·intro y0 y1 y2 y3 y4 y5 y6
   unfold quorumlaw6_each.j1
   repeat' first
   | (with_reducible exact ih0 _ _ _ _ _ _)
   | (with_reducible exact ih1 _ _ _ _ _ _ _)
   | (with_reducible exact quorumlaw6_digits.mono _ _)
   | (with_reducible exact quorumlaw6_grown.mono _ _ _)
   | (with_reducible exact quorumlaw6_wakes.mono _)
   | (with_reducible exact tree_Cut.mono _ _ _ _ _)
   | (with_reducible exact LeO.refl _)
   | (with_reducible exact LeO.none _)
   | (with_reducible refine LeO.ite ?_ ?_)
   | (with_reducible refine LeO.bind ?_ (fun _ => ?_))
   | exact ih0 _ _ _ _ _ _
   | exact ih1 _ _ _ _ _ _ _
   | exact quorumlaw6_digits.mono _ _
   | exact quorumlaw6_grown.mono _ _ _
   | exact quorumlaw6_wakes.mono _
   | exact tree_Cut.mono _ _ _ _ _
   | exact LeO.none _
   | refine LeO.ite ?_ ?_
   | refine LeO.bind ?_ (fun _ => ?_)
theorem quorumlaw6_each.mono : ∀ a0 a1 a2 a3 a4 a5 k, LeO (quorumlaw6_each.f k a0 a1 a2 a3 a4 a5) (quorumlaw6_each.f (k + 1) a0 a1 a2 a3 a4 a5) := by
 intro a0 a1 a2 a3 a4 a5 k
 obtain ⟨ih0, ih1⟩ := quorumlaw6_each.mono_l k
 unfold quorumlaw6_each.f
 repeat' first
   | (with_reducible exact ih0 _ _ _ _ _ _)
   | (with_reducible exact ih1 _ _ _ _ _ _ _)
   | (with_reducible exact quorumlaw6_digits.mono _ _)
   | (with_reducible exact quorumlaw6_grown.mono _ _ _)
   | (with_reducible exact quorumlaw6_wakes.mono _)
   | (with_reducible exact tree_Cut.mono _ _ _ _ _)
   | (with_reducible exact LeO.refl _)
   | (with_reducible exact LeO.none _)
   | (with_reducible refine LeO.ite ?_ ?_)
   | (with_reducible refine LeO.bind ?_ (fun _ => ?_))
   | exact ih0 _ _ _ _ _ _
   | exact ih1 _ _ _ _ _ _ _
   | exact quorumlaw6_digits.mono _ _
   | exact quorumlaw6_grown.mono _ _ _
   | exact quorumlaw6_wakes.mono _
   | exact tree_Cut.mono _ _ _ _ _
   | exact LeO.none _
   | refine LeO.ite ?_ ?_
   | refine LeO.bind ?_ (fun _ => ?_)
noncomputable def quorumlaw6_each.T8 : Bool × List (List Nat × List Nat) := (true, [([], []), ([], []), ([], []), ([], []), ([1, 2, 3], [1, 2, 3]), ([4], [4]), ([5, 4], [5]), ([6], [6]), ([0, 7, 6], [0, 7]), ([8], [8]), ([9], [9]), ([9], [9]), ([], []), ([12, 10, 8, 0, 1, 2, 3, 4, 5, 6, 7, 8, 9, 10, 12], [10, 12]), ([11, 13, 0, 1, 2, 3, 4, 5, 6, 7, 8, 9, 10, 11, 12, 13], [11])])
noncomputable def quorumlaw6_each.B8 : List Nat := [0, 0, 0, 0, 14, 30, 62, 126, 255, 511, 1023, 1023, 0, 6143, 16383]
theorem quorumlaw6_each.tab8 : rtab .any (opsOf Tryd.f17 8) = quorumlaw6_each.T8 := by kernel_rfl
theorem quorumlaw6_each.bits8 : waitsOk quorumlaw6_each.T8.2 quorumlaw6_each.B8 = true := by kernel_rfl
set_option maxHeartbeats 8000000 in
set_option maxRecDepth 100000 in
theorem quorumlaw6_each.calls (k : Nat) (A0_0 : Option Addr) (c0_0 : Nat) (l0_0 : List (S85)) (a0_1 : Int) (A0_2 : Option Addr) (c0_2 : Nat) (l0_2 : List Int) (A0_3 : Option Addr) (c0_3 : Nat) (l0_3 : List (S70)) (a1 : Int) (a2 : Int) (r : Bool) (w : World) (hr0_0 : Kd.C k85 w A0_0 l0_0.length l0_0) (hc0_0 : l0_0.length ≤ c0_0) (hr0_2 : Kd.C (Kd.int .i64) w A0_2 l0_2.length l0_2) (hc0_2 : l0_2.length ≤ c0_2) (hr0_3 : Kd.C k70 w A0_3 l0_3.length l0_3) (hc0_3 : l0_3.length ≤ c0_3) (h : quorumlaw6_each.f k l0_0 a0_1 l0_2 l0_3 a1 a2 = some r) :
  Calls Tryd.prog 17 #[.agg #[.slice A0_0 l0_0.length c0_0, .int .i64 a0_1, .slice A0_2 l0_2.length c0_2, .slice A0_3 l0_3.length c0_3], .int .i64 a1, .int .i64 a2] w fun e w' => e = .returned (.bool r) ∧ Below w.heap.size w w' := by
 have hu28 := Tryd.underlying28
 have hu25 := Tryd.underlying25
 have HR0_0 := mk0 hr0_0
 have HC0_0 := mk0 hc0_0
 clear hr0_0 hc0_0
 have HR0_2 := mk0 hr0_2
 have HC0_2 := mk0 hc0_2
 clear hr0_2 hc0_2
 have HR0_3 := mk0 hr0_3
 have HC0_3 := mk0 hc0_3
 clear hr0_3 hc0_3
 have HB := mk0 (Below.refl w.heap.size w)
 have H : ((quorumlaw0_Within.f (l0_3.length : Int) 40).bind fun t268 => ((quorumlaw6_grown.f k (wrap64 (5 + t268)) a1).bind fun bt269 => (if bt269.2.2.2 = true then (quorumlaw6_each.l0 k a2 (wrap64 (5 + t268)) 0 bt269.1 bt269.2.1 bt269.2.2.1) else (some false)))) = some r := h
 clear h
 replace H := Option.bind_eq_some_iff.mp H
 obtain ⟨t268, A40, H⟩ := H
 try dsimp only at H
 have A4 := mk0 A40
 clear A40
 replace H := Option.bind_eq_some_iff.mp H
 obtain ⟨⟨t269, t272, t273, t276⟩, A50, H⟩ := H
 try dsimp only at H
 have A5 := mk0 A50
 clear A50
 by_cases c6 : t276 = true
 ·subst c6
  rw [if_pos rfl] at H
  have H' := mk0 H
  clear H
  go_enter Tryd.func17, Tryd.ntmps17
  go_wp2_with (first | ((with_reducible refine gate_dst (N := 3) rfl ?_); (try (refine gate_guard (by rfl) ?_; dsimp only)); refine bx_ (N := 3) (cs := #[.slice A0_0 l0_0.length c0_0, .int .i64 a0_1, .slice A0_2 l0_2.length c0_2, .slice A0_3 l0_3.length c0_3]) (t := 28) (h := ?_); intro gb267 hg w7 hbox hb; have n2_ := mk0 (gz_ HB hg); have n3_ := mk0 (gz_ HB hg); replace HB := mk0 (bt_ (b_ HB) hb); have BK267 := mk0 (hbox); have GW267 := n2_; have GE267 := n3_; clear n2_ n3_ hb hbox hg; obtain ⟨hcz8_0, hcz8_1, hcz8_2, hcz8_3, hfz8_0, hfz8_1, hfz8_2, hfz8_3⟩ := c4_ BK267) | ((with_reducible refine gate_callee (f := 19) rfl ?_); refine gL_ (some 19) Tryd.func19 #[.int .i64 (l0_3.length : Int), .int .i64 40] (h := ?_); (with_reducible refine (quorumlaw0_Within.calls (l0_3.length : Int) 40 t268 _ A4.out).mono ?_); rintro e w' ⟨rfl, ⟨nd, rfl⟩⟩; refine ⟨_, rfl, ?_⟩; (try (rw [drewN_self w7]; generalize hq_ : World.drewN w7 _ = w7; have n0_ : Fc (w7.heap[gb267]? = some (.cells #[.slice A0_0 l0_0.length c0_0, .int .i64 a0_1, .slice A0_2 l0_2.length c0_2, .slice A0_3 l0_3.length c0_3] 28 (0, 0))) := ⟨by rw [← hq_]; exact (h_ BK267)⟩; have n1_ : Fc (Below w.heap.size w w7) := ⟨by rw [← hq_]; exact (b_ HB)⟩; clear BK267 HB hq_; have BK267 := n0_; have HB := n1_; clear n0_ n1_))) | ((with_reducible refine gate_callee (f := 46) rfl ?_); refine gL_ (some 24) Tryd.func46 #[.int .i64 (wrap64 (5 + t268)), .int .i64 a1] (h := ?_); (with_reducible refine (quorumlaw6_grown.calls k (wrap64 (5 + t268)) a1 t269 t272 t273 true _ A5.out).mono ?_); rintro e w9 ⟨v270, v274, rfl, ho0, ho1, hb⟩; refine ⟨_, rfl, ?_⟩; have n0_ := mk0 (Kd.S_lower ho0 (bz_ (b_ HB))); have n1_ := mk0 (Kd.R_lower ho1 (bz_ (b_ HB))); replace BK267 := mk0 (u_ BK267 hb); replace HB := mk0 (bt_ (b_ HB) hb); have HO271 := n0_; have HO275 := n1_; clear n0_ n1_; (try clear hb); (try clear ho0); (try clear ho1)) | ((with_reducible refine gate_dst (N := 8) rfl ?_); (try (refine gate_guard (by rfl) ?_; dsimp only)); refine bx_ (N := 8) (cs := #[.slice none 0 0, .int .i64 0, .slice none 0 0]) (t := 25) (h := ?_); intro gb277 hg w10 hbox hb; have n5_ := mk0 (gz_ HB hg); have n6_ := mk0 (gz_ HB hg); have n7_ := mk0 (ne1_ BK267 hg); have n8_ := mk0 (ne2_ BK267 hg); replace HO271 := mk0 (Kd.S_below (s_ HO271) hb); replace HO275 := mk0 (Kd.R_below (r_ HO275) hb); replace BK267 := mk0 (u_ BK267 hb); replace HB := mk0 (bt_ (b_ HB) hb); have BK277 := mk0 (hbox); have GW277 := n5_; have GE277 := n6_; have NB267_277 := n7_; have NB277_267 := n8_; clear n5_ n6_ n7_ n8_ hb hbox hg; obtain ⟨Ao11, co11, eo11⟩ := Kd.S_slice HO271.out; subst eo11; have hnb12 := NB277_267.out; have hnc12 := NB267_277.out; obtain ⟨hcz13_0, hcz13_1, hcz13_2, hfz13_0, hfz13_1, hfz13_2⟩ := c3_ BK277; obtain ⟨Ao14, co14, eo14⟩ := Kd.R_slice HO275.out; subst eo14))
  go_loopg [10] k (fun kq v10 w' => ∃ (x10_1 : Int) (x278000_1 : List (S85)) (x278001_1 : Int) (x278002_1 : List Int) (u278000 : Value) (u278002 : Value), v10 = .int .i64 x10_1 ∧ Fc (quorumlaw6_each.l0 kq a2 (wrap64 (5 + t268)) x10_1 x278000_1 x278001_1 x278002_1 = some r) ∧ Fc (kq ≤ k) ∧ Fc (Kd.S k85 85 w' w.heap.size (fun k_ => some k_ ≠ (u278002 : Value).ownBlock) u278000 x278000_1) ∧ Fc (Kd.R (Kd.int .i64) 3 w' w.heap.size (fun _ => True) u278002 x278002_1) ∧ Fc (w'.heap[gb267]? = some (.cells #[(.slice A0_0 l0_0.length c0_0), .int .i64 a0_1, (.slice A0_2 l0_2.length c0_2), (.slice A0_3 l0_3.length c0_3)] 28 (0, 0))) ∧ Fc (w'.heap[gb277]? = some (.cells #[u278000, .int .i64 x278001_1, u278002] 25 (0, 0))) ∧ Fc (Below w.heap.size w w'))
  case atStart => exact ⟨(0), (t269), (t272), (t273), (.slice Ao11 t269.length co11), (.slice Ao14 t273.length co14), (by first | rfl | (simp; done) | (simp [*]; done)), H', ⟨Nat.le_refl _⟩, ⟨by (with_reducible repeat (first | apply Kd.S_alloc | apply Kd.S_drewN | apply Kd.S_drew)); exact Kd.S_mono (Kd.S_far (p := ⟨gb277, 2, none⟩) (Kd.S_far (p := ⟨gb277, 1, none⟩) (Kd.S_far (p := ⟨gb277, 0, none⟩) (Kd.S_types HO271.out BK277.out (by decide)) (fun _ hk => hk.2) (.slice Ao11 t269.length co11)) (fun _ hk => hk.2) (.int .i64 t272)) (fun _ hk => hk.2) (.slice Ao14 t273.length co14)) (fun _ hk => hk.1)⟩, ⟨by (with_reducible repeat (first | apply Ra_ | apply Rn_ | apply Rd_)); exact Kd.R_mono (Kd.R_far (p := ⟨gb277, 2, none⟩) (Kd.R_far (p := ⟨gb277, 1, none⟩) (Kd.R_far (p := ⟨gb277, 0, none⟩) (Kd.R_types HO275.out BK277.out (by decide)) (fun _ hk => hk.2) (.slice Ao11 t269.length co11)) (fun _ hk => hk.2) (.int .i64 t272)) (fun _ hk => hk.2) (.slice Ao14 t273.length co14)) (fun _ hk => trivial)⟩, ⟨(fa_ (fa_ (fa_ (h_ BK267) NB267_277.out) NB267_277.out) NB267_277.out)⟩, ⟨(pu_ (cs := #[.slice Ao11 t269.length co11, .int .i64 t272, .slice none 0 0]) (pu_ (cs := #[.slice Ao11 t269.length co11, .int .i64 0, .slice none 0 0]) (pu_ (cs := #[.slice none 0 0, .int .i64 0, .slice none 0 0]) (h_ BK277))))⟩, ⟨b_ HB⟩⟩
  case round =>
   clear H'
   try clear c6
   try clear hcz13_0
   try clear hcz13_1
   try clear hcz13_2
   try clear hcz8_0
   try clear hcz8_1
   try clear hcz8_2
   try clear hcz8_3
   try clear hfz13_0
   try clear hfz13_1
   try clear hfz13_2
   try clear hfz8_0
   try clear hfz8_1
   try clear hfz8_2
   try clear hfz8_3
   obtain ⟨x10_1, x278000_1, x278001_1, x278002_1, u278000, u278002, rfl, HA, HK1, HO_278000, HO_278002, BK267, BK277, HB⟩ := hrel
   cases gk with
   | zero => exact absurd HA.out (by simp [quorumlaw6_each.l0])
   | succ k1 =>
    have H := HA.out
    clear HA
    simp only [quorumlaw6_each.l0] at H
    as_aux_lemma =>
     by_cases c15 : x10_1 < (wrap64 (5 + t268))
     ·rw [if_pos c15] at H
      have c15b0 : decide (x10_1 < (wrap64 (5 + t268))) = true := decide_eq_true c15
      clear c15
      replace H := Option.bind_eq_some_iff.mp H
      obtain ⟨t278, A160, H⟩ := H
      try dsimp only at H
      have A16 := mk0 A160
      clear A160
      replace H := Option.bind_eq_some_iff.mp H
      obtain ⟨t279, A170, H⟩ := H
      try dsimp only at H
      have A17 := mk0 A170
      clear A170
      by_cases c18 : 1 + t279.size ≤ 9223372036854775807
      ·rw [if_pos c18] at H
       have c18b0 := eq_true c18
       have c18b1 : decide (1 + t279.size ≤ 9223372036854775807) = true := decide_eq_true c18
       try have c18b2 : (9223372036854775807 < 1 + t279.size) = False := eq_false (Nat.not_lt.2 c18)
       replace H := Option.bind_eq_some_iff.mp H
       obtain ⟨⟨t280, t283, t284, t287⟩, A190, H⟩ := H
       try dsimp only at H
       have A19 := mk0 A190
       clear A190
       replace H := Option.bind_eq_some_iff.mp H
       obtain ⟨⟨t289, t292, t293⟩, A200, H⟩ := H
       try dsimp only at H
       have A20 := mk0 A200
       clear A200
       have HC21 := mk0 H
       clear H
       obtain ⟨Ao22, co22, eo22⟩ := Kd.S_slice HO_278000.out
       subst eo22
       obtain ⟨Ao23, co23, eo23⟩ := Kd.R_slice HO_278002.out
       subst eo23
       try go_wp2
       replace HO_278000 := mk0 (Kd.S_drew HO_278000.out)
       replace HO_278002 := mk0 (Rd_ HO_278002.out)
       replace BK267 := mk0 (bD_ BK267.out)
       replace BK277 := mk0 (bD_ BK277.out)
       replace HB := mk0 (b1_ HB.out)
       refine start_ (n := 15) (S := fun w' => w'.cell? ⟨gb277, 0, none⟩ = some (.slice Ao22 x278000_1.length co22) ∧ w'.cell? ⟨gb277, 1, none⟩ = some (.int .i64 x278001_1) ∧ w'.cell? ⟨gb277, 2, none⟩ = some (.slice Ao23 x278002_1.length co23)) (ds := []) (bt 15 0) (by kernel_rfl) rfl rfl ⟨bk_ BK277 0, bk_ BK277 1, bk_ BK277 2⟩ (fun hHeld => ?_); refine with_tabW quorumlaw6_each.tab8 quorumlaw6_each.bits8 (fun HT_ HW_ => ?_)
       generalize wr.drew = w24 at HO_278000 HO_278002 BK267 BK277 HB hHeld ⊢
       refine pq_ HT_.out 1 36 (bt 15 2) (h := ?_)
       refine pq_ HT_.out 2 37 (bt 15 6) (h := ?_)
       refine pq_ HT_.out 3 38 (bt 15 14) (h := ?_)
       refine tq3_ HT_.out HW_.out 0 35 (bt 15 15) hHeld (h := ?_)
       refine join_ (σ := Value × Value × Nat) 2 (bt 15 8191) (fun s_ => [(39, .int .i64 t278), (41, .string t279), (43, .tuple #[.agg #[s_.1, .int .i64 t283, s_.2.1], .int .i64 t287]), (11, .pointer (some ⟨s_.2.2, 0, none⟩)), (40, .int .i64 (wrap64 (100 + t278))), (42, .string ((⟨#[107]⟩ : ByteArray) ++ t279)), (34, .tuple #[.agg #[s_.1, .int .i64 t283, s_.2.1], .int .i64 t287]), (44, .agg #[s_.1, .int .i64 t283, s_.2.1]), (45, .int .i64 t287)]) (fun s_ w' => (w'.cell? ⟨gb277, 0, none⟩ = some (.slice Ao22 x278000_1.length co22) ∧ w'.cell? ⟨gb277, 1, none⟩ = some (.int .i64 x278001_1) ∧ w'.cell? ⟨gb277, 2, none⟩ = some (.slice Ao23 x278002_1.length co23)) ∧ (Kd.S k85 85 w' w.heap.size (fun k_ => some k_ ≠ (s_.2.1 : Value).ownBlock ∧ some k_ ≠ (.slice Ao22 x278000_1.length co22 : Value).ownBlock ∧ some k_ ≠ (.slice Ao23 x278002_1.length co23 : Value).ownBlock) s_.1 t280) ∧ (Kd.R (Kd.int .i64) 3 w' w.heap.size (fun k_ => some k_ ≠ (.slice Ao23 x278002_1.length co23 : Value).ownBlock) s_.2.1 t284) ∧ (Kd.S k85 85 w' w.heap.size (fun k_ => some k_ ≠ (s_.1 : Value).ownBlock ∧ some k_ ≠ (s_.2.1 : Value).ownBlock ∧ some k_ ≠ (.slice Ao23 x278002_1.length co23 : Value).ownBlock) (.slice Ao22 x278000_1.length co22) x278000_1) ∧ (Kd.R (Kd.int .i64) 3 w' w.heap.size (fun k_ => some k_ ≠ (s_.2.1 : Value).ownBlock) (.slice Ao23 x278002_1.length co23) x278002_1) ∧ (w'.heap[gb267]? = some (.cells #[.slice A0_0 l0_0.length c0_0, .int .i64 a0_1, .slice A0_2 l0_2.length c0_2, .slice A0_3 l0_3.length c0_3] 28 (0, 0))) ∧ (w'.heap[gb277]? = some (.cells #[.slice Ao22 x278000_1.length co22, .int .i64 x278001_1, .slice Ao23 x278002_1.length co23] 25 (0, 0))) ∧ (w'.heap[s_.2.2]? = some (.cells #[.slice none 0 0, .int .i64 0, .slice none 0 0] 25 (0, 0))) ∧ (w.heap.size ≤ s_.2.2) ∧ (w.heap.size ≤ s_.2.2) ∧ (gb267 ≠ s_.2.2) ∧ (s_.2.2 ≠ gb267) ∧ (gb277 ≠ s_.2.2) ∧ (s_.2.2 ≠ gb277) ∧ (Below w.heap.size w w')) ?_ ?_
       rotate_left
       ·intro hCont
        refine two_ (i := 4) (j := 12) (Ni := some 39) (Nj := some 11) (bt 15 31) (bt 15 4111) rfl rfl rfl rfl (two_of HT_.out (by kernel_rfl)) (by decide) (by decide) (fun K hK => ?_) (fun K hK => ?_)
        ·skip
         refine goes_ Tryd.func47 (by kernel_rfl) rfl #[.int .i64 a2, .int .i64 x10_1, .int .i64 (wrap64 (5 + t268))] (by rfl) rfl rfl (by (try simp only [List.map_toArray, List.map_cons, List.map_nil]); first | done | rfl | (simp only [List.length_drop, List.length_take]; rfl)) ?_
         with_reducible refine (quorumlaw6_way_at.calls a2 x10_1 (wrap64 (5 + t268)) t278 _ A16.out).mono ?_
         rintro e w' ⟨rfl, ⟨nd, rfl⟩⟩
         refine ⟨_, rfl, ?_⟩
         refine hK.out _ _ ⟨bk_ BK277 0, bk_ BK277 1, bk_ BK277 2⟩ (fun hHeld => ?_)
         clear hK K
         refine norm_ (a' := ?_) ?_ ?_
         rotate_left
         ·show Act.put _ (some 39) _ = _
          simp only [z_]
          rfl
         refine pq_ HT_.out 5 40 (bt 15 63) (h := ?_)
         refine two_ (i := 6) (j := 12) (Ni := some 41) (Nj := some 11) (bt 15 127) (bt 15 4159) rfl rfl rfl rfl (two_of HT_.out (by kernel_rfl)) (by decide) (by decide) (fun K hK => ?_) (fun K hK => ?_)
         ·skip
          refine goes_ Tryd.func22 (by kernel_rfl) rfl #[.int .i64 (wrap64 (100 + t278))] (by rfl) rfl rfl (by (try simp only [List.map_toArray, List.map_cons, List.map_nil]); first | done | rfl | (simp only [List.length_drop, List.length_take]; rfl)) ?_
          with_reducible refine (quorumlaw6_digits.calls k1 (wrap64 (100 + t278)) t279 _ A17.out).mono ?_
          rintro e w25 ⟨rfl, hb⟩
          refine ⟨_, rfl, ?_⟩
          replace HO_278000 := mk0 (Kd.S_below (s_ HO_278000) hb)
          replace HO_278002 := mk0 (Kd.R_below (r_ HO_278002) hb)
          replace BK267 := mk0 (u_ BK267 hb)
          replace BK277 := mk0 (u_ BK277 hb)
          replace HB := mk0 (bt_ (b_ HB) hb)
          (try clear hb)
          (try clear hb2)
          (try clear hk)
          (try clear hi)
          refine hK.out _ _ ⟨bk_ BK277 0, bk_ BK277 1, bk_ BK277 2⟩ (fun hHeld => ?_)
          clear hK K
          refine norm_ (a' := ?_) ?_ ?_
          rotate_left
          ·show Act.put _ (some 41) _ = _
           simp only [z_]
           rfl
          refine pq_ HT_.out 7 42 (bt 15 255) (h := ?_)
          refine two_ (i := 8) (j := 12) (Ni := some 43) (Nj := some 11) (bt 15 511) (bt 15 4351) rfl rfl rfl rfl (two_of HT_.out (by kernel_rfl)) (by decide) (by decide) (fun K hK => ?_) (fun K hK => ?_)
          ·skip
           refine goes_ Tryd.func27 (by kernel_rfl) rfl #[.agg #[.slice Ao22 x278000_1.length co22, .int .i64 x278001_1, .slice Ao23 x278002_1.length co23], .string ((⟨#[107]⟩ : ByteArray) ++ t279)] (by rfl) rfl rfl (by (try simp only [List.map_toArray, List.map_cons, List.map_nil]); first | done | rfl | (simp only [List.length_drop, List.length_take]; rfl)) ?_
           with_reducible refine (tree_Cut.calls k1 _ _ x278000_1 x278001_1 _ _ x278002_1 ((⟨#[107]⟩ : ByteArray) ++ t279) t280 t283 t284 t287 _ ?side1 ?side2 ?side3 ?side4 A19.out).mono ?_
           (case side1 => repeat (first | exact (Kd.S_reads' HO_278000.out).2.2 | (with_reducible refine Kd.C_alloc ?_ _) | (with_reducible refine Kd.C_drewN ?_ _) | (with_reducible refine Kd.C_drew ?_)))
           (case side2 => exact (Kd.S_reads' HO_278000.out).2.1)
           (case side3 => exact cr_ HO_278002)
           (case side4 => exact (Kd.R_reads' HO_278002.out).2.1)
           rintro e w26 ⟨v281, v285, rfl, ho0, ho1, hb⟩
           refine ⟨_, rfl, ?_⟩
           have n2_ := mk0 (Kd.S_lower (Kd.S_new' (Kd.S_new' ho0 (Kd.S_lt (s_ HO_278000))) (Kd.R_lt (r_ HO_278002))) (bz_ (b_ HB)))
           have n3_ := mk0 (Kd.R_lower (Kd.R_new' ho1 (Kd.R_lt (r_ HO_278002))) (bz_ (b_ HB)))
           replace HO_278000 := mk0 (Kd.S_mono (Kd.S_told (Kd.S_told (Kd.S_old (s_ HO_278000) hb) (Kd.S_base ho0)) (Kd.R_base ho1)) (fun _ h_ => h_.1))
           replace HO_278002 := mk0 (Kd.R_elder' (r_ HO_278002) (Kd.R_base ho1) hb)
           replace BK267 := mk0 (u_ BK267 hb)
           replace BK277 := mk0 (u_ BK277 hb)
           replace HB := mk0 (bt_ (b_ HB) hb)
           have HO282 := n2_
           have HO286 := n3_
           clear n2_ n3_
           (try clear hb)
           (try clear hb2)
           (try clear hk)
           (try clear hi)
           (try clear ho0)
           (try clear ho1)
           refine hK.out _ _ ⟨bk_ BK277 0, bk_ BK277 1, bk_ BK277 2⟩ (fun hHeld => ?_)
           clear hK K
           refine norm_ (a' := ?_) ?_ ?_
           rotate_left
           ·show Act.put _ (some 43) _ = _
            simp only [z_]
            rfl
           refine pq_ HT_.out 9 34 (bt 15 1023) (h := ?_)
           refine pq_ HT_.out 10 44 (bt 15 2047) (h := ?_)
           refine pq_ HT_.out 11 45 (bt 15 4095) (h := ?_)
           refine one_ (i := 12) (N := some 11) (bt 15 8191) rfl rfl (one_of HT_.out (by kernel_rfl)) (by decide) (fun K hK => ?_)
           refine box_step ?hg (N := 11) ?hd (cs := #[.slice none 0 0, .int .i64 0, .slice none 0 0]) (t := 25) ?hr ?_; (case hd => rfl); (case hg => rfl); (case hr => first | (go_simp; done) | (go_simp; rfl))
           intro gb288 hg w27 hbox hb
           have n8_ := mk0 (gz_ HB hg)
           have n9_ := mk0 (gz_ HB hg)
           have n10_ := mk0 (ne1_ BK267 hg)
           have n11_ := mk0 (ne2_ BK267 hg)
           have n12_ := mk0 (ne1_ BK277 hg)
           have n13_ := mk0 (ne2_ BK277 hg)
           replace HO_278000 := mk0 (Kd.S_below (s_ HO_278000) hb)
           replace HO_278002 := mk0 (Kd.R_below (r_ HO_278002) hb)
           replace HO282 := mk0 (Kd.S_below (s_ HO282) hb)
           replace HO286 := mk0 (Kd.R_below (r_ HO286) hb)
           replace BK267 := mk0 (u_ BK267 hb)
           replace BK277 := mk0 (u_ BK277 hb)
           replace HB := mk0 (bt_ (b_ HB) hb)
           have BK288 := mk0 (hbox)
           have GW288 := n8_
           have GE288 := n9_
           have NB267_288 := n10_
           have NB288_267 := n11_
           have NB277_288 := n12_
           have NB288_277 := n13_
           clear n8_ n9_ n10_ n11_ n12_ n13_ hb hbox hg
           refine hK.out _ _ ⟨bk_ BK277 0, bk_ BK277 1, bk_ BK277 2⟩ (fun hHeld => ?_)
           clear hK K
           refine norm_ (a' := ?_) ?_ ?_
           rotate_left
           ·show Act.put _ (some 11) _ = _
            simp only [z_]
            rfl
           exact norm_ (by simp only [putAll, Act.put, List.setIfInBounds_toArray, List.set_cons_zero, List.set_cons_succ]) (hCont (v281, v285, gb288) _ ⟨hHeld, (s2_ (Kd.S_mono HO282.out (fun _ hk => ⟨hk.1.1, ⟨hk.1.2, hk.2⟩⟩))), (r2_ (Kd.R_mono HO286.out (fun _ hk => hk.2))), (s2_ (Kd.S_mono HO_278000.out (fun _ hk => ⟨hk.1.2, ⟨hk.2, hk.1.1⟩⟩))), (r2_ (Kd.R_mono HO_278002.out (fun _ hk => hk.2))), (h_ BK267), (h_ BK277), (h_ BK288), GW288.out, GE288.out, NB267_288.out, NB288_267.out, NB277_288.out, NB288_277.out, (b_ HB)⟩)
          ·skip
           refine box_step ?hg (N := 11) ?hd (cs := #[.slice none 0 0, .int .i64 0, .slice none 0 0]) (t := 25) ?hr ?_; (case hd => rfl); (case hg => rfl); (case hr => first | (go_simp; done) | (go_simp; rfl))
           intro gb288 hg w26 hbox hb
           have n6_ := mk0 (gz_ HB hg)
           have n7_ := mk0 (gz_ HB hg)
           have n8_ := mk0 (ne1_ BK267 hg)
           have n9_ := mk0 (ne2_ BK267 hg)
           have n10_ := mk0 (ne1_ BK277 hg)
           have n11_ := mk0 (ne2_ BK277 hg)
           replace HO_278000 := mk0 (Kd.S_below (s_ HO_278000) hb)
           replace HO_278002 := mk0 (Kd.R_below (r_ HO_278002) hb)
           replace BK267 := mk0 (u_ BK267 hb)
           replace BK277 := mk0 (u_ BK277 hb)
           replace HB := mk0 (bt_ (b_ HB) hb)
           have BK288 := mk0 (hbox)
           have GW288 := n6_
           have GE288 := n7_
           have NB267_288 := n8_
           have NB288_267 := n9_
           have NB277_288 := n10_
           have NB288_277 := n11_
           clear n6_ n7_ n8_ n9_ n10_ n11_ hb hbox hg
           refine hK.out _ _ ⟨bk_ BK277 0, bk_ BK277 1, bk_ BK277 2⟩ (fun hHeld => ?_)
           clear hK K
           refine norm_ (a' := ?_) ?_ ?_
           rotate_left
           ·show Act.put _ (some 11) _ = _
            simp only [z_]
            rfl
           refine one_ (i := 8) (N := some 43) (bt 15 4607) rfl rfl (one_of HT_.out (by kernel_rfl)) (by decide) (fun K hK => ?_)
           refine goes_ Tryd.func27 (by kernel_rfl) rfl #[.agg #[.slice Ao22 x278000_1.length co22, .int .i64 x278001_1, .slice Ao23 x278002_1.length co23], .string ((⟨#[107]⟩ : ByteArray) ++ t279)] (by rfl) rfl rfl (by (try simp only [List.map_toArray, List.map_cons, List.map_nil]); first | done | rfl | (simp only [List.length_drop, List.length_take]; rfl)) ?_
           with_reducible refine (tree_Cut.calls k1 _ _ x278000_1 x278001_1 _ _ x278002_1 ((⟨#[107]⟩ : ByteArray) ++ t279) t280 t283 t284 t287 _ ?side1 ?side2 ?side3 ?side4 A19.out).mono ?_
           (case side1 => repeat (first | exact (Kd.S_reads' HO_278000.out).2.2 | (with_reducible refine Kd.C_alloc ?_ _) | (with_reducible refine Kd.C_drewN ?_ _) | (with_reducible refine Kd.C_drew ?_)))
           (case side2 => exact (Kd.S_reads' HO_278000.out).2.1)
           (case side3 => exact cr_ HO_278002)
           (case side4 => exact (Kd.R_reads' HO_278002.out).2.1)
           rintro e w27 ⟨v281, v285, rfl, ho0, ho1, hb⟩
           refine ⟨_, rfl, ?_⟩
           have n2_ := mk0 (Kd.S_lower (Kd.S_new' (Kd.S_new' ho0 (Kd.S_lt (s_ HO_278000))) (Kd.R_lt (r_ HO_278002))) (bz_ (b_ HB)))
           have n3_ := mk0 (Kd.R_lower (Kd.R_new' ho1 (Kd.R_lt (r_ HO_278002))) (bz_ (b_ HB)))
           replace HO_278000 := mk0 (Kd.S_mono (Kd.S_told (Kd.S_told (Kd.S_old (s_ HO_278000) hb) (Kd.S_base ho0)) (Kd.R_base ho1)) (fun _ h_ => h_.1))
           replace HO_278002 := mk0 (Kd.R_elder' (r_ HO_278002) (Kd.R_base ho1) hb)
           replace BK267 := mk0 (u_ BK267 hb)
           replace BK277 := mk0 (u_ BK277 hb)
           replace BK288 := mk0 (u_ BK288 hb)
           replace HB := mk0 (bt_ (b_ HB) hb)
           have HO282 := n2_
           have HO286 := n3_
           clear n2_ n3_
           (try clear hb)
           (try clear hb2)
           (try clear hk)
           (try clear hi)
           (try clear ho0)
           (try clear ho1)
           refine hK.out _ _ ⟨bk_ BK277 0, bk_ BK277 1, bk_ BK277 2⟩ (fun hHeld => ?_)
           clear hK K
           refine norm_ (a' := ?_) ?_ ?_
           rotate_left
           ·show Act.put _ (some 43) _ = _
            simp only [z_]
            rfl
           refine pq_ HT_.out 9 34 (bt 15 5119) (h := ?_)
           refine pq_ HT_.out 10 44 (bt 15 6143) (h := ?_)
           refine pq_ HT_.out 11 45 (bt 15 8191) (h := ?_)
           exact norm_ (by simp only [putAll, Act.put, List.setIfInBounds_toArray, List.set_cons_zero, List.set_cons_succ]) (hCont (v281, v285, gb288) _ ⟨hHeld, (s2_ (Kd.S_mono HO282.out (fun _ hk => ⟨hk.1.1, ⟨hk.1.2, hk.2⟩⟩))), (r2_ (Kd.R_mono HO286.out (fun _ hk => hk.2))), (s2_ (Kd.S_mono HO_278000.out (fun _ hk => ⟨hk.1.2, ⟨hk.2, hk.1.1⟩⟩))), (r2_ (Kd.R_mono HO_278002.out (fun _ hk => hk.2))), (h_ BK267), (h_ BK277), (h_ BK288), GW288.out, GE288.out, NB267_288.out, NB288_267.out, NB277_288.out, NB288_277.out, (b_ HB)⟩)
         ·skip
          refine box_step ?hg (N := 11) ?hd (cs := #[.slice none 0 0, .int .i64 0, .slice none 0 0]) (t := 25) ?hr ?_; (case hd => rfl); (case hg => rfl); (case hr => first | (go_simp; done) | (go_simp; rfl))
          intro gb288 hg w25 hbox hb
          have n6_ := mk0 (gz_ HB hg)
          have n7_ := mk0 (gz_ HB hg)
          have n8_ := mk0 (ne1_ BK267 hg)
          have n9_ := mk0 (ne2_ BK267 hg)
          have n10_ := mk0 (ne1_ BK277 hg)
          have n11_ := mk0 (ne2_ BK277 hg)
          replace HO_278000 := mk0 (Kd.S_below (s_ HO_278000) hb)
          replace HO_278002 := mk0 (Kd.R_below (r_ HO_278002) hb)
          replace BK267 := mk0 (u_ BK267 hb)
          replace BK277 := mk0 (u_ BK277 hb)
          replace HB := mk0 (bt_ (b_ HB) hb)
          have BK288 := mk0 (hbox)
          have GW288 := n6_
          have GE288 := n7_
          have NB267_288 := n8_
          have NB288_267 := n9_
          have NB277_288 := n10_
          have NB288_277 := n11_
          clear n6_ n7_ n8_ n9_ n10_ n11_ hb hbox hg
          refine hK.out _ _ ⟨bk_ BK277 0, bk_ BK277 1, bk_ BK277 2⟩ (fun hHeld => ?_)
          clear hK K
          refine norm_ (a' := ?_) ?_ ?_
          rotate_left
          ·show Act.put _ (some 11) _ = _
           simp only [z_]
           rfl
          refine one_ (i := 6) (N := some 41) (bt 15 4223) rfl rfl (one_of HT_.out (by kernel_rfl)) (by decide) (fun K hK => ?_)
          refine goes_ Tryd.func22 (by kernel_rfl) rfl #[.int .i64 (wrap64 (100 + t278))] (by rfl) rfl rfl (by (try simp only [List.map_toArray, List.map_cons, List.map_nil]); first | done | rfl | (simp only [List.length_drop, List.length_take]; rfl)) ?_
          with_reducible refine (quorumlaw6_digits.calls k1 (wrap64 (100 + t278)) t279 _ A17.out).mono ?_
          rintro e w26 ⟨rfl, hb⟩
          refine ⟨_, rfl, ?_⟩
          replace HO_278000 := mk0 (Kd.S_below (s_ HO_278000) hb)
          replace HO_278002 := mk0 (Kd.R_below (r_ HO_278002) hb)
          replace BK267 := mk0 (u_ BK267 hb)
          replace BK277 := mk0 (u_ BK277 hb)
          replace BK288 := mk0 (u_ BK288 hb)
          replace HB := mk0 (bt_ (b_ HB) hb)
          (try clear hb)
          (try clear hb2)
          (try clear hk)
          (try clear hi)
          refine hK.out _ _ ⟨bk_ BK277 0, bk_ BK277 1, bk_ BK277 2⟩ (fun hHeld => ?_)
          clear hK K
          refine norm_ (a' := ?_) ?_ ?_
          rotate_left
          ·show Act.put _ (some 41) _ = _
           simp only [z_]
           rfl
          refine pq_ HT_.out 7 42 (bt 15 4351) (h := ?_)
          refine one_ (i := 8) (N := some 43) (bt 15 4607) rfl rfl (one_of HT_.out (by kernel_rfl)) (by decide) (fun K hK => ?_)
          refine goes_ Tryd.func27 (by kernel_rfl) rfl #[.agg #[.slice Ao22 x278000_1.length co22, .int .i64 x278001_1, .slice Ao23 x278002_1.length co23], .string ((⟨#[107]⟩ : ByteArray) ++ t279)] (by rfl) rfl rfl (by (try simp only [List.map_toArray, List.map_cons, List.map_nil]); first | done | rfl | (simp only [List.length_drop, List.length_take]; rfl)) ?_
          with_reducible refine (tree_Cut.calls k1 _ _ x278000_1 x278001_1 _ _ x278002_1 ((⟨#[107]⟩ : ByteArray) ++ t279) t280 t283 t284 t287 _ ?side1 ?side2 ?side3 ?side4 A19.out).mono ?_
          (case side1 => repeat (first | exact (Kd.S_reads' HO_278000.out).2.2 | (with_reducible refine Kd.C_alloc ?_ _) | (with_reducible refine Kd.C_drewN ?_ _) | (with_reducible refine Kd.C_drew ?_)))
          (case side2 => exact (Kd.S_reads' HO_278000.out).2.1)
          (case side3 => exact cr_ HO_278002)
          (case side4 => exact (Kd.R_reads' HO_278002.out).2.1)
          rintro e w27 ⟨v281, v285, rfl, ho0, ho1, hb⟩
          refine ⟨_, rfl, ?_⟩
          have n2_ := mk0 (Kd.S_lower (Kd.S_new' (Kd.S_new' ho0 (Kd.S_lt (s_ HO_278000))) (Kd.R_lt (r_ HO_278002))) (bz_ (b_ HB)))
          have n3_ := mk0 (Kd.R_lower (Kd.R_new' ho1 (Kd.R_lt (r_ HO_278002))) (bz_ (b_ HB)))
          replace HO_278000 := mk0 (Kd.S_mono (Kd.S_told (Kd.S_told (Kd.S_old (s_ HO_278000) hb) (Kd.S_base ho0)) (Kd.R_base ho1)) (fun _ h_ => h_.1))
          replace HO_278002 := mk0 (Kd.R_elder' (r_ HO_278002) (Kd.R_base ho1) hb)
          replace BK267 := mk0 (u_ BK267 hb)
          replace BK277 := mk0 (u_ BK277 hb)
          replace BK288 := mk0 (u_ BK288 hb)
          replace HB := mk0 (bt_ (b_ HB) hb)
          have HO282 := n2_
          have HO286 := n3_
          clear n2_ n3_
          (try clear hb)
          (try clear hb2)
          (try clear hk)
          (try clear hi)
          (try clear ho0)
          (try clear ho1)
          refine hK.out _ _ ⟨bk_ BK277 0, bk_ BK277 1, bk_ BK277 2⟩ (fun hHeld => ?_)
          clear hK K
          refine norm_ (a' := ?_) ?_ ?_
          rotate_left
          ·show Act.put _ (some 43) _ = _
           simp only [z_]
           rfl
          refine pq_ HT_.out 9 34 (bt 15 5119) (h := ?_)
          refine pq_ HT_.out 10 44 (bt 15 6143) (h := ?_)
          refine pq_ HT_.out 11 45 (bt 15 8191) (h := ?_)
          exact norm_ (by simp only [putAll, Act.put, List.setIfInBounds_toArray, List.set_cons_zero, List.set_cons_succ]) (hCont (v281, v285, gb288) _ ⟨hHeld, (s2_ (Kd.S_mono HO282.out (fun _ hk => ⟨hk.1.1, ⟨hk.1.2, hk.2⟩⟩))), (r2_ (Kd.R_mono HO286.out (fun _ hk => hk.2))), (s2_ (Kd.S_mono HO_278000.out (fun _ hk => ⟨hk.1.2, ⟨hk.2, hk.1.1⟩⟩))), (r2_ (Kd.R_mono HO_278002.out (fun _ hk => hk.2))), (h_ BK267), (h_ BK277), (h_ BK288), GW288.out, GE288.out, NB267_288.out, NB288_267.out, NB277_288.out, NB288_277.out, (b_ HB)⟩)
        ·skip
         refine box_step ?hg (N := 11) ?hd (cs := #[.slice none 0 0, .int .i64 0, .slice none 0 0]) (t := 25) ?hr ?_; (case hd => rfl); (case hg => rfl); (case hr => first | (go_simp; done) | (go_simp; rfl))
         intro gb288 hg w25 hbox hb
         have n6_ := mk0 (gz_ HB hg)
         have n7_ := mk0 (gz_ HB hg)
         have n8_ := mk0 (ne1_ BK267 hg)
         have n9_ := mk0 (ne2_ BK267 hg)
         have n10_ := mk0 (ne1_ BK277 hg)
         have n11_ := mk0 (ne2_ BK277 hg)
         replace HO_278000 := mk0 (Kd.S_below (s_ HO_278000) hb)
         replace HO_278002 := mk0 (Kd.R_below (r_ HO_278002) hb)
         replace BK267 := mk0 (u_ BK267 hb)
         replace BK277 := mk0 (u_ BK277 hb)
         replace HB := mk0 (bt_ (b_ HB) hb)
         have BK288 := mk0 (hbox)
         have GW288 := n6_
         have GE288 := n7_
         have NB267_288 := n8_
         have NB288_267 := n9_
         have NB277_288 := n10_
         have NB288_277 := n11_
         clear n6_ n7_ n8_ n9_ n10_ n11_ hb hbox hg
         refine hK.out _ _ ⟨bk_ BK277 0, bk_ BK277 1, bk_ BK277 2⟩ (fun hHeld => ?_)
         clear hK K
         refine norm_ (a' := ?_) ?_ ?_
         rotate_left
         ·show Act.put _ (some 11) _ = _
          simp only [z_]
          rfl
         refine one_ (i := 4) (N := some 39) (bt 15 4127) rfl rfl (one_of HT_.out (by kernel_rfl)) (by decide) (fun K hK => ?_)
         refine goes_ Tryd.func47 (by kernel_rfl) rfl #[.int .i64 a2, .int .i64 x10_1, .int .i64 (wrap64 (5 + t268))] (by rfl) rfl rfl (by (try simp only [List.map_toArray, List.map_cons, List.map_nil]); first | done | rfl | (simp only [List.length_drop, List.length_take]; rfl)) ?_
         with_reducible refine (quorumlaw6_way_at.calls a2 x10_1 (wrap64 (5 + t268)) t278 _ A16.out).mono ?_
         rintro e w' ⟨rfl, ⟨nd, rfl⟩⟩
         refine ⟨_, rfl, ?_⟩
         refine hK.out _ _ ⟨bk_ BK277 0, bk_ BK277 1, bk_ BK277 2⟩ (fun hHeld => ?_)
         clear hK K
         refine norm_ (a' := ?_) ?_ ?_
         rotate_left
         ·show Act.put _ (some 39) _ = _
          simp only [z_]
          rfl
         refine pq_ HT_.out 5 40 (bt 15 4159) (h := ?_)
         refine one_ (i := 6) (N := some 41) (bt 15 4223) rfl rfl (one_of HT_.out (by kernel_rfl)) (by decide) (fun K hK => ?_)
         refine goes_ Tryd.func22 (by kernel_rfl) rfl #[.int .i64 (wrap64 (100 + t278))] (by rfl) rfl rfl (by (try simp only [List.map_toArray, List.map_cons, List.map_nil]); first | done | rfl | (simp only [List.length_drop, List.length_take]; rfl)) ?_
         with_reducible refine (quorumlaw6_digits.calls k1 (wrap64 (100 + t278)) t279 _ A17.out).mono ?_
         rintro e w26 ⟨rfl, hb⟩
         refine ⟨_, rfl, ?_⟩
         replace HO_278000 := mk0 (Kd.S_below (s_ HO_278000) hb)
         replace HO_278002 := mk0 (Kd.R_below (r_ HO_278002) hb)
         replace BK267 := mk0 (u_ BK267 hb)
         replace BK277 := mk0 (u_ BK277 hb)
         replace BK288 := mk0 (u_ BK288 hb)
         replace HB := mk0 (bt_ (b_ HB) hb)
         (try clear hb)
         (try clear hb2)
         (try clear hk)
         (try clear hi)
         refine hK.out _ _ ⟨bk_ BK277 0, bk_ BK277 1, bk_ BK277 2⟩ (fun hHeld => ?_)
         clear hK K
         refine norm_ (a' := ?_) ?_ ?_
         rotate_left
         ·show Act.put _ (some 41) _ = _
          simp only [z_]
          rfl
         refine pq_ HT_.out 7 42 (bt 15 4351) (h := ?_)
         refine one_ (i := 8) (N := some 43) (bt 15 4607) rfl rfl (one_of HT_.out (by kernel_rfl)) (by decide) (fun K hK => ?_)
         refine goes_ Tryd.func27 (by kernel_rfl) rfl #[.agg #[.slice Ao22 x278000_1.length co22, .int .i64 x278001_1, .slice Ao23 x278002_1.length co23], .string ((⟨#[107]⟩ : ByteArray) ++ t279)] (by rfl) rfl rfl (by (try simp only [List.map_toArray, List.map_cons, List.map_nil]); first | done | rfl | (simp only [List.length_drop, List.length_take]; rfl)) ?_
         with_reducible refine (tree_Cut.calls k1 _ _ x278000_1 x278001_1 _ _ x278002_1 ((⟨#[107]⟩ : ByteArray) ++ t279) t280 t283 t284 t287 _ ?side1 ?side2 ?side3 ?side4 A19.out).mono ?_
         (case side1 => repeat (first | exact (Kd.S_reads' HO_278000.out).2.2 | (with_reducible refine Kd.C_alloc ?_ _) | (with_reducible refine Kd.C_drewN ?_ _) | (with_reducible refine Kd.C_drew ?_)))
         (case side2 => exact (Kd.S_reads' HO_278000.out).2.1)
         (case side3 => exact cr_ HO_278002)
         (case side4 => exact (Kd.R_reads' HO_278002.out).2.1)
         rintro e w27 ⟨v281, v285, rfl, ho0, ho1, hb⟩
         refine ⟨_, rfl, ?_⟩
         have n2_ := mk0 (Kd.S_lower (Kd.S_new' (Kd.S_new' ho0 (Kd.S_lt (s_ HO_278000))) (Kd.R_lt (r_ HO_278002))) (bz_ (b_ HB)))
         have n3_ := mk0 (Kd.R_lower (Kd.R_new' ho1 (Kd.R_lt (r_ HO_278002))) (bz_ (b_ HB)))
         replace HO_278000 := mk0 (Kd.S_mono (Kd.S_told (Kd.S_told (Kd.S_old (s_ HO_278000) hb) (Kd.S_base ho0)) (Kd.R_base ho1)) (fun _ h_ => h_.1))
         replace HO_278002 := mk0 (Kd.R_elder' (r_ HO_278002) (Kd.R_base ho1) hb)
         replace BK267 := mk0 (u_ BK267 hb)
         replace BK277 := mk0 (u_ BK277 hb)
         replace BK288 := mk0 (u_ BK288 hb)
         replace HB := mk0 (bt_ (b_ HB) hb)
         have HO282 := n2_
         have HO286 := n3_
         clear n2_ n3_
         (try clear hb)
         (try clear hb2)
         (try clear hk)
         (try clear hi)
         (try clear ho0)
         (try clear ho1)
         refine hK.out _ _ ⟨bk_ BK277 0, bk_ BK277 1, bk_ BK277 2⟩ (fun hHeld => ?_)
         clear hK K
         refine norm_ (a' := ?_) ?_ ?_
         rotate_left
         ·show Act.put _ (some 43) _ = _
          simp only [z_]
          rfl
         refine pq_ HT_.out 9 34 (bt 15 5119) (h := ?_)
         refine pq_ HT_.out 10 44 (bt 15 6143) (h := ?_)
         refine pq_ HT_.out 11 45 (bt 15 8191) (h := ?_)
         exact norm_ (by simp only [putAll, Act.put, List.setIfInBounds_toArray, List.set_cons_zero, List.set_cons_succ]) (hCont (v281, v285, gb288) _ ⟨hHeld, (s2_ (Kd.S_mono HO282.out (fun _ hk => ⟨hk.1.1, ⟨hk.1.2, hk.2⟩⟩))), (r2_ (Kd.R_mono HO286.out (fun _ hk => hk.2))), (s2_ (Kd.S_mono HO_278000.out (fun _ hk => ⟨hk.1.2, ⟨hk.2, hk.1.1⟩⟩))), (r2_ (Kd.R_mono HO_278002.out (fun _ hk => hk.2))), (h_ BK267), (h_ BK277), (h_ BK288), GW288.out, GE288.out, NB267_288.out, NB288_267.out, NB277_288.out, NB288_277.out, (b_ HB)⟩)
       rintro ⟨v281, v285, gb288⟩ w28 ⟨hS_, h0_, h1_, h2_, h3_, h4_, h5_, h6_, h7_, h8_, h9_, h10_, h11_, h12_, h13_⟩
       have n0_ : Fc (Kd.S k85 85 w28 w.heap.size (fun k_ => some k_ ≠ (v285 : Value).ownBlock ∧ some k_ ≠ (.slice Ao22 x278000_1.length co22 : Value).ownBlock ∧ some k_ ≠ (.slice Ao23 x278002_1.length co23 : Value).ownBlock) v281 t280) := ⟨h0_⟩
       have n1_ : Fc (Kd.R (Kd.int .i64) 3 w28 w.heap.size (fun k_ => some k_ ≠ (.slice Ao23 x278002_1.length co23 : Value).ownBlock) v285 t284) := ⟨h1_⟩
       have n2_ : Fc (Kd.S k85 85 w28 w.heap.size (fun k_ => some k_ ≠ (v281 : Value).ownBlock ∧ some k_ ≠ (v285 : Value).ownBlock ∧ some k_ ≠ (.slice Ao23 x278002_1.length co23 : Value).ownBlock) (.slice Ao22 x278000_1.length co22) x278000_1) := ⟨h2_⟩
       have n3_ : Fc (Kd.R (Kd.int .i64) 3 w28 w.heap.size (fun k_ => some k_ ≠ (v285 : Value).ownBlock) (.slice Ao23 x278002_1.length co23) x278002_1) := ⟨h3_⟩
       have n4_ : Fc (w28.heap[gb267]? = some (.cells #[.slice A0_0 l0_0.length c0_0, .int .i64 a0_1, .slice A0_2 l0_2.length c0_2, .slice A0_3 l0_3.length c0_3] 28 (0, 0))) := ⟨h4_⟩
       have n5_ : Fc (w28.heap[gb277]? = some (.cells #[.slice Ao22 x278000_1.length co22, .int .i64 x278001_1, .slice Ao23 x278002_1.length co23] 25 (0, 0))) := ⟨h5_⟩
       have n6_ : Fc (w28.heap[gb288]? = some (.cells #[.slice none 0 0, .int .i64 0, .slice none 0 0] 25 (0, 0))) := ⟨h6_⟩
       have n7_ : Fc (w.heap.size ≤ gb288) := ⟨h7_⟩
       have n8_ : Fc (w.heap.size ≤ gb288) := ⟨h8_⟩
       have n9_ : Fc (gb267 ≠ gb288) := ⟨h9_⟩
       have n10_ : Fc (gb288 ≠ gb267) := ⟨h10_⟩
       have n11_ : Fc (gb277 ≠ gb288) := ⟨h11_⟩
       have n12_ : Fc (gb288 ≠ gb277) := ⟨h12_⟩
       have n13_ : Fc (Below w.heap.size w w28) := ⟨h13_⟩
       clear HO_278000 HO_278002 BK267 BK277 HB h0_ h1_ h2_ h3_ h4_ h5_ h6_ h7_ h8_ h9_ h10_ h11_ h12_ h13_
       have HO282 := n0_
       have HO286 := n1_
       have HO_278000 := n2_
       have HO_278002 := n3_
       have BK267 := n4_
       have BK277 := n5_
       have BK288 := n6_
       have GW288 := n7_
       have GE288 := n8_
       have NB267_288 := n9_
       have NB288_267 := n10_
       have NB277_288 := n11_
       have NB288_277 := n12_
       have HB := n13_
       clear n0_ n1_ n2_ n3_ n4_ n5_ n6_ n7_ n8_ n9_ n10_ n11_ n12_ n13_
       have hHeld : w28.cell? ⟨gb277, 0, none⟩ = some (.slice Ao22 x278000_1.length co22) ∧ w28.cell? ⟨gb277, 1, none⟩ = some (.int .i64 x278001_1) ∧ w28.cell? ⟨gb277, 2, none⟩ = some (.slice Ao23 x278002_1.length co23) := hS_
       obtain ⟨Ao29, co29, eo29⟩ := Kd.S_slice HO282.out
       (first | subst eo29 | (injection eo29 with f1_ f2_ f3_; have f4_ := f1_.symm; have f5_ := f3_.symm; clear f1_ f2_ f3_; subst f4_; subst f5_))
       obtain ⟨Ao32, co32, eo32⟩ := Kd.R_slice HO286.out
       (first | subst eo32 | (injection eo32 with f1_ f2_ f3_; have f4_ := f1_.symm; have f5_ := f3_.symm; clear f1_ f2_ f3_; subst f4_; subst f5_))
       refine norm_ (a' := ?_) ?_ ?_
       rotate_left
       ·simp only [putAll, Act.put, List.setIfInBounds_toArray, List.set_cons_zero, List.set_cons_succ]
        rfl
       refine one_ (i := 13) (N := none) (bt 15 16383) rfl rfl (one_of HT_.out (by kernel_rfl)) (by decide) (fun K hK => ?_)
       have hs30 : w28.cell? ⟨gb288, 0, none⟩ = some (.slice none 0 0) := bk_ BK288 0
       have hfs30 := blk_frozen BK288.out 0
       have hns30_0 := NB267_288.out
       have hns30_1 := NB277_288.out
       have hms30_0 := NB288_267.out
       have hms30_1 := NB288_277.out
       have hs31 : w28.cell? ⟨gb288, 1, none⟩ = some (.int .i64 0) := bk_ BK288 1
       have hfs31 := blk_frozen BK288.out 1
       have hns31_0 := NB267_288.out
       have hns31_1 := NB277_288.out
       have hms31_0 := NB288_267.out
       have hms31_1 := NB288_277.out
       have hs33 : w28.cell? ⟨gb288, 2, none⟩ = some (.slice none 0 0) := bk_ BK288 2
       have hfs33 := blk_frozen BK288.out 2
       have hns33_0 := NB267_288.out
       have hns33_1 := NB277_288.out
       have hms33_0 := NB288_267.out
       have hms33_1 := NB288_277.out
       refine skip_ (w1 := ?_) (by rfl) rfl ?_ ?_
       rotate_left
       ·go_simp
        rfl
       refine hK.out _ _ ⟨(cf_ NB277_288.out ((cf_ NB277_288.out (cf_ NB277_288.out hHeld.1)))), (cf_ NB277_288.out ((cf_ NB277_288.out (cf_ NB277_288.out hHeld.2.1)))), (cf_ NB277_288.out ((cf_ NB277_288.out (cf_ NB277_288.out hHeld.2.2))))⟩ (fun hHeld => ?_)
       clear hK K
       refine pq_ HT_.out 14 12 (bt 15 32767) (h := ?_)
       refine done_ (done_of HT_.out (by kernel_rfl)) ?_
       have hnb34 := NB288_267.out
       have hnc34 := NB267_288.out
       have hnb35 := NB288_277.out
       have hnc35 := NB277_288.out
       obtain ⟨hcz36_0, hcz36_1, hcz36_2, hfz36_0, hfz36_1, hfz36_2⟩ := c3_ BK288
       go_upto_region 10 with (first | ((with_reducible refine gate_callee (f := 28) rfl ?_); refine gL_ (some 48) Tryd.func28 #[.agg #[.slice Ao29 t280.length co29, .int .i64 t283, .slice Ao32 t284.length co32]] (h := ?_); (with_reducible refine (quorumref6_Tree.calls _ _ t280 t283 _ _ t284 t289 t292 t293 _ ?side1 ?side2 ?side3 ?side4 A20.out).mono ?_); (case side1 => refine (Kd.S_reads' (e := 85) (base := w.heap.size) (ok := fun k_ => (some k_ ≠ (.slice Ao32 t284.length co32 : Value).ownBlock ∧ (some k_ ≠ (.slice Ao22 x278000_1.length co22 : Value).ownBlock ∧ some k_ ≠ (.slice Ao23 x278002_1.length co23 : Value).ownBlock))) (n := t280.length) (c := co29) ?_).2.2; exact (s2_ (Kd.S_mono (Kd.S_far (p := ⟨gb288, 2, none⟩) (Kd.S_far (p := ⟨gb288, 1, none⟩) (Kd.S_far (p := ⟨gb288, 0, none⟩) (Kd.S_types HO282.out BK288.out (by decide)) (fun _ hk => hk.2) (.slice Ao29 t280.length co29)) (fun _ hk => hk.2) (.int .i64 t283)) (fun _ hk => hk.2) (.slice Ao32 t284.length co32)) (fun _ h_ => h_.1)))); (case side2 => exact (Kd.S_reads' HO282.out).2.1); (case side3 => refine (Kd.R_reads' (e := 3) (base := w.heap.size) (ok := fun k_ => some k_ ≠ (.slice Ao23 x278002_1.length co23 : Value).ownBlock) (n := t284.length) (c := co32) ?_).2.2; exact (r2_ (Kd.R_mono (Kd.R_far (p := ⟨gb288, 2, none⟩) (Kd.R_far (p := ⟨gb288, 1, none⟩) (Kd.R_far (p := ⟨gb288, 0, none⟩) (Kd.R_types HO286.out BK288.out (by decide)) (fun _ hk => hk.2) (.slice Ao29 t280.length co29)) (fun _ hk => hk.2) (.int .i64 t283)) (fun _ hk => hk.2) (.slice Ao32 t284.length co32)) (fun _ h_ => h_.1)))); (case side4 => exact (Kd.R_reads' HO286.out).2.1); rintro e w37 ⟨v290, rfl, ho0, hb⟩; refine ⟨_, rfl, ?_⟩; have n0_ := mk0 (Kd.S_below (s2_ (Kd.S_mono (Kd.S_far (p := ⟨gb288, 2, none⟩) (Kd.S_far (p := ⟨gb288, 1, none⟩) (Kd.S_far (p := ⟨gb288, 0, none⟩) (Kd.S_types HO_278000.out BK288.out (by decide)) (fun _ hk => hk.2) (.slice Ao29 t280.length co29)) (fun _ hk => hk.2) (.int .i64 t283)) (fun _ hk => hk.2) (.slice Ao32 t284.length co32)) (fun _ h_ => h_.1))) hb); have n1_ := mk0 (Kd.R_below (r2_ (Kd.R_mono (Kd.R_far (p := ⟨gb288, 2, none⟩) (Kd.R_far (p := ⟨gb288, 1, none⟩) (Kd.R_far (p := ⟨gb288, 0, none⟩) (Kd.R_types HO_278002.out BK288.out (by decide)) (fun _ hk => hk.2) (.slice Ao29 t280.length co29)) (fun _ hk => hk.2) (.int .i64 t283)) (fun _ hk => hk.2) (.slice Ao32 t284.length co32)) (fun _ h_ => h_.1))) hb); have n2_ := mk0 (Kd.S_below (s2_ (Kd.S_mono (Kd.S_far (p := ⟨gb288, 2, none⟩) (Kd.S_far (p := ⟨gb288, 1, none⟩) (Kd.S_far (p := ⟨gb288, 0, none⟩) (Kd.S_types HO282.out BK288.out (by decide)) (fun _ hk => hk.2) (.slice Ao29 t280.length co29)) (fun _ hk => hk.2) (.int .i64 t283)) (fun _ hk => hk.2) (.slice Ao32 t284.length co32)) (fun _ h_ => h_.1))) hb); have n3_ := mk0 (Kd.R_below (r2_ (Kd.R_mono (Kd.R_far (p := ⟨gb288, 2, none⟩) (Kd.R_far (p := ⟨gb288, 1, none⟩) (Kd.R_far (p := ⟨gb288, 0, none⟩) (Kd.R_types HO286.out BK288.out (by decide)) (fun _ hk => hk.2) (.slice Ao29 t280.length co29)) (fun _ hk => hk.2) (.int .i64 t283)) (fun _ hk => hk.2) (.slice Ao32 t284.length co32)) (fun _ h_ => h_.1))) hb); have n4_ := mk0 (Kd.R_lower ho0 (bz_ (b_ HB))); replace BK267 := mk0 (blk_below (g := gb267) (o := .cells #[.slice A0_0 l0_0.length c0_0, .int .i64 a0_1, .slice A0_2 l0_2.length c0_2, .slice A0_3 l0_3.length c0_3] 28 (0, 0)) (fa_ (fa_ (fa_ (h_ BK267) NB267_288.out) NB267_288.out) NB267_288.out) hb); replace BK277 := mk0 (blk_below (g := gb277) (o := .cells #[.slice Ao22 x278000_1.length co22, .int .i64 x278001_1, .slice Ao23 x278002_1.length co23] 25 (0, 0)) (fa_ (fa_ (fa_ (h_ BK277) NB277_288.out) NB277_288.out) NB277_288.out) hb); replace BK288 := mk0 (blk_below (g := gb288) (o := .cells #[.slice Ao29 t280.length co29, .int .i64 t283, .slice Ao32 t284.length co32] 25 (0, 0)) (pu_ (cs := #[.slice Ao29 t280.length co29, .int .i64 t283, .slice none 0 0]) (pu_ (cs := #[.slice Ao29 t280.length co29, .int .i64 0, .slice none 0 0]) (pu_ (cs := #[.slice none 0 0, .int .i64 0, .slice none 0 0]) (h_ BK288)))) hb); replace HB := mk0 (bt_ (b_ HB) hb); clear HO_278000 HO_278002 HO282 HO286; have HO_278000 := n0_; have HO_278002 := n1_; have HO282 := n2_; have HO286 := n3_; have HO291 := n4_; clear n0_ n1_ n2_ n3_ n4_; (try clear hb); (try clear ho0)))
       (try simp only [Act.put, List.setIfInBounds_toArray, List.set_cons_zero, List.set_cons_succ])
       go_cut [67] (fun v67 wc => ∃ (kq : Nat) (x67_20 : Bool), v67 = .bool x67_20 ∧ Fc (quorumlaw6_each.j1 kq a2 (wrap64 (5 + t268)) x10_1 x67_20 t280 t283 t284 = some r) ∧ Fc (kq ≤ k1) ∧ Fc (Kd.S k85 85 wc w.heap.size (fun k_ => some k_ ≠ ((.slice Ao23 x278002_1.length co23) : Value).ownBlock ∧ some k_ ≠ ((.slice Ao29 t280.length co29) : Value).ownBlock ∧ some k_ ≠ ((.slice Ao32 t284.length co32) : Value).ownBlock) (.slice Ao22 x278000_1.length co22) x278000_1) ∧ Fc (Kd.R (Kd.int .i64) 3 wc w.heap.size (fun k_ => some k_ ≠ ((.slice Ao32 t284.length co32) : Value).ownBlock) (.slice Ao23 x278002_1.length co23) x278002_1) ∧ Fc (Kd.S k85 85 wc w.heap.size (fun k_ => some k_ ≠ ((.slice Ao22 x278000_1.length co22) : Value).ownBlock ∧ some k_ ≠ ((.slice Ao23 x278002_1.length co23) : Value).ownBlock ∧ some k_ ≠ ((.slice Ao32 t284.length co32) : Value).ownBlock) (.slice Ao29 t280.length co29) t280) ∧ Fc (Kd.R (Kd.int .i64) 3 wc w.heap.size (fun k_ => some k_ ≠ ((.slice Ao23 x278002_1.length co23) : Value).ownBlock) (.slice Ao32 t284.length co32) t284) ∧ Fc (wc.heap[gb267]? = some (.cells #[(.slice A0_0 l0_0.length c0_0), .int .i64 a0_1, (.slice A0_2 l0_2.length c0_2), (.slice A0_3 l0_3.length c0_3)] 28 (0, 0))) ∧ Fc (wc.heap[gb277]? = some (.cells #[(.slice Ao22 x278000_1.length co22), .int .i64 x278001_1, (.slice Ao23 x278002_1.length co23)] 25 (0, 0))) ∧ Fc (wc.heap[gb288]? = some (.cells #[(.slice Ao29 t280.length co29), .int .i64 t283, (.slice Ao32 t284.length co32)] 25 (0, 0))) ∧ Fc (Below w.heap.size w wc))
       case first =>
        have H := HC21.out
        clear HC21
        replace H := Option.bind_eq_some_iff.mp H
        obtain ⟨t294, A380, H⟩ := H
        try dsimp only at H
        have A38 := mk0 A380
        clear A380
        by_cases c39 : t294 = 0
        ·rw [if_pos c39] at H
         have c39b0 : (t294 == 0) = true := beq_iff_eq.mpr c39
         have c39b1 : (t294 != 0) = false := bne_eq_false_iff_eq.mpr c39
         clear c39
         (first | rw [c39b0] | (simp only [i64_w, i32_w]; rw [c39b0]) | skip)
         by_cases c40 : t293 = true
         ·subst c40
          rw [if_pos rfl] at H
          have H' := mk0 H
          clear H
          go_wp2_with (first | ((with_reducible refine gate_callee (f := 23) rfl ?_); refine gL_ (some 53) Tryd.func23 #[.int .i64 t287] (h := ?_); (with_reducible refine (quorumlaw6_num.calls t287 t294 _ A38.out).mono ?_); rintro e w' ⟨rfl, ⟨nd, rfl⟩⟩; refine ⟨_, rfl, ?_⟩; obtain ⟨Ao41, co41, eo41⟩ := Kd.R_slice HO291.out; subst eo41))
          go_meet
          case rel => exact ⟨_, (((t289.length : Int) != (wrap64 ((wrap64 ((wrap64 (5 + t268)) - 1)) - x10_1)))), (by first | rfl | (simp; done) | (simp [*]; done)), H', ⟨by have := HK1.out; first | omega | exact Nat.le_refl _⟩, ⟨by (with_reducible repeat (first | apply Kd.S_alloc | apply Kd.S_drewN | apply Kd.S_drew)); exact Kd.S_mono HO_278000.out (fun _ hk => ⟨hk.2.2, ⟨hk.1, hk.2.1⟩⟩)⟩, ⟨by (with_reducible repeat (first | apply Ra_ | apply Rn_ | apply Rd_)); exact HO_278002.out⟩, ⟨by (with_reducible repeat (first | apply Kd.S_alloc | apply Kd.S_drewN | apply Kd.S_drew)); exact Kd.S_mono HO282.out (fun _ hk => ⟨hk.2.1, ⟨hk.2.2, hk.1⟩⟩)⟩, ⟨by (with_reducible repeat (first | apply Ra_ | apply Rn_ | apply Rd_)); exact HO286.out⟩, ⟨h_ BK267⟩, ⟨h_ BK277⟩, ⟨h_ BK288⟩, ⟨b_ HB⟩⟩
         ·replace c40 := Bool.eq_false_iff.mpr c40
          subst c40
          rw [if_neg (show ¬ (false = true) by decide)] at H
          have H' := mk0 H
          clear H
          go_wp2_with (first | ((with_reducible refine gate_callee (f := 23) rfl ?_); refine gL_ (some 53) Tryd.func23 #[.int .i64 t287] (h := ?_); (with_reducible refine (quorumlaw6_num.calls t287 t294 _ A38.out).mono ?_); rintro e w' ⟨rfl, ⟨nd, rfl⟩⟩; refine ⟨_, rfl, ?_⟩))
          go_meet
          case rel => exact ⟨_, (true), (by first | rfl | (simp; done) | (simp [*]; done)), H', ⟨by have := HK1.out; first | omega | exact Nat.le_refl _⟩, ⟨by (with_reducible repeat (first | apply Kd.S_alloc | apply Kd.S_drewN | apply Kd.S_drew)); exact Kd.S_mono HO_278000.out (fun _ hk => ⟨hk.2.2, ⟨hk.1, hk.2.1⟩⟩)⟩, ⟨by (with_reducible repeat (first | apply Ra_ | apply Rn_ | apply Rd_)); exact HO_278002.out⟩, ⟨by (with_reducible repeat (first | apply Kd.S_alloc | apply Kd.S_drewN | apply Kd.S_drew)); exact Kd.S_mono HO282.out (fun _ hk => ⟨hk.2.1, ⟨hk.2.2, hk.1⟩⟩)⟩, ⟨by (with_reducible repeat (first | apply Ra_ | apply Rn_ | apply Rd_)); exact HO286.out⟩, ⟨h_ BK267⟩, ⟨h_ BK277⟩, ⟨h_ BK288⟩, ⟨b_ HB⟩⟩
        ·rw [if_neg c39] at H
         have c39b0 : (t294 == 0) = false := beq_eq_false_iff_ne.mpr c39
         have c39b1 : (t294 != 0) = true := bne_iff_ne.mpr c39
         (first | rw [c39b0] | (simp only [i64_w, i32_w]; rw [c39b0]) | skip)
         have H' := mk0 H
         clear H
         go_wp2_with (first | ((with_reducible refine gate_callee (f := 23) rfl ?_); refine gL_ (some 53) Tryd.func23 #[.int .i64 t287] (h := ?_); (with_reducible refine (quorumlaw6_num.calls t287 t294 _ A38.out).mono ?_); rintro e w' ⟨rfl, ⟨nd, rfl⟩⟩; refine ⟨_, rfl, ?_⟩))
         go_meet
         case rel => exact ⟨_, (true), (by first | rfl | (simp; done) | (simp [*]; done)), H', ⟨by have := HK1.out; first | omega | exact Nat.le_refl _⟩, ⟨by (with_reducible repeat (first | apply Kd.S_alloc | apply Kd.S_drewN | apply Kd.S_drew)); exact Kd.S_mono HO_278000.out (fun _ hk => ⟨hk.2.2, ⟨hk.1, hk.2.1⟩⟩)⟩, ⟨by (with_reducible repeat (first | apply Ra_ | apply Rn_ | apply Rd_)); exact HO_278002.out⟩, ⟨by (with_reducible repeat (first | apply Kd.S_alloc | apply Kd.S_drewN | apply Kd.S_drew)); exact Kd.S_mono HO282.out (fun _ hk => ⟨hk.2.1, ⟨hk.2.2, hk.1⟩⟩)⟩, ⟨by (with_reducible repeat (first | apply Ra_ | apply Rn_ | apply Rd_)); exact HO286.out⟩, ⟨h_ BK267⟩, ⟨h_ BK277⟩, ⟨h_ BK288⟩, ⟨b_ HB⟩⟩
       case rest =>
        clear HC21
        try clear c39
        try clear c39b0
        try clear c39b1
        try clear c40
        try clear hcz36_0
        try clear hcz36_1
        try clear hcz36_2
        try clear hfz36_0
        try clear hfz36_1
        try clear hfz36_2
        obtain ⟨kq, x67_20, rfl, HA, HJ20, HO_278000, HO_278002, HO_289000, HO_289002, BK267, BK277, BK288, HB⟩ := hcut
        cases kq with
        | zero => exact absurd HA.out (by simp [quorumlaw6_each.j1])
        | succ kj20 =>
         have H := HA.out
         clear HA
         simp only [quorumlaw6_each.j1] at H
         as_aux_lemma =>
          by_cases c42 : x67_20 = true
          ·subst c42
           rw [if_pos rfl] at H
           obtain rfl := Option.some.inj H
           go_wp2
           go_ret
           exact ⟨by first | rfl | (simp [errW_none, errW_some] <;> rfl) | (simp [*, errW_none, errW_some] <;> rfl), b_ HB⟩
          ·replace c42 := Bool.eq_false_iff.mpr c42
           subst c42
           rw [if_neg (show ¬ (false = true) by decide)] at H
           have H' := mk0 H
           clear H
           have hnb43 := NB288_267.out
           have hnc43 := NB267_288.out
           have hnb44 := NB288_277.out
           have hnc44 := NB277_288.out
           obtain ⟨hcz45_0, hcz45_1, hcz45_2, hfz45_0, hfz45_1, hfz45_2⟩ := c3_ BK288
           have hnb46 := NB277_267.out
           have hnc46 := NB267_277.out
           obtain ⟨hcz47_0, hcz47_1, hcz47_2, hfz47_0, hfz47_1, hfz47_2⟩ := c3_ BK277
           go_wp2
           go_roundg kj20
           case measure => have := HK1.out; have := HJ20.out; omega
           case rel => exact ⟨(wrap64 (x10_1 + 1)), (t280), (t283), (t284), (.slice Ao29 t280.length co29), (.slice Ao32 t284.length co32), (by first | rfl | (simp; done) | (simp [*]; done)), H', ⟨by have := HK1.out; have := HJ20.out; omega⟩, ⟨by (with_reducible repeat (first | apply Kd.S_alloc | apply Kd.S_drewN | apply Kd.S_drew)); exact Kd.S_mono (Kd.S_far (p := ⟨gb277, 2, none⟩) (Kd.S_far (p := ⟨gb277, 1, none⟩) (Kd.S_far (p := ⟨gb277, 0, none⟩) (Kd.S_types HO_289000.out BK277.out (by decide)) (fun _ hk => hk.2) (.slice Ao29 t280.length co29)) (fun _ hk => hk.2) (.int .i64 t283)) (fun _ hk => hk.2) (.slice Ao32 t284.length co32)) (fun _ hk => hk.1.2.2)⟩, ⟨by (with_reducible repeat (first | apply Ra_ | apply Rn_ | apply Rd_)); exact Kd.R_mono (Kd.R_far (p := ⟨gb277, 2, none⟩) (Kd.R_far (p := ⟨gb277, 1, none⟩) (Kd.R_far (p := ⟨gb277, 0, none⟩) (Kd.R_types HO_289002.out BK277.out (by decide)) (fun _ hk => hk.2) (.slice Ao29 t280.length co29)) (fun _ hk => hk.2) (.int .i64 t283)) (fun _ hk => hk.2) (.slice Ao32 t284.length co32)) (fun _ hk => trivial)⟩, ⟨(fa_ (fa_ (fa_ (h_ BK267) NB267_277.out) NB267_277.out) NB267_277.out)⟩, ⟨(pu_ (cs := #[.slice Ao29 t280.length co29, .int .i64 t283, .slice Ao23 x278002_1.length co23]) (pu_ (cs := #[.slice Ao29 t280.length co29, .int .i64 x278001_1, .slice Ao23 x278002_1.length co23]) (pu_ (cs := #[.slice Ao22 x278000_1.length co22, .int .i64 x278001_1, .slice Ao23 x278002_1.length co23]) (h_ BK277))))⟩, ⟨b_ HB⟩⟩
      ·rw [if_neg c18] at H
       exact absurd H (by simp)
     ·rw [if_neg c15] at H
      have c15b0 : decide (x10_1 < (wrap64 (5 + t268))) = false := decide_eq_false c15
      clear c15
      replace H := Option.bind_eq_some_iff.mp H
      obtain ⟨t295, A480, H⟩ := H
      try dsimp only at H
      have A48 := mk0 A480
      clear A480
      obtain rfl := Option.some.inj H
      go_wp2_with (first | ((with_reducible refine gate_callee (f := 29) rfl ?_); refine gL_ (some 69) Tryd.func29 #[] (h := ?_); (with_reducible refine (quorumlaw6_wakes.calls k1  t295 _ A48.out).mono ?_); rintro e w49 ⟨rfl, hb⟩; refine ⟨_, rfl, ?_⟩; replace HO_278000 := mk0 (Kd.S_below (s_ HO_278000) hb); replace HO_278002 := mk0 (Kd.R_below (r_ HO_278002) hb); replace BK267 := mk0 (u_ BK267 hb); replace BK277 := mk0 (u_ BK277 hb); replace HB := mk0 (bt_ (b_ HB) hb); (try clear hb)))
      go_ret
      exact ⟨by first | rfl | (simp [errW_none, errW_some] <;> rfl) | (simp [*, errW_none, errW_some] <;> rfl), b_ HB⟩
 ·replace c6 := Bool.eq_false_iff.mpr c6
  subst c6
  rw [if_neg (show ¬ (false = true) by decide)] at H
  obtain rfl := Option.some.inj H
  go_enter Tryd.func17, Tryd.ntmps17
  go_wp2_with (first | ((with_reducible refine gate_dst (N := 3) rfl ?_); (try (refine gate_guard (by rfl) ?_; dsimp only)); refine bx_ (N := 3) (cs := #[.slice A0_0 l0_0.length c0_0, .int .i64 a0_1, .slice A0_2 l0_2.length c0_2, .slice A0_3 l0_3.length c0_3]) (t := 28) (h := ?_); intro gb267 hg w50 hbox hb; have n2_ := mk0 (gz_ HB hg); have n3_ := mk0 (gz_ HB hg); replace HB := mk0 (bt_ (b_ HB) hb); have BK267 := mk0 (hbox); have GW267 := n2_; have GE267 := n3_; clear n2_ n3_ hb hbox hg; obtain ⟨hcz51_0, hcz51_1, hcz51_2, hcz51_3, hfz51_0, hfz51_1, hfz51_2, hfz51_3⟩ := c4_ BK267) | ((with_reducible refine gate_callee (f := 19) rfl ?_); refine gL_ (some 19) Tryd.func19 #[.int .i64 (l0_3.length : Int), .int .i64 40] (h := ?_); (with_reducible refine (quorumlaw0_Within.calls (l0_3.length : Int) 40 t268 _ A4.out).mono ?_); rintro e w' ⟨rfl, ⟨nd, rfl⟩⟩; refine ⟨_, rfl, ?_⟩; (try (rw [drewN_self w50]; generalize hq_ : World.drewN w50 _ = w50; have n0_ : Fc (w50.heap[gb267]? = some (.cells #[.slice A0_0 l0_0.length c0_0, .int .i64 a0_1, .slice A0_2 l0_2.length c0_2, .slice A0_3 l0_3.length c0_3] 28 (0, 0))) := ⟨by rw [← hq_]; exact (h_ BK267)⟩; have n1_ : Fc (Below w.heap.size w w50) := ⟨by rw [← hq_]; exact (b_ HB)⟩; clear BK267 HB hq_; have BK267 := n0_; have HB := n1_; clear n0_ n1_))) | ((with_reducible refine gate_callee (f := 46) rfl ?_); refine gL_ (some 24) Tryd.func46 #[.int .i64 (wrap64 (5 + t268)), .int .i64 a1] (h := ?_); (with_reducible refine (quorumlaw6_grown.calls k (wrap64 (5 + t268)) a1 t269 t272 t273 false _ A5.out).mono ?_); rintro e w52 ⟨v270, v274, rfl, ho0, ho1, hb⟩; refine ⟨_, rfl, ?_⟩; have n0_ := mk0 (Kd.S_lower ho0 (bz_ (b_ HB))); have n1_ := mk0 (Kd.R_lower ho1 (bz_ (b_ HB))); replace BK267 := mk0 (u_ BK267 hb); replace HB := mk0 (bt_ (b_ HB) hb); have HO271 := n0_; have HO275 := n1_; clear n0_ n1_; (try clear hb); (try clear ho0); (try clear ho1)) | ((with_reducible refine gate_dst (N := 8) rfl ?_); (try (refine gate_guard (by rfl) ?_; dsimp only)); refine bx_ (N := 8) (cs := #[.slice none 0 0, .int .i64 0, .slice none 0 0]) (t := 25) (h := ?_); intro gb277 hg w53 hbox hb; have n5_ := mk0 (gz_ HB hg); have n6_ := mk0 (gz_ HB hg); have n7_ := mk0 (ne1_ BK267 hg); have n8_ := mk0 (ne2_ BK267 hg); replace HO271 := mk0 (Kd.S_below (s_ HO271) hb); replace HO275 := mk0 (Kd.R_below (r_ HO275) hb); replace BK267 := mk0 (u_ BK267 hb); replace HB := mk0 (bt_ (b_ HB) hb); have BK277 := mk0 (hbox); have GW277 := n5_; have GE277 := n6_; have NB267_277 := n7_; have NB277_267 := n8_; clear n5_ n6_ n7_ n8_ hb hbox hg; obtain ⟨Ao54, co54, eo54⟩ := Kd.S_slice HO271.out; subst eo54; have hnb55 := NB277_267.out; have hnc55 := NB267_277.out; obtain ⟨hcz56_0, hcz56_1, hcz56_2, hfz56_0, hfz56_1, hfz56_2⟩ := c3_ BK277; obtain ⟨Ao57, co57, eo57⟩ := Kd.R_slice HO275.out; subst eo57))
  go_ret
  exact ⟨by first | rfl | (simp [errW_none, errW_some] <;> rfl) | (simp [*, errW_none, errW_some] <;> rfl), b_ HB⟩

/-! ### quorumlaw6_TreeUp: function 4 -/
noncomputable def quorumlaw6_TreeUp.f (k : Nat) (l0_0 : List (S85)) (a0_1 : Int) (l0_2 : List Int) (l0_3 : List (S70)) : Option (Bool) := (quorumlaw6_each.f k l0_0 a0_1 l0_2 l0_3 0 0).bind fun t297 => (some t297)
theorem quorumlaw6_TreeUp.mono : ∀ a0 a1 a2 a3 k, LeO (quorumlaw6_TreeUp.f k a0 a1 a2 a3) (quorumlaw6_TreeUp.f (k + 1) a0 a1 a2 a3) := by
 intro a0 a1 a2 a3 k
 unfold quorumlaw6_TreeUp.f
 repeat' first
   | (with_reducible exact quorumlaw6_each.mono _ _ _ _ _ _ _)
   | (with_reducible exact LeO.refl _)
   | (with_reducible exact LeO.none _)
   | (with_reducible refine LeO.ite ?_ ?_)
   | (with_reducible refine LeO.bind ?_ (fun _ => ?_))
   | exact quorumlaw6_each.mono _ _ _ _ _ _ _
   | exact LeO.none _
   | refine LeO.ite ?_ ?_
   | refine LeO.bind ?_ (fun _ => ?_)
set_option maxHeartbeats 8000000 in
set_option maxRecDepth 100000 in
theorem quorumlaw6_TreeUp.calls (k : Nat) (A0_0 : Option Addr) (c0_0 : Nat) (l0_0 : List (S85)) (a0_1 : Int) (A0_2 : Option Addr) (c0_2 : Nat) (l0_2 : List Int) (A0_3 : Option Addr) (c0_3 : Nat) (l0_3 : List (S70)) (r : Bool) (w : World) (hr0_0 : Kd.C k85 w A0_0 l0_0.length l0_0) (hc0_0 : l0_0.length ≤ c0_0) (hr0_2 : Kd.C (Kd.int .i64) w A0_2 l0_2.length l0_2) (hc0_2 : l0_2.length ≤ c0_2) (hr0_3 : Kd.C k70 w A0_3 l0_3.length l0_3) (hc0_3 : l0_3.length ≤ c0_3) (h : quorumlaw6_TreeUp.f k l0_0 a0_1 l0_2 l0_3 = some r) :
  Calls Tryd.prog 4 #[.agg #[.slice A0_0 l0_0.length c0_0, .int .i64 a0_1, .slice A0_2 l0_2.length c0_2, .slice A0_3 l0_3.length c0_3]] w fun e w' => e = .returned (.bool r) ∧ Below w.heap.size w w' := by
 have hu28 := Tryd.underlying28
 have HR0_0 := mk0 hr0_0
 have HC0_0 := mk0 hc0_0
 clear hr0_0 hc0_0
 have HR0_2 := mk0 hr0_2
 have HC0_2 := mk0 hc0_2
 clear hr0_2 hc0_2
 have HR0_3 := mk0 hr0_3
 have HC0_3 := mk0 hc0_3
 clear hr0_3 hc0_3
 have HB := mk0 (Below.refl w.heap.size w)
 have H : ((quorumlaw6_each.f k l0_0 a0_1 l0_2 l0_3 0 0).bind fun t297 => (some t297)) = some r := h
 clear h
 replace H := Option.bind_eq_some_iff.mp H
 obtain ⟨t297, A20, H⟩ := H
 try dsimp only at H
 have A2 := mk0 A20
 clear A20
 obtain rfl := Option.some.inj H
 go_enter Tryd.func4, Tryd.ntmps4
 go_wp2_with (first | ((with_reducible refine gate_dst (N := 1) rfl ?_); refine bx_ (N := 1) (cs := #[.slice A0_0 l0_0.length c0_0, .int .i64 a0_1, .slice A0_2 l0_2.length c0_2, .slice A0_3 l0_3.length c0_3]) (t := 28) (h := ?_); intro gb296 hg w3 hbox hb; have n2_ := mk0 (gz_ HB hg); have n3_ := mk0 (gz_ HB hg); replace HB := mk0 (bt_ (b_ HB) hb); have BK296 := mk0 (hbox); have GW296 := n2_; have GE296 := n3_; clear n2_ n3_ hb hbox hg; obtain ⟨hcz4_0, hcz4_1, hcz4_2, hcz4_3, hfz4_0, hfz4_1, hfz4_2, hfz4_3⟩ := c4_ BK296) | ((with_reducible refine gate_callee (f := 17) rfl ?_); refine gL_ (some 4) Tryd.func17 #[.agg #[.slice A0_0 l0_0.length c0_0, .int .i64 a0_1, .slice A0_2 l0_2.length c0_2, .slice A0_3 l0_3.length c0_3], .int .i64 0, .int .i64 0] (h := ?_); (with_reducible refine (quorumlaw6_each.calls k _ _ l0_0 a0_1 _ _ l0_2 _ _ l0_3 0 0 t297 _ ?side1 ?side2 ?side3 ?side4 ?side5 ?side6 A2.out).mono ?_); (case side1 => exact cb_ HR0_0 HB); (case side2 => exact HC0_0.out); (case side3 => exact cb_ HR0_2 HB); (case side4 => exact HC0_2.out); (case side5 => exact cb_ HR0_3 HB); (case side6 => exact HC0_3.out); rintro e w5 ⟨rfl, hb⟩; refine ⟨_, rfl, ?_⟩; replace BK296 := mk0 (u_ BK296 hb); replace HB := mk0 (bt_ (b_ HB) hb); (try clear hb)))
 go_ret
 exact ⟨by first | rfl | (simp [errW_none, errW_some] <;> rfl) | (simp [*, errW_none, errW_some] <;> rfl), b_ HB⟩

/-! ### quorumlaw6_TreeDown: function 5 -/
noncomputable def quorumlaw6_TreeDown.f (k : Nat) (l0_0 : List (S85)) (a0_1 : Int) (l0_2 : List Int) (l0_3 : List (S70)) : Option (Bool) := (quorumlaw6_each.f k l0_0 a0_1 l0_2 l0_3 1 0).bind fun t299 => (some t299)
theorem quorumlaw6_TreeDown.mono : ∀ a0 a1 a2 a3 k, LeO (quorumlaw6_TreeDown.f k a0 a1 a2 a3) (quorumlaw6_TreeDown.f (k + 1) a0 a1 a2 a3) := by
 intro a0 a1 a2 a3 k
 unfold quorumlaw6_TreeDown.f
 repeat' first
   | (with_reducible exact quorumlaw6_each.mono _ _ _ _ _ _ _)
   | (with_reducible exact LeO.refl _)
   | (with_reducible exact LeO.none _)
   | (with_reducible refine LeO.ite ?_ ?_)
   | (with_reducible refine LeO.bind ?_ (fun _ => ?_))
   | exact quorumlaw6_each.mono _ _ _ _ _ _ _
   | exact LeO.none _
   | refine LeO.ite ?_ ?_
   | refine LeO.bind ?_ (fun _ => ?_)
set_option maxHeartbeats 8000000 in
set_option maxRecDepth 100000 in
theorem quorumlaw6_TreeDown.calls (k : Nat) (A0_0 : Option Addr) (c0_0 : Nat) (l0_0 : List (S85)) (a0_1 : Int) (A0_2 : Option Addr) (c0_2 : Nat) (l0_2 : List Int) (A0_3 : Option Addr) (c0_3 : Nat) (l0_3 : List (S70)) (r : Bool) (w : World) (hr0_0 : Kd.C k85 w A0_0 l0_0.length l0_0) (hc0_0 : l0_0.length ≤ c0_0) (hr0_2 : Kd.C (Kd.int .i64) w A0_2 l0_2.length l0_2) (hc0_2 : l0_2.length ≤ c0_2) (hr0_3 : Kd.C k70 w A0_3 l0_3.length l0_3) (hc0_3 : l0_3.length ≤ c0_3) (h : quorumlaw6_TreeDown.f k l0_0 a0_1 l0_2 l0_3 = some r) :
  Calls Tryd.prog 5 #[.agg #[.slice A0_0 l0_0.length c0_0, .int .i64 a0_1, .slice A0_2 l0_2.length c0_2, .slice A0_3 l0_3.length c0_3]] w fun e w' => e = .returned (.bool r) ∧ Below w.heap.size w w' := by
 have hu28 := Tryd.underlying28
 have HR0_0 := mk0 hr0_0
 have HC0_0 := mk0 hc0_0
 clear hr0_0 hc0_0
 have HR0_2 := mk0 hr0_2
 have HC0_2 := mk0 hc0_2
 clear hr0_2 hc0_2
 have HR0_3 := mk0 hr0_3
 have HC0_3 := mk0 hc0_3
 clear hr0_3 hc0_3
 have HB := mk0 (Below.refl w.heap.size w)
 have H : ((quorumlaw6_each.f k l0_0 a0_1 l0_2 l0_3 1 0).bind fun t299 => (some t299)) = some r := h
 clear h
 replace H := Option.bind_eq_some_iff.mp H
 obtain ⟨t299, A20, H⟩ := H
 try dsimp only at H
 have A2 := mk0 A20
 clear A20
 obtain rfl := Option.some.inj H
 go_enter Tryd.func5, Tryd.ntmps5
 go_wp2_with (first | ((with_reducible refine gate_dst (N := 1) rfl ?_); refine bx_ (N := 1) (cs := #[.slice A0_0 l0_0.length c0_0, .int .i64 a0_1, .slice A0_2 l0_2.length c0_2, .slice A0_3 l0_3.length c0_3]) (t := 28) (h := ?_); intro gb298 hg w3 hbox hb; have n2_ := mk0 (gz_ HB hg); have n3_ := mk0 (gz_ HB hg); replace HB := mk0 (bt_ (b_ HB) hb); have BK298 := mk0 (hbox); have GW298 := n2_; have GE298 := n3_; clear n2_ n3_ hb hbox hg; obtain ⟨hcz4_0, hcz4_1, hcz4_2, hcz4_3, hfz4_0, hfz4_1, hfz4_2, hfz4_3⟩ := c4_ BK298) | ((with_reducible refine gate_callee (f := 17) rfl ?_); refine gL_ (some 4) Tryd.func17 #[.agg #[.slice A0_0 l0_0.length c0_0, .int .i64 a0_1, .slice A0_2 l0_2.length c0_2, .slice A0_3 l0_3.length c0_3], .int .i64 1, .int .i64 0] (h := ?_); (with_reducible refine (quorumlaw6_each.calls k _ _ l0_0 a0_1 _ _ l0_2 _ _ l0_3 1 0 t299 _ ?side1 ?side2 ?side3 ?side4 ?side5 ?side6 A2.out).mono ?_); (case side1 => exact cb_ HR0_0 HB); (case side2 => exact HC0_0.out); (case side3 => exact cb_ HR0_2 HB); (case side4 => exact HC0_2.out); (case side5 => exact cb_ HR0_3 HB); (case side6 => exact HC0_3.out); rintro e w5 ⟨rfl, hb⟩; refine ⟨_, rfl, ?_⟩; replace BK298 := mk0 (u_ BK298 hb); replace HB := mk0 (bt_ (b_ HB) hb); (try clear hb)))
 go_ret
 exact ⟨by first | rfl | (simp [errW_none, errW_some] <;> rfl) | (simp [*, errW_none, errW_some] <;> rfl), b_ HB⟩

/-! ### quorumlaw6_TreeEnds: function 6 -/
noncomputable def quorumlaw6_TreeEnds.f (k : Nat) (l0_0 : List (S85)) (a0_1 : Int) (l0_2 : List Int) (l0_3 : List (S70)) : Option (Bool) := (quorumlaw6_each.f k l0_0 a0_1 l0_2 l0_3 2 2).bind fun t301 => (if t301 = true then ((quorumlaw6_each.f k l0_0 a0_1 l0_2 l0_3 0 2).bind fun t302 => (if t302 = true then ((quorumlaw6_each.f k l0_0 a0_1 l0_2 l0_3 2 1).bind fun t303 => (some t303)) else (some false))) else (some false))
theorem quorumlaw6_TreeEnds.mono : ∀ a0 a1 a2 a3 k, LeO (quorumlaw6_TreeEnds.f k a0 a1 a2 a3) (quorumlaw6_TreeEnds.f (k + 1) a0 a1 a2 a3) := by
 intro a0 a1 a2 a3 k
 unfold quorumlaw6_TreeEnds.f
 repeat' first
   | (with_reducible exact quorumlaw6_each.mono _ _ _ _ _ _ _)
   | (with_reducible exact LeO.refl _)
   | (with_reducible exact LeO.none _)
   | (with_reducible refine LeO.ite ?_ ?_)
   | (with_reducible refine LeO.bind ?_ (fun _ => ?_))
   | exact quorumlaw6_each.mono _ _ _ _ _ _ _
   | exact LeO.none _
   | refine LeO.ite ?_ ?_
   | refine LeO.bind ?_ (fun _ => ?_)
set_option maxHeartbeats 8000000 in
set_option maxRecDepth 100000 in
theorem quorumlaw6_TreeEnds.calls (k : Nat) (A0_0 : Option Addr) (c0_0 : Nat) (l0_0 : List (S85)) (a0_1 : Int) (A0_2 : Option Addr) (c0_2 : Nat) (l0_2 : List Int) (A0_3 : Option Addr) (c0_3 : Nat) (l0_3 : List (S70)) (r : Bool) (w : World) (hr0_0 : Kd.C k85 w A0_0 l0_0.length l0_0) (hc0_0 : l0_0.length ≤ c0_0) (hr0_2 : Kd.C (Kd.int .i64) w A0_2 l0_2.length l0_2) (hc0_2 : l0_2.length ≤ c0_2) (hr0_3 : Kd.C k70 w A0_3 l0_3.length l0_3) (hc0_3 : l0_3.length ≤ c0_3) (h : quorumlaw6_TreeEnds.f k l0_0 a0_1 l0_2 l0_3 = some r) :
  Calls Tryd.prog 6 #[.agg #[.slice A0_0 l0_0.length c0_0, .int .i64 a0_1, .slice A0_2 l0_2.length c0_2, .slice A0_3 l0_3.length c0_3]] w fun e w' => e = .returned (.bool r) ∧ Below w.heap.size w w' := by
 have hu28 := Tryd.underlying28
 have HR0_0 := mk0 hr0_0
 have HC0_0 := mk0 hc0_0
 clear hr0_0 hc0_0
 have HR0_2 := mk0 hr0_2
 have HC0_2 := mk0 hc0_2
 clear hr0_2 hc0_2
 have HR0_3 := mk0 hr0_3
 have HC0_3 := mk0 hc0_3
 clear hr0_3 hc0_3
 have HB := mk0 (Below.refl w.heap.size w)
 have H : ((quorumlaw6_each.f k l0_0 a0_1 l0_2 l0_3 2 2).bind fun t301 => (if t301 = true then ((quorumlaw6_each.f k l0_0 a0_1 l0_2 l0_3 0 2).bind fun t302 => (if t302 = true then ((quorumlaw6_each.f k l0_0 a0_1 l0_2 l0_3 2 1).bind fun t303 => (some t303)) else (some false))) else (some false))) = some r := h
 clear h
 replace H := Option.bind_eq_some_iff.mp H
 obtain ⟨t301, A20, H⟩ := H
 try dsimp only at H
 have A2 := mk0 A20
 clear A20
 by_cases c3 : t301 = true
 ·subst c3
  rw [if_pos rfl] at H
  replace H := Option.bind_eq_some_iff.mp H
  obtain ⟨t302, A40, H⟩ := H
  try dsimp only at H
  have A4 := mk0 A40
  clear A40
  by_cases c5 : t302 = true
  ·subst c5
   rw [if_pos rfl] at H
   replace H := Option.bind_eq_some_iff.mp H
   obtain ⟨t303, A60, H⟩ := H
   try dsimp only at H
   have A6 := mk0 A60
   clear A60
   obtain rfl := Option.some.inj H
   go_enter Tryd.func6, Tryd.ntmps6
   go_wp2_with (first | ((with_reducible refine gate_dst (N := 1) rfl ?_); refine bx_ (N := 1) (cs := #[.slice A0_0 l0_0.length c0_0, .int .i64 a0_1, .slice A0_2 l0_2.length c0_2, .slice A0_3 l0_3.length c0_3]) (t := 28) (h := ?_); intro gb300 hg w7 hbox hb; have n2_ := mk0 (gz_ HB hg); have n3_ := mk0 (gz_ HB hg); replace HB := mk0 (bt_ (b_ HB) hb); have BK300 := mk0 (hbox); have GW300 := n2_; have GE300 := n3_; clear n2_ n3_ hb hbox hg; obtain ⟨hcz8_0, hcz8_1, hcz8_2, hcz8_3, hfz8_0, hfz8_1, hfz8_2, hfz8_3⟩ := c4_ BK300) | ((with_reducible refine gate_callee (f := 17) rfl ?_); refine gL_ (some 4) Tryd.func17 #[.agg #[.slice A0_0 l0_0.length c0_0, .int .i64 a0_1, .slice A0_2 l0_2.length c0_2, .slice A0_3 l0_3.length c0_3], .int .i64 2, .int .i64 2] (h := ?_); (with_reducible refine (quorumlaw6_each.calls k _ _ l0_0 a0_1 _ _ l0_2 _ _ l0_3 2 2 true _ ?side1 ?side2 ?side3 ?side4 ?side5 ?side6 A2.out).mono ?_); (case side1 => exact cb_ HR0_0 HB); (case side2 => exact HC0_0.out); (case side3 => exact cb_ HR0_2 HB); (case side4 => exact HC0_2.out); (case side5 => exact cb_ HR0_3 HB); (case side6 => exact HC0_3.out); rintro e w9 ⟨rfl, hb⟩; refine ⟨_, rfl, ?_⟩; replace BK300 := mk0 (u_ BK300 hb); replace HB := mk0 (bt_ (b_ HB) hb); (try clear hb); obtain ⟨hcz10_0, hcz10_1, hcz10_2, hcz10_3, hfz10_0, hfz10_1, hfz10_2, hfz10_3⟩ := c4_ BK300) | (go_at_call 17; (with_reducible refine (quorumlaw6_each.calls k _ _ l0_0 a0_1 _ _ l0_2 _ _ l0_3 0 2 true _ ?side1 ?side2 ?side3 ?side4 ?side5 ?side6 A4.out).mono ?_); (case side1 => exact cb_ HR0_0 HB); (case side2 => exact HC0_0.out); (case side3 => exact cb_ HR0_2 HB); (case side4 => exact HC0_2.out); (case side5 => exact cb_ HR0_3 HB); (case side6 => exact HC0_3.out); rintro e w11 ⟨rfl, hb⟩; replace BK300 := mk0 (u_ BK300 hb); replace HB := mk0 (bt_ (b_ HB) hb); (try clear hb); obtain ⟨hcz12_0, hcz12_1, hcz12_2, hcz12_3, hfz12_0, hfz12_1, hfz12_2, hfz12_3⟩ := c4_ BK300) | (go_at_call 17; (with_reducible refine (quorumlaw6_each.calls k _ _ l0_0 a0_1 _ _ l0_2 _ _ l0_3 2 1 t303 _ ?side1 ?side2 ?side3 ?side4 ?side5 ?side6 A6.out).mono ?_); (case side1 => exact cb_ HR0_0 HB); (case side2 => exact HC0_0.out); (case side3 => exact cb_ HR0_2 HB); (case side4 => exact HC0_2.out); (case side5 => exact cb_ HR0_3 HB); (case side6 => exact HC0_3.out); rintro e w13 ⟨rfl, hb⟩; replace BK300 := mk0 (u_ BK300 hb); replace HB := mk0 (bt_ (b_ HB) hb); (try clear hb)))
   go_ret
   exact ⟨by first | rfl | (simp [errW_none, errW_some] <;> rfl) | (simp [*, errW_none, errW_some] <;> rfl), b_ HB⟩
  ·replace c5 := Bool.eq_false_iff.mpr c5
   subst c5
   rw [if_neg (show ¬ (false = true) by decide)] at H
   obtain rfl := Option.some.inj H
   go_enter Tryd.func6, Tryd.ntmps6
   go_wp2_with (first | ((with_reducible refine gate_dst (N := 1) rfl ?_); refine bx_ (N := 1) (cs := #[.slice A0_0 l0_0.length c0_0, .int .i64 a0_1, .slice A0_2 l0_2.length c0_2, .slice A0_3 l0_3.length c0_3]) (t := 28) (h := ?_); intro gb300 hg w14 hbox hb; have n2_ := mk0 (gz_ HB hg); have n3_ := mk0 (gz_ HB hg); replace HB := mk0 (bt_ (b_ HB) hb); have BK300 := mk0 (hbox); have GW300 := n2_; have GE300 := n3_; clear n2_ n3_ hb hbox hg; obtain ⟨hcz15_0, hcz15_1, hcz15_2, hcz15_3, hfz15_0, hfz15_1, hfz15_2, hfz15_3⟩ := c4_ BK300) | ((with_reducible refine gate_callee (f := 17) rfl ?_); refine gL_ (some 4) Tryd.func17 #[.agg #[.slice A0_0 l0_0.length c0_0, .int .i64 a0_1, .slice A0_2 l0_2.length c0_2, .slice A0_3 l0_3.length c0_3], .int .i64 2, .int .i64 2] (h := ?_); (with_reducible refine (quorumlaw6_each.calls k _ _ l0_0 a0_1 _ _ l0_2 _ _ l0_3 2 2 true _ ?side1 ?side2 ?side3 ?side4 ?side5 ?side6 A2.out).mono ?_); (case side1 => exact cb_ HR0_0 HB); (case side2 => exact HC0_0.out); (case side3 => exact cb_ HR0_2 HB); (case side4 => exact HC0_2.out); (case side5 => exact cb_ HR0_3 HB); (case side6 => exact HC0_3.out); rintro e w16 ⟨rfl, hb⟩; refine ⟨_, rfl, ?_⟩; replace BK300 := mk0 (u_ BK300 hb); replace HB := mk0 (bt_ (b_ HB) hb); (try clear hb); obtain ⟨hcz17_0, hcz17_1, hcz17_2, hcz17_3, hfz17_0, hfz17_1, hfz17_2, hfz17_3⟩ := c4_ BK300) | (go_at_call 17; (with_reducible refine (quorumlaw6_each.calls k _ _ l0_0 a0_1 _ _ l0_2 _ _ l0_3 0 2 false _ ?side1 ?side2 ?side3 ?side4 ?side5 ?side6 A4.out).mono ?_); (case side1 => exact cb_ HR0_0 HB); (case side2 => exact HC0_0.out); (case side3 => exact cb_ HR0_2 HB); (case side4 => exact HC0_2.out); (case side5 => exact cb_ HR0_3 HB); (case side6 => exact HC0_3.out); rintro e w18 ⟨rfl, hb⟩; replace BK300 := mk0 (u_ BK300 hb); replace HB := mk0 (bt_ (b_ HB) hb); (try clear hb)))
   go_ret
   exact ⟨by first | rfl | (simp [errW_none, errW_some] <;> rfl) | (simp [*, errW_none, errW_some] <;> rfl), b_ HB⟩
 ·replace c3 := Bool.eq_false_iff.mpr c3
  subst c3
  rw [if_neg (show ¬ (false = true) by decide)] at H
  obtain rfl := Option.some.inj H
  go_enter Tryd.func6, Tryd.ntmps6
  go_wp2_with (first | ((with_reducible refine gate_dst (N := 1) rfl ?_); refine bx_ (N := 1) (cs := #[.slice A0_0 l0_0.length c0_0, .int .i64 a0_1, .slice A0_2 l0_2.length c0_2, .slice A0_3 l0_3.length c0_3]) (t := 28) (h := ?_); intro gb300 hg w19 hbox hb; have n2_ := mk0 (gz_ HB hg); have n3_ := mk0 (gz_ HB hg); replace HB := mk0 (bt_ (b_ HB) hb); have BK300 := mk0 (hbox); have GW300 := n2_; have GE300 := n3_; clear n2_ n3_ hb hbox hg; obtain ⟨hcz20_0, hcz20_1, hcz20_2, hcz20_3, hfz20_0, hfz20_1, hfz20_2, hfz20_3⟩ := c4_ BK300) | ((with_reducible refine gate_callee (f := 17) rfl ?_); refine gL_ (some 4) Tryd.func17 #[.agg #[.slice A0_0 l0_0.length c0_0, .int .i64 a0_1, .slice A0_2 l0_2.length c0_2, .slice A0_3 l0_3.length c0_3], .int .i64 2, .int .i64 2] (h := ?_); (with_reducible refine (quorumlaw6_each.calls k _ _ l0_0 a0_1 _ _ l0_2 _ _ l0_3 2 2 false _ ?side1 ?side2 ?side3 ?side4 ?side5 ?side6 A2.out).mono ?_); (case side1 => exact cb_ HR0_0 HB); (case side2 => exact HC0_0.out); (case side3 => exact cb_ HR0_2 HB); (case side4 => exact HC0_2.out); (case side5 => exact cb_ HR0_3 HB); (case side6 => exact HC0_3.out); rintro e w21 ⟨rfl, hb⟩; refine ⟨_, rfl, ?_⟩; replace BK300 := mk0 (u_ BK300 hb); replace HB := mk0 (bt_ (b_ HB) hb); (try clear hb)))
  go_ret
  exact ⟨by first | rfl | (simp [errW_none, errW_some] <;> rfl) | (simp [*, errW_none, errW_some] <;> rfl), b_ HB⟩

end Go.Proofs.YtkmkppchhdkipaaDoor.PTr
