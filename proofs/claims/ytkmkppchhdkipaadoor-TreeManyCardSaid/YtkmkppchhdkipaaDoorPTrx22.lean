-- PRINTED by print.py (a twelfth state) out of the translation. Not trusted: Lean checks it.
import Derived.Test.YtkmkppchhdkipaaDoorHTr0
import Derived.Test.YtkmkppchhdkipaaDoorPTrx0
import Derived.Test.YtkmkppchhdkipaaDoorShelf
import Derived.Test.YtkmkppchhdkipaaDoorPTrx2
import Derived.Test.YtkmkppchhdkipaaDoorHNodes
namespace Go.Proofs.YtkmkppchhdkipaaDoor.PTr
open Go.RowKit Go.Proofs.YtkmkppchhdkipaaDoorW.PrintWords Go.Proofs.YtkmkppchhdkipaaDoorW.PrintLast Go.Proofs.YtkmkppchhdkipaaDoorW.PrintMore
attribute [local go_sem] max2_int min2_int max_two min_two max_three min_three max_four min_four   -- for this text's walks alone
set_option linter.unusedVariables false
set_option linter.unusedSimpArgs false

/-! ### tree_May: function 52 (by hand) -/
open Classical in
noncomputable def tree_May.f (l0_0 : List (S85)) (a0_1 : Int) (l0_2 : List Int) : Option Bool := if HTree.Valid l0_0 a0_1 l0_2 then some true else none
theorem tree_May.calls (A0_0 : Option Addr) (c0_0 : Nat) (l0_0 : List (S85)) (a0_1 : Int) (A0_2 : Option Addr) (c0_2 : Nat) (l0_2 : List Int) (r : Bool) (w : World) (hr0_0 : Kd.C k85 w A0_0 l0_0.length l0_0) (hc0_0 : l0_0.length ≤ c0_0) (hr0_2 : Kd.C (Kd.int .i64) w A0_2 l0_2.length l0_2) (hc0_2 : l0_2.length ≤ c0_2) (h : tree_May.f l0_0 a0_1 l0_2 = some r) :
    Calls Tryd.prog 52 #[.agg #[.slice A0_0 l0_0.length c0_0, .int .i64 a0_1, .slice A0_2 l0_2.length c0_2]] w fun e w' => e = .returned (.bool r) ∧ Below w.heap.size w w' := by
  unfold tree_May.f at h
  split at h
  · rename_i hv
    obtain rfl := Option.some.inj h
    exact HMay.May_calls A0_0 c0_0 l0_0 a0_1 A0_2 c0_2 l0_2 w hr0_0 hc0_0 hr0_2 hc0_2 hv
  · cases h


/-! ### tree_pairs: function 79 -/
mutual
noncomputable def tree_pairs.l0 : Nat → List (S91) → List ByteArray → Int → Int → List (S85) → Int → List Int → List ByteArray → List Int → List Int → Bool → Option ((List (S91)))
 | 0, _, _, _, _, _, _, _, _, _, _, _ => none
 | k + 1, x4, x16, x17, x18, x125000, x125001, x125002, x127000, x127001, x127002, x127003 => if x18 < x17 then (if 0 ≤ x18 then (if x18 < (x16.length : Int) then (if x127003 = true then (if x18 < (x127001.length : Int) then (if x4.length < 5864062014805 then (tree_pairs.l0 k (x4 ++ [(⟨rdOf ByteArray.empty x16 x18, rd x127001 x18⟩ : S91)]) x16 x17 (wrap64 (x18 + 1)) x125000 x125001 x125002 x127000 x127001 x127002 x127003) else (none)) else (none)) else (tree_pairs.l0 k x4 x16 x17 (wrap64 (x18 + 1)) x125000 x125001 x125002 x127000 x127001 x127002 x127003)) else (none)) else (none)) else (tree_pairs.l1 k x4 x127002 (x127002.length : Int) 0 x125000 x125001 x125002)
noncomputable def tree_pairs.l1 : Nat → List (S91) → List Int → Int → Int → List (S85) → Int → List Int → Option ((List (S91)))
 | 0, _, _, _, _, _, _, _ => none
 | k + 1, x4, x37, x38, x39, x125000, x125001, x125002 => if x39 < x38 then (if 0 ≤ x39 then (if x39 < (x37.length : Int) then ((tree_pairs.f k x125000 x125001 x125002 (rd x37 x39)).bind fun t133 => (if x4.length + t133.length < 5864062014805 then (tree_pairs.l1 k (x4 ++ t133) x37 x38 (wrap64 (x39 + 1)) x125000 x125001 x125002) else (none))) else (none)) else (none)) else (some x4)
noncomputable def tree_pairs.f : Nat → List (S85) → Int → List Int → Int → Option ((List (S91)))
 | 0, _, _, _, _ => none
 | k + 1, l0_0, a0_1, l0_2, a1 => if 0 ≤ a1 then (if a1 < (l0_0.length : Int) then (tree_pairs.l0 k ([] : List (S91)) ((rd_T85 l0_0 a1).f0) (((rd_T85 l0_0 a1).f0).length : Int) 0 l0_0 a0_1 l0_2 ((rd_T85 l0_0 a1).f0) ((rd_T85 l0_0 a1).f1) ((rd_T85 l0_0 a1).f2) ((rd_T85 l0_0 a1).f3)) else (none)) else (none)
end
theorem tree_pairs.mono_l : ∀ k, (∀ y0 y1 y2 y3, LeO (tree_pairs.f k y0 y1 y2 y3) (tree_pairs.f (k + 1) y0 y1 y2 y3)) ∧ (∀ y0 y1 y2 y3 y4 y5 y6 y7 y8 y9 y10, LeO (tree_pairs.l0 k y0 y1 y2 y3 y4 y5 y6 y7 y8 y9 y10) (tree_pairs.l0 (k + 1) y0 y1 y2 y3 y4 y5 y6 y7 y8 y9 y10)) ∧ (∀ y0 y1 y2 y3 y4 y5 y6, LeO (tree_pairs.l1 k y0 y1 y2 y3 y4 y5 y6) (tree_pairs.l1 (k + 1) y0 y1 y2 y3 y4 y5 y6))
 | 0 => ⟨fun _ _ _ _ r h => by simp [tree_pairs.f] at h, fun _ _ _ _ _ _ _ _ _ _ _ r h => by simp [tree_pairs.l0] at h, fun _ _ _ _ _ _ _ r h => by simp [tree_pairs.l1] at h⟩
 | k + 1 => by
  obtain ⟨ih0, ih1, ih2⟩ := tree_pairs.mono_l k
  refine ⟨?_, ?_, ?_⟩
  ·intro y0 y1 y2 y3
   unfold tree_pairs.f
   repeat' first
   | (with_reducible exact ih0 _ _ _ _)
   | (with_reducible exact ih1 _ _ _ _ _ _ _ _ _ _ _)
   | (with_reducible exact ih2 _ _ _ _ _ _ _)
   | (with_reducible exact LeO.refl _)
   | (with_reducible exact LeO.none _)
   | (with_reducible refine LeO.ite ?_ ?_)
   | (with_reducible refine LeO.bind ?_ (fun _ => ?_))
   | exact ih0 _ _ _ _
   | exact ih1 _ _ _ _ _ _ _ _ _ _ _
   | exact ih2 _ _ _ _ _ _ _
   | exact LeO.none _
   | refine LeO.ite ?_ ?_
   | refine LeO.bind ?_ (fun _ => ?_)
  ·intro y0 y1 y2 y3 y4 y5 y6 y7 y8 y9 y10
   unfold tree_pairs.l0
   repeat' first
   | (with_reducible exact ih0 _ _ _ _)
   | (with_reducible exact ih1 _ _ _ _ _ _ _ _ _ _ _)
   | (with_reducible exact ih2 _ _ _ _ _ _ _)
   | (with_reducible exact LeO.refl _)
   | (with_reducible exact LeO.none _)
   | (with_reducible refine LeO.ite ?_ ?_)
   | (with_reducible refine LeO.bind ?_ (fun _ => ?_))
   | exact ih0 _ _ _ _
   | exact ih1 _ _ _ _ _ _ _ _ _ _ _
   | exact ih2 _ _ _ _ _ _ _
   | exact LeO.none _
   | refine LeO.ite ?_ ?_
   | refine LeO.bind ?_ (fun _ => ?_)
  ·intro y0 y1 y2 y3 y4 y5 y6
   unfold tree_pairs.l1
   repeat' first
   | (with_reducible exact ih0 _ _ _ _)
   | (with_reducible exact ih1 _ _ _ _ _ _ _ _ _ _ _)
   | (with_reducible exact ih2 _ _ _ _ _ _ _)
   | (with_reducible exact LeO.refl _)
   | (with_reducible exact LeO.none _)
   | (with_reducible refine LeO.ite ?_ ?_)
   | (with_reducible refine LeO.bind ?_ (fun _ => ?_))
   | exact ih0 _ _ _ _
   | exact ih1 _ _ _ _ _ _ _ _ _ _ _
   | exact ih2 _ _ _ _ _ _ _
   | exact LeO.none _
   | refine LeO.ite ?_ ?_
   | refine LeO.bind ?_ (fun _ => ?_)
theorem tree_pairs.mono : ∀ a0 a1 a2 a3 k, LeO (tree_pairs.f k a0 a1 a2 a3) (tree_pairs.f (k + 1) a0 a1 a2 a3) := by
 intro a0 a1 a2 a3 k
 obtain ⟨ih0, ih1, ih2⟩ := tree_pairs.mono_l k
 exact ih0 a0 a1 a2 a3
set_option maxHeartbeats 8000000 in
set_option maxRecDepth 100000 in
theorem tree_pairs.calls (k : Nat) : ∀ (A0_0 : Option Addr) (c0_0 : Nat) (l0_0 : List (S85)) (a0_1 : Int) (A0_2 : Option Addr) (c0_2 : Nat) (l0_2 : List Int) (a1 : Int) (r : List (S91)) (w : World) (hr0_0 : Kd.C k85 w A0_0 l0_0.length l0_0) (hc0_0 : l0_0.length ≤ c0_0) (hr0_2 : Kd.C (Kd.int .i64) w A0_2 l0_2.length l0_2) (hc0_2 : l0_2.length ≤ c0_2) (h : tree_pairs.f k l0_0 a0_1 l0_2 a1 = some r),
  Calls Tryd.prog 79 #[.agg #[.slice A0_0 l0_0.length c0_0, .int .i64 a0_1, .slice A0_2 l0_2.length c0_2], .int .i64 a1] w fun e w' => ∃ v0_ : Value, e = .returned (v0_) ∧ Kd.R k91 91 w' w.heap.size (fun _ => True) v0_ r ∧ Below w.heap.size w w' := by
 induction k using Nat.strongRecOn with
 | _ k ih =>
 intro A0_0 c0_0 l0_0 a0_1 A0_2 c0_2 l0_2 a1 r w hr0_0 hc0_0 hr0_2 hc0_2 h
 cases k with
 | zero => exact absurd h (by simp [tree_pairs.f])
 | succ k =>
 simp only [tree_pairs.f] at h
 have hu25 := Tryd.underlying25
 have hu85 := Tryd.underlying85
 have hu91 := Tryd.underlying91
 have HR0_0 := mk0 hr0_0
 have HC0_0 := mk0 hc0_0
 clear hr0_0 hc0_0
 have HR0_2 := mk0 hr0_2
 have HC0_2 := mk0 hc0_2
 clear hr0_2 hc0_2
 have HB := mk0 (Below.refl w.heap.size w)
 have H : (if 0 ≤ a1 then (if a1 < (l0_0.length : Int) then (tree_pairs.l0 k ([] : List (S91)) ((rd_T85 l0_0 a1).f0) (((rd_T85 l0_0 a1).f0).length : Int) 0 l0_0 a0_1 l0_2 ((rd_T85 l0_0 a1).f0) ((rd_T85 l0_0 a1).f1) ((rd_T85 l0_0 a1).f2) ((rd_T85 l0_0 a1).f3)) else (none)) else (none)) = some r := h
 clear h
 by_cases c3 : 0 ≤ a1
 ·rw [if_pos c3] at H
  have c3b0 : decide (0 ≤ a1) = true := decide_eq_true c3
  clear c3
  by_cases c4 : a1 < (l0_0.length : Int)
  ·rw [if_pos c4] at H
   have c4b0 : decide (a1 < (l0_0.length : Int)) = true := decide_eq_true c4
   clear c4
   have H' := mk0 H
   clear H
   go_enter Tryd.func79, Tryd.ntmps79
   go_wp2_with (first | ((with_reducible refine gate_dst (N := 2) rfl ?_); refine bx_ (N := 2) (cs := #[.slice A0_0 l0_0.length c0_0, .int .i64 a0_1, .slice A0_2 l0_2.length c0_2]) (t := 25) (h := ?_); intro gb124 hg w5 hbox hb; have n2_ := mk0 (gz_ HB hg); have n3_ := mk0 (gz_ HB hg); replace HB := mk0 (bt_ (b_ HB) hb); have BK124 := mk0 (hbox); have GW124 := n2_; have GE124 := n3_; clear n2_ n3_ hb hbox hg; obtain ⟨hcz6_0, hcz6_1, hcz6_2, hfz6_0, hfz6_1, hfz6_2⟩ := c3_ BK124; have p125 : 0 ≤ (a1 : Int) := of_decide_eq_true (by first | (with_reducible assumption) | assumption); have q125 : a1 < (l0_0.length : Int) := of_decide_eq_true (by first | (with_reducible assumption) | assumption); obtain ⟨ad125, A125_0, c125_0, A125_1, c125_1, A125_2, c125_2, e125, hx125_0, hx125_1, hx125_2, hx125_3, hl125_0, hi125_0, hl125_1, hi125_1, hl125_2, hi125_2⟩ := at_T85 HR0_0.out a1 p125 q125; cases e125; replace hx125_0 := (bc_ HB hx125_0 :); replace hx125_1 := (bc_ HB hx125_1 :); replace hx125_2 := (bc_ HB hx125_2 :); replace hx125_3 := (bc_ HB hx125_3 :); have HR125_0 := mk0 hi125_0; have HC125_0 := mk0 hl125_0; clear hi125_0 hl125_0; have HR125_1 := mk0 hi125_1; have HC125_1 := mk0 hl125_1; clear hi125_1 hl125_1; have HR125_2 := mk0 hi125_2; have HC125_2 := mk0 hl125_2; clear hi125_2 hl125_2; replace p125 := eq_true p125; replace q125 := eq_true q125) | ((with_reducible refine gate_dst (N := 5) rfl ?_); refine bx_ (N := 5) (cs := #[.slice none 0 0, .slice none 0 0, .slice none 0 0, .bool false]) (t := 85) (h := ?_); intro gb126 hg w7 hbox hb; have n3_ := mk0 (gz_ HB hg); have n4_ := mk0 (gz_ HB hg); have n5_ := mk0 (ne1_ BK124 hg); have n6_ := mk0 (ne2_ BK124 hg); replace BK124 := mk0 (u_ BK124 hb); replace HB := mk0 (bt_ (b_ HB) hb); have BK126 := mk0 (hbox); have GW126 := n3_; have GE126 := n4_; have NB124_126 := n5_; have NB126_124 := n6_; clear n3_ n4_ n5_ n6_ hb hbox hg; have hnb8 := NB126_124.out; have hnc8 := NB124_126.out; obtain ⟨hcz9_0, hcz9_1, hcz9_2, hcz9_3, hfz9_0, hfz9_1, hfz9_2, hfz9_3⟩ := c4_ BK126))
   go_loopg [4, 18] k (fun kq v4 v18 w' => ∃ (x4_1 : List (S91)) (x18_1 : Int), v18 = .int .i64 x18_1 ∧ Fc (tree_pairs.l0 kq x4_1 ((rd_T85 l0_0 a1).f0) (((rd_T85 l0_0 a1).f0).length : Int) x18_1 l0_0 a0_1 l0_2 ((rd_T85 l0_0 a1).f0) ((rd_T85 l0_0 a1).f1) ((rd_T85 l0_0 a1).f2) ((rd_T85 l0_0 a1).f3) = some r) ∧ Fc (kq ≤ k) ∧ Fc (Kd.R k91 91 w' w.heap.size (fun _ => True) v4 x4_1) ∧ Fc (w'.heap[gb124]? = some (.cells #[(.slice (some ad125) l0_0.length c0_0), .int .i64 a0_1, (.slice A0_2 l0_2.length c0_2)] 25 (0, 0))) ∧ Fc (w'.heap[gb126]? = some (.cells #[(.slice A125_0 ((rd_T85 l0_0 a1).f0).length c125_0), (.slice A125_1 ((rd_T85 l0_0 a1).f1).length c125_1), (.slice A125_2 ((rd_T85 l0_0 a1).f2).length c125_2), .bool ((rd_T85 l0_0 a1).f3)] 85 (0, 0))) ∧ Fc (Below w.heap.size w w'))
   case atStart => exact ⟨(([] : List (S91))), (0), (by first | rfl | (simp; done) | (simp [*]; done)), H', ⟨Nat.le_refl _⟩, ⟨by first | exact Kd.R_nil _ _ _ _ _ | exact Kd.N_nil _ _ _ _ _ | exact Kd.V_nil _ _ _ _ _ | exact Kd.Q_nil _ _ _ _ _ | exact Kd.S_nil _ _ _ _ _⟩, ⟨(fa_ (fa_ (fa_ (fa_ (h_ BK124) NB124_126.out) NB124_126.out) NB124_126.out) NB124_126.out)⟩, ⟨(pu_ (cs := #[.slice A125_0 ((rd_T85 l0_0 a1).f0).length c125_0, .slice A125_1 ((rd_T85 l0_0 a1).f1).length c125_1, .slice A125_2 ((rd_T85 l0_0 a1).f2).length c125_2, .bool false]) (pu_ (cs := #[.slice A125_0 ((rd_T85 l0_0 a1).f0).length c125_0, .slice A125_1 ((rd_T85 l0_0 a1).f1).length c125_1, .slice none 0 0, .bool false]) (pu_ (cs := #[.slice A125_0 ((rd_T85 l0_0 a1).f0).length c125_0, .slice none 0 0, .slice none 0 0, .bool false]) (pu_ (cs := #[.slice none 0 0, .slice none 0 0, .slice none 0 0, .bool false]) (h_ BK126)))))⟩, ⟨b_ HB⟩⟩
   case round =>
    clear H'
    try clear c3
    try clear c3b0
    try clear c4
    try clear c4b0
    try clear hcz6_0
    try clear hcz6_1
    try clear hcz6_2
    try clear hcz9_0
    try clear hcz9_1
    try clear hcz9_2
    try clear hcz9_3
    try clear hfz6_0
    try clear hfz6_1
    try clear hfz6_2
    try clear hfz9_0
    try clear hfz9_1
    try clear hfz9_2
    try clear hfz9_3
    try clear hx125_0
    try clear hx125_1
    try clear hx125_2
    try clear hx125_3
    try clear p125
    try clear q125
    obtain ⟨x4_1, x18_1, rfl, HA, HK1, HO_4, BK124, BK126, HB⟩ := hrel
    cases gk with
    | zero => exact absurd HA.out (by simp [tree_pairs.l0])
    | succ k1 =>
     have H := HA.out
     clear HA
     simp only [tree_pairs.l0] at H
     as_aux_lemma =>
      by_cases c10 : x18_1 < (((rd_T85 l0_0 a1).f0).length : Int)
      ·rw [if_pos c10] at H
       have c10b0 : decide (x18_1 < (((rd_T85 l0_0 a1).f0).length : Int)) = true := decide_eq_true c10
       clear c10
       by_cases c11 : 0 ≤ x18_1
       ·rw [if_pos c11] at H
        have c11b0 : decide (0 ≤ x18_1) = true := decide_eq_true c11
        clear c11
        by_cases c12 : x18_1 < (((rd_T85 l0_0 a1).f0).length : Int)
        ·rw [if_pos c12] at H
         have c12b0 : decide (x18_1 < (((rd_T85 l0_0 a1).f0).length : Int)) = true := decide_eq_true c12
         clear c12
         by_cases c13 : ((rd_T85 l0_0 a1).f3) = true
         ·rw [if_pos c13] at H
          have c13q := Aside0.mk (show ((rd_T85 l0_0 a1).f3) = true from c13)
          clear c13
          by_cases c14 : x18_1 < (((rd_T85 l0_0 a1).f1).length : Int)
          ·rw [if_pos c14] at H
           have c14b0 : decide (x18_1 < (((rd_T85 l0_0 a1).f1).length : Int)) = true := decide_eq_true c14
           clear c14
           by_cases c15 : x4_1.length < 5864062014805
           ·rw [if_pos c15] at H
            have LMc15 := mk0 c15
            clear c15
            obtain ⟨y129, hy129⟩ : ∃ y_ : List (S91), y_ = (x4_1 ++ [(⟨rdOf ByteArray.empty ((rd_T85 l0_0 a1).f0) x18_1, rd ((rd_T85 l0_0 a1).f1) x18_1⟩ : S91)]) := ⟨_, rfl⟩
            replace H : (tree_pairs.l0 k1 y129 ((rd_T85 l0_0 a1).f0) (((rd_T85 l0_0 a1).f0).length : Int) (wrap64 (x18_1 + 1)) l0_0 a0_1 l0_2 ((rd_T85 l0_0 a1).f0) ((rd_T85 l0_0 a1).f1) ((rd_T85 l0_0 a1).f2) ((rd_T85 l0_0 a1).f3)) = some r := by first | (rw [hy129]; with_reducible exact H) | (have H2_ := (Option.bind_some _ _).symm.trans H; rw [hy129]; with_reducible exact H2_) | (have H2_ := (Option.bind_some _ _).symm.trans H; with_reducible exact H2_) | with_reducible exact H | (rw [hy129]; exact H) | exact H
            have Ny129 := mk0 hy129
            clear hy129
            have H' := mk0 H
            clear H
            have p127 : 0 ≤ (x18_1 : Int) := of_decide_eq_true (by first | (with_reducible assumption) | assumption)
            have q127 : x18_1 < (((rd_T85 l0_0 a1).f0).length : Int) := of_decide_eq_true (by first | (with_reducible assumption) | assumption)
            obtain ⟨ad127, e127, hx127_0⟩ := Kd.at_string HR125_0.out x18_1 p127 q127
            cases e127
            replace hx127_0 := (bc_ HB hx127_0 :)
            replace p127 := eq_true p127
            replace q127 := eq_true q127
            have hnb16 := NB126_124.out
            have hnc16 := NB124_126.out
            obtain ⟨hcz17_0, hcz17_1, hcz17_2, hcz17_3, hfz17_0, hfz17_1, hfz17_2, hfz17_3⟩ := c4_ BK126
            rw [c13q.out] at hcz17_3
            have p128 : 0 ≤ (x18_1 : Int) := of_decide_eq_true (by first | (with_reducible assumption) | assumption)
            have q128 : x18_1 < (((rd_T85 l0_0 a1).f1).length : Int) := of_decide_eq_true (by first | (with_reducible assumption) | assumption)
            obtain ⟨ad128, e128, hx128_0⟩ := Kd.at_int HR125_1.out x18_1 p128 q128
            cases e128
            replace hx128_0 := (bc_ HB hx128_0 :)
            replace p128 := eq_true p128
            replace q128 := eq_true q128
            go_wp2_with (first | ((with_reducible refine gate_builtin (b := .append) (xs := #[.tmp 25, .tmp 33]) rfl ?_); at_builtin; refine Kd.R_append k91 (w0 := w) w.heap.size rfl (.tmp 25) (.tmp 33) 75 91 (.agg #[(.string ⟨#[]⟩), (.int .i64 0)]) 24 rfl Tryd.underlying75 info91 rfl (by decide) (by omega) u4 x4_1 (⟨rdOf ByteArray.empty ((rd_T85 l0_0 a1).f0) x18_1, rd ((rd_T85 l0_0 a1).f1) x18_1⟩ : S91) [.string (rdOf ByteArray.empty ((rd_T85 l0_0 a1).f0) x18_1), .int .i64 (rd ((rd_T85 l0_0 a1).f1) x18_1)] (fun _ => True) (fun _ => False) rfl rfl ?aP (fun _ hk => hk.elim) ?aF ?aO ?aB ?aS ?aL ?_; (case aP => exact k91_mkM _ _ _ (⟨rdOf ByteArray.empty ((rd_T85 l0_0 a1).f0) x18_1, rd ((rd_T85 l0_0 a1).f1) x18_1⟩ : S91)); (case aB => exact (b_ HB)); (case aF => exact (fun _ _ => trivial)); (case aO => exact (r_ HO_4)); (case aS => exact (bz_ (b_ HB))); (case aL => have := LMc15.out; omega); intro v130 w18 ho hb hg hat; rw [← Ny129.out] at ho; replace BK124 := mk0 (blk_grown (g := gb124) (o := .cells #[.slice (some ad125) l0_0.length c0_0, .int .i64 a0_1, .slice A0_2 l0_2.length c0_2] 25 (0, 0)) (h_ BK124) hg (Kd.R_ne HO_4.out BK124.out (by decide))); replace BK126 := mk0 (blk_grown (g := gb126) (o := .cells #[.slice (some ad127) ((rd_T85 l0_0 a1).f0).length c125_0, .slice (some ad128) ((rd_T85 l0_0 a1).f1).length c125_1, .slice A125_2 ((rd_T85 l0_0 a1).f2).length c125_2, .bool ((rd_T85 l0_0 a1).f3)] 85 (0, 0)) (h_ BK126) hg (Kd.R_ne HO_4.out BK126.out (by decide))); replace HB := mk0 (hb); have HO131 := mk0 (ho); clear HO_4; clear ho hb hg hat))
            go_roundg k1
            case measure => have := HK1.out; omega
            case rel => exact ⟨(y129), (wrap64 (x18_1 + 1)), (by first | rfl | (simp; done) | (simp [*]; done)), H', ⟨by have := HK1.out; omega⟩, ⟨by (with_reducible repeat (first | apply Ra_ | apply Rn_ | apply Rd_)); exact HO131.out⟩, ⟨h_ BK124⟩, ⟨h_ BK126⟩, ⟨b_ HB⟩⟩
           ·rw [if_neg c15] at H
            exact absurd H (by simp)
          ·rw [if_neg c14] at H
           exact absurd H (by simp)
         ·rw [if_neg c13] at H
          have c13q := Aside0.mk (show ((rd_T85 l0_0 a1).f3) = false from (by simpa using c13))
          clear c13
          have H' := mk0 H
          clear H
          have p127 : 0 ≤ (x18_1 : Int) := of_decide_eq_true (by first | (with_reducible assumption) | assumption)
          have q127 : x18_1 < (((rd_T85 l0_0 a1).f0).length : Int) := of_decide_eq_true (by first | (with_reducible assumption) | assumption)
          obtain ⟨ad127, e127, hx127_0⟩ := Kd.at_string HR125_0.out x18_1 p127 q127
          cases e127
          replace hx127_0 := (bc_ HB hx127_0 :)
          replace p127 := eq_true p127
          replace q127 := eq_true q127
          have hnb19 := NB126_124.out
          have hnc19 := NB124_126.out
          obtain ⟨hcz20_0, hcz20_1, hcz20_2, hcz20_3, hfz20_0, hfz20_1, hfz20_2, hfz20_3⟩ := c4_ BK126
          rw [c13q.out] at hcz20_3
          go_wp2
          go_roundg k1
          case measure => have := HK1.out; omega
          case rel => exact ⟨(x4_1), (wrap64 (x18_1 + 1)), (by first | rfl | (simp; done) | (simp [*]; done)), H', ⟨by have := HK1.out; omega⟩, ⟨by (with_reducible repeat (first | apply Ra_ | apply Rn_ | apply Rd_)); exact HO_4.out⟩, ⟨h_ BK124⟩, ⟨h_ BK126⟩, ⟨b_ HB⟩⟩
        ·rw [if_neg c12] at H
         exact absurd H (by simp)
       ·rw [if_neg c11] at H
        exact absurd H (by simp)
      ·rw [if_neg c10] at H
       have c10b0 : decide (x18_1 < (((rd_T85 l0_0 a1).f0).length : Int)) = false := decide_eq_false c10
       clear c10
       have H' := mk0 H
       clear H
       have hnb21 := NB126_124.out
       have hnc21 := NB124_126.out
       obtain ⟨hcz22_0, hcz22_1, hcz22_2, hcz22_3, hfz22_0, hfz22_1, hfz22_2, hfz22_3⟩ := c4_ BK126
       go_wp2
       go_loopg [4, 39] k1 (fun kq v4 v39 w' => ∃ (x4_2 : List (S91)) (x39_2 : Int), v39 = .int .i64 x39_2 ∧ Fc (tree_pairs.l1 kq x4_2 ((rd_T85 l0_0 a1).f2) (((rd_T85 l0_0 a1).f2).length : Int) x39_2 l0_0 a0_1 l0_2 = some r) ∧ Fc (kq ≤ k1) ∧ Fc (Kd.R k91 91 w' w.heap.size (fun _ => True) v4 x4_2) ∧ Fc (w'.heap[gb124]? = some (.cells #[(.slice (some ad125) l0_0.length c0_0), .int .i64 a0_1, (.slice A0_2 l0_2.length c0_2)] 25 (0, 0))) ∧ Fc (w'.heap[gb126]? = some (.cells #[(.slice A125_0 ((rd_T85 l0_0 a1).f0).length c125_0), (.slice A125_1 ((rd_T85 l0_0 a1).f1).length c125_1), (.slice A125_2 ((rd_T85 l0_0 a1).f2).length c125_2), .bool ((rd_T85 l0_0 a1).f3)] 85 (0, 0))) ∧ Fc (Below w.heap.size w w'))
       case atStart => exact ⟨(x4_1), (0), (by first | rfl | (simp; done) | (simp [*]; done)), H', ⟨Nat.le_refl _⟩, ⟨by (with_reducible repeat (first | apply Ra_ | apply Rn_ | apply Rd_)); exact HO_4.out⟩, ⟨h_ BK124⟩, ⟨h_ BK126⟩, ⟨b_ HB⟩⟩
       case round =>
        clear H'
        try clear c3
        try clear c3b0
        try clear c4
        try clear c4b0
        try clear c10
        try clear c10b0
        try clear c11
        try clear c11b0
        try clear c12
        try clear c12b0
        try clear c13
        try clear c13b0
        try clear c14
        try clear c14b0
        try clear c15
        try clear hcz17_0
        try clear hcz17_1
        try clear hcz17_2
        try clear hcz17_3
        try clear hcz20_0
        try clear hcz20_1
        try clear hcz20_2
        try clear hcz20_3
        try clear hcz22_0
        try clear hcz22_1
        try clear hcz22_2
        try clear hcz22_3
        try clear hcz6_0
        try clear hcz6_1
        try clear hcz6_2
        try clear hcz9_0
        try clear hcz9_1
        try clear hcz9_2
        try clear hcz9_3
        try clear hfz17_0
        try clear hfz17_1
        try clear hfz17_2
        try clear hfz17_3
        try clear hfz20_0
        try clear hfz20_1
        try clear hfz20_2
        try clear hfz20_3
        try clear hfz22_0
        try clear hfz22_1
        try clear hfz22_2
        try clear hfz22_3
        try clear hfz6_0
        try clear hfz6_1
        try clear hfz6_2
        try clear hfz9_0
        try clear hfz9_1
        try clear hfz9_2
        try clear hfz9_3
        try clear hx125_0
        try clear hx125_1
        try clear hx125_2
        try clear hx125_3
        try clear hx127_0
        try clear hx128_0
        try clear p125
        try clear p127
        try clear p128
        try clear q125
        try clear q127
        try clear q128
        obtain ⟨x4_2, x39_2, rfl, HA, HK2, HO_4, BK124, BK126, HB⟩ := hrel
        cases gk with
        | zero => exact absurd HA.out (by simp [tree_pairs.l1])
        | succ k2 =>
         have H := HA.out
         clear HA
         simp only [tree_pairs.l1] at H
         as_aux_lemma =>
          by_cases c23 : x39_2 < (((rd_T85 l0_0 a1).f2).length : Int)
          ·rw [if_pos c23] at H
           have c23b0 : decide (x39_2 < (((rd_T85 l0_0 a1).f2).length : Int)) = true := decide_eq_true c23
           clear c23
           by_cases c24 : 0 ≤ x39_2
           ·rw [if_pos c24] at H
            have c24b0 : decide (0 ≤ x39_2) = true := decide_eq_true c24
            clear c24
            by_cases c25 : x39_2 < (((rd_T85 l0_0 a1).f2).length : Int)
            ·rw [if_pos c25] at H
             have c25b0 : decide (x39_2 < (((rd_T85 l0_0 a1).f2).length : Int)) = true := decide_eq_true c25
             clear c25
             replace H := Option.bind_eq_some_iff.mp H
             obtain ⟨t133, A260, H⟩ := H
             try dsimp only at H
             have A26 := mk0 A260
             clear A260
             by_cases c27 : x4_2.length + t133.length < 5864062014805
             ·rw [if_pos c27] at H
              have LMc27 := mk0 c27
              clear c27
              obtain ⟨y136, hy136⟩ : ∃ y_ : List (S91), y_ = (x4_2 ++ t133) := ⟨_, rfl⟩
              replace H : (tree_pairs.l1 k2 y136 ((rd_T85 l0_0 a1).f2) (((rd_T85 l0_0 a1).f2).length : Int) (wrap64 (x39_2 + 1)) l0_0 a0_1 l0_2) = some r := by first | (rw [hy136]; with_reducible exact H) | (have H2_ := (Option.bind_some _ _).symm.trans H; rw [hy136]; with_reducible exact H2_) | (have H2_ := (Option.bind_some _ _).symm.trans H; with_reducible exact H2_) | with_reducible exact H | (rw [hy136]; exact H) | exact H
              have Ny136 := mk0 hy136
              clear hy136
              have H' := mk0 H
              clear H
              have p132 : 0 ≤ (x39_2 : Int) := of_decide_eq_true (by first | (with_reducible assumption) | assumption)
              have q132 : x39_2 < (((rd_T85 l0_0 a1).f2).length : Int) := of_decide_eq_true (by first | (with_reducible assumption) | assumption)
              obtain ⟨ad132, e132, hx132_0⟩ := Kd.at_int HR125_2.out x39_2 p132 q132
              cases e132
              replace hx132_0 := (bc_ HB hx132_0 :)
              replace p132 := eq_true p132
              replace q132 := eq_true q132
              have hnb28 := NB124_126.out
              have hnc28 := NB126_124.out
              obtain ⟨hcz29_0, hcz29_1, hcz29_2, hfz29_0, hfz29_1, hfz29_2⟩ := c3_ BK124
              go_wp2_with (first | ((with_reducible refine gate_callee (f := 79) rfl ?_); refine gL_ (some 46) Tryd.func79 #[.agg #[.slice (some ad125) l0_0.length c0_0, .int .i64 a0_1, .slice A0_2 l0_2.length c0_2], .int .i64 (rd ((rd_T85 l0_0 a1).f2) x39_2)] (h := ?_); (with_reducible refine (ih k2 (by have := HK1.out; have := HK2.out; omega) _ _ l0_0 a0_1 _ _ l0_2 (rd ((rd_T85 l0_0 a1).f2) x39_2) t133 _ ?side1 ?side2 ?side3 ?side4 A26.out).mono ?_); (case side1 => exact cb_ HR0_0 HB); (case side2 => exact HC0_0.out); (case side3 => exact cb_ HR0_2 HB); (case side4 => exact HC0_2.out); rintro e w30 ⟨v134, rfl, ho0, hb⟩; refine ⟨_, rfl, ?_⟩; have n1_ := mk0 (Kd.R_lower (Kd.R_new' ho0 (Kd.R_lt (r_ HO_4))) (bz_ (b_ HB))); replace HO_4 := mk0 (Kd.R_elder' (r_ HO_4) (Kd.R_base ho0) hb); replace BK124 := mk0 (u_ BK124 hb); replace BK126 := mk0 (u_ BK126 hb); replace HB := mk0 (bt_ (b_ HB) hb); have HO135 := n1_; clear n1_; (try clear hb); (try clear ho0); obtain ⟨Ao32, co32, eo32⟩ := Kd.R_slice HO135.out; subst eo32) | ((with_reducible refine gate_builtin (b := .append) (xs := #[.tmp 43, .tmp 46]) rfl ?_); at_builtin; refine Kd.R_append_rows k91 (w0 := w) w.heap.size rfl (.tmp 43) (.tmp 46) 75 91 (.agg #[(.string ⟨#[]⟩), (.int .i64 0)]) 24 rfl Tryd.underlying75 info91 rfl (by decide) (by omega) u4 x4_2 t133 _ _ _ (fun k_ => some k_ ≠ (.slice Ao32 t133.length co32 : Value).ownBlock) (fun _ => False) rfl rfl ?aO ?aR (fun _ _ h => h) (fun _ h => h.elim) ?aF ?aB ?aS ?aL ?_; (case aR => repeat (first | exact (Kd.R_reads' HO135.out).2.2 | (with_reducible refine Kd.C_alloc ?_ _) | (with_reducible refine Kd.C_drewN ?_ _) | (with_reducible refine Kd.C_drew ?_))); (case aB => exact (b_ HB)); (case aF => exact (fun k_ hk => Kd.fresh' (Kd.R_lt (r_ HO135)) k_ hk)); (case aO => exact (r2_ (Kd.R_mono HO_4.out (fun _ hk => hk.2)))); (case aS => exact (bz_ (b_ HB))); (case aL => have := LMc27.out; omega); intro v137 w31 ho hb hg hat; rw [← Ny136.out] at ho; replace BK124 := mk0 (blk_grown (g := gb124) (o := .cells #[.slice (some ad125) l0_0.length c0_0, .int .i64 a0_1, .slice A0_2 l0_2.length c0_2] 25 (0, 0)) (h_ BK124) hg (Kd.R_ne HO_4.out BK124.out (by decide))); replace BK126 := mk0 (blk_grown (g := gb126) (o := .cells #[.slice A125_0 ((rd_T85 l0_0 a1).f0).length c125_0, .slice A125_1 ((rd_T85 l0_0 a1).f1).length c125_1, .slice (some ad132) ((rd_T85 l0_0 a1).f2).length c125_2, .bool ((rd_T85 l0_0 a1).f3)] 85 (0, 0)) (h_ BK126) hg (Kd.R_ne HO_4.out BK126.out (by decide))); replace HO135 := mk0 (Kd.R_after (ok := (fun _ => True)) (r_ HO135) hg hat); replace HB := mk0 (hb); have HO138 := mk0 (ho); clear HO_4; clear ho hb hg hat))
              go_roundg k2
              case measure => have := HK1.out; have := HK2.out; omega
              case rel => exact ⟨(y136), (wrap64 (x39_2 + 1)), (by first | rfl | (simp; done) | (simp [*]; done)), H', ⟨by have := HK1.out; have := HK2.out; omega⟩, ⟨by (with_reducible repeat (first | apply Ra_ | apply Rn_ | apply Rd_)); exact Kd.R_mono HO138.out (fun _ hk => trivial)⟩, ⟨h_ BK124⟩, ⟨h_ BK126⟩, ⟨b_ HB⟩⟩
             ·rw [if_neg c27] at H
              exact absurd H (by simp)
            ·rw [if_neg c25] at H
             exact absurd H (by simp)
           ·rw [if_neg c24] at H
            exact absurd H (by simp)
          ·rw [if_neg c23] at H
           have c23b0 : decide (x39_2 < (((rd_T85 l0_0 a1).f2).length : Int)) = false := decide_eq_false c23
           clear c23
           obtain rfl := Option.some.inj H
           go_wp2
           go_ret
           exact ⟨_, by first | rfl | (simp [errW_none, errW_some] <;> rfl) | (simp [*, errW_none, errW_some] <;> rfl), by (with_reducible repeat (first | apply Ra_ | apply Rn_ | apply Rd_)); exact HO_4.out, b_ HB⟩
  ·rw [if_neg c4] at H
   exact absurd H (by simp)
 ·rw [if_neg c3] at H
  exact absurd H (by simp)

/-! ### tree_Pairs: function 53 -/
noncomputable def tree_Pairs.f (k : Nat) (l0_0 : List (S85)) (a0_1 : Int) (l0_2 : List Int) : Option ((List (S91))) := (tree_pairs.f k l0_0 a0_1 l0_2 a0_1).bind fun t140 => (some t140)
theorem tree_Pairs.mono : ∀ a0 a1 a2 k, LeO (tree_Pairs.f k a0 a1 a2) (tree_Pairs.f (k + 1) a0 a1 a2) := by
 intro a0 a1 a2 k
 unfold tree_Pairs.f
 repeat' first
   | (with_reducible exact tree_pairs.mono _ _ _ _ _)
   | (with_reducible exact LeO.refl _)
   | (with_reducible exact LeO.none _)
   | (with_reducible refine LeO.ite ?_ ?_)
   | (with_reducible refine LeO.bind ?_ (fun _ => ?_))
   | exact tree_pairs.mono _ _ _ _ _
   | exact LeO.none _
   | refine LeO.ite ?_ ?_
   | refine LeO.bind ?_ (fun _ => ?_)
set_option maxHeartbeats 8000000 in
set_option maxRecDepth 100000 in
theorem tree_Pairs.calls (k : Nat) (A0_0 : Option Addr) (c0_0 : Nat) (l0_0 : List (S85)) (a0_1 : Int) (A0_2 : Option Addr) (c0_2 : Nat) (l0_2 : List Int) (r : List (S91)) (w : World) (hr0_0 : Kd.C k85 w A0_0 l0_0.length l0_0) (hc0_0 : l0_0.length ≤ c0_0) (hr0_2 : Kd.C (Kd.int .i64) w A0_2 l0_2.length l0_2) (hc0_2 : l0_2.length ≤ c0_2) (h : tree_Pairs.f k l0_0 a0_1 l0_2 = some r) :
  Calls Tryd.prog 53 #[.agg #[.slice A0_0 l0_0.length c0_0, .int .i64 a0_1, .slice A0_2 l0_2.length c0_2]] w fun e w' => ∃ v0_ : Value, e = .returned (v0_) ∧ Kd.R k91 91 w' w.heap.size (fun _ => True) v0_ r ∧ Below w.heap.size w w' := by
 have hu25 := Tryd.underlying25
 have HR0_0 := mk0 hr0_0
 have HC0_0 := mk0 hc0_0
 clear hr0_0 hc0_0
 have HR0_2 := mk0 hr0_2
 have HC0_2 := mk0 hc0_2
 clear hr0_2 hc0_2
 have HB := mk0 (Below.refl w.heap.size w)
 have H : ((tree_pairs.f k l0_0 a0_1 l0_2 a0_1).bind fun t140 => (some t140)) = some r := h
 clear h
 replace H := Option.bind_eq_some_iff.mp H
 obtain ⟨t140, A20, H⟩ := H
 try dsimp only at H
 have A2 := mk0 A20
 clear A20
 obtain rfl := Option.some.inj H
 go_enter Tryd.func53, Tryd.ntmps53
 go_wp2_with (first | ((with_reducible refine gate_dst (N := 1) rfl ?_); refine bx_ (N := 1) (cs := #[.slice A0_0 l0_0.length c0_0, .int .i64 a0_1, .slice A0_2 l0_2.length c0_2]) (t := 25) (h := ?_); intro gb139 hg w3 hbox hb; have n2_ := mk0 (gz_ HB hg); have n3_ := mk0 (gz_ HB hg); replace HB := mk0 (bt_ (b_ HB) hb); have BK139 := mk0 (hbox); have GW139 := n2_; have GE139 := n3_; clear n2_ n3_ hb hbox hg; obtain ⟨hcz4_0, hcz4_1, hcz4_2, hfz4_0, hfz4_1, hfz4_2⟩ := c3_ BK139) | ((with_reducible refine gate_callee (f := 79) rfl ?_); refine gL_ (some 6) Tryd.func79 #[.agg #[.slice A0_0 l0_0.length c0_0, .int .i64 a0_1, .slice A0_2 l0_2.length c0_2], .int .i64 a0_1] (h := ?_); (with_reducible refine (tree_pairs.calls k _ _ l0_0 a0_1 _ _ l0_2 a0_1 t140 _ ?side1 ?side2 ?side3 ?side4 A2.out).mono ?_); (case side1 => exact cb_ HR0_0 HB); (case side2 => exact HC0_0.out); (case side3 => exact cb_ HR0_2 HB); (case side4 => exact HC0_2.out); rintro e w5 ⟨v141, rfl, ho0, hb⟩; refine ⟨_, rfl, ?_⟩; have n0_ := mk0 (Kd.R_lower ho0 (bz_ (b_ HB))); replace BK139 := mk0 (u_ BK139 hb); replace HB := mk0 (bt_ (b_ HB) hb); have HO142 := n0_; clear n0_; (try clear hb); (try clear ho0)))
 go_ret
 exact ⟨_, by first | rfl | (simp [errW_none, errW_some] <;> rfl) | (simp [*, errW_none, errW_some] <;> rfl), by (with_reducible repeat (first | apply Ra_ | apply Rn_ | apply Rd_)); exact HO142.out, b_ HB⟩

-- NOT PRINTED: function 107 (bytealg_abigen_runtime_cmpstring)

-- NOT PRINTED: function 99 (bytealg_CompareString)

-- NOT PRINTED: function 88 (strings_Compare)

-- NOT PRINTED: function 87 (tree_Seek_1)

/-! ### tree_Pair_string: function 86 (by hand) -/
noncomputable def tree_Pair_string.cmp (a b : ByteArray) : Int := Lib.compareBytes a.data.toList b.data.toList
noncomputable def tree_Pair_string.bs (l : List (S91)) (k : ByteArray) : Nat → Nat → Nat → Nat
  | 0, i, _ => i
  | f + 1, i, j => if i < j then (if tree_Pair_string.cmp (rd_T91 l (((i + j) / 2 : Nat) : Int)).f0 k < 0 then tree_Pair_string.bs l k f ((i + j) / 2 + 1) j else tree_Pair_string.bs l k f i ((i + j) / 2)) else i
noncomputable def tree_Pair_string.f (l0 : List (S91)) (a1 : ByteArray) : Option (Int × Bool) :=
  some ((tree_Pair_string.bs l0 a1 l0.length 0 l0.length : Nat), decide (tree_Pair_string.bs l0 a1 l0.length 0 l0.length < l0.length) && (tree_Pair_string.cmp (rd_T91 l0 ((tree_Pair_string.bs l0 a1 l0.length 0 l0.length : Nat) : Int)).f0 a1 == 0))
theorem tree_Pair_string.clo (s : ByteArray) (t : Int) (k : ByteArray) (W : World) : Calls Tryd.prog 87 #[.agg #[.string s, .int .i64 t], .string k] W fun e W' => e = .returned (.int .i64 (tree_Pair_string.cmp s k)) ∧ Below W.heap.size W W' := by
  have hcmp := fun W' => Go.Proofs.Any.strings_Compare Tryd.strCmp s k W'
  change ∀ W', Calls Tryd.prog 88 _ _ _ at hcmp
  unfold tree_Pair_string.cmp
  generalize Lib.compareBytes s.data.toList k.data.toList = q at hcmp ⊢
  have HB := Aside0.mk (Below.refl W.heap.size W)
  go_enter Tryd.func87, Tryd.ntmps87
  go_wp2_with (first | (go_at_call 88; refine (hcmp _).mono ?_; rintro e w' ⟨rfl, rfl⟩) | go_in)
  go_ret
  exact ⟨rfl, by repeat (first | (with_reducible first | exact HB.out | apply bL_ | apply pN_ | apply b1_) | exact HB.out)⟩
set_option maxHeartbeats 4000000 in
set_option maxRecDepth 100000 in
theorem tree_Pair_string.calls (A0 : Option Addr) (c0 : Nat) (l0 : List (S91)) (a1 : ByteArray) (r1 : Int) (r2 : Bool) (w : World) (hr0 : Kd.C k91 w A0 l0.length l0) (hc0 : l0.length ≤ c0) (h : tree_Pair_string.f l0 a1 = some (r1, r2)) :
    Calls Tryd.prog 86 #[.slice A0 l0.length c0, .string a1, .func (Fn.func 87) #[] #[]] w fun e w' => e = .returned (.tuple #[.int .i64 r1, .bool r2]) ∧ Below w.heap.size w w' := by
  have hlen := hr0.2.1
  have eg : ∀ args w, (callFunc 87 args).run Tryd.prog w = .ok (.enter 87 args) w := enters_of Tryd.func87 (by kernel_rfl) rfl
  have HR0 := Aside0.mk hr0
  have HC0 := Aside0.mk hc0
  have HL := Aside0.mk hlen
  have HH := Aside0.mk h
  clear hr0 hc0 h hlen
  have HP := Aside0.mk (tree_Pair_string.clo)
  have HB := Aside0.mk (Below.refl w.heap.size w)
  go_enter Tryd.func86, Tryd.ntmps86
  go_wp2
  go_loopg [9, 10] l0.length (fun kq v9 v10 w' => ∃ (i j : Nat), v9 = .int .i64 i ∧ v10 = .int .i64 j ∧ Aside0 (i ≤ j ∧ j ≤ l0.length) ∧ Aside0 (j - i ≤ kq) ∧ Aside0 (tree_Pair_string.bs l0 a1 kq i j = tree_Pair_string.bs l0 a1 l0.length 0 l0.length) ∧ Aside0 (Below w.heap.size w w'))
  case atStart => exact ⟨0, l0.length, rfl, rfl, ⟨by omega, by omega⟩, ⟨by omega⟩, ⟨rfl⟩, HB⟩
  case round =>
    clear HB
    obtain ⟨i, j, rfl, rfl, HI, HK, HS, HB⟩ := hrel
    by_cases hij : i < j
    · cases gk with
      | zero => exact absurd HK.out (by omega)
      | succ k1 =>
        have hi2 := HI.out
        have hl2 := HL.out
        have hm : wrap64 (IntKind.u64.wrap (wrap64 ((i : Int) + (j : Int))) / 2) = (((i + j) / 2 : Nat) : Int) := by
          have e : IntKind.u64.wrap (wrap64 ((i : Int) + (j : Int))) = (i : Int) + (j : Int) := by
            simp only [IntKind.wrap, IntKind.signed, IntKind.bits]
            unfold wrap64
            simp
            omega
          rw [e]
          unfold wrap64
          omega
        obtain ⟨m, hmd⟩ : ∃ m, m = (i + j) / 2 := ⟨_, rfl⟩
        rw [← hmd] at hm
        have p200 : (0:Int) ≤ (m : Int) := by omega
        have q200 : (m:Int) < (l0.length : Int) := by omega
        obtain ⟨ad, e1, hx0, hx1⟩ := at_T91 HR0.out (m:Int) p200 q200
        cases e1
        replace hx0 := (HB.out.cell (World.block_lt_of_cell? w _ hx0)).trans hx0
        replace hx1 := (HB.out.cell (World.block_lt_of_cell? w _ hx1)).trans hx1
        have hcall := HP.out (rd_T91 l0 (m : Int)).f0 (rd_T91 l0 (m : Int)).f1 a1 wr
        have HM := Aside0.mk hmd
        have HJ := Aside0.mk hij
        clear hi2 hl2 hmd
        simp only [Int.toNat_natCast] at hx0 hx1
        go_wp2_with ((with_reducible refine hcall.mono ?_); rintro e w' ⟨rfl, hb'⟩)
        all_goals go_roundg k1
        case measure => omega
        case measure => omega
        all_goals rename_i hcm
        all_goals have hi2 := HI.out
        all_goals have hl2 := HL.out
        all_goals have hm2 := HM.out
        all_goals have hj2 := HJ.out
        all_goals have hk2 := HK.out
        all_goals have hs2 := HS.out
        · refine ⟨m + 1, j, ?_, rfl, ⟨by omega, by omega⟩, ⟨by omega⟩, ⟨?_⟩, ⟨HB.out.trans (hb'.mono HB.out.size)⟩⟩
          · congr 1
            unfold wrap64
            omega
          · rw [← hs2]
            show _ = tree_Pair_string.bs l0 a1 (k1 + 1) i j
            rw [tree_Pair_string.bs, if_pos hij, ← hm2, if_pos hcm]
        · refine ⟨i, m, rfl, rfl, ⟨by omega, by omega⟩, ⟨by omega⟩, ⟨?_⟩, ⟨HB.out.trans (hb'.mono HB.out.size)⟩⟩
          rw [← hs2]
          show _ = tree_Pair_string.bs l0 a1 (k1 + 1) i j
          rw [tree_Pair_string.bs, if_pos hij, ← hm2, if_neg (by omega)]
    · have hi2 := HI.out
      obtain rfl : i = j := by omega
      have hbs : tree_Pair_string.bs l0 a1 gk i i = i := by cases gk <;> simp [tree_Pair_string.bs]
      have hf := HH.out
      unfold tree_Pair_string.f at hf
      rw [← HS.out, hbs] at hf
      simp only [Option.some.injEq, Prod.mk.injEq] at hf
      obtain ⟨rfl, rfl⟩ := hf
      clear hbs
      by_cases hi : i < l0.length
      · have p200 : (0:Int) ≤ (i : Int) := by omega
        have q200 : (i:Int) < (l0.length : Int) := by omega
        obtain ⟨ad, e1, hx0, hx1⟩ := at_T91 HR0.out (i:Int) p200 q200
        cases e1
        replace hx0 := (HB.out.cell (World.block_lt_of_cell? w _ hx0)).trans hx0
        replace hx1 := (HB.out.cell (World.block_lt_of_cell? w _ hx1)).trans hx1
        have hcall := HP.out (rd_T91 l0 (i : Int)).f0 (rd_T91 l0 (i : Int)).f1 a1 wr
        clear hi2
        simp only [Int.toNat_natCast] at hx0 hx1
        go_wp2_with ((with_reducible refine hcall.mono ?_); rintro e w' ⟨rfl, hb'⟩)
        go_ret2
        exact ⟨by simp [hi], HB.out.trans (hb'.mono HB.out.size)⟩
      · go_wp2
        go_ret2
        exact ⟨by simp [hi], HB.out⟩


/-! ### tree_Seek: function 70 -/
noncomputable def tree_Seek.f (l0 : List (S91)) (a1 : ByteArray) : Option (Int × Bool) := (tree_Pair_string.f l0 a1).bind fun bt144 => (some (bt144.1, bt144.2))
set_option maxHeartbeats 8000000 in
set_option maxRecDepth 100000 in
theorem tree_Seek.calls (A0 : Option Addr) (c0 : Nat) (l0 : List (S91)) (a1 : ByteArray) (r1 : Int) (r2 : Bool) (w : World) (hr0 : Kd.C k91 w A0 l0.length l0) (hc0 : l0.length ≤ c0) (h : tree_Seek.f l0 a1 = some (r1, r2)) :
  Calls Tryd.prog 70 #[.slice A0 l0.length c0, .string a1] w fun e w' => e = .returned (.tuple #[.int .i64 r1, .bool r2]) ∧ Below w.heap.size w w' := by
 have HR0 := mk0 hr0
 have HC0 := mk0 hc0
 clear hr0 hc0
 have HB := mk0 (Below.refl w.heap.size w)
 have H : ((tree_Pair_string.f l0 a1).bind fun bt144 => (some (bt144.1, bt144.2))) = some (r1, r2) := h
 clear h
 replace H := Option.bind_eq_some_iff.mp H
 obtain ⟨⟨t144, t145⟩, A30, H⟩ := H
 try dsimp only at H
 have A3 := mk0 A30
 clear A30
 simp only [Option.some.injEq, Prod.mk.injEq] at H
 obtain ⟨rfl, rfl⟩ := H
 go_enter Tryd.func70, Tryd.ntmps70
 go_wp2_with (first | ((with_reducible refine gate_callee (f := 86) rfl ?_); refine gL_ (some 8) Tryd.func86 #[.slice A0 l0.length c0, .string a1, .func (Fn.func 87) #[] #[]] (h := ?_); (with_reducible refine (tree_Pair_string.calls _ _ l0 a1  t144 t145 _ ?side1 ?side2 A3.out).mono ?_); (case side1 => repeat (first | exact HR0.out | (with_reducible refine Kd.C_alloc ?_ _) | (with_reducible refine Kd.C_drewN ?_ _) | (with_reducible refine Kd.C_drew ?_))); (case side2 => exact HC0.out); rintro e w4 ⟨rfl, hb⟩; refine ⟨_, rfl, ?_⟩; replace HB := mk0 (bt_ (b_ HB) hb); (try clear hb)))
 go_ret2
 exact ⟨by first | rfl | (simp [errW_none, errW_some] <;> rfl) | (simp [*, errW_none, errW_some] <;> rfl), b_ HB⟩

/-! ### tree_asked: function 49 -/
noncomputable def tree_asked.j0 : Nat → ByteArray → Bool → List (S85) → Int → List Int → Option ((List (S91)) × Int × Bool × Int)
 | 0, _, _, _, _, _ => none
 | k + 1, x1, x15, x147000, x147001, x147002 => if x15 = true then (some (([] : List (S91)), 0, false, 1)) else ((tree_Pairs.f k x147000 x147001 x147002).bind fun t149 => ((tree_Seek.f t149 x1).bind fun bt152 => (some (t149, bt152.1, bt152.2, 0))))
noncomputable def tree_asked.f (k : Nat) (l0_0 : List (S85)) (a0_1 : Int) (l0_2 : List Int) (a1 : ByteArray) : Option ((List (S91)) × Int × Bool × Int) := (tree_May.f l0_0 a0_1 l0_2).bind fun t147 => (if t147 = true then ((key_Is.f a1).bind fun t148 => (tree_asked.j0 k a1 (!t148) l0_0 a0_1 l0_2)) else (tree_asked.j0 k a1 true l0_0 a0_1 l0_2))
theorem tree_asked.mono_l : ∀ k, (∀ y0 y1 y2 y3 y4, LeO (tree_asked.j0 k y0 y1 y2 y3 y4) (tree_asked.j0 (k + 1) y0 y1 y2 y3 y4))
 | 0 => fun _ _ _ _ _ r h => by simp [tree_asked.j0] at h
 | k + 1 => by
  have ih0 := tree_asked.mono_l k
  ·intro y0 y1 y2 y3 y4
   unfold tree_asked.j0
   repeat' first
   | (with_reducible exact ih0 _ _ _ _ _)
   | (with_reducible exact tree_Pairs.mono _ _ _ _)
   | (with_reducible exact LeO.refl _)
   | (with_reducible exact LeO.none _)
   | (with_reducible refine LeO.ite ?_ ?_)
   | (with_reducible refine LeO.bind ?_ (fun _ => ?_))
   | exact ih0 _ _ _ _ _
   | exact tree_Pairs.mono _ _ _ _
   | exact LeO.none _
   | refine LeO.ite ?_ ?_
   | refine LeO.bind ?_ (fun _ => ?_)
theorem tree_asked.mono : ∀ a0 a1 a2 a3 k, LeO (tree_asked.f k a0 a1 a2 a3) (tree_asked.f (k + 1) a0 a1 a2 a3) := by
 intro a0 a1 a2 a3 k
 have ih0 := tree_asked.mono_l k
 unfold tree_asked.f
 repeat' first
   | (with_reducible exact ih0 _ _ _ _ _)
   | (with_reducible exact tree_Pairs.mono _ _ _ _)
   | (with_reducible exact LeO.refl _)
   | (with_reducible exact LeO.none _)
   | (with_reducible refine LeO.ite ?_ ?_)
   | (with_reducible refine LeO.bind ?_ (fun _ => ?_))
   | exact ih0 _ _ _ _ _
   | exact tree_Pairs.mono _ _ _ _
   | exact LeO.none _
   | refine LeO.ite ?_ ?_
   | refine LeO.bind ?_ (fun _ => ?_)
set_option maxHeartbeats 8000000 in
set_option maxRecDepth 100000 in
theorem tree_asked.calls (k : Nat) (A0_0 : Option Addr) (c0_0 : Nat) (l0_0 : List (S85)) (a0_1 : Int) (A0_2 : Option Addr) (c0_2 : Nat) (l0_2 : List Int) (a1 : ByteArray) (r1 : List (S91)) (r2 : Int) (r3 : Bool) (r4 : Int) (w : World) (hr0_0 : Kd.C k85 w A0_0 l0_0.length l0_0) (hc0_0 : l0_0.length ≤ c0_0) (hr0_2 : Kd.C (Kd.int .i64) w A0_2 l0_2.length l0_2) (hc0_2 : l0_2.length ≤ c0_2) (h : tree_asked.f k l0_0 a0_1 l0_2 a1 = some (r1, r2, r3, r4)) :
  Calls Tryd.prog 49 #[.agg #[.slice A0_0 l0_0.length c0_0, .int .i64 a0_1, .slice A0_2 l0_2.length c0_2], .string a1] w fun e w' => ∃ v0_ : Value, e = .returned (.tuple #[v0_, .int .i64 r2, .bool r3, .int .i64 r4]) ∧ Kd.R k91 91 w' w.heap.size (fun _ => True) v0_ r1 ∧ Below w.heap.size w w' := by
 have hu25 := Tryd.underlying25
 have HR0_0 := mk0 hr0_0
 have HC0_0 := mk0 hc0_0
 clear hr0_0 hc0_0
 have HR0_2 := mk0 hr0_2
 have HC0_2 := mk0 hc0_2
 clear hr0_2 hc0_2
 have HB := mk0 (Below.refl w.heap.size w)
 have H : ((tree_May.f l0_0 a0_1 l0_2).bind fun t147 => (if t147 = true then ((key_Is.f a1).bind fun t148 => (tree_asked.j0 k a1 (!t148) l0_0 a0_1 l0_2)) else (tree_asked.j0 k a1 true l0_0 a0_1 l0_2))) = some (r1, r2, r3, r4) := h
 clear h
 have HC3 := mk0 H
 clear H
 go_enter Tryd.func49, Tryd.ntmps49
 go_upto_region 1 with (first | ((with_reducible refine gate_dst (N := 2) rfl ?_); refine bx_ (N := 2) (cs := #[.slice A0_0 l0_0.length c0_0, .int .i64 a0_1, .slice A0_2 l0_2.length c0_2]) (t := 25) (h := ?_); intro gb146 hg w4 hbox hb; have n2_ := mk0 (gz_ HB hg); have n3_ := mk0 (gz_ HB hg); replace HB := mk0 (bt_ (b_ HB) hb); have BK146 := mk0 (hbox); have GW146 := n2_; have GE146 := n3_; clear n2_ n3_; clear hb hbox hg))
 (try simp only [Act.put, List.setIfInBounds_toArray, List.set_cons_zero, List.set_cons_succ])
 go_cut [15] (fun v15 wc => ∃ (kq : Nat) (x15_2 : Bool), v15 = .bool x15_2 ∧ Fc (tree_asked.j0 kq a1 x15_2 l0_0 a0_1 l0_2 = some (r1, r2, r3, r4)) ∧ Fc (kq ≤ k) ∧ Fc (wc.heap[gb146]? = some (.cells #[(.slice A0_0 l0_0.length c0_0), .int .i64 a0_1, (.slice A0_2 l0_2.length c0_2)] 25 (0, 0))) ∧ Fc (Below w.heap.size w wc))
 case first =>
  have H := HC3.out
  clear HC3
  replace H := Option.bind_eq_some_iff.mp H
  obtain ⟨t147, A50, H⟩ := H
  try dsimp only at H
  have A5 := mk0 A50
  clear A50
  by_cases c6 : t147 = true
  ·subst c6
   rw [if_pos rfl] at H
   replace H := Option.bind_eq_some_iff.mp H
   obtain ⟨t148, A70, H⟩ := H
   try dsimp only at H
   have A7 := mk0 A70
   clear A70
   have H' := mk0 H
   clear H
   obtain ⟨hcz8_0, hcz8_1, hcz8_2, hfz8_0, hfz8_1, hfz8_2⟩ := c3_ BK146
   go_wp2_with (first | ((with_reducible refine gate_callee (f := 52) rfl ?_); refine gL_ (some 9) Tryd.func52 #[.agg #[.slice A0_0 l0_0.length c0_0, .int .i64 a0_1, .slice A0_2 l0_2.length c0_2]] (h := ?_); (with_reducible refine (tree_May.calls _ _ l0_0 a0_1 _ _ l0_2 true _ ?side1 ?side2 ?side3 ?side4 A5.out).mono ?_); (case side1 => exact cb_ HR0_0 HB); (case side2 => exact HC0_0.out); (case side3 => exact cb_ HR0_2 HB); (case side4 => exact HC0_2.out); rintro e w9 ⟨rfl, hb⟩; refine ⟨_, rfl, ?_⟩; replace BK146 := mk0 (u_ BK146 hb); replace HB := mk0 (bt_ (b_ HB) hb); (try clear hb)) | (go_at_call 71; (with_reducible refine (key_Is.calls a1 t148 _ A7.out).mono ?_); rintro e w' ⟨rfl, ⟨nd, rfl⟩⟩))
   go_meet
   case rel => exact ⟨_, (!t148), (by first | rfl | (simp; done) | (simp [*]; done)), H', ⟨by first | omega | exact Nat.le_refl _⟩, ⟨h_ BK146⟩, ⟨b_ HB⟩⟩
  ·replace c6 := Bool.eq_false_iff.mpr c6
   subst c6
   rw [if_neg (show ¬ (false = true) by decide)] at H
   have H' := mk0 H
   clear H
   obtain ⟨hcz10_0, hcz10_1, hcz10_2, hfz10_0, hfz10_1, hfz10_2⟩ := c3_ BK146
   go_wp2_with (first | ((with_reducible refine gate_callee (f := 52) rfl ?_); refine gL_ (some 9) Tryd.func52 #[.agg #[.slice A0_0 l0_0.length c0_0, .int .i64 a0_1, .slice A0_2 l0_2.length c0_2]] (h := ?_); (with_reducible refine (tree_May.calls _ _ l0_0 a0_1 _ _ l0_2 false _ ?side1 ?side2 ?side3 ?side4 A5.out).mono ?_); (case side1 => exact cb_ HR0_0 HB); (case side2 => exact HC0_0.out); (case side3 => exact cb_ HR0_2 HB); (case side4 => exact HC0_2.out); rintro e w11 ⟨rfl, hb⟩; refine ⟨_, rfl, ?_⟩; replace BK146 := mk0 (u_ BK146 hb); replace HB := mk0 (bt_ (b_ HB) hb); (try clear hb)))
   go_meet
   case rel => exact ⟨_, (true), (by first | rfl | (simp; done) | (simp [*]; done)), H', ⟨by first | omega | exact Nat.le_refl _⟩, ⟨h_ BK146⟩, ⟨b_ HB⟩⟩
 case rest =>
  clear HC3
  try clear c6
  try clear hcz10_0
  try clear hcz10_1
  try clear hcz10_2
  try clear hcz8_0
  try clear hcz8_1
  try clear hcz8_2
  try clear hfz10_0
  try clear hfz10_1
  try clear hfz10_2
  try clear hfz8_0
  try clear hfz8_1
  try clear hfz8_2
  obtain ⟨kq, x15_2, rfl, HA, HJ2, BK146, HB⟩ := hcut
  cases kq with
  | zero => exact absurd HA.out (by simp [tree_asked.j0])
  | succ kj2 =>
   have H := HA.out
   clear HA
   simp only [tree_asked.j0] at H
   as_aux_lemma =>
    by_cases c12 : x15_2 = true
    ·subst c12
     rw [if_pos rfl] at H
     simp only [Option.some.injEq, Prod.mk.injEq] at H
     obtain ⟨rfl, rfl, rfl, rfl⟩ := H
     go_wp2
     refine bodyPost_ret (results_list (rs := [.tmp 4, .tmp 5, .tmp 6, .tmp 7]) rfl (by simp) (.tmp (.tmp (.tmp (.tmp .nil))))) rfl ?_
     exact ⟨_, by first | rfl | (simp [errW_none, errW_some] <;> rfl) | (simp [*, errW_none, errW_some] <;> rfl), by first | exact Kd.R_nil _ _ _ _ _ | exact Kd.N_nil _ _ _ _ _ | exact Kd.V_nil _ _ _ _ _ | exact Kd.Q_nil _ _ _ _ _ | exact Kd.S_nil _ _ _ _ _, b_ HB⟩
    ·replace c12 := Bool.eq_false_iff.mpr c12
     subst c12
     rw [if_neg (show ¬ (false = true) by decide)] at H
     replace H := Option.bind_eq_some_iff.mp H
     obtain ⟨t149, A130, H⟩ := H
     try dsimp only at H
     have A13 := mk0 A130
     clear A130
     replace H := Option.bind_eq_some_iff.mp H
     obtain ⟨⟨t152, t153⟩, A140, H⟩ := H
     try dsimp only at H
     have A14 := mk0 A140
     clear A140
     simp only [Option.some.injEq, Prod.mk.injEq] at H
     obtain ⟨rfl, rfl, rfl, rfl⟩ := H
     obtain ⟨hcz15_0, hcz15_1, hcz15_2, hfz15_0, hfz15_1, hfz15_2⟩ := c3_ BK146
     go_wp2_with (first | ((with_reducible refine gate_callee (f := 53) rfl ?_); refine gL_ (some 17) Tryd.func53 #[.agg #[.slice A0_0 l0_0.length c0_0, .int .i64 a0_1, .slice A0_2 l0_2.length c0_2]] (h := ?_); (with_reducible refine (tree_Pairs.calls kj2 _ _ l0_0 a0_1 _ _ l0_2 t149 _ ?side1 ?side2 ?side3 ?side4 A13.out).mono ?_); (case side1 => exact cb_ HR0_0 HB); (case side2 => exact HC0_0.out); (case side3 => exact cb_ HR0_2 HB); (case side4 => exact HC0_2.out); rintro e w16 ⟨v150, rfl, ho0, hb⟩; refine ⟨_, rfl, ?_⟩; have n0_ := mk0 (Kd.R_lower ho0 (bz_ (b_ HB))); replace BK146 := mk0 (u_ BK146 hb); replace HB := mk0 (bt_ (b_ HB) hb); have HO151 := n0_; clear n0_; (try clear hb); (try clear ho0); obtain ⟨Ao17, co17, eo17⟩ := Kd.R_slice HO151.out; subst eo17) | ((with_reducible refine gate_callee (f := 70) rfl ?_); refine gL_ (some 21) Tryd.func70 #[.slice Ao17 t149.length co17, .string a1] (h := ?_); (with_reducible refine (tree_Seek.calls _ _ t149 a1 t152 t153 _ ?side1 ?side2 A14.out).mono ?_); (case side1 => exact cr_ HO151); (case side2 => exact (Kd.R_reads' HO151.out).2.1); rintro e w18 ⟨rfl, hb⟩; refine ⟨_, rfl, ?_⟩; replace HO151 := mk0 (Kd.R_below (r_ HO151) hb); replace BK146 := mk0 (u_ BK146 hb); replace HB := mk0 (bt_ (b_ HB) hb); (try clear hb)))
     refine bodyPost_ret (results_list (rs := [.tmp 4, .tmp 5, .tmp 6, .tmp 7]) rfl (by simp) (.tmp (.tmp (.tmp (.tmp .nil))))) rfl ?_
     exact ⟨_, by first | rfl | (simp [errW_none, errW_some] <;> rfl) | (simp [*, errW_none, errW_some] <;> rfl), by (with_reducible repeat (first | apply Ra_ | apply Rn_ | apply Rd_)); exact HO151.out, b_ HB⟩

/-! ### tree_New: function 20 -/
noncomputable def tree_New.f  : Option ((List (S85)) × Int × List Int) := some ((([(⟨([] : List ByteArray), ([] : List Int), ([] : List Int), true⟩ : S85)] : List (S85))), 0, ([] : List Int))
set_option maxHeartbeats 8000000 in
set_option maxRecDepth 100000 in
theorem tree_New.calls  (r1 : List (S85)) (r2 : Int) (r3 : List Int) (w : World) (h : tree_New.f  = some (r1, r2, r3)) :
  Calls Tryd.prog 20 #[] w fun e w' => ∃ v0_ v2_ : Value, e = .returned (.agg #[v0_, .int .i64 r2, v2_]) ∧ Kd.S k85 85 w' w.heap.size (fun k_ => some k_ ≠ (v2_ : Value).ownBlock) v0_ r1 ∧ Kd.R (Kd.int .i64) 3 w' w.heap.size (fun _ => True) v2_ r3 ∧ Below w.heap.size w w' := by
 have hu25 := Tryd.underlying25
 have hu85 := Tryd.underlying85
 have HB := mk0 (Below.refl w.heap.size w)
 have H : (some ((([(⟨([] : List ByteArray), ([] : List Int), ([] : List Int), true⟩ : S85)] : List (S85))), 0, ([] : List Int))) = some (r1, r2, r3) := h
 clear h
 obtain ⟨y155, hy155⟩ : ∃ y_ : List (S85), y_ = (([(⟨([] : List ByteArray), ([] : List Int), ([] : List Int), true⟩ : S85)] : List (S85))) := ⟨_, rfl⟩
 replace H : (some (y155, 0, ([] : List Int))) = some (r1, r2, r3) := by first | (rw [hy155]; with_reducible exact H) | (have H2_ := (Option.bind_some _ _).symm.trans H; rw [hy155]; with_reducible exact H2_) | (have H2_ := (Option.bind_some _ _).symm.trans H; with_reducible exact H2_) | with_reducible exact H | (rw [hy155]; exact H) | exact H
 have Ny155 := mk0 hy155
 clear hy155
 simp only [Option.some.injEq, Prod.mk.injEq] at H
 obtain ⟨rfl, rfl, rfl⟩ := H
 go_enter Tryd.func20, Tryd.ntmps20
 go_wp2_with (first | ((with_reducible refine gate_dst (N := 0) rfl ?_); refine bx_ (N := 0) (cs := #[.slice none 0 0, .int .i64 0, .slice none 0 0]) (t := 25) (h := ?_); intro gb154 hg w1 hbox hb; have n2_ := mk0 (gz_ HB hg); have n3_ := mk0 (gz_ HB hg); replace HB := mk0 (bt_ (b_ HB) hb); have BK154 := mk0 (hbox); have GW154 := n2_; have GE154 := n3_; clear n2_ n3_; clear hb hbox hg) | ((with_reducible refine gate_dst (N := 2) rfl ?_); refine Kd.S_lit k85 _ 85 ?hg (N := 2) ?hd (xs := ([(⟨([] : List ByteArray), ([] : List Int), ([] : List Int), true⟩ : S85)] : List (S85))) (inner := [.slice none 0 0, .slice none 0 0, .slice none 0 0, .bool true]) (ok := fun _ => True) (okp := fun _ => True) ?hr ?hp (fun _ hk => hk) trivial (Below.refl _ _) (Nat.le_refl _) (by simp) ?_; (case hd => rfl); (case hg => rfl); (case hr => first | (go_simp; done) | (go_simp; rfl)); (case hp => exact (Reps.c4 (show Kd.M k85 _ _ _ (⟨([] : List ByteArray), ([] : List Int), ([] : List Int), true⟩ : S85) [.slice none 0 0, .slice none 0 0, .slice none 0 0, .bool true] from (k85_mkM _ _ _ (⟨([] : List ByteArray), ([] : List Int), ([] : List Int), true⟩ : S85) (Kd.R_nil _ _ _ _ _) (Kd.R_nil _ _ _ _ _) (Kd.R_nil _ _ _ _ _))) (Reps.none _ _))); intro v156 w2 ho3 hb hg_ hnew_; clear hg_ hnew_; (first | rw [← Ny155.out] at ho3 | (simp only [Int.reduceToNat] at ho3; rw [← Ny155.out] at ho3)); have n0_ := mk0 (Kd.S_lower ho3 (bz_ (b_ HB))); replace BK154 := mk0 (u_ BK154 hb); replace HB := mk0 (bt_ (b_ HB) hb); have HO157 := n0_; clear n0_ hb ho3; obtain ⟨Ao4, co4, eo4⟩ := Kd.S_slice HO157.out; subst eo4; obtain ⟨hcz5_0, hcz5_1, hcz5_2, hfz5_0, hfz5_1, hfz5_2⟩ := c3_ BK154))
 refine bodyPost_ret (results_cell_row rfl _ _ gb154 25 #[.slice Ao4 y155.length co4, .int .i64 0, .slice none 0 0] (0, 0) _ rfl (pu_ (cs := #[.slice Ao4 y155.length co4, .int .i64 0, .slice none 0 0]) (pu_ (cs := #[.slice Ao4 y155.length co4, .int .i64 0, .slice none 0 0]) (pu_ (cs := #[.slice none 0 0, .int .i64 0, .slice none 0 0]) (h_ BK154)))) Tryd.underlying25 rfl (by kernel_rfl)) rfl ?_
 exact ⟨_, _, by first | rfl | (simp [errW_none, errW_some] <;> rfl) | (simp [*, errW_none, errW_some] <;> rfl), by (with_reducible repeat (first | apply Kd.S_alloc | apply Kd.S_drewN | apply Kd.S_drew)); exact Kd.S_mono (Kd.S_far (p := ⟨gb154, 2, none⟩) (Kd.S_far (p := ⟨gb154, 1, none⟩) (Kd.S_far (p := ⟨gb154, 0, none⟩) (Kd.S_types HO157.out BK154.out (by decide)) (fun _ hk => hk.2) (.slice Ao4 y155.length co4)) (fun _ hk => hk.2) (.int .i64 0)) (fun _ hk => hk.2) (.slice none 0 0)) (fun _ hk => (by simp [Value.ownBlock])), by first | exact Kd.R_nil _ _ _ _ _ | exact Kd.N_nil _ _ _ _ _ | exact Kd.V_nil _ _ _ _ _ | exact Kd.Q_nil _ _ _ _ _ | exact Kd.S_nil _ _ _ _ _, b_ HB⟩

end Go.Proofs.YtkmkppchhdkipaaDoor.PTr
