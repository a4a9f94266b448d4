import Derived.Test.YtkmkppchhdkipaaDoorPTrx22
import Derived.Test.YtkmkppchhdkipaaDoorPTrx3
import Derived.Test.YtkmkppchhdkipaaDoorHTr0
import Derived.Test.YtkmkppchhdkipaaDoorHApps
import Derived.Test.YtkmkppchhdkipaaDoorHMadeA
/- package tree: made, walked (printed for a function of the same operations, turned onto the real one by mkmade.py). -/
namespace Go.Proofs.YtkmkppchhdkipaaDoor.HMade
open Go.Lib Go.RowKit Go.Proofs.YtkmkppchhdkipaaDoorW.PrintWords Go.Proofs.YtkmkppchhdkipaaDoorW.PrintLast Go.Proofs.YtkmkppchhdkipaaDoorW.PrintMore Go.Proofs.YtkmkppchhdkipaaDoor.PTr Go.Proofs Go.Proofs.YtkmkppchhdkipaaDoor.HTree Go.Proofs.YtkmkppchhdkipaaDoor.HNum
set_option linter.unusedSimpArgs false
set_option linter.unusedVariables false
theorem field_run {o : Oper} (ho : o.op = .fieldAddr 85 (.tmp 8) 0) (g : Nat) {a2 : Act} (h : a2.eval (.tmp 8) = .pointer (some ⟨g, 0, none⟩)) (W : World) : (execOp a2.eval o).run Tryd.prog W = .ok (.value (.pointer (some ⟨g, 0, none⟩))) W := by
  have hu85 := Tryd.underlying85
  unfold execOp
  rw [ho]
  simp only [h]
  go_simp
/-! ### tree_made: function 50 -/
def tree_made.l2 : Nat → List Int → List ByteArray → List (S85) → Option ((List (S85)) × Int × List Int)
 | 0, _, _, _ => none
 | k + 1, x4, x5, x3 => if 1 < (x4.length : Int) then ((tree_parts.f k (x4.length : Int) 5).bind fun t => ((tree_level.l0 k ([] : List Int) ([] : List ByteArray) t (t.length : Int) 0 x4 x5 x3 0).bind fun r => tree_made.l2 k r.1 r.2.1 r.2.2)) else (if 0 < (x4.length : Int) then (some (x3, rd x4 0, ([] : List Int))) else (none))
mutual
def tree_made.l0 : Nat → List (S91) → List Int → List ByteArray → List (S117) → Int → Int → List (S85) → Int → Option ((List (S85)) × Int × List Int)
 | 0, _, _, _, _, _, _, _, _ => none
 | k + 1, x0, x4, x5, x17, x18, x19, x154000, x154001 => if x19 < x18 then (if 0 ≤ x19 then (if x19 < (x17.length : Int) then (if 0 ≤ ((rd_T117 x17 x19).f0) then (if ((rd_T117 x17 x19).f0) ≤ ((rd_T117 x17 x19).f1) then (if ((rd_T117 x17 x19).f1) ≤ (x0.length : Int) then ((some ((x0.take (((rd_T117 x17 x19).f1) : Int).toNat).drop (((rd_T117 x17 x19).f0) : Int).toNat : List (S91))).bind fun y161 => (tree_made.l1 k x0 x4 x5 x17 x18 x19 y161 (y161.length : Int) 0 x154000 x154001 ([] : List ByteArray) ([] : List Int) true)) else (none)) else (none)) else (none)) else (none)) else (none)) else (tree_made.l2 k x4 x5 x154000)
def tree_made.l1 : Nat → List (S91) → List Int → List ByteArray → List (S117) → Int → Int → List (S91) → Int → Int → List (S85) → Int → List ByteArray → List Int → Bool → Option ((List (S85)) × Int × List Int)
 | 0, _, _, _, _, _, _, _, _, _, _, _, _, _, _ => none
 | k + 1, x0, x4, x5, x17, x18, x19, x29, x30, x31, x154000, x154001, x161000, x161001, x161003 => if x31 < x30 then (if 0 ≤ x31 then (if x31 < (x29.length : Int) then (if x161000.length < 8796093022208 then (if x161001.length < 17592186044416 then (tree_made.l1 k x0 x4 x5 x17 x18 x19 x29 x30 (wrap64 (x31 + 1)) x154000 x154001 (x161000 ++ [(rd_T91 x29 x31).f0]) (x161001 ++ [(rd_T91 x29 x31).f1]) x161003) else (none)) else (none)) else (none)) else (none)) else (if x154000.length < 1759218604441 then ((some (x154000 ++ [(⟨x161000, x161001, ([] : List Int), x161003⟩ : S85)] : List (S85))).bind fun y173 => (if x4.length < 17592186044416 then (if 0 < (x161000.length : Int) then (if x5.length < 8796093022208 then (tree_made.l0 k x0 (x4 ++ [wrap64 ((y173.length : Int) - 1)]) (x5 ++ [rdOf ByteArray.empty x161000 0]) x17 x18 (wrap64 (x19 + 1)) y173 x154001) else (none)) else (none)) else (none))) else (none))
end
noncomputable def tree_made.f (k : Nat) (l0 : List (S91)) : Option ((List (S85)) × Int × List Int) := if (l0.length : Int) = 0 then ((tree_New.f).bind fun bt146 => (some (bt146.1, bt146.2.1, bt146.2.2))) else ((tree_parts.f k (l0.length : Int) 4).bind fun t154 => (tree_made.l0 k l0 ([] : List Int) ([] : List ByteArray) t154 (t154.length : Int) 0 ([] : List (S85)) 0))
def tree_made.T13 : Bool × List (List Nat × List Nat) := (true, [([], []), ([0], [0]), ([], []), ([2], [2]), ([3], [3]), ([1, 4], [1, 4]), ([], []), ([6], [6]), ([], []), ([8], [8]), ([9], [9]), ([7, 10, 5], [7, 10]), ([0, 1, 2, 3, 4, 5, 6, 7], []), ([12, 5, 11, 0, 1, 2, 3, 4, 5, 6, 7], [5, 12]), ([0, 1, 2, 3, 4, 5, 6, 7, 8, 9, 10, 11, 12, 13], []), ([14, 11, 13, 0, 1, 2, 3, 4, 5, 6, 7, 8, 9, 10, 11, 12, 13], [11, 14])])
def tree_made.B13 : List Nat := [0, 1, 0, 4, 12, 31, 0, 64, 0, 256, 768, 2047, 255, 8191, 16383, 32767]
def tree_made.T16 : Bool × List (List Nat × List Nat) := (true, [([], []), ([], []), ([1], [1]), ([2], [2]), ([3], [3]), ([4], [4]), ([0, 5], [0, 5]), ([], []), ([], []), ([8], [8]), ([9], [9]), ([10], [10]), ([11], [11]), ([7, 12, 6], [7, 12]), ([6, 13, 0, 1, 2, 3, 4, 5, 6], [0, 6]), ([13, 14, 0, 1, 2, 3, 4, 5, 6, 7, 8, 9, 10, 11, 12, 13, 14], [7, 13])])
def tree_made.B16 : List Nat := [0, 0, 2, 6, 14, 30, 63, 0, 0, 256, 768, 1792, 3840, 8191, 16383, 32767]
theorem tree_made.tab13 : rtab .any (opsOf Tryd.f50 13) = tree_made.T13 := by kernel_rfl
theorem tree_made.bits13 : waitsOk tree_made.T13.2 tree_made.B13 = true := by kernel_rfl
theorem tree_made.tab16 : rtab .any (opsOf Tryd.f50 16) = tree_made.T16 := by kernel_rfl
theorem tree_made.bits16 : waitsOk tree_made.T16.2 tree_made.B16 = true := by kernel_rfl
set_option maxHeartbeats 8000000 in
set_option maxRecDepth 100000 in
theorem tree_made.calls (k : Nat) (A0 : Option Addr) (c0 : Nat) (l0 : List (S91)) (r1 : List (S85)) (r2 : Int) (r3 : List Int) (w : World) (hr0 : Kd.C k91 w A0 l0.length l0) (hc0 : l0.length ≤ c0) (h : tree_made.f k l0 = some (r1, r2, r3)) :
  Calls Tryd.prog 50 #[.slice A0 l0.length c0] w fun e w' => ∃ v0_ v2_ : Value, e = .returned (.agg #[v0_, .int .i64 r2, v2_]) ∧ Kd.S k85 85 w' w.heap.size (fun k_ => some k_ ≠ (v2_ : Value).ownBlock) v0_ r1 ∧ Kd.R (Kd.int .i64) 3 w' w.heap.size (fun _ => True) v2_ r3 ∧ Below w.heap.size w w' := by
 have hu25 := Tryd.underlying25
 have hu117 := Tryd.underlying117
 have hu85 := Tryd.underlying85
 have hu91 := Tryd.underlying91
 have HR0 := mk0 hr0
 have HC0 := mk0 hc0
 clear hr0 hc0
 have HB := mk0 (Below.refl w.heap.size w)
 have H : (if (l0.length : Int) = 0 then ((tree_New.f).bind fun bt146 => (some (bt146.1, bt146.2.1, bt146.2.2))) else ((tree_parts.f k (l0.length : Int) 4).bind fun t154 => (tree_made.l0 k l0 ([] : List Int) ([] : List ByteArray) t154 (t154.length : Int) 0 ([] : List (S85)) 0))) = some (r1, r2, r3) := h
 clear h
 by_cases c2 : (l0.length : Int) = 0
 ·rw [if_pos c2] at H
  have c2b0 : ((l0.length : Int) == 0) = true := beq_iff_eq.mpr c2
  have c2b1 : ((l0.length : Int) != 0) = false := bne_eq_false_iff_eq.mpr c2
  clear c2
  replace H := Option.bind_eq_some_iff.mp H
  obtain ⟨⟨t146, t149, t150⟩, A30, H⟩ := H
  try dsimp only at H
  have A3 := mk0 A30
  clear A30
  simp only [Option.some.injEq, Prod.mk.injEq] at H
  obtain ⟨rfl, rfl, rfl⟩ := H
  go_enter Tryd.func50, Tryd.ntmps50
  go_wp2_with (first | ((with_reducible refine gate_dst (N := 2) rfl ?_); refine bx_ (N := 2) (cs := #[.slice none 0 0, .int .i64 0, .slice none 0 0]) (t := 25) (h := ?_); intro gb145 hg w4 hbox hb; have n2_ := mk0 (gz_ HB hg); have n3_ := mk0 (gz_ HB hg); replace HB := mk0 (bt_ (b_ HB) hb); have BK145 := mk0 (hbox); have GW145 := n2_; have GE145 := n3_; clear n2_ n3_; clear hb hbox hg) | ((with_reducible refine gate_callee (f := 20) rfl ?_); refine gL_ (some 14) Tryd.func20 #[] (h := ?_); (with_reducible refine (tree_New.calls  t146 t149 t150 _ A3.out).mono ?_); rintro e w5 ⟨v147, v151, rfl, ho0, ho1, hb⟩; refine ⟨_, rfl, ?_⟩; have n0_ := mk0 (Kd.S_lower ho0 (bz_ (b_ HB))); have n1_ := mk0 (Kd.R_lower ho1 (bz_ (b_ HB))); replace BK145 := mk0 (u_ BK145 hb); replace HB := mk0 (bt_ (b_ HB) hb); have HO148 := n0_; have HO152 := n1_; clear n0_ n1_; (try clear hb); (try clear ho0); (try clear ho1); obtain ⟨Ao6, co6, eo6⟩ := Kd.S_slice HO148.out; subst eo6; obtain ⟨hcz7_0, hcz7_1, hcz7_2, hfz7_0, hfz7_1, hfz7_2⟩ := c3_ BK145; obtain ⟨Ao8, co8, eo8⟩ := Kd.R_slice HO152.out; subst eo8))
  refine bodyPost_ret (results_cell_row rfl _ _ gb145 25 #[.slice Ao6 t146.length co6, .int .i64 t149, .slice Ao8 t150.length co8] (0, 0) _ rfl (pu_ (cs := #[.slice Ao6 t146.length co6, .int .i64 t149, .slice none 0 0]) (pu_ (cs := #[.slice Ao6 t146.length co6, .int .i64 0, .slice none 0 0]) (pu_ (cs := #[.slice none 0 0, .int .i64 0, .slice none 0 0]) (h_ BK145)))) Tryd.underlying25 rfl (by kernel_rfl)) rfl ?_
  exact ⟨_, _, by first | rfl | (simp [errW_none, errW_some] <;> rfl) | (simp [*, errW_none, errW_some] <;> rfl), by (with_reducible repeat (first | apply Kd.S_alloc | apply Kd.S_drewN | apply Kd.S_drew)); exact Kd.S_mono (Kd.S_far (p := ⟨gb145, 2, none⟩) (Kd.S_far (p := ⟨gb145, 1, none⟩) (Kd.S_far (p := ⟨gb145, 0, none⟩) (Kd.S_types HO148.out BK145.out (by decide)) (fun _ hk => hk.2) (.slice Ao6 t146.length co6)) (fun _ hk => hk.2) (.int .i64 t149)) (fun _ hk => hk.2) (.slice Ao8 t150.length co8)) (fun _ hk => hk.1), by (with_reducible repeat (first | apply Ra_ | apply Rn_ | apply Rd_)); exact Kd.R_mono (Kd.R_far (p := ⟨gb145, 2, none⟩) (Kd.R_far (p := ⟨gb145, 1, none⟩) (Kd.R_far (p := ⟨gb145, 0, none⟩) (Kd.R_types HO152.out BK145.out (by decide)) (fun _ hk => hk.2) (.slice Ao6 t146.length co6)) (fun _ hk => hk.2) (.int .i64 t149)) (fun _ hk => hk.2) (.slice Ao8 t150.length co8)) (fun _ hk => trivial), b_ HB⟩
 ·rw [if_neg c2] at H
  have c2b0 : ((l0.length : Int) == 0) = false := beq_eq_false_iff_ne.mpr c2
  have c2b1 : ((l0.length : Int) != 0) = true := bne_iff_ne.mpr c2
  have c2b2 : ¬ (l0 = []) := fun h_ => c2 (by rw [h_]; rfl)
  replace H := Option.bind_eq_some_iff.mp H
  obtain ⟨t154, A90, H⟩ := H
  try dsimp only at H
  have A9 := mk0 A90
  clear A90
  have H' := mk0 H
  clear H
  go_enter Tryd.func50, Tryd.ntmps50
  go_wp2_with (first | ((with_reducible refine gate_dst (N := 2) rfl ?_); refine bx_ (N := 2) (cs := #[.slice none 0 0, .int .i64 0, .slice none 0 0]) (t := 25) (h := ?_); intro gb145 hg w10 hbox hb; have n2_ := mk0 (gz_ HB hg); have n3_ := mk0 (gz_ HB hg); replace HB := mk0 (bt_ (b_ HB) hb); have BK145 := mk0 (hbox); have GW145 := n2_; have GE145 := n3_; clear n2_ n3_; clear hb hbox hg) | ((with_reducible refine gate_dst (N := 3) rfl ?_); refine bx_ (N := 3) (cs := #[.slice none 0 0, .int .i64 0, .slice none 0 0]) (t := 25) (h := ?_); intro gb153 hg w11 hbox hb; have n3_ := mk0 (gz_ HB hg); have n4_ := mk0 (gz_ HB hg); have n5_ := mk0 (ne1_ BK145 hg); have n6_ := mk0 (ne2_ BK145 hg); replace BK145 := mk0 (u_ BK145 hb); replace HB := mk0 (bt_ (b_ HB) hb); have BK153 := mk0 (hbox); have GW153 := n3_; have GE153 := n4_; have NB145_153 := n5_; have NB153_145 := n6_; clear n3_ n4_ n5_ n6_; clear hb hbox hg) | ((with_reducible refine gate_callee (f := 72) rfl ?_); refine gL_ (some 17) Tryd.func72 #[.int .i64 (l0.length : Int), .int .i64 4] (h := ?_); (with_reducible refine (tree_parts.calls k (l0.length : Int) 4 t154 _ A9.out).mono ?_); rintro e w12 ⟨v155, rfl, ho0, hb⟩; refine ⟨_, rfl, ?_⟩; have n0_ := mk0 (Kd.R_lower ho0 (bz_ (b_ HB))); replace BK145 := mk0 (u_ BK145 hb); replace BK153 := mk0 (u_ BK153 hb); replace HB := mk0 (bt_ (b_ HB) hb); have HO156 := n0_; clear n0_; (try clear hb); (try clear ho0); obtain ⟨Ao13, co13, eo13⟩ := Kd.R_slice HO156.out; subst eo13))
  go_loopg [4, 5, 19] k (fun kq v4 v5 v19 w' => ∃ (x4_1 : List Int) (x5_1 : List ByteArray) (x19_1 : Int) (x154000_1 : List (S85)) (u154000 : Value), v19 = .int .i64 x19_1 ∧ Fc (tree_made.l0 kq l0 x4_1 x5_1 t154 (t154.length : Int) x19_1 x154000_1 0 = some (r1, r2, r3)) ∧ Fc (kq ≤ k) ∧ Fc (Kd.R (Kd.int .i64) 3 w' w.heap.size (fun _ => True) v4 x4_1) ∧ Fc (Kd.R Kd.string 9 w' w.heap.size (fun _ => True) v5 x5_1) ∧ Fc (Kd.R k117 117 w' w.heap.size (fun _ => True) (.slice Ao13 t154.length co13) t154) ∧ Fc (Kd.S k85 85 w' w.heap.size (fun k_ => some k_ ≠ (v4 : Value).ownBlock ∧ some k_ ≠ (v5 : Value).ownBlock) u154000 x154000_1) ∧ Fc (w'.heap[gb145]? = some (.cells #[(.slice none 0 0), .int .i64 0, (.slice none 0 0)] 25 (0, 0))) ∧ Fc (w'.heap[gb153]? = some (.cells #[u154000, .int .i64 0, (.slice none 0 0)] 25 (0, 0))) ∧ Fc (Below w.heap.size w w'))
  case atStart => exact ⟨(([] : List Int)), (([] : List ByteArray)), (0), (([] : List (S85))), (.slice none 0 0), (by first | rfl | (simp; done) | (simp [*]; done)), H', ⟨Nat.le_refl _⟩, ⟨by first | exact Kd.R_nil _ _ _ _ _ | exact Kd.N_nil _ _ _ _ _ | exact Kd.V_nil _ _ _ _ _ | exact Kd.Q_nil _ _ _ _ _ | exact Kd.S_nil _ _ _ _ _⟩, ⟨by first | exact Kd.R_nil _ _ _ _ _ | exact Kd.N_nil _ _ _ _ _ | exact Kd.V_nil _ _ _ _ _ | exact Kd.Q_nil _ _ _ _ _ | exact Kd.S_nil _ _ _ _ _⟩, ⟨by (with_reducible repeat (first | apply Ra_ | apply Rn_ | apply Rd_)); exact HO156.out⟩, ⟨by first | exact Kd.S_nil _ _ _ _ _ | exact Kd.N_nil _ _ _ _ _ | exact Kd.V_nil _ _ _ _ _ | exact Kd.Q_nil _ _ _ _ _ | exact Kd.R_nil _ _ _ _ _⟩, ⟨h_ BK145⟩, ⟨h_ BK153⟩, ⟨b_ HB⟩⟩
  case round =>
   clear H'
   try clear c2
   try clear c2b0
   try clear c2b1
   try clear c2b2
   try clear hcz7_0
   try clear hcz7_1
   try clear hcz7_2
   try clear hfz7_0
   try clear hfz7_1
   try clear hfz7_2
   obtain ⟨x4_1, x5_1, x19_1, x154000_1, u154000, rfl, HA, HK1, HO_4, HO_5, HO_17, HO_154000, BK145, BK153, HB⟩ := hrel
   cases gk with
   | zero => exact absurd HA.out (by simp [tree_made.l0])
   | succ k1 =>
    have H := HA.out
    clear HA
    simp only [tree_made.l0] at H
    as_aux_lemma =>
     by_cases c14 : x19_1 < (t154.length : Int)
     ·rw [if_pos c14] at H
      have c14b0 : decide (x19_1 < (t154.length : Int)) = true := decide_eq_true c14
      clear c14
      by_cases c15 : 0 ≤ x19_1
      ·rw [if_pos c15] at H
       have c15b0 : decide (0 ≤ x19_1) = true := decide_eq_true c15
       clear c15
       by_cases c16 : x19_1 < (t154.length : Int)
       ·rw [if_pos c16] at H
        have c16b0 : decide (x19_1 < (t154.length : Int)) = true := decide_eq_true c16
        clear c16
        by_cases c17 : 0 ≤ ((rd_T117 t154 x19_1).f0)
        ·rw [if_pos c17] at H
         have c17b0 := eq_true c17
         have c17b1 : decide (0 ≤ ((rd_T117 t154 x19_1).f0)) = true := decide_eq_true c17
         clear c17
         by_cases c18 : ((rd_T117 t154 x19_1).f0) ≤ ((rd_T117 t154 x19_1).f1)
         ·rw [if_pos c18] at H
          have c18b0 := eq_true c18
          have c18b1 : decide (((rd_T117 t154 x19_1).f0) ≤ ((rd_T117 t154 x19_1).f1)) = true := decide_eq_true c18
          clear c18
          by_cases c19 : ((rd_T117 t154 x19_1).f1) ≤ (l0.length : Int)
          ·rw [if_pos c19] at H
           have c19b0 := eq_true c19
           have c19b1 : decide (((rd_T117 t154 x19_1).f1) ≤ (l0.length : Int)) = true := decide_eq_true c19
           clear c19
           obtain ⟨y161, hy161⟩ : ∃ y_ : List (S91), y_ = ((l0.take (((rd_T117 t154 x19_1).f1) : Int).toNat).drop (((rd_T117 t154 x19_1).f0) : Int).toNat) := ⟨_, rfl⟩
           replace H : (tree_made.l1 k1 l0 x4_1 x5_1 t154 (t154.length : Int) x19_1 y161 (y161.length : Int) 0 x154000_1 0 ([] : List ByteArray) ([] : List Int) true) = some (r1, r2, r3) := by first | (rw [hy161]; with_reducible exact H) | (have H2_ := (Option.bind_some _ _).symm.trans H; rw [hy161]; with_reducible exact H2_) | (have H2_ := (Option.bind_some _ _).symm.trans H; with_reducible exact H2_) | with_reducible exact H | (rw [hy161]; exact H) | exact H
           have Ny161 := mk0 hy161
           clear hy161
           have H' := mk0 H
           clear H
           have p158 : 0 ≤ (x19_1 : Int) := of_decide_eq_true (by first | (with_reducible assumption) | assumption)
           have q158 : x19_1 < (t154.length : Int) := of_decide_eq_true (by first | (with_reducible assumption) | assumption)
           (try (obtain ⟨Aq_, cq_, eq_⟩ := Kd.R_slice HO_17.out; subst eq_))
           obtain ⟨ad158, e158, hx158_0, hx158_1⟩ := at_T117 (Kd.R_reads' HO_17.out).2.2 x19_1 p158 q158
           cases e158
           replace p158 := eq_true p158
           replace q158 := eq_true q158
           go_wp2_with (first | ((with_reducible refine gate_dst (N := 7) rfl ?_); refine bx_ (N := 7) (cs := #[.int .i64 0, .int .i64 0]) (t := 117) (h := ?_); intro gb159 hg w20 hbox hb; have n8_ := mk0 (gz_ HB hg); have n9_ := mk0 (gz_ HB hg); have n10_ := mk0 (ne1_ BK145 hg); have n11_ := mk0 (ne2_ BK145 hg); have n12_ := mk0 (ne1_ BK153 hg); have n13_ := mk0 (ne2_ BK153 hg); replace HO_4 := mk0 (Kd.R_below (r_ HO_4) hb); replace HO_5 := mk0 (Kd.R_below (r_ HO_5) hb); replace HO_17 := mk0 (Kd.R_below (Kd.R_elderB (r_ HO_17) gb159 (Nat.le_of_eq hg.symm)) hb); replace HO_154000 := mk0 (Kd.S_below (s_ HO_154000) hb); replace BK145 := mk0 (u_ BK145 hb); replace BK153 := mk0 (u_ BK153 hb); replace HB := mk0 (bt_ (b_ HB) hb); have BK159 := mk0 (hbox); have GW159 := n8_; have GE159 := n9_; have NB145_159 := n10_; have NB159_145 := n11_; have NB153_159 := n12_; have NB159_153 := n13_; clear n8_ n9_ n10_ n11_ n12_ n13_ hb hbox hg; have hnb21 := NB159_145.out; have hnc21 := NB145_159.out; have hnb22 := NB159_153.out; have hnc22 := NB153_159.out; obtain ⟨hcz23_0, hcz23_1, hfz23_0, hfz23_1⟩ := c2_ BK159) | ((with_reducible refine gate_dst (N := 8) rfl ?_); refine bx_ (N := 8) (cs := #[.slice none 0 0, .slice none 0 0, .slice none 0 0, .bool false]) (t := 85) (h := ?_); intro gb160 hg w24 hbox hb; have n0_ := mk0 (Kd.R_below (r2_ (Kd.R_mono (Kd.R_far (p := ⟨gb159, 1, none⟩) (Kd.R_far (p := ⟨gb159, 0, none⟩) (Kd.R_types HO_4.out BK159.out (by decide)) (fun _ hk => hk.2) (.int .i64 ((rd_T117 t154 x19_1).f0))) (fun _ hk => hk.2) (.int .i64 ((rd_T117 t154 x19_1).f1))) (fun _ h_ => h_.1))) hb); have n1_ := mk0 (Kd.R_below (r2_ (Kd.R_mono (Kd.R_far (p := ⟨gb159, 1, none⟩) (Kd.R_far (p := ⟨gb159, 0, none⟩) (Kd.R_types HO_5.out BK159.out (by decide)) (fun _ hk => hk.2) (.int .i64 ((rd_T117 t154 x19_1).f0))) (fun _ hk => hk.2) (.int .i64 ((rd_T117 t154 x19_1).f1))) (fun _ h_ => h_.1))) hb); have n3_ := mk0 (Kd.S_below (Kd.S_elderB (s2_ (Kd.S_mono (Kd.S_far (p := ⟨gb159, 1, none⟩) (Kd.S_far (p := ⟨gb159, 0, none⟩) (Kd.S_types HO_154000.out BK159.out (by decide)) (fun _ hk => hk.2) (.int .i64 ((rd_T117 t154 x19_1).f0))) (fun _ hk => hk.2) (.int .i64 ((rd_T117 t154 x19_1).f1))) (fun _ h_ => h_.1))) gb160 (Nat.le_of_eq hg.symm)) hb); have n9_ := mk0 (gz_ HB hg); have n10_ := mk0 (gz_ HB hg); have n11_ := mk0 ((by rw [hg]; exact Nat.ne_of_lt (blk_lt (g := gb145) (o := .cells #[.slice none 0 0, .int .i64 0, .slice none 0 0] 25 (0, 0)) (fa_ (fa_ (h_ BK145) NB145_159.out) NB145_159.out)) : gb145 ≠ gb160)); have n12_ := mk0 ((by rw [hg]; exact Nat.ne_of_gt (blk_lt (g := gb145) (o := .cells #[.slice none 0 0, .int .i64 0, .slice none 0 0] 25 (0, 0)) (fa_ (fa_ (h_ BK145) NB145_159.out) NB145_159.out)) : gb160 ≠ gb145)); have n13_ := mk0 ((by rw [hg]; exact Nat.ne_of_lt (blk_lt (g := gb153) (o := .cells #[u154000, .int .i64 0, .slice none 0 0] 25 (0, 0)) (fa_ (fa_ (h_ BK153) NB153_159.out) NB153_159.out)) : gb153 ≠ gb160)); have n14_ := mk0 ((by rw [hg]; exact Nat.ne_of_gt (blk_lt (g := gb153) (o := .cells #[u154000, .int .i64 0, .slice none 0 0] 25 (0, 0)) (fa_ (fa_ (h_ BK153) NB153_159.out) NB153_159.out)) : gb160 ≠ gb153)); have n15_ := mk0 ((by rw [hg]; exact Nat.ne_of_lt (blk_lt (g := gb159) (o := .cells #[.int .i64 ((rd_T117 t154 x19_1).f0), .int .i64 ((rd_T117 t154 x19_1).f1)] 117 (0, 0)) (pu_ (cs := #[.int .i64 ((rd_T117 t154 x19_1).f0), .int .i64 0]) (pu_ (cs := #[.int .i64 0, .int .i64 0]) (h_ BK159)))) : gb159 ≠ gb160)); have n16_ := mk0 ((by rw [hg]; exact Nat.ne_of_gt (blk_lt (g := gb159) (o := .cells #[.int .i64 ((rd_T117 t154 x19_1).f0), .int .i64 ((rd_T117 t154 x19_1).f1)] 117 (0, 0)) (pu_ (cs := #[.int .i64 ((rd_T117 t154 x19_1).f0), .int .i64 0]) (pu_ (cs := #[.int .i64 0, .int .i64 0]) (h_ BK159)))) : gb160 ≠ gb159)); replace HO_17 := mk0 (Kd.R_below (r2_ (Kd.R_mono (Kd.R_far (p := ⟨gb159, 1, none⟩) (Kd.R_far (p := ⟨gb159, 0, none⟩) (Kd.R_mono HO_17.out (fun k_ hk => (⟨hk, hk.2⟩ : _ ∧ k_ ≠ gb159))) (fun _ hk => hk.2) (.int .i64 ((rd_T117 t154 x19_1).f0))) (fun _ hk => hk.2) (.int .i64 ((rd_T117 t154 x19_1).f1))) (fun _ h_ => h_.1))) hb); replace BK145 := mk0 (blk_below (g := gb145) (o := .cells #[.slice none 0 0, .int .i64 0, .slice none 0 0] 25 (0, 0)) (fa_ (fa_ (h_ BK145) NB145_159.out) NB145_159.out) hb); replace BK153 := mk0 (blk_below (g := gb153) (o := .cells #[u154000, .int .i64 0, .slice none 0 0] 25 (0, 0)) (fa_ (fa_ (h_ BK153) NB153_159.out) NB153_159.out) hb); replace BK159 := mk0 (blk_below (g := gb159) (o := .cells #[.int .i64 ((rd_T117 t154 x19_1).f0), .int .i64 ((rd_T117 t154 x19_1).f1)] 117 (0, 0)) (pu_ (cs := #[.int .i64 ((rd_T117 t154 x19_1).f0), .int .i64 0]) (pu_ (cs := #[.int .i64 0, .int .i64 0]) (h_ BK159))) hb); replace HB := mk0 (bt_ (b_ HB) hb); have BK160 := mk0 (hbox); clear HO_4 HO_5 HO_154000; have HO_4 := n0_; have HO_5 := n1_; have HO_154000 := n3_; have GW160 := n9_; have GE160 := n10_; have NB145_160 := n11_; have NB160_145 := n12_; have NB153_160 := n13_; have NB160_153 := n14_; have NB159_160 := n15_; have NB160_159 := n16_; clear n0_ n1_ n3_ n9_ n10_ n11_ n12_ n13_ n14_ n15_ n16_ hb hbox hg; have hnb25 := NB160_145.out; have hnc25 := NB145_160.out; have hnb26 := NB160_153.out; have hnc26 := NB153_160.out; have hnb27 := NB160_159.out; have hnc27 := NB159_160.out; obtain ⟨hcz28_0, hcz28_1, hcz28_2, hcz28_3, hfz28_0, hfz28_1, hfz28_2, hfz28_3⟩ := c4_ BK160) | ((with_reducible refine gate_store (t := 85) (p := 8) rfl ?_); refine sv_ (t := 85) (p := 8) (w1 := ((((w24.setCell ⟨gb160, 0, none⟩ (.slice none 0 0)).setCell ⟨gb160, 1, none⟩ (.slice none 0 0)).setCell ⟨gb160, 2, none⟩ (.slice none 0 0)).setCell ⟨gb160, 3, none⟩ (.bool true))) (h := ?_); intro w29 hw; have n0_ : Fc (Kd.R (Kd.int .i64) 3 w29 w.heap.size (fun _ => True) u4 x4_1) := ⟨(by rw [hw]; exact (r2_ (Kd.R_mono (Kd.R_far (p := ⟨gb160, 3, none⟩) (Kd.R_far (p := ⟨gb160, 2, none⟩) (Kd.R_far (p := ⟨gb160, 1, none⟩) (Kd.R_far (p := ⟨gb160, 0, none⟩) (Kd.R_types HO_4.out BK160.out (by decide)) (fun _ hk => hk.2) (.slice none 0 0)) (fun _ hk => hk.2) (.slice none 0 0)) (fun _ hk => hk.2) (.slice none 0 0)) (fun _ hk => hk.2) (.bool true)) (fun _ hk => trivial))))⟩; have n1_ : Fc (Kd.R Kd.string 9 w29 w.heap.size (fun _ => True) u5 x5_1) := ⟨(by rw [hw]; exact (r2_ (Kd.R_mono (Kd.R_far (p := ⟨gb160, 3, none⟩) (Kd.R_far (p := ⟨gb160, 2, none⟩) (Kd.R_far (p := ⟨gb160, 1, none⟩) (Kd.R_far (p := ⟨gb160, 0, none⟩) (Kd.R_types HO_5.out BK160.out (by decide)) (fun _ hk => hk.2) (.slice none 0 0)) (fun _ hk => hk.2) (.slice none 0 0)) (fun _ hk => hk.2) (.slice none 0 0)) (fun _ hk => hk.2) (.bool true)) (fun _ hk => trivial))))⟩; have n2_ : Fc (Kd.R k117 117 w29 w.heap.size (fun k_ => k_ ≠ gb159) (.slice (some ad158) t154.length co13) t154) := ⟨(by rw [hw]; exact (r2_ (Kd.R_mono (Kd.R_far (p := ⟨gb160, 3, none⟩) (Kd.R_far (p := ⟨gb160, 2, none⟩) (Kd.R_far (p := ⟨gb160, 1, none⟩) (Kd.R_far (p := ⟨gb160, 0, none⟩) (Kd.R_types HO_17.out BK160.out (by decide)) (fun _ hk => hk.2) (.slice none 0 0)) (fun _ hk => hk.2) (.slice none 0 0)) (fun _ hk => hk.2) (.slice none 0 0)) (fun _ hk => hk.2) (.bool true)) (fun _ hk => hk.1.2))))⟩; have n3_ : Fc (Kd.S k85 85 w29 w.heap.size (fun k_ => some k_ ≠ (u4 : Value).ownBlock ∧ some k_ ≠ (u5 : Value).ownBlock ∧ k_ ≠ gb160) u154000 x154000_1) := ⟨(by rw [hw]; exact (s2_ (Kd.S_mono (Kd.S_far (p := ⟨gb160, 3, none⟩) (Kd.S_far (p := ⟨gb160, 2, none⟩) (Kd.S_far (p := ⟨gb160, 1, none⟩) (Kd.S_far (p := ⟨gb160, 0, none⟩) (Kd.S_mono HO_154000.out (fun k_ hk => (⟨hk, hk.2⟩ : _ ∧ k_ ≠ gb160))) (fun _ hk => hk.2) (.slice none 0 0)) (fun _ hk => hk.2) (.slice none 0 0)) (fun _ hk => hk.2) (.slice none 0 0)) (fun _ hk => hk.2) (.bool true)) (fun _ hk => ⟨hk.1.1.1, ⟨hk.1.1.2, hk.1.2⟩⟩))))⟩; have n4_ : Fc (w29.heap[gb145]? = some (.cells #[.slice none 0 0, .int .i64 0, .slice none 0 0] 25 (0, 0))) := ⟨(by rw [hw]; exact (fa_ (fa_ (fa_ (fa_ (h_ BK145) NB145_160.out) NB145_160.out) NB145_160.out) NB145_160.out))⟩; have n5_ : Fc (w29.heap[gb153]? = some (.cells #[u154000, .int .i64 0, .slice none 0 0] 25 (0, 0))) := ⟨(by rw [hw]; exact (fa_ (fa_ (fa_ (fa_ (h_ BK153) NB153_160.out) NB153_160.out) NB153_160.out) NB153_160.out))⟩; have n6_ : Fc (w29.heap[gb159]? = some (.cells #[.int .i64 ((rd_T117 t154 x19_1).f0), .int .i64 ((rd_T117 t154 x19_1).f1)] 117 (0, 0))) := ⟨(by rw [hw]; exact (fa_ (fa_ (fa_ (fa_ (h_ BK159) NB159_160.out) NB159_160.out) NB159_160.out) NB159_160.out))⟩; have n7_ : Fc (w29.heap[gb160]? = some (.cells #[.slice none 0 0, .slice none 0 0, .slice none 0 0, .bool true] 85 (0, 0))) := ⟨(by rw [hw]; exact (pu_ (cs := #[.slice none 0 0, .slice none 0 0, .slice none 0 0, .bool false]) (pu_ (cs := #[.slice none 0 0, .slice none 0 0, .slice none 0 0, .bool false]) (pu_ (cs := #[.slice none 0 0, .slice none 0 0, .slice none 0 0, .bool false]) (pu_ (cs := #[.slice none 0 0, .slice none 0 0, .slice none 0 0, .bool false]) (h_ BK160))))))⟩; have n8_ : Fc (Below w.heap.size w w29) := ⟨(by rw [hw]; exact (b_ HB))⟩; clear hw HO_4 HO_5 HO_17 HO_154000 BK145 BK153 BK159 BK160 HB; have HO_4 := n0_; have HO_5 := n1_; have HO_17 := n2_; have HO_154000 := n3_; have BK145 := n4_; have BK153 := n5_; have BK159 := n6_; have BK160 := n7_; have HB := n8_; clear n0_ n1_ n2_ n3_ n4_ n5_ n6_ n7_ n8_; obtain ⟨hcz30_0, hcz30_1, hfz30_0, hfz30_1⟩ := c2_ BK159; have q31 : (((rd_T117 t154 x19_1).f1) : Int) ≤ ((l0.length : Int) : Int) := of_decide_eq_true (by first | (with_reducible assumption) | assumption); obtain ⟨i031, hi031, _, hsz31, _⟩ := info_parts info91; have hroom31 : l0.length ≤ c0 := HC0.out; have hC31 : Kd.C k91 _ A0 l0.length l0 := HR0.out; have ql31 : (((rd_T117 t154 x19_1).f0) : Int) ≤ (((rd_T117 t154 x19_1).f1) : Int) := of_decide_eq_true (by first | (with_reducible assumption) | assumption); have q031 : (0 : Int) ≤ (((rd_T117 t154 x19_1).f0) : Int) := of_decide_eq_true (by first | (with_reducible assumption) | assumption); have hcut31 := cut_mid (P := Tryd.prog) 75 91 .i64 .i64 Tryd.underlying75 hi031 2 hsz31 A0 l0.length c0 ((rd_T117 t154 x19_1).f0) ((rd_T117 t154 x19_1).f1) q031 ql31 q31 hroom31; have hr31 := Kd.C_mid (lo := (((rd_T117 t154 x19_1).f0) : Int).toNat) (hi := (((rd_T117 t154 x19_1).f1) : Int).toNat) (c := c0) hC31 (by omega) (by omega) hroom31; obtain ⟨A31, hA31⟩ : ∃ A1, A1 = (if c0 = (((rd_T117 t154 x19_1).f0) : Int).toNat then A0 else (A0 : Option Addr).map (·.add ((((rd_T117 t154 x19_1).f0) : Int).toNat * 2))) := ⟨_, rfl⟩; obtain ⟨c31, hc31⟩ : ∃ c1, c1 = c0 - (((rd_T117 t154 x19_1).f0) : Int).toNat := ⟨_, rfl⟩; have hy31 : y161.length = (((rd_T117 t154 x19_1).f1) : Int).toNat - (((rd_T117 t154 x19_1).f0) : Int).toNat := (by rw [Ny161.out, List.length_drop, List.length_take] <;> omega); rw [show ((l0).take (((rd_T117 t154 x19_1).f1) : Int).toNat).drop (((rd_T117 t154 x19_1).f0) : Int).toNat = y161 from Ny161.out.symm] at hr31; replace hr31 : Kd.C k91 _ A31 y161.length y161 := (by rw [hA31]; exact hr31); rw [← hy31, ← hA31, ← hc31] at hcut31; have HR164 := mk0 hr31; have HC164 := mk0 (show y161.length ≤ c31 from by rw [hy31, hc31]; exact Nat.sub_le_sub_right (Nat.le_trans (by omega) hroom31) _); clear hr31 hC31 hroom31 hi031 hsz31 hc31; have KY31 := mk0 hy31; have KA31 := mk0 hA31; clear hy31 hA31; replace q31 := eq_true q31))
           go_loopg [31] k1 (fun kq v31 w' => ∃ (x31_2 : Int) (x161000_2 : List ByteArray) (x161001_2 : List Int) (u161000 : Value) (u161001 : Value), v31 = .int .i64 x31_2 ∧ Fc (tree_made.l1 kq l0 x4_1 x5_1 t154 (t154.length : Int) x19_1 y161 (y161.length : Int) x31_2 x154000_1 0 x161000_2 x161001_2 true = some (r1, r2, r3)) ∧ Fc (kq ≤ k1) ∧ Fc (Kd.R (Kd.int .i64) 3 w' w.heap.size (fun k_ => some k_ ≠ (u161001 : Value).ownBlock) u4 x4_1) ∧ Fc (Kd.R Kd.string 9 w' w.heap.size (fun k_ => some k_ ≠ (u161000 : Value).ownBlock) u5 x5_1) ∧ Fc (Kd.R k117 117 w' w.heap.size (fun k_ => k_ ≠ gb159) (.slice (some ad158) t154.length co13) t154) ∧ Fc (Kd.S k85 85 w' w.heap.size (fun k_ => some k_ ≠ (u4 : Value).ownBlock ∧ some k_ ≠ (u5 : Value).ownBlock ∧ some k_ ≠ (u161000 : Value).ownBlock ∧ some k_ ≠ (u161001 : Value).ownBlock ∧ k_ ≠ gb160) u154000 x154000_1) ∧ Fc (Kd.R Kd.string 9 w' w.heap.size (fun k_ => some k_ ≠ (u5 : Value).ownBlock) u161000 x161000_2) ∧ Fc (Kd.R (Kd.int .i64) 3 w' w.heap.size (fun k_ => some k_ ≠ (u4 : Value).ownBlock) u161001 x161001_2) ∧ Fc (w'.heap[gb145]? = some (.cells #[(.slice none 0 0), .int .i64 0, (.slice none 0 0)] 25 (0, 0))) ∧ Fc (w'.heap[gb153]? = some (.cells #[u154000, .int .i64 0, (.slice none 0 0)] 25 (0, 0))) ∧ Fc (w'.heap[gb159]? = some (.cells #[.int .i64 ((rd_T117 t154 x19_1).f0), .int .i64 ((rd_T117 t154 x19_1).f1)] 117 (0, 0))) ∧ Fc (w'.heap[gb160]? = some (.cells #[u161000, u161001, (.slice none 0 0), .bool true] 85 (0, 0))) ∧ Fc (Below w.heap.size w w'))
           case atStart => exact ⟨(0), (([] : List ByteArray)), (([] : List Int)), (.slice none 0 0), (.slice none 0 0), (by first | rfl | (simp; done) | (simp [*]; done)), H', ⟨Nat.le_refl _⟩, ⟨by (with_reducible repeat (first | apply Ra_ | apply Rn_ | apply Rd_)); exact Kd.R_mono HO_4.out (fun _ hk => (by simp [Value.ownBlock]))⟩, ⟨by (with_reducible repeat (first | apply Ra_ | apply Rn_ | apply Rd_)); exact Kd.R_mono HO_5.out (fun _ hk => (by simp [Value.ownBlock]))⟩, ⟨by (with_reducible repeat (first | apply Ra_ | apply Rn_ | apply Rd_)); exact HO_17.out⟩, ⟨by (with_reducible repeat (first | apply Kd.S_alloc | apply Kd.S_drewN | apply Kd.S_drew)); exact Kd.S_mono HO_154000.out (fun _ hk => ⟨hk.1, ⟨hk.2.1, ⟨(by simp [Value.ownBlock]), ⟨(by simp [Value.ownBlock]), hk.2.2⟩⟩⟩⟩)⟩, ⟨by first | exact Kd.R_nil _ _ _ _ _ | exact Kd.N_nil _ _ _ _ _ | exact Kd.V_nil _ _ _ _ _ | exact Kd.Q_nil _ _ _ _ _ | exact Kd.S_nil _ _ _ _ _⟩, ⟨by first | exact Kd.R_nil _ _ _ _ _ | exact Kd.N_nil _ _ _ _ _ | exact Kd.V_nil _ _ _ _ _ | exact Kd.Q_nil _ _ _ _ _ | exact Kd.S_nil _ _ _ _ _⟩, ⟨h_ BK145⟩, ⟨h_ BK153⟩, ⟨h_ BK159⟩, ⟨h_ BK160⟩, ⟨b_ HB⟩⟩
           case round =>
            clear H'
            try clear c1
            try clear c2
            try clear c2b0
            try clear c2b1
            try clear c2b2
            try clear c14
            try clear c14b0
            try clear c15
            try clear c15b0
            try clear c16
            try clear c16b0
            try clear c17
            try clear c17b0
            try clear c17b1
            try clear c18
            try clear c18b0
            try clear c18b1
            try clear c19
            try clear c19b0
            try clear c19b1
            try clear c31
            try clear q31
            try clear hcz23_0
            try clear hcz23_1
            try clear hcz28_0
            try clear hcz28_1
            try clear hcz28_2
            try clear hcz28_3
            try clear hcz30_0
            try clear hcz30_1
            try clear hcz7_0
            try clear hcz7_1
            try clear hcz7_2
            try clear hfz23_0
            try clear hfz23_1
            try clear hfz28_0
            try clear hfz28_1
            try clear hfz28_2
            try clear hfz28_3
            try clear hfz30_0
            try clear hfz30_1
            try clear hfz7_0
            try clear hfz7_1
            try clear hfz7_2
            try clear hx158_0
            try clear hx158_1
            try clear p158
            try clear q031
            try clear q158
            try clear q31
            obtain ⟨x31_2, x161000_2, x161001_2, u161000, u161001, rfl, HA, HK2, HO_4, HO_5, HO_17, HO_154000, HO_161000, HO_161001, BK145, BK153, BK159, BK160, HB⟩ := hrel
            cases gk with
            | zero => exact absurd HA.out (by simp [tree_made.l1])
            | succ k2 =>
             have H := HA.out
             clear HA
             simp only [tree_made.l1] at H
             as_aux_lemma =>
              by_cases c32 : x31_2 < (y161.length : Int)
              ·rw [if_pos c32] at H
               have c32b0 : decide (x31_2 < (y161.length : Int)) = true := decide_eq_true c32
               clear c32
               by_cases c33 : 0 ≤ x31_2
               ·rw [if_pos c33] at H
                have c33b0 : decide (0 ≤ x31_2) = true := decide_eq_true c33
                clear c33
                by_cases c34 : x31_2 < (y161.length : Int)
                ·rw [if_pos c34] at H
                 have c34b0 : decide (x31_2 < (y161.length : Int)) = true := decide_eq_true c34
                 clear c34
                 by_cases c35 : x161000_2.length < 8796093022208
                 ·rw [if_pos c35] at H
                  have LMc35 := mk0 c35
                  clear c35
                  obtain ⟨y167, hy167⟩ : ∃ y_ : List ByteArray, y_ = (x161000_2 ++ [(rd_T91 y161 x31_2).f0]) := ⟨_, rfl⟩
                  replace H : (if x161001_2.length < 17592186044416 then (tree_made.l1 k2 l0 x4_1 x5_1 t154 (t154.length : Int) x19_1 y161 (y161.length : Int) (wrap64 (x31_2 + 1)) x154000_1 0 y167 (x161001_2 ++ [(rd_T91 y161 x31_2).f1]) true) else (none)) = some (r1, r2, r3) := by first | (rw [hy167]; with_reducible exact H) | (have H2_ := (Option.bind_some _ _).symm.trans H; rw [hy167]; with_reducible exact H2_) | (have H2_ := (Option.bind_some _ _).symm.trans H; with_reducible exact H2_) | with_reducible exact H | (rw [hy167]; exact H) | exact H
                  have Ny167 := mk0 hy167
                  clear hy167
                  by_cases c36 : x161001_2.length < 17592186044416
                  ·rw [if_pos c36] at H
                   have LMc36 := mk0 c36
                   clear c36
                   obtain ⟨y170, hy170⟩ : ∃ y_ : List Int, y_ = (x161001_2 ++ [(rd_T91 y161 x31_2).f1]) := ⟨_, rfl⟩
                   replace H : (tree_made.l1 k2 l0 x4_1 x5_1 t154 (t154.length : Int) x19_1 y161 (y161.length : Int) (wrap64 (x31_2 + 1)) x154000_1 0 y167 y170 true) = some (r1, r2, r3) := by first | (rw [hy170]; with_reducible exact H) | (have H2_ := (Option.bind_some _ _).symm.trans H; rw [hy170]; with_reducible exact H2_) | (have H2_ := (Option.bind_some _ _).symm.trans H; with_reducible exact H2_) | with_reducible exact H | (rw [hy170]; exact H) | exact H
                   have Ny170 := mk0 hy170
                   clear hy170
                   have H' := mk0 H
                   clear H
                   have p165 : 0 ≤ (x31_2 : Int) := of_decide_eq_true (by first | (with_reducible assumption) | assumption)
                   have q165 : x31_2 < (y161.length : Int) := of_decide_eq_true (by first | (with_reducible assumption) | assumption)
                   obtain ⟨ad165, e165, hx165_0, hx165_1⟩ := at_T91 HR164.out x31_2 p165 q165
                   cases e165
                   replace hx165_0 := (bc_ HB hx165_0 :)
                   replace hx165_1 := (bc_ HB hx165_1 :)
                   replace p165 := eq_true p165
                   replace q165 := eq_true q165
                   go_wp2_with (first | ((with_reducible refine gate_dst (N := 10) rfl ?_); refine bx_ (N := 10) (cs := #[.string (⟨#[]⟩ : ByteArray), .int .i64 0]) (t := 91) (h := ?_); intro gb166 hg w37 hbox hb; have n12_ := mk0 (gz_ HB hg); have n13_ := mk0 (gz_ HB hg); have n14_ := mk0 (ne1_ BK145 hg); have n15_ := mk0 (ne2_ BK145 hg); have n16_ := mk0 (ne1_ BK153 hg); have n17_ := mk0 (ne2_ BK153 hg); have n18_ := mk0 (ne1_ BK159 hg); have n19_ := mk0 (ne2_ BK159 hg); have n20_ := mk0 (ne1_ BK160 hg); have n21_ := mk0 (ne2_ BK160 hg); replace HO_4 := mk0 (Kd.R_below (r_ HO_4) hb); replace HO_5 := mk0 (Kd.R_below (r_ HO_5) hb); replace HO_17 := mk0 (Kd.R_below (r_ HO_17) hb); replace HO_154000 := mk0 (Kd.S_below (s_ HO_154000) hb); replace HO_161000 := mk0 (Kd.R_below (r_ HO_161000) hb); replace HO_161001 := mk0 (Kd.R_below (r_ HO_161001) hb); replace BK145 := mk0 (u_ BK145 hb); replace BK153 := mk0 (u_ BK153 hb); replace BK159 := mk0 (u_ BK159 hb); replace BK160 := mk0 (u_ BK160 hb); replace HB := mk0 (bt_ (b_ HB) hb); have BK166 := mk0 (hbox); have GW166 := n12_; have GE166 := n13_; have NB145_166 := n14_; have NB166_145 := n15_; have NB153_166 := n16_; have NB166_153 := n17_; have NB159_166 := n18_; have NB166_159 := n19_; have NB160_166 := n20_; have NB166_160 := n21_; clear n12_ n13_ n14_ n15_ n16_ n17_ n18_ n19_ n20_ n21_ hb hbox hg; have hnb38 := NB166_145.out; have hnc38 := NB145_166.out; have hnb39 := NB166_153.out; have hnc39 := NB153_166.out; have hnb40 := NB166_159.out; have hnc40 := NB159_166.out; have hnb41 := NB166_160.out; have hnc41 := NB160_166.out; obtain ⟨hcz42_0, hcz42_1, hfz42_0, hfz42_1⟩ := c2_ BK166; have hnb43 := NB160_145.out; have hnc43 := NB145_160.out; have hnb44 := NB160_153.out; have hnc44 := NB153_160.out; have hnb45 := NB160_159.out; have hnc45 := NB159_160.out; obtain ⟨hcz46_0, hcz46_1, hcz46_2, hcz46_3, hfz46_0, hfz46_1, hfz46_2, hfz46_3⟩ := c4_ BK160))
                   have m0_ : Fc (Kd.R (Kd.int .i64) 3 ((w37.setCell ⟨gb166, 0, none⟩ (.string ((rd_T91 y161 x31_2).f0))).setCell ⟨gb166, 1, none⟩ (.int .i64 ((rd_T91 y161 x31_2).f1))) w.heap.size (fun k_ => some k_ ≠ (u161001 : Value).ownBlock) u4 x4_1) := ⟨Kd.R_mono (Kd.R_far (p := ⟨gb166, 1, none⟩) (Kd.R_far (p := ⟨gb166, 0, none⟩) (Kd.R_types HO_4.out BK166.out (by decide)) (fun _ hk => hk.2) (.string ((rd_T91 y161 x31_2).f0))) (fun _ hk => hk.2) (.int .i64 ((rd_T91 y161 x31_2).f1))) (fun _ hk => hk.1)⟩
                   have m1_ : Fc (Kd.R Kd.string 9 ((w37.setCell ⟨gb166, 0, none⟩ (.string ((rd_T91 y161 x31_2).f0))).setCell ⟨gb166, 1, none⟩ (.int .i64 ((rd_T91 y161 x31_2).f1))) w.heap.size (fun k_ => some k_ ≠ (u161000 : Value).ownBlock) u5 x5_1) := ⟨Kd.R_mono (Kd.R_far (p := ⟨gb166, 1, none⟩) (Kd.R_far (p := ⟨gb166, 0, none⟩) (Kd.R_types HO_5.out BK166.out (by decide)) (fun _ hk => hk.2) (.string ((rd_T91 y161 x31_2).f0))) (fun _ hk => hk.2) (.int .i64 ((rd_T91 y161 x31_2).f1))) (fun _ hk => hk.1)⟩
                   have m2_ : Fc (Kd.R k117 117 ((w37.setCell ⟨gb166, 0, none⟩ (.string ((rd_T91 y161 x31_2).f0))).setCell ⟨gb166, 1, none⟩ (.int .i64 ((rd_T91 y161 x31_2).f1))) w.heap.size (fun k_ => k_ ≠ gb159) (.slice (some ad158) t154.length co13) t154) := ⟨Kd.R_mono (Kd.R_far (p := ⟨gb166, 1, none⟩) (Kd.R_far (p := ⟨gb166, 0, none⟩) (Kd.R_types HO_17.out BK166.out (by decide)) (fun _ hk => hk.2) (.string ((rd_T91 y161 x31_2).f0))) (fun _ hk => hk.2) (.int .i64 ((rd_T91 y161 x31_2).f1))) (fun _ hk => hk.1)⟩
                   have m3_ : Fc (Kd.S k85 85 ((w37.setCell ⟨gb166, 0, none⟩ (.string ((rd_T91 y161 x31_2).f0))).setCell ⟨gb166, 1, none⟩ (.int .i64 ((rd_T91 y161 x31_2).f1))) w.heap.size (fun k_ => some k_ ≠ (u4 : Value).ownBlock ∧ some k_ ≠ (u5 : Value).ownBlock ∧ some k_ ≠ (u161000 : Value).ownBlock ∧ some k_ ≠ (u161001 : Value).ownBlock ∧ k_ ≠ gb160) u154000 x154000_1) := ⟨Kd.S_mono (Kd.S_far (p := ⟨gb166, 1, none⟩) (Kd.S_far (p := ⟨gb166, 0, none⟩) (Kd.S_types HO_154000.out BK166.out (by decide)) (fun _ hk => hk.2) (.string ((rd_T91 y161 x31_2).f0))) (fun _ hk => hk.2) (.int .i64 ((rd_T91 y161 x31_2).f1))) (fun _ hk => hk.1)⟩
                   have m4_ : Fc (Kd.R Kd.string 9 ((w37.setCell ⟨gb166, 0, none⟩ (.string ((rd_T91 y161 x31_2).f0))).setCell ⟨gb166, 1, none⟩ (.int .i64 ((rd_T91 y161 x31_2).f1))) w.heap.size (fun k_ => some k_ ≠ (u5 : Value).ownBlock) u161000 x161000_2) := ⟨Kd.R_mono (Kd.R_far (p := ⟨gb166, 1, none⟩) (Kd.R_far (p := ⟨gb166, 0, none⟩) (Kd.R_types HO_161000.out BK166.out (by decide)) (fun _ hk => hk.2) (.string ((rd_T91 y161 x31_2).f0))) (fun _ hk => hk.2) (.int .i64 ((rd_T91 y161 x31_2).f1))) (fun _ hk => hk.1)⟩
                   have m5_ : Fc (Kd.R (Kd.int .i64) 3 ((w37.setCell ⟨gb166, 0, none⟩ (.string ((rd_T91 y161 x31_2).f0))).setCell ⟨gb166, 1, none⟩ (.int .i64 ((rd_T91 y161 x31_2).f1))) w.heap.size (fun k_ => some k_ ≠ (u4 : Value).ownBlock) u161001 x161001_2) := ⟨Kd.R_mono (Kd.R_far (p := ⟨gb166, 1, none⟩) (Kd.R_far (p := ⟨gb166, 0, none⟩) (Kd.R_types HO_161001.out BK166.out (by decide)) (fun _ hk => hk.2) (.string ((rd_T91 y161 x31_2).f0))) (fun _ hk => hk.2) (.int .i64 ((rd_T91 y161 x31_2).f1))) (fun _ hk => hk.1)⟩
                   have m6_ : Fc (((w37.setCell ⟨gb166, 0, none⟩ (.string ((rd_T91 y161 x31_2).f0))).setCell ⟨gb166, 1, none⟩ (.int .i64 ((rd_T91 y161 x31_2).f1))).heap[gb145]? = some (.cells #[.slice none 0 0, .int .i64 0, .slice none 0 0] 25 (0, 0))) := ⟨fa_ (fa_ (h_ BK145) NB145_166.out) NB145_166.out⟩
                   have m7_ : Fc (((w37.setCell ⟨gb166, 0, none⟩ (.string ((rd_T91 y161 x31_2).f0))).setCell ⟨gb166, 1, none⟩ (.int .i64 ((rd_T91 y161 x31_2).f1))).heap[gb153]? = some (.cells #[u154000, .int .i64 0, .slice none 0 0] 25 (0, 0))) := ⟨fa_ (fa_ (h_ BK153) NB153_166.out) NB153_166.out⟩
                   have m8_ : Fc (((w37.setCell ⟨gb166, 0, none⟩ (.string ((rd_T91 y161 x31_2).f0))).setCell ⟨gb166, 1, none⟩ (.int .i64 ((rd_T91 y161 x31_2).f1))).heap[gb159]? = some (.cells #[.int .i64 ((rd_T117 t154 x19_1).f0), .int .i64 ((rd_T117 t154 x19_1).f1)] 117 (0, 0))) := ⟨fa_ (fa_ (h_ BK159) NB159_166.out) NB159_166.out⟩
                   have m9_ : Fc (((w37.setCell ⟨gb166, 0, none⟩ (.string ((rd_T91 y161 x31_2).f0))).setCell ⟨gb166, 1, none⟩ (.int .i64 ((rd_T91 y161 x31_2).f1))).heap[gb160]? = some (.cells #[u161000, u161001, .slice none 0 0, .bool true] 85 (0, 0))) := ⟨fa_ (fa_ (h_ BK160) NB160_166.out) NB160_166.out⟩
                   have m10_ : Fc (Below w.heap.size w ((w37.setCell ⟨gb166, 0, none⟩ (.string ((rd_T91 y161 x31_2).f0))).setCell ⟨gb166, 1, none⟩ (.int .i64 ((rd_T91 y161 x31_2).f1)))) := ⟨b_ HB⟩
                   have m11_ : Fc (((w37.setCell ⟨gb166, 0, none⟩ (.string ((rd_T91 y161 x31_2).f0))).setCell ⟨gb166, 1, none⟩ (.int .i64 ((rd_T91 y161 x31_2).f1))).heap[gb166]? = some (.cells #[.string ((rd_T91 y161 x31_2).f0), .int .i64 ((rd_T91 y161 x31_2).f1)] 91 (0, 0))) := ⟨pu_ (cs := #[.string ((rd_T91 y161 x31_2).f0), .int .i64 0]) (pu_ (cs := #[.string (⟨#[]⟩ : ByteArray), .int .i64 0]) (h_ BK166))⟩
                   clear HO_4 HO_5 HO_17 HO_154000 HO_161000 HO_161001 BK145 BK153 BK159 BK160 HB BK166
                   generalize ((w37.setCell ⟨gb166, 0, none⟩ (.string ((rd_T91 y161 x31_2).f0))).setCell ⟨gb166, 1, none⟩ (.int .i64 ((rd_T91 y161 x31_2).f1))) = w38 at m0_ m1_ m2_ m3_ m4_ m5_ m6_ m7_ m8_ m9_ m10_ m11_ ⊢
                   have HO_4 := mk0 (Rd_ m0_.out)
                   have HO_5 := mk0 (Rd_ m1_.out)
                   have HO_17 := mk0 (Rd_ m2_.out)
                   have HO_154000 := mk0 (Kd.S_drew m3_.out)
                   have HO_161000 := mk0 (Rd_ m4_.out)
                   have HO_161001 := mk0 (Rd_ m5_.out)
                   have BK145 := mk0 (bD_ m6_.out)
                   have BK153 := mk0 (bD_ m7_.out)
                   have BK159 := mk0 (bD_ m8_.out)
                   have BK160 := mk0 (bD_ m9_.out)
                   have HB := mk0 (b1_ m10_.out)
                   have BK166 := mk0 (bD_ m11_.out)
                   clear m0_ m1_ m2_ m3_ m4_ m5_ m6_ m7_ m8_ m9_ m10_ m11_
                   refine start_ (n := 16) (S := fun w' => w'.cell? ⟨gb160, 0, none⟩ = some u161000 ∧ w'.cell? ⟨gb160, 1, none⟩ = some u161001 ∧ w'.cell? ⟨gb166, 0, none⟩ = some (.string ((rd_T91 y161 x31_2).f0)) ∧ w'.cell? ⟨gb166, 1, none⟩ = some (.int .i64 ((rd_T91 y161 x31_2).f1))) (ds := [13, 15]) (bt 16 0) (by kernel_rfl) rfl rfl ⟨bk_ BK160 0, bk_ BK160 1, bk_ BK166 0, bk_ BK166 1⟩ (fun hHeld => ?_); refine with_tabW tree_made.tab13 tree_made.bits13 (fun HT_ HW_ => ?_)
                   generalize w38.drew = w39 at HO_4 HO_5 HO_17 HO_154000 HO_161000 HO_161001 BK145 BK153 BK159 BK160 BK166 HB hHeld ⊢
                   refine pq_ HT_.out 0 35 (bt 16 1) (h := ?_)
                   refine pq_ HT_.out 2 37 (bt 16 5) (h := ?_)
                   refine pq_ HT_.out 6 41 (bt 16 69) (h := ?_)
                   refine pq_ HT_.out 8 43 (bt 16 325) (h := ?_)
                   refine tq4_ HT_.out HW_.out 1 36 (bt 16 327) hHeld (h := ?_)
                   refine tq4_ HT_.out HW_.out 3 38 (bt 16 335) hHeld (h := ?_)
                   refine tq4_ HT_.out HW_.out 7 42 (bt 16 463) hHeld (h := ?_)
                   refine tq4_ HT_.out HW_.out 9 44 (bt 16 975) hHeld (h := ?_)
                   have hTs := Kd.R_typed HO_161000.out
                   have hTi := Kd.R_typed HO_161001.out
                   refine HApps.two_appsX Kd.string (Kd.int .i64) (w0 := w) (W0 := w39) (base := w.heap.size) 4 5 10 11 12 39 40 45 46 47 36 42 38 44 8 (.pointer (some ⟨gb160, 0, none⟩)) (cx := .pointer (some ⟨gb160, 0, none⟩)) (v1 := u161000) (v2 := u161001) (xs1 := x161000_2) (xs2 := x161001_2) (x1 := (rd_T91 y161 x31_2).f0) (x2 := (rd_T91 y161 x31_2).f1) (c1 := (.string ((rd_T91 y161 x31_2).f0))) (c2 := (.int .i64 ((rd_T91 y161 x31_2).f1))) (t1 := 83) (e1 := 9) (t2 := 23) (e2 := 3) (bt 16 991) (bt 16 1999) (bt 16 1023) (bt 16 2015) (bt 16 2047) (bt 16 5119) (bt 16 6143) (bt 16 8191) rfl rfl rfl rfl rfl rfl rfl ?hX rfl (fun _ _ _ h => h) (any_of HT_.out (by kernel_rfl)) (any_of HT_.out (by kernel_rfl)) (by decide) rfl rfl rfl rfl rfl rfl rfl rfl (two_of HT_.out (by kernel_rfl)) (two_of HT_.out (by kernel_rfl)) (one_of HT_.out (by kernel_rfl)) (one_of HT_.out (by kernel_rfl)) (one_of HT_.out (by kernel_rfl)) (one_of HT_.out (by kernel_rfl)) (by decide) rfl rfl (fun a' h W => HApps.lit_run rfl Tryd.underlying83 info9 rfl h) (fun a' h W => HApps.lit_run rfl Tryd.underlying23 info3 rfl h) rfl rfl rfl rfl ⟨show 39 < 85 by decide, show 45 < 85 by decide, by decide⟩ Tryd.underlying83 Tryd.underlying23 info9 info3 rfl rfl (by decide) (by decide) (fun _ => rfl) (fun _ => rfl) HO_161000.out HO_161001.out HB.out HB.out.size (by have := LMc35.out; omega) (by have := LMc36.out; omega) ?hS ?hK
                   case hX => exact fun a2 h W => field_run rfl gb160 h W
                   case hS => exact fun W hM => ⟨bk_ (mk0 (hM.blk BK160.out (Kd.R_ne HO_161000.out BK160.out (by decide)) (Kd.R_ne HO_161001.out BK160.out (by decide)))) 0, bk_ (mk0 (hM.blk BK160.out (Kd.R_ne HO_161000.out BK160.out (by decide)) (Kd.R_ne HO_161001.out BK160.out (by decide)))) 1, bk_ (mk0 (hM.blk BK166.out (Kd.R_ne HO_161000.out BK166.out (by decide)) (Kd.R_ne HO_161001.out BK166.out (by decide)))) 0, bk_ (mk0 (hM.blk BK166.out (Kd.R_ne HO_161000.out BK166.out (by decide)) (Kd.R_ne HO_161001.out BK166.out (by decide)))) 1⟩
                   intro k1_ k2_ v168 v171 w50 hF hHeld
                   have HO169 := mk0 (hF.one (ok := fun k_ => some k_ ≠ (u5 : Value).ownBlock) HO_161000.out.1 (Kd.fresh' (Kd.R_lt HO_5.out)))
                   have HO172 := mk0 (hF.two (ok := fun k_ => some k_ ≠ (u4 : Value).ownBlock) HO_161001.out.1 (Kd.fresh' (Kd.R_lt HO_4.out)))
                   have n0_ := mk0 (Kd.R_mono (ok' := fun k_ => True ∧ some k_ ≠ (v171 : Value).ownBlock) (hF.R (Kd.R_apart' HO_4.out hTs (by decide)) (fun k hk => ⟨hk.2, hk.1⟩)) (fun _ hk => ⟨trivial, hk.2.2⟩))
                   have n1_ := mk0 (Kd.R_mono (ok' := fun k_ => True ∧ some k_ ≠ (v168 : Value).ownBlock) (hF.R (Kd.R_apart' HO_5.out hTi (by decide)) (fun k hk => ⟨hk.1, hk.2⟩)) (fun _ hk => ⟨trivial, hk.2.1⟩))
                   have n2_ := mk0 (Kd.R_mono (ok' := fun k_ => k_ ≠ gb159) (hF.R (Kd.R_apart' (Kd.R_apart' HO_17.out hTs (by decide)) hTi (by decide)) (fun k hk => ⟨hk.1.2, hk.2⟩)) (fun _ hk => hk.1.1.1))
                   have n3_ := mk0 (Kd.S_mono (ok' := fun k_ => (some k_ ≠ (u4 : Value).ownBlock ∧ some k_ ≠ (u5 : Value).ownBlock ∧ some k_ ≠ (v168 : Value).ownBlock ∧ k_ ≠ gb160) ∧ some k_ ≠ (v171 : Value).ownBlock) (hF.S HO_154000.out (fun k hk => ⟨hk.2.2.1, hk.2.2.2.1⟩)) (fun _ hk => ⟨⟨hk.1.1, hk.1.2.1, hk.2.1, hk.1.2.2.2.2⟩, hk.2.2⟩))
                   have n4_ := mk0 (hF.2.2.2.blk BK145.out (Kd.R_ne HO_161000.out BK145.out (by decide)) (Kd.R_ne HO_161001.out BK145.out (by decide)))
                   have n5_ := mk0 (hF.2.2.2.blk BK153.out (Kd.R_ne HO_161000.out BK153.out (by decide)) (Kd.R_ne HO_161001.out BK153.out (by decide)))
                   have n6_ := mk0 (hF.2.2.2.blk BK159.out (Kd.R_ne HO_161000.out BK159.out (by decide)) (Kd.R_ne HO_161001.out BK159.out (by decide)))
                   have n7_ := mk0 (hF.2.2.2.blk BK160.out (Kd.R_ne HO_161000.out BK160.out (by decide)) (Kd.R_ne HO_161001.out BK160.out (by decide)))
                   have n8_ := mk0 hF.2.2.1
                   rw [← Ny167.out] at HO169
                   rw [← Ny170.out] at HO172
                   clear hF HO_4 HO_5 HO_17 HO_154000 HO_161000 HO_161001 BK145 BK153 BK159 BK160 BK166 HB hTs hTi
                   have HO_4 := n0_; have HO_5 := n1_; have HO_17 := n2_; have HO_154000 := n3_; have BK145 := n4_; have BK153 := n5_; have BK159 := n6_; have BK160 := n7_; have HB := n8_
                   clear n0_ n1_ n2_ n3_ n4_ n5_ n6_ n7_ n8_
                   obtain ⟨Ao51, co51, eo51⟩ := Kd.R_slice HO169.out
                   subst eo51
                   obtain ⟨Ao53, co53, eo53⟩ := Kd.R_slice HO172.out
                   subst eo53
                   refine norm_ (a' := ?_) ?_ ?_
                   rotate_left
                   ·simp only [z_]
                    rfl
                   refine last_ (i := 13) (N := none) (bt 16 16383) rfl rfl (one_of HT_.out (by kernel_rfl)) (by decide) (fun K hK => ?_)
                   have hs1 := bk_ BK160 0
                   have hfs1 := blk_frozen BK160.out 0
                   refine skip_ (w1 := w50.setCell ⟨gb160, 0, none⟩ (.slice Ao51 y167.length co51)) (by rfl) rfl ?_ ?_
                   ·go_simp
                    done
                   refine hK.out _ _ ?_
                   clear hK K
                   refine pq_ HT_.out 14 48 (bt 16 32767) (h := ?_)
                   refine last_ (i := 15) (N := none) (bt 16 65535) rfl rfl (one_of HT_.out (by kernel_rfl)) (by decide) (fun K hK => ?_)
                   have hBK2 : Fc ((w50.setCell ⟨gb160, 0, none⟩ (.slice Ao51 y167.length co51)).heap[gb160]? = some (.cells #[.slice Ao51 y167.length co51, u161001, .slice none 0 0, .bool true] 85 (0, 0))) := ⟨pu_ (cs := #[u161000, u161001, .slice none 0 0, .bool true]) (h_ BK160)⟩
                   have hs2 := bk_ hBK2 1
                   have hfs2 := blk_frozen hBK2.out 1
                   generalize hw51 : w50.setCell ⟨gb160, 0, none⟩ (.slice Ao51 y167.length co51) = w51 at hs2 hfs2 ⊢
                   refine skip_ (w1 := w51.setCell ⟨gb160, 1, none⟩ (.slice Ao53 y170.length co53)) (by rfl) rfl ?_ ?_
                   ·clear hw51
                    go_simp
                    done
                   subst hw51
                   refine hK.out _ _ ?_
                   clear hK K hs1 hfs1 hs2 hfs2 hBK2
                   refine done_ (done_of HT_.out (by kernel_rfl)) ?_
                   try go_wp2
                   go_roundg k2
                   case measure => have := HK1.out; have := HK2.out; omega
                   case rel => exact ⟨(wrap64 (x31_2 + 1)), (y167), (y170), (.slice Ao51 y167.length co51), (.slice Ao53 y170.length co53), (by first | rfl | (simp; done) | (simp [*]; done)), H', ⟨by have := HK1.out; have := HK2.out; omega⟩, ⟨by (with_reducible repeat (first | apply Ra_ | apply Rn_ | apply Rd_)); exact Kd.R_mono (Kd.R_far (p := ⟨gb160, 1, none⟩) (Kd.R_far (p := ⟨gb160, 0, none⟩) (Kd.R_types HO_4.out BK160.out (by decide)) (fun _ hk => hk.2) (.slice Ao51 y167.length co51)) (fun _ hk => hk.2) (.slice Ao53 y170.length co53)) (fun _ hk => hk.1.2)⟩, ⟨by (with_reducible repeat (first | apply Ra_ | apply Rn_ | apply Rd_)); exact Kd.R_mono (Kd.R_far (p := ⟨gb160, 1, none⟩) (Kd.R_far (p := ⟨gb160, 0, none⟩) (Kd.R_types HO_5.out BK160.out (by decide)) (fun _ hk => hk.2) (.slice Ao51 y167.length co51)) (fun _ hk => hk.2) (.slice Ao53 y170.length co53)) (fun _ hk => hk.1.2)⟩, ⟨by (with_reducible repeat (first | apply Ra_ | apply Rn_ | apply Rd_)); exact Kd.R_mono (Kd.R_far (p := ⟨gb160, 1, none⟩) (Kd.R_far (p := ⟨gb160, 0, none⟩) (Kd.R_types HO_17.out BK160.out (by decide)) (fun _ hk => hk.2) (.slice Ao51 y167.length co51)) (fun _ hk => hk.2) (.slice Ao53 y170.length co53)) (fun _ hk => hk.1)⟩, ⟨by (with_reducible repeat (first | apply Kd.S_alloc | apply Kd.S_drewN | apply Kd.S_drew)); exact Kd.S_mono (Kd.S_far (p := ⟨gb160, 1, none⟩) (Kd.S_far (p := ⟨gb160, 0, none⟩) (Kd.S_mono HO_154000.out (fun k_ hk => (⟨hk, hk.1.2.2.2⟩ : _ ∧ k_ ≠ gb160))) (fun _ hk => hk.2) (.slice Ao51 y167.length co51)) (fun _ hk => hk.2) (.slice Ao53 y170.length co53)) (fun _ hk => ⟨hk.1.1.1, ⟨hk.1.1.2.1, ⟨hk.1.1.2.2.1, ⟨hk.1.2, hk.1.1.2.2.2⟩⟩⟩⟩)⟩, ⟨by (with_reducible repeat (first | apply Ra_ | apply Rn_ | apply Rd_)); exact Kd.R_mono (Kd.R_far (p := ⟨gb160, 1, none⟩) (Kd.R_far (p := ⟨gb160, 0, none⟩) (Kd.R_types HO169.out BK160.out (by decide)) (fun _ hk => hk.2) (.slice Ao51 y167.length co51)) (fun _ hk => hk.2) (.slice Ao53 y170.length co53)) (fun _ hk => hk.1)⟩, ⟨by (with_reducible repeat (first | apply Ra_ | apply Rn_ | apply Rd_)); exact Kd.R_mono (Kd.R_far (p := ⟨gb160, 1, none⟩) (Kd.R_far (p := ⟨gb160, 0, none⟩) (Kd.R_types HO172.out BK160.out (by decide)) (fun _ hk => hk.2) (.slice Ao51 y167.length co51)) (fun _ hk => hk.2) (.slice Ao53 y170.length co53)) (fun _ hk => hk.1)⟩, ⟨(fa_ (fa_ (h_ BK145) NB145_160.out) NB145_160.out)⟩, ⟨(fa_ (fa_ (h_ BK153) NB153_160.out) NB153_160.out)⟩, ⟨(fa_ (fa_ (h_ BK159) NB159_160.out) NB159_160.out)⟩, ⟨(pu_ (cs := #[.slice Ao51 y167.length co51, u161001, .slice none 0 0, .bool true]) (pu_ (cs := #[u161000, u161001, .slice none 0 0, .bool true]) (h_ BK160)))⟩, ⟨b_ HB⟩⟩
                  ·rw [if_neg c36] at H
                   exact absurd H (by simp)
                 ·rw [if_neg c35] at H
                  exact absurd H (by simp)
                ·rw [if_neg c34] at H
                 exact absurd H (by simp)
               ·rw [if_neg c33] at H
                exact absurd H (by simp)
              ·rw [if_neg c32] at H
               have c32b0 : decide (x31_2 < (y161.length : Int)) = false := decide_eq_false c32
               clear c32
               by_cases c54 : x154000_1.length < 1759218604441
               ·rw [if_pos c54] at H
                have LMc54 := mk0 c54
                clear c54
                obtain ⟨y173, hy173⟩ : ∃ y_ : List (S85), y_ = (x154000_1 ++ [(⟨x161000_2, x161001_2, ([] : List Int), true⟩ : S85)]) := ⟨_, rfl⟩
                replace H : (if x4_1.length < 17592186044416 then (if 0 < (x161000_2.length : Int) then (if x5_1.length < 8796093022208 then (tree_made.l0 k2 l0 (x4_1 ++ [wrap64 ((y173.length : Int) - 1)]) (x5_1 ++ [rdOf ByteArray.empty x161000_2 0]) t154 (t154.length : Int) (wrap64 (x19_1 + 1)) y173 0) else (none)) else (none)) else (none)) = some (r1, r2, r3) := by first | (rw [hy173]; with_reducible exact H) | (have H2_ := (Option.bind_some _ _).symm.trans H; rw [hy173]; with_reducible exact H2_) | (have H2_ := (Option.bind_some _ _).symm.trans H; with_reducible exact H2_) | with_reducible exact H | (rw [hy173]; exact H) | exact H
                have Ny173 := mk0 hy173
                clear hy173
                by_cases c55 : x4_1.length < 17592186044416
                ·rw [if_pos c55] at H
                 have LMc55 := mk0 c55
                 clear c55
                 obtain ⟨y176, hy176⟩ : ∃ y_ : List Int, y_ = (x4_1 ++ [wrap64 ((y173.length : Int) - 1)]) := ⟨_, rfl⟩
                 replace H : (if 0 < (x161000_2.length : Int) then (if x5_1.length < 8796093022208 then (tree_made.l0 k2 l0 y176 (x5_1 ++ [rdOf ByteArray.empty x161000_2 0]) t154 (t154.length : Int) (wrap64 (x19_1 + 1)) y173 0) else (none)) else (none)) = some (r1, r2, r3) := by first | (rw [hy176]; with_reducible exact H) | (have H2_ := (Option.bind_some _ _).symm.trans H; rw [hy176]; with_reducible exact H2_) | (have H2_ := (Option.bind_some _ _).symm.trans H; with_reducible exact H2_) | with_reducible exact H | (rw [hy176]; exact H) | exact H
                 have Ny176 := mk0 hy176
                 clear hy176
                 by_cases c56 : 0 < (x161000_2.length : Int)
                 ·rw [if_pos c56] at H
                  have c56b0 : decide (0 < (x161000_2.length : Int)) = true := decide_eq_true c56
                  have c56b1 : decide (0 < x161000_2.length) = true := decide_eq_true (by omega)
                  clear c56
                  by_cases c57 : x5_1.length < 8796093022208
                  ·rw [if_pos c57] at H
                   have LMc57 := mk0 c57
                   clear c57
                   obtain ⟨y180, hy180⟩ : ∃ y_ : List ByteArray, y_ = (x5_1 ++ [rdOf ByteArray.empty x161000_2 0]) := ⟨_, rfl⟩
                   replace H : (tree_made.l0 k2 l0 y176 y180 t154 (t154.length : Int) (wrap64 (x19_1 + 1)) y173 0) = some (r1, r2, r3) := by first | (rw [hy180]; with_reducible exact H) | (have H2_ := (Option.bind_some _ _).symm.trans H; rw [hy180]; with_reducible exact H2_) | (have H2_ := (Option.bind_some _ _).symm.trans H; with_reducible exact H2_) | with_reducible exact H | (rw [hy180]; exact H) | exact H
                   have Ny180 := mk0 hy180
                   clear hy180
                   have H' := mk0 H
                   clear H
                   have hnb58 := NB153_145.out
                   have hnc58 := NB145_153.out
                   have hnb59 := NB153_159.out
                   have hnc59 := NB159_153.out
                   have hnb60 := NB153_160.out
                   have hnc60 := NB160_153.out
                   obtain ⟨hcz61_0, hcz61_1, hcz61_2, hfz61_0, hfz61_1, hfz61_2⟩ := c3_ BK153
                   have hnb62 := NB160_145.out
                   have hnc62 := NB145_160.out
                   have hnb63 := NB160_159.out
                   have hnc63 := NB159_160.out
                   obtain ⟨hcz64_0, hcz64_1, hcz64_2, hcz64_3, hfz64_0, hfz64_1, hfz64_2, hfz64_3⟩ := c4_ BK160
                   have q179 : 0 < x161000_2.length := of_decide_eq_true c56b1
                   obtain ⟨gk66, co66, eo66, _, _, cells66, hKEY⟩ := Kd.R_form HO_161000.out q179
                   subst eo66
                   have hk0 : cells66[0]? = some (.string (rdOf ByteArray.empty x161000_2 0)) := by
                     obtain ⟨adk, ek, hxk⟩ := Kd.at_string (Kd.R_reads' HO_161000.out).2.2 0 (by omega) (by omega)
                     injection ek with ek
                     subst ek
                     rw [show ((0 : Int)).toNat = 0 from rfl, Addr.add_zero'] at hxk
                     exact (blk_cell hKEY 0).symm.trans hxk
                   have HKEY := mk0 hKEY
                   have HKO := mk0 (HO_161000.out.1 gk66 (by simp [Value.ownBlock]))
                   have HKN := mk0 (show gk66 ≠ gb153 from blk_ne hKEY BK153.out (by decide))
                   have HK0 := mk0 hk0
                   have qi179 : (0 < x161000_2.length) = True := eq_true q179
                   clear hKEY hk0 q179
                   obtain ⟨Ao67, co67, eo67⟩ := Kd.R_slice HO_161001.out
                   subst eo67
                   go_wp2_with (first | ((with_reducible refine gate_builtin (b := .append) (xs := #[.tmp 51, .tmp 53]) rfl ?_); at_builtin; refine Kd.S_append k85 (w0 := w) w.heap.size rfl (.tmp 51) (.tmp 53) 22 85 (.agg #[(.slice none 0 0), (.slice none 0 0), (.slice none 0 0), (.bool false)]) 80 rfl Tryd.underlying22 info85 rfl (by decide) (by omega) u154000 x154000_1 (⟨x161000_2, x161001_2, ([] : List Int), true⟩ : S85) [.slice (some ⟨gk66, 0, none⟩) x161000_2.length co66, .slice Ao67 x161001_2.length co67, .slice none 0 0, .bool true] (fun k_ => some k_ ≠ (u4 : Value).ownBlock ∧ some k_ ≠ (u5 : Value).ownBlock ∧ k_ ≠ gb160) (fun k_ => some k_ = (.slice (some ⟨gk66, 0, none⟩) x161000_2.length co66 : Value).ownBlock ∨ some k_ = (.slice Ao67 x161001_2.length co67 : Value).ownBlock) rfl rfl ?aP (fun k_ hk_ => hk_.elim (fun h_ => ((Kd.R_mono (ok' := fun k_ => ((fun k_ => some k_ ≠ (u4 : Value).ownBlock ∧ some k_ ≠ (u5 : Value).ownBlock ∧ k_ ≠ gb160)) k_ ∧ some k_ ≠ (u154000 : Value).ownBlock) (Kd.R_types (Kd.R_apart' (Kd.R_apart' (HO_161000.out) (Kd.R_typed HO_4.out) (by decide)) (Kd.S_typed HO_154000.out) (by decide)) BK160.out (by decide)) (fun k_ hk => ⟨⟨hk.1.1.2, ⟨hk.1.1.1, hk.2⟩⟩, hk.1.2⟩))).1 k_ h_.symm) (fun h_ => ((Kd.R_mono (ok' := fun k_ => ((fun k_ => some k_ ≠ (u4 : Value).ownBlock ∧ some k_ ≠ (u5 : Value).ownBlock ∧ k_ ≠ gb160)) k_ ∧ some k_ ≠ (u154000 : Value).ownBlock) (Kd.R_types (Kd.R_apart' (Kd.R_apart' (HO_161001.out) (Kd.R_typed HO_5.out) (by decide)) (Kd.S_typed HO_154000.out) (by decide)) BK160.out (by decide)) (fun k_ hk => ⟨⟨hk.1.1.1, ⟨hk.1.1.2, hk.2⟩⟩, hk.1.2⟩))).1 k_ h_.symm)) ?aF ?aO ?aB ?aS ?aL ?_; (case aP => exact k85_mkM _ _ _ (⟨x161000_2, x161001_2, ([] : List Int), true⟩ : S85) (Kd.R_mono (Kd.R_tight rfl (Kd.R_mono (ok' := fun k_ => ((fun k_ => some k_ ≠ (u4 : Value).ownBlock ∧ some k_ ≠ (u5 : Value).ownBlock ∧ k_ ≠ gb160)) k_ ∧ some k_ ≠ (u154000 : Value).ownBlock) (Kd.R_types (Kd.R_apart' (Kd.R_apart' (HO_161000.out) (Kd.R_typed HO_4.out) (by decide)) (Kd.S_typed HO_154000.out) (by decide)) BK160.out (by decide)) (fun k_ hk => ⟨⟨hk.1.1.2, ⟨hk.1.1.1, hk.2⟩⟩, hk.1.2⟩))) (fun _ h_ => Or.inl h_)) (Kd.R_mono (Kd.R_tight rfl (Kd.R_mono (ok' := fun k_ => ((fun k_ => some k_ ≠ (u4 : Value).ownBlock ∧ some k_ ≠ (u5 : Value).ownBlock ∧ k_ ≠ gb160)) k_ ∧ some k_ ≠ (u154000 : Value).ownBlock) (Kd.R_types (Kd.R_apart' (Kd.R_apart' (HO_161001.out) (Kd.R_typed HO_5.out) (by decide)) (Kd.S_typed HO_154000.out) (by decide)) BK160.out (by decide)) (fun k_ hk => ⟨⟨hk.1.1.1, ⟨hk.1.1.2, hk.2⟩⟩, hk.1.2⟩))) (fun _ h_ => Or.inr (h_))) (Kd.R_nil _ _ _ _ _)); (case aB => exact (b_ HB)); (case aF => exact (fun k_ hk => ⟨Kd.fresh' (Kd.R_lt (r_ HO_4)) k_ hk, Kd.fresh' (Kd.R_lt (r_ HO_5)) k_ hk, Kd.freshB (g := gb160) (o := .cells #[.slice (some ⟨gk66, 0, none⟩) x161000_2.length co66, .slice Ao67 x161001_2.length co67, .slice none 0 0, .bool true] 85 (0, 0)) (h_ BK160) k_ hk⟩)); (case aO => exact (s2_ (Kd.S_mono HO_154000.out (fun k_ hk => ⟨⟨hk.1, ⟨hk.2.1, hk.2.2.2.2⟩⟩, fun e_ => e_.elim (fun h_ => hk.2.2.1 h_) (fun h_ => hk.2.2.2.1 h_)⟩)))); (case aS => exact (bz_ (b_ HB))); (case aL => have := LMc54.out; omega); intro v174 w65 ho hb hg hat; rw [← Ny173.out] at ho; replace HO_4 := mk0 (Kd.R_over' (r_ HO_4) (Kd.S_typed (s_ HO_154000)) (by decide) hg); replace HO_5 := mk0 (Kd.R_over' (r_ HO_5) (Kd.S_typed (s_ HO_154000)) (by decide) hg); replace HO_17 := mk0 (Kd.R_over' (r_ HO_17) (Kd.S_typed (s_ HO_154000)) (by decide) hg); replace BK145 := mk0 (blk_grown (g := gb145) (o := .cells #[.slice none 0 0, .int .i64 0, .slice none 0 0] 25 (0, 0)) (h_ BK145) hg (Kd.S_ne HO_154000.out BK145.out (by decide))); replace BK153 := mk0 (blk_grown (g := gb153) (o := .cells #[u154000, .int .i64 0, .slice none 0 0] 25 (0, 0)) (h_ BK153) hg (Kd.S_ne HO_154000.out BK153.out (by decide))); replace BK159 := mk0 (blk_grown (g := gb159) (o := .cells #[.int .i64 ((rd_T117 t154 x19_1).f0), .int .i64 ((rd_T117 t154 x19_1).f1)] 117 (0, 0)) (h_ BK159) hg (Kd.S_ne HO_154000.out BK159.out (by decide))); replace BK160 := mk0 (blk_grown (g := gb160) (o := .cells #[.slice (some ⟨gk66, 0, none⟩) x161000_2.length co66, .slice Ao67 x161001_2.length co67, .slice none 0 0, .bool true] 85 (0, 0)) (h_ BK160) hg (Kd.S_away HO_154000.out (fun _ hk => hk.2.2.2.2))); replace HB := mk0 (hb); have HO175 := mk0 (ho); replace HKEY := mk0 (blk_grown (g := gk66) (h_ HKEY) hg (Kd.S_ne HO_154000.out HKEY.out (by decide))); clear HO_154000 HO_161000 HO_161001; clear ho hb hg hat; obtain ⟨Ao68, co68, eo68⟩ := Kd.S_slice HO175.out; subst eo68; obtain ⟨hcz69_0, hcz69_1, hcz69_2, hfz69_0, hfz69_1, hfz69_2⟩ := c3_ BK153))
                   have m0_ : Fc (Kd.R (Kd.int .i64) 3 (w65.setCell ⟨gb153, 0, none⟩ (.slice Ao68 y173.length co68)) w.heap.size (fun _ => True) u4 x4_1) := ⟨Kd.R_mono (Kd.R_far (p := ⟨gb153, 0, none⟩) (Kd.R_types HO_4.out BK153.out (by decide)) (fun _ hk => hk.2) (.slice Ao68 y173.length co68)) (fun _ hk => trivial)⟩
                   have m1_ : Fc (Kd.R Kd.string 9 (w65.setCell ⟨gb153, 0, none⟩ (.slice Ao68 y173.length co68)) w.heap.size (fun _ => True) u5 x5_1) := ⟨Kd.R_mono (Kd.R_far (p := ⟨gb153, 0, none⟩) (Kd.R_types HO_5.out BK153.out (by decide)) (fun _ hk => hk.2) (.slice Ao68 y173.length co68)) (fun _ hk => trivial)⟩
                   have m2_ : Fc (Kd.R k117 117 (w65.setCell ⟨gb153, 0, none⟩ (.slice Ao68 y173.length co68)) w.heap.size (fun _ => True) (.slice (some ad158) t154.length co13) t154) := ⟨Kd.R_mono (Kd.R_far (p := ⟨gb153, 0, none⟩) (Kd.R_types HO_17.out BK153.out (by decide)) (fun _ hk => hk.2) (.slice Ao68 y173.length co68)) (fun _ hk => trivial)⟩
                   have m3_ : Fc (Kd.S k85 85 (w65.setCell ⟨gb153, 0, none⟩ (.slice Ao68 y173.length co68)) w.heap.size (fun k_ => some k_ ≠ (u4 : Value).ownBlock ∧ some k_ ≠ (u5 : Value).ownBlock ∧ k_ ≠ gb160) (.slice Ao68 y173.length co68) y173) := ⟨Kd.S_mono (Kd.S_far (p := ⟨gb153, 0, none⟩) (Kd.S_types HO175.out BK153.out (by decide)) (fun _ hk => hk.2) (.slice Ao68 y173.length co68)) (fun _ hk => hk.1)⟩
                   have m4_ : Fc ((w65.setCell ⟨gb153, 0, none⟩ (.slice Ao68 y173.length co68)).heap[gb145]? = some (.cells #[.slice none 0 0, .int .i64 0, .slice none 0 0] 25 (0, 0))) := ⟨fa_ (h_ BK145) NB145_153.out⟩
                   have m5_ : Fc ((w65.setCell ⟨gb153, 0, none⟩ (.slice Ao68 y173.length co68)).heap[gb160]? = some (.cells #[.slice (some ⟨gk66, 0, none⟩) x161000_2.length co66, .slice Ao67 x161001_2.length co67, .slice none 0 0, .bool true] 85 (0, 0))) := ⟨fa_ (h_ BK160) NB160_153.out⟩
                   have m6_ : Fc ((w65.setCell ⟨gb153, 0, none⟩ (.slice Ao68 y173.length co68)).heap[gk66]? = some (.cells cells66 9 (0, 0))) := ⟨fa_ (h_ HKEY) HKN.out⟩
                   have m7_ : Fc (Below w.heap.size w (w65.setCell ⟨gb153, 0, none⟩ (.slice Ao68 y173.length co68))) := ⟨b_ HB⟩
                   have m8_ : Fc ((w65.setCell ⟨gb153, 0, none⟩ (.slice Ao68 y173.length co68)).heap[gb153]? = some (.cells #[.slice Ao68 y173.length co68, .int .i64 0, .slice none 0 0] 25 (0, 0))) := ⟨pu_ (cs := #[u154000, .int .i64 0, .slice none 0 0]) (h_ BK153)⟩
                   clear HO_4 HO_5 HO_17 HO175 BK145 BK160 HKEY HB BK153
                   generalize (w65.setCell ⟨gb153, 0, none⟩ (.slice Ao68 y173.length co68)) = w70 at m0_ m1_ m2_ m3_ m4_ m5_ m6_ m7_ m8_ ⊢
                   have HO_4 := mk0 (Rd_ m0_.out)
                   have HO_5 := mk0 (Rd_ m1_.out)
                   have HO_17 := mk0 (Rd_ m2_.out)
                   have HO175 := mk0 (Kd.S_drew m3_.out)
                   have BK145 := mk0 (bD_ m4_.out)
                   have BK160 := mk0 (bD_ m5_.out)
                   have HKEY := mk0 (bD_ m6_.out)
                   have HB := mk0 (b1_ m7_.out)
                   have BK153 := mk0 (bD_ m8_.out)
                   clear m0_ m1_ m2_ m3_ m4_ m5_ m6_ m7_ m8_
                   refine start_ (n := 16) (S := fun w' => w'.cell? ⟨gb153, 0, none⟩ = some (.slice Ao68 y173.length co68) ∧ w'.cell? ⟨gb160, 0, none⟩ = some (.slice (some ⟨gk66, 0, none⟩) x161000_2.length co66) ∧ w'.cell? ⟨gk66, 0, none⟩ = some (.string (rdOf ByteArray.empty x161000_2 0))) (ds := []) (bt 16 0) (by kernel_rfl) rfl rfl ⟨bk_ BK153 0, bk_ BK160 0, (blk_cell HKEY.out 0).trans HK0.out⟩ (fun hHeld => ?_); refine with_tabW tree_made.tab16 tree_made.bits16 (fun HT_ HW_ => ?_)
                   generalize w70.drew = w71 at HO_4 HO_5 HO_17 HO175 BK145 BK153 BK160 HKEY HB hHeld ⊢
                   refine pq_ HT_.out 0 56 (bt 16 1) (h := ?_)
                   refine pq_ HT_.out 1 57 (bt 16 3) (h := ?_)
                   refine tq3_ HT_.out HW_.out 2 58 (bt 16 7) hHeld (h := ?_)
                   refine pq_ HT_.out 3 59 (bt 16 15) (h := ?_)
                   refine pq_ HT_.out 4 60 (bt 16 31) (h := ?_)
                   refine pq_ HT_.out 7 63 (bt 16 159) (h := ?_)
                   refine pq_ HT_.out 8 64 (bt 16 415) (h := ?_)
                   refine tq3_ HT_.out HW_.out 9 65 (bt 16 927) hHeld (h := ?_)
                   refine pq_ HT_.out 10 66 (bt 16 1951) (h := ?_)
                   refine tq3_ HT_.out HW_.out 11 67 (bt 16 3999) hHeld (h := ?_)
                   refine HApps.two_apps (Kd.int .i64) Kd.string (w0 := w) (W0 := w71) (base := w.heap.size) 5 6 12 13 61 62 68 69 56 63 60 67 (v1 := u4) (v2 := u5) (xs1 := x4_1) (xs2 := x5_1) (x1 := wrap64 ((y173.length : Int) - 1)) (x2 := rdOf ByteArray.empty x161000_2 0) (c1 := .int .i64 (wrap64 ((y173.length : Int) - 1))) (c2 := .string (rdOf ByteArray.empty x161000_2 0)) (t1 := 23) (e1 := 3) (t2 := 83) (e2 := 9) (bt 16 4031) (bt 16 8095) (bt 16 4095) (bt 16 8127) (bt 16 8191) (bt 16 16383) rfl rfl rfl rfl rfl rfl rfl rfl rfl rfl rfl rfl (two_of HT_.out (by kernel_rfl)) (two_of HT_.out (by kernel_rfl)) (one_of HT_.out (by kernel_rfl)) (one_of HT_.out (by kernel_rfl)) (one_of HT_.out (by kernel_rfl)) (one_of HT_.out (by kernel_rfl)) (by decide) rfl rfl (fun a' h W => HApps.lit_run rfl Tryd.underlying23 info3 rfl h) (fun a' h W => HApps.lit_run rfl Tryd.underlying83 info9 rfl h) rfl rfl rfl rfl ⟨show 61 < 85 by decide, show 68 < 85 by decide, by decide⟩ Tryd.underlying23 Tryd.underlying83 info3 info9 rfl rfl (by decide) (by decide) (fun _ => rfl) (fun _ => rfl) HO_4.out HO_5.out HB.out HB.out.size (by have := LMc55.out; omega) (by have := LMc57.out; omega) ?hS2 ?hK2
                   case hS2 => exact fun W hM => ⟨bk_ (mk0 (hM.blk BK153.out (Kd.R_ne HO_4.out BK153.out (by decide)) (Kd.R_ne HO_5.out BK153.out (by decide)))) 0, bk_ (mk0 (hM.blk BK160.out (Kd.R_ne HO_4.out BK160.out (by decide)) (Kd.R_ne HO_5.out BK160.out (by decide)))) 0, (blk_cell (hM.blk HKEY.out (Kd.R_ne HO_4.out HKEY.out (by decide)) HKO.out) 0).trans HK0.out⟩
                   intro k1_ k2_ v177 v181 w72 hF hHeld
                   have HO178 := mk0 (hF.one (ok := fun _ => True) (fun _ _ => trivial) (fun _ _ => trivial))
                   have HO182 := mk0 (hF.two (ok := fun _ => True) (fun _ _ => trivial) (fun _ _ => trivial))
                   have n2_ := mk0 (Kd.R_mono (ok' := fun _ => True) (hF.R (Kd.R_apart' (Kd.R_apart' HO_17.out (Kd.R_typed HO_4.out) (by decide)) (Kd.R_typed HO_5.out) (by decide)) (fun k hk => ⟨hk.1.2, hk.2⟩)) (fun _ hk => trivial))
                   have n3_ := mk0 (Kd.S_mono (ok' := fun k_ => some k_ ≠ (v177 : Value).ownBlock ∧ some k_ ≠ (v181 : Value).ownBlock) (hF.S HO175.out (fun k hk => ⟨hk.1, hk.2.1⟩)) (fun _ hk => hk.2))
                   have n4_ := mk0 (hF.2.2.2.blk BK145.out (Kd.R_ne HO_4.out BK145.out (by decide)) (Kd.R_ne HO_5.out BK145.out (by decide)))
                   have n5_ := mk0 (hF.2.2.2.blk BK153.out (Kd.R_ne HO_4.out BK153.out (by decide)) (Kd.R_ne HO_5.out BK153.out (by decide)))
                   have n8_ := mk0 hF.2.2.1
                   rw [← Ny176.out] at HO178
                   rw [← Ny180.out] at HO182
                   clear hF HO_4 HO_5 HO_17 HO175 BK145 BK153 BK160 HKEY HKO HKN HK0 HB
                   have HO_17 := n2_; have HO175 := n3_; have BK145 := n4_; have BK153 := n5_; have HB := n8_
                   clear n2_ n3_ n4_ n5_ n8_
                   refine norm_ (a' := ?_) ?_ ?_
                   rotate_left
                   ·simp only [z_]
                    rfl
                   refine pq_ HT_.out 14 4 (bt 16 32767) (h := ?_)
                   refine pq_ HT_.out 15 5 (bt 16 65535) (h := ?_)
                   refine done_ (done_of HT_.out (by kernel_rfl)) ?_
                   try go_wp2
                   go_roundg k2
                   case measure => have := HK1.out; have := HK2.out; omega
                   case rel => exact ⟨y176, y180, wrap64 (x19_1 + 1), y173, .slice Ao68 y173.length co68, (by first | rfl | (simp; done) | (simp [*]; done)), H', ⟨by have := HK1.out; have := HK2.out; omega⟩, HO178, HO182, HO_17, HO175, BK145, BK153, HB⟩
                  ·rw [if_neg c57] at H
                   exact absurd H (by simp)
                 ·rw [if_neg c56] at H
                  exact absurd H (by simp)
                ·rw [if_neg c55] at H
                 exact absurd H (by simp)
               ·rw [if_neg c54] at H
                exact absurd H (by simp)
          ·rw [if_neg c19] at H
           exact absurd H (by simp)
         ·rw [if_neg c18] at H
          exact absurd H (by simp)
        ·rw [if_neg c17] at H
         exact absurd H (by simp)
       ·rw [if_neg c16] at H
        exact absurd H (by simp)
      ·rw [if_neg c15] at H
       exact absurd H (by simp)
     ·rw [if_neg c14] at H
      have c14b0 : decide (x19_1 < (t154.length : Int)) = false := decide_eq_false c14
      clear c14
      have HL := mk0 H
      clear H
      go_wp2
      go_loopg [4, 5] k1 (fun kq v4 v5 w' => ∃ (x4_2 : List Int) (x5_2 : List ByteArray) (x3_2 : List S85) (u3 : Value), Fc (tree_made.l2 kq x4_2 x5_2 x3_2 = some (r1, r2, r3)) ∧ Fc (Kd.R (Kd.int .i64) 3 w' w.heap.size (fun _ => True) v4 x4_2) ∧ Fc (Kd.R Kd.string 9 w' w.heap.size (fun _ => True) v5 x5_2) ∧ Fc (Kd.S k85 85 w' w.heap.size (fun k_ => some k_ ≠ (v4 : Value).ownBlock ∧ some k_ ≠ (v5 : Value).ownBlock) u3 x3_2) ∧ Fc (w'.heap[gb145]? = some (.cells #[(.slice none 0 0), .int .i64 0, (.slice none 0 0)] 25 (0, 0))) ∧ Fc (w'.heap[gb153]? = some (.cells #[u3, .int .i64 0, (.slice none 0 0)] 25 (0, 0))) ∧ Fc (Below w.heap.size w w'))
      case atStart => exact ⟨x4_1, x5_1, x154000_1, u154000, HL, HO_4, HO_5, HO_154000, BK145, BK153, HB⟩
      case round =>
       clear HL HO_4 HO_5 HO_154000 BK145 BK153 HB HO_17
       obtain ⟨x4_2, x5_2, x3_2, u3, HA2, HO_4, HO_5, HO_3, BK145, BK153, HB⟩ := hrel
       cases gk with
       | zero => exact absurd HA2.out (by simp [tree_made.l2])
       | succ k2 =>
        have H := HA2.out
        clear HA2
        simp only [tree_made.l2] at H
        obtain ⟨Ao74, co74, eo74⟩ := Kd.R_slice HO_4.out
        subst eo74
        as_aux_lemma =>
         by_cases c1 : 1 < (x4_2.length : Int)
         ·rw [if_pos c1] at H
          have c1b0 : decide (1 < (x4_2.length : Int)) = true := decide_eq_true c1
          have c1b1 : decide ((x4_2.length : Int) > 1) = true := decide_eq_true c1
          have c1b2 : decide (1 < x4_2.length) = true := decide_eq_true (by omega)
          clear c1
          replace H := Option.bind_eq_some_iff.mp H
          obtain ⟨t115, A1, H⟩ := H
          replace H := Option.bind_eq_some_iff.mp H
          obtain ⟨⟨r4, r5, r6⟩, A2, H⟩ := H
          try dsimp only at H
          have HA1 := mk0 A1
          have HA2 := mk0 A2
          have HA3 := mk0 H
          clear A1 A2 H
          go_wp2_with (first | ((with_reducible refine gate_callee (f := 73) rfl ?_); refine gL_ (some 77) Tryd.func73 #[.pointer (some ⟨gb153, 0, none⟩), .slice Ao74 x4_2.length co74, u5] (h := ?_); (with_reducible refine (tree_level.calls k2 w _ gb145 gb153 u3 x3_2 Ao74 co74 x4_2 u5 x5_2 t115 r4 r5 r6 HO_4 HO_5 HO_3 BK153 GE153 BK145 GE145 NB145_153 NB153_145 HB HA1 HA2).mono ?_); rintro e w80 ⟨v0, v1, u_, rfl, h4, h5, h3, hbk1, hbk2, hB⟩; refine ⟨_, rfl, ?_⟩; clear HO_4 HO_5 HO_3 BK145 BK153 HB; have HO_4 := mk0 h4; have HO_5 := mk0 h5; have HO_3 := mk0 h3; have BK145 := mk0 hbk1; have BK153 := mk0 hbk2; have HB := mk0 hB; clear h4 h5 h3 hbk1 hbk2 hB))
          go_roundg k2
          case measure => omega
          case rel => exact ⟨r4, r5, r6, u_, HA3, HO_4, HO_5, HO_3, BK145, BK153, HB⟩
         ·rw [if_neg c1] at H
          have c1b0 : decide (1 < (x4_2.length : Int)) = false := decide_eq_false c1
          have c1b1 : decide ((x4_2.length : Int) > 1) = false := decide_eq_false c1
          have c1b2 : decide (1 < x4_2.length) = false := decide_eq_false (by omega)
          clear c1
          by_cases c73 : 0 < (x4_2.length : Int)
          ·rw [if_pos c73] at H
           have c73b0 : decide (0 < (x4_2.length : Int)) = true := decide_eq_true c73
           have c73b1 : decide (0 < x4_2.length) = true := decide_eq_true (by omega)
           clear c73
           simp only [Option.some.injEq, Prod.mk.injEq] at H
           obtain ⟨rfl, rfl, rfl⟩ := H
           have p157 : 0 ≤ (0 : Int) := (by omega)
           have q157 : 0 < (x4_2.length : Int) := of_decide_eq_true (by first | (with_reducible assumption) | assumption)
           obtain ⟨ad157, e157, hx157_0⟩ := Kd.at_int (Kd.R_reads' HO_4.out).2.2 0 p157 q157
           cases e157
           have qi157 : (0 < x4_2.length) = True := eq_true (by omega)
           (try rw [show ((0 : Int)).toNat = 0 from rfl] at hx157_0)
           (try rw [Addr.add_zero'] at hx157_0)
           replace p157 := eq_true p157
           replace q157 := eq_true q157
           have hnb75 := NB153_145.out
           have hnc75 := NB145_153.out
           obtain ⟨hcz76_0, hcz76_1, hcz76_2, hfz76_0, hfz76_1, hfz76_2⟩ := c3_ BK153
           obtain ⟨Ao77, co77, eo77⟩ := Kd.S_slice HO_3.out
           subst eo77
           obtain ⟨hcz78_0, hcz78_1, hcz78_2, hfz78_0, hfz78_1, hfz78_2⟩ := c3_ BK145
           go_wp2
           refine bodyPost_ret (results_cell_row rfl _ _ gb145 25 #[.slice Ao77 x3_2.length co77, .int .i64 (rd x4_2 0), .slice none 0 0] (0, 0) _ rfl (pu_ (cs := #[.slice Ao77 x3_2.length co77, .int .i64 (rd x4_2 0), .slice none 0 0]) (pu_ (cs := #[.slice Ao77 x3_2.length co77, .int .i64 0, .slice none 0 0]) (pu_ (cs := #[.slice none 0 0, .int .i64 0, .slice none 0 0]) (fa_ (h_ BK145) NB145_153.out)))) Tryd.underlying25 rfl (by kernel_rfl)) rfl ?_
           exact ⟨_, _, by first | rfl | (simp [errW_none, errW_some] <;> rfl) | (simp [*, errW_none, errW_some] <;> rfl), by (with_reducible repeat (first | apply Kd.S_alloc | apply Kd.S_drewN | apply Kd.S_drew)); exact Kd.S_mono (Kd.S_far (p := ⟨gb145, 2, none⟩) (Kd.S_far (p := ⟨gb145, 1, none⟩) (Kd.S_far (p := ⟨gb145, 0, none⟩) (Kd.S_far (p := ⟨gb153, 1, none⟩) (Kd.S_types (Kd.S_types HO_3.out BK153.out (by decide)) BK145.out (by decide)) (fun _ hk => hk.1.2) (.int .i64 (rd x4_2 0))) (fun _ hk => hk.2) (.slice Ao77 x3_2.length co77)) (fun _ hk => hk.2) (.int .i64 (rd x4_2 0))) (fun _ hk => hk.2) (.slice none 0 0)) (fun _ hk => (by simp [Value.ownBlock])), by first | exact Kd.R_nil _ _ _ _ _ | exact Kd.N_nil _ _ _ _ _ | exact Kd.V_nil _ _ _ _ _ | exact Kd.Q_nil _ _ _ _ _ | exact Kd.S_nil _ _ _ _ _, b_ HB⟩
          ·rw [if_neg c73] at H
           exact absurd H (by simp)

end Go.Proofs.YtkmkppchhdkipaaDoor.HMade
/- package tree: made, told by madeN and madeR. -/
namespace Go.Proofs.YtkmkppchhdkipaaDoor.HMade
open Go.Lib Go.RowKit Go.Proofs.YtkmkppchhdkipaaDoorW.PrintWords Go.Proofs.YtkmkppchhdkipaaDoorW.PrintLast Go.Proofs.YtkmkppchhdkipaaDoorW.PrintMore Go.Proofs.YtkmkppchhdkipaaDoor.PTr Go.Proofs Go.Proofs.YtkmkppchhdkipaaDoor.HTree Go.Proofs.YtkmkppchhdkipaaDoor.HNum
set_option linter.unusedSimpArgs false
set_option linter.unusedVariables false
abbrev SA := S117
def ptA (n m i : Nat) : SA := ⟨(cut n m i : Int), (cut n m (i + 1) : Int)⟩
def ptsA (n m : Nat) : List SA := (List.range m).map (ptA n m)
theorem wrap_nat (a : Nat) (h : a < 9223372036854775808) : wrap64 (a : Int) = (a : Int) := by unfold wrap64; omega
theorem quo_nat (a b : Nat) : Int.tdiv (a : Int) (b : Int) = ((a / b : Nat) : Int) := by
  rw [Int.tdiv_eq_ediv_of_nonneg (by omega)]; rfl
theorem cut_wrap (n m i : Nat) (hn : n ≤ 100) (hi : i ≤ 100) : wrap64 (Int.tdiv (wrap64 ((i : Int) * (n : Int))) (m : Int)) = (cut n m i : Int) := by
  have h1 : i * n ≤ 10000 := Nat.le_trans (Nat.mul_le_mul hi hn) (by decide)
  have h2 : i * n / m ≤ i * n := Nat.div_le_self _ _
  rw [show (i : Int) * (n : Int) = ((i * n : Nat) : Int) from by push_cast; rfl, wrap_nat _ (by omega), quo_nat, wrap_nat _ (by omega)]
  rfl
theorem snoc_range {α : Type} (f : Nat → α) (i : Nat) : (List.range i).map f ++ [f i] = (List.range (i + 1)).map f := by
  rw [List.range_succ, List.map_append]; rfl
theorem parts_from (n m : Nat) (hn : n ≤ 100) (hm : 1 ≤ m) (hm2 : m ≤ 100) (d : Nat) : ∀ i, i + d = m → Ev (fun k => tree_parts.l0 k (n : Int) ((List.range i).map (ptA n m)) (m : Int) (m : Int) (i : Int)) (ptsA n m) := by
  induction d with
  | zero =>
    intro i hid
    obtain rfl : i = m := by omega
    exact Ev.step (fun k => by rw [tree_parts.l0, if_neg (by omega)]; rfl) (Ev.now _)
  | succ d ih =>
    intro i hid
    refine Ev.step (fun k => by
      rw [tree_parts.l0, if_pos (by omega), if_neg (by omega), if_pos (by rw [List.length_map, List.length_range]; omega), wrap_succ i (by omega), cut_wrap n m i hn (by omega), cut_wrap n m (i + 1) hn (by omega)]
      rw [show (⟨(cut n m i : Int), (cut n m (i + 1) : Int)⟩ : SA) = ptA n m i from rfl, snoc_range]) (ih (i + 1) (by omega))
theorem parts_ev (n most : Nat) (hn : n ≤ 100) (h1 : 1 ≤ n) (hm : most = 4 ∨ most = 5) : Ev (fun k => tree_parts.f k (n : Int) (most : Int)) (ptsA n (many n most)) := by
  have hb : 1 ≤ many n most ∧ many n most ≤ 100 := by rcases hm with rfl | rfl <;> unfold many <;> omega
  have hq : wrap64 (Int.tdiv (wrap64 ((wrap64 ((n : Int) + (most : Int))) - 1)) (most : Int)) = (many n most : Int) := by
    have h2 : (n + most - 1) / most ≤ n + most - 1 := Nat.div_le_self _ _
    rw [show (n : Int) + (most : Int) = ((n + most : Nat) : Int) from by push_cast; rfl, wrap_nat _ (by omega), show ((n + most : Nat) : Int) - 1 = ((n + most - 1 : Nat) : Int) from by omega, wrap_nat _ (by omega), quo_nat, wrap_nat _ (by omega)]
    rfl
  refine Ev.congr (fun k => by unfold tree_parts.f; rw [if_neg (by omega), hq]) ?_
  exact parts_from n (many n most) hn hb.1 hb.2 (many n most) 0 (by omega)
theorem pts_len (n m : Nat) : (ptsA n m).length = m := by simp [ptsA]
theorem pts_at (n m i : Nat) (h : i < m) : rd_T117 (ptsA n m) (i : Int) = ptA n m i := by simp [rd_T117, ptsA, h, List.getD_eq_getElem?_getD]
theorem kids_piece {α : Type} (l : List α) (n m i : Nat) : (l.take (cut n m (i + 1))).drop (cut n m i) = piece l n m i := by
  unfold piece; rw [List.drop_take]
theorem lows_piece {α : Type} (l : List α) (n m i : Nat) : (l.take (cut n m (i + 1))).drop (cut n m i + 1) = (piece l n m i).tail := by
  unfold piece
  rw [← List.drop_one, List.drop_take, List.drop_take, List.drop_drop]
  congr 1
theorem piece_map {α β : Type} (f : α → β) (l : List α) (n m i : Nat) : piece (l.map f) n m i = (piece l n m i).map f := by
  unfold piece; rw [← List.map_drop, ← List.map_take]
theorem piece_sz {α : Type} (l : List α) (n m i : Nat) : (piece l n m i).length ≤ l.length := by
  unfold piece; rw [List.length_take, List.length_drop]; omega
/-- One level more. -/
def nodes (N : List SN) (kids : List Nat) (lows : List ByteArray) (n m : Nat) (i : Nat) : List SN := N ++ (List.range i).map (fun i => nodeOf (piece lows n m i).tail (piece kids n m i))
theorem nodes_succ (N : List SN) (kids : List Nat) (lows : List ByteArray) (n m i : Nat) : nodes N kids lows n m i ++ [nodeOf (piece lows n m i).tail (piece kids n m i)] = nodes N kids lows n m (i + 1) := by
  unfold nodes; rw [List.append_assoc, snoc_range]
theorem nodes_len (N : List SN) (kids : List Nat) (lows : List ByteArray) (n m i : Nat) : (nodes N kids lows n m i).length = N.length + i := by simp [nodes]
abbrev ints (l : List Nat) : List Int := l.map (fun k : Nat => (k : Int))
set_option maxRecDepth 100000 in
theorem level_from (N : List SN) (kids : List Nat) (lows : List ByteArray) (n m : Nat) (hk : kids.length = n) (hl : lows.length = n) (hN : N.length ≤ 1000) (h2 : 2 ≤ n) (hn : n ≤ 100) (hm : m = many n 5) (d : Nat) : ∀ i, i + d = m →
    Ev (fun k => tree_level.l0 k (ints ((List.range i).map (fun i => N.length + i))) ((List.range i).map (fun i => lows.getD (cut n m i) default)) (ptsA n m) ((ptsA n m).length : Int) (i : Int) (ints kids) lows (nodes N kids lows n m i) 0)
      (ints ((List.range m).map (fun i => N.length + i)), (List.range m).map (fun i => lows.getD (cut n m i) default), nodes N kids lows n m m) := by
  have hm2 : 1 ≤ m ∧ m ≤ 100 := by subst hm; unfold many; omega
  induction d with
  | zero =>
    intro i hid
    obtain rfl : i = m := by omega
    exact Ev.step (fun k => by rw [tree_level.l0, if_neg (by rw [pts_len]; omega)]) (Ev.now _)
  | succ d ih =>
    intro i hid
    have him : i < many n 5 := by omega
    obtain ⟨p1, p2, p3, p4⟩ := parts5 n (by omega) h2 i him
    rw [← hm] at p1 p2 p3 p4
    have hlk : (ints kids).length = n := by rw [List.length_map, hk]
    have c1 : slices_Clone_string_string.f (piece lows n m i).tail = some (piece lows n m i).tail := by
      unfold slices_Clone_string_string.f
      rw [if_pos (by rw [List.length_tail]; have := piece_sz lows n m i; omega)]
    have c2 : slices_Clone_int_int.f (ints (piece kids n m i)) = some (ints (piece kids n m i)) := by
      unfold slices_Clone_int_int.f
      rw [if_pos (by rw [List.length_map]; have := piece_sz kids n m i; omega)]
    have e1 : (List.take (((cut n m (i + 1) : Nat) : Int)).toNat lows).drop (((cut n m i + 1 : Nat) : Int)).toNat = (piece lows n m i).tail := by rw [Int.toNat_natCast, Int.toNat_natCast, lows_piece]
    have e2 : (List.take (((cut n m (i + 1) : Nat) : Int)).toNat (ints kids)).drop (((cut n m i : Nat) : Int)).toNat = ints (piece kids n m i) := by rw [Int.toNat_natCast, Int.toNat_natCast, kids_piece, piece_map]
    have e3 : rdOf ByteArray.empty lows (cut n m i : Int) = lows.getD (cut n m i) default := by
      have : cut n m i < lows.length := by omega
      simp [rdOf, List.getD_eq_getElem?_getD, this]
    refine Ev.step (fun k => ?_) (ih (i + 1) (by omega))
    rw [tree_level.l0, pts_len, if_pos (by omega), if_pos (by omega), if_pos (by omega), pts_at n m i (by omega), show (ptA n m i).f0 = (cut n m i : Int) from rfl, show (ptA n m i).f1 = (cut n m (i + 1) : Int) from rfl]
    rw [wrap_succ (cut n m i) (by omega), if_pos (by omega), if_pos (by omega), if_pos (by omega), e1, c1, Option.bind_some, if_pos (by omega), if_pos (by omega), if_pos (by rw [hlk]; omega), e2, c2, Option.bind_some, if_pos (by rw [nodes_len]; omega), Option.bind_some,
        if_pos (by simp only [List.length_map, List.length_range]; omega), if_pos (by omega), if_pos (by simp only [List.length_map, List.length_range]; omega), e3, wrap_succ i (by omega)]
    rw [show (⟨(piece lows n m i).tail, ([] : List Int), ints (piece kids n m i), false⟩ : SN) = nodeOf (piece lows n m i).tail (piece kids n m i) from rfl, nodes_succ, nodes_len,
        show ((N.length + (i + 1) : Nat) : Int) - 1 = ((N.length + i : Nat) : Int) from by omega, wrap_nat _ (by omega)]
    rw [← snoc_range (fun i => lows.getD (cut n m i) default) i, ← snoc_range (fun i => N.length + i) i]
    simp only [ints, List.map_append, List.map_cons, List.map_nil]
theorem level_ev (T : Lv) (hl : T.2.2.length = T.2.1.length) (hN : T.1.length ≤ 1000) (h2 : 2 ≤ T.2.1.length) (hn : T.2.1.length ≤ 100) :
    Ev (fun k => (tree_parts.f k ((ints T.2.1).length : Int) 5).bind fun t => (tree_level.l0 k ([] : List Int) ([] : List ByteArray) t (t.length : Int) 0 (ints T.2.1) T.2.2 T.1 0)) (ints (lift T).2.1, (lift T).2.2, (lift T).1) := by
  have hp := parts_ev T.2.1.length 5 (by omega) (by omega) (.inr rfl)
  refine Ev.bind (a := ptsA T.2.1.length (many T.2.1.length 5)) (by rw [List.length_map]; exact hp) ?_
  have := level_from T.1 T.2.1 T.2.2 T.2.1.length (many T.2.1.length 5) rfl hl hN h2 hn rfl (many T.2.1.length 5) 0 (by omega)
  have e : nodes T.1 T.2.1 T.2.2 T.2.1.length (many T.2.1.length 5) 0 = T.1 := by simp [nodes]
  rw [e] at this
  exact this
theorem tops_ev : ∀ (f : Nat) (T : Lv), T.2.2.length = T.2.1.length → T.1.length + 100 * f ≤ 1000 → T.2.1.length ≤ 5 ^ f → T.2.1.length ≤ 100 → 1 ≤ T.2.1.length → Ev (fun k => tree_made.l2 k (ints T.2.1) T.2.2 T.1) ((tops f T).1, ((tops f T).2.1.getD 0 0 : Int), ([] : List Int))
  | f, T, hl, hN, h5, h100, h1 => by
    by_cases h2 : 2 ≤ T.2.1.length
    · cases f with
      | zero => simp at h5; omega
      | succ f =>
        have hm := many5_lt T.2.1.length h2
        have ih := tops_ev f (lift T) (by simp [lift]) (by simp only [lift, List.length_append, List.length_map, List.length_range]; unfold many; omega) (by
          simp only [lift, List.length_map, List.length_range]
          have : T.2.1.length ≤ 5 * 5 ^ f := by rw [Nat.pow_succ] at h5; omega
          unfold many; omega) (by simp only [lift, List.length_map, List.length_range]; omega) (by simp only [lift, List.length_map, List.length_range]; omega)
        rw [show tops (f + 1) T = tops f (lift T) from by rw [tops, if_pos (by omega)]]
        obtain ⟨K1, h3⟩ := level_ev T hl (by omega) h2 h100
        obtain ⟨K2, h4⟩ := ih
        refine ⟨K1 + K2 + 1, fun k hk => ?_⟩
        cases k with
        | zero => omega
        | succ k =>
          have h3' := h3 k (by omega)
          have h4' := h4 k (by omega)
          simp only [tree_made.l2]
          rw [if_pos (by rw [List.length_map]; omega)]
          obtain ⟨t, ht, ht2⟩ := Option.bind_eq_some_iff.mp h3'
          rw [ht, Option.bind_some, ht2, Option.bind_some]
          exact h4'
    · have e : ∀ f, tops f T = T := fun f => by cases f with | zero => rfl | succ f => rw [tops, if_neg (by omega)]
      rw [e]
      refine Ev.step (fun k => by rw [tree_made.l2, if_neg (by rw [List.length_map]; omega), if_pos (by rw [List.length_map]; omega)]) (Ev.const ?_)
      congr 2
      congr 1
      cases hc : T.2.1 with
      | nil => rw [hc] at h1; simp at h1
      | cons a t => simp [rd]
/-- The leaves. -/
def lvs (l : List SP) (n m i : Nat) : List SN := (List.range i).map (fun i => leafOf (piece l n m i))
theorem leaf_from (l : List SP) (m i : Nat) (A : List SP) (r : List SN × Int × List Int) (kids : List Int) (lows : List ByteArray) (N : List SN) (hA : A.length ≤ 100) (h1 : 1 ≤ A.length) (hkl : kids.length ≤ 1000) (hll : lows.length ≤ 1000) (hNl : N.length ≤ 1000)
    (hnext : Ev (fun k => tree_made.l0 k l (kids ++ [(N.length : Int)]) (lows ++ [low0 A 0]) (ptsA l.length m) ((ptsA l.length m).length : Int) (wrap64 ((i : Int) + 1)) (N ++ [leafOf A]) 0) r) (d : Nat) : ∀ j, j + d = A.length →
    Ev (fun k => tree_made.l1 k l kids lows (ptsA l.length m) ((ptsA l.length m).length : Int) (i : Int) A (A.length : Int) (j : Int) N 0 ((A.take j).map (·.f0)) ((A.take j).map (·.f1)) true) r := by
  induction d with
  | zero =>
    intro j hj
    obtain rfl : j = A.length := by omega
    have e : rdOf ByteArray.empty ((A.take A.length).map (·.f0)) 0 = low0 A 0 := by
      rw [List.take_length]
      cases A with
      | nil => simp at h1
      | cons a t => rfl
    refine Ev.step (fun k => by
      rw [tree_made.l1, if_neg (by omega), if_pos (by omega), Option.bind_some, if_pos (by omega), if_pos (by simp only [List.length_map, List.length_take]; omega), if_pos (by omega), e]
      rw [List.take_length, show (⟨A.map (·.f0), A.map (·.f1), ([] : List Int), true⟩ : SN) = leafOf A from rfl, List.length_append, List.length_singleton, show ((N.length + 1 : Nat) : Int) - 1 = (N.length : Int) from by omega, wrap_nat _ (by omega)]) hnext
  | succ d ih =>
    intro j hj
    have hjl : j < A.length := by omega
    have e : rd_T91 A (j : Int) = A[j] := by simp [rd_T91, List.getD_eq_getElem?_getD, hjl]
    refine Ev.step (fun k => by
      rw [tree_made.l1, if_pos (by omega), if_pos (by omega), if_pos (by omega), if_pos (by simp only [List.length_map, List.length_take]; omega), if_pos (by simp only [List.length_map, List.length_take]; omega), e, wrap_succ j (by omega)]
      rw [show (A.take j).map (·.f0) ++ [A[j].f0] = (A.take (j + 1)).map (·.f0) from by rw [List.take_succ_eq_append_getElem hjl, List.map_append]; rfl, show (A.take j).map (·.f1) ++ [A[j].f1] = (A.take (j + 1)).map (·.f1) from by rw [List.take_succ_eq_append_getElem hjl, List.map_append]; rfl]) (ih (j + 1) (by omega))
theorem leaves_from (l : List SP) (hl : l.length ≤ 100) (h1 : 1 ≤ l.length) (d : Nat) : ∀ i, i + d = many l.length 4 →
    Ev (fun k => tree_made.l0 k l (ints (List.range i)) ((List.range i).map (fun i => low0 l (cut l.length (many l.length 4) i))) (ptsA l.length (many l.length 4)) ((ptsA l.length (many l.length 4)).length : Int) (i : Int) (lvs l l.length (many l.length 4) i) 0) (madeN l, (madeR l : Int), ([] : List Int)) := by
  have hb : many l.length 4 ≤ 25 ∧ 1 ≤ many l.length 4 := by unfold many; omega
  have hne : l ≠ [] := by rintro rfl; simp at h1
  induction d with
  | zero =>
    intro i hid
    have hi : i = many l.length 4 := by omega
    have hlen : (leaves l).2.1.length = many l.length 4 := by simp [leaves]
    have := tops_ev 2 (leaves l) (by simp [leaves]) (by simp only [leaves, List.length_map, List.length_range]; omega) (by rw [hlen]; omega) (by rw [hlen]; omega) (by rw [hlen]; omega)
    unfold madeN madeR
    rw [if_neg hne, if_neg hne, hi]
    refine Ev.step (fun k => ?_) this
    rw [tree_made.l0, if_neg (by rw [pts_len]; omega)]
    rfl
  | succ d ih =>
    intro i hid
    have him : i < many l.length 4 := by omega
    obtain ⟨p1, p2, p3, p4⟩ := parts4 l.length (by omega) i him
    have hpl := piece_length l (many l.length 4) i p4
    have e1 : (List.take (((cut l.length (many l.length 4) (i + 1) : Nat) : Int)).toNat l).drop (((cut l.length (many l.length 4) i : Nat) : Int)).toNat = piece l l.length (many l.length 4) i := by rw [Int.toNat_natCast, Int.toNat_natCast, kids_piece]
    have hstep : ∀ k, tree_made.l0 (k + 1) l (ints (List.range i)) ((List.range i).map (fun i => low0 l (cut l.length (many l.length 4) i))) (ptsA l.length (many l.length 4)) ((ptsA l.length (many l.length 4)).length : Int) (i : Int) (lvs l l.length (many l.length 4) i) 0 = tree_made.l1 k l (ints (List.range i)) ((List.range i).map (fun i => low0 l (cut l.length (many l.length 4) i))) (ptsA l.length (many l.length 4)) ((ptsA l.length (many l.length 4)).length : Int) (i : Int) (piece l l.length (many l.length 4) i) ((piece l l.length (many l.length 4) i).length : Int) 0 (lvs l l.length (many l.length 4) i) 0 [] [] true := by
      intro k
      rw [tree_made.l0, pts_len, if_pos (by omega), if_pos (by omega), if_pos (by omega), pts_at _ _ i (by omega), show (ptA l.length (many l.length 4) i).f0 = (cut l.length (many l.length 4) i : Int) from rfl, show (ptA l.length (many l.length 4) i).f1 = (cut l.length (many l.length 4) (i + 1) : Int) from rfl]
      rw [if_pos (by omega), if_pos (by omega), if_pos (by omega), e1, Option.bind_some]
    refine Ev.step hstep ?_
    have hlow : low0 (piece l l.length (many l.length 4) i) 0 = low0 l (cut l.length (many l.length 4) i) := by
      have hx := List.getElem?_eq_getElem (show 0 < (piece l l.length (many l.length 4) i).length by omega)
      have hy := (piece_get hx).1
      rw [Nat.add_zero] at hy
      unfold low0
      rw [hx, hy]
    have := leaf_from l (many l.length 4) i (piece l l.length (many l.length 4) i) (madeN l, (madeR l : Int), ([] : List Int)) (ints (List.range i)) ((List.range i).map (fun i => low0 l (cut l.length (many l.length 4) i))) (lvs l l.length (many l.length 4) i) (by omega) (by omega) (by simp; omega) (by simp; omega) (by simp [lvs]; omega) ?_ (piece l l.length (many l.length 4) i).length 0 (by omega)
    · exact this
    · have h := ih (i + 1) (by omega)
      rw [wrap_succ i (by omega)]
      refine Ev.congr (fun k => ?_) h
      rw [hlow, show ints (List.range (i + 1)) = ints (List.range i) ++ [((lvs l l.length (many l.length 4) i).length : Int)] from by simp [ints, lvs, List.range_succ], show (List.range (i + 1)).map (fun i => low0 l (cut l.length (many l.length 4) i)) = (List.range i).map (fun i => low0 l (cut l.length (many l.length 4) i)) ++ [low0 l (cut l.length (many l.length 4) i)] from by rw [snoc_range],
        show lvs l l.length (many l.length 4) (i + 1) = lvs l l.length (many l.length 4) i ++ [leafOf (piece l l.length (many l.length 4) i)] from by simp only [lvs]; rw [snoc_range (fun i => leafOf (piece l l.length (many l.length 4) i))]]
theorem made_ev (l : List SP) (hl : l.length ≤ 100) : ∃ k, tree_made.f k l = some (madeN l, (madeR l : Int), ([] : List Int)) := by
  by_cases hne : l = []
  · subst hne
    exact ⟨0, rfl⟩
  · have h1 : 1 ≤ l.length := List.length_pos_iff.2 hne
    have hp := parts_ev l.length 4 hl h1 (.inl rfl)
    have hb := leaves_from l hl h1 (many l.length 4) 0 (by omega)
    have := Ev.bind (f := fun k t => tree_made.l0 k l ([] : List Int) ([] : List ByteArray) t (t.length : Int) 0 ([] : List SN) 0) hp hb
    obtain ⟨k, hk⟩ := this.rounds
    refine ⟨k, ?_⟩
    unfold tree_made.f
    rw [if_neg (by omega)]
    exact hk
theorem made_calls (A0 : Option Addr) (c0 : Nat) (l0 : List SP) (w : World) (hr0 : Kd.C k91 w A0 l0.length l0) (hc0 : l0.length ≤ c0) (h : l0.length ≤ 100) :
    Calls Tryd.prog 50 #[.slice A0 l0.length c0] w fun e w' => ∃ v0_ v1_ : Value, e = .returned (.agg #[v0_, .int .i64 (madeR l0 : Int), v1_]) ∧ Kd.S k85 85 w' w.heap.size (fun k_ => some k_ ≠ (v1_ : Value).ownBlock) v0_ (madeN l0) ∧ Kd.R (Kd.int .i64) 3 w' w.heap.size (fun _ => True) v1_ [] ∧ Below w.heap.size w w' := by
  obtain ⟨k, hk⟩ := made_ev l0 h
  exact tree_made.calls k A0 c0 l0 _ _ _ w hr0 hc0 hk
end Go.Proofs.YtkmkppchhdkipaaDoor.HMade
