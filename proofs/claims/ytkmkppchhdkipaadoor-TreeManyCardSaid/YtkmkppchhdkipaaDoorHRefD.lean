import Derived.Test.YtkmkppchhdkipaaDoorHRefN
import Derived.Test.YtkmkppchhdkipaaDoorHNodes
/- quorumref6.Tree, of any tree (printed for a function of the same operations, turned onto the real one by mkreft.py). -/
namespace Go.Proofs.YtkmkppchhdkipaaDoor.HRef
open Go.Lib Go.RowKit Go.Proofs.YtkmkppchhdkipaaDoorW.PrintWords Go.Proofs.YtkmkppchhdkipaaDoorW.PrintLast Go.Proofs.YtkmkppchhdkipaaDoorW.PrintMore Go.Proofs.YtkmkppchhdkipaaDoor.PTr Go.Proofs
set_option linter.unusedSimpArgs false
set_option linter.unusedVariables false
theorem info4 : (Tryd.prog.info? 4).map (fun i => (i.zero, i.size, i.bytes)) = some (some (.bool false), 1, 1) := by kernel_rfl
/-! ### quorumref6_Tree: function 28 -/
mutual
noncomputable def quorumref6_Tree.l0 : Nat → Int → Bool → List (S85) → Int → List Int → Option ((List (S41)) × Int × Bool)
 | 0, _, _, _, _, _ => none
 | k + 1, x5, x11, x165000, x165001, x165002 => if x5 < (x165002.length : Int) then (if 0 ≤ x5 then ((quorumref0_Num.f (rd x165002 x5) (wrap64 ((x165000.length : Int) - 1))).bind fun t166 => (if t166 = true then (if x5 > 0 then (if 0 ≤ (wrap64 (x5 - 1)) then (if (wrap64 (x5 - 1)) < (x165002.length : Int) then (if (rd x165002 (wrap64 (x5 - 1))) ≥ (rd x165002 x5) then (quorumref6_Tree.j1 k x5 x11 true x165000 x165001 x165002) else (if 0 ≤ (rd x165002 x5) then (if (rd x165002 x5) < (x165000.length : Int) then ((quorumref0_EqNode.f k ((rd_T85 x165000 (rd x165002 x5)).f0) ((rd_T85 x165000 (rd x165002 x5)).f1) ((rd_T85 x165000 (rd x165002 x5)).f2) ((rd_T85 x165000 (rd x165002 x5)).f3) ([] : List ByteArray) ([] : List Int) ([] : List Int) false).bind fun t171 => (quorumref6_Tree.j1 k x5 x11 (!t171) x165000 x165001 x165002)) else (none)) else (none))) else (none)) else (none)) else (if 0 ≤ (rd x165002 x5) then (if (rd x165002 x5) < (x165000.length : Int) then ((quorumref0_EqNode.f k ((rd_T85 x165000 (rd x165002 x5)).f0) ((rd_T85 x165000 (rd x165002 x5)).f1) ((rd_T85 x165000 (rd x165002 x5)).f2) ((rd_T85 x165000 (rd x165002 x5)).f3) ([] : List ByteArray) ([] : List Int) ([] : List Int) false).bind fun t174 => (quorumref6_Tree.j1 k x5 x11 (!t174) x165000 x165001 x165002)) else (none)) else (none))) else (quorumref6_Tree.j1 k x5 x11 true x165000 x165001 x165002))) else (none)) else (if 0 ≤ (x165000.length : Int) then (if ((x165000.length : Int) : Int).toNat ≤ 281474976710656 then ((some (List.replicate ((x165000.length : Int) : Int).toNat false : List Bool)).bind fun y175 => ((quorumref6_walk_node.f k x165000 x165001 x165002 y175 0 ([] : List (S41)) false x165001 (⟨#[]⟩ : ByteArray) (⟨#[]⟩ : ByteArray) true 1).bind fun r => (quorumref6_Tree.l1 k 0 x165000 x165001 x165002 x165000 x165001 x165002 r.1 r.2.1 r.2.2.1 r.2.2.2))) else (none)) else (none))
noncomputable def quorumref6_Tree.j1 : Nat → Int → Bool → Bool → List (S85) → Int → List Int → Option ((List (S41)) × Int × Bool)
 | 0, _, _, _, _, _, _ => none
 | k + 1, x5, x11, x61, x165000, x165001, x165002 => if x61 = true then (some (([] : List (S41)), 0, false)) else (quorumref6_Tree.l0 k (wrap64 (x5 + 1)) x11 x165000 x165001 x165002)
noncomputable def quorumref6_Tree.l1 : Nat → Int → List (S85) → Int → List Int → List (S85) → Int → List Int → List Bool → Int → List (S41) → Bool → Option ((List (S41)) × Int × Bool)
 | 0, _, _, _, _, _, _, _, _, _, _, _ => none
 | k + 1, x7, x165000, x165001, x165002, x179000, x179001, x179002, x179003, x179004, x179005, x179006 => if x7 < (x179003.length : Int) then (if 0 ≤ x7 then (if rdOf false x179003 x7 = true then (quorumref6_Tree.j3 k x7 false x165000 x165001 x165002 x179000 x179001 x179002 x179003 x179004 x179005 x179006) else ((quorumref0_In.f k x165002 x7).bind fun t184 => (quorumref6_Tree.j3 k x7 (decide (t184 < 0)) x165000 x165001 x165002 x179000 x179001 x179002 x179003 x179004 x179005 x179006))) else (none)) else (if x179006 = true then (some (([] : List (S41)), 0, false)) else (some (x179005, x179004, true)))
noncomputable def quorumref6_Tree.j3 : Nat → Int → Bool → List (S85) → Int → List Int → List (S85) → Int → List Int → List Bool → Int → List (S41) → Bool → Option ((List (S41)) × Int × Bool)
 | 0, _, _, _, _, _, _, _, _, _, _, _, _ => none
 | k + 1, x7, x96, x165000, x165001, x165002, x179000, x179001, x179002, x179003, x179004, x179005, x179006 => if x96 = true then (quorumref6_Tree.l1 k (wrap64 (x7 + 1)) x165000 x165001 x165002 x179000 x179001 x179002 x179003 x179004 x179005 true) else (quorumref6_Tree.l1 k (wrap64 (x7 + 1)) x165000 x165001 x165002 x179000 x179001 x179002 x179003 x179004 x179005 x179006)
end
noncomputable def quorumref6_Tree.f (k : Nat) (l0_0 : List (S85)) (a0_1 : Int) (l0_2 : List Int) : Option ((List (S41)) × Int × Bool) := if (l0_0.length : Int) > 200 then (some (([] : List (S41)), 0, false)) else (quorumref6_Tree.l0 k 0 (decide ((l0_0.length : Int) > 200)) l0_0 a0_1 l0_2)
noncomputable def quorumref6_Tree.T6 : Bool × List (List Nat × List Nat) := (true, [([], []), ([0], [0]), ([], []), ([1, 2], [1, 2]), ([3], [3]), ([], []), ([5], [5]), ([6], [6]), ([7], [7]), ([4, 8], [4, 8]), ([9], [9]), ([10, 9], [10]), ([11], [11]), ([12, 11], [11, 12]), ([13, 11, 11], [11, 13]), ([14], [14]), ([15, 14], [14, 15]), ([14], [14]), ([17, 14], [14, 17]), ([16, 18, 14], [14, 16, 18]), ([19, 14], [14, 19]), ([14], [14]), ([21, 14], [14, 21]), ([14], [14]), ([22, 23, 14], [14, 22, 23]), ([24, 14], [14, 24]), ([20, 25, 14], [14, 20, 25]), ([14, 26, 11], [11, 14, 26]), ([11, 27], [11, 27]), ([28, 14], [28]), ([29], [29]), ([30, 29], [29, 30]), ([29], [29]), ([32, 29], [29, 32]), ([29], [29]), ([33, 34, 29], [29, 33, 34]), ([35, 29], [29, 35]), ([31, 36, 29], [29, 31, 36]), ([37, 29], [29, 37]), ([29], [29]), ([38, 39, 29, 29], [29, 38, 39]), ([40, 29], [29, 40]), ([29, 41], [29, 41])])
noncomputable def quorumref6_Tree.B6 : List Nat := [0, 1, 0, 7, 15, 0, 32, 96, 224, 511, 1023, 2047, 4095, 8191, 16383, 32767, 65535, 32767, 163839, 524287, 1048575, 32767, 2129919, 32767, 14712831, 31490047, 67108863, 134217727, 268435455, 536870911, 1073741823, 2147483647, 1073741823, 5368709119, 1073741823, 31138512895, 65498251263, 137438953471, 274877906943, 1073741823, 1099511627775, 2199023255551, 4398046511103]
theorem quorumref6_Tree.tab6 : rtab .any (opsOf Tryd.f28 6) = quorumref6_Tree.T6 := by kernel_rfl
theorem quorumref6_Tree.bits6 : waitsOk quorumref6_Tree.T6.2 quorumref6_Tree.B6 = true := by kernel_rfl
noncomputable def quorumref6_Tree.T8 : Bool × List (List Nat × List Nat) := (true, [([], []), ([], []), ([1], [1]), ([2], [2]), ([3, 3], [3]), ([0, 4], [0, 4]), ([5], [5]), ([6, 0, 1, 2, 3, 4, 5, 6], [6])])
noncomputable def quorumref6_Tree.B8 : List Nat := [0, 0, 2, 6, 14, 31, 63, 127]
theorem quorumref6_Tree.tab8 : rtab .any (opsOf Tryd.f28 8) = quorumref6_Tree.T8 := by kernel_rfl
theorem quorumref6_Tree.bits8 : waitsOk quorumref6_Tree.T8.2 quorumref6_Tree.B8 = true := by kernel_rfl
noncomputable def quorumref6_Tree.T17 : Bool × List (List Nat × List Nat) := (true, [([], []), ([0], [0]), ([1], [1]), ([2], [2]), ([], []), ([4], [4]), ([5], [5]), ([6], [6]), ([3, 0, 1, 2, 3], [3]), ([7, 8, 0, 1, 2, 3, 4, 5, 6, 7, 8], [7]), ([9, 0, 1, 2, 3, 4, 5, 6, 7, 8, 9], [])])
noncomputable def quorumref6_Tree.B17 : List Nat := [0, 1, 3, 7, 0, 16, 48, 112, 15, 511, 1023]
theorem quorumref6_Tree.tab17 : rtab .any (opsOf Tryd.f28 17) = quorumref6_Tree.T17 := by kernel_rfl
theorem quorumref6_Tree.bits17 : waitsOk quorumref6_Tree.T17.2 quorumref6_Tree.B17 = true := by kernel_rfl
set_option maxHeartbeats 8000000 in
set_option maxRecDepth 100000 in
theorem quorumref6_Tree.calls (k : Nat) (A0_0 : Option Addr) (c0_0 : Nat) (l0_0 : List (S85)) (a0_1 : Int) (A0_2 : Option Addr) (c0_2 : Nat) (l0_2 : List Int) (r1 : List (S41)) (r2 : Int) (r3 : Bool) (w : World) (hr0_0 : Kd.C k85 w A0_0 l0_0.length l0_0) (hc0_0 : l0_0.length ≤ c0_0) (hr0_2 : Kd.C (Kd.int .i64) w A0_2 l0_2.length l0_2) (hc0_2 : l0_2.length ≤ c0_2) (h : quorumref6_Tree.f k l0_0 a0_1 l0_2 = some (r1, r2, r3)) :
  Calls Tryd.prog 28 #[.agg #[.slice A0_0 l0_0.length c0_0, .int .i64 a0_1, .slice A0_2 l0_2.length c0_2]] w fun e w' => ∃ v0_ : Value, e = .returned (.tuple #[v0_, .int .i64 r2, .bool r3]) ∧ Kd.R k41 41 w' w.heap.size (fun _ => True) v0_ r1 ∧ Below w.heap.size w w' := by
 have hu25 := Tryd.underlying25
 have hu85 := Tryd.underlying85
 have hu100 := Tryd.underlying100
 have HR0_0 := mk0 hr0_0
 have HC0_0 := mk0 hc0_0
 clear hr0_0 hc0_0
 have HR0_2 := mk0 hr0_2
 have HC0_2 := mk0 hc0_2
 clear hr0_2 hc0_2
 have HB := mk0 (Below.refl w.heap.size w)
 have H : (if (l0_0.length : Int) > 200 then (some (([] : List (S41)), 0, false)) else (quorumref6_Tree.l0 k 0 (decide ((l0_0.length : Int) > 200)) l0_0 a0_1 l0_2)) = some (r1, r2, r3) := h
 clear h
 by_cases c2 : (l0_0.length : Int) > 200
 ·rw [if_pos c2] at H
  have c2b0 : decide (200 < (l0_0.length : Int)) = true := decide_eq_true c2
  have c2b1 : decide (200 < l0_0.length) = true := decide_eq_true (by omega)
  clear c2
  simp only [Option.some.injEq, Prod.mk.injEq] at H
  obtain ⟨rfl, rfl, rfl⟩ := H
  go_enter Tryd.func28, Tryd.ntmps28
  go_wp2_with (first | ((with_reducible refine gate_dst (N := 1) rfl ?_); refine bx_ (N := 1) (cs := #[.slice A0_0 l0_0.length c0_0, .int .i64 a0_1, .slice A0_2 l0_2.length c0_2]) (t := 25) (h := ?_); intro gb164 hg w3 hbox hb; have n2_ := mk0 (gz_ HB hg); have n3_ := mk0 (gz_ HB hg); replace HB := mk0 (bt_ (b_ HB) hb); have BK164 := mk0 (hbox); have GW164 := n2_; have GE164 := n3_; clear n2_ n3_ hb hbox hg; obtain ⟨hcz4_0, hcz4_1, hcz4_2, hfz4_0, hfz4_1, hfz4_2⟩ := c3_ BK164))
  go_ret3
  exact ⟨_, by first | rfl | (simp [errW_none, errW_some] <;> rfl) | (simp [*, errW_none, errW_some] <;> rfl), by first | exact Kd.R_nil _ _ _ _ _ | exact Kd.N_nil _ _ _ _ _ | exact Kd.V_nil _ _ _ _ _ | exact Kd.Q_nil _ _ _ _ _ | exact Kd.S_nil _ _ _ _ _, b_ HB⟩
 ·rw [if_neg c2] at H
  have c2b0 : decide (200 < (l0_0.length : Int)) = false := decide_eq_false c2
  have c2b1 : decide (200 < l0_0.length) = false := decide_eq_false (by omega)
  clear c2
  have H' := mk0 H
  clear H
  go_enter Tryd.func28, Tryd.ntmps28
  go_wp2_with (first | ((with_reducible refine gate_dst (N := 1) rfl ?_); refine bx_ (N := 1) (cs := #[.slice A0_0 l0_0.length c0_0, .int .i64 a0_1, .slice A0_2 l0_2.length c0_2]) (t := 25) (h := ?_); intro gb164 hg w5 hbox hb; have n2_ := mk0 (gz_ HB hg); have n3_ := mk0 (gz_ HB hg); replace HB := mk0 (bt_ (b_ HB) hb); have BK164 := mk0 (hbox); have GW164 := n2_; have GE164 := n3_; clear n2_ n3_ hb hbox hg; obtain ⟨hcz6_0, hcz6_1, hcz6_2, hfz6_0, hfz6_1, hfz6_2⟩ := c3_ BK164))
  go_loopg [5] k (fun kq v5 w' => ∃ (x5_1 : Int), v5 = .int .i64 x5_1 ∧ Fc (quorumref6_Tree.l0 kq x5_1 (decide ((l0_0.length : Int) > 200)) l0_0 a0_1 l0_2 = some (r1, r2, r3)) ∧ Fc (kq ≤ k) ∧ Fc (w'.heap[gb164]? = some (.cells #[(.slice A0_0 l0_0.length c0_0), .int .i64 a0_1, (.slice A0_2 l0_2.length c0_2)] 25 (0, 0))) ∧ Fc (Below w.heap.size w w'))
  case atStart => exact ⟨(0), (by first | rfl | (simp; done) | (simp [*]; done)), H', ⟨Nat.le_refl _⟩, ⟨h_ BK164⟩, ⟨b_ HB⟩⟩
  case round =>
   clear H'
   try clear c2
   try clear c2b0
   try clear c2b1
   try clear hcz4_0
   try clear hcz4_1
   try clear hcz4_2
   try clear hcz6_0
   try clear hcz6_1
   try clear hcz6_2
   try clear hfz4_0
   try clear hfz4_1
   try clear hfz4_2
   try clear hfz6_0
   try clear hfz6_1
   try clear hfz6_2
   obtain ⟨x5_1, rfl, HA, HK1, BK164, HB⟩ := hrel
   cases gk with
   | zero => exact absurd HA.out (by simp [quorumref6_Tree.l0])
   | succ k1 =>
    have H := HA.out
    clear HA
    simp only [quorumref6_Tree.l0] at H
    as_aux_lemma =>
     by_cases c7 : x5_1 < (l0_2.length : Int)
     ·rw [if_pos c7] at H
      have c7b0 : decide (x5_1 < (l0_2.length : Int)) = true := decide_eq_true c7
      clear c7
      have HC8 := mk0 H
      clear H
      obtain ⟨hcz9_0, hcz9_1, hcz9_2, hfz9_0, hfz9_1, hfz9_2⟩ := c3_ BK164
      go_upto_region 6 with (fail)
      go_cut [61] (fun v61 wc => ∃ (kq : Nat) (x61_7 : Bool), v61 = .bool x61_7 ∧ Fc (quorumref6_Tree.j1 kq x5_1 (decide ((l0_0.length : Int) > 200)) x61_7 l0_0 a0_1 l0_2 = some (r1, r2, r3)) ∧ Fc (kq ≤ k1) ∧ Fc (wc.heap[gb164]? = some (.cells #[(.slice A0_0 l0_0.length c0_0), .int .i64 a0_1, (.slice A0_2 l0_2.length c0_2)] 25 (0, 0))) ∧ Fc (Below w.heap.size w wc))
      case first =>
       have H := HC8.out
       clear HC8
       by_cases c10 : 0 ≤ x5_1
       ·rw [if_pos c10] at H
        have c10b0 : decide (0 ≤ x5_1) = true := decide_eq_true c10
        clear c10
        (first | rw [c10b0] | (simp only [i64_w, i32_w]; rw [c10b0]) | skip)
        replace H := Option.bind_eq_some_iff.mp H
        obtain ⟨t166, A110, H⟩ := H
        try dsimp only at H
        have A11 := mk0 A110
        clear A110
        by_cases c12 : t166 = true
        ·subst c12
         rw [if_pos rfl] at H
         by_cases c13 : x5_1 > 0
         ·rw [if_pos c13] at H
          have c13b0 : decide (0 < x5_1) = true := decide_eq_true c13
          clear c13
          obtain ⟨ji14, hji14⟩ : ∃ j_ : Int, (wrap64 (x5_1 - 1)) = j_ := ⟨_, rfl⟩
          replace H : (if 0 ≤ (ji14) then (if (ji14) < (l0_2.length : Int) then (if (rd l0_2 (ji14)) ≥ (rd l0_2 x5_1) then (quorumref6_Tree.j1 k1 x5_1 (decide ((l0_0.length : Int) > 200)) true l0_0 a0_1 l0_2) else (if 0 ≤ (rd l0_2 x5_1) then (if (rd l0_2 x5_1) < (l0_0.length : Int) then ((quorumref0_EqNode.f k1 ((rd_T85 l0_0 (rd l0_2 x5_1)).f0) ((rd_T85 l0_0 (rd l0_2 x5_1)).f1) ((rd_T85 l0_0 (rd l0_2 x5_1)).f2) ((rd_T85 l0_0 (rd l0_2 x5_1)).f3) ([] : List ByteArray) ([] : List Int) ([] : List Int) false).bind fun t171 => (quorumref6_Tree.j1 k1 x5_1 (decide ((l0_0.length : Int) > 200)) (!t171) l0_0 a0_1 l0_2)) else (none)) else (none))) else (none)) else (none)) = some (r1, r2, r3) := by first | (rw [hji14] at H; exact H) | (simp only [hji14] at H ⊢; exact H)
          (try rw [hji14] at A11)
          have hji14w : (IntKind.i64.wrap (x5_1 - 1)) = ji14 := (i64_w _).trans hji14
          by_cases c15 : 0 ≤ (ji14)
          ·rw [if_pos c15] at H
           have c15b0 : decide (0 ≤ (ji14)) = true := decide_eq_true c15
           clear c15
           by_cases c16 : (ji14) < (l0_2.length : Int)
           ·rw [if_pos c16] at H
            have c16b0 : decide ((ji14) < (l0_2.length : Int)) = true := decide_eq_true c16
            clear c16
            by_cases c17 : (rd l0_2 (ji14)) ≥ (rd l0_2 x5_1)
            ·rw [if_pos c17] at H
             have c17b0 : decide ((rd l0_2 x5_1) ≤ (rd l0_2 (ji14))) = true := decide_eq_true c17
             clear c17
             have H' := mk0 H
             clear H
             try go_wp2
             replace BK164 := mk0 (bD_ BK164.out)
             replace HB := mk0 (b1_ HB.out)
             have p165 : 0 ≤ (x5_1 : Int) := of_decide_eq_true (by first | (with_reducible assumption) | assumption)
             have q165 : x5_1 < (l0_2.length : Int) := of_decide_eq_true (by first | (with_reducible assumption) | assumption)
             obtain ⟨ad165, e165, hx165_0⟩ := Kd.at_int HR0_2.out x5_1 p165 q165
             have hw165_0 := hx165_0
             cases e165
             replace hx165_0 := (bc_ HB hx165_0 :)
             replace p165 := eq_true p165
             replace q165 := eq_true q165
             have p167 : 0 ≤ ((ji14) : Int) := of_decide_eq_true (by first | (with_reducible assumption) | assumption)
             have q167 : (ji14) < (l0_2.length : Int) := of_decide_eq_true (by first | (with_reducible assumption) | assumption)
             obtain ⟨ad167, e167, hx167_0⟩ := Kd.at_int HR0_2.out (ji14) p167 q167
             have hw167_0 := hx167_0
             obtain rfl : ad165 = ad167 := (by injection e167)
             replace hx167_0 := (bc_ HB hx167_0 :)
             replace p167 := eq_true p167
             replace q167 := eq_true q167
             have p168 : 0 ≤ (x5_1 : Int) := of_decide_eq_true (by first | (with_reducible assumption) | assumption)
             have q168 : x5_1 < (l0_2.length : Int) := of_decide_eq_true (by first | (with_reducible assumption) | assumption)
             obtain ⟨ad168, e168, hx168_0⟩ := Kd.at_int HR0_2.out x5_1 p168 q168
             have hw168_0 := hx168_0
             obtain rfl : ad165 = ad168 := (by injection e168)
             replace hx168_0 := (bc_ HB hx168_0 :)
             replace p168 := eq_true p168
             replace q168 := eq_true q168
             refine start_ (n := 43) (S := fun w' => w'.cell? ⟨gb164, 0, none⟩ = some (.slice A0_0 l0_0.length c0_0) ∧ w'.cell? ⟨gb164, 1, none⟩ = some (.int .i64 a0_1) ∧ w'.cell? ⟨gb164, 2, none⟩ = some (.slice (some ad165) l0_2.length c0_2) ∧ w'.cell? (ad165.add (x5_1).toNat) = some (.int .i64 (rd l0_2 x5_1)) ∧ w'.cell? (ad165.add ((ji14)).toNat) = some (.int .i64 (rd l0_2 (ji14))) ∧ w'.cell? (ad165.add (x5_1).toNat) = some (.int .i64 (rd l0_2 x5_1))) (ds := []) (bt 43 0) (by kernel_rfl) rfl rfl ⟨bk_ BK164 0, bk_ BK164 1, bk_ BK164 2, ((bc_ HB hw165_0 :)), ((bc_ HB hw167_0 :)), ((bc_ HB hw168_0 :))⟩ (fun hHeld => ?_); refine with_tabW quorumref6_Tree.tab6 quorumref6_Tree.bits6 (fun HT_ HW_ => ?_)
             generalize wr.drew = w18 at BK164 HB hx165_0 hx167_0 hx168_0 hHeld ⊢
             refine pq_ HT_.out 0 19 (bt 43 1) (h := ?_)
             refine pq_ HT_.out 2 21 (bt 43 5) (h := ?_)
             refine pq_ HT_.out 5 24 (bt 43 37) (h := ?_)
             refine tq6_ HT_.out HW_.out 1 20 (bt 43 39) hHeld (h := ?_)
             refine pq_ HT_.out 3 22 (bt 43 47) (h := ?_)
             refine tq6_ HT_.out HW_.out 4 23 (bt 43 63) hHeld (h := ?_)
             refine tq6_ HT_.out HW_.out 6 25 (bt 43 127) hHeld (h := ?_)
             refine pq_ HT_.out 7 26 (bt 43 255) (h := ?_)
             refine pq_ HT_.out 8 27 (bt 43 511) (h := ?_)
             refine one_ (i := 9) (N := some 28) (bt 43 1023) rfl rfl (one_of HT_.out (by kernel_rfl)) (by decide) (fun K hK => ?_)
             refine goes_ Tryd.func33 (by kernel_rfl) rfl #[.int .i64 (rd l0_2 x5_1), .int .i64 (wrap64 ((l0_0.length : Int) - 1))] (by rfl) rfl rfl (by (try simp only [List.map_toArray, List.map_cons, List.map_nil]); first | done | rfl | (simp only [List.length_drop, List.length_take]; rfl)) ?_
             with_reducible refine (quorumref0_Num.calls (rd l0_2 x5_1) (wrap64 ((l0_0.length : Int) - 1)) true _ A11.out).mono ?_
             rintro e w' ⟨rfl, ⟨nd, rfl⟩⟩
             refine ⟨_, rfl, ?_⟩
             refine hK.out _ _ ⟨bk_ BK164 0, bk_ BK164 1, bk_ BK164 2, ((bc_ HB hw165_0 :)), ((bc_ HB hw167_0 :)), ((bc_ HB hw168_0 :))⟩ (fun hHeld => ?_)
             clear hK K
             refine norm_ (a' := ?_) ?_ ?_
             rotate_left
             ·show Act.put _ (some 28) _ = _
              simp only [z_]
              rfl
             refine pq_ HT_.out 10 29 (bt 43 2047) (h := ?_)
             refine pq_ HT_.out 11 30 (bt 43 4095) (h := ?_)
             refine pq_ HT_.out 12 31 (bt 43 8191) (h := ?_)
             refine pq_ HT_.out 13 32 (bt 43 16383) (h := ?_)
             refine pq_ HT_.out 14 33 (bt 43 32767) (h := ?_)
             refine pq_ HT_.out 15 34 (bt 43 65535) (h := ?_)
             refine pq_ HT_.out 17 36 (bt 43 196607) (h := ?_)
             refine pq_ HT_.out 18 37 (bt 43 458751) (h := ?_)
             refine pq_ HT_.out 21 40 (bt 43 2555903) (h := ?_)
             refine pq_ HT_.out 23 42 (bt 43 10944511) (h := ?_)
             refine tq6_ HT_.out HW_.out 16 35 (bt 43 11010047) hHeld (h := ?_)
             refine pq_ HT_.out 19 38 (bt 43 11534335) (h := ?_)
             refine tq6_ HT_.out HW_.out 20 39 (bt 43 12582911) hHeld (h := ?_)
             refine tq6_ HT_.out HW_.out 22 41 (bt 43 16777215) hHeld (h := ?_)
             refine pq_ HT_.out 24 43 (bt 43 33554431) (h := ?_)
             refine tq6_ HT_.out HW_.out 25 44 (bt 43 67108863) hHeld (h := ?_)
             refine pq_ HT_.out 26 45 (bt 43 134217727) (h := ?_)
             refine pq_ HT_.out 27 46 (bt 43 268435455) (h := ?_)
             refine pq_ HT_.out 28 47 (bt 43 536870911) (h := ?_)
             refine pq_ HT_.out 29 48 (bt 43 1073741823) (h := ?_)
             refine uq_ HT_.out 30 49 (bt 43 2147483647) (h := ?_)
             refine uq_ HT_.out 31 50 (bt 43 4294967295) (h := ?_)
             refine uq_ HT_.out 32 51 (bt 43 8589934591) (h := ?_)
             refine uq_ HT_.out 33 52 (bt 43 17179869183) (h := ?_)
             refine uq_ HT_.out 34 53 (bt 43 34359738367) (h := ?_)
             refine uq_ HT_.out 35 54 (bt 43 68719476735) (h := ?_)
             refine uq_ HT_.out 36 55 (bt 43 137438953471) (h := ?_)
             refine uq_ HT_.out 37 56 (bt 43 274877906943) (h := ?_)
             refine uq_ HT_.out 38 57 (bt 43 549755813887) (h := ?_)
             refine uq_ HT_.out 39 58 (bt 43 1099511627775) (h := ?_)
             refine uq_ HT_.out 40 59 (bt 43 2199023255551) (h := ?_)
             refine uq_ HT_.out 41 60 (bt 43 4398046511103) (h := ?_)
             refine pq_ HT_.out 42 61 (bt 43 8796093022207) (h := ?_)
             refine done_ (done_of HT_.out (by kernel_rfl)) ?_
             try go_wp2
             go_meet
             case rel => exact ⟨_, (true), (by first | rfl | (simp; done) | (simp [*]; done)), H', ⟨by have := HK1.out; first | omega | exact Nat.le_refl _⟩, ⟨h_ BK164⟩, ⟨b_ HB⟩⟩
            ·rw [if_neg c17] at H
             have c17b0 : decide ((rd l0_2 x5_1) ≤ (rd l0_2 (ji14))) = false := decide_eq_false c17
             clear c17
             by_cases c19 : 0 ≤ (rd l0_2 x5_1)
             ·rw [if_pos c19] at H
              have c19b0 : decide (0 ≤ (rd l0_2 x5_1)) = true := decide_eq_true c19
              clear c19
              by_cases c20 : (rd l0_2 x5_1) < (l0_0.length : Int)
              ·rw [if_pos c20] at H
               have c20b0 : decide ((rd l0_2 x5_1) < (l0_0.length : Int)) = true := decide_eq_true c20
               clear c20
               replace H := Option.bind_eq_some_iff.mp H
               obtain ⟨t171, A210, H⟩ := H
               try dsimp only at H
               have A21 := mk0 A210
               clear A210
               have H' := mk0 H
               clear H
               try go_wp2
               replace BK164 := mk0 (bD_ BK164.out)
               replace HB := mk0 (b1_ HB.out)
               have p165 : 0 ≤ (x5_1 : Int) := of_decide_eq_true (by first | (with_reducible assumption) | assumption)
               have q165 : x5_1 < (l0_2.length : Int) := of_decide_eq_true (by first | (with_reducible assumption) | assumption)
               obtain ⟨ad165, e165, hx165_0⟩ := Kd.at_int HR0_2.out x5_1 p165 q165
               have hw165_0 := hx165_0
               cases e165
               replace hx165_0 := (bc_ HB hx165_0 :)
               replace p165 := eq_true p165
               replace q165 := eq_true q165
               have p167 : 0 ≤ ((ji14) : Int) := of_decide_eq_true (by first | (with_reducible assumption) | assumption)
               have q167 : (ji14) < (l0_2.length : Int) := of_decide_eq_true (by first | (with_reducible assumption) | assumption)
               obtain ⟨ad167, e167, hx167_0⟩ := Kd.at_int HR0_2.out (ji14) p167 q167
               have hw167_0 := hx167_0
               obtain rfl : ad165 = ad167 := (by injection e167)
               replace hx167_0 := (bc_ HB hx167_0 :)
               replace p167 := eq_true p167
               replace q167 := eq_true q167
               have p168 : 0 ≤ (x5_1 : Int) := of_decide_eq_true (by first | (with_reducible assumption) | assumption)
               have q168 : x5_1 < (l0_2.length : Int) := of_decide_eq_true (by first | (with_reducible assumption) | assumption)
               obtain ⟨ad168, e168, hx168_0⟩ := Kd.at_int HR0_2.out x5_1 p168 q168
               have hw168_0 := hx168_0
               obtain rfl : ad165 = ad168 := (by injection e168)
               replace hx168_0 := (bc_ HB hx168_0 :)
               replace p168 := eq_true p168
               replace q168 := eq_true q168
               have p169 : 0 ≤ (x5_1 : Int) := of_decide_eq_true (by first | (with_reducible assumption) | assumption)
               have q169 : x5_1 < (l0_2.length : Int) := of_decide_eq_true (by first | (with_reducible assumption) | assumption)
               obtain ⟨ad169, e169, hx169_0⟩ := Kd.at_int HR0_2.out x5_1 p169 q169
               have hw169_0 := hx169_0
               obtain rfl : ad165 = ad169 := (by injection e169)
               replace hx169_0 := (bc_ HB hx169_0 :)
               replace p169 := eq_true p169
               replace q169 := eq_true q169
               have p170 : 0 ≤ ((rd l0_2 x5_1) : Int) := of_decide_eq_true (by first | (with_reducible assumption) | assumption)
               have q170 : (rd l0_2 x5_1) < (l0_0.length : Int) := of_decide_eq_true (by first | (with_reducible assumption) | assumption)
               obtain ⟨ad170, A170_0, c170_0, A170_1, c170_1, A170_2, c170_2, e170, hx170_0, hx170_1, hx170_2, hx170_3, hl170_0, hi170_0, hl170_1, hi170_1, hl170_2, hi170_2⟩ := at_T85 HR0_0.out (rd l0_2 x5_1) p170 q170
               have hw170_3 := hx170_3
               have hw170_2 := hx170_2
               have hw170_1 := hx170_1
               have hw170_0 := hx170_0
               cases e170
               replace hx170_0 := (bc_ HB hx170_0 :)
               replace hx170_1 := (bc_ HB hx170_1 :)
               replace hx170_2 := (bc_ HB hx170_2 :)
               replace hx170_3 := (bc_ HB hx170_3 :)
               have HR170_0 := mk0 hi170_0
               have HC170_0 := mk0 hl170_0
               clear hi170_0 hl170_0
               have HR170_1 := mk0 hi170_1
               have HC170_1 := mk0 hl170_1
               clear hi170_1 hl170_1
               have HR170_2 := mk0 hi170_2
               have HC170_2 := mk0 hl170_2
               clear hi170_2 hl170_2
               replace p170 := eq_true p170
               replace q170 := eq_true q170
               refine start_ (n := 43) (S := fun w' => w'.cell? ⟨gb164, 0, none⟩ = some (.slice (some ad170) l0_0.length c0_0) ∧ w'.cell? ⟨gb164, 1, none⟩ = some (.int .i64 a0_1) ∧ w'.cell? ⟨gb164, 2, none⟩ = some (.slice (some ad165) l0_2.length c0_2) ∧ w'.cell? (ad165.add (x5_1).toNat) = some (.int .i64 (rd l0_2 x5_1)) ∧ w'.cell? (ad165.add ((ji14)).toNat) = some (.int .i64 (rd l0_2 (ji14))) ∧ w'.cell? (ad165.add (x5_1).toNat) = some (.int .i64 (rd l0_2 x5_1)) ∧ w'.cell? (ad165.add (x5_1).toNat) = some (.int .i64 (rd l0_2 x5_1)) ∧ w'.cell? (ad170.add (((rd l0_2 x5_1)).toNat * 4)) = some (.slice A170_0 ((rd_T85 l0_0 (rd l0_2 x5_1)).f0).length c170_0) ∧ w'.cell? ⟨(ad170.add (((rd l0_2 x5_1)).toNat * 4)).block, (ad170.add (((rd l0_2 x5_1)).toNat * 4)).off + 1, none⟩ = some (.slice A170_1 ((rd_T85 l0_0 (rd l0_2 x5_1)).f1).length c170_1) ∧ w'.cell? ⟨(ad170.add (((rd l0_2 x5_1)).toNat * 4)).block, (ad170.add (((rd l0_2 x5_1)).toNat * 4)).off + 2, none⟩ = some (.slice A170_2 ((rd_T85 l0_0 (rd l0_2 x5_1)).f2).length c170_2) ∧ w'.cell? ⟨(ad170.add (((rd l0_2 x5_1)).toNat * 4)).block, (ad170.add (((rd l0_2 x5_1)).toNat * 4)).off + 3, none⟩ = some (.bool ((rd_T85 l0_0 (rd l0_2 x5_1)).f3))) (ds := []) (bt 43 0) (by kernel_rfl) rfl rfl ⟨bk_ BK164 0, bk_ BK164 1, bk_ BK164 2, ((bc_ HB hw165_0 :)), ((bc_ HB hw167_0 :)), ((bc_ HB hw168_0 :)), ((bc_ HB hw169_0 :)), ((bc_ HB hw170_0 :)), ((bc_ HB hw170_1 :)), ((bc_ HB hw170_2 :)), ((bc_ HB hw170_3 :))⟩ (fun hHeld => ?_); refine with_tabW quorumref6_Tree.tab6 quorumref6_Tree.bits6 (fun HT_ HW_ => ?_)
               generalize wr.drew = w22 at BK164 HB HR170_0 HR170_1 HR170_2 hx165_0 hx167_0 hx168_0 hx169_0 hx170_0 hx170_1 hx170_2 hx170_3 hHeld ⊢
               refine pq_ HT_.out 0 19 (bt 43 1) (h := ?_)
               refine pq_ HT_.out 2 21 (bt 43 5) (h := ?_)
               refine pq_ HT_.out 5 24 (bt 43 37) (h := ?_)
               refine tq11_ HT_.out HW_.out 1 20 (bt 43 39) hHeld (h := ?_)
               refine pq_ HT_.out 3 22 (bt 43 47) (h := ?_)
               refine tq11_ HT_.out HW_.out 4 23 (bt 43 63) hHeld (h := ?_)
               refine tq11_ HT_.out HW_.out 6 25 (bt 43 127) hHeld (h := ?_)
               refine pq_ HT_.out 7 26 (bt 43 255) (h := ?_)
               refine pq_ HT_.out 8 27 (bt 43 511) (h := ?_)
               refine one_ (i := 9) (N := some 28) (bt 43 1023) rfl rfl (one_of HT_.out (by kernel_rfl)) (by decide) (fun K hK => ?_)
               refine goes_ Tryd.func33 (by kernel_rfl) rfl #[.int .i64 (rd l0_2 x5_1), .int .i64 (wrap64 ((l0_0.length : Int) - 1))] (by rfl) rfl rfl (by (try simp only [List.map_toArray, List.map_cons, List.map_nil]); first | done | rfl | (simp only [List.length_drop, List.length_take]; rfl)) ?_
               with_reducible refine (quorumref0_Num.calls (rd l0_2 x5_1) (wrap64 ((l0_0.length : Int) - 1)) true _ A11.out).mono ?_
               rintro e w' ⟨rfl, ⟨nd, rfl⟩⟩
               refine ⟨_, rfl, ?_⟩
               refine hK.out _ _ ⟨bk_ BK164 0, bk_ BK164 1, bk_ BK164 2, ((bc_ HB hw165_0 :)), ((bc_ HB hw167_0 :)), ((bc_ HB hw168_0 :)), ((bc_ HB hw169_0 :)), ((bc_ HB hw170_0 :)), ((bc_ HB hw170_1 :)), ((bc_ HB hw170_2 :)), ((bc_ HB hw170_3 :))⟩ (fun hHeld => ?_)
               clear hK K
               refine norm_ (a' := ?_) ?_ ?_
               rotate_left
               ·show Act.put _ (some 28) _ = _
                simp only [z_]
                rfl
               refine pq_ HT_.out 10 29 (bt 43 2047) (h := ?_)
               refine pq_ HT_.out 11 30 (bt 43 4095) (h := ?_)
               refine pq_ HT_.out 12 31 (bt 43 8191) (h := ?_)
               refine pq_ HT_.out 13 32 (bt 43 16383) (h := ?_)
               refine pq_ HT_.out 14 33 (bt 43 32767) (h := ?_)
               refine pq_ HT_.out 15 34 (bt 43 65535) (h := ?_)
               refine pq_ HT_.out 17 36 (bt 43 196607) (h := ?_)
               refine pq_ HT_.out 18 37 (bt 43 458751) (h := ?_)
               refine pq_ HT_.out 21 40 (bt 43 2555903) (h := ?_)
               refine pq_ HT_.out 23 42 (bt 43 10944511) (h := ?_)
               refine tq11_ HT_.out HW_.out 16 35 (bt 43 11010047) hHeld (h := ?_)
               refine pq_ HT_.out 19 38 (bt 43 11534335) (h := ?_)
               refine tq11_ HT_.out HW_.out 20 39 (bt 43 12582911) hHeld (h := ?_)
               refine tq11_ HT_.out HW_.out 22 41 (bt 43 16777215) hHeld (h := ?_)
               refine pq_ HT_.out 24 43 (bt 43 33554431) (h := ?_)
               refine tq11_ HT_.out HW_.out 25 44 (bt 43 67108863) hHeld (h := ?_)
               refine pq_ HT_.out 26 45 (bt 43 134217727) (h := ?_)
               refine pq_ HT_.out 27 46 (bt 43 268435455) (h := ?_)
               refine pq_ HT_.out 28 47 (bt 43 536870911) (h := ?_)
               refine pq_ HT_.out 29 48 (bt 43 1073741823) (h := ?_)
               refine pq_ HT_.out 30 49 (bt 43 2147483647) (h := ?_)
               refine pq_ HT_.out 32 51 (bt 43 6442450943) (h := ?_)
               refine pq_ HT_.out 34 53 (bt 43 23622320127) (h := ?_)
               refine pq_ HT_.out 39 58 (bt 43 573378134015) (h := ?_)
               refine tq11_ HT_.out HW_.out 31 50 (bt 43 575525617663) hHeld (h := ?_)
               refine tq11_ HT_.out HW_.out 33 52 (bt 43 584115552255) hHeld (h := ?_)
               refine pq_ HT_.out 35 54 (bt 43 618475290623) (h := ?_)
               refine tq11_ HT_.out HW_.out 36 55 (bt 43 687194767359) hHeld (h := ?_)
               refine pq_ HT_.out 37 56 (bt 43 824633720831) (h := ?_)
               refine tq11_ HT_.out HW_.out 38 57 (bt 43 1099511627775) hHeld (h := ?_)
               refine one_ (i := 40) (N := some 59) (bt 43 2199023255551) rfl rfl (one_of HT_.out (by kernel_rfl)) (by decide) (fun K hK => ?_)
               refine goes_ Tryd.func55 (by kernel_rfl) rfl #[.agg #[.slice A170_0 ((rd_T85 l0_0 (rd l0_2 x5_1)).f0).length c170_0, .slice A170_1 ((rd_T85 l0_0 (rd l0_2 x5_1)).f1).length c170_1, .slice A170_2 ((rd_T85 l0_0 (rd l0_2 x5_1)).f2).length c170_2, .bool ((rd_T85 l0_0 (rd l0_2 x5_1)).f3)], .agg #[.slice none 0 0, .slice none 0 0, .slice none 0 0, .bool false]] (by rfl) rfl rfl (by (try simp only [List.map_toArray, List.map_cons, List.map_nil]); first | done | rfl | (simp only [List.length_drop, List.length_take]; rfl)) ?_
               refine (quorumref0_EqNode.calls k1 _ _ ((rd_T85 l0_0 (rd l0_2 x5_1)).f0) _ _ ((rd_T85 l0_0 (rd l0_2 x5_1)).f1) _ _ ((rd_T85 l0_0 (rd l0_2 x5_1)).f2) ((rd_T85 l0_0 (rd l0_2 x5_1)).f3) _ _ ([] : List ByteArray) _ _ ([] : List Int) _ _ ([] : List Int) false t171 _ ?side1 ?side2 ?side3 ?side4 ?side5 ?side6 ?side7 ?side8 ?side9 ?side10 ?side11 ?side12 A21.out).mono ?_
               (case side1 => repeat (first | exact (Kd.C_below HR170_0.out (b_ HB)) | (with_reducible refine Kd.C_alloc ?_ _) | (with_reducible refine Kd.C_drewN ?_ _) | (with_reducible refine Kd.C_drew ?_)))
               (case side2 => exact HC170_0.out)
               (case side3 => repeat (first | exact (Kd.C_below HR170_1.out (b_ HB)) | (with_reducible refine Kd.C_alloc ?_ _) | (with_reducible refine Kd.C_drewN ?_ _) | (with_reducible refine Kd.C_drew ?_)))
               (case side4 => exact HC170_1.out)
               (case side5 => repeat (first | exact (Kd.C_below HR170_2.out (b_ HB)) | (with_reducible refine Kd.C_alloc ?_ _) | (with_reducible refine Kd.C_drewN ?_ _) | (with_reducible refine Kd.C_drew ?_)))
               (case side6 => exact HC170_2.out)
               (case side7 => exact Kd.C_nil _ _)
               (case side8 => exact Nat.le_refl _)
               (case side9 => exact Kd.C_nil _ _)
               (case side10 => exact Nat.le_refl _)
               (case side11 => exact Kd.C_nil _ _)
               (case side12 => exact Nat.le_refl _)
               rintro e w23 ⟨rfl, hb⟩
               refine ⟨_, rfl, ?_⟩
               replace BK164 := mk0 (u_ BK164 hb)
               replace HB := mk0 (bt_ (b_ HB) hb)
               (try clear hb)
               (try clear hb2)
               (try clear hk)
               (try clear hi)
               refine hK.out _ _ ⟨bk_ BK164 0, bk_ BK164 1, bk_ BK164 2, ((bc_ HB hw165_0 :)), ((bc_ HB hw167_0 :)), ((bc_ HB hw168_0 :)), ((bc_ HB hw169_0 :)), ((bc_ HB hw170_0 :)), ((bc_ HB hw170_1 :)), ((bc_ HB hw170_2 :)), ((bc_ HB hw170_3 :))⟩ (fun hHeld => ?_)
               clear hK K
               refine norm_ (a' := ?_) ?_ ?_
               rotate_left
               ·show Act.put _ (some 59) _ = _
                simp only [z_]
                rfl
               refine pq_ HT_.out 41 60 (bt 43 4398046511103) (h := ?_)
               refine pq_ HT_.out 42 61 (bt 43 8796093022207) (h := ?_)
               refine done_ (done_of HT_.out (by kernel_rfl)) ?_
               try go_wp2
               go_meet
               case rel => exact ⟨_, (!t171), (by first | rfl | (simp; done) | (simp [*]; done)), H', ⟨by have := HK1.out; first | omega | exact Nat.le_refl _⟩, ⟨h_ BK164⟩, ⟨b_ HB⟩⟩
              ·rw [if_neg c20] at H
               exact absurd H (by simp)
             ·rw [if_neg c19] at H
              exact absurd H (by simp)
           ·rw [if_neg c16] at H
            exact absurd H (by simp)
          ·rw [if_neg c15] at H
           exact absurd H (by simp)
         ·rw [if_neg c13] at H
          have c13b0 : decide (0 < x5_1) = false := decide_eq_false c13
          clear c13
          by_cases c24 : 0 ≤ (rd l0_2 x5_1)
          ·rw [if_pos c24] at H
           have c24b0 : decide (0 ≤ (rd l0_2 x5_1)) = true := decide_eq_true c24
           clear c24
           by_cases c25 : (rd l0_2 x5_1) < (l0_0.length : Int)
           ·rw [if_pos c25] at H
            have c25b0 : decide ((rd l0_2 x5_1) < (l0_0.length : Int)) = true := decide_eq_true c25
            clear c25
            replace H := Option.bind_eq_some_iff.mp H
            obtain ⟨t174, A260, H⟩ := H
            try dsimp only at H
            have A26 := mk0 A260
            clear A260
            have H' := mk0 H
            clear H
            try go_wp2
            replace BK164 := mk0 (bD_ BK164.out)
            replace HB := mk0 (b1_ HB.out)
            have p165 : 0 ≤ (x5_1 : Int) := of_decide_eq_true (by first | (with_reducible assumption) | assumption)
            have q165 : x5_1 < (l0_2.length : Int) := of_decide_eq_true (by first | (with_reducible assumption) | assumption)
            obtain ⟨ad165, e165, hx165_0⟩ := Kd.at_int HR0_2.out x5_1 p165 q165
            have hw165_0 := hx165_0
            cases e165
            replace hx165_0 := (bc_ HB hx165_0 :)
            replace p165 := eq_true p165
            replace q165 := eq_true q165
            have p172 : 0 ≤ (x5_1 : Int) := of_decide_eq_true (by first | (with_reducible assumption) | assumption)
            have q172 : x5_1 < (l0_2.length : Int) := of_decide_eq_true (by first | (with_reducible assumption) | assumption)
            obtain ⟨ad172, e172, hx172_0⟩ := Kd.at_int HR0_2.out x5_1 p172 q172
            have hw172_0 := hx172_0
            obtain rfl : ad165 = ad172 := (by injection e172)
            replace hx172_0 := (bc_ HB hx172_0 :)
            replace p172 := eq_true p172
            replace q172 := eq_true q172
            have p173 : 0 ≤ ((rd l0_2 x5_1) : Int) := of_decide_eq_true (by first | (with_reducible assumption) | assumption)
            have q173 : (rd l0_2 x5_1) < (l0_0.length : Int) := of_decide_eq_true (by first | (with_reducible assumption) | assumption)
            obtain ⟨ad173, A173_0, c173_0, A173_1, c173_1, A173_2, c173_2, e173, hx173_0, hx173_1, hx173_2, hx173_3, hl173_0, hi173_0, hl173_1, hi173_1, hl173_2, hi173_2⟩ := at_T85 HR0_0.out (rd l0_2 x5_1) p173 q173
            have hw173_3 := hx173_3
            have hw173_2 := hx173_2
            have hw173_1 := hx173_1
            have hw173_0 := hx173_0
            cases e173
            replace hx173_0 := (bc_ HB hx173_0 :)
            replace hx173_1 := (bc_ HB hx173_1 :)
            replace hx173_2 := (bc_ HB hx173_2 :)
            replace hx173_3 := (bc_ HB hx173_3 :)
            have HR173_0 := mk0 hi173_0
            have HC173_0 := mk0 hl173_0
            clear hi173_0 hl173_0
            have HR173_1 := mk0 hi173_1
            have HC173_1 := mk0 hl173_1
            clear hi173_1 hl173_1
            have HR173_2 := mk0 hi173_2
            have HC173_2 := mk0 hl173_2
            clear hi173_2 hl173_2
            replace p173 := eq_true p173
            replace q173 := eq_true q173
            refine start_ (n := 43) (S := fun w' => w'.cell? ⟨gb164, 0, none⟩ = some (.slice (some ad173) l0_0.length c0_0) ∧ w'.cell? ⟨gb164, 1, none⟩ = some (.int .i64 a0_1) ∧ w'.cell? ⟨gb164, 2, none⟩ = some (.slice (some ad165) l0_2.length c0_2) ∧ w'.cell? (ad165.add (x5_1).toNat) = some (.int .i64 (rd l0_2 x5_1)) ∧ w'.cell? (ad165.add (x5_1).toNat) = some (.int .i64 (rd l0_2 x5_1)) ∧ w'.cell? (ad173.add (((rd l0_2 x5_1)).toNat * 4)) = some (.slice A173_0 ((rd_T85 l0_0 (rd l0_2 x5_1)).f0).length c173_0) ∧ w'.cell? ⟨(ad173.add (((rd l0_2 x5_1)).toNat * 4)).block, (ad173.add (((rd l0_2 x5_1)).toNat * 4)).off + 1, none⟩ = some (.slice A173_1 ((rd_T85 l0_0 (rd l0_2 x5_1)).f1).length c173_1) ∧ w'.cell? ⟨(ad173.add (((rd l0_2 x5_1)).toNat * 4)).block, (ad173.add (((rd l0_2 x5_1)).toNat * 4)).off + 2, none⟩ = some (.slice A173_2 ((rd_T85 l0_0 (rd l0_2 x5_1)).f2).length c173_2) ∧ w'.cell? ⟨(ad173.add (((rd l0_2 x5_1)).toNat * 4)).block, (ad173.add (((rd l0_2 x5_1)).toNat * 4)).off + 3, none⟩ = some (.bool ((rd_T85 l0_0 (rd l0_2 x5_1)).f3))) (ds := []) (bt 43 0) (by kernel_rfl) rfl rfl ⟨bk_ BK164 0, bk_ BK164 1, bk_ BK164 2, ((bc_ HB hw165_0 :)), ((bc_ HB hw172_0 :)), ((bc_ HB hw173_0 :)), ((bc_ HB hw173_1 :)), ((bc_ HB hw173_2 :)), ((bc_ HB hw173_3 :))⟩ (fun hHeld => ?_); refine with_tabW quorumref6_Tree.tab6 quorumref6_Tree.bits6 (fun HT_ HW_ => ?_)
            generalize wr.drew = w27 at BK164 HB HR173_0 HR173_1 HR173_2 hx165_0 hx172_0 hx173_0 hx173_1 hx173_2 hx173_3 hHeld ⊢
            refine pq_ HT_.out 0 19 (bt 43 1) (h := ?_)
            refine pq_ HT_.out 2 21 (bt 43 5) (h := ?_)
            refine pq_ HT_.out 5 24 (bt 43 37) (h := ?_)
            refine tq9_ HT_.out HW_.out 1 20 (bt 43 39) hHeld (h := ?_)
            refine pq_ HT_.out 3 22 (bt 43 47) (h := ?_)
            refine tq9_ HT_.out HW_.out 4 23 (bt 43 63) hHeld (h := ?_)
            refine tq9_ HT_.out HW_.out 6 25 (bt 43 127) hHeld (h := ?_)
            refine pq_ HT_.out 7 26 (bt 43 255) (h := ?_)
            refine pq_ HT_.out 8 27 (bt 43 511) (h := ?_)
            refine one_ (i := 9) (N := some 28) (bt 43 1023) rfl rfl (one_of HT_.out (by kernel_rfl)) (by decide) (fun K hK => ?_)
            refine goes_ Tryd.func33 (by kernel_rfl) rfl #[.int .i64 (rd l0_2 x5_1), .int .i64 (wrap64 ((l0_0.length : Int) - 1))] (by rfl) rfl rfl (by (try simp only [List.map_toArray, List.map_cons, List.map_nil]); first | done | rfl | (simp only [List.length_drop, List.length_take]; rfl)) ?_
            with_reducible refine (quorumref0_Num.calls (rd l0_2 x5_1) (wrap64 ((l0_0.length : Int) - 1)) true _ A11.out).mono ?_
            rintro e w' ⟨rfl, ⟨nd, rfl⟩⟩
            refine ⟨_, rfl, ?_⟩
            refine hK.out _ _ ⟨bk_ BK164 0, bk_ BK164 1, bk_ BK164 2, ((bc_ HB hw165_0 :)), ((bc_ HB hw172_0 :)), ((bc_ HB hw173_0 :)), ((bc_ HB hw173_1 :)), ((bc_ HB hw173_2 :)), ((bc_ HB hw173_3 :))⟩ (fun hHeld => ?_)
            clear hK K
            refine norm_ (a' := ?_) ?_ ?_
            rotate_left
            ·show Act.put _ (some 28) _ = _
             simp only [z_]
             rfl
            refine pq_ HT_.out 10 29 (bt 43 2047) (h := ?_)
            refine pq_ HT_.out 11 30 (bt 43 4095) (h := ?_)
            refine pq_ HT_.out 12 31 (bt 43 8191) (h := ?_)
            refine pq_ HT_.out 13 32 (bt 43 16383) (h := ?_)
            refine pq_ HT_.out 14 33 (bt 43 32767) (h := ?_)
            refine uq_ HT_.out 15 34 (bt 43 65535) (h := ?_)
            refine uq_ HT_.out 16 35 (bt 43 131071) (h := ?_)
            refine uq_ HT_.out 17 36 (bt 43 262143) (h := ?_)
            refine uq_ HT_.out 18 37 (bt 43 524287) (h := ?_)
            refine uq_ HT_.out 19 38 (bt 43 1048575) (h := ?_)
            refine uq_ HT_.out 20 39 (bt 43 2097151) (h := ?_)
            refine uq_ HT_.out 21 40 (bt 43 4194303) (h := ?_)
            refine uq_ HT_.out 22 41 (bt 43 8388607) (h := ?_)
            refine uq_ HT_.out 23 42 (bt 43 16777215) (h := ?_)
            refine uq_ HT_.out 24 43 (bt 43 33554431) (h := ?_)
            refine uq_ HT_.out 25 44 (bt 43 67108863) (h := ?_)
            refine uq_ HT_.out 26 45 (bt 43 134217727) (h := ?_)
            refine pq_ HT_.out 27 46 (bt 43 268435455) (h := ?_)
            refine pq_ HT_.out 28 47 (bt 43 536870911) (h := ?_)
            refine pq_ HT_.out 29 48 (bt 43 1073741823) (h := ?_)
            refine pq_ HT_.out 30 49 (bt 43 2147483647) (h := ?_)
            refine pq_ HT_.out 32 51 (bt 43 6442450943) (h := ?_)
            refine pq_ HT_.out 34 53 (bt 43 23622320127) (h := ?_)
            refine pq_ HT_.out 39 58 (bt 43 573378134015) (h := ?_)
            refine tq9_ HT_.out HW_.out 31 50 (bt 43 575525617663) hHeld (h := ?_)
            refine tq9_ HT_.out HW_.out 33 52 (bt 43 584115552255) hHeld (h := ?_)
            refine pq_ HT_.out 35 54 (bt 43 618475290623) (h := ?_)
            refine tq9_ HT_.out HW_.out 36 55 (bt 43 687194767359) hHeld (h := ?_)
            refine pq_ HT_.out 37 56 (bt 43 824633720831) (h := ?_)
            refine tq9_ HT_.out HW_.out 38 57 (bt 43 1099511627775) hHeld (h := ?_)
            refine one_ (i := 40) (N := some 59) (bt 43 2199023255551) rfl rfl (one_of HT_.out (by kernel_rfl)) (by decide) (fun K hK => ?_)
            refine goes_ Tryd.func55 (by kernel_rfl) rfl #[.agg #[.slice A173_0 ((rd_T85 l0_0 (rd l0_2 x5_1)).f0).length c173_0, .slice A173_1 ((rd_T85 l0_0 (rd l0_2 x5_1)).f1).length c173_1, .slice A173_2 ((rd_T85 l0_0 (rd l0_2 x5_1)).f2).length c173_2, .bool ((rd_T85 l0_0 (rd l0_2 x5_1)).f3)], .agg #[.slice none 0 0, .slice none 0 0, .slice none 0 0, .bool false]] (by rfl) rfl rfl (by (try simp only [List.map_toArray, List.map_cons, List.map_nil]); first | done | rfl | (simp only [List.length_drop, List.length_take]; rfl)) ?_
            refine (quorumref0_EqNode.calls k1 _ _ ((rd_T85 l0_0 (rd l0_2 x5_1)).f0) _ _ ((rd_T85 l0_0 (rd l0_2 x5_1)).f1) _ _ ((rd_T85 l0_0 (rd l0_2 x5_1)).f2) ((rd_T85 l0_0 (rd l0_2 x5_1)).f3) _ _ ([] : List ByteArray) _ _ ([] : List Int) _ _ ([] : List Int) false t174 _ ?side1 ?side2 ?side3 ?side4 ?side5 ?side6 ?side7 ?side8 ?side9 ?side10 ?side11 ?side12 A26.out).mono ?_
            (case side1 => repeat (first | exact (Kd.C_below HR173_0.out (b_ HB)) | (with_reducible refine Kd.C_alloc ?_ _) | (with_reducible refine Kd.C_drewN ?_ _) | (with_reducible refine Kd.C_drew ?_)))
            (case side2 => exact HC173_0.out)
            (case side3 => repeat (first | exact (Kd.C_below HR173_1.out (b_ HB)) | (with_reducible refine Kd.C_alloc ?_ _) | (with_reducible refine Kd.C_drewN ?_ _) | (with_reducible refine Kd.C_drew ?_)))
            (case side4 => exact HC173_1.out)
            (case side5 => repeat (first | exact (Kd.C_below HR173_2.out (b_ HB)) | (with_reducible refine Kd.C_alloc ?_ _) | (with_reducible refine Kd.C_drewN ?_ _) | (with_reducible refine Kd.C_drew ?_)))
            (case side6 => exact HC173_2.out)
            (case side7 => exact Kd.C_nil _ _)
            (case side8 => exact Nat.le_refl _)
            (case side9 => exact Kd.C_nil _ _)
            (case side10 => exact Nat.le_refl _)
            (case side11 => exact Kd.C_nil _ _)
            (case side12 => exact Nat.le_refl _)
            rintro e w28 ⟨rfl, hb⟩
            refine ⟨_, rfl, ?_⟩
            replace BK164 := mk0 (u_ BK164 hb)
            replace HB := mk0 (bt_ (b_ HB) hb)
            (try clear hb)
            (try clear hb2)
            (try clear hk)
            (try clear hi)
            refine hK.out _ _ ⟨bk_ BK164 0, bk_ BK164 1, bk_ BK164 2, ((bc_ HB hw165_0 :)), ((bc_ HB hw172_0 :)), ((bc_ HB hw173_0 :)), ((bc_ HB hw173_1 :)), ((bc_ HB hw173_2 :)), ((bc_ HB hw173_3 :))⟩ (fun hHeld => ?_)
            clear hK K
            refine norm_ (a' := ?_) ?_ ?_
            rotate_left
            ·show Act.put _ (some 59) _ = _
             simp only [z_]
             rfl
            refine pq_ HT_.out 41 60 (bt 43 4398046511103) (h := ?_)
            refine pq_ HT_.out 42 61 (bt 43 8796093022207) (h := ?_)
            refine done_ (done_of HT_.out (by kernel_rfl)) ?_
            try go_wp2
            go_meet
            case rel => exact ⟨_, (!t174), (by first | rfl | (simp; done) | (simp [*]; done)), H', ⟨by have := HK1.out; first | omega | exact Nat.le_refl _⟩, ⟨h_ BK164⟩, ⟨b_ HB⟩⟩
           ·rw [if_neg c25] at H
            exact absurd H (by simp)
          ·rw [if_neg c24] at H
           exact absurd H (by simp)
        ·replace c12 := Bool.eq_false_iff.mpr c12
         subst c12
         rw [if_neg (show ¬ (false = true) by decide)] at H
         have H' := mk0 H
         clear H
         try go_wp2
         replace BK164 := mk0 (bD_ BK164.out)
         replace HB := mk0 (b1_ HB.out)
         have p165 : 0 ≤ (x5_1 : Int) := of_decide_eq_true (by first | (with_reducible assumption) | assumption)
         have q165 : x5_1 < (l0_2.length : Int) := of_decide_eq_true (by first | (with_reducible assumption) | assumption)
         obtain ⟨ad165, e165, hx165_0⟩ := Kd.at_int HR0_2.out x5_1 p165 q165
         have hw165_0 := hx165_0
         cases e165
         replace hx165_0 := (bc_ HB hx165_0 :)
         replace p165 := eq_true p165
         replace q165 := eq_true q165
         refine start_ (n := 43) (S := fun w' => w'.cell? ⟨gb164, 0, none⟩ = some (.slice A0_0 l0_0.length c0_0) ∧ w'.cell? ⟨gb164, 1, none⟩ = some (.int .i64 a0_1) ∧ w'.cell? ⟨gb164, 2, none⟩ = some (.slice (some ad165) l0_2.length c0_2) ∧ w'.cell? (ad165.add (x5_1).toNat) = some (.int .i64 (rd l0_2 x5_1))) (ds := []) (bt 43 0) (by kernel_rfl) rfl rfl ⟨bk_ BK164 0, bk_ BK164 1, bk_ BK164 2, ((bc_ HB hw165_0 :))⟩ (fun hHeld => ?_); refine with_tabW quorumref6_Tree.tab6 quorumref6_Tree.bits6 (fun HT_ HW_ => ?_)
         generalize wr.drew = w29 at BK164 HB hx165_0 hHeld ⊢
         refine pq_ HT_.out 0 19 (bt 43 1) (h := ?_)
         refine pq_ HT_.out 2 21 (bt 43 5) (h := ?_)
         refine pq_ HT_.out 5 24 (bt 43 37) (h := ?_)
         refine tq4_ HT_.out HW_.out 1 20 (bt 43 39) hHeld (h := ?_)
         refine pq_ HT_.out 3 22 (bt 43 47) (h := ?_)
         refine tq4_ HT_.out HW_.out 4 23 (bt 43 63) hHeld (h := ?_)
         refine tq4_ HT_.out HW_.out 6 25 (bt 43 127) hHeld (h := ?_)
         refine pq_ HT_.out 7 26 (bt 43 255) (h := ?_)
         refine pq_ HT_.out 8 27 (bt 43 511) (h := ?_)
         refine one_ (i := 9) (N := some 28) (bt 43 1023) rfl rfl (one_of HT_.out (by kernel_rfl)) (by decide) (fun K hK => ?_)
         refine goes_ Tryd.func33 (by kernel_rfl) rfl #[.int .i64 (rd l0_2 x5_1), .int .i64 (wrap64 ((l0_0.length : Int) - 1))] (by rfl) rfl rfl (by (try simp only [List.map_toArray, List.map_cons, List.map_nil]); first | done | rfl | (simp only [List.length_drop, List.length_take]; rfl)) ?_
         with_reducible refine (quorumref0_Num.calls (rd l0_2 x5_1) (wrap64 ((l0_0.length : Int) - 1)) false _ A11.out).mono ?_
         rintro e w' ⟨rfl, ⟨nd, rfl⟩⟩
         refine ⟨_, rfl, ?_⟩
         refine hK.out _ _ ⟨bk_ BK164 0, bk_ BK164 1, bk_ BK164 2, ((bc_ HB hw165_0 :))⟩ (fun hHeld => ?_)
         clear hK K
         refine norm_ (a' := ?_) ?_ ?_
         rotate_left
         ·show Act.put _ (some 28) _ = _
          simp only [z_]
          rfl
         refine pq_ HT_.out 10 29 (bt 43 2047) (h := ?_)
         refine pq_ HT_.out 11 30 (bt 43 4095) (h := ?_)
         refine uq_ HT_.out 12 31 (bt 43 8191) (h := ?_)
         refine uq_ HT_.out 13 32 (bt 43 16383) (h := ?_)
         refine uq_ HT_.out 14 33 (bt 43 32767) (h := ?_)
         refine uq_ HT_.out 15 34 (bt 43 65535) (h := ?_)
         refine uq_ HT_.out 16 35 (bt 43 131071) (h := ?_)
         refine uq_ HT_.out 17 36 (bt 43 262143) (h := ?_)
         refine uq_ HT_.out 18 37 (bt 43 524287) (h := ?_)
         refine uq_ HT_.out 19 38 (bt 43 1048575) (h := ?_)
         refine uq_ HT_.out 20 39 (bt 43 2097151) (h := ?_)
         refine uq_ HT_.out 21 40 (bt 43 4194303) (h := ?_)
         refine uq_ HT_.out 22 41 (bt 43 8388607) (h := ?_)
         refine uq_ HT_.out 23 42 (bt 43 16777215) (h := ?_)
         refine uq_ HT_.out 24 43 (bt 43 33554431) (h := ?_)
         refine uq_ HT_.out 25 44 (bt 43 67108863) (h := ?_)
         refine uq_ HT_.out 26 45 (bt 43 134217727) (h := ?_)
         refine uq_ HT_.out 27 46 (bt 43 268435455) (h := ?_)
         refine pq_ HT_.out 28 47 (bt 43 536870911) (h := ?_)
         refine pq_ HT_.out 29 48 (bt 43 1073741823) (h := ?_)
         refine uq_ HT_.out 30 49 (bt 43 2147483647) (h := ?_)
         refine uq_ HT_.out 31 50 (bt 43 4294967295) (h := ?_)
         refine uq_ HT_.out 32 51 (bt 43 8589934591) (h := ?_)
         refine uq_ HT_.out 33 52 (bt 43 17179869183) (h := ?_)
         refine uq_ HT_.out 34 53 (bt 43 34359738367) (h := ?_)
         refine uq_ HT_.out 35 54 (bt 43 68719476735) (h := ?_)
         refine uq_ HT_.out 36 55 (bt 43 137438953471) (h := ?_)
         refine uq_ HT_.out 37 56 (bt 43 274877906943) (h := ?_)
         refine uq_ HT_.out 38 57 (bt 43 549755813887) (h := ?_)
         refine uq_ HT_.out 39 58 (bt 43 1099511627775) (h := ?_)
         refine uq_ HT_.out 40 59 (bt 43 2199023255551) (h := ?_)
         refine uq_ HT_.out 41 60 (bt 43 4398046511103) (h := ?_)
         refine pq_ HT_.out 42 61 (bt 43 8796093022207) (h := ?_)
         refine done_ (done_of HT_.out (by kernel_rfl)) ?_
         try go_wp2
         go_meet
         case rel => exact ⟨_, (true), (by first | rfl | (simp; done) | (simp [*]; done)), H', ⟨by have := HK1.out; first | omega | exact Nat.le_refl _⟩, ⟨h_ BK164⟩, ⟨b_ HB⟩⟩
       ·rw [if_neg c10] at H
        exact absurd H (by simp)
      case rest =>
       clear HC8
       try clear p1
       try clear c2
       try clear c10
       try clear c12
       try clear c17
       try clear c24
       try clear c25
       try clear hx165_0
       try clear p165
       try clear q165
       obtain ⟨kq, x61_7, rfl, HA, HJ7, BK164, HB⟩ := hcut
       cases kq with
       | zero => exact absurd HA.out (by simp [quorumref6_Tree.j1])
       | succ kj7 =>
        have H := HA.out
        clear HA
        simp only [quorumref6_Tree.j1] at H
        as_aux_lemma =>
         by_cases c30 : x61_7 = true
         ·subst c30
          rw [if_pos rfl] at H
          simp only [Option.some.injEq, Prod.mk.injEq] at H
          obtain ⟨rfl, rfl, rfl⟩ := H
          go_wp2
          go_ret3
          exact ⟨_, by first | rfl | (simp [errW_none, errW_some] <;> rfl) | (simp [*, errW_none, errW_some] <;> rfl), by first | exact Kd.R_nil _ _ _ _ _ | exact Kd.N_nil _ _ _ _ _ | exact Kd.V_nil _ _ _ _ _ | exact Kd.Q_nil _ _ _ _ _ | exact Kd.S_nil _ _ _ _ _, b_ HB⟩
         ·replace c30 := Bool.eq_false_iff.mpr c30
          subst c30
          rw [if_neg (show ¬ (false = true) by decide)] at H
          have H' := mk0 H
          clear H
          go_wp2
          go_roundg kj7
          case measure => have := HK1.out; have := HJ7.out; omega
          case rel => exact ⟨(wrap64 (x5_1 + 1)), (by first | rfl | (simp; done) | (simp [*]; done)), H', ⟨by have := HK1.out; have := HJ7.out; omega⟩, ⟨h_ BK164⟩, ⟨b_ HB⟩⟩
     ·rw [if_neg c7] at H
      have c7b0 : decide (x5_1 < (l0_2.length : Int)) = false := decide_eq_false c7
      clear c7
      by_cases c31 : 0 ≤ (l0_0.length : Int)
      ·rw [if_pos c31] at H
       have c31b0 := eq_true c31
       have c31b1 : decide (0 ≤ (l0_0.length : Int)) = true := decide_eq_true c31
       clear c31
       by_cases c32 : ((l0_0.length : Int) : Int).toNat ≤ 281474976710656
       ·rw [if_pos c32] at H
        have c32b0 := eq_true c32
        have c32b1 : decide (((l0_0.length : Int) : Int).toNat ≤ 281474976710656) = true := decide_eq_true c32
        clear c32
        obtain ⟨y175, hy175⟩ : ∃ y_ : List Bool, y_ = (List.replicate ((l0_0.length : Int) : Int).toNat false) := ⟨_, rfl⟩
        replace H : ((quorumref6_walk_node.f k1 l0_0 a0_1 l0_2 y175 0 ([] : List (S41)) false a0_1 (⟨#[]⟩ : ByteArray) (⟨#[]⟩ : ByteArray) true 1).bind fun r => (quorumref6_Tree.l1 k1 0 l0_0 a0_1 l0_2 l0_0 a0_1 l0_2 r.1 r.2.1 r.2.2.1 r.2.2.2)) = some (r1, r2, r3) := by rw [hy175]; exact H
        have Ny175 := mk0 hy175
        clear hy175
        replace H := Option.bind_eq_some_iff.mp H
        obtain ⟨⟨y182, q1_, t179, q3_⟩, AN0, H⟩ := H
        try dsimp only at H
        have AN := mk0 AN0
        clear AN0
        have H' := mk0 H
        clear H
        obtain ⟨hcz37_0, hcz37_1, hcz37_2, hfz37_0, hfz37_1, hfz37_2⟩ := c3_ BK164
        try go_wp2
        replace BK164 := mk0 (bD_ BK164.out)
        replace HB := mk0 (b1_ HB.out)
        refine start_ (n := 8) (S := fun w' => w'.cell? ⟨gb164, 0, none⟩ = some (.slice A0_0 l0_0.length c0_0) ∧ w'.cell? ⟨gb164, 1, none⟩ = some (.int .i64 a0_1) ∧ w'.cell? ⟨gb164, 2, none⟩ = some (.slice A0_2 l0_2.length c0_2)) (ds := []) (bt 8 0) (by kernel_rfl) rfl rfl ⟨bk_ BK164 0, bk_ BK164 1, bk_ BK164 2⟩ (fun hHeld => ?_); refine with_tabW quorumref6_Tree.tab8 quorumref6_Tree.bits8 (fun HT_ HW_ => ?_)
        generalize wr.drew = w38 at BK164 HB hHeld ⊢
        refine pq_ HT_.out 1 63 (bt 8 2) (h := ?_)
        refine tq3_ HT_.out HW_.out 0 62 (bt 8 3) hHeld (h := ?_)
        refine tq3_ HT_.out HW_.out 2 64 (bt 8 7) hHeld (h := ?_)
        refine pq_ HT_.out 3 65 (bt 8 15) (h := ?_)
        refine one_ (i := 4) (N := some 66) (bt 8 31) rfl rfl (one_of HT_.out (by kernel_rfl)) (by decide) (fun K hK => ?_)
        refine Kd.R_make_step Kd.bool _ 4 (by rfl) (N := 66) rfl 98 _ _ rfl (l0_0.length : Int) rfl rfl Tryd.underlying98 (.bool false) 1 info4 rfl (by decide) (by omega) false (ok := fun _ => True) (okp := fun _ => True) rfl (fun _ hk => hk) trivial (of_decide_eq_true (by first | (with_reducible assumption) | assumption)) (Nat.le_trans (Nat.mul_le_mul_right _ (of_decide_eq_true (by first | (with_reducible assumption) | assumption) : (l0_0.length : Int).toNat ≤ 281474976710656)) (by omega)) (Below.refl _ _) (Nat.le_refl _) ?_
        intro v176 w39 ho40 hb hg_ hnew_
        clear hg_ hnew_
        (first | rw [← Ny175.out] at ho40 | (simp only [Int.reduceToNat] at ho40; rw [← Ny175.out] at ho40))
        have n0_ := mk0 (Kd.R_lower ho40 (bz_ (b_ HB)))
        replace BK164 := mk0 (u_ BK164 hb)
        replace HB := mk0 (bt_ (b_ HB) hb)
        have HO177 := n0_
        clear n0_ hb ho40
        obtain ⟨Ao41, co41, eo41⟩ := Kd.R_slice HO177.out
        (first | subst eo41 | (injection eo41 with f1_ f2_ f3_; have f4_ := f1_.symm; have f5_ := f3_.symm; clear f1_ f2_ f3_; subst f4_; subst f5_))
        refine hK.out _ _ ⟨bk_ BK164 0, bk_ BK164 1, bk_ BK164 2⟩ (fun hHeld => ?_)
        clear hK K
        refine norm_ (a' := ?_) ?_ ?_
        rotate_left
        ·show Act.put _ (some 66) _ = _
         simp only [z_]
         rfl
        refine pq_ HT_.out 5 67 (bt 8 63) (h := ?_)
        refine one_ (i := 6) (N := some 68) (bt 8 127) rfl rfl (one_of HT_.out (by kernel_rfl)) (by decide) (fun K hK => ?_)
        refine box_step ?hg (N := 68) ?hd (cs := #[.slice A0_0 l0_0.length c0_0, .int .i64 a0_1, .slice A0_2 l0_2.length c0_2, .slice Ao41 y175.length co41, .int .i64 0, .slice none 0 0, .bool false]) (t := 100) ?hr ?_; (case hd => rfl); (case hg => rfl); (case hr => first | (go_simp; done) | (go_simp; rfl))
        intro gb178 hg w42 hbox hb
        have n4_ := mk0 (gz_ HB hg)
        have n5_ := mk0 (gz_ HB hg)
        have n6_ := mk0 (ne1_ BK164 hg)
        have n7_ := mk0 (ne2_ BK164 hg)
        replace HO177 := mk0 (Kd.R_below (r_ HO177) hb)
        replace BK164 := mk0 (u_ BK164 hb)
        replace HB := mk0 (bt_ (b_ HB) hb)
        have BK178 := mk0 (hbox)
        have GW178 := n4_
        have GE178 := n5_
        have NB164_178 := n6_
        have NB178_164 := n7_
        clear n4_ n5_ n6_ n7_ hb hbox hg
        refine hK.out _ _ ⟨bk_ BK164 0, bk_ BK164 1, bk_ BK164 2⟩ (fun hHeld => ?_)
        clear hK K
        refine norm_ (a' := ?_) ?_ ?_
        rotate_left
        ·show Act.put _ (some 68) _ = _
         simp only [z_]
         rfl
        refine pq_ HT_.out 7 6 (bt 8 255) (h := ?_)
        refine done_ (done_of HT_.out (by kernel_rfl)) ?_
        obtain ⟨hcz44_0, hcz44_1, hcz44_2, hfz44_0, hfz44_1, hfz44_2⟩ := c3_ BK164
        have hnb43 := NB164_178.out
        have hnc43 := NB178_164.out
        go_wp2_with (first | ((with_reducible refine gate_callee (f := 56) rfl ?_); refine gL_ (some 72) Tryd.func56 #[.pointer (some ⟨gb178, 0, none⟩), .int .i64 a0_1, .string (⟨#[]⟩ : ByteArray), .string (⟨#[]⟩ : ByteArray), .bool true, .int .i64 1] (h := ?_); (with_reducible refine (quorumref6_walk_node.calls w gb178 A0_0 c0_0 l0_0 a0_1 A0_2 c0_2 l0_2 HR0_0.out HC0_0.out HR0_2.out HC0_2.out GE178 k1 _ Ao41 co41 y175 0 none 0 ([] : List (S41)) false a0_1 _ _ true 1 y182 q1_ t179 q3_ ?nd1 ?nd2 ?nd3 ?nd4 ?nd5).mono ?_); (case nd1 => exact ⟨r_ HO177⟩); (case nd2 => exact ⟨Kd.R_nil _ _ _ _ _⟩); (case nd3 => exact ⟨h_ BK178⟩); (case nd4 => exact ⟨b_ HB⟩); (case nd5 => exact AN.out); rintro e w46 ⟨rfl, v3_, h3_, v5_, h5_, hbk_, hfr_, hB_⟩; refine ⟨_, rfl, ?_⟩; have HE1 := mk0 h3_; have HE2 := mk0 h5_; have HE3 := mk0 hbk_; have HE4 := mk0 (hfr_.keep gb164 25 _ NB164_178.out (by decide) (by decide) (h_ BK164)); have HE5 := mk0 hB_; clear h3_ h5_ hbk_ hfr_ hB_; clear HO177 BK178 BK164 HB; obtain ⟨Ao48, co48, es_⟩ := Kd.R_slice HE1.out; subst es_; obtain ⟨Ao47, co47, er_⟩ := Kd.R_slice HE2.out; subst er_; have BK164 := HE4; have BK178 := HE3; have HB := HE5; clear HE3 HE4 HE5; obtain ⟨hcz45_0, hcz45_1, hcz45_2, hcz45_3, hcz45_4, hcz45_5, hcz45_6, hfz45_0, hfz45_1, hfz45_2, hfz45_3, hfz45_4, hfz45_5, hfz45_6⟩ := c7_ BK178))
        go_loopg [7] k1 (fun kq v7 w' => ∃ (x7_2 : Int) (x179006_2 : Bool), v7 = .int .i64 x7_2 ∧ Fc (quorumref6_Tree.l1 kq x7_2 l0_0 a0_1 l0_2 l0_0 a0_1 l0_2 y182 q1_ t179 x179006_2 = some (r1, r2, r3)) ∧ Fc (kq ≤ k1) ∧ Fc (Kd.R Kd.bool 4 w' w.heap.size (fun _ => True) (.slice Ao48 y182.length co48) y182) ∧ Fc (Kd.R k41 41 w' w.heap.size (fun _ => True) (.slice Ao47 t179.length co47) t179) ∧ Fc (w'.heap[gb164]? = some (.cells #[(.slice A0_0 l0_0.length c0_0), .int .i64 a0_1, (.slice A0_2 l0_2.length c0_2)] 25 (0, 0))) ∧ Fc (w'.heap[gb178]? = some (.cells #[(.slice A0_0 l0_0.length c0_0), .int .i64 a0_1, (.slice A0_2 l0_2.length c0_2), (.slice Ao48 y182.length co48), .int .i64 q1_, (.slice Ao47 t179.length co47), .bool x179006_2] 100 (0, 0))) ∧ Fc (Below w.heap.size w w'))
        case atStart => exact ⟨0, q3_, rfl, H', ⟨Nat.le_refl _⟩, HE1, HE2, BK164, BK178, HB⟩
        case round =>
         clear H'
         try clear p1
         try clear c2
         try clear c7
         try clear c7b0
         try clear c10
         try clear c12
         try clear c17
         try clear c24
         try clear c25
         try clear c30
         try clear c31
         try clear c31b0
         try clear c31b1
         try clear c32
         try clear c32b0
         try clear c32b1
         try clear c34
         try clear c34b0
         try clear c35
         try clear c35b0
         try clear p36
         try clear q36
         try clear hcz37_0
         try clear hcz37_1
         try clear hcz37_2
         try clear hcz44_0
         try clear hcz44_1
         try clear hcz44_2
         try clear hcz45_0
         try clear hcz45_1
         try clear hcz45_2
         try clear hcz45_3
         try clear hcz45_4
         try clear hcz45_5
         try clear hcz45_6
         try clear hcz48_0
         try clear hcz48_1
         try clear hcz48_2
         try clear hcz48_3
         try clear hcz48_4
         try clear hcz48_5
         try clear hcz48_6
         try clear hcz50_0
         try clear hcz50_1
         try clear hcz50_2
         try clear hcz50_3
         try clear hcz50_4
         try clear hcz50_5
         try clear hcz50_6
         try clear hcz52_0
         try clear hcz52_1
         try clear hcz52_2
         try clear hcz52_3
         try clear hcz52_4
         try clear hcz52_5
         try clear hcz52_6
         try clear hfz37_0
         try clear hfz37_1
         try clear hfz37_2
         try clear hfz44_0
         try clear hfz44_1
         try clear hfz44_2
         try clear hfz45_0
         try clear hfz45_1
         try clear hfz45_2
         try clear hfz45_3
         try clear hfz45_4
         try clear hfz45_5
         try clear hfz45_6
         try clear hfz48_0
         try clear hfz48_1
         try clear hfz48_2
         try clear hfz48_3
         try clear hfz48_4
         try clear hfz48_5
         try clear hfz48_6
         try clear hfz50_0
         try clear hfz50_1
         try clear hfz50_2
         try clear hfz50_3
         try clear hfz50_4
         try clear hfz50_5
         try clear hfz50_6
         try clear hfz52_0
         try clear hfz52_1
         try clear hfz52_2
         try clear hfz52_3
         try clear hfz52_4
         try clear hfz52_5
         try clear hfz52_6
         try clear hx165_0
         try clear hx36_0
         try clear p1
         try clear p165
         try clear p36
         try clear q165
         try clear q36
         obtain ⟨x7_2, x179006_2, rfl, HA, HK2, HO_179003, HO_179005, BK164, BK178, HB⟩ := hrel
         have hl179003_2 := (Kd.R_reads' HO_179003.out).1
         rw [hl179003_2] at HO_179003
         (try simp only [hl179003_2])
         (try simp only [hl179003_2] at BK164)
         (try simp only [hl179003_2] at BK178)
         (try simp only [hl179003_2] at HO_179005)
         cases gk with
         | zero => exact absurd HA.out (by simp [quorumref6_Tree.l1])
         | succ k2 =>
          have H := HA.out
          clear HA
          simp only [quorumref6_Tree.l1] at H
          as_aux_lemma =>
           by_cases c55 : x7_2 < (y182.length : Int)
           ·rw [if_pos c55] at H
            have c55b0 : decide (x7_2 < (y182.length : Int)) = true := decide_eq_true c55
            clear c55
            have HC56 := mk0 H
            clear H
            have hnb57 := NB178_164.out
            have hnc57 := NB164_178.out
            obtain ⟨hcz58_0, hcz58_1, hcz58_2, hcz58_3, hcz58_4, hcz58_5, hcz58_6, hfz58_0, hfz58_1, hfz58_2, hfz58_3, hfz58_4, hfz58_5, hfz58_6⟩ := c7_ BK178
            go_upto_region 13 with (fail)
            go_cut [96] (fun v96 wc => ∃ (kq : Nat) (x96_55 : Bool), v96 = .bool x96_55 ∧ Fc (quorumref6_Tree.j3 kq x7_2 x96_55 l0_0 a0_1 l0_2 l0_0 a0_1 l0_2 y182 q1_ t179 x179006_2 = some (r1, r2, r3)) ∧ Fc (kq ≤ k2) ∧ Fc (Kd.R Kd.bool 4 wc w.heap.size (fun _ => True) (.slice Ao48 y182.length co48) y182) ∧ Fc (Kd.R k41 41 wc w.heap.size (fun _ => True) (.slice Ao47 t179.length co47) t179) ∧ Fc (wc.heap[gb164]? = some (.cells #[(.slice A0_0 l0_0.length c0_0), .int .i64 a0_1, (.slice A0_2 l0_2.length c0_2)] 25 (0, 0))) ∧ Fc (wc.heap[gb178]? = some (.cells #[(.slice A0_0 l0_0.length c0_0), .int .i64 a0_1, (.slice A0_2 l0_2.length c0_2), (.slice Ao48 y182.length co48), .int .i64 q1_, (.slice Ao47 t179.length co47), .bool x179006_2] 100 (0, 0))) ∧ Fc (Below w.heap.size w wc))
            case first =>
             have H := HC56.out
             clear HC56
             by_cases c59 : 0 ≤ x7_2
             ·rw [if_pos c59] at H
              have c59b0 : decide (0 ≤ x7_2) = true := decide_eq_true c59
              clear c59
              (first | rw [c59b0] | (simp only [i64_w, i32_w]; rw [c59b0]) | skip)
              obtain ⟨bq60, hbq60⟩ : ∃ b_ : Bool, b_ = (rdOf false y182 x7_2) := ⟨_, rfl⟩
              replace H : (if bq60 = true then (quorumref6_Tree.j3 k2 x7_2 false l0_0 a0_1 l0_2 l0_0 a0_1 l0_2 y182 q1_ t179 x179006_2) else ((quorumref0_In.f k2 l0_2 x7_2).bind fun t184 => (quorumref6_Tree.j3 k2 x7_2 (decide (t184 < 0)) l0_0 a0_1 l0_2 l0_0 a0_1 l0_2 y182 q1_ t179 x179006_2))) = some (r1, r2, r3) := by rw [← hbq60] at H; exact H
              have Nbq60 := mk0 hbq60
              clear hbq60
              by_cases c61 : bq60 = true
              ·subst c61
               rw [if_pos rfl] at H
               have H' := mk0 H
               clear H
               have hnb62 := NB178_164.out
               have hnc62 := NB164_178.out
               obtain ⟨hcz63_0, hcz63_1, hcz63_2, hcz63_3, hcz63_4, hcz63_5, hcz63_6, hfz63_0, hfz63_1, hfz63_2, hfz63_3, hfz63_4, hfz63_5, hfz63_6⟩ := c7_ BK178
               have p183 : 0 ≤ (x7_2 : Int) := of_decide_eq_true (by first | (with_reducible assumption) | assumption)
               have q183 : x7_2 < (y182.length : Int) := of_decide_eq_true (by first | (with_reducible assumption) | assumption)
               (try (obtain ⟨Aq_, cq_, eq_⟩ := Kd.R_slice HO_179003.out; subst eq_))
               obtain ⟨ad183, e183, hx183_0⟩ := Kd.at_bool (Kd.R_reads' HO_179003.out).2.2 x7_2 p183 q183
               (try rw [← Nbq60.out] at hx183_0)
               cases e183
               replace p183 := eq_true p183
               replace q183 := eq_true q183
               go_wp2
               go_meet
               case rel => exact ⟨_, (false), (by first | rfl | (simp; done) | (simp [*]; done)), H', ⟨by have := HK1.out; have := HK2.out; first | omega | exact Nat.le_refl _⟩, ⟨by (try simp only [hl179003_2]); (with_reducible repeat (first | apply Ra_ | apply Rn_ | apply Rd_)); exact HO_179003.out⟩, ⟨by (try simp only [hl179003_2]); (with_reducible repeat (first | apply Ra_ | apply Rn_ | apply Rd_)); exact HO_179005.out⟩, ⟨by (try simp only [hl179003_2]); (with_reducible repeat (first | refine bN_ ?_ _ | refine bD_ ?_ | refine bA_ ?_ _)); exact BK164.out⟩, ⟨by (try simp only [hl179003_2]); (with_reducible repeat (first | refine bN_ ?_ _ | refine bD_ ?_ | refine bA_ ?_ _)); exact BK178.out⟩, ⟨b_ HB⟩⟩
              ·replace c61 := Bool.eq_false_iff.mpr c61
               subst c61
               rw [if_neg (show ¬ (false = true) by decide)] at H
               replace H := Option.bind_eq_some_iff.mp H
               obtain ⟨t184, A640, H⟩ := H
               try dsimp only at H
               have A64 := mk0 A640
               clear A640
               have H' := mk0 H
               clear H
               have hnb65 := NB178_164.out
               have hnc65 := NB164_178.out
               obtain ⟨hcz66_0, hcz66_1, hcz66_2, hcz66_3, hcz66_4, hcz66_5, hcz66_6, hfz66_0, hfz66_1, hfz66_2, hfz66_3, hfz66_4, hfz66_5, hfz66_6⟩ := c7_ BK178
               have p183 : 0 ≤ (x7_2 : Int) := of_decide_eq_true (by first | (with_reducible assumption) | assumption)
               have q183 : x7_2 < (y182.length : Int) := of_decide_eq_true (by first | (with_reducible assumption) | assumption)
               (try (obtain ⟨Aq_, cq_, eq_⟩ := Kd.R_slice HO_179003.out; subst eq_))
               obtain ⟨ad183, e183, hx183_0⟩ := Kd.at_bool (Kd.R_reads' HO_179003.out).2.2 x7_2 p183 q183
               (try rw [← Nbq60.out] at hx183_0)
               cases e183
               replace p183 := eq_true p183
               replace q183 := eq_true q183
               obtain ⟨hcz67_0, hcz67_1, hcz67_2, hfz67_0, hfz67_1, hfz67_2⟩ := c3_ BK164
               go_wp2_with (first | (go_at_call 57; (with_reducible refine (quorumref0_In.calls k2 _ _ l0_2 x7_2 t184 _ ?side1 ?side2 A64.out).mono ?_); (case side1 => exact cb_ HR0_2 HB); (case side2 => exact HC0_2.out); rintro e w' ⟨rfl, ⟨nd, rfl⟩⟩))
               go_meet
               case rel => exact ⟨_, (decide (t184 < 0)), (by first | rfl | (simp; done) | (simp [*]; done)), H', ⟨by have := HK1.out; have := HK2.out; first | omega | exact Nat.le_refl _⟩, ⟨by (try simp only [hl179003_2]); (with_reducible repeat (first | apply Ra_ | apply Rn_ | apply Rd_)); exact HO_179003.out⟩, ⟨by (try simp only [hl179003_2]); (with_reducible repeat (first | apply Ra_ | apply Rn_ | apply Rd_)); exact HO_179005.out⟩, ⟨by (try simp only [hl179003_2]); (with_reducible repeat (first | refine bN_ ?_ _ | refine bD_ ?_ | refine bA_ ?_ _)); exact BK164.out⟩, ⟨by (try simp only [hl179003_2]); (with_reducible repeat (first | refine bN_ ?_ _ | refine bD_ ?_ | refine bA_ ?_ _)); exact BK178.out⟩, ⟨b_ HB⟩⟩
             ·rw [if_neg c59] at H
              exact absurd H (by simp)
            case rest =>
             clear HC56
             try clear p1
             try clear c2
             try clear c7
             try clear c7b0
             try clear c10
             try clear c12
             try clear c17
             try clear c24
             try clear c25
             try clear c30
             try clear c31
             try clear c31b0
             try clear c31b1
             try clear c32
             try clear c32b0
             try clear c32b1
             try clear c34
             try clear c34b0
             try clear c35
             try clear c35b0
             try clear p36
             try clear q36
             try clear c55
             try clear c55b0
             try clear c59
             try clear c59b0
             try clear c61
             try clear hcz37_0
             try clear hcz37_1
             try clear hcz37_2
             try clear hcz44_0
             try clear hcz44_1
             try clear hcz44_2
             try clear hcz45_0
             try clear hcz45_1
             try clear hcz45_2
             try clear hcz45_3
             try clear hcz45_4
             try clear hcz45_5
             try clear hcz45_6
             try clear hcz48_0
             try clear hcz48_1
             try clear hcz48_2
             try clear hcz48_3
             try clear hcz48_4
             try clear hcz48_5
             try clear hcz48_6
             try clear hcz50_0
             try clear hcz50_1
             try clear hcz50_2
             try clear hcz50_3
             try clear hcz50_4
             try clear hcz50_5
             try clear hcz50_6
             try clear hcz52_0
             try clear hcz52_1
             try clear hcz52_2
             try clear hcz52_3
             try clear hcz52_4
             try clear hcz52_5
             try clear hcz52_6
             try clear hcz58_0
             try clear hcz58_1
             try clear hcz58_2
             try clear hcz58_3
             try clear hcz58_4
             try clear hcz58_5
             try clear hcz58_6
             try clear hcz63_0
             try clear hcz63_1
             try clear hcz63_2
             try clear hcz63_3
             try clear hcz63_4
             try clear hcz63_5
             try clear hcz63_6
             try clear hcz66_0
             try clear hcz66_1
             try clear hcz66_2
             try clear hcz66_3
             try clear hcz66_4
             try clear hcz66_5
             try clear hcz66_6
             try clear hcz67_0
             try clear hcz67_1
             try clear hcz67_2
             try clear hfz37_0
             try clear hfz37_1
             try clear hfz37_2
             try clear hfz44_0
             try clear hfz44_1
             try clear hfz44_2
             try clear hfz45_0
             try clear hfz45_1
             try clear hfz45_2
             try clear hfz45_3
             try clear hfz45_4
             try clear hfz45_5
             try clear hfz45_6
             try clear hfz48_0
             try clear hfz48_1
             try clear hfz48_2
             try clear hfz48_3
             try clear hfz48_4
             try clear hfz48_5
             try clear hfz48_6
             try clear hfz50_0
             try clear hfz50_1
             try clear hfz50_2
             try clear hfz50_3
             try clear hfz50_4
             try clear hfz50_5
             try clear hfz50_6
             try clear hfz52_0
             try clear hfz52_1
             try clear hfz52_2
             try clear hfz52_3
             try clear hfz52_4
             try clear hfz52_5
             try clear hfz52_6
             try clear hfz58_0
             try clear hfz58_1
             try clear hfz58_2
             try clear hfz58_3
             try clear hfz58_4
             try clear hfz58_5
             try clear hfz58_6
             try clear hfz63_0
             try clear hfz63_1
             try clear hfz63_2
             try clear hfz63_3
             try clear hfz63_4
             try clear hfz63_5
             try clear hfz63_6
             try clear hfz66_0
             try clear hfz66_1
             try clear hfz66_2
             try clear hfz66_3
             try clear hfz66_4
             try clear hfz66_5
             try clear hfz66_6
             try clear hfz67_0
             try clear hfz67_1
             try clear hfz67_2
             try clear hx165_0
             try clear hx183_0
             try clear hx36_0
             try clear p1
             try clear p165
             try clear p183
             try clear p36
             try clear q165
             try clear q183
             try clear q36
             obtain ⟨kq, x96_55, rfl, HA, HJ55, HO_179003, HO_179005, BK164, BK178, HB⟩ := hcut
             cases kq with
             | zero => exact absurd HA.out (by simp [quorumref6_Tree.j3])
             | succ kj55 =>
              have H := HA.out
              clear HA
              simp only [quorumref6_Tree.j3] at H
              as_aux_lemma =>
               by_cases c68 : x96_55 = true
               ·subst c68
                rw [if_pos rfl] at H
                have H' := mk0 H
                clear H
                have hnb69 := NB178_164.out
                have hnc69 := NB164_178.out
                obtain ⟨hcz70_0, hcz70_1, hcz70_2, hcz70_3, hcz70_4, hcz70_5, hcz70_6, hfz70_0, hfz70_1, hfz70_2, hfz70_3, hfz70_4, hfz70_5, hfz70_6⟩ := c7_ BK178
                go_wp2
                (try simp only [← hl179003_2])
                go_roundg kj55
                case measure => have := HK1.out; have := HK2.out; have := HJ55.out; omega
                case rel => exact ⟨(wrap64 (x7_2 + 1)), (true), (by first | rfl | (simp; done) | (simp [*]; done)), H', ⟨by have := HK1.out; have := HK2.out; have := HJ55.out; omega⟩, ⟨by (try simp only [hl179003_2]); (with_reducible repeat (first | apply Ra_ | apply Rn_ | apply Rd_)); exact Kd.R_mono (Kd.R_far (p := ⟨gb178, 6, none⟩) (Kd.R_types HO_179003.out BK178.out (by decide)) (fun _ hk => hk.2) (.bool true)) (fun _ hk => trivial)⟩, ⟨by (try simp only [hl179003_2]); (with_reducible repeat (first | apply Ra_ | apply Rn_ | apply Rd_)); exact Kd.R_mono (Kd.R_far (p := ⟨gb178, 6, none⟩) (Kd.R_types HO_179005.out BK178.out (by decide)) (fun _ hk => hk.2) (.bool true)) (fun _ hk => trivial)⟩, ⟨by (try simp only [hl179003_2]); (with_reducible repeat (first | refine bN_ ?_ _ | refine bD_ ?_ | refine bA_ ?_ _)); refine blk_far ?_ NB164_178.out _; (with_reducible repeat (first | refine bN_ ?_ _ | refine bD_ ?_ | refine bA_ ?_ _)); exact BK164.out⟩, ⟨by (try simp only [hl179003_2]); (with_reducible repeat (first | refine bN_ ?_ _ | refine bD_ ?_ | refine bA_ ?_ _)); refine blk_put (cs := #[.slice A0_0 l0_0.length c0_0, .int .i64 a0_1, .slice A0_2 l0_2.length c0_2, .slice _ y182.length co48, .int .i64 q1_, .slice Ao47 t179.length co47, .bool x179006_2]) ?_ 6 _ rfl; (with_reducible repeat (first | refine bN_ ?_ _ | refine bD_ ?_ | refine bA_ ?_ _)); exact BK178.out⟩, ⟨b_ HB⟩⟩
               ·replace c68 := Bool.eq_false_iff.mpr c68
                subst c68
                rw [if_neg (show ¬ (false = true) by decide)] at H
                have H' := mk0 H
                clear H
                go_wp2
                (try simp only [← hl179003_2])
                go_roundg kj55
                case measure => have := HK1.out; have := HK2.out; have := HJ55.out; omega
                case rel => exact ⟨(wrap64 (x7_2 + 1)), (x179006_2), (by first | rfl | (simp; done) | (simp [*]; done)), H', ⟨by have := HK1.out; have := HK2.out; have := HJ55.out; omega⟩, ⟨by (try simp only [hl179003_2]); (with_reducible repeat (first | apply Ra_ | apply Rn_ | apply Rd_)); exact HO_179003.out⟩, ⟨by (try simp only [hl179003_2]); (with_reducible repeat (first | apply Ra_ | apply Rn_ | apply Rd_)); exact HO_179005.out⟩, ⟨by (try simp only [hl179003_2]); (with_reducible repeat (first | refine bN_ ?_ _ | refine bD_ ?_ | refine bA_ ?_ _)); exact BK164.out⟩, ⟨by (try simp only [hl179003_2]); (with_reducible repeat (first | refine bN_ ?_ _ | refine bD_ ?_ | refine bA_ ?_ _)); exact BK178.out⟩, ⟨b_ HB⟩⟩
           ·rw [if_neg c55] at H
            have c55b0 : decide (x7_2 < (y182.length : Int)) = false := decide_eq_false c55
            clear c55
            by_cases c71 : x179006_2 = true
            ·subst c71
             rw [if_pos rfl] at H
             simp only [Option.some.injEq, Prod.mk.injEq] at H
             obtain ⟨rfl, rfl, rfl⟩ := H
             have hnb72 := NB178_164.out
             have hnc72 := NB164_178.out
             obtain ⟨hcz73_0, hcz73_1, hcz73_2, hcz73_3, hcz73_4, hcz73_5, hcz73_6, hfz73_0, hfz73_1, hfz73_2, hfz73_3, hfz73_4, hfz73_5, hfz73_6⟩ := c7_ BK178
             go_wp2
             go_ret3
             exact ⟨_, by first | rfl | (simp [errW_none, errW_some] <;> rfl) | (simp [*, errW_none, errW_some] <;> rfl), by first | exact Kd.R_nil _ _ _ _ _ | exact Kd.N_nil _ _ _ _ _ | exact Kd.V_nil _ _ _ _ _ | exact Kd.Q_nil _ _ _ _ _ | exact Kd.S_nil _ _ _ _ _, b_ HB⟩
            ·replace c71 := Bool.eq_false_iff.mpr c71
             subst c71
             rw [if_neg (show ¬ (false = true) by decide)] at H
             simp only [Option.some.injEq, Prod.mk.injEq] at H
             obtain ⟨rfl, rfl, rfl⟩ := H
             have hnb74 := NB178_164.out
             have hnc74 := NB164_178.out
             obtain ⟨hcz75_0, hcz75_1, hcz75_2, hcz75_3, hcz75_4, hcz75_5, hcz75_6, hfz75_0, hfz75_1, hfz75_2, hfz75_3, hfz75_4, hfz75_5, hfz75_6⟩ := c7_ BK178
             try go_wp2
             have hs1_0 : wr.cell? ⟨gb178, 0, none⟩ = some (.slice A0_0 l0_0.length c0_0) := bk_ BK178 0
             have hs1_1 : wr.cell? ⟨gb178, 1, none⟩ = some (.int .i64 a0_1) := bk_ BK178 1
             have hs1_2 : wr.cell? ⟨gb178, 2, none⟩ = some (.slice A0_2 l0_2.length c0_2) := bk_ BK178 2
             have hs1_3 : wr.cell? ⟨gb178, 3, none⟩ = some (.slice Ao48 y182.length co48) := bk_ BK178 3
             have hs1_4 : wr.cell? ⟨gb178, 4, none⟩ = some (.int .i64 q1_) := bk_ BK178 4
             have hs1_5 : wr.cell? ⟨gb178, 5, none⟩ = some (.slice Ao47 t179.length co47) := bk_ BK178 5
             have hs1_6 : wr.cell? ⟨gb178, 6, none⟩ = some (.bool false) := bk_ BK178 6
             go_quiet (fail)
             clear hs1_0 hs1_1 hs1_2 hs1_3 hs1_4 hs1_5 hs1_6
             generalize hq_ : World.drewN wr _ = w76
             replace HO_179003 := mk0 (Kd.R_at hq_ HO_179003.out)
             replace HO_179005 := mk0 (Kd.R_at hq_ HO_179005.out)
             replace BK164 := mk0 (blk_at hq_ BK164.out)
             replace BK178 := mk0 (blk_at hq_ BK178.out)
             replace HB := mk0 (below_at hq_ HB.out)
             clear hq_
             try go_wp2
             go_ret3
             exact ⟨_, by first | rfl | (simp [errW_none, errW_some] <;> rfl) | (simp [*, errW_none, errW_some] <;> rfl), by (with_reducible repeat (first | apply Ra_ | apply Rn_ | apply Rd_)); exact HO_179005.out, b_ HB⟩
       ·rw [if_neg c32] at H
        exact absurd H (by simp)
      ·rw [if_neg c31] at H
       exact absurd H (by simp)

end Go.Proofs.YtkmkppchhdkipaaDoor.HRef
/- quorumref6.Tree of a tree that may be (its numbers below 100): its rows, how deep it is. -/
namespace Go.Proofs.YtkmkppchhdkipaaDoor.HRef
open Go.Lib Go.RowKit Go.Proofs.YtkmkppchhdkipaaDoorW.PrintWords Go.Proofs.YtkmkppchhdkipaaDoorW.PrintLast Go.Proofs.YtkmkppchhdkipaaDoorW.PrintMore Go.Proofs.YtkmkppchhdkipaaDoor.PTr Go.Proofs Go.Proofs.YtkmkppchhdkipaaDoor.HTree Go.Proofs.YtkmkppchhdkipaaDoor.HNum
set_option linter.unusedSimpArgs false
set_option linter.unusedVariables false
def SL (n : Nat) (V : List Nat) : List Bool := (List.range n).map (fun j => decide (j ∈ V))
theorem SL_len (n : Nat) (V : List Nat) : (SL n V).length = n := by simp [SL]
theorem SL_get {n : Nat} {V : List Nat} {j : Nat} (h : j < n) : rdOf false (SL n V) (j : Int) = decide (j ∈ V) := by simp [rdOf, SL, List.getD_eq_getElem?_getD, h]
theorem SL_congr {n : Nat} {V V' : List Nat} (h : ∀ j, j ∈ V ↔ j ∈ V') : SL n V = SL n V' := by
  unfold SL; apply List.map_congr_left; intro j _; simp [h]
theorem SL_set {n : Nat} {V : List Nat} {j : Nat} (h : j < n) : (SL n V).set ((j : Int)).toNat true = SL n (j :: V) := by
  rw [Int.toNat_natCast]
  apply List.ext_getElem
  · simp [SL]
  · intro i h1 h2
    simp only [SL, List.length_set, List.length_map, List.length_range] at h1
    simp only [SL, List.getElem_set, List.getElem_map, List.getElem_range, List.mem_cons]
    by_cases e : j = i
    · subst e; simp
    · simp [e, Ne.symm e]
theorem rowsOf_append (a b : List SP) : rowsOf (a ++ b) = rowsOf a ++ rowsOf b := by simp [rowsOf]
theorem rowsOf_len (a : List SP) : (rowsOf a).length = a.length := by simp [rowsOf]
theorem rdOf_at (d : ByteArray) (l : List ByteArray) (i : Nat) (h : i < l.length) : rdOf d l (i : Int) = l[i] := by simp [rdOf, List.getD_eq_getElem?_getD, h]
theorem num_ok (a b : Int) (h : 0 ≤ a ∧ a ≤ b) : quorumref0_Num.f a b = some true := by
  unfold quorumref0_Num.f; rw [if_pos h.1, decide_eq_true h.2]
theorem key_ok (k : ByteArray) (h : isKey k) : quorumref1_Key.f k = some true := by
  unfold quorumref1_Key.f quorumref0_Between.f
  rw [if_pos (by have := h.1; omega), Option.bind_some, decide_eq_true (by have := h.2; omega)]
theorem itoa_ok (n : Int) (h : 0 ≤ n ∧ n < 100) : strconv_Itoa_85.f n = some (⟨(decDigits n.toNat).toArray⟩ : ByteArray) := by
  unfold strconv_Itoa_85.f; rw [if_pos h]
/-- The rows of a leaf. -/
theorem leaf_from (N : List SN) (root : Int) (fr : List Int) (S : List Bool) (dp : Int) (b lf : Bool) (rs R : List SP) (T : List S41) (hk : ∀ p ∈ rs, isKey p.f0 ∧ 0 ≤ p.f1 ∧ p.f1 < 100) (h4 : rs.length ≤ 4) (hT : T.length ≤ 1000000) (d : Nat) : ∀ i, i + d = rs.length →
    Ev (fun k => quorumref6_walk_leaf.l0 k (i : Int) N root fr S dp (T ++ rowsOf (rs.take i)) b (rs.map (·.f0)) (rs.map (·.f1)) [] lf) (dp, T ++ rowsOf rs, b) := by
  induction d with
  | zero =>
    intro i hid
    obtain rfl : i = rs.length := by omega
    exact Ev.step (fun k => by rw [quorumref6_walk_leaf.l0, if_neg (by rw [List.length_map]; omega)]) (Ev.const (by rw [List.take_length]))
  | succ d ih =>
    intro i hid
    have hi : i < rs.length := by omega
    obtain ⟨g1, g2, g3⟩ := hk rs[i] (List.getElem_mem hi)
    have e1 : rdOf ByteArray.empty (rs.map (·.f0)) (i : Int) = rs[i].f0 := by rw [rdOf_at _ _ _ (by rw [List.length_map]; exact hi), List.getElem_map]
    have e2 : rd (rs.map (·.f1)) (i : Int) = rs[i].f1 := by simp [rd, List.getD_eq_getElem?_getD, hi]
    have hs1 : ∀ k, quorumref6_walk_leaf.l0 (k + 1) (i : Int) N root fr S dp (T ++ rowsOf (rs.take i)) b (rs.map (·.f0)) (rs.map (·.f1)) [] lf = quorumref6_walk_leaf.j3 k (i : Int) false N root fr S dp (T ++ rowsOf (rs.take i)) b (rs.map (·.f0)) (rs.map (·.f1)) [] lf := by
      intro k
      rw [quorumref6_walk_leaf.l0, if_pos (by rw [List.length_map]; omega), if_pos (by omega), e1, key_ok _ g1, Option.bind_some, if_pos rfl, if_pos (by rw [List.length_map]; omega), e2, num_ok _ _ ⟨g2, by omega⟩, Option.bind_some]; rfl
    have hs2 : ∀ k, quorumref6_walk_leaf.j3 (k + 1) (i : Int) false N root fr S dp (T ++ rowsOf (rs.take i)) b (rs.map (·.f0)) (rs.map (·.f1)) [] lf = quorumref6_walk_leaf.l0 k ((i + 1 : Nat) : Int) N root fr S dp (T ++ rowsOf (rs.take (i + 1))) b (rs.map (·.f0)) (rs.map (·.f1)) [] lf := by
      intro k
      rw [quorumref6_walk_leaf.j3, if_neg (by decide), if_pos (by omega), if_pos (by rw [List.length_map]; omega), if_pos (by rw [List.length_map]; omega), e2, itoa_ok _ ⟨g2, g3⟩, Option.bind_some, if_pos (by rw [List.length_append, rowsOf_len, List.length_take]; omega), e1, wrap_succ i (by omega)]
      rw [List.take_succ_eq_append_getElem hi, rowsOf_append, List.append_assoc]
      rfl
    exact Ev.step hs1 (Ev.step hs2 (ih (i + 1) (by omega)))
theorem leaf_ev (N : List SN) (root : Int) (fr : List Int) (S : List Bool) (dp deep : Nat) (b lf : Bool) (rs : List SP) (T : List S41) (hk : ∀ p ∈ rs, isKey p.f0 ∧ 0 ≤ p.f1 ∧ p.f1 < 100) (h4 : rs.length ≤ 4) (hT : T.length ≤ 1000000) (hd : dp = 0 ∨ dp = deep) :
    Ev (fun k => quorumref6_walk_leaf.f k N root fr S (dp : Int) T b (rs.map (·.f0)) (rs.map (·.f1)) [] lf (deep : Int)) ((deep : Int), T ++ rowsOf rs, b) := by
  have h0 := leaf_from N root fr S (deep : Int) b lf rs [] T hk h4 hT rs.length 0 (by omega)
  have e0 : T ++ rowsOf (rs.take 0) = T := by simp [rowsOf]
  rw [e0] at h0
  have hj1 : Ev (fun k => quorumref6_walk_leaf.j1 k false N root fr S (deep : Int) T b (rs.map (·.f0)) (rs.map (·.f1)) [] lf) ((deep : Int), T ++ rowsOf rs, b) := Ev.step (fun k => by rw [quorumref6_walk_leaf.j1, if_neg (by decide)]; rfl) h0
  have hj0 : Ev (fun k => quorumref6_walk_leaf.j0 k (deep : Int) N root fr S (deep : Int) T b (rs.map (·.f0)) (rs.map (·.f1)) [] lf) ((deep : Int), T ++ rowsOf rs, b) := Ev.step (fun k => by
    rw [quorumref6_walk_leaf.j0, if_pos rfl, if_neg (by simp)]
    rw [show (((rs.map (·.f1)).length : Int) != ((rs.map (·.f0)).length : Int)) = false from by simp]) hj1
  refine Ev.congr (fun k => ?_) hj0
  unfold quorumref6_walk_leaf.f
  by_cases h : dp = 0
  · rw [if_pos (by omega)]
  · rw [if_neg (by omega), show dp = deep from hd.resolve_left h]
theorem flat_le {α β : Type} : ∀ (rr : List (List α)) (vs : List (List β)), rr.length = vs.length → (∀ (i : Nat) (r : List α) (v : List β), rr[i]? = some r → vs[i]? = some v → r.length ≤ 4 * v.length) → rr.flatten.length ≤ 4 * vs.flatten.length
  | [], [], _, _ => by simp
  | [], _ :: _, h, _ => by simp at h
  | _ :: _, [], h, _ => by simp at h
  | r :: rr, v :: vs, h, hh => by
    have h1 := hh 0 r v rfl rfl
    have h2 := flat_le rr vs (by simpa using h) (fun i r' v' a b => hh (i + 1) r' v' (by simpa using a) (by simpa using b))
    simp only [List.flatten_cons, List.length_append]
    omega
theorem sub_len {N : List SN} : ∀ {h : Nat} {rt : Bool} {n : Nat} {lo hi : ByteArray} {top : Bool} {vis : List Nat} {rs : List SP}, Sub N h rt n lo hi top vis rs → rs.length ≤ 4 * vis.length
  | 0, _, _, _, _, _, _, _, h => h.elim
  | h + 1, _, _, _, _, _, _, _, ⟨x, hx, h1, h2, h3⟩ => by
    rcases h3 with ⟨_, rfl, _, rfl, e, _⟩ | ⟨_, _, _, ks, vs, rr, _, e1, e2, e3, rfl, rfl, hk⟩
    · have := h1.1
      rw [e, List.length_map] at this
      simpa using this
    · have := flat_le rr vs (by omega) (fun i r v a b => by
        have hi : i < ks.length := by have := (List.getElem?_eq_some_iff.1 b).1; omega
        exact sub_len (hk i _ v r (List.getElem?_eq_getElem hi) b a))
      simp only [List.length_cons]
      omega
/-- The keys of a node: what follows. -/
theorem keys_from (N : List SN) (root n deep : Int) (fr : List Int) (S : List Bool) (dp : Int) (T : List S41) (lo hi : ByteArray) (top : Bool) (x : SN) (hk : KeysOk x.f0 lo hi top) (r : List Bool × Int × List S41 × Bool)
    (ht : Ev (fun k => if x.f3 = true then ((quorumref6_walk_leaf.f k N root fr S dp T false x.f0 x.f1 x.f2 x.f3 deep).bind fun r => (some (S, r.1, r.2.1, r.2.2))) else (if (x.f1.length : Int) > 0 then (quorumref6_walk_node.j5 k n lo hi top deep true N root fr S dp T false x.f0 x.f1 x.f2 x.f3) else (if (x.f0.length : Int) = 0 then (quorumref6_walk_node.j5 k n lo hi top deep true N root fr S dp T false x.f0 x.f1 x.f2 x.f3) else (quorumref6_walk_node.j5 k n lo hi top deep ((x.f2.length : Int) != (wrap64 ((x.f0.length : Int) + 1))) N root fr S dp T false x.f0 x.f1 x.f2 x.f3)))) r) (d : Nat) : ∀ i, i + d = x.f0.length →
    Ev (fun k => quorumref6_walk_node.l0 k n lo hi top deep (i : Int) N root fr S dp T false x.f0 x.f1 x.f2 x.f3) r := by
  obtain ⟨h4, hp, hb⟩ := hk
  induction d with
  | zero =>
    intro i hid
    exact Ev.step (fun k => by rw [quorumref6_walk_node.l0, if_neg (by omega)]) ht
  | succ d ih =>
    intro i hid
    have hi2 : i < x.f0.length := by omega
    obtain ⟨b1, b2⟩ := hb x.f0[i] (List.getElem_mem hi2)
    have b1' : Op.bytesLess x.f0[i].toList lo.toList = false := b1
    have hj4 : Ev (fun k => quorumref6_walk_node.j4 k n lo hi top deep (i : Int) false N root fr S dp T false x.f0 x.f1 x.f2 x.f3) r := by
      refine Ev.step (fun k => ?_) (ih (i + 1) (by omega))
      rw [quorumref6_walk_node.j4, if_neg (by decide), wrap_succ i (by omega)]
    have hin : Ev (fun k => if (Op.bytesLess ((rdOf ByteArray.empty x.f0 (i : Int)).toList) lo.toList) = true then (quorumref6_walk_node.j4 k n lo hi top deep (i : Int) true N root fr S dp T false x.f0 x.f1 x.f2 x.f3) else (if top = true then (quorumref6_walk_node.j4 k n lo hi top deep (i : Int) false N root fr S dp T false x.f0 x.f1 x.f2 x.f3) else (quorumref6_walk_node.j4 k n lo hi top deep (i : Int) (!(Op.bytesLess ((rdOf ByteArray.empty x.f0 (i : Int)).toList) hi.toList)) N root fr S dp T false x.f0 x.f1 x.f2 x.f3))) r := by
      refine Ev.congr (fun k => ?_) hj4
      rw [rdOf_at _ _ _ hi2, b1', if_neg (by decide)]
      by_cases ht2 : top = true
      · rw [if_pos ht2]
      · have b2' : Op.bytesLess x.f0[i].toList hi.toList = true := b2.resolve_left ht2
        rw [if_neg ht2, b2']; rfl
    by_cases h0 : i = 0
    · subst h0
      refine Ev.step (fun k => ?_) hin
      rw [quorumref6_walk_node.l0, if_pos (by omega), if_neg (by decide), if_pos (by decide)]
    · refine Ev.step (fun k => ?_) hin
      have hp2 := (List.pairwise_iff_getElem.1 hp) (i - 1) i (by omega) hi2 (by omega)
      have hp3 : Op.bytesLess x.f0[i - 1].toList x.f0[i].toList = true := hp2
      rw [quorumref6_walk_node.l0, if_pos (by omega), if_pos (by omega), wrap_pred i (by omega) (by omega), if_pos (by omega), if_pos (by omega), if_pos (by omega)]
      rw [rdOf_at _ _ (i - 1) (by omega), rdOf_at _ _ i hi2, hp3, if_pos rfl]
theorem node_ev (N : List SN) (root : Int) (hN : N.length ≤ 1000) : ∀ h rt n lo hi top vis rs (deep dp : Nat) V (T : List S41), Sub N h rt n lo hi top vis rs → (deep ≠ 1 → rt = false) → vis.Nodup → (∀ j ∈ vis, j ∉ V) → (∀ p ∈ rs, p.f1 < 100) → T.length + rs.length ≤ 1000000 → (dp = 0 ∨ dp + 1 = deep + h) → 1 ≤ deep → deep + h ≤ 1000 →
    Ev (fun k => quorumref6_walk_node.f k N root [] (SL N.length V) (dp : Int) T false (n : Int) lo hi top (deep : Int)) (SL N.length (vis ++ V), ((deep + h - 1 : Nat) : Int), T ++ rowsOf rs, false) := by
  intro h
  induction h with
  | zero => intro rt n lo hi top vis rs deep dp V T hs; exact hs.elim
  | succ h ih =>
    intro rt n lo hi top vis rs deep dp V T hs hroot hnd hV h100 hT hdp hd1 hd2
    obtain ⟨x, hx, hkeys, hleast, hcase⟩ := hs
    have hn : n < N.length := (List.getElem?_eq_some_iff.1 hx).1
    have hnv : n ∈ vis := by rcases hcase with ⟨_, _, _, e, _⟩ | ⟨_, _, _, _, _, _, _, _, _, _, e, _⟩ <;> rw [e] <;> simp
    have hnV := hV n hnv
    have hrd : rd_T85 N (n : Int) = x := by simp [rd_T85, List.getD_eq_getElem?_getD, hx]
    have h4 := hkeys.1
    -- down to the keys
    have start : ∀ r, Ev (fun k => quorumref6_walk_node.l0 k (n : Int) lo hi top (deep : Int) 0 N root [] (SL N.length (n :: V)) (dp : Int) T false x.f0 x.f1 x.f2 x.f3) r → Ev (fun k => quorumref6_walk_node.f k N root [] (SL N.length V) (dp : Int) T false (n : Int) lo hi top (deep : Int)) r := by
      intro r hr
      have hj2 : Ev (fun k => quorumref6_walk_node.j2 k (n : Int) lo hi top (deep : Int) false N root [] (SL N.length (n :: V)) (dp : Int) T false x.f0 x.f1 x.f2 x.f3) r := Ev.step (fun k => by rw [quorumref6_walk_node.j2, if_neg (by decide)]) hr
      have hj1 : ∀ l : Int, (l = 0 ∨ (x.f0.length : Int) ≥ l) → Ev (fun k => quorumref6_walk_node.j1 k (n : Int) lo hi top (deep : Int) l N root [] (SL N.length (n :: V)) (dp : Int) T false x.f0 x.f1 x.f2 x.f3) r := fun l hl => Ev.step (fun k => by rw [quorumref6_walk_node.j1, if_neg (by omega), decide_eq_false (by omega)]) hj2
      have hj0 : Ev (fun k => quorumref6_walk_node.j0 k (n : Int) lo hi top (deep : Int) false N root [] (SL N.length V) (dp : Int) T false) r := by
        have hs : ∀ l : Int, l = (if (deep : Int) = 1 then 0 else 2) → ∀ k, quorumref6_walk_node.j0 (k + 1) (n : Int) lo hi top (deep : Int) false N root [] (SL N.length V) (dp : Int) T false = quorumref6_walk_node.j1 k (n : Int) lo hi top (deep : Int) l N root [] (SL N.length (n :: V)) (dp : Int) T false x.f0 x.f1 x.f2 x.f3 := by
          intro l hl k
          rw [quorumref6_walk_node.j0, if_neg (by decide), if_pos (by omega), if_pos (by rw [SL_len]; omega), SL_set hn, Option.bind_some, if_pos (by omega), hrd, hl]
          by_cases h1 : (deep : Int) = 1
          · rw [if_pos h1, if_pos h1]
          · rw [if_neg h1, if_neg h1]
        refine Ev.step (hs _ rfl) (hj1 _ ?_)
        by_cases h1 : (deep : Int) = 1
        · rw [if_pos h1]; exact .inl rfl
        · rw [if_neg h1]; exact .inr (by have := hleast (hroot (by omega)); omega)
      have hin : Ev (fun k => (quorumref0_In.f k ([] : List Int) (n : Int)).bind fun t138 => (quorumref6_walk_node.j0 k (n : Int) lo hi top (deep : Int) (decide (t138 ≥ 0)) N root [] (SL N.length V) (dp : Int) T false)) r := by
        refine Ev.bind (a := (-1 : Int)) (Ev.step (g := fun k => quorumref0_In.f k ([] : List Int) (n : Int)) (f := fun _ => some (-1)) (fun k => by unfold quorumref0_In.f; rw [quorumref0_In.l0, if_neg (by simp)]) (Ev.now _)) ?_
        rw [show decide ((-1 : Int) ≥ 0) = false from rfl]
        exact hj0
      refine Ev.step (fun k => ?_) hin
      rw [quorumref6_walk_node.f, if_neg (by decide), wrap_pred _ (by omega) (by omega), num_ok _ _ ⟨by omega, by omega⟩, Option.bind_some, if_pos rfl, if_pos (by omega), if_pos (by rw [SL_len]; omega), SL_get hn, decide_eq_false hnV, if_neg (by decide)]
    rcases hcase with ⟨g3, rfl, g2, gv, gk, gr, gp⟩ | ⟨g3, g1, g0, ks, vs, rr, gk, gl, glv, glr, gv, grs, gsub⟩
    · refine start _ (keys_from N root _ _ [] _ _ T lo hi top x hkeys _ ?_ x.f0.length 0 (by omega))
      have hl := leaf_ev N root [] (SL N.length (n :: V)) dp deep false x.f3 rs T (fun p hp => ⟨(gp p hp).1, (gp p hp).2.1, h100 p hp⟩) (by rw [gk, List.length_map] at h4; exact h4) (by omega) (by omega)
      refine Ev.congr (fun k => if_pos g3) ?_
      rw [g2, gk, gr, gv]
      have := Ev.bind (f := fun k (r : Int × List S41 × Bool) => some (SL N.length (n :: V), r.1, r.2.1, r.2.2)) hl (Ev.now _)
      exact this
    · refine start _ (keys_from N root _ _ [] _ _ T lo hi top x hkeys _ ?_ x.f0.length 0 (by omega))
      have hk5 : ks.length ≤ 5 := by omega
      have hlen2 : x.f2.length = x.f0.length + 1 := by rw [gk, List.length_map, gl]
      refine Ev.congr (fun k => by
        rw [if_neg (by rw [g3]; decide), if_neg (by rw [g1]; simp), if_neg (by have : x.f0.length ≠ 0 := fun e => g0 (List.eq_nil_of_length_eq_zero e); omega), wrap_succ _ (by omega), hlen2, bne_self_eq_false]) ?_
      have hapart := fun i (hi : i < vs.length) => HMay.kid_apart (n := n) (vs := vs) (by rw [← gv]; exact hnd) hi
      have loop : ∀ d i, i + d = ks.length → ∀ dq : Nat, ((i = 0 ∧ (dq = 0 ∨ dq + 1 = deep + (h + 1))) ∨ dq + 1 = deep + (h + 1)) → Ev (fun k => quorumref6_walk_node.l1 k (n : Int) lo hi top (deep : Int) (i : Int) N root [] (SL N.length (n :: (vs.take i).flatten ++ V)) (dq : Int) (T ++ rowsOf (rr.take i).flatten) false x.f0 x.f1 x.f2 x.f3) (SL N.length (vis ++ V), ((deep + (h + 1) - 1 : Nat) : Int), T ++ rowsOf rs, false) := by
        intro d
        induction d with
        | zero =>
          intro i hid dq hdq
          have hie : i = ks.length := by omega
          refine Ev.step (fun k => by rw [quorumref6_walk_node.l1, if_neg (by rw [hlen2]; omega)]) (Ev.const ?_)
          have e1 : vs.take i = vs := by rw [hie, ← glv, List.take_length]
          have e2 : rr.take i = rr := by rw [hie, ← glr, List.take_length]
          rw [e1, e2, ← grs, ← gv]
          congr 3
          omega
        | succ d ihd =>
          intro i hid dq hdq
          have hi2 : i < ks.length := by omega
          have hv2 : i < vs.length := by omega
          have hr2 : i < rr.length := by omega
          obtain ⟨a1, a2⟩ := hapart i hv2
          have hrk : rd x.f2 (i : Int) = ((ks[i] : Nat) : Int) := by rw [gk]; simp [rd, List.getD_eq_getElem?_getD, hi2]
          have hrr : rr[i].length ≤ rr.flatten.length := by
            have e : rr.flatten = (rr.take i).flatten ++ (rr[i] ++ (rr.drop (i + 1)).flatten) := by
              conv => lhs; rw [← List.take_append_drop i rr, List.flatten_append, List.drop_eq_getElem_cons hr2, List.flatten_cons]
            rw [e, List.length_append, List.length_append]; omega
          have hrt : (rr.take i).flatten.length + rr[i].length ≤ rr.flatten.length := by
            have e : rr.flatten = (rr.take i).flatten ++ (rr[i] ++ (rr.drop (i + 1)).flatten) := by
              conv => lhs; rw [← List.take_append_drop i rr, List.flatten_append, List.drop_eq_getElem_cons hr2, List.flatten_cons]
            rw [e, List.length_append, List.length_append]; omega
          have hnode := ih false ks[i] (lowAt x.f0 lo i) (highAt x.f0 hi i) (topAt x.f0 top i) vs[i] rr[i] (deep + 1) dq (n :: (vs.take i).flatten ++ V) (T ++ rowsOf (rr.take i).flatten) (gsub i _ _ _ (List.getElem?_eq_getElem hi2) (List.getElem?_eq_getElem hv2) (List.getElem?_eq_getElem hr2)) (fun _ => rfl) a1
            (fun j hj => by
              obtain ⟨b1, b2, b3⟩ := a2 j hj
              have b4 := hV j (by rw [gv]; exact List.mem_cons_of_mem _ b3)
              simp only [List.cons_append, List.mem_cons, List.mem_append, not_or]
              exact ⟨b1, b2, b4⟩)
            (fun p hp => h100 p (by rw [grs]; exact List.mem_flatten.2 ⟨_, List.getElem_mem hr2, hp⟩)) (by rw [List.length_append, rowsOf_len]; rw [grs] at hT; omega) (by rcases hdq with ⟨_, h1 | h1⟩ | h1 <;> omega) (by omega) (by omega)
          have hnext := ihd (i + 1) (by omega) (deep + h) (.inr (by omega))
          have e1 : SL N.length (vs[i] ++ (n :: (vs.take i).flatten ++ V)) = SL N.length (n :: (vs.take (i + 1)).flatten ++ V) := SL_congr (fun j => by
            rw [List.take_succ_eq_append_getElem hv2]
            simp only [List.flatten_append, List.flatten_cons, List.flatten_nil, List.append_nil, List.cons_append, List.mem_cons, List.mem_append]
            constructor
            · rintro (h | h | h | h) <;> simp [h]
            · rintro (h | (h | h) | h) <;> simp [h])
          have e2 : T ++ rowsOf (rr.take i).flatten ++ rowsOf rr[i] = T ++ rowsOf (rr.take (i + 1)).flatten := by
            rw [List.take_succ_eq_append_getElem hr2, List.flatten_append, List.flatten_cons, List.flatten_nil, List.append_nil, rowsOf_append, List.append_assoc]
          rw [e1, e2, show ((deep + 1 + h - 1 : Nat) : Int) = ((deep + h : Nat) : Int) from by omega] at hnode
          have hb := Ev.bind (f := fun k (r : List Bool × Int × List S41 × Bool) => quorumref6_walk_node.l1 k (n : Int) lo hi top (deep : Int) ((i + 1 : Nat) : Int) N root [] r.1 r.2.1 r.2.2.1 r.2.2.2 x.f0 x.f1 x.f2 x.f3) hnode hnext
          have hj8 : Ev (fun k => quorumref6_walk_node.j8 k (n : Int) lo hi top (deep : Int) (i : Int) (lowAt x.f0 lo i) (highAt x.f0 hi i) (topAt x.f0 top i) N root [] (SL N.length (n :: (vs.take i).flatten ++ V)) (dq : Int) (T ++ rowsOf (rr.take i).flatten) false x.f0 x.f1 x.f2 x.f3) (SL N.length (vis ++ V), ((deep + (h + 1) - 1 : Nat) : Int), T ++ rowsOf rs, false) := by
            refine Ev.step (fun k => ?_) hb
            rw [quorumref6_walk_node.j8, if_pos (by omega), if_pos (by rw [hlen2]; omega), hrk, wrap_succ i (by omega), wrap_succ deep (by omega)]
          have hj7 : Ev (fun k => quorumref6_walk_node.j7 k (n : Int) lo hi top (deep : Int) (i : Int) (lowAt x.f0 lo i) hi top N root [] (SL N.length (n :: (vs.take i).flatten ++ V)) (dq : Int) (T ++ rowsOf (rr.take i).flatten) false x.f0 x.f1 x.f2 x.f3) (SL N.length (vis ++ V), ((deep + (h + 1) - 1 : Nat) : Int), T ++ rowsOf rs, false) := by
            refine Ev.step (fun k => ?_) hj8
            rw [quorumref6_walk_node.j7]
            unfold highAt topAt
            by_cases hl : i < x.f0.length
            · rw [if_pos (by omega), if_pos (by omega), if_pos hl, if_pos hl, rdOf_at _ _ _ hl, List.getD_eq_getElem?_getD, List.getElem?_eq_getElem hl]; rfl
            · rw [if_neg (by omega), if_neg hl, if_neg hl]
          refine Ev.step (fun k => ?_) hj7
          rw [quorumref6_walk_node.l1, if_pos (by rw [hlen2]; omega)]
          unfold lowAt
          by_cases h0 : i = 0
          · subst h0
            rw [if_neg (by decide), if_pos rfl]
          · rw [if_pos (by omega), wrap_pred i (by omega) (by omega), if_pos (by omega), if_pos (by omega), if_neg h0, rdOf_at _ _ _ (show i - 1 < x.f0.length by omega), List.getD_eq_getElem?_getD, List.getElem?_eq_getElem (show i - 1 < x.f0.length by omega)]; rfl
      have hl0 := loop ks.length 0 (by omega) dp (.inl ⟨rfl, hdp⟩)
      rw [show n :: (vs.take 0).flatten ++ V = n :: V from by simp, show T ++ rowsOf (rr.take 0).flatten = T from by simp [rowsOf]] at hl0
      refine Ev.step (fun k => ?_) hl0
      rw [quorumref6_walk_node.j5, if_neg (by decide)]
      rfl
theorem seen_from (N : List SN) (root : Int) (rows : List S41) (dp : Int) (V : List Nat) (hV : ∀ j < N.length, j ∈ V) (hN : N.length ≤ 1000) (d : Nat) : ∀ i, i + d = N.length → Ev (fun k => quorumref6_Tree.l1 k (i : Int) N root [] N root [] (SL N.length V) dp rows false) (rows, dp, true) := by
  induction d with
  | zero =>
    intro i hid
    exact Ev.step (fun k => by rw [quorumref6_Tree.l1, if_neg (by rw [SL_len]; omega), if_neg (by decide)]) (Ev.now _)
  | succ d ih =>
    intro i hid
    have hi : i < N.length := by omega
    have hs : ∀ k, quorumref6_Tree.l1 (k + 1) (i : Int) N root [] N root [] (SL N.length V) dp rows false = quorumref6_Tree.j3 k (i : Int) false N root [] N root [] (SL N.length V) dp rows false := by
      intro k
      rw [quorumref6_Tree.l1, if_pos (by rw [SL_len]; omega), if_pos (by omega), SL_get hi, decide_eq_true (hV i hi), if_pos rfl]
    refine Ev.step hs (Ev.step (fun k => ?_) (ih (i + 1) (by omega)))
    rw [quorumref6_Tree.j3, if_neg (by decide), wrap_succ i (by omega)]
theorem Tree_ev {N : List SN} {r : Int} {fr : List Int} {l : List SP} {hh : Nat} (hv : Small N r fr l hh) : ∃ k, quorumref6_Tree.f k N r fr = some (rowsOf l, (hh : Int), true) := by
  obtain ⟨⟨rfl, h200, n, vis, rfl, hn, hsub, hperm⟩, h100⟩ := hv
  have hvl : vis.length = N.length := by rw [hperm.length_eq, List.length_range]
  have hh1 := HMay.sub_height hsub
  have hh0 : 1 ≤ hh := by cases hh with | zero => exact hsub.elim | succ h => omega
  have hlen := sub_len hsub
  have h0 : SL N.length [] = List.replicate (((N.length : Nat) : Int)).toNat false := by
    rw [Int.toNat_natCast]
    apply List.ext_getElem
    · simp [SL]
    · intro i a b; simp [SL]
  have hnode := node_ev N (n : Int) (by omega) hh true n ⟨#[]⟩ ⟨#[]⟩ true vis l 1 0 [] [] hsub (fun h => absurd rfl h) (hperm.nodup_iff.2 List.nodup_range) (fun _ _ => List.not_mem_nil) h100 (by simp; omega) (.inl rfl) (Nat.le_refl _) (by omega)
  rw [show ((1 + hh - 1 : Nat) : Int) = (hh : Int) from by omega, List.nil_append, h0] at hnode
  have hseen := seen_from N (n : Int) (rowsOf l) (hh : Int) (vis ++ []) (fun j hj => by rw [List.append_nil]; exact hperm.mem_iff.2 (List.mem_range.2 hj)) (by omega) N.length 0 (by omega)
  have hb := Ev.bind (f := fun k (q : List Bool × Int × List S41 × Bool) => quorumref6_Tree.l1 k 0 N (n : Int) [] N (n : Int) [] q.1 q.2.1 q.2.2.1 q.2.2.2) hnode hseen
  have hl0 : Ev (fun k => quorumref6_Tree.l0 k 0 (decide ((N.length : Int) > 200)) N (n : Int) []) (rowsOf l, (hh : Int), true) := by
    refine Ev.step (fun k => ?_) hb
    rw [quorumref6_Tree.l0, if_neg (by simp), if_pos (by omega), if_pos (by omega), Option.bind_some]
    rfl
  obtain ⟨k, hk⟩ := hl0.rounds
  refine ⟨k, ?_⟩
  unfold quorumref6_Tree.f
  rw [if_neg (by omega)]
  exact hk
theorem Tree_calls (A0_0 : Option Addr) (c0_0 : Nat) (l0_0 : List SN) (a0_1 : Int) (A0_2 : Option Addr) (c0_2 : Nat) (l0_2 : List Int) (l : List SP) (hh : Nat) (w : World) (hr0_0 : Kd.C k85 w A0_0 l0_0.length l0_0) (hc0_0 : l0_0.length ≤ c0_0) (hr0_2 : Kd.C (Kd.int .i64) w A0_2 l0_2.length l0_2) (hc0_2 : l0_2.length ≤ c0_2) (hv : Small l0_0 a0_1 l0_2 l hh) :
    Calls Tryd.prog 28 #[.agg #[.slice A0_0 l0_0.length c0_0, .int .i64 a0_1, .slice A0_2 l0_2.length c0_2]] w fun e w' => ∃ v0_ : Value, e = .returned (.tuple #[v0_, .int .i64 (hh : Int), .bool true]) ∧ Kd.R k41 41 w' w.heap.size (fun _ => True) v0_ (rowsOf l) ∧ Below w.heap.size w w' := by
  obtain ⟨k, hk⟩ := Tree_ev hv
  exact quorumref6_Tree.calls k A0_0 c0_0 l0_0 a0_1 A0_2 c0_2 l0_2 _ _ _ w hr0_0 hc0_0 hr0_2 hc0_2 hk
end Go.Proofs.YtkmkppchhdkipaaDoor.HRef
