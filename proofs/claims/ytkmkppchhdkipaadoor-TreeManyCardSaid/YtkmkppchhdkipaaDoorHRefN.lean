/- quorumref6: the walk's node, of any tree (printed for a function of the same operations, turned onto the real one by mkrefn.py). -/
import Derived.Test.YtkmkppchhdkipaaDoorHRefA
namespace Go.Proofs.YtkmkppchhdkipaaDoor.HRef
open Go.Lib Go.RowKit Go.Proofs.YtkmkppchhdkipaaDoorW.PrintWords Go.Proofs.YtkmkppchhdkipaaDoorW.PrintLast Go.Proofs.YtkmkppchhdkipaaDoorW.PrintMore Go.Proofs.YtkmkppchhdkipaaDoor.PTr Go.Proofs
set_option linter.unusedSimpArgs false
set_option linter.unusedVariables false
/-! ### quorumref6_walk_node: function 56 -/
mutual
noncomputable def quorumref6_walk_node.j0 : Nat → Int → ByteArray → ByteArray → Bool → Int → Bool → List (S85) → Int → List Int → List Bool → Int → List (S41) → Bool → Option (List Bool × Int × List (S41) × Bool)
 | 0, _, _, _, _, _, _, _, _, _, _, _, _, _ => none
 | k + 1, x1, x2, x3, x4, x5, x53, x129000, x129001, x129002, x129003, x129004, x129005, x129006 => if x53 = true then (some (x129003, x129004, x129005, true)) else (if 0 ≤ x1 then (if x1 < (x129003.length : Int) then ((some (x129003.set (x1 : Int).toNat true : List Bool)).bind fun y139 => (if x1 < (x129000.length : Int) then (if x5 = 1 then (quorumref6_walk_node.j1 k x1 x2 x3 x4 x5 0 x129000 x129001 x129002 y139 x129004 x129005 x129006 ((rd_T85 x129000 x1).f0) ((rd_T85 x129000 x1).f1) ((rd_T85 x129000 x1).f2) ((rd_T85 x129000 x1).f3)) else (quorumref6_walk_node.j1 k x1 x2 x3 x4 x5 2 x129000 x129001 x129002 y139 x129004 x129005 x129006 ((rd_T85 x129000 x1).f0) ((rd_T85 x129000 x1).f1) ((rd_T85 x129000 x1).f2) ((rd_T85 x129000 x1).f3))) else (none))) else (none)) else (none))
noncomputable def quorumref6_walk_node.j1 : Nat → Int → ByteArray → ByteArray → Bool → Int → Int → List (S85) → Int → List Int → List Bool → Int → List (S41) → Bool → List ByteArray → List Int → List Int → Bool → Option (List Bool × Int × List (S41) × Bool)
 | 0, _, _, _, _, _, _, _, _, _, _, _, _, _, _, _, _, _ => none
 | k + 1, x1, x2, x3, x4, x5, x13, x129000, x129001, x129002, x129003, x129004, x129005, x129006, x142000, x142001, x142002, x142003 => if (x142000.length : Int) > 4 then (quorumref6_walk_node.j2 k x1 x2 x3 x4 x5 true x129000 x129001 x129002 x129003 x129004 x129005 x129006 x142000 x142001 x142002 x142003) else (quorumref6_walk_node.j2 k x1 x2 x3 x4 x5 (decide ((x142000.length : Int) < x13)) x129000 x129001 x129002 x129003 x129004 x129005 x129006 x142000 x142001 x142002 x142003)
noncomputable def quorumref6_walk_node.j2 : Nat → Int → ByteArray → ByteArray → Bool → Int → Bool → List (S85) → Int → List Int → List Bool → Int → List (S41) → Bool → List ByteArray → List Int → List Int → Bool → Option (List Bool × Int × List (S41) × Bool)
 | 0, _, _, _, _, _, _, _, _, _, _, _, _, _, _, _, _, _ => none
 | k + 1, x1, x2, x3, x4, x5, x83, x129000, x129001, x129002, x129003, x129004, x129005, x129006, x142000, x142001, x142002, x142003 => if x83 = true then (some (x129003, x129004, x129005, true)) else (quorumref6_walk_node.l0 k x1 x2 x3 x4 x5 0 x129000 x129001 x129002 x129003 x129004 x129005 x129006 x142000 x142001 x142002 x142003)
noncomputable def quorumref6_walk_node.l0 : Nat → Int → ByteArray → ByteArray → Bool → Int → Int → List (S85) → Int → List Int → List Bool → Int → List (S41) → Bool → List ByteArray → List Int → List Int → Bool → Option (List Bool × Int × List (S41) × Bool)
 | 0, _, _, _, _, _, _, _, _, _, _, _, _, _, _, _, _, _ => none
 | k + 1, x1, x2, x3, x4, x5, x14, x129000, x129001, x129002, x129003, x129004, x129005, x129006, x142000, x142001, x142002, x142003 => if x14 < (x142000.length : Int) then (if x14 > 0 then (if 0 ≤ (wrap64 (x14 - 1)) then (if (wrap64 (x14 - 1)) < (x142000.length : Int) then (if 0 ≤ x14 then (if ((Op.bytesLess ((rdOf ByteArray.empty x142000 (wrap64 (x14 - 1))).toList) ((rdOf ByteArray.empty x142000 x14).toList)) = true) then (if (Op.bytesLess ((rdOf ByteArray.empty x142000 x14).toList) x2.toList) = true then (quorumref6_walk_node.j4 k x1 x2 x3 x4 x5 x14 true x129000 x129001 x129002 x129003 x129004 x129005 x129006 x142000 x142001 x142002 x142003) else (if x4 = true then (quorumref6_walk_node.j4 k x1 x2 x3 x4 x5 x14 false x129000 x129001 x129002 x129003 x129004 x129005 x129006 x142000 x142001 x142002 x142003) else (quorumref6_walk_node.j4 k x1 x2 x3 x4 x5 x14 (!(Op.bytesLess ((rdOf ByteArray.empty x142000 x14).toList) x3.toList)) x129000 x129001 x129002 x129003 x129004 x129005 x129006 x142000 x142001 x142002 x142003))) else (quorumref6_walk_node.j4 k x1 x2 x3 x4 x5 x14 true x129000 x129001 x129002 x129003 x129004 x129005 x129006 x142000 x142001 x142002 x142003)) else (none)) else (none)) else (none)) else (if 0 ≤ x14 then (if (Op.bytesLess ((rdOf ByteArray.empty x142000 x14).toList) x2.toList) = true then (quorumref6_walk_node.j4 k x1 x2 x3 x4 x5 x14 true x129000 x129001 x129002 x129003 x129004 x129005 x129006 x142000 x142001 x142002 x142003) else (if x4 = true then (quorumref6_walk_node.j4 k x1 x2 x3 x4 x5 x14 false x129000 x129001 x129002 x129003 x129004 x129005 x129006 x142000 x142001 x142002 x142003) else (quorumref6_walk_node.j4 k x1 x2 x3 x4 x5 x14 (!(Op.bytesLess ((rdOf ByteArray.empty x142000 x14).toList) x3.toList)) x129000 x129001 x129002 x129003 x129004 x129005 x129006 x142000 x142001 x142002 x142003))) else (none))) else (if x142003 = true then ((quorumref6_walk_leaf.f k x129000 x129001 x129002 x129003 x129004 x129005 x129006 x142000 x142001 x142002 x142003 x5).bind fun r => (some (x129003, r.1, r.2.1, r.2.2))) else (if (x142001.length : Int) > 0 then (quorumref6_walk_node.j5 k x1 x2 x3 x4 x5 true x129000 x129001 x129002 x129003 x129004 x129005 x129006 x142000 x142001 x142002 x142003) else (if (x142000.length : Int) = 0 then (quorumref6_walk_node.j5 k x1 x2 x3 x4 x5 true x129000 x129001 x129002 x129003 x129004 x129005 x129006 x142000 x142001 x142002 x142003) else (quorumref6_walk_node.j5 k x1 x2 x3 x4 x5 ((x142002.length : Int) != (wrap64 ((x142000.length : Int) + 1))) x129000 x129001 x129002 x129003 x129004 x129005 x129006 x142000 x142001 x142002 x142003))))
noncomputable def quorumref6_walk_node.j4 : Nat → Int → ByteArray → ByteArray → Bool → Int → Int → Bool → List (S85) → Int → List Int → List Bool → Int → List (S41) → Bool → List ByteArray → List Int → List Int → Bool → Option (List Bool × Int × List (S41) × Bool)
 | 0, _, _, _, _, _, _, _, _, _, _, _, _, _, _, _, _, _, _ => none
 | k + 1, x1, x2, x3, x4, x5, x14, x131, x129000, x129001, x129002, x129003, x129004, x129005, x129006, x142000, x142001, x142002, x142003 => if x131 = true then (some (x129003, x129004, x129005, true)) else (quorumref6_walk_node.l0 k x1 x2 x3 x4 x5 (wrap64 (x14 + 1)) x129000 x129001 x129002 x129003 x129004 x129005 x129006 x142000 x142001 x142002 x142003)
noncomputable def quorumref6_walk_node.j5 : Nat → Int → ByteArray → ByteArray → Bool → Int → Bool → List (S85) → Int → List Int → List Bool → Int → List (S41) → Bool → List ByteArray → List Int → List Int → Bool → Option (List Bool × Int × List (S41) × Bool)
 | 0, _, _, _, _, _, _, _, _, _, _, _, _, _, _, _, _, _ => none
 | k + 1, x1, x2, x3, x4, x5, x160, x129000, x129001, x129002, x129003, x129004, x129005, x129006, x142000, x142001, x142002, x142003 => if x160 = true then (some (x129003, x129004, x129005, true)) else (quorumref6_walk_node.l1 k x1 x2 x3 x4 x5 0 x129000 x129001 x129002 x129003 x129004 x129005 x129006 x142000 x142001 x142002 x142003)
noncomputable def quorumref6_walk_node.l1 : Nat → Int → ByteArray → ByteArray → Bool → Int → Int → List (S85) → Int → List Int → List Bool → Int → List (S41) → Bool → List ByteArray → List Int → List Int → Bool → Option (List Bool × Int × List (S41) × Bool)
 | 0, _, _, _, _, _, _, _, _, _, _, _, _, _, _, _, _, _ => none
 | k + 1, x1, x2, x3, x4, x5, x15, x129000, x129001, x129002, x129003, x129004, x129005, x129006, x142000, x142001, x142002, x142003 => if x15 < (x142002.length : Int) then (if x15 > 0 then (if 0 ≤ (wrap64 (x15 - 1)) then (if (wrap64 (x15 - 1)) < (x142000.length : Int) then (quorumref6_walk_node.j7 k x1 x2 x3 x4 x5 x15 (rdOf ByteArray.empty x142000 (wrap64 (x15 - 1))) x3 x4 x129000 x129001 x129002 x129003 x129004 x129005 x129006 x142000 x142001 x142002 x142003) else (none)) else (none)) else (quorumref6_walk_node.j7 k x1 x2 x3 x4 x5 x15 x2 x3 x4 x129000 x129001 x129002 x129003 x129004 x129005 x129006 x142000 x142001 x142002 x142003)) else (some (x129003, x129004, x129005, x129006))
noncomputable def quorumref6_walk_node.j7 : Nat → Int → ByteArray → ByteArray → Bool → Int → Int → ByteArray → ByteArray → Bool → List (S85) → Int → List Int → List Bool → Int → List (S41) → Bool → List ByteArray → List Int → List Int → Bool → Option (List Bool × Int × List (S41) × Bool)
 | 0, _, _, _, _, _, _, _, _, _, _, _, _, _, _, _, _, _, _, _, _ => none
 | k + 1, x1, x2, x3, x4, x5, x15, x16, x17, x18, x129000, x129001, x129002, x129003, x129004, x129005, x129006, x142000, x142001, x142002, x142003 => if x15 < (x142000.length : Int) then (if 0 ≤ x15 then (quorumref6_walk_node.j8 k x1 x2 x3 x4 x5 x15 x16 (rdOf ByteArray.empty x142000 x15) false x129000 x129001 x129002 x129003 x129004 x129005 x129006 x142000 x142001 x142002 x142003) else (none)) else (quorumref6_walk_node.j8 k x1 x2 x3 x4 x5 x15 x16 x17 x18 x129000 x129001 x129002 x129003 x129004 x129005 x129006 x142000 x142001 x142002 x142003)
noncomputable def quorumref6_walk_node.j8 : Nat → Int → ByteArray → ByteArray → Bool → Int → Int → ByteArray → ByteArray → Bool → List (S85) → Int → List Int → List Bool → Int → List (S41) → Bool → List ByteArray → List Int → List Int → Bool → Option (List Bool × Int × List (S41) × Bool)
 | 0, _, _, _, _, _, _, _, _, _, _, _, _, _, _, _, _, _, _, _, _ => none
 | k + 1, x1, x2, x3, x4, x5, x15, x16, x17, x18, x129000, x129001, x129002, x129003, x129004, x129005, x129006, x142000, x142001, x142002, x142003 => if 0 ≤ x15 then (if x15 < (x142002.length : Int) then ((quorumref6_walk_node.f k x129000 x129001 x129002 x129003 x129004 x129005 x129006 (rd x142002 x15) x16 x17 x18 (wrap64 (x5 + 1))).bind fun r => quorumref6_walk_node.l1 k x1 x2 x3 x4 x5 (wrap64 (x15 + 1)) x129000 x129001 x129002 r.1 r.2.1 r.2.2.1 r.2.2.2 x142000 x142001 x142002 x142003) else (none)) else (none)
noncomputable def quorumref6_walk_node.f : Nat → List (S85) → Int → List Int → List Bool → Int → List (S41) → Bool → Int → ByteArray → ByteArray → Bool → Int → Option (List Bool × Int × List (S41) × Bool)
 | 0, _, _, _, _, _, _, _, _, _, _, _, _ => none
 | k + 1, l0_0, a0_1, l0_2, l0_3, a0_4, l0_5, a0_6, a1, a2, a3, a4, a5 => (if a0_6 = true then (quorumref6_walk_node.j0 k a1 a2 a3 a4 a5 true l0_0 a0_1 l0_2 l0_3 a0_4 l0_5 a0_6) else ((quorumref0_Num.f a1 (wrap64 ((l0_0.length : Int) - 1))).bind fun t136 => (if t136 = true then (if 0 ≤ a1 then (if a1 < (l0_3.length : Int) then (if rdOf false l0_3 a1 = true then (quorumref6_walk_node.j0 k a1 a2 a3 a4 a5 true l0_0 a0_1 l0_2 l0_3 a0_4 l0_5 a0_6) else ((quorumref0_In.f k l0_2 a1).bind fun t138 => (quorumref6_walk_node.j0 k a1 a2 a3 a4 a5 (decide (t138 ≥ 0)) l0_0 a0_1 l0_2 l0_3 a0_4 l0_5 a0_6))) else (none)) else (none)) else (quorumref6_walk_node.j0 k a1 a2 a3 a4 a5 true l0_0 a0_1 l0_2 l0_3 a0_4 l0_5 a0_6))))
end
set_option maxHeartbeats 8000000 in
set_option maxRecDepth 100000 in
theorem quorumref6_walk_node.calls (w : World) (gb128 : Nat) (A0_0 : Option Addr) (c0_0 : Nat) (l0_0 : List (S85)) (a0_1 : Int) (A0_2 : Option Addr) (c0_2 : Nat) (l0_2 : List Int)
 (hr0_0 : Kd.C k85 w A0_0 l0_0.length l0_0) (hc0_0 : l0_0.length ≤ c0_0) (hr0_2 : Kd.C (Kd.int .i64) w A0_2 l0_2.length l0_2) (hc0_2 : l0_2.length ≤ c0_2) (GE128 : Fc (w.heap.size ≤ gb128)) (k : Nat) : ∀ (W : World) (Ao16 : Option Addr) (co16 : Nat) (y132 : List Bool) (a0_4 : Int) (Ao12 : Option Addr) (co12 : Nat) (t129 : List (S41)) (a0_6 : Bool) (a1 : Int) (a2 : ByteArray) (a3 : ByteArray) (a4 : Bool) (a5 : Int) (r0 : List Bool) (r1 : Int) (r2 : List (S41)) (r3 : Bool)
 (HO134 : Fc (Kd.R Kd.bool 4 W w.heap.size (fun _ => True) (.slice Ao16 y132.length co16) y132)) (HO131 : Fc (Kd.R k41 41 W w.heap.size (fun _ => True) (.slice Ao12 t129.length co12) t129))
 (BK128 : Fc (W.heap[gb128]? = some (.cells #[.slice A0_0 l0_0.length c0_0, .int .i64 a0_1, .slice A0_2 l0_2.length c0_2, .slice Ao16 y132.length co16, .int .i64 a0_4, .slice Ao12 t129.length co12, .bool a0_6] 100 (0, 0)))) (HB : Fc (Below w.heap.size w W))
 (h : quorumref6_walk_node.f k l0_0 a0_1 l0_2 y132 a0_4 t129 a0_6 a1 a2 a3 a4 a5 = some (r0, r1, r2, r3)),
  Calls Tryd.prog 56 #[.pointer (some ⟨gb128, 0, none⟩), .int .i64 a1, .string a2, .string a3, .bool a4, .int .i64 a5] W fun e w' => e = .returned (.tuple #[]) ∧ ∃ v3_ : Value, Kd.R Kd.bool 4 w' w.heap.size (fun _ => True) v3_ r0 ∧ ∃ v5_ : Value, Kd.R k41 41 w' w.heap.size (fun _ => True) v5_ r2 ∧
    w'.heap[gb128]? = some (.cells #[.slice A0_0 l0_0.length c0_0, .int .i64 a0_1, .slice A0_2 l0_2.length c0_2, v3_, .int .i64 r1, v5_, .bool r3] 100 (0, 0)) ∧ Fr W w' gb128 ∧ Below w.heap.size w w' := by
 induction k using Nat.strongRecOn with
 | _ k ih =>
 intro W Ao16 co16 y132 a0_4 Ao12 co12 t129 a0_6 a1 a2 a3 a4 a5 r0 r1 r2 r3 HO134 HO131 BK128 HB h
 cases k with
 | zero => exact absurd h (by simp [quorumref6_walk_node.f])
 | succ k =>
 simp only [quorumref6_walk_node.f] at h
 have hu25 := Tryd.underlying25
 have hu100 := Tryd.underlying100
 have hu85 := Tryd.underlying85
 have HR0_0 := mk0 hr0_0
 have HC0_0 := mk0 hc0_0
 have HR0_2 := mk0 hr0_2
 have HC0_2 := mk0 hc0_2
 have IH := mk0 ih
 clear hr0_0 hc0_0 hr0_2 hc0_2 ih
 have GW128 := GE128
 have BK135 := mk0 (Fr.refl W gb128)
 have HC9 := mk0 h
 clear h
 go_enter Tryd.func56, Tryd.ntmps56
 go_upto_region 0 with (fail)
 (try simp only [Act.put, List.setIfInBounds_toArray, List.set_cons_zero, List.set_cons_succ])
 go_cut [53] (fun v53 wc => ∃ (kq : Nat) (x53_8 : Bool), v53 = .bool x53_8 ∧ Fc (quorumref6_walk_node.j0 kq a1 a2 a3 a4 a5 x53_8 l0_0 a0_1 l0_2 y132 a0_4 t129 a0_6 = some (r0, r1, r2, r3)) ∧ Fc (kq ≤ k) ∧ Fc (Kd.R Kd.bool 4 wc w.heap.size (fun _ => True) (.slice Ao16 y132.length co16) y132) ∧ Fc (Kd.R k41 41 wc w.heap.size (fun _ => True) (.slice Ao12 t129.length co12) t129) ∧ Fc (wc.heap[gb128]? = some (.cells #[(.slice A0_0 l0_0.length c0_0), .int .i64 a0_1, (.slice A0_2 l0_2.length c0_2), (.slice Ao16 y132.length co16), .int .i64 a0_4, (.slice Ao12 t129.length co12), .bool a0_6] 100 (0, 0))) ∧ Fc (Fr W wc gb128) ∧ Fc (Below w.heap.size w wc))
 case first =>
  have H := HC9.out
  clear HC9
  by_cases c19 : a0_6 = true
  ·subst c19
   rw [if_pos rfl] at H
   have H' := mk0 H
   clear H
   obtain ⟨hcz21_0, hcz21_1, hcz21_2, hcz21_3, hcz21_4, hcz21_5, hcz21_6, hfz21_0, hfz21_1, hfz21_2, hfz21_3, hfz21_4, hfz21_5, hfz21_6⟩ := c7_ BK128
   go_wp2
   repeat (go_quiet (fail); try go_wp2)
   go_meet
   case rel => exact ⟨_, (true), (by first | rfl | (simp; done) | (simp [*]; done)), H', ⟨by first | omega | exact Nat.le_refl _⟩, ⟨by (with_reducible repeat (first | apply Ra_ | apply Rn_ | apply Rd_)); exact HO134.out⟩, ⟨by (with_reducible repeat (first | apply Ra_ | apply Rn_ | apply Rd_)); exact HO131.out⟩, ⟨h_ BK128⟩, ⟨fh_ BK135⟩, ⟨b_ HB⟩⟩
  replace c19 := Bool.eq_false_iff.mpr c19
  subst c19
  rw [if_neg (show ¬ (false = true) by decide)] at H
  replace H := Option.bind_eq_some_iff.mp H
  obtain ⟨t136, A220, H⟩ := H
  try dsimp only at H
  have A22 := mk0 A220
  clear A220
  by_cases c23 : t136 = true
  rotate_left
  ·replace c23 := Bool.eq_false_iff.mpr c23
   subst c23
   rw [if_neg (show ¬ (false = true) by decide)] at H
   have H' := mk0 H
   clear H
   obtain ⟨hcz34_0, hcz34_1, hcz34_2, hcz34_3, hcz34_4, hcz34_5, hcz34_6, hfz34_0, hfz34_1, hfz34_2, hfz34_3, hfz34_4, hfz34_5, hfz34_6⟩ := c7_ BK128
   go_wp2_with (first | (go_at_call 33; (with_reducible refine (quorumref0_Num.calls a1 (wrap64 ((l0_0.length : Int) - 1)) false _ A22.out).mono ?_); rintro e w' ⟨rfl, ⟨nd, rfl⟩⟩; (try first | exact ⟨rfl, _, World.drewN_drewN _ _ _⟩ | exact ⟨rfl, _, Eq.trans (World.drewN_drewN _ _ _) (congrArg (World.drewN _) (Nat.add_assoc _ _ _))⟩)))
   repeat (go_quiet (first | (go_at_call 33; (with_reducible refine (quorumref0_Num.calls a1 (wrap64 ((l0_0.length : Int) - 1)) false _ A22.out).mono ?_); rintro e w' ⟨rfl, ⟨nd, rfl⟩⟩; (try first | exact ⟨rfl, _, World.drewN_drewN _ _ _⟩ | exact ⟨rfl, _, Eq.trans (World.drewN_drewN _ _ _) (congrArg (World.drewN _) (Nat.add_assoc _ _ _))⟩))); try go_wp2_with (first | (go_at_call 33; (with_reducible refine (quorumref0_Num.calls a1 (wrap64 ((l0_0.length : Int) - 1)) false _ A22.out).mono ?_); rintro e w' ⟨rfl, ⟨nd, rfl⟩⟩; (try first | exact ⟨rfl, _, World.drewN_drewN _ _ _⟩ | exact ⟨rfl, _, Eq.trans (World.drewN_drewN _ _ _) (congrArg (World.drewN _) (Nat.add_assoc _ _ _))⟩))))
   go_meet
   case rel => exact ⟨_, (true), (by first | rfl | (simp; done) | (simp [*]; done)), H', ⟨by first | omega | exact Nat.le_refl _⟩, ⟨by (with_reducible repeat (first | apply Ra_ | apply Rn_ | apply Rd_)); exact HO134.out⟩, ⟨by (with_reducible repeat (first | apply Ra_ | apply Rn_ | apply Rd_)); exact HO131.out⟩, ⟨h_ BK128⟩, ⟨fh_ BK135⟩, ⟨b_ HB⟩⟩
  subst c23
  rw [if_pos rfl] at H
  by_cases c24 : 0 ≤ a1
  rotate_left
  ·rw [if_neg c24] at H
   exact absurd H (by simp)
  rw [if_pos c24] at H
  have c24b0 : decide (0 ≤ a1) = true := decide_eq_true c24
  clear c24
  (first | rw [c24b0] | (simp only [i64_w, i32_w]; rw [c24b0]) | skip)
  by_cases c25 : a1 < (y132.length : Int)
  rotate_left
  ·rw [if_neg c25] at H
   exact absurd H (by simp)
  rw [if_pos c25] at H
  have c25b0 : decide (a1 < (y132.length : Int)) = true := decide_eq_true c25
  clear c25
  obtain ⟨bq26, hbq26⟩ : ∃ b_ : Bool, b_ = (rdOf false y132 a1) := ⟨_, rfl⟩
  replace H : (if bq26 = true then (quorumref6_walk_node.j0 k a1 a2 a3 a4 a5 true l0_0 a0_1 l0_2 y132 a0_4 t129 false) else ((quorumref0_In.f k l0_2 a1).bind fun t138 => (quorumref6_walk_node.j0 k a1 a2 a3 a4 a5 (decide (t138 ≥ 0)) l0_0 a0_1 l0_2 y132 a0_4 t129 false))) = some (r0, r1, r2, r3) := by rw [← hbq26] at H; exact H
  have Nbq26 := mk0 hbq26
  clear hbq26
  by_cases c27 : bq26 = true
  ·subst c27
   rw [if_pos rfl] at H
   have H' := mk0 H
   clear H
   obtain ⟨hcz29_0, hcz29_1, hcz29_2, hcz29_3, hcz29_4, hcz29_5, hcz29_6, hfz29_0, hfz29_1, hfz29_2, hfz29_3, hfz29_4, hfz29_5, hfz29_6⟩ := c7_ BK128
   go_wp2_with (first | (go_at_call 33; (with_reducible refine (quorumref0_Num.calls a1 (wrap64 ((l0_0.length : Int) - 1)) true _ A22.out).mono ?_); rintro e w' ⟨rfl, ⟨nd, rfl⟩⟩; (try first | exact ⟨rfl, _, World.drewN_drewN _ _ _⟩ | exact ⟨rfl, _, Eq.trans (World.drewN_drewN _ _ _) (congrArg (World.drewN _) (Nat.add_assoc _ _ _))⟩); have p137 : 0 ≤ (a1 : Int) := of_decide_eq_true (by first | (with_reducible assumption) | assumption); have q137 : a1 < (y132.length : Int) := of_decide_eq_true (by first | (with_reducible assumption) | assumption); obtain ⟨ad137, e137, hx137_0⟩ := Kd.at_bool (Kd.R_reads' HO134.out).2.2 a1 p137 q137; (try rw [← Nbq26.out] at hx137_0); cases e137; replace p137 := eq_true p137; replace q137 := eq_true q137))
   repeat (go_quiet (first | (go_at_call 33; (with_reducible refine (quorumref0_Num.calls a1 (wrap64 ((l0_0.length : Int) - 1)) true _ A22.out).mono ?_); rintro e w' ⟨rfl, ⟨nd, rfl⟩⟩; (try first | exact ⟨rfl, _, World.drewN_drewN _ _ _⟩ | exact ⟨rfl, _, Eq.trans (World.drewN_drewN _ _ _) (congrArg (World.drewN _) (Nat.add_assoc _ _ _))⟩); have p137 : 0 ≤ (a1 : Int) := of_decide_eq_true (by first | (with_reducible assumption) | assumption); have q137 : a1 < (y132.length : Int) := of_decide_eq_true (by first | (with_reducible assumption) | assumption); obtain ⟨ad137, e137, hx137_0⟩ := Kd.at_bool (Kd.R_reads' HO134.out).2.2 a1 p137 q137; (try rw [← Nbq26.out] at hx137_0); cases e137; replace p137 := eq_true p137; replace q137 := eq_true q137)); try go_wp2_with (first | (go_at_call 33; (with_reducible refine (quorumref0_Num.calls a1 (wrap64 ((l0_0.length : Int) - 1)) true _ A22.out).mono ?_); rintro e w' ⟨rfl, ⟨nd, rfl⟩⟩; (try first | exact ⟨rfl, _, World.drewN_drewN _ _ _⟩ | exact ⟨rfl, _, Eq.trans (World.drewN_drewN _ _ _) (congrArg (World.drewN _) (Nat.add_assoc _ _ _))⟩); have p137 : 0 ≤ (a1 : Int) := of_decide_eq_true (by first | (with_reducible assumption) | assumption); have q137 : a1 < (y132.length : Int) := of_decide_eq_true (by first | (with_reducible assumption) | assumption); obtain ⟨ad137, e137, hx137_0⟩ := Kd.at_bool (Kd.R_reads' HO134.out).2.2 a1 p137 q137; (try rw [← Nbq26.out] at hx137_0); cases e137; replace p137 := eq_true p137; replace q137 := eq_true q137)))
   go_meet
   case rel => exact ⟨_, (true), (by first | rfl | (simp; done) | (simp [*]; done)), H', ⟨by first | omega | exact Nat.le_refl _⟩, ⟨by (with_reducible repeat (first | apply Ra_ | apply Rn_ | apply Rd_)); exact HO134.out⟩, ⟨by (with_reducible repeat (first | apply Ra_ | apply Rn_ | apply Rd_)); exact HO131.out⟩, ⟨h_ BK128⟩, ⟨fh_ BK135⟩, ⟨b_ HB⟩⟩
  replace c27 := Bool.eq_false_iff.mpr c27
  subst c27
  rw [if_neg (show ¬ (false = true) by decide)] at H
  replace H := Option.bind_eq_some_iff.mp H
  obtain ⟨t138, A300, H⟩ := H
  try dsimp only at H
  have A30 := mk0 A300
  clear A300
  have H' := mk0 H
  clear H
  obtain ⟨hcz32_0, hcz32_1, hcz32_2, hcz32_3, hcz32_4, hcz32_5, hcz32_6, hfz32_0, hfz32_1, hfz32_2, hfz32_3, hfz32_4, hfz32_5, hfz32_6⟩ := c7_ BK128
  go_wp2_with (first | (go_at_call 33; (with_reducible refine (quorumref0_Num.calls a1 (wrap64 ((l0_0.length : Int) - 1)) true _ A22.out).mono ?_); rintro e w' ⟨rfl, ⟨nd, rfl⟩⟩; (try first | exact ⟨rfl, _, World.drewN_drewN _ _ _⟩ | exact ⟨rfl, _, Eq.trans (World.drewN_drewN _ _ _) (congrArg (World.drewN _) (Nat.add_assoc _ _ _))⟩); have p137 : 0 ≤ (a1 : Int) := of_decide_eq_true (by first | (with_reducible assumption) | assumption); have q137 : a1 < (y132.length : Int) := of_decide_eq_true (by first | (with_reducible assumption) | assumption); obtain ⟨ad137, e137, hx137_0⟩ := Kd.at_bool (Kd.R_reads' HO134.out).2.2 a1 p137 q137; (try rw [← Nbq26.out] at hx137_0); cases e137; replace p137 := eq_true p137; replace q137 := eq_true q137) | (go_at_call 57; (with_reducible refine (quorumref0_In.calls k _ _ l0_2 a1 t138 _ ?side1 ?side2 A30.out).mono ?_); (case side1 => repeat (first | exact (Kd.C_below HR0_2.out (b_ HB)) | (with_reducible refine Kd.C_alloc ?_ _) | (with_reducible refine Kd.C_drewN ?_ _) | (with_reducible refine Kd.C_drew ?_))); (case side2 => exact HC0_2.out); rintro e w' ⟨rfl, ⟨nd, rfl⟩⟩; (try first | exact ⟨rfl, _, World.drewN_drewN _ _ _⟩ | exact ⟨rfl, _, Eq.trans (World.drewN_drewN _ _ _) (congrArg (World.drewN _) (Nat.add_assoc _ _ _))⟩)))
  repeat (go_quiet (first | (go_at_call 33; (with_reducible refine (quorumref0_Num.calls a1 (wrap64 ((l0_0.length : Int) - 1)) true _ A22.out).mono ?_); rintro e w' ⟨rfl, ⟨nd, rfl⟩⟩; (try first | exact ⟨rfl, _, World.drewN_drewN _ _ _⟩ | exact ⟨rfl, _, Eq.trans (World.drewN_drewN _ _ _) (congrArg (World.drewN _) (Nat.add_assoc _ _ _))⟩); have p137 : 0 ≤ (a1 : Int) := of_decide_eq_true (by first | (with_reducible assumption) | assumption); have q137 : a1 < (y132.length : Int) := of_decide_eq_true (by first | (with_reducible assumption) | assumption); obtain ⟨ad137, e137, hx137_0⟩ := Kd.at_bool (Kd.R_reads' HO134.out).2.2 a1 p137 q137; (try rw [← Nbq26.out] at hx137_0); cases e137; replace p137 := eq_true p137; replace q137 := eq_true q137) | (go_at_call 57; (with_reducible refine (quorumref0_In.calls k _ _ l0_2 a1 t138 _ ?side1 ?side2 A30.out).mono ?_); (case side1 => repeat (first | exact (Kd.C_below HR0_2.out (b_ HB)) | (with_reducible refine Kd.C_alloc ?_ _) | (with_reducible refine Kd.C_drewN ?_ _) | (with_reducible refine Kd.C_drew ?_))); (case side2 => exact HC0_2.out); rintro e w' ⟨rfl, ⟨nd, rfl⟩⟩; (try first | exact ⟨rfl, _, World.drewN_drewN _ _ _⟩ | exact ⟨rfl, _, Eq.trans (World.drewN_drewN _ _ _) (congrArg (World.drewN _) (Nat.add_assoc _ _ _))⟩))); try go_wp2_with (first | (go_at_call 33; (with_reducible refine (quorumref0_Num.calls a1 (wrap64 ((l0_0.length : Int) - 1)) true _ A22.out).mono ?_); rintro e w' ⟨rfl, ⟨nd, rfl⟩⟩; (try first | exact ⟨rfl, _, World.drewN_drewN _ _ _⟩ | exact ⟨rfl, _, Eq.trans (World.drewN_drewN _ _ _) (congrArg (World.drewN _) (Nat.add_assoc _ _ _))⟩); have p137 : 0 ≤ (a1 : Int) := of_decide_eq_true (by first | (with_reducible assumption) | assumption); have q137 : a1 < (y132.length : Int) := of_decide_eq_true (by first | (with_reducible assumption) | assumption); obtain ⟨ad137, e137, hx137_0⟩ := Kd.at_bool (Kd.R_reads' HO134.out).2.2 a1 p137 q137; (try rw [← Nbq26.out] at hx137_0); cases e137; replace p137 := eq_true p137; replace q137 := eq_true q137) | (go_at_call 57; (with_reducible refine (quorumref0_In.calls k _ _ l0_2 a1 t138 _ ?side1 ?side2 A30.out).mono ?_); (case side1 => repeat (first | exact (Kd.C_below HR0_2.out (b_ HB)) | (with_reducible refine Kd.C_alloc ?_ _) | (with_reducible refine Kd.C_drewN ?_ _) | (with_reducible refine Kd.C_drew ?_))); (case side2 => exact HC0_2.out); rintro e w' ⟨rfl, ⟨nd, rfl⟩⟩; (try first | exact ⟨rfl, _, World.drewN_drewN _ _ _⟩ | exact ⟨rfl, _, Eq.trans (World.drewN_drewN _ _ _) (congrArg (World.drewN _) (Nat.add_assoc _ _ _))⟩))))
  go_meet
  case rel => exact ⟨_, (decide (t138 ≥ 0)), (by first | rfl | (simp; done) | (simp [*]; done)), H', ⟨by first | omega | exact Nat.le_refl _⟩, ⟨by (with_reducible repeat (first | apply Ra_ | apply Rn_ | apply Rd_)); exact HO134.out⟩, ⟨by (with_reducible repeat (first | apply Ra_ | apply Rn_ | apply Rd_)); exact HO131.out⟩, ⟨h_ BK128⟩, ⟨fh_ BK135⟩, ⟨b_ HB⟩⟩
 clear HC9
 try clear c8
 try clear c8b0
 try clear c8b1
 try clear c19
 try clear c23
 try clear c24
 try clear c24b0
 try clear c25
 try clear c25b0
 try clear c27
 try clear hcz13_0 hcz13_1 hcz13_2 hcz13_3 hcz13_4 hcz13_5 hcz13_6 hfz13_0 hfz13_1 hfz13_2 hfz13_3 hfz13_4 hfz13_5 hfz13_6
 try clear hcz17_0 hcz17_1 hcz17_2 hcz17_3 hcz17_4 hcz17_5 hcz17_6 hfz17_0 hfz17_1 hfz17_2 hfz17_3 hfz17_4 hfz17_5 hfz17_6
 try clear hcz21_0 hcz21_1 hcz21_2 hcz21_3 hcz21_4 hcz21_5 hcz21_6 hfz21_0 hfz21_1 hfz21_2 hfz21_3 hfz21_4 hfz21_5 hfz21_6
 try clear hcz29_0 hcz29_1 hcz29_2 hcz29_3 hcz29_4 hcz29_5 hcz29_6 hfz29_0 hfz29_1 hfz29_2 hfz29_3 hfz29_4 hfz29_5 hfz29_6
 try clear hcz32_0 hcz32_1 hcz32_2 hcz32_3 hcz32_4 hcz32_5 hcz32_6 hfz32_0 hfz32_1 hfz32_2 hfz32_3 hfz32_4 hfz32_5 hfz32_6
 try clear hcz34_0 hcz34_1 hcz34_2 hcz34_3 hcz34_4 hcz34_5 hcz34_6 hfz34_0 hfz34_1 hfz34_2 hfz34_3 hfz34_4 hfz34_5 hfz34_6
 try clear hx137_0
 try clear p137
 try clear q137
 obtain ⟨kq, x53_8, rfl, HA, HJ8, HO_129003, HO_129005, BK128, BK135, HB⟩ := hcut
 cases kq with
 | zero => exact absurd HA.out (by simp [quorumref6_walk_node.j0])
 | succ kj8 =>
 have H := HA.out
 clear HA
 simp only [quorumref6_walk_node.j0] at H
 as_aux_lemma =>
 by_cases c35 : x53_8 = true
 ·subst c35
  rw [if_pos rfl] at H
  obtain ⟨hcz37_0, hcz37_1, hcz37_2, hcz37_3, hcz37_4, hcz37_5, hcz37_6, hfz37_0, hfz37_1, hfz37_2, hfz37_3, hfz37_4, hfz37_5, hfz37_6⟩ := c7_ BK128
  simp only [Option.some.injEq, Prod.mk.injEq] at H
  obtain ⟨rfl, rfl, rfl, rfl⟩ := H
  go_wp2
  repeat (go_quiet (fail); try go_wp2)
  first | go_end0 | ((try simp only [Exit.inBlock, Exit.then]); refine bodyPost_ret (results_none rfl _ _ _) rfl ?_)
  exact ⟨rfl, (.slice Ao16 y132.length co16), (by (try simp only [hl129003_41]); (with_reducible repeat (first | apply Ra_ | apply Rn_ | apply Rd_)); exact Kd.R_mono (Kd.R_far (p := ⟨gb128, 6, none⟩) (Kd.R_types HO_129003.out BK128.out (by decide)) (fun _ hk => hk.2) (.bool true)) (fun _ _ => trivial)), (.slice Ao12 t129.length co12), (by (try simp only [hl129003_41]); (with_reducible repeat (first | apply Ra_ | apply Rn_ | apply Rd_)); exact Kd.R_mono (Kd.R_far (p := ⟨gb128, 6, none⟩) (Kd.R_types HO_129005.out BK128.out (by decide)) (fun _ hk => hk.2) (.bool true)) (fun _ _ => trivial)), (by (try simp only [hl129003_41]); exact pu_ (cs := #[(.slice A0_0 l0_0.length c0_0), .int .i64 a0_1, (.slice A0_2 l0_2.length c0_2), (.slice Ao16 y132.length co16), .int .i64 a0_4, (.slice Ao12 t129.length co12), .bool a0_6]) (h_ BK128)), ff_ (fh_ BK135), b_ HB⟩
 replace c35 := Bool.eq_false_iff.mpr c35
 subst c35
 rw [if_neg (show ¬ (false = true) by decide)] at H
 by_cases c38 : 0 ≤ a1
 rotate_left
 ·rw [if_neg c38] at H
  exact absurd H (by simp)
 rw [if_pos c38] at H
 have c38b0 : decide (0 ≤ a1) = true := decide_eq_true c38
 clear c38
 by_cases c39 : a1 < (y132.length : Int)
 rotate_left
 ·rw [if_neg c39] at H
  exact absurd H (by simp)
 rw [if_pos c39] at H
 have c39b0 : decide (a1 < (y132.length : Int)) = true := decide_eq_true c39
 clear c39
 obtain ⟨y139, hy139⟩ : ∃ y_ : List Bool, y_ = (y132.set (a1 : Int).toNat true) := ⟨_, rfl⟩
 replace H : (if a1 < (l0_0.length : Int) then (if a5 = 1 then (quorumref6_walk_node.j1 kj8 a1 a2 a3 a4 a5 0 l0_0 a0_1 l0_2 y139 a0_4 t129 a0_6 ((rd_T85 l0_0 a1).f0) ((rd_T85 l0_0 a1).f1) ((rd_T85 l0_0 a1).f2) ((rd_T85 l0_0 a1).f3)) else (quorumref6_walk_node.j1 kj8 a1 a2 a3 a4 a5 2 l0_0 a0_1 l0_2 y139 a0_4 t129 a0_6 ((rd_T85 l0_0 a1).f0) ((rd_T85 l0_0 a1).f1) ((rd_T85 l0_0 a1).f2) ((rd_T85 l0_0 a1).f3))) else (none)) = some (r0, r1, r2, r3) := by first | (rw [hy139]; with_reducible exact H) | (have H2_ := (Option.bind_some _ _).symm.trans H; rw [hy139]; with_reducible exact H2_) | (have H2_ := (Option.bind_some _ _).symm.trans H; with_reducible exact H2_) | with_reducible exact H | (rw [hy139]; exact H) | exact H
 have Ny139 := mk0 hy139
 clear hy139
 by_cases c41 : a1 < (l0_0.length : Int)
 rotate_left
 ·rw [if_neg c41] at H
  exact absurd H (by simp)
 rw [if_pos c41] at H
 have c41b0 : decide (a1 < (l0_0.length : Int)) = true := decide_eq_true c41
 clear c41
 have HC42 := mk0 H
 clear H
 obtain ⟨hcz44_0, hcz44_1, hcz44_2, hcz44_3, hcz44_4, hcz44_5, hcz44_6, hfz44_0, hfz44_1, hfz44_2, hfz44_3, hfz44_4, hfz44_5, hfz44_6⟩ := c7_ BK128
 have p40 : 0 ≤ (a1 : Int) := of_decide_eq_true (by first | (with_reducible assumption) | assumption)
 have q40 : (a1 : Int) < ((y132.length : Int) : Int) := of_decide_eq_true (by first | (with_reducible assumption) | assumption)
 obtain ⟨go40, co40, eo40, gb40, gl40, cl40, HG40⟩ := Kd.R_form HO_129003.out (by omega)
 (first | cases eo40 | (injection eo40 with ea_ en_ ec_; (first | subst ea_ | (injection ea_ with ea_; subst ea_)); subst ec_; clear en_))
 have GB40 := mk0 gb40
 have GG40 := mk0 HG40
 clear gb40 gl40 HG40
 obtain ⟨hx40_0, hf40_0⟩ := Kd.R_celln false HO_129003.out (a1 : Int) p40 q40
 replace p40 := eq_true p40
 replace q40 := eq_true q40
 have HP45 := Kd.R_putg HO_129003.out (a1 : Int) true
 go_upto_if 72 with (first | ((with_reducible refine gate_store (t := 4) (p := 62) rfl ?_); (try (rw [drewN_self wc]; generalize hq_ : World.drewN wc _ = wc; replace HO_129003 := mk0 (Kd.R_at hq_ HO_129003.out); replace HO_129005 := mk0 (Kd.R_at hq_ HO_129005.out); replace BK128 := mk0 (blk_at hq_ BK128.out); replace BK135 := mk0 (fat_ hq_ BK135.out); replace HB := mk0 (below_at hq_ HB.out); clear hq_; (try (have HP45 := Kd.R_putg HO_129003.out (a1 : Int) true)))); refine sv_ (t := 4) (p := 62) (w1 := (wc.setCell ⟨go40, (a1 : Int).toNat, none⟩ (.bool true))) (h := ?_); intro w46 hw; have hg : wc.grownBy w46 (some go40) := (by rw [hw]; exact HP45.2); have hp_ : Kd.R Kd.bool 4 w46 w.heap.size (fun _ => True) (.slice (some ⟨go40, 0, none⟩) y132.length co16) y139 := (by rw [hw, Ny139.out]; exact HP45.1); clear HP45; have n1_ := mk0 (Kd.R_over' (v := (.slice (some ⟨go40, 0, none⟩) y132.length co16)) (r_ HO_129005) (Kd.R_typed HO_129003.out) (by decide) hg); have n2_ := mk0 (blk_grown (g := gb128) (o := .cells #[.slice A0_0 l0_0.length c0_0, .int .i64 a0_1, .slice A0_2 l0_2.length c0_2, .slice (some ⟨go40, 0, none⟩) y132.length co16, .int .i64 a0_4, .slice Ao12 t129.length co12, .bool a0_6] 100 (0, 0)) (h_ BK128) hg (Kd.R_ne HO_129003.out BK128.out (by decide))); have n3_ := mk0 (fg_ (v := (.slice (some ⟨go40, 0, none⟩) y132.length co16)) (fh_ BK135) hg (Kd.R_typed HO_129003.out) (.inl rfl)); replace HO_129003 := mk0 (hp_); replace HB := mk0 ((by rw [hw]; exact bs_ (HB.out) GB40.out : Below w.heap.size w w46)); clear HO_129005 BK128 BK135; have HO_129005 := n1_; have BK128 := n2_; have BK135 := n3_; clear n1_ n2_ n3_ hg hw hp_; obtain ⟨hcz47_0, hcz47_1, hcz47_2, hcz47_3, hcz47_4, hcz47_5, hcz47_6, hfz47_0, hfz47_1, hfz47_2, hfz47_3, hfz47_4, hfz47_5, hfz47_6⟩ := c7_ BK128; have p140 : 0 ≤ (a1 : Int) := of_decide_eq_true (by first | (with_reducible assumption) | assumption); have q140 : a1 < (l0_0.length : Int) := of_decide_eq_true (by first | (with_reducible assumption) | assumption); obtain ⟨ad140, A140_0, c140_0, A140_1, c140_1, A140_2, c140_2, e140, hx140_0, hx140_1, hx140_2, hx140_3, hl140_0, hi140_0, hl140_1, hi140_1, hl140_2, hi140_2⟩ := at_T85 HR0_0.out a1 p140 q140; cases e140; replace hx140_0 := (bc_ HB hx140_0 :); replace hx140_1 := (bc_ HB hx140_1 :); replace hx140_2 := (bc_ HB hx140_2 :); replace hx140_3 := (bc_ HB hx140_3 :); have HR140_0 := mk0 hi140_0; have HC140_0 := mk0 hl140_0; clear hi140_0 hl140_0; have HR140_1 := mk0 hi140_1; have HC140_1 := mk0 hl140_1; clear hi140_1 hl140_1; have HR140_2 := mk0 hi140_2; have HC140_2 := mk0 hl140_2; clear hi140_2 hl140_2; replace p140 := eq_true p140; replace q140 := eq_true q140) | ((with_reducible refine gate_dst (N := 12) rfl ?_); (try (refine gate_guard (by rfl) ?_; dsimp only)); refine bx_ (N := 12) (cs := #[.slice none 0 0, .slice none 0 0, .slice none 0 0, .bool false]) (t := 85) (h := ?_); intro gb141 hg w48 hbox hb; have n6_ := mk0 (gz_ HB hg); have n7_ := mk0 (gz_ HB hg); have n8_ := mk0 (ne1_ BK128 hg); have n9_ := mk0 (ne2_ BK128 hg); have GF141 := mk0 (fz_ BK135 hg); replace HO_129003 := mk0 (Kd.R_below (r_ HO_129003) hb); replace HO_129005 := mk0 (Kd.R_below (r_ HO_129005) hb); replace BK128 := mk0 (u_ BK128 hb); replace BK135 := mk0 (fu_ BK135 hb); replace HB := mk0 (bt_ (b_ HB) hb); have BK141 := mk0 (hbox); have GW141 := n6_; have GE141 := n7_; have NB128_141 := n8_; have NB141_128 := n9_;  clear n6_ n7_ n8_ n9_ hb hbox hg; have hnb49 := NB141_128.out; have hnc49 := NB128_141.out; obtain ⟨hcz51_0, hcz51_1, hcz51_2, hcz51_3, hfz51_0, hfz51_1, hfz51_2, hfz51_3⟩ := c4_ BK141))
 repeat (go_quiet (first | ((with_reducible refine gate_store (t := 4) (p := 62) rfl ?_); (try (rw [drewN_self wc]; generalize hq_ : World.drewN wc _ = wc; replace HO_129003 := mk0 (Kd.R_at hq_ HO_129003.out); replace HO_129005 := mk0 (Kd.R_at hq_ HO_129005.out); replace BK128 := mk0 (blk_at hq_ BK128.out); replace BK135 := mk0 (fat_ hq_ BK135.out); replace HB := mk0 (below_at hq_ HB.out); clear hq_; (try (have HP45 := Kd.R_putg HO_129003.out (a1 : Int) true)))); refine sv_ (t := 4) (p := 62) (w1 := (wc.setCell ⟨go40, (a1 : Int).toNat, none⟩ (.bool true))) (h := ?_); intro w46 hw; have hg : wc.grownBy w46 (some go40) := (by rw [hw]; exact HP45.2); have hp_ : Kd.R Kd.bool 4 w46 w.heap.size (fun _ => True) (.slice (some ⟨go40, 0, none⟩) y132.length co16) y139 := (by rw [hw, Ny139.out]; exact HP45.1); clear HP45; have n1_ := mk0 (Kd.R_over' (v := (.slice (some ⟨go40, 0, none⟩) y132.length co16)) (r_ HO_129005) (Kd.R_typed HO_129003.out) (by decide) hg); have n2_ := mk0 (blk_grown (g := gb128) (o := .cells #[.slice A0_0 l0_0.length c0_0, .int .i64 a0_1, .slice A0_2 l0_2.length c0_2, .slice (some ⟨go40, 0, none⟩) y132.length co16, .int .i64 a0_4, .slice Ao12 t129.length co12, .bool a0_6] 100 (0, 0)) (h_ BK128) hg (Kd.R_ne HO_129003.out BK128.out (by decide))); have n3_ := mk0 (fg_ (v := (.slice (some ⟨go40, 0, none⟩) y132.length co16)) (fh_ BK135) hg (Kd.R_typed HO_129003.out) (.inl rfl)); replace HO_129003 := mk0 (hp_); replace HB := mk0 ((by rw [hw]; exact bs_ (HB.out) GB40.out : Below w.heap.size w w46)); clear HO_129005 BK128 BK135; have HO_129005 := n1_; have BK128 := n2_; have BK135 := n3_; clear n1_ n2_ n3_ hg hw hp_; obtain ⟨hcz47_0, hcz47_1, hcz47_2, hcz47_3, hcz47_4, hcz47_5, hcz47_6, hfz47_0, hfz47_1, hfz47_2, hfz47_3, hfz47_4, hfz47_5, hfz47_6⟩ := c7_ BK128; have p140 : 0 ≤ (a1 : Int) := of_decide_eq_true (by first | (with_reducible assumption) | assumption); have q140 : a1 < (l0_0.length : Int) := of_decide_eq_true (by first | (with_reducible assumption) | assumption); obtain ⟨ad140, A140_0, c140_0, A140_1, c140_1, A140_2, c140_2, e140, hx140_0, hx140_1, hx140_2, hx140_3, hl140_0, hi140_0, hl140_1, hi140_1, hl140_2, hi140_2⟩ := at_T85 HR0_0.out a1 p140 q140; cases e140; replace hx140_0 := (bc_ HB hx140_0 :); replace hx140_1 := (bc_ HB hx140_1 :); replace hx140_2 := (bc_ HB hx140_2 :); replace hx140_3 := (bc_ HB hx140_3 :); have HR140_0 := mk0 hi140_0; have HC140_0 := mk0 hl140_0; clear hi140_0 hl140_0; have HR140_1 := mk0 hi140_1; have HC140_1 := mk0 hl140_1; clear hi140_1 hl140_1; have HR140_2 := mk0 hi140_2; have HC140_2 := mk0 hl140_2; clear hi140_2 hl140_2; replace p140 := eq_true p140; replace q140 := eq_true q140) | ((with_reducible refine gate_dst (N := 12) rfl ?_); (try (refine gate_guard (by rfl) ?_; dsimp only)); refine bx_ (N := 12) (cs := #[.slice none 0 0, .slice none 0 0, .slice none 0 0, .bool false]) (t := 85) (h := ?_); intro gb141 hg w48 hbox hb; have n6_ := mk0 (gz_ HB hg); have n7_ := mk0 (gz_ HB hg); have n8_ := mk0 (ne1_ BK128 hg); have n9_ := mk0 (ne2_ BK128 hg); have GF141 := mk0 (fz_ BK135 hg); replace HO_129003 := mk0 (Kd.R_below (r_ HO_129003) hb); replace HO_129005 := mk0 (Kd.R_below (r_ HO_129005) hb); replace BK128 := mk0 (u_ BK128 hb); replace BK135 := mk0 (fu_ BK135 hb); replace HB := mk0 (bt_ (b_ HB) hb); have BK141 := mk0 (hbox); have GW141 := n6_; have GE141 := n7_; have NB128_141 := n8_; have NB141_128 := n9_;  clear n6_ n7_ n8_ n9_ hb hbox hg; have hnb49 := NB141_128.out; have hnc49 := NB128_141.out; obtain ⟨hcz51_0, hcz51_1, hcz51_2, hcz51_3, hfz51_0, hfz51_1, hfz51_2, hfz51_3⟩ := c4_ BK141)); go_upto_if 72 with (first | ((with_reducible refine gate_store (t := 4) (p := 62) rfl ?_); (try (rw [drewN_self wc]; generalize hq_ : World.drewN wc _ = wc; replace HO_129003 := mk0 (Kd.R_at hq_ HO_129003.out); replace HO_129005 := mk0 (Kd.R_at hq_ HO_129005.out); replace BK128 := mk0 (blk_at hq_ BK128.out); replace BK135 := mk0 (fat_ hq_ BK135.out); replace HB := mk0 (below_at hq_ HB.out); clear hq_; (try (have HP45 := Kd.R_putg HO_129003.out (a1 : Int) true)))); refine sv_ (t := 4) (p := 62) (w1 := (wc.setCell ⟨go40, (a1 : Int).toNat, none⟩ (.bool true))) (h := ?_); intro w46 hw; have hg : wc.grownBy w46 (some go40) := (by rw [hw]; exact HP45.2); have hp_ : Kd.R Kd.bool 4 w46 w.heap.size (fun _ => True) (.slice (some ⟨go40, 0, none⟩) y132.length co16) y139 := (by rw [hw, Ny139.out]; exact HP45.1); clear HP45; have n1_ := mk0 (Kd.R_over' (v := (.slice (some ⟨go40, 0, none⟩) y132.length co16)) (r_ HO_129005) (Kd.R_typed HO_129003.out) (by decide) hg); have n2_ := mk0 (blk_grown (g := gb128) (o := .cells #[.slice A0_0 l0_0.length c0_0, .int .i64 a0_1, .slice A0_2 l0_2.length c0_2, .slice (some ⟨go40, 0, none⟩) y132.length co16, .int .i64 a0_4, .slice Ao12 t129.length co12, .bool a0_6] 100 (0, 0)) (h_ BK128) hg (Kd.R_ne HO_129003.out BK128.out (by decide))); have n3_ := mk0 (fg_ (v := (.slice (some ⟨go40, 0, none⟩) y132.length co16)) (fh_ BK135) hg (Kd.R_typed HO_129003.out) (.inl rfl)); replace HO_129003 := mk0 (hp_); replace HB := mk0 ((by rw [hw]; exact bs_ (HB.out) GB40.out : Below w.heap.size w w46)); clear HO_129005 BK128 BK135; have HO_129005 := n1_; have BK128 := n2_; have BK135 := n3_; clear n1_ n2_ n3_ hg hw hp_; obtain ⟨hcz47_0, hcz47_1, hcz47_2, hcz47_3, hcz47_4, hcz47_5, hcz47_6, hfz47_0, hfz47_1, hfz47_2, hfz47_3, hfz47_4, hfz47_5, hfz47_6⟩ := c7_ BK128; have p140 : 0 ≤ (a1 : Int) := of_decide_eq_true (by first | (with_reducible assumption) | assumption); have q140 : a1 < (l0_0.length : Int) := of_decide_eq_true (by first | (with_reducible assumption) | assumption); obtain ⟨ad140, A140_0, c140_0, A140_1, c140_1, A140_2, c140_2, e140, hx140_0, hx140_1, hx140_2, hx140_3, hl140_0, hi140_0, hl140_1, hi140_1, hl140_2, hi140_2⟩ := at_T85 HR0_0.out a1 p140 q140; cases e140; replace hx140_0 := (bc_ HB hx140_0 :); replace hx140_1 := (bc_ HB hx140_1 :); replace hx140_2 := (bc_ HB hx140_2 :); replace hx140_3 := (bc_ HB hx140_3 :); have HR140_0 := mk0 hi140_0; have HC140_0 := mk0 hl140_0; clear hi140_0 hl140_0; have HR140_1 := mk0 hi140_1; have HC140_1 := mk0 hl140_1; clear hi140_1 hl140_1; have HR140_2 := mk0 hi140_2; have HC140_2 := mk0 hl140_2; clear hi140_2 hl140_2; replace p140 := eq_true p140; replace q140 := eq_true q140) | ((with_reducible refine gate_dst (N := 12) rfl ?_); (try (refine gate_guard (by rfl) ?_; dsimp only)); refine bx_ (N := 12) (cs := #[.slice none 0 0, .slice none 0 0, .slice none 0 0, .bool false]) (t := 85) (h := ?_); intro gb141 hg w48 hbox hb; have n6_ := mk0 (gz_ HB hg); have n7_ := mk0 (gz_ HB hg); have n8_ := mk0 (ne1_ BK128 hg); have n9_ := mk0 (ne2_ BK128 hg); have GF141 := mk0 (fz_ BK135 hg); replace HO_129003 := mk0 (Kd.R_below (r_ HO_129003) hb); replace HO_129005 := mk0 (Kd.R_below (r_ HO_129005) hb); replace BK128 := mk0 (u_ BK128 hb); replace BK135 := mk0 (fu_ BK135 hb); replace HB := mk0 (bt_ (b_ HB) hb); have BK141 := mk0 (hbox); have GW141 := n6_; have GE141 := n7_; have NB128_141 := n8_; have NB141_128 := n9_;  clear n6_ n7_ n8_ n9_ hb hbox hg; have hnb49 := NB141_128.out; have hnc49 := NB128_141.out; obtain ⟨hcz51_0, hcz51_1, hcz51_2, hcz51_3, hfz51_0, hfz51_1, hfz51_2, hfz51_3⟩ := c4_ BK141)))
 (try simp only [Act.put, List.setIfInBounds_toArray, List.set_cons_zero, List.set_cons_succ])
 go_cut [13] (fun v13 wc => ∃ (kq : Nat) (x13_41 : Int), v13 = .int .i64 x13_41 ∧ Fc (quorumref6_walk_node.j1 kq a1 a2 a3 a4 a5 x13_41 l0_0 a0_1 l0_2 y139 a0_4 t129 a0_6 ((rd_T85 l0_0 a1).f0) ((rd_T85 l0_0 a1).f1) ((rd_T85 l0_0 a1).f2) ((rd_T85 l0_0 a1).f3) = some (r0, r1, r2, r3)) ∧ Fc (kq ≤ kj8) ∧ Fc (Kd.R Kd.bool 4 wc w.heap.size (fun _ => True) (.slice (some ⟨go40, 0, none⟩) y132.length co16) y139) ∧ Fc (Kd.R k41 41 wc w.heap.size (fun _ => True) (.slice Ao12 t129.length co12) t129) ∧ Fc (wc.heap[gb128]? = some (.cells #[(.slice (some ad140) l0_0.length c0_0), .int .i64 a0_1, (.slice A0_2 l0_2.length c0_2), (.slice (some ⟨go40, 0, none⟩) y132.length co16), .int .i64 a0_4, (.slice Ao12 t129.length co12), .bool a0_6] 100 (0, 0))) ∧ Fc (Fr W wc gb128) ∧ Fc (wc.heap[gb141]? = some (.cells #[(.slice A140_0 ((rd_T85 l0_0 a1).f0).length c140_0), (.slice A140_1 ((rd_T85 l0_0 a1).f1).length c140_1), (.slice A140_2 ((rd_T85 l0_0 a1).f2).length c140_2), .bool ((rd_T85 l0_0 a1).f3)] 85 (0, 0))) ∧ Fc (Below w.heap.size w wc))
 case first =>
  have H := HC42.out
  clear HC42
  by_cases c52 : a5 = 1
  rotate_left
  ·rw [if_neg c52] at H
   have c52b0 : (a5 == 1) = false := beq_eq_false_iff_ne.mpr c52
   have c52b1 : (a5 != 1) = true := bne_iff_ne.mpr c52
   (first | rw [c52b0] | (simp only [i64_w, i32_w]; rw [c52b0]) | skip)
   have H' := mk0 H
   clear H
   go_wp2
   repeat (go_quiet (fail); try go_wp2)
   go_meet
   case rel => exact ⟨_, (2), (by first | rfl | (simp; done) | (simp [*]; done)), H', ⟨by have := HJ8.out; first | omega | exact Nat.le_refl _⟩, ⟨by (with_reducible repeat (first | apply Ra_ | apply Rn_ | apply Rd_)); exact Kd.R_mono (Kd.R_far (p := ⟨gb141, 3, none⟩) (Kd.R_far (p := ⟨gb141, 2, none⟩) (Kd.R_far (p := ⟨gb141, 1, none⟩) (Kd.R_far (p := ⟨gb141, 0, none⟩) (Kd.R_types HO_129003.out BK141.out (by decide)) (fun _ hk => hk.2) (.slice A140_0 ((rd_T85 l0_0 a1).f0).length c140_0)) (fun _ hk => hk.2) (.slice A140_1 ((rd_T85 l0_0 a1).f1).length c140_1)) (fun _ hk => hk.2) (.slice A140_2 ((rd_T85 l0_0 a1).f2).length c140_2)) (fun _ hk => hk.2) (.bool ((rd_T85 l0_0 a1).f3))) (fun _ hk => trivial)⟩, ⟨by (with_reducible repeat (first | apply Ra_ | apply Rn_ | apply Rd_)); exact Kd.R_mono (Kd.R_far (p := ⟨gb141, 3, none⟩) (Kd.R_far (p := ⟨gb141, 2, none⟩) (Kd.R_far (p := ⟨gb141, 1, none⟩) (Kd.R_far (p := ⟨gb141, 0, none⟩) (Kd.R_types HO_129005.out BK141.out (by decide)) (fun _ hk => hk.2) (.slice A140_0 ((rd_T85 l0_0 a1).f0).length c140_0)) (fun _ hk => hk.2) (.slice A140_1 ((rd_T85 l0_0 a1).f1).length c140_1)) (fun _ hk => hk.2) (.slice A140_2 ((rd_T85 l0_0 a1).f2).length c140_2)) (fun _ hk => hk.2) (.bool ((rd_T85 l0_0 a1).f3))) (fun _ hk => trivial)⟩, ⟨(fa_ (fa_ (fa_ (fa_ (h_ BK128) NB128_141.out) NB128_141.out) NB128_141.out) NB128_141.out)⟩, ⟨(fs_ (fs_ (fs_ (fs_ (fh_ BK135) GF141.out) GF141.out) GF141.out) GF141.out)⟩, ⟨(pu_ (cs := #[.slice A140_0 ((rd_T85 l0_0 a1).f0).length c140_0, .slice A140_1 ((rd_T85 l0_0 a1).f1).length c140_1, .slice A140_2 ((rd_T85 l0_0 a1).f2).length c140_2, .bool false]) (pu_ (cs := #[.slice A140_0 ((rd_T85 l0_0 a1).f0).length c140_0, .slice A140_1 ((rd_T85 l0_0 a1).f1).length c140_1, .slice none 0 0, .bool false]) (pu_ (cs := #[.slice A140_0 ((rd_T85 l0_0 a1).f0).length c140_0, .slice none 0 0, .slice none 0 0, .bool false]) (pu_ (cs := #[.slice none 0 0, .slice none 0 0, .slice none 0 0, .bool false]) (h_ BK141)))))⟩, ⟨b_ HB⟩⟩
  rw [if_pos c52] at H
  have c52b0 : (a5 == 1) = true := beq_iff_eq.mpr c52
  have c52b1 : (a5 != 1) = false := bne_eq_false_iff_eq.mpr c52
  clear c52
  (first | rw [c52b0] | (simp only [i64_w, i32_w]; rw [c52b0]) | skip)
  have H' := mk0 H
  clear H
  go_wp2
  repeat (go_quiet (fail); try go_wp2)
  go_meet
  case rel => exact ⟨_, (0), (by first | rfl | (simp; done) | (simp [*]; done)), H', ⟨by have := HJ8.out; first | omega | exact Nat.le_refl _⟩, ⟨by (with_reducible repeat (first | apply Ra_ | apply Rn_ | apply Rd_)); exact Kd.R_mono (Kd.R_far (p := ⟨gb141, 3, none⟩) (Kd.R_far (p := ⟨gb141, 2, none⟩) (Kd.R_far (p := ⟨gb141, 1, none⟩) (Kd.R_far (p := ⟨gb141, 0, none⟩) (Kd.R_types HO_129003.out BK141.out (by decide)) (fun _ hk => hk.2) (.slice A140_0 ((rd_T85 l0_0 a1).f0).length c140_0)) (fun _ hk => hk.2) (.slice A140_1 ((rd_T85 l0_0 a1).f1).length c140_1)) (fun _ hk => hk.2) (.slice A140_2 ((rd_T85 l0_0 a1).f2).length c140_2)) (fun _ hk => hk.2) (.bool ((rd_T85 l0_0 a1).f3))) (fun _ hk => trivial)⟩, ⟨by (with_reducible repeat (first | apply Ra_ | apply Rn_ | apply Rd_)); exact Kd.R_mono (Kd.R_far (p := ⟨gb141, 3, none⟩) (Kd.R_far (p := ⟨gb141, 2, none⟩) (Kd.R_far (p := ⟨gb141, 1, none⟩) (Kd.R_far (p := ⟨gb141, 0, none⟩) (Kd.R_types HO_129005.out BK141.out (by decide)) (fun _ hk => hk.2) (.slice A140_0 ((rd_T85 l0_0 a1).f0).length c140_0)) (fun _ hk => hk.2) (.slice A140_1 ((rd_T85 l0_0 a1).f1).length c140_1)) (fun _ hk => hk.2) (.slice A140_2 ((rd_T85 l0_0 a1).f2).length c140_2)) (fun _ hk => hk.2) (.bool ((rd_T85 l0_0 a1).f3))) (fun _ hk => trivial)⟩, ⟨(fa_ (fa_ (fa_ (fa_ (h_ BK128) NB128_141.out) NB128_141.out) NB128_141.out) NB128_141.out)⟩, ⟨(fs_ (fs_ (fs_ (fs_ (fh_ BK135) GF141.out) GF141.out) GF141.out) GF141.out)⟩, ⟨(pu_ (cs := #[.slice A140_0 ((rd_T85 l0_0 a1).f0).length c140_0, .slice A140_1 ((rd_T85 l0_0 a1).f1).length c140_1, .slice A140_2 ((rd_T85 l0_0 a1).f2).length c140_2, .bool false]) (pu_ (cs := #[.slice A140_0 ((rd_T85 l0_0 a1).f0).length c140_0, .slice A140_1 ((rd_T85 l0_0 a1).f1).length c140_1, .slice none 0 0, .bool false]) (pu_ (cs := #[.slice A140_0 ((rd_T85 l0_0 a1).f0).length c140_0, .slice none 0 0, .slice none 0 0, .bool false]) (pu_ (cs := #[.slice none 0 0, .slice none 0 0, .slice none 0 0, .bool false]) (h_ BK141)))))⟩, ⟨b_ HB⟩⟩
 clear HC42
 try clear c8
 try clear c8b0
 try clear c8b1
 try clear c19
 try clear c23
 try clear c24
 try clear c24b0
 try clear c25
 try clear c25b0
 try clear c27
 try clear c35
 try clear c38
 try clear c38b0
 try clear c39
 try clear c39b0
 try clear p40
 try clear q40
 try clear c41
 try clear c41b0
 try clear c52
 try clear c52b0
 try clear c52b1
 try clear hcz13_0 hcz13_1 hcz13_2 hcz13_3 hcz13_4 hcz13_5 hcz13_6 hfz13_0 hfz13_1 hfz13_2 hfz13_3 hfz13_4 hfz13_5 hfz13_6
 try clear hcz17_0 hcz17_1 hcz17_2 hcz17_3 hcz17_4 hcz17_5 hcz17_6 hfz17_0 hfz17_1 hfz17_2 hfz17_3 hfz17_4 hfz17_5 hfz17_6
 try clear hcz21_0 hcz21_1 hcz21_2 hcz21_3 hcz21_4 hcz21_5 hcz21_6 hfz21_0 hfz21_1 hfz21_2 hfz21_3 hfz21_4 hfz21_5 hfz21_6
 try clear hcz29_0 hcz29_1 hcz29_2 hcz29_3 hcz29_4 hcz29_5 hcz29_6 hfz29_0 hfz29_1 hfz29_2 hfz29_3 hfz29_4 hfz29_5 hfz29_6
 try clear hcz32_0 hcz32_1 hcz32_2 hcz32_3 hcz32_4 hcz32_5 hcz32_6 hfz32_0 hfz32_1 hfz32_2 hfz32_3 hfz32_4 hfz32_5 hfz32_6
 try clear hcz34_0 hcz34_1 hcz34_2 hcz34_3 hcz34_4 hcz34_5 hcz34_6 hfz34_0 hfz34_1 hfz34_2 hfz34_3 hfz34_4 hfz34_5 hfz34_6
 try clear hcz37_0 hcz37_1 hcz37_2 hcz37_3 hcz37_4 hcz37_5 hcz37_6 hfz37_0 hfz37_1 hfz37_2 hfz37_3 hfz37_4 hfz37_5 hfz37_6
 try clear hcz44_0 hcz44_1 hcz44_2 hcz44_3 hcz44_4 hcz44_5 hcz44_6 hfz44_0 hfz44_1 hfz44_2 hfz44_3 hfz44_4 hfz44_5 hfz44_6
 try clear hcz47_0 hcz47_1 hcz47_2 hcz47_3 hcz47_4 hcz47_5 hcz47_6 hfz47_0 hfz47_1 hfz47_2 hfz47_3 hfz47_4 hfz47_5 hfz47_6
 try clear hcz51_0 hcz51_1 hcz51_2 hcz51_3 hfz51_0 hfz51_1 hfz51_2 hfz51_3
 try clear hx137_0
 try clear hx140_0 hx140_1 hx140_2 hx140_3
 try clear hx40_0
 try clear p137
 try clear p140
 try clear p40
 try clear q137
 try clear q140
 try clear q40
 obtain ⟨kq, x13_41, rfl, HA, HJ41, HO_129003, HO_129005, BK128, BK135, BK141, HB⟩ := hcut
 have hl129003_41 := (Kd.R_reads' HO_129003.out).1
 rw [hl129003_41] at HO_129003
 (try simp only [hl129003_41])
 (try simp only [hl129003_41] at BK128)
 (try simp only [hl129003_41] at BK135)
 (try simp only [hl129003_41] at BK141)
 (try simp only [hl129003_41] at HO_129005)
 cases kq with
 | zero => exact absurd HA.out (by simp [quorumref6_walk_node.j1])
 | succ kj41 =>
 have H := HA.out
 clear HA
 simp only [quorumref6_walk_node.j1] at H
 as_aux_lemma =>
 have HC53 := mk0 H
 clear H
 go_upto_region 7 with (fail)
 repeat (go_quiet (fail); go_upto_region 7 with (fail))
 go_cut [83] (fun v83 wc => ∃ (kq : Nat) (x83_52 : Bool), v83 = .bool x83_52 ∧ Fc (quorumref6_walk_node.j2 kq a1 a2 a3 a4 a5 x83_52 l0_0 a0_1 l0_2 y139 a0_4 t129 a0_6 ((rd_T85 l0_0 a1).f0) ((rd_T85 l0_0 a1).f1) ((rd_T85 l0_0 a1).f2) ((rd_T85 l0_0 a1).f3) = some (r0, r1, r2, r3)) ∧ Fc (kq ≤ kj41) ∧ Fc (Kd.R Kd.bool 4 wc w.heap.size (fun _ => True) (.slice (some ⟨go40, 0, none⟩) y139.length co16) y139) ∧ Fc (Kd.R k41 41 wc w.heap.size (fun _ => True) (.slice Ao12 t129.length co12) t129) ∧ Fc (wc.heap[gb128]? = some (.cells #[(.slice (some ad140) l0_0.length c0_0), .int .i64 a0_1, (.slice A0_2 l0_2.length c0_2), (.slice (some ⟨go40, 0, none⟩) y139.length co16), .int .i64 a0_4, (.slice Ao12 t129.length co12), .bool a0_6] 100 (0, 0))) ∧ Fc (Fr W wc gb128) ∧ Fc (wc.heap[gb141]? = some (.cells #[(.slice A140_0 ((rd_T85 l0_0 a1).f0).length c140_0), (.slice A140_1 ((rd_T85 l0_0 a1).f1).length c140_1), (.slice A140_2 ((rd_T85 l0_0 a1).f2).length c140_2), .bool ((rd_T85 l0_0 a1).f3)] 85 (0, 0))) ∧ Fc (Below w.heap.size w wc))
 case first =>
  have H := HC53.out
  clear HC53
  by_cases c54 : (((rd_T85 l0_0 a1).f0).length : Int) > 4
  ·rw [if_pos c54] at H
   have c54b0 : decide (4 < (((rd_T85 l0_0 a1).f0).length : Int)) = true := decide_eq_true c54
   have c54b1 : decide (4 < ((rd_T85 l0_0 a1).f0).length) = true := decide_eq_true (by omega)
   clear c54
   (first | rw [c54b0] | (simp only [i64_w, i32_w]; rw [c54b0]) | skip)
   have H' := mk0 H
   clear H
   have hnb55 := NB141_128.out
   have hnc55 := NB128_141.out
   obtain ⟨hcz57_0, hcz57_1, hcz57_2, hcz57_3, hfz57_0, hfz57_1, hfz57_2, hfz57_3⟩ := c4_ BK141
   go_wp2
   repeat (go_quiet (fail); try go_wp2)
   go_meet
   case rel => exact ⟨_, (true), (by first | rfl | (simp; done) | (simp [*]; done)), H', ⟨by have := HJ8.out; have := HJ41.out; first | omega | exact Nat.le_refl _⟩, ⟨by (try simp only [hl129003_41]); (with_reducible repeat (first | apply Ra_ | apply Rn_ | apply Rd_)); exact HO_129003.out⟩, ⟨by (try simp only [hl129003_41]); (with_reducible repeat (first | apply Ra_ | apply Rn_ | apply Rd_)); exact HO_129005.out⟩, ⟨by (try simp only [hl129003_41]); (with_reducible repeat (first | refine bN_ ?_ _ | refine bD_ ?_ | refine bA_ ?_ _)); exact BK128.out⟩, ⟨by (try simp only [hl129003_41]); exact fh_ BK135⟩, ⟨by (try simp only [hl129003_41]); (with_reducible repeat (first | refine bN_ ?_ _ | refine bD_ ?_ | refine bA_ ?_ _)); exact BK141.out⟩, ⟨b_ HB⟩⟩
  rw [if_neg c54] at H
  have c54b0 : decide (4 < (((rd_T85 l0_0 a1).f0).length : Int)) = false := decide_eq_false c54
  have c54b1 : decide (4 < ((rd_T85 l0_0 a1).f0).length) = false := decide_eq_false (by omega)
  clear c54
  (first | rw [c54b0] | (simp only [i64_w, i32_w]; rw [c54b0]) | skip)
  have H' := mk0 H
  clear H
  have hnb58 := NB141_128.out
  have hnc58 := NB128_141.out
  obtain ⟨hcz60_0, hcz60_1, hcz60_2, hcz60_3, hfz60_0, hfz60_1, hfz60_2, hfz60_3⟩ := c4_ BK141
  go_wp2
  repeat (go_quiet (fail); try go_wp2)
  go_meet
  case rel => exact ⟨_, (decide ((((rd_T85 l0_0 a1).f0).length : Int) < x13_41)), (by first | rfl | (simp; done) | (simp [*]; done)), H', ⟨by have := HJ8.out; have := HJ41.out; first | omega | exact Nat.le_refl _⟩, ⟨by (try simp only [hl129003_41]); (with_reducible repeat (first | apply Ra_ | apply Rn_ | apply Rd_)); exact HO_129003.out⟩, ⟨by (try simp only [hl129003_41]); (with_reducible repeat (first | apply Ra_ | apply Rn_ | apply Rd_)); exact HO_129005.out⟩, ⟨by (try simp only [hl129003_41]); (with_reducible repeat (first | refine bN_ ?_ _ | refine bD_ ?_ | refine bA_ ?_ _)); exact BK128.out⟩, ⟨by (try simp only [hl129003_41]); exact fh_ BK135⟩, ⟨by (try simp only [hl129003_41]); (with_reducible repeat (first | refine bN_ ?_ _ | refine bD_ ?_ | refine bA_ ?_ _)); exact BK141.out⟩, ⟨b_ HB⟩⟩
 clear HC53
 try clear c8
 try clear c8b0
 try clear c8b1
 try clear c19
 try clear c23
 try clear c24
 try clear c24b0
 try clear c25
 try clear c25b0
 try clear c27
 try clear c35
 try clear c38
 try clear c38b0
 try clear c39
 try clear c39b0
 try clear p40
 try clear q40
 try clear c41
 try clear c41b0
 try clear c52
 try clear c52b0
 try clear c52b1
 try clear c54
 try clear c54b0
 try clear c54b1
 try clear hcz13_0 hcz13_1 hcz13_2 hcz13_3 hcz13_4 hcz13_5 hcz13_6 hfz13_0 hfz13_1 hfz13_2 hfz13_3 hfz13_4 hfz13_5 hfz13_6
 try clear hcz17_0 hcz17_1 hcz17_2 hcz17_3 hcz17_4 hcz17_5 hcz17_6 hfz17_0 hfz17_1 hfz17_2 hfz17_3 hfz17_4 hfz17_5 hfz17_6
 try clear hcz21_0 hcz21_1 hcz21_2 hcz21_3 hcz21_4 hcz21_5 hcz21_6 hfz21_0 hfz21_1 hfz21_2 hfz21_3 hfz21_4 hfz21_5 hfz21_6
 try clear hcz29_0 hcz29_1 hcz29_2 hcz29_3 hcz29_4 hcz29_5 hcz29_6 hfz29_0 hfz29_1 hfz29_2 hfz29_3 hfz29_4 hfz29_5 hfz29_6
 try clear hcz32_0 hcz32_1 hcz32_2 hcz32_3 hcz32_4 hcz32_5 hcz32_6 hfz32_0 hfz32_1 hfz32_2 hfz32_3 hfz32_4 hfz32_5 hfz32_6
 try clear hcz34_0 hcz34_1 hcz34_2 hcz34_3 hcz34_4 hcz34_5 hcz34_6 hfz34_0 hfz34_1 hfz34_2 hfz34_3 hfz34_4 hfz34_5 hfz34_6
 try clear hcz37_0 hcz37_1 hcz37_2 hcz37_3 hcz37_4 hcz37_5 hcz37_6 hfz37_0 hfz37_1 hfz37_2 hfz37_3 hfz37_4 hfz37_5 hfz37_6
 try clear hcz44_0 hcz44_1 hcz44_2 hcz44_3 hcz44_4 hcz44_5 hcz44_6 hfz44_0 hfz44_1 hfz44_2 hfz44_3 hfz44_4 hfz44_5 hfz44_6
 try clear hcz47_0 hcz47_1 hcz47_2 hcz47_3 hcz47_4 hcz47_5 hcz47_6 hfz47_0 hfz47_1 hfz47_2 hfz47_3 hfz47_4 hfz47_5 hfz47_6
 try clear hcz51_0 hcz51_1 hcz51_2 hcz51_3 hfz51_0 hfz51_1 hfz51_2 hfz51_3
 try clear hcz57_0 hcz57_1 hcz57_2 hcz57_3 hfz57_0 hfz57_1 hfz57_2 hfz57_3
 try clear hcz60_0 hcz60_1 hcz60_2 hcz60_3 hfz60_0 hfz60_1 hfz60_2 hfz60_3
 try clear hx137_0
 try clear hx140_0 hx140_1 hx140_2 hx140_3
 try clear hx40_0
 try clear p137
 try clear p140
 try clear p40
 try clear q137
 try clear q140
 try clear q40
 obtain ⟨kq, x83_52, rfl, HA, HJ52, HO_129003, HO_129005, BK128, BK135, BK141, HB⟩ := hcut
 cases kq with
 | zero => exact absurd HA.out (by simp [quorumref6_walk_node.j2])
 | succ kj52 =>
 have H := HA.out
 clear HA
 simp only [quorumref6_walk_node.j2] at H
 as_aux_lemma =>
 by_cases c61 : x83_52 = true
 ·subst c61
  rw [if_pos rfl] at H
  have hnb63 := NB128_141.out
  have hnc63 := NB141_128.out
  obtain ⟨hcz64_0, hcz64_1, hcz64_2, hcz64_3, hcz64_4, hcz64_5, hcz64_6, hfz64_0, hfz64_1, hfz64_2, hfz64_3, hfz64_4, hfz64_5, hfz64_6⟩ := c7_ BK128
  simp only [Option.some.injEq, Prod.mk.injEq] at H
  obtain ⟨rfl, rfl, rfl, rfl⟩ := H
  go_wp2
  repeat (go_quiet (fail); try go_wp2)
  first | go_end0 | ((try simp only [Exit.inBlock, Exit.then]); refine bodyPost_ret (results_none rfl _ _ _) rfl ?_)
  exact ⟨rfl, (.slice (some ⟨go40, 0, none⟩) y139.length co16), (by (try simp only [hl129003_41]); (with_reducible repeat (first | apply Ra_ | apply Rn_ | apply Rd_)); exact Kd.R_mono (Kd.R_far (p := ⟨gb128, 6, none⟩) (Kd.R_types HO_129003.out BK128.out (by decide)) (fun _ hk => hk.2) (.bool true)) (fun _ _ => trivial)), (.slice Ao12 t129.length co12), (by (try simp only [hl129003_41]); (with_reducible repeat (first | apply Ra_ | apply Rn_ | apply Rd_)); exact Kd.R_mono (Kd.R_far (p := ⟨gb128, 6, none⟩) (Kd.R_types HO_129005.out BK128.out (by decide)) (fun _ hk => hk.2) (.bool true)) (fun _ _ => trivial)), (by (try simp only [hl129003_41]); exact pu_ (cs := #[(.slice (some ad140) l0_0.length c0_0), .int .i64 a0_1, (.slice A0_2 l0_2.length c0_2), (.slice (some ⟨go40, 0, none⟩) y139.length co16), .int .i64 a0_4, (.slice Ao12 t129.length co12), .bool a0_6]) (h_ BK128)), ff_ (fh_ BK135), b_ HB⟩
 replace c61 := Bool.eq_false_iff.mpr c61
 subst c61
 rw [if_neg (show ¬ (false = true) by decide)] at H
 have H' := mk0 H
 clear H
 go_wp2
 repeat (go_quiet (fail); try go_wp2)
 go_loopg [14] kj52 (fun kq v14 w' => ∃ (x14_4 : Int) (x129006_4 : Bool), v14 = .int .i64 x14_4 ∧ Fc (quorumref6_walk_node.l0 kq a1 a2 a3 a4 a5 x14_4 l0_0 a0_1 l0_2 y139 a0_4 t129 x129006_4 ((rd_T85 l0_0 a1).f0) ((rd_T85 l0_0 a1).f1) ((rd_T85 l0_0 a1).f2) ((rd_T85 l0_0 a1).f3) = some (r0, r1, r2, r3)) ∧ Fc (kq ≤ kj52) ∧ Fc (Kd.R Kd.bool 4 w' w.heap.size (fun _ => True) (.slice (some ⟨go40, 0, none⟩) y139.length co16) y139) ∧ Fc (Kd.R k41 41 w' w.heap.size (fun _ => True) (.slice Ao12 t129.length co12) t129) ∧ Fc (w'.heap[gb128]? = some (.cells #[(.slice (some ad140) l0_0.length c0_0), .int .i64 a0_1, (.slice A0_2 l0_2.length c0_2), (.slice (some ⟨go40, 0, none⟩) y139.length co16), .int .i64 a0_4, (.slice Ao12 t129.length co12), .bool x129006_4] 100 (0, 0))) ∧ Fc (Fr W w' gb128) ∧ Fc (w'.heap[gb141]? = some (.cells #[(.slice A140_0 ((rd_T85 l0_0 a1).f0).length c140_0), (.slice A140_1 ((rd_T85 l0_0 a1).f1).length c140_1), (.slice A140_2 ((rd_T85 l0_0 a1).f2).length c140_2), .bool ((rd_T85 l0_0 a1).f3)] 85 (0, 0))) ∧ Fc (Below w.heap.size w w'))
 case atStart => exact ⟨(0), (a0_6), (by first | rfl | (simp; done) | (simp [*]; done)), H', ⟨Nat.le_refl _⟩, ⟨by (try simp only [hl129003_41]); (with_reducible repeat (first | apply Ra_ | apply Rn_ | apply Rd_)); exact HO_129003.out⟩, ⟨by (try simp only [hl129003_41]); (with_reducible repeat (first | apply Ra_ | apply Rn_ | apply Rd_)); exact HO_129005.out⟩, ⟨by (try simp only [hl129003_41]); (with_reducible repeat (first | refine bN_ ?_ _ | refine bD_ ?_ | refine bA_ ?_ _)); exact BK128.out⟩, ⟨by (try simp only [hl129003_41]); exact fh_ BK135⟩, ⟨by (try simp only [hl129003_41]); (with_reducible repeat (first | refine bN_ ?_ _ | refine bD_ ?_ | refine bA_ ?_ _)); exact BK141.out⟩, ⟨b_ HB⟩⟩
 clear H'
 try clear c8
 try clear c8b0
 try clear c8b1
 try clear c19
 try clear c23
 try clear c24
 try clear c24b0
 try clear c25
 try clear c25b0
 try clear c27
 try clear c35
 try clear c38
 try clear c38b0
 try clear c39
 try clear c39b0
 try clear p40
 try clear q40
 try clear c41
 try clear c41b0
 try clear c52
 try clear c52b0
 try clear c52b1
 try clear c54
 try clear c54b0
 try clear c54b1
 try clear c61
 try clear hcz13_0 hcz13_1 hcz13_2 hcz13_3 hcz13_4 hcz13_5 hcz13_6 hfz13_0 hfz13_1 hfz13_2 hfz13_3 hfz13_4 hfz13_5 hfz13_6
 try clear hcz17_0 hcz17_1 hcz17_2 hcz17_3 hcz17_4 hcz17_5 hcz17_6 hfz17_0 hfz17_1 hfz17_2 hfz17_3 hfz17_4 hfz17_5 hfz17_6
 try clear hcz21_0 hcz21_1 hcz21_2 hcz21_3 hcz21_4 hcz21_5 hcz21_6 hfz21_0 hfz21_1 hfz21_2 hfz21_3 hfz21_4 hfz21_5 hfz21_6
 try clear hcz29_0 hcz29_1 hcz29_2 hcz29_3 hcz29_4 hcz29_5 hcz29_6 hfz29_0 hfz29_1 hfz29_2 hfz29_3 hfz29_4 hfz29_5 hfz29_6
 try clear hcz32_0 hcz32_1 hcz32_2 hcz32_3 hcz32_4 hcz32_5 hcz32_6 hfz32_0 hfz32_1 hfz32_2 hfz32_3 hfz32_4 hfz32_5 hfz32_6
 try clear hcz34_0 hcz34_1 hcz34_2 hcz34_3 hcz34_4 hcz34_5 hcz34_6 hfz34_0 hfz34_1 hfz34_2 hfz34_3 hfz34_4 hfz34_5 hfz34_6
 try clear hcz37_0 hcz37_1 hcz37_2 hcz37_3 hcz37_4 hcz37_5 hcz37_6 hfz37_0 hfz37_1 hfz37_2 hfz37_3 hfz37_4 hfz37_5 hfz37_6
 try clear hcz44_0 hcz44_1 hcz44_2 hcz44_3 hcz44_4 hcz44_5 hcz44_6 hfz44_0 hfz44_1 hfz44_2 hfz44_3 hfz44_4 hfz44_5 hfz44_6
 try clear hcz47_0 hcz47_1 hcz47_2 hcz47_3 hcz47_4 hcz47_5 hcz47_6 hfz47_0 hfz47_1 hfz47_2 hfz47_3 hfz47_4 hfz47_5 hfz47_6
 try clear hcz51_0 hcz51_1 hcz51_2 hcz51_3 hfz51_0 hfz51_1 hfz51_2 hfz51_3
 try clear hcz57_0 hcz57_1 hcz57_2 hcz57_3 hfz57_0 hfz57_1 hfz57_2 hfz57_3
 try clear hcz60_0 hcz60_1 hcz60_2 hcz60_3 hfz60_0 hfz60_1 hfz60_2 hfz60_3
 try clear hcz64_0 hcz64_1 hcz64_2 hcz64_3 hcz64_4 hcz64_5 hcz64_6 hfz64_0 hfz64_1 hfz64_2 hfz64_3 hfz64_4 hfz64_5 hfz64_6
 try clear hx137_0
 try clear hx140_0 hx140_1 hx140_2 hx140_3
 try clear hx40_0
 try clear p137
 try clear p140
 try clear p40
 try clear q137
 try clear q140
 try clear q40
 obtain ⟨x14_4, x129006_4, rfl, HA, HK4, HO_129003, HO_129005, BK128, BK135, BK141, HB⟩ := hrel
 cases gk with
 | zero => exact absurd HA.out (by simp [quorumref6_walk_node.l0])
 | succ k4 =>
 have H := HA.out
 clear HA
 simp only [quorumref6_walk_node.l0] at H
 as_aux_lemma =>
 by_cases c65 : x14_4 < (((rd_T85 l0_0 a1).f0).length : Int)
 ·rw [if_pos c65] at H
  have c65b0 : decide (x14_4 < (((rd_T85 l0_0 a1).f0).length : Int)) = true := decide_eq_true c65
  clear c65
  have HC66 := mk0 H
  clear H
  have hnb67 := NB141_128.out
  have hnc67 := NB128_141.out
  obtain ⟨hcz69_0, hcz69_1, hcz69_2, hcz69_3, hfz69_0, hfz69_1, hfz69_2, hfz69_3⟩ := c4_ BK141
  go_upto_region 12 with (fail)
  repeat (go_quiet (fail); go_upto_region 12 with (fail))
  go_cut [131] (fun v131 wc => ∃ (kq : Nat) (x131_65 : Bool), v131 = .bool x131_65 ∧ Fc (quorumref6_walk_node.j4 kq a1 a2 a3 a4 a5 x14_4 x131_65 l0_0 a0_1 l0_2 y139 a0_4 t129 x129006_4 ((rd_T85 l0_0 a1).f0) ((rd_T85 l0_0 a1).f1) ((rd_T85 l0_0 a1).f2) ((rd_T85 l0_0 a1).f3) = some (r0, r1, r2, r3)) ∧ Fc (kq ≤ k4) ∧ Fc (Kd.R Kd.bool 4 wc w.heap.size (fun _ => True) (.slice (some ⟨go40, 0, none⟩) y139.length co16) y139) ∧ Fc (Kd.R k41 41 wc w.heap.size (fun _ => True) (.slice Ao12 t129.length co12) t129) ∧ Fc (wc.heap[gb128]? = some (.cells #[(.slice (some ad140) l0_0.length c0_0), .int .i64 a0_1, (.slice A0_2 l0_2.length c0_2), (.slice (some ⟨go40, 0, none⟩) y139.length co16), .int .i64 a0_4, (.slice Ao12 t129.length co12), .bool x129006_4] 100 (0, 0))) ∧ Fc (Fr W wc gb128) ∧ Fc (wc.heap[gb141]? = some (.cells #[(.slice A140_0 ((rd_T85 l0_0 a1).f0).length c140_0), (.slice A140_1 ((rd_T85 l0_0 a1).f1).length c140_1), (.slice A140_2 ((rd_T85 l0_0 a1).f2).length c140_2), .bool ((rd_T85 l0_0 a1).f3)] 85 (0, 0))) ∧ Fc (Below w.heap.size w wc))
  case first =>
   have H := HC66.out
   clear HC66
   by_cases c70 : x14_4 > 0
   rotate_left
   ·rw [if_neg c70] at H
    have c70b0 : decide (0 < x14_4) = false := decide_eq_false c70
    clear c70
    (first | rw [c70b0] | (simp only [i64_w, i32_w]; rw [c70b0]) | skip)
    by_cases c90 : 0 ≤ x14_4
    rotate_left
    ·rw [if_neg c90] at H
     exact absurd H (by simp)
    rw [if_pos c90] at H
    have c90b0 : decide (0 ≤ x14_4) = true := decide_eq_true c90
    clear c90
    by_cases c91 : (Op.bytesLess ((rdOf ByteArray.empty ((rd_T85 l0_0 a1).f0) x14_4).toList) a2.toList) = true
    ·rw [if_pos c91] at H
     have c91b0 : (Op.bytesLess ((rdOf ByteArray.empty ((rd_T85 l0_0 a1).f0) x14_4).toList) a2.toList) = true := c91
     clear c91
     have H' := mk0 H
     clear H
     have hnb92 := NB141_128.out
     have hnc92 := NB128_141.out
     obtain ⟨hcz94_0, hcz94_1, hcz94_2, hcz94_3, hfz94_0, hfz94_1, hfz94_2, hfz94_3⟩ := c4_ BK141
     have p146 : 0 ≤ (x14_4 : Int) := of_decide_eq_true (by first | (with_reducible assumption) | assumption)
     have q146 : x14_4 < (((rd_T85 l0_0 a1).f0).length : Int) := of_decide_eq_true (by first | (with_reducible assumption) | assumption)
     obtain ⟨ad146, e146, hx146_0⟩ := Kd.at_string HR140_0.out x14_4 p146 q146
     cases e146
     replace hx146_0 := (bc_ HB hx146_0 :)
     replace p146 := eq_true p146
     replace q146 := eq_true q146
     go_wp2
     repeat (go_quiet (fail); try go_wp2)
     go_meet
     case rel => exact ⟨_, (true), (by first | rfl | (simp; done) | (simp [*]; done)), H', ⟨by have := HJ8.out; have := HJ41.out; have := HJ52.out; have := HK4.out; first | omega | exact Nat.le_refl _⟩, ⟨by (try simp only [hl129003_41]); (with_reducible repeat (first | apply Ra_ | apply Rn_ | apply Rd_)); exact HO_129003.out⟩, ⟨by (try simp only [hl129003_41]); (with_reducible repeat (first | apply Ra_ | apply Rn_ | apply Rd_)); exact HO_129005.out⟩, ⟨by (try simp only [hl129003_41]); (with_reducible repeat (first | refine bN_ ?_ _ | refine bD_ ?_ | refine bA_ ?_ _)); exact BK128.out⟩, ⟨by (try simp only [hl129003_41]); exact fh_ BK135⟩, ⟨by (try simp only [hl129003_41]); (with_reducible repeat (first | refine bN_ ?_ _ | refine bD_ ?_ | refine bA_ ?_ _)); exact BK141.out⟩, ⟨b_ HB⟩⟩
    rw [if_neg c91] at H
    have c91b0 : (Op.bytesLess ((rdOf ByteArray.empty ((rd_T85 l0_0 a1).f0) x14_4).toList) a2.toList) = false := by simpa using c91
    clear c91
    by_cases c95 : a4 = true
    ·subst c95
     rw [if_pos rfl] at H
     have H' := mk0 H
     clear H
     have hnb96 := NB141_128.out
     have hnc96 := NB128_141.out
     obtain ⟨hcz98_0, hcz98_1, hcz98_2, hcz98_3, hfz98_0, hfz98_1, hfz98_2, hfz98_3⟩ := c4_ BK141
     have p146 : 0 ≤ (x14_4 : Int) := of_decide_eq_true (by first | (with_reducible assumption) | assumption)
     have q146 : x14_4 < (((rd_T85 l0_0 a1).f0).length : Int) := of_decide_eq_true (by first | (with_reducible assumption) | assumption)
     obtain ⟨ad146, e146, hx146_0⟩ := Kd.at_string HR140_0.out x14_4 p146 q146
     cases e146
     replace hx146_0 := (bc_ HB hx146_0 :)
     replace p146 := eq_true p146
     replace q146 := eq_true q146
     go_wp2
     repeat (go_quiet (fail); try go_wp2)
     go_meet
     case rel => exact ⟨_, (false), (by first | rfl | (simp; done) | (simp [*]; done)), H', ⟨by have := HJ8.out; have := HJ41.out; have := HJ52.out; have := HK4.out; first | omega | exact Nat.le_refl _⟩, ⟨by (try simp only [hl129003_41]); (with_reducible repeat (first | apply Ra_ | apply Rn_ | apply Rd_)); exact HO_129003.out⟩, ⟨by (try simp only [hl129003_41]); (with_reducible repeat (first | apply Ra_ | apply Rn_ | apply Rd_)); exact HO_129005.out⟩, ⟨by (try simp only [hl129003_41]); (with_reducible repeat (first | refine bN_ ?_ _ | refine bD_ ?_ | refine bA_ ?_ _)); exact BK128.out⟩, ⟨by (try simp only [hl129003_41]); exact fh_ BK135⟩, ⟨by (try simp only [hl129003_41]); (with_reducible repeat (first | refine bN_ ?_ _ | refine bD_ ?_ | refine bA_ ?_ _)); exact BK141.out⟩, ⟨b_ HB⟩⟩
    replace c95 := Bool.eq_false_iff.mpr c95
    subst c95
    rw [if_neg (show ¬ (false = true) by decide)] at H
    have H' := mk0 H
    clear H
    have hnb99 := NB141_128.out
    have hnc99 := NB128_141.out
    obtain ⟨hcz101_0, hcz101_1, hcz101_2, hcz101_3, hfz101_0, hfz101_1, hfz101_2, hfz101_3⟩ := c4_ BK141
    have p146 : 0 ≤ (x14_4 : Int) := of_decide_eq_true (by first | (with_reducible assumption) | assumption)
    have q146 : x14_4 < (((rd_T85 l0_0 a1).f0).length : Int) := of_decide_eq_true (by first | (with_reducible assumption) | assumption)
    obtain ⟨ad146, e146, hx146_0⟩ := Kd.at_string HR140_0.out x14_4 p146 q146
    cases e146
    replace hx146_0 := (bc_ HB hx146_0 :)
    replace p146 := eq_true p146
    replace q146 := eq_true q146
    have p147 : 0 ≤ (x14_4 : Int) := of_decide_eq_true (by first | (with_reducible assumption) | assumption)
    have q147 : x14_4 < (((rd_T85 l0_0 a1).f0).length : Int) := of_decide_eq_true (by first | (with_reducible assumption) | assumption)
    obtain ⟨ad147, e147, hx147_0⟩ := Kd.at_string HR140_0.out x14_4 p147 q147
    obtain rfl : ad146 = ad147 := (by injection e147)
    replace hx147_0 := (bc_ HB hx147_0 :)
    replace p147 := eq_true p147
    replace q147 := eq_true q147
    go_wp2
    repeat (go_quiet (fail); try go_wp2)
    go_meet
    case rel => exact ⟨_, (!(Op.bytesLess ((rdOf ByteArray.empty ((rd_T85 l0_0 a1).f0) x14_4).toList) a3.toList)), (by first | rfl | (simp; done) | (simp [*]; done)), H', ⟨by have := HJ8.out; have := HJ41.out; have := HJ52.out; have := HK4.out; first | omega | exact Nat.le_refl _⟩, ⟨by (try simp only [hl129003_41]); (with_reducible repeat (first | apply Ra_ | apply Rn_ | apply Rd_)); exact HO_129003.out⟩, ⟨by (try simp only [hl129003_41]); (with_reducible repeat (first | apply Ra_ | apply Rn_ | apply Rd_)); exact HO_129005.out⟩, ⟨by (try simp only [hl129003_41]); (with_reducible repeat (first | refine bN_ ?_ _ | refine bD_ ?_ | refine bA_ ?_ _)); exact BK128.out⟩, ⟨by (try simp only [hl129003_41]); exact fh_ BK135⟩, ⟨by (try simp only [hl129003_41]); (with_reducible repeat (first | refine bN_ ?_ _ | refine bD_ ?_ | refine bA_ ?_ _)); exact BK141.out⟩, ⟨b_ HB⟩⟩
   rw [if_pos c70] at H
   have c70b0 : decide (0 < x14_4) = true := decide_eq_true c70
   clear c70
   (first | rw [c70b0] | (simp only [i64_w, i32_w]; rw [c70b0]) | skip)
   obtain ⟨ji71, hji71⟩ : ∃ j_ : Int, (wrap64 (x14_4 - 1)) = j_ := ⟨_, rfl⟩
   replace H : (if 0 ≤ (ji71) then (if (ji71) < (((rd_T85 l0_0 a1).f0).length : Int) then (if 0 ≤ x14_4 then (if ((Op.bytesLess ((rdOf ByteArray.empty ((rd_T85 l0_0 a1).f0) (ji71)).toList) ((rdOf ByteArray.empty ((rd_T85 l0_0 a1).f0) x14_4).toList)) = true) then (if (Op.bytesLess ((rdOf ByteArray.empty ((rd_T85 l0_0 a1).f0) x14_4).toList) a2.toList) = true then (quorumref6_walk_node.j4 k4 a1 a2 a3 a4 a5 x14_4 true l0_0 a0_1 l0_2 y139 a0_4 t129 x129006_4 ((rd_T85 l0_0 a1).f0) ((rd_T85 l0_0 a1).f1) ((rd_T85 l0_0 a1).f2) ((rd_T85 l0_0 a1).f3)) else (if a4 = true then (quorumref6_walk_node.j4 k4 a1 a2 a3 a4 a5 x14_4 false l0_0 a0_1 l0_2 y139 a0_4 t129 x129006_4 ((rd_T85 l0_0 a1).f0) ((rd_T85 l0_0 a1).f1) ((rd_T85 l0_0 a1).f2) ((rd_T85 l0_0 a1).f3)) else (quorumref6_walk_node.j4 k4 a1 a2 a3 a4 a5 x14_4 (!(Op.bytesLess ((rdOf ByteArray.empty ((rd_T85 l0_0 a1).f0) x14_4).toList) a3.toList)) l0_0 a0_1 l0_2 y139 a0_4 t129 x129006_4 ((rd_T85 l0_0 a1).f0) ((rd_T85 l0_0 a1).f1) ((rd_T85 l0_0 a1).f2) ((rd_T85 l0_0 a1).f3)))) else (quorumref6_walk_node.j4 k4 a1 a2 a3 a4 a5 x14_4 true l0_0 a0_1 l0_2 y139 a0_4 t129 x129006_4 ((rd_T85 l0_0 a1).f0) ((rd_T85 l0_0 a1).f1) ((rd_T85 l0_0 a1).f2) ((rd_T85 l0_0 a1).f3))) else (none)) else (none)) else (none)) = some (r0, r1, r2, r3) := by first | (rw [hji71] at H; exact H) | (simp only [hji71] at H ⊢; exact H)
   have hji71w : (IntKind.i64.wrap (x14_4 - 1)) = ji71 := (i64_w _).trans hji71
   by_cases c72 : 0 ≤ (ji71)
   rotate_left
   ·rw [if_neg c72] at H
    exact absurd H (by simp)
   rw [if_pos c72] at H
   have c72b0 : decide (0 ≤ (ji71)) = true := decide_eq_true c72
   clear c72
   by_cases c73 : (ji71) < (((rd_T85 l0_0 a1).f0).length : Int)
   rotate_left
   ·rw [if_neg c73] at H
    exact absurd H (by simp)
   rw [if_pos c73] at H
   have c73b0 : decide ((ji71) < (((rd_T85 l0_0 a1).f0).length : Int)) = true := decide_eq_true c73
   clear c73
   by_cases c74 : 0 ≤ x14_4
   rotate_left
   ·rw [if_neg c74] at H
    exact absurd H (by simp)
   rw [if_pos c74] at H
   have c74b0 : decide (0 ≤ x14_4) = true := decide_eq_true c74
   clear c74
   by_cases c75 : ((Op.bytesLess ((rdOf ByteArray.empty ((rd_T85 l0_0 a1).f0) (ji71)).toList) ((rdOf ByteArray.empty ((rd_T85 l0_0 a1).f0) x14_4).toList)) = true)
   rotate_left
   ·rw [if_neg c75] at H
    have c75b0 : (Op.bytesLess ((rdOf ByteArray.empty ((rd_T85 l0_0 a1).f0) (ji71)).toList) ((rdOf ByteArray.empty ((rd_T85 l0_0 a1).f0) x14_4).toList)) = false := by simpa using c75
    have c75l0 : (Op.bytesLess ((rdOf ByteArray.empty ((rd_T85 l0_0 a1).f0) x14_4).toList) ((rdOf ByteArray.empty ((rd_T85 l0_0 a1).f0) (ji71)).toList) || ((rdOf ByteArray.empty ((rd_T85 l0_0 a1).f0) x14_4).toList) == ((rdOf ByteArray.empty ((rd_T85 l0_0 a1).f0) (ji71)).toList)) = true := by rw [leq_, c75b0]; rfl
    clear c75
    have H' := mk0 H
    clear H
    have hnb87 := NB141_128.out
    have hnc87 := NB128_141.out
    obtain ⟨hcz89_0, hcz89_1, hcz89_2, hcz89_3, hfz89_0, hfz89_1, hfz89_2, hfz89_3⟩ := c4_ BK141
    have p142 : 0 ≤ ((ji71) : Int) := of_decide_eq_true (by first | (with_reducible assumption) | assumption)
    have q142 : (ji71) < (((rd_T85 l0_0 a1).f0).length : Int) := of_decide_eq_true (by first | (with_reducible assumption) | assumption)
    obtain ⟨ad142, e142, hx142_0⟩ := Kd.at_string HR140_0.out (ji71) p142 q142
    cases e142
    replace hx142_0 := (bc_ HB hx142_0 :)
    replace p142 := eq_true p142
    replace q142 := eq_true q142
    have p143 : 0 ≤ (x14_4 : Int) := of_decide_eq_true (by first | (with_reducible assumption) | assumption)
    have q143 : x14_4 < (((rd_T85 l0_0 a1).f0).length : Int) := of_decide_eq_true (by first | (with_reducible assumption) | assumption)
    obtain ⟨ad143, e143, hx143_0⟩ := Kd.at_string HR140_0.out x14_4 p143 q143
    obtain rfl : ad142 = ad143 := (by injection e143)
    replace hx143_0 := (bc_ HB hx143_0 :)
    replace p143 := eq_true p143
    replace q143 := eq_true q143
    go_wp2
    repeat (go_quiet (fail); try go_wp2)
    go_meet
    case rel => exact ⟨_, (true), (by first | rfl | (simp; done) | (simp [*]; done)), H', ⟨by have := HJ8.out; have := HJ41.out; have := HJ52.out; have := HK4.out; first | omega | exact Nat.le_refl _⟩, ⟨by (try simp only [hl129003_41]); (with_reducible repeat (first | apply Ra_ | apply Rn_ | apply Rd_)); exact HO_129003.out⟩, ⟨by (try simp only [hl129003_41]); (with_reducible repeat (first | apply Ra_ | apply Rn_ | apply Rd_)); exact HO_129005.out⟩, ⟨by (try simp only [hl129003_41]); (with_reducible repeat (first | refine bN_ ?_ _ | refine bD_ ?_ | refine bA_ ?_ _)); exact BK128.out⟩, ⟨by (try simp only [hl129003_41]); exact fh_ BK135⟩, ⟨by (try simp only [hl129003_41]); (with_reducible repeat (first | refine bN_ ?_ _ | refine bD_ ?_ | refine bA_ ?_ _)); exact BK141.out⟩, ⟨b_ HB⟩⟩
   rw [if_pos c75] at H
   have c75b0 : (Op.bytesLess ((rdOf ByteArray.empty ((rd_T85 l0_0 a1).f0) (ji71)).toList) ((rdOf ByteArray.empty ((rd_T85 l0_0 a1).f0) x14_4).toList)) = true := c75
   have c75l0 : (Op.bytesLess ((rdOf ByteArray.empty ((rd_T85 l0_0 a1).f0) x14_4).toList) ((rdOf ByteArray.empty ((rd_T85 l0_0 a1).f0) (ji71)).toList) || ((rdOf ByteArray.empty ((rd_T85 l0_0 a1).f0) x14_4).toList) == ((rdOf ByteArray.empty ((rd_T85 l0_0 a1).f0) (ji71)).toList)) = false := by rw [leq_, c75b0]; rfl
   clear c75
   by_cases c76 : (Op.bytesLess ((rdOf ByteArray.empty ((rd_T85 l0_0 a1).f0) x14_4).toList) a2.toList) = true
   ·rw [if_pos c76] at H
    have c76b0 : (Op.bytesLess ((rdOf ByteArray.empty ((rd_T85 l0_0 a1).f0) x14_4).toList) a2.toList) = true := c76
    clear c76
    have H' := mk0 H
    clear H
    have hnb77 := NB141_128.out
    have hnc77 := NB128_141.out
    obtain ⟨hcz79_0, hcz79_1, hcz79_2, hcz79_3, hfz79_0, hfz79_1, hfz79_2, hfz79_3⟩ := c4_ BK141
    have p142 : 0 ≤ ((ji71) : Int) := of_decide_eq_true (by first | (with_reducible assumption) | assumption)
    have q142 : (ji71) < (((rd_T85 l0_0 a1).f0).length : Int) := of_decide_eq_true (by first | (with_reducible assumption) | assumption)
    obtain ⟨ad142, e142, hx142_0⟩ := Kd.at_string HR140_0.out (ji71) p142 q142
    cases e142
    replace hx142_0 := (bc_ HB hx142_0 :)
    replace p142 := eq_true p142
    replace q142 := eq_true q142
    have p143 : 0 ≤ (x14_4 : Int) := of_decide_eq_true (by first | (with_reducible assumption) | assumption)
    have q143 : x14_4 < (((rd_T85 l0_0 a1).f0).length : Int) := of_decide_eq_true (by first | (with_reducible assumption) | assumption)
    obtain ⟨ad143, e143, hx143_0⟩ := Kd.at_string HR140_0.out x14_4 p143 q143
    obtain rfl : ad142 = ad143 := (by injection e143)
    replace hx143_0 := (bc_ HB hx143_0 :)
    replace p143 := eq_true p143
    replace q143 := eq_true q143
    have p144 : 0 ≤ (x14_4 : Int) := of_decide_eq_true (by first | (with_reducible assumption) | assumption)
    have q144 : x14_4 < (((rd_T85 l0_0 a1).f0).length : Int) := of_decide_eq_true (by first | (with_reducible assumption) | assumption)
    obtain ⟨ad144, e144, hx144_0⟩ := Kd.at_string HR140_0.out x14_4 p144 q144
    obtain rfl : ad142 = ad144 := (by injection e144)
    replace hx144_0 := (bc_ HB hx144_0 :)
    replace p144 := eq_true p144
    replace q144 := eq_true q144
    go_wp2
    repeat (go_quiet (fail); try go_wp2)
    go_meet
    case rel => exact ⟨_, (true), (by first | rfl | (simp; done) | (simp [*]; done)), H', ⟨by have := HJ8.out; have := HJ41.out; have := HJ52.out; have := HK4.out; first | omega | exact Nat.le_refl _⟩, ⟨by (try simp only [hl129003_41]); (with_reducible repeat (first | apply Ra_ | apply Rn_ | apply Rd_)); exact HO_129003.out⟩, ⟨by (try simp only [hl129003_41]); (with_reducible repeat (first | apply Ra_ | apply Rn_ | apply Rd_)); exact HO_129005.out⟩, ⟨by (try simp only [hl129003_41]); (with_reducible repeat (first | refine bN_ ?_ _ | refine bD_ ?_ | refine bA_ ?_ _)); exact BK128.out⟩, ⟨by (try simp only [hl129003_41]); exact fh_ BK135⟩, ⟨by (try simp only [hl129003_41]); (with_reducible repeat (first | refine bN_ ?_ _ | refine bD_ ?_ | refine bA_ ?_ _)); exact BK141.out⟩, ⟨b_ HB⟩⟩
   rw [if_neg c76] at H
   have c76b0 : (Op.bytesLess ((rdOf ByteArray.empty ((rd_T85 l0_0 a1).f0) x14_4).toList) a2.toList) = false := by simpa using c76
   clear c76
   by_cases c80 : a4 = true
   ·subst c80
    rw [if_pos rfl] at H
    have H' := mk0 H
    clear H
    have hnb81 := NB141_128.out
    have hnc81 := NB128_141.out
    obtain ⟨hcz83_0, hcz83_1, hcz83_2, hcz83_3, hfz83_0, hfz83_1, hfz83_2, hfz83_3⟩ := c4_ BK141
    have p142 : 0 ≤ ((ji71) : Int) := of_decide_eq_true (by first | (with_reducible assumption) | assumption)
    have q142 : (ji71) < (((rd_T85 l0_0 a1).f0).length : Int) := of_decide_eq_true (by first | (with_reducible assumption) | assumption)
    obtain ⟨ad142, e142, hx142_0⟩ := Kd.at_string HR140_0.out (ji71) p142 q142
    cases e142
    replace hx142_0 := (bc_ HB hx142_0 :)
    replace p142 := eq_true p142
    replace q142 := eq_true q142
    have p143 : 0 ≤ (x14_4 : Int) := of_decide_eq_true (by first | (with_reducible assumption) | assumption)
    have q143 : x14_4 < (((rd_T85 l0_0 a1).f0).length : Int) := of_decide_eq_true (by first | (with_reducible assumption) | assumption)
    obtain ⟨ad143, e143, hx143_0⟩ := Kd.at_string HR140_0.out x14_4 p143 q143
    obtain rfl : ad142 = ad143 := (by injection e143)
    replace hx143_0 := (bc_ HB hx143_0 :)
    replace p143 := eq_true p143
    replace q143 := eq_true q143
    have p144 : 0 ≤ (x14_4 : Int) := of_decide_eq_true (by first | (with_reducible assumption) | assumption)
    have q144 : x14_4 < (((rd_T85 l0_0 a1).f0).length : Int) := of_decide_eq_true (by first | (with_reducible assumption) | assumption)
    obtain ⟨ad144, e144, hx144_0⟩ := Kd.at_string HR140_0.out x14_4 p144 q144
    obtain rfl : ad142 = ad144 := (by injection e144)
    replace hx144_0 := (bc_ HB hx144_0 :)
    replace p144 := eq_true p144
    replace q144 := eq_true q144
    go_wp2
    repeat (go_quiet (fail); try go_wp2)
    go_meet
    case rel => exact ⟨_, (false), (by first | rfl | (simp; done) | (simp [*]; done)), H', ⟨by have := HJ8.out; have := HJ41.out; have := HJ52.out; have := HK4.out; first | omega | exact Nat.le_refl _⟩, ⟨by (try simp only [hl129003_41]); (with_reducible repeat (first | apply Ra_ | apply Rn_ | apply Rd_)); exact HO_129003.out⟩, ⟨by (try simp only [hl129003_41]); (with_reducible repeat (first | apply Ra_ | apply Rn_ | apply Rd_)); exact HO_129005.out⟩, ⟨by (try simp only [hl129003_41]); (with_reducible repeat (first | refine bN_ ?_ _ | refine bD_ ?_ | refine bA_ ?_ _)); exact BK128.out⟩, ⟨by (try simp only [hl129003_41]); exact fh_ BK135⟩, ⟨by (try simp only [hl129003_41]); (with_reducible repeat (first | refine bN_ ?_ _ | refine bD_ ?_ | refine bA_ ?_ _)); exact BK141.out⟩, ⟨b_ HB⟩⟩
   replace c80 := Bool.eq_false_iff.mpr c80
   subst c80
   rw [if_neg (show ¬ (false = true) by decide)] at H
   have H' := mk0 H
   clear H
   have hnb84 := NB141_128.out
   have hnc84 := NB128_141.out
   obtain ⟨hcz86_0, hcz86_1, hcz86_2, hcz86_3, hfz86_0, hfz86_1, hfz86_2, hfz86_3⟩ := c4_ BK141
   have p142 : 0 ≤ ((ji71) : Int) := of_decide_eq_true (by first | (with_reducible assumption) | assumption)
   have q142 : (ji71) < (((rd_T85 l0_0 a1).f0).length : Int) := of_decide_eq_true (by first | (with_reducible assumption) | assumption)
   obtain ⟨ad142, e142, hx142_0⟩ := Kd.at_string HR140_0.out (ji71) p142 q142
   cases e142
   replace hx142_0 := (bc_ HB hx142_0 :)
   replace p142 := eq_true p142
   replace q142 := eq_true q142
   have p143 : 0 ≤ (x14_4 : Int) := of_decide_eq_true (by first | (with_reducible assumption) | assumption)
   have q143 : x14_4 < (((rd_T85 l0_0 a1).f0).length : Int) := of_decide_eq_true (by first | (with_reducible assumption) | assumption)
   obtain ⟨ad143, e143, hx143_0⟩ := Kd.at_string HR140_0.out x14_4 p143 q143
   obtain rfl : ad142 = ad143 := (by injection e143)
   replace hx143_0 := (bc_ HB hx143_0 :)
   replace p143 := eq_true p143
   replace q143 := eq_true q143
   have p144 : 0 ≤ (x14_4 : Int) := of_decide_eq_true (by first | (with_reducible assumption) | assumption)
   have q144 : x14_4 < (((rd_T85 l0_0 a1).f0).length : Int) := of_decide_eq_true (by first | (with_reducible assumption) | assumption)
   obtain ⟨ad144, e144, hx144_0⟩ := Kd.at_string HR140_0.out x14_4 p144 q144
   obtain rfl : ad142 = ad144 := (by injection e144)
   replace hx144_0 := (bc_ HB hx144_0 :)
   replace p144 := eq_true p144
   replace q144 := eq_true q144
   have p145 : 0 ≤ (x14_4 : Int) := of_decide_eq_true (by first | (with_reducible assumption) | assumption)
   have q145 : x14_4 < (((rd_T85 l0_0 a1).f0).length : Int) := of_decide_eq_true (by first | (with_reducible assumption) | assumption)
   obtain ⟨ad145, e145, hx145_0⟩ := Kd.at_string HR140_0.out x14_4 p145 q145
   obtain rfl : ad142 = ad145 := (by injection e145)
   replace hx145_0 := (bc_ HB hx145_0 :)
   replace p145 := eq_true p145
   replace q145 := eq_true q145
   go_wp2
   repeat (go_quiet (fail); try go_wp2)
   go_meet
   case rel => exact ⟨_, (!(Op.bytesLess ((rdOf ByteArray.empty ((rd_T85 l0_0 a1).f0) x14_4).toList) a3.toList)), (by first | rfl | (simp; done) | (simp [*]; done)), H', ⟨by have := HJ8.out; have := HJ41.out; have := HJ52.out; have := HK4.out; first | omega | exact Nat.le_refl _⟩, ⟨by (try simp only [hl129003_41]); (with_reducible repeat (first | apply Ra_ | apply Rn_ | apply Rd_)); exact HO_129003.out⟩, ⟨by (try simp only [hl129003_41]); (with_reducible repeat (first | apply Ra_ | apply Rn_ | apply Rd_)); exact HO_129005.out⟩, ⟨by (try simp only [hl129003_41]); (with_reducible repeat (first | refine bN_ ?_ _ | refine bD_ ?_ | refine bA_ ?_ _)); exact BK128.out⟩, ⟨by (try simp only [hl129003_41]); exact fh_ BK135⟩, ⟨by (try simp only [hl129003_41]); (with_reducible repeat (first | refine bN_ ?_ _ | refine bD_ ?_ | refine bA_ ?_ _)); exact BK141.out⟩, ⟨b_ HB⟩⟩
  clear HC66
  try clear c8
  try clear c8b0
  try clear c8b1
  try clear c19
  try clear c23
  try clear c24
  try clear c24b0
  try clear c25
  try clear c25b0
  try clear c27
  try clear c35
  try clear c38
  try clear c38b0
  try clear c39
  try clear c39b0
  try clear p40
  try clear q40
  try clear c41
  try clear c41b0
  try clear c52
  try clear c52b0
  try clear c52b1
  try clear c54
  try clear c54b0
  try clear c54b1
  try clear c61
  try clear c65
  try clear c65b0
  try clear c70
  try clear c70b0
  try clear c72
  try clear c72b0
  try clear c73
  try clear c73b0
  try clear c74
  try clear c74b0
  try clear c75
  try clear c75b0
  try clear c76
  try clear c76b0
  try clear c80
  try clear c90
  try clear c90b0
  try clear c91
  try clear c91b0
  try clear c95
  try clear hcz101_0 hcz101_1 hcz101_2 hcz101_3 hfz101_0 hfz101_1 hfz101_2 hfz101_3
  try clear hcz13_0 hcz13_1 hcz13_2 hcz13_3 hcz13_4 hcz13_5 hcz13_6 hfz13_0 hfz13_1 hfz13_2 hfz13_3 hfz13_4 hfz13_5 hfz13_6
  try clear hcz17_0 hcz17_1 hcz17_2 hcz17_3 hcz17_4 hcz17_5 hcz17_6 hfz17_0 hfz17_1 hfz17_2 hfz17_3 hfz17_4 hfz17_5 hfz17_6
  try clear hcz21_0 hcz21_1 hcz21_2 hcz21_3 hcz21_4 hcz21_5 hcz21_6 hfz21_0 hfz21_1 hfz21_2 hfz21_3 hfz21_4 hfz21_5 hfz21_6
  try clear hcz29_0 hcz29_1 hcz29_2 hcz29_3 hcz29_4 hcz29_5 hcz29_6 hfz29_0 hfz29_1 hfz29_2 hfz29_3 hfz29_4 hfz29_5 hfz29_6
  try clear hcz32_0 hcz32_1 hcz32_2 hcz32_3 hcz32_4 hcz32_5 hcz32_6 hfz32_0 hfz32_1 hfz32_2 hfz32_3 hfz32_4 hfz32_5 hfz32_6
  try clear hcz34_0 hcz34_1 hcz34_2 hcz34_3 hcz34_4 hcz34_5 hcz34_6 hfz34_0 hfz34_1 hfz34_2 hfz34_3 hfz34_4 hfz34_5 hfz34_6
  try clear hcz37_0 hcz37_1 hcz37_2 hcz37_3 hcz37_4 hcz37_5 hcz37_6 hfz37_0 hfz37_1 hfz37_2 hfz37_3 hfz37_4 hfz37_5 hfz37_6
  try clear hcz44_0 hcz44_1 hcz44_2 hcz44_3 hcz44_4 hcz44_5 hcz44_6 hfz44_0 hfz44_1 hfz44_2 hfz44_3 hfz44_4 hfz44_5 hfz44_6
  try clear hcz47_0 hcz47_1 hcz47_2 hcz47_3 hcz47_4 hcz47_5 hcz47_6 hfz47_0 hfz47_1 hfz47_2 hfz47_3 hfz47_4 hfz47_5 hfz47_6
  try clear hcz51_0 hcz51_1 hcz51_2 hcz51_3 hfz51_0 hfz51_1 hfz51_2 hfz51_3
  try clear hcz57_0 hcz57_1 hcz57_2 hcz57_3 hfz57_0 hfz57_1 hfz57_2 hfz57_3
  try clear hcz60_0 hcz60_1 hcz60_2 hcz60_3 hfz60_0 hfz60_1 hfz60_2 hfz60_3
  try clear hcz64_0 hcz64_1 hcz64_2 hcz64_3 hcz64_4 hcz64_5 hcz64_6 hfz64_0 hfz64_1 hfz64_2 hfz64_3 hfz64_4 hfz64_5 hfz64_6
  try clear hcz69_0 hcz69_1 hcz69_2 hcz69_3 hfz69_0 hfz69_1 hfz69_2 hfz69_3
  try clear hcz79_0 hcz79_1 hcz79_2 hcz79_3 hfz79_0 hfz79_1 hfz79_2 hfz79_3
  try clear hcz83_0 hcz83_1 hcz83_2 hcz83_3 hfz83_0 hfz83_1 hfz83_2 hfz83_3
  try clear hcz86_0 hcz86_1 hcz86_2 hcz86_3 hfz86_0 hfz86_1 hfz86_2 hfz86_3
  try clear hcz89_0 hcz89_1 hcz89_2 hcz89_3 hfz89_0 hfz89_1 hfz89_2 hfz89_3
  try clear hcz94_0 hcz94_1 hcz94_2 hcz94_3 hfz94_0 hfz94_1 hfz94_2 hfz94_3
  try clear hcz98_0 hcz98_1 hcz98_2 hcz98_3 hfz98_0 hfz98_1 hfz98_2 hfz98_3
  try clear hx137_0
  try clear hx140_0 hx140_1 hx140_2 hx140_3
  try clear hx142_0
  try clear hx143_0
  try clear hx144_0
  try clear hx145_0
  try clear hx146_0
  try clear hx147_0
  try clear hx40_0
  try clear p137
  try clear p140
  try clear p142
  try clear p143
  try clear p144
  try clear p145
  try clear p146
  try clear p147
  try clear p40
  try clear q137
  try clear q140
  try clear q142
  try clear q143
  try clear q144
  try clear q145
  try clear q146
  try clear q147
  try clear q40
  obtain ⟨kq, x131_65, rfl, HA, HJ65, HO_129003, HO_129005, BK128, BK135, BK141, HB⟩ := hcut
  cases kq with
  | zero => exact absurd HA.out (by simp [quorumref6_walk_node.j4])
  | succ kj65 =>
  have H := HA.out
  clear HA
  simp only [quorumref6_walk_node.j4] at H
  as_aux_lemma =>
  by_cases c102 : x131_65 = true
  rotate_left
  ·replace c102 := Bool.eq_false_iff.mpr c102
   subst c102
   rw [if_neg (show ¬ (false = true) by decide)] at H
   have H' := mk0 H
   clear H
   go_wp2
   repeat (go_quiet (fail); try go_wp2)
   go_roundg kj65
   case measure => have := HJ8.out; have := HJ41.out; have := HJ52.out; have := HK4.out; have := HJ65.out; omega
   case rel => exact ⟨(wrap64 (x14_4 + 1)), (x129006_4), (by first | rfl | (simp; done) | (simp [*]; done)), H', ⟨by have := HJ8.out; have := HJ41.out; have := HJ52.out; have := HK4.out; have := HJ65.out; omega⟩, ⟨by (try simp only [hl129003_41]); (with_reducible repeat (first | apply Ra_ | apply Rn_ | apply Rd_)); exact HO_129003.out⟩, ⟨by (try simp only [hl129003_41]); (with_reducible repeat (first | apply Ra_ | apply Rn_ | apply Rd_)); exact HO_129005.out⟩, ⟨by (try simp only [hl129003_41]); (with_reducible repeat (first | refine bN_ ?_ _ | refine bD_ ?_ | refine bA_ ?_ _)); exact BK128.out⟩, ⟨by (try simp only [hl129003_41]); exact fh_ BK135⟩, ⟨by (try simp only [hl129003_41]); (with_reducible repeat (first | refine bN_ ?_ _ | refine bD_ ?_ | refine bA_ ?_ _)); exact BK141.out⟩, ⟨b_ HB⟩⟩
  subst c102
  rw [if_pos rfl] at H
  have hnb104 := NB128_141.out
  have hnc104 := NB141_128.out
  obtain ⟨hcz105_0, hcz105_1, hcz105_2, hcz105_3, hcz105_4, hcz105_5, hcz105_6, hfz105_0, hfz105_1, hfz105_2, hfz105_3, hfz105_4, hfz105_5, hfz105_6⟩ := c7_ BK128
  simp only [Option.some.injEq, Prod.mk.injEq] at H
  obtain ⟨rfl, rfl, rfl, rfl⟩ := H
  go_wp2
  repeat (go_quiet (fail); try go_wp2)
  first | go_end0 | ((try simp only [Exit.inBlock, Exit.then]); refine bodyPost_ret (results_none rfl _ _ _) rfl ?_)
  exact ⟨rfl, (.slice (some ⟨go40, 0, none⟩) y139.length co16), (by (try simp only [hl129003_41]); (with_reducible repeat (first | apply Ra_ | apply Rn_ | apply Rd_)); exact Kd.R_mono (Kd.R_far (p := ⟨gb128, 6, none⟩) (Kd.R_types HO_129003.out BK128.out (by decide)) (fun _ hk => hk.2) (.bool true)) (fun _ _ => trivial)), (.slice Ao12 t129.length co12), (by (try simp only [hl129003_41]); (with_reducible repeat (first | apply Ra_ | apply Rn_ | apply Rd_)); exact Kd.R_mono (Kd.R_far (p := ⟨gb128, 6, none⟩) (Kd.R_types HO_129005.out BK128.out (by decide)) (fun _ hk => hk.2) (.bool true)) (fun _ _ => trivial)), (by (try simp only [hl129003_41]); exact pu_ (cs := #[(.slice (some ad140) l0_0.length c0_0), .int .i64 a0_1, (.slice A0_2 l0_2.length c0_2), (.slice (some ⟨go40, 0, none⟩) y139.length co16), .int .i64 a0_4, (.slice Ao12 t129.length co12), .bool x129006_4]) (h_ BK128)), ff_ (fh_ BK135), b_ HB⟩
 rw [if_neg c65] at H
 have c65b0 : decide (x14_4 < (((rd_T85 l0_0 a1).f0).length : Int)) = false := decide_eq_false c65
 clear c65
 by_cases c106 : ((rd_T85 l0_0 a1).f3) = true
 ·rw [if_pos c106] at H
  have c106b0 : ((rd_T85 l0_0 a1).f3) = true := c106
  clear c106
  have hnb107 := NB141_128.out
  have hnc107 := NB128_141.out
  obtain ⟨hcz109_0, hcz109_1, hcz109_2, hcz109_3, hfz109_0, hfz109_1, hfz109_2, hfz109_3⟩ := c4_ BK141
  replace H := Option.bind_eq_some_iff.mp H
  obtain ⟨⟨q1_, q2_, q3_⟩, AL0, H⟩ := H
  try dsimp only at H
  simp only [Option.some.injEq, Prod.mk.injEq] at H
  obtain ⟨rfl, rfl, rfl, rfl⟩ := H
  rw [c106b0] at AL0
  have AL := mk0 AL0
  clear AL0
  have HLF := quorumref6_walk_leaf.calls k4 w wr gb128 (some ad140) c0_0 l0_0 a0_1 A0_2 c0_2 l0_2 (some ⟨go40, 0, none⟩) co16 y139 a0_4 Ao12 co12 t129 x129006_4 A140_0 c140_0 ((rd_T85 l0_0 a1).f0) A140_1 c140_1 ((rd_T85 l0_0 a1).f1) A140_2 c140_2 ((rd_T85 l0_0 a1).f2) true a5 q1_ q2_ q3_ HR140_0.out HC140_0.out HR140_1.out HC140_1.out HR140_2.out HC140_2.out HO_129003 HO_129005 BK128 GE128 HB AL.out
  go_wp2_with (first | ((with_reducible refine gate_callee (f := 81) rfl ?_); refine gL_ (some 140) Tryd.func81 #[.pointer (some ⟨gb128, 0, none⟩), .agg #[.slice A140_0 ((rd_T85 l0_0 a1).f0).length c140_0, .slice A140_1 ((rd_T85 l0_0 a1).f1).length c140_1, .slice A140_2 ((rd_T85 l0_0 a1).f2).length c140_2, .bool true], .int .i64 a5] (h := ?_); (with_reducible refine HLF.mono ?_); clear HLF; rintro e w9 ⟨rfl, h3_, v5_, h5_, hbk_, hfr_, hB_⟩; refine ⟨_, rfl, ?_⟩; have HE1 := mk0 h3_; have HE2 := mk0 h5_; have HE3 := mk0 hbk_; have HE4 := mk0 (Fr.trans (fh_ BK135) hfr_); have HE5 := mk0 hB_; clear h3_ h5_ hbk_ hfr_ hB_))
  first | go_end0 | ((try simp only [Exit.inBlock, Exit.then]); refine bodyPost_ret (results_none rfl _ _ _) rfl ?_)
  exact ⟨rfl, _, HE1.out, v5_, HE2.out, HE3.out, HE4.out, HE5.out⟩
 rw [if_neg c106] at H
 have c106b0 : ((rd_T85 l0_0 a1).f3) = false := by simpa using c106
 clear c106
 have HC110 := mk0 H
 clear H
 have hnb111 := NB141_128.out
 have hnc111 := NB128_141.out
 obtain ⟨hcz113_0, hcz113_1, hcz113_2, hcz113_3, hfz113_0, hfz113_1, hfz113_2, hfz113_3⟩ := c4_ BK141
 go_upto_region 16 with (fail)
 repeat (go_quiet (fail); go_upto_region 16 with (fail))
 go_cut [160] (fun v160 wc => ∃ (kq : Nat) (x160_109 : Bool), v160 = .bool x160_109 ∧ Fc (quorumref6_walk_node.j5 kq a1 a2 a3 a4 a5 x160_109 l0_0 a0_1 l0_2 y139 a0_4 t129 x129006_4 ((rd_T85 l0_0 a1).f0) ((rd_T85 l0_0 a1).f1) ((rd_T85 l0_0 a1).f2) ((rd_T85 l0_0 a1).f3) = some (r0, r1, r2, r3)) ∧ Fc (kq ≤ k4) ∧ Fc (Kd.R Kd.bool 4 wc w.heap.size (fun _ => True) (.slice (some ⟨go40, 0, none⟩) y139.length co16) y139) ∧ Fc (Kd.R k41 41 wc w.heap.size (fun _ => True) (.slice Ao12 t129.length co12) t129) ∧ Fc (wc.heap[gb128]? = some (.cells #[(.slice (some ad140) l0_0.length c0_0), .int .i64 a0_1, (.slice A0_2 l0_2.length c0_2), (.slice (some ⟨go40, 0, none⟩) y139.length co16), .int .i64 a0_4, (.slice Ao12 t129.length co12), .bool x129006_4] 100 (0, 0))) ∧ Fc (Fr W wc gb128) ∧ Fc (wc.heap[gb141]? = some (.cells #[(.slice A140_0 ((rd_T85 l0_0 a1).f0).length c140_0), (.slice A140_1 ((rd_T85 l0_0 a1).f1).length c140_1), (.slice A140_2 ((rd_T85 l0_0 a1).f2).length c140_2), .bool ((rd_T85 l0_0 a1).f3)] 85 (0, 0))) ∧ Fc (Below w.heap.size w wc))
 case first =>
  have H := HC110.out
  clear HC110
  by_cases c114 : (((rd_T85 l0_0 a1).f1).length : Int) > 0
  ·rw [if_pos c114] at H
   have c114b0 : decide (0 < (((rd_T85 l0_0 a1).f1).length : Int)) = true := decide_eq_true c114
   have c114b1 : decide (0 < ((rd_T85 l0_0 a1).f1).length) = true := decide_eq_true (by omega)
   clear c114
   (first | rw [c114b0] | (simp only [i64_w, i32_w]; rw [c114b0]) | skip)
   have H' := mk0 H
   clear H
   have hnb115 := NB141_128.out
   have hnc115 := NB128_141.out
   obtain ⟨hcz117_0, hcz117_1, hcz117_2, hcz117_3, hfz117_0, hfz117_1, hfz117_2, hfz117_3⟩ := c4_ BK141
   go_wp2
   repeat (go_quiet (fail); try go_wp2)
   go_meet
   case rel => exact ⟨_, (true), (by first | rfl | (simp; done) | (simp [*]; done)), H', ⟨by have := HJ8.out; have := HJ41.out; have := HJ52.out; have := HK4.out; first | omega | exact Nat.le_refl _⟩, ⟨by (try simp only [hl129003_41]); (with_reducible repeat (first | apply Ra_ | apply Rn_ | apply Rd_)); exact HO_129003.out⟩, ⟨by (try simp only [hl129003_41]); (with_reducible repeat (first | apply Ra_ | apply Rn_ | apply Rd_)); exact HO_129005.out⟩, ⟨by (try simp only [hl129003_41]); (with_reducible repeat (first | refine bN_ ?_ _ | refine bD_ ?_ | refine bA_ ?_ _)); exact BK128.out⟩, ⟨by (try simp only [hl129003_41]); exact fh_ BK135⟩, ⟨by (try simp only [hl129003_41]); (with_reducible repeat (first | refine bN_ ?_ _ | refine bD_ ?_ | refine bA_ ?_ _)); exact BK141.out⟩, ⟨b_ HB⟩⟩
  rw [if_neg c114] at H
  have c114b0 : decide (0 < (((rd_T85 l0_0 a1).f1).length : Int)) = false := decide_eq_false c114
  have c114b1 : decide (0 < ((rd_T85 l0_0 a1).f1).length) = false := decide_eq_false (by omega)
  clear c114
  (first | rw [c114b0] | (simp only [i64_w, i32_w]; rw [c114b0]) | skip)
  by_cases c118 : (((rd_T85 l0_0 a1).f0).length : Int) = 0
  ·rw [if_pos c118] at H
   have c118b0 : ((((rd_T85 l0_0 a1).f0).length : Int) == 0) = true := beq_iff_eq.mpr c118
   have c118b1 : ((((rd_T85 l0_0 a1).f0).length : Int) != 0) = false := bne_eq_false_iff_eq.mpr c118
   clear c118
   have H' := mk0 H
   clear H
   have hnb119 := NB141_128.out
   have hnc119 := NB128_141.out
   obtain ⟨hcz121_0, hcz121_1, hcz121_2, hcz121_3, hfz121_0, hfz121_1, hfz121_2, hfz121_3⟩ := c4_ BK141
   go_wp2
   repeat (go_quiet (fail); try go_wp2)
   go_meet
   case rel => exact ⟨_, (true), (by first | rfl | (simp; done) | (simp [*]; done)), H', ⟨by have := HJ8.out; have := HJ41.out; have := HJ52.out; have := HK4.out; first | omega | exact Nat.le_refl _⟩, ⟨by (try simp only [hl129003_41]); (with_reducible repeat (first | apply Ra_ | apply Rn_ | apply Rd_)); exact HO_129003.out⟩, ⟨by (try simp only [hl129003_41]); (with_reducible repeat (first | apply Ra_ | apply Rn_ | apply Rd_)); exact HO_129005.out⟩, ⟨by (try simp only [hl129003_41]); (with_reducible repeat (first | refine bN_ ?_ _ | refine bD_ ?_ | refine bA_ ?_ _)); exact BK128.out⟩, ⟨by (try simp only [hl129003_41]); exact fh_ BK135⟩, ⟨by (try simp only [hl129003_41]); (with_reducible repeat (first | refine bN_ ?_ _ | refine bD_ ?_ | refine bA_ ?_ _)); exact BK141.out⟩, ⟨b_ HB⟩⟩
  rw [if_neg c118] at H
  have c118b0 : ((((rd_T85 l0_0 a1).f0).length : Int) == 0) = false := beq_eq_false_iff_ne.mpr c118
  have c118b1 : ((((rd_T85 l0_0 a1).f0).length : Int) != 0) = true := bne_iff_ne.mpr c118
  have c118b2 : ¬ (((rd_T85 l0_0 a1).f0) = []) := fun h_ => c118 (by rw [h_]; rfl)
  have H' := mk0 H
  clear H
  have hnb122 := NB141_128.out
  have hnc122 := NB128_141.out
  obtain ⟨hcz124_0, hcz124_1, hcz124_2, hcz124_3, hfz124_0, hfz124_1, hfz124_2, hfz124_3⟩ := c4_ BK141
  go_wp2
  repeat (go_quiet (fail); try go_wp2)
  go_meet
  case rel => exact ⟨_, (((((rd_T85 l0_0 a1).f2).length : Int) != (wrap64 ((((rd_T85 l0_0 a1).f0).length : Int) + 1)))), (by first | rfl | (simp; done) | (simp [*]; done)), H', ⟨by have := HJ8.out; have := HJ41.out; have := HJ52.out; have := HK4.out; first | omega | exact Nat.le_refl _⟩, ⟨by (try simp only [hl129003_41]); (with_reducible repeat (first | apply Ra_ | apply Rn_ | apply Rd_)); exact HO_129003.out⟩, ⟨by (try simp only [hl129003_41]); (with_reducible repeat (first | apply Ra_ | apply Rn_ | apply Rd_)); exact HO_129005.out⟩, ⟨by (try simp only [hl129003_41]); (with_reducible repeat (first | refine bN_ ?_ _ | refine bD_ ?_ | refine bA_ ?_ _)); exact BK128.out⟩, ⟨by (try simp only [hl129003_41]); exact fh_ BK135⟩, ⟨by (try simp only [hl129003_41]); (with_reducible repeat (first | refine bN_ ?_ _ | refine bD_ ?_ | refine bA_ ?_ _)); exact BK141.out⟩, ⟨b_ HB⟩⟩
 clear HC110
 try clear c8
 try clear c8b0
 try clear c8b1
 try clear c19
 try clear c23
 try clear c24
 try clear c24b0
 try clear c25
 try clear c25b0
 try clear c27
 try clear c35
 try clear c38
 try clear c38b0
 try clear c39
 try clear c39b0
 try clear p40
 try clear q40
 try clear c41
 try clear c41b0
 try clear c52
 try clear c52b0
 try clear c52b1
 try clear c54
 try clear c54b0
 try clear c54b1
 try clear c61
 try clear c65
 try clear c65b0
 try clear c70
 try clear c70b0
 try clear c72
 try clear c72b0
 try clear c73
 try clear c73b0
 try clear c74
 try clear c74b0
 try clear c75
 try clear c75b0
 try clear c76
 try clear c76b0
 try clear c80
 try clear c90
 try clear c90b0
 try clear c91
 try clear c91b0
 try clear c95
 try clear c102
 try clear c106
 try clear c106b0
 try clear c114
 try clear c114b0
 try clear c114b1
 try clear c118
 try clear c118b0
 try clear c118b1
 try clear c118b2
 try clear hcz101_0 hcz101_1 hcz101_2 hcz101_3 hfz101_0 hfz101_1 hfz101_2 hfz101_3
 try clear hcz105_0 hcz105_1 hcz105_2 hcz105_3 hcz105_4 hcz105_5 hcz105_6 hfz105_0 hfz105_1 hfz105_2 hfz105_3 hfz105_4 hfz105_5 hfz105_6
 try clear hcz109_0 hcz109_1 hcz109_2 hcz109_3 hfz109_0 hfz109_1 hfz109_2 hfz109_3
 try clear hcz113_0 hcz113_1 hcz113_2 hcz113_3 hfz113_0 hfz113_1 hfz113_2 hfz113_3
 try clear hcz117_0 hcz117_1 hcz117_2 hcz117_3 hfz117_0 hfz117_1 hfz117_2 hfz117_3
 try clear hcz121_0 hcz121_1 hcz121_2 hcz121_3 hfz121_0 hfz121_1 hfz121_2 hfz121_3
 try clear hcz124_0 hcz124_1 hcz124_2 hcz124_3 hfz124_0 hfz124_1 hfz124_2 hfz124_3
 try clear hcz13_0 hcz13_1 hcz13_2 hcz13_3 hcz13_4 hcz13_5 hcz13_6 hfz13_0 hfz13_1 hfz13_2 hfz13_3 hfz13_4 hfz13_5 hfz13_6
 try clear hcz17_0 hcz17_1 hcz17_2 hcz17_3 hcz17_4 hcz17_5 hcz17_6 hfz17_0 hfz17_1 hfz17_2 hfz17_3 hfz17_4 hfz17_5 hfz17_6
 try clear hcz21_0 hcz21_1 hcz21_2 hcz21_3 hcz21_4 hcz21_5 hcz21_6 hfz21_0 hfz21_1 hfz21_2 hfz21_3 hfz21_4 hfz21_5 hfz21_6
 try clear hcz29_0 hcz29_1 hcz29_2 hcz29_3 hcz29_4 hcz29_5 hcz29_6 hfz29_0 hfz29_1 hfz29_2 hfz29_3 hfz29_4 hfz29_5 hfz29_6
 try clear hcz32_0 hcz32_1 hcz32_2 hcz32_3 hcz32_4 hcz32_5 hcz32_6 hfz32_0 hfz32_1 hfz32_2 hfz32_3 hfz32_4 hfz32_5 hfz32_6
 try clear hcz34_0 hcz34_1 hcz34_2 hcz34_3 hcz34_4 hcz34_5 hcz34_6 hfz34_0 hfz34_1 hfz34_2 hfz34_3 hfz34_4 hfz34_5 hfz34_6
 try clear hcz37_0 hcz37_1 hcz37_2 hcz37_3 hcz37_4 hcz37_5 hcz37_6 hfz37_0 hfz37_1 hfz37_2 hfz37_3 hfz37_4 hfz37_5 hfz37_6
 try clear hcz44_0 hcz44_1 hcz44_2 hcz44_3 hcz44_4 hcz44_5 hcz44_6 hfz44_0 hfz44_1 hfz44_2 hfz44_3 hfz44_4 hfz44_5 hfz44_6
 try clear hcz47_0 hcz47_1 hcz47_2 hcz47_3 hcz47_4 hcz47_5 hcz47_6 hfz47_0 hfz47_1 hfz47_2 hfz47_3 hfz47_4 hfz47_5 hfz47_6
 try clear hcz51_0 hcz51_1 hcz51_2 hcz51_3 hfz51_0 hfz51_1 hfz51_2 hfz51_3
 try clear hcz57_0 hcz57_1 hcz57_2 hcz57_3 hfz57_0 hfz57_1 hfz57_2 hfz57_3
 try clear hcz60_0 hcz60_1 hcz60_2 hcz60_3 hfz60_0 hfz60_1 hfz60_2 hfz60_3
 try clear hcz64_0 hcz64_1 hcz64_2 hcz64_3 hcz64_4 hcz64_5 hcz64_6 hfz64_0 hfz64_1 hfz64_2 hfz64_3 hfz64_4 hfz64_5 hfz64_6
 try clear hcz69_0 hcz69_1 hcz69_2 hcz69_3 hfz69_0 hfz69_1 hfz69_2 hfz69_3
 try clear hcz79_0 hcz79_1 hcz79_2 hcz79_3 hfz79_0 hfz79_1 hfz79_2 hfz79_3
 try clear hcz83_0 hcz83_1 hcz83_2 hcz83_3 hfz83_0 hfz83_1 hfz83_2 hfz83_3
 try clear hcz86_0 hcz86_1 hcz86_2 hcz86_3 hfz86_0 hfz86_1 hfz86_2 hfz86_3
 try clear hcz89_0 hcz89_1 hcz89_2 hcz89_3 hfz89_0 hfz89_1 hfz89_2 hfz89_3
 try clear hcz94_0 hcz94_1 hcz94_2 hcz94_3 hfz94_0 hfz94_1 hfz94_2 hfz94_3
 try clear hcz98_0 hcz98_1 hcz98_2 hcz98_3 hfz98_0 hfz98_1 hfz98_2 hfz98_3
 try clear hx137_0
 try clear hx140_0 hx140_1 hx140_2 hx140_3
 try clear hx142_0
 try clear hx143_0
 try clear hx144_0
 try clear hx145_0
 try clear hx146_0
 try clear hx147_0
 try clear hx40_0
 try clear p137
 try clear p140
 try clear p142
 try clear p143
 try clear p144
 try clear p145
 try clear p146
 try clear p147
 try clear p40
 try clear q137
 try clear q140
 try clear q142
 try clear q143
 try clear q144
 try clear q145
 try clear q146
 try clear q147
 try clear q40
 obtain ⟨kq, x160_109, rfl, HA, HJ109, HO_129003, HO_129005, BK128, BK135, BK141, HB⟩ := hcut
 cases kq with
 | zero => exact absurd HA.out (by simp [quorumref6_walk_node.j5])
 | succ kj109 =>
 have H := HA.out
 clear HA
 simp only [quorumref6_walk_node.j5] at H
 as_aux_lemma =>
 by_cases c125 : x160_109 = true
 ·subst c125
  rw [if_pos rfl] at H
  have hnb127 := NB128_141.out
  have hnc127 := NB141_128.out
  obtain ⟨hcz128_0, hcz128_1, hcz128_2, hcz128_3, hcz128_4, hcz128_5, hcz128_6, hfz128_0, hfz128_1, hfz128_2, hfz128_3, hfz128_4, hfz128_5, hfz128_6⟩ := c7_ BK128
  simp only [Option.some.injEq, Prod.mk.injEq] at H
  obtain ⟨rfl, rfl, rfl, rfl⟩ := H
  go_wp2
  repeat (go_quiet (fail); try go_wp2)
  first | go_end0 | ((try simp only [Exit.inBlock, Exit.then]); refine bodyPost_ret (results_none rfl _ _ _) rfl ?_)
  exact ⟨rfl, (.slice (some ⟨go40, 0, none⟩) y139.length co16), (by (try simp only [hl129003_41]); (with_reducible repeat (first | apply Ra_ | apply Rn_ | apply Rd_)); exact Kd.R_mono (Kd.R_far (p := ⟨gb128, 6, none⟩) (Kd.R_types HO_129003.out BK128.out (by decide)) (fun _ hk => hk.2) (.bool true)) (fun _ _ => trivial)), (.slice Ao12 t129.length co12), (by (try simp only [hl129003_41]); (with_reducible repeat (first | apply Ra_ | apply Rn_ | apply Rd_)); exact Kd.R_mono (Kd.R_far (p := ⟨gb128, 6, none⟩) (Kd.R_types HO_129005.out BK128.out (by decide)) (fun _ hk => hk.2) (.bool true)) (fun _ _ => trivial)), (by (try simp only [hl129003_41]); exact pu_ (cs := #[(.slice (some ad140) l0_0.length c0_0), .int .i64 a0_1, (.slice A0_2 l0_2.length c0_2), (.slice (some ⟨go40, 0, none⟩) y139.length co16), .int .i64 a0_4, (.slice Ao12 t129.length co12), .bool x129006_4]) (h_ BK128)), ff_ (fh_ BK135), b_ HB⟩
 replace c125 := Bool.eq_false_iff.mpr c125
 subst c125
 rw [if_neg (show ¬ (false = true) by decide)] at H
 have H' := mk0 H
 clear H
 go_wp2
 repeat (go_quiet (fail); try go_wp2)
 go_loopg [15] kj109 (fun kq v15 w' => ∃ (x15_6 : Int) (x129003_6 : List Bool) (x129004_6 : Int) (x129005_6 : List (S41)) (x129006_6 : Bool) (u129003 : Value) (u129005 : Value), v15 = .int .i64 x15_6 ∧ Fc (quorumref6_walk_node.l1 kq a1 a2 a3 a4 a5 x15_6 l0_0 a0_1 l0_2 x129003_6 x129004_6 x129005_6 x129006_6 ((rd_T85 l0_0 a1).f0) ((rd_T85 l0_0 a1).f1) ((rd_T85 l0_0 a1).f2) ((rd_T85 l0_0 a1).f3) = some (r0, r1, r2, r3)) ∧ Fc (kq ≤ kj109) ∧ Fc (Kd.R Kd.bool 4 w' w.heap.size (fun _ => True) u129003 x129003_6) ∧ Fc (Kd.R k41 41 w' w.heap.size (fun _ => True) u129005 x129005_6) ∧ Fc (w'.heap[gb128]? = some (.cells #[(.slice (some ad140) l0_0.length c0_0), .int .i64 a0_1, (.slice A0_2 l0_2.length c0_2), u129003, .int .i64 x129004_6, u129005, .bool x129006_6] 100 (0, 0))) ∧ Fc (Fr W w' gb128) ∧ Fc (w'.heap[gb141]? = some (.cells #[(.slice A140_0 ((rd_T85 l0_0 a1).f0).length c140_0), (.slice A140_1 ((rd_T85 l0_0 a1).f1).length c140_1), (.slice A140_2 ((rd_T85 l0_0 a1).f2).length c140_2), .bool ((rd_T85 l0_0 a1).f3)] 85 (0, 0))) ∧ Fc (Below w.heap.size w w'))
 case atStart => exact ⟨(0), (y139), (a0_4), (t129), (x129006_4), (.slice (some ⟨go40, 0, none⟩) y139.length co16), (.slice Ao12 t129.length co12), (by first | rfl | (simp; done) | (simp [*]; done)), H', ⟨Nat.le_refl _⟩, ⟨by (try simp only [hl129003_41]); (with_reducible repeat (first | apply Ra_ | apply Rn_ | apply Rd_)); exact HO_129003.out⟩, ⟨by (try simp only [hl129003_41]); (with_reducible repeat (first | apply Ra_ | apply Rn_ | apply Rd_)); exact HO_129005.out⟩, ⟨by (try simp only [hl129003_41]); (with_reducible repeat (first | refine bN_ ?_ _ | refine bD_ ?_ | refine bA_ ?_ _)); exact BK128.out⟩, ⟨by (try simp only [hl129003_41]); exact fh_ BK135⟩, ⟨by (try simp only [hl129003_41]); (with_reducible repeat (first | refine bN_ ?_ _ | refine bD_ ?_ | refine bA_ ?_ _)); exact BK141.out⟩, ⟨b_ HB⟩⟩
 clear H'
 try clear c8
 try clear c8b0
 try clear c8b1
 try clear c19
 try clear c23
 try clear c24
 try clear c24b0
 try clear c25
 try clear c25b0
 try clear c27
 try clear c35
 try clear c38
 try clear c38b0
 try clear c39
 try clear c39b0
 try clear p40
 try clear q40
 try clear c41
 try clear c41b0
 try clear c52
 try clear c52b0
 try clear c52b1
 try clear c54
 try clear c54b0
 try clear c54b1
 try clear c61
 try clear c65
 try clear c65b0
 try clear c70
 try clear c70b0
 try clear c72
 try clear c72b0
 try clear c73
 try clear c73b0
 try clear c74
 try clear c74b0
 try clear c75
 try clear c75b0
 try clear c76
 try clear c76b0
 try clear c80
 try clear c90
 try clear c90b0
 try clear c91
 try clear c91b0
 try clear c95
 try clear c102
 try clear c106
 try clear c106b0
 try clear c114
 try clear c114b0
 try clear c114b1
 try clear c118
 try clear c118b0
 try clear c118b1
 try clear c118b2
 try clear c125
 try clear hcz101_0 hcz101_1 hcz101_2 hcz101_3 hfz101_0 hfz101_1 hfz101_2 hfz101_3
 try clear hcz105_0 hcz105_1 hcz105_2 hcz105_3 hcz105_4 hcz105_5 hcz105_6 hfz105_0 hfz105_1 hfz105_2 hfz105_3 hfz105_4 hfz105_5 hfz105_6
 try clear hcz109_0 hcz109_1 hcz109_2 hcz109_3 hfz109_0 hfz109_1 hfz109_2 hfz109_3
 try clear hcz113_0 hcz113_1 hcz113_2 hcz113_3 hfz113_0 hfz113_1 hfz113_2 hfz113_3
 try clear hcz117_0 hcz117_1 hcz117_2 hcz117_3 hfz117_0 hfz117_1 hfz117_2 hfz117_3
 try clear hcz121_0 hcz121_1 hcz121_2 hcz121_3 hfz121_0 hfz121_1 hfz121_2 hfz121_3
 try clear hcz124_0 hcz124_1 hcz124_2 hcz124_3 hfz124_0 hfz124_1 hfz124_2 hfz124_3
 try clear hcz128_0 hcz128_1 hcz128_2 hcz128_3 hcz128_4 hcz128_5 hcz128_6 hfz128_0 hfz128_1 hfz128_2 hfz128_3 hfz128_4 hfz128_5 hfz128_6
 try clear hcz13_0 hcz13_1 hcz13_2 hcz13_3 hcz13_4 hcz13_5 hcz13_6 hfz13_0 hfz13_1 hfz13_2 hfz13_3 hfz13_4 hfz13_5 hfz13_6
 try clear hcz17_0 hcz17_1 hcz17_2 hcz17_3 hcz17_4 hcz17_5 hcz17_6 hfz17_0 hfz17_1 hfz17_2 hfz17_3 hfz17_4 hfz17_5 hfz17_6
 try clear hcz21_0 hcz21_1 hcz21_2 hcz21_3 hcz21_4 hcz21_5 hcz21_6 hfz21_0 hfz21_1 hfz21_2 hfz21_3 hfz21_4 hfz21_5 hfz21_6
 try clear hcz29_0 hcz29_1 hcz29_2 hcz29_3 hcz29_4 hcz29_5 hcz29_6 hfz29_0 hfz29_1 hfz29_2 hfz29_3 hfz29_4 hfz29_5 hfz29_6
 try clear hcz32_0 hcz32_1 hcz32_2 hcz32_3 hcz32_4 hcz32_5 hcz32_6 hfz32_0 hfz32_1 hfz32_2 hfz32_3 hfz32_4 hfz32_5 hfz32_6
 try clear hcz34_0 hcz34_1 hcz34_2 hcz34_3 hcz34_4 hcz34_5 hcz34_6 hfz34_0 hfz34_1 hfz34_2 hfz34_3 hfz34_4 hfz34_5 hfz34_6
 try clear hcz37_0 hcz37_1 hcz37_2 hcz37_3 hcz37_4 hcz37_5 hcz37_6 hfz37_0 hfz37_1 hfz37_2 hfz37_3 hfz37_4 hfz37_5 hfz37_6
 try clear hcz44_0 hcz44_1 hcz44_2 hcz44_3 hcz44_4 hcz44_5 hcz44_6 hfz44_0 hfz44_1 hfz44_2 hfz44_3 hfz44_4 hfz44_5 hfz44_6
 try clear hcz47_0 hcz47_1 hcz47_2 hcz47_3 hcz47_4 hcz47_5 hcz47_6 hfz47_0 hfz47_1 hfz47_2 hfz47_3 hfz47_4 hfz47_5 hfz47_6
 try clear hcz51_0 hcz51_1 hcz51_2 hcz51_3 hfz51_0 hfz51_1 hfz51_2 hfz51_3
 try clear hcz57_0 hcz57_1 hcz57_2 hcz57_3 hfz57_0 hfz57_1 hfz57_2 hfz57_3
 try clear hcz60_0 hcz60_1 hcz60_2 hcz60_3 hfz60_0 hfz60_1 hfz60_2 hfz60_3
 try clear hcz64_0 hcz64_1 hcz64_2 hcz64_3 hcz64_4 hcz64_5 hcz64_6 hfz64_0 hfz64_1 hfz64_2 hfz64_3 hfz64_4 hfz64_5 hfz64_6
 try clear hcz69_0 hcz69_1 hcz69_2 hcz69_3 hfz69_0 hfz69_1 hfz69_2 hfz69_3
 try clear hcz79_0 hcz79_1 hcz79_2 hcz79_3 hfz79_0 hfz79_1 hfz79_2 hfz79_3
 try clear hcz83_0 hcz83_1 hcz83_2 hcz83_3 hfz83_0 hfz83_1 hfz83_2 hfz83_3
 try clear hcz86_0 hcz86_1 hcz86_2 hcz86_3 hfz86_0 hfz86_1 hfz86_2 hfz86_3
 try clear hcz89_0 hcz89_1 hcz89_2 hcz89_3 hfz89_0 hfz89_1 hfz89_2 hfz89_3
 try clear hcz94_0 hcz94_1 hcz94_2 hcz94_3 hfz94_0 hfz94_1 hfz94_2 hfz94_3
 try clear hcz98_0 hcz98_1 hcz98_2 hcz98_3 hfz98_0 hfz98_1 hfz98_2 hfz98_3
 try clear hx137_0
 try clear hx140_0 hx140_1 hx140_2 hx140_3
 try clear hx142_0
 try clear hx143_0
 try clear hx144_0
 try clear hx145_0
 try clear hx146_0
 try clear hx147_0
 try clear hx40_0
 try clear p137
 try clear p140
 try clear p142
 try clear p143
 try clear p144
 try clear p145
 try clear p146
 try clear p147
 try clear p40
 try clear q137
 try clear q140
 try clear q142
 try clear q143
 try clear q144
 try clear q145
 try clear q146
 try clear q147
 try clear q40
 obtain ⟨x15_6, x129003_6, x129004_6, x129005_6, x129006_6, u129003, u129005, rfl, HA, HK6, HO_129003, HO_129005, BK128, BK135, BK141, HB⟩ := hrel
 cases gk with
 | zero => exact absurd HA.out (by simp [quorumref6_walk_node.l1])
 | succ k6 =>
 have H := HA.out
 clear HA
 simp only [quorumref6_walk_node.l1] at H
 as_aux_lemma =>
 by_cases c129 : x15_6 < (((rd_T85 l0_0 a1).f2).length : Int)
 rotate_left
 ·rw [if_neg c129] at H
  have c129b0 : decide (x15_6 < (((rd_T85 l0_0 a1).f2).length : Int)) = false := decide_eq_false c129
  clear c129
  have hnb170 := NB141_128.out
  have hnc170 := NB128_141.out
  obtain ⟨hcz172_0, hcz172_1, hcz172_2, hcz172_3, hfz172_0, hfz172_1, hfz172_2, hfz172_3⟩ := c4_ BK141
  simp only [Option.some.injEq, Prod.mk.injEq] at H
  obtain ⟨rfl, rfl, rfl, rfl⟩ := H
  go_wp2
  repeat (go_quiet (fail); try go_wp2)
  first | go_end0 | ((try simp only [Exit.inBlock, Exit.then]); refine bodyPost_ret (results_none rfl _ _ _) rfl ?_)
  exact ⟨rfl, u129003, (by (try simp only [hl129003_41]); (with_reducible repeat (first | apply Ra_ | apply Rn_ | apply Rd_)); exact HO_129003.out), u129005, (by (with_reducible repeat (first | apply Ra_ | apply Rn_ | apply Rd_)); exact HO_129005.out), (by (try simp only [hl129003_41]); exact h_ BK128), fh_ BK135, b_ HB⟩
 rw [if_pos c129] at H
 have c129b0 : decide (x15_6 < (((rd_T85 l0_0 a1).f2).length : Int)) = true := decide_eq_true c129
 clear c129
 have HC130 := mk0 H
 clear H
 have hnb131 := NB141_128.out
 have hnc131 := NB128_141.out
 obtain ⟨hcz133_0, hcz133_1, hcz133_2, hcz133_3, hfz133_0, hfz133_1, hfz133_2, hfz133_3⟩ := c4_ BK141
 go_upto_if 175 with (fail)
 repeat (go_quiet (fail); go_upto_if 175 with (fail))
 go_cut [16] (fun v16 wc => ∃ (kq : Nat) (x16_129 : ByteArray), v16 = .string x16_129 ∧ Fc (quorumref6_walk_node.j7 kq a1 a2 a3 a4 a5 x15_6 x16_129 a3 a4 l0_0 a0_1 l0_2 x129003_6 x129004_6 x129005_6 x129006_6 ((rd_T85 l0_0 a1).f0) ((rd_T85 l0_0 a1).f1) ((rd_T85 l0_0 a1).f2) ((rd_T85 l0_0 a1).f3) = some (r0, r1, r2, r3)) ∧ Fc (kq ≤ k6) ∧ Fc (Kd.R Kd.bool 4 wc w.heap.size (fun _ => True) u129003 x129003_6) ∧ Fc (Kd.R k41 41 wc w.heap.size (fun _ => True) u129005 x129005_6) ∧ Fc (wc.heap[gb128]? = some (.cells #[(.slice (some ad140) l0_0.length c0_0), .int .i64 a0_1, (.slice A0_2 l0_2.length c0_2), u129003, .int .i64 x129004_6, u129005, .bool x129006_6] 100 (0, 0))) ∧ Fc (Fr W wc gb128) ∧ Fc (wc.heap[gb141]? = some (.cells #[(.slice A140_0 ((rd_T85 l0_0 a1).f0).length c140_0), (.slice A140_1 ((rd_T85 l0_0 a1).f1).length c140_1), (.slice A140_2 ((rd_T85 l0_0 a1).f2).length c140_2), .bool ((rd_T85 l0_0 a1).f3)] 85 (0, 0))) ∧ Fc (Below w.heap.size w wc))
 case first =>
  have H := HC130.out
  clear HC130
  by_cases c134 : x15_6 > 0
  rotate_left
  ·rw [if_neg c134] at H
   have c134b0 : decide (0 < x15_6) = false := decide_eq_false c134
   clear c134
   (first | rw [c134b0] | (simp only [i64_w, i32_w]; rw [c134b0]) | skip)
   have H' := mk0 H
   clear H
   go_wp2
   repeat (go_quiet (fail); try go_wp2)
   go_meet
   case rel => exact ⟨_, (a2), (by first | rfl | (simp; done) | (simp [*]; done)), H', ⟨by have := HJ8.out; have := HJ41.out; have := HJ52.out; have := HK4.out; have := HJ109.out; have := HK6.out; first | omega | exact Nat.le_refl _⟩, ⟨by (try simp only [hl129003_41]); (with_reducible repeat (first | apply Ra_ | apply Rn_ | apply Rd_)); exact HO_129003.out⟩, ⟨by (try simp only [hl129003_41]); (with_reducible repeat (first | apply Ra_ | apply Rn_ | apply Rd_)); exact HO_129005.out⟩, ⟨by (try simp only [hl129003_41]); (with_reducible repeat (first | refine bN_ ?_ _ | refine bD_ ?_ | refine bA_ ?_ _)); exact BK128.out⟩, ⟨by (try simp only [hl129003_41]); exact fh_ BK135⟩, ⟨by (try simp only [hl129003_41]); (with_reducible repeat (first | refine bN_ ?_ _ | refine bD_ ?_ | refine bA_ ?_ _)); exact BK141.out⟩, ⟨b_ HB⟩⟩
  rw [if_pos c134] at H
  have c134b0 : decide (0 < x15_6) = true := decide_eq_true c134
  clear c134
  (first | rw [c134b0] | (simp only [i64_w, i32_w]; rw [c134b0]) | skip)
  obtain ⟨ji135, hji135⟩ : ∃ j_ : Int, (wrap64 (x15_6 - 1)) = j_ := ⟨_, rfl⟩
  replace H : (if 0 ≤ (ji135) then (if (ji135) < (((rd_T85 l0_0 a1).f0).length : Int) then (quorumref6_walk_node.j7 k6 a1 a2 a3 a4 a5 x15_6 (rdOf ByteArray.empty ((rd_T85 l0_0 a1).f0) (ji135)) a3 a4 l0_0 a0_1 l0_2 x129003_6 x129004_6 x129005_6 x129006_6 ((rd_T85 l0_0 a1).f0) ((rd_T85 l0_0 a1).f1) ((rd_T85 l0_0 a1).f2) ((rd_T85 l0_0 a1).f3)) else (none)) else (none)) = some (r0, r1, r2, r3) := by first | (rw [hji135] at H; exact H) | (simp only [hji135] at H ⊢; exact H)
  have hji135w : (IntKind.i64.wrap (x15_6 - 1)) = ji135 := (i64_w _).trans hji135
  by_cases c136 : 0 ≤ (ji135)
  rotate_left
  ·rw [if_neg c136] at H
   exact absurd H (by simp)
  rw [if_pos c136] at H
  have c136b0 : decide (0 ≤ (ji135)) = true := decide_eq_true c136
  clear c136
  by_cases c137 : (ji135) < (((rd_T85 l0_0 a1).f0).length : Int)
  rotate_left
  ·rw [if_neg c137] at H
   exact absurd H (by simp)
  rw [if_pos c137] at H
  have c137b0 : decide ((ji135) < (((rd_T85 l0_0 a1).f0).length : Int)) = true := decide_eq_true c137
  clear c137
  have H' := mk0 H
  clear H
  have hnb138 := NB141_128.out
  have hnc138 := NB128_141.out
  obtain ⟨hcz140_0, hcz140_1, hcz140_2, hcz140_3, hfz140_0, hfz140_1, hfz140_2, hfz140_3⟩ := c4_ BK141
  have p148 : 0 ≤ ((ji135) : Int) := of_decide_eq_true (by first | (with_reducible assumption) | assumption)
  have q148 : (ji135) < (((rd_T85 l0_0 a1).f0).length : Int) := of_decide_eq_true (by first | (with_reducible assumption) | assumption)
  obtain ⟨ad148, e148, hx148_0⟩ := Kd.at_string HR140_0.out (ji135) p148 q148
  cases e148
  replace hx148_0 := (bc_ HB hx148_0 :)
  replace p148 := eq_true p148
  replace q148 := eq_true q148
  go_wp2
  repeat (go_quiet (fail); try go_wp2)
  go_meet
  case rel => exact ⟨_, (rdOf ByteArray.empty ((rd_T85 l0_0 a1).f0) (ji135)), (by first | rfl | (simp; done) | (simp only [← hji135] <;> (first | rfl | (simp [leq_]; done) | (simp; done))) | (simp [*]; done)), H', ⟨by have := HJ8.out; have := HJ41.out; have := HJ52.out; have := HK4.out; have := HJ109.out; have := HK6.out; first | omega | exact Nat.le_refl _⟩, ⟨by (try simp only [hl129003_41]); (with_reducible repeat (first | apply Ra_ | apply Rn_ | apply Rd_)); exact HO_129003.out⟩, ⟨by (try simp only [hl129003_41]); (with_reducible repeat (first | apply Ra_ | apply Rn_ | apply Rd_)); exact HO_129005.out⟩, ⟨by (try simp only [hl129003_41]); (with_reducible repeat (first | refine bN_ ?_ _ | refine bD_ ?_ | refine bA_ ?_ _)); exact BK128.out⟩, ⟨by (try simp only [hl129003_41]); exact fh_ BK135⟩, ⟨by (try simp only [hl129003_41]); (with_reducible repeat (first | refine bN_ ?_ _ | refine bD_ ?_ | refine bA_ ?_ _)); exact BK141.out⟩, ⟨b_ HB⟩⟩
 clear HC130
 try clear c8
 try clear c8b0
 try clear c8b1
 try clear c19
 try clear c23
 try clear c24
 try clear c24b0
 try clear c25
 try clear c25b0
 try clear c27
 try clear c35
 try clear c38
 try clear c38b0
 try clear c39
 try clear c39b0
 try clear p40
 try clear q40
 try clear c41
 try clear c41b0
 try clear c52
 try clear c52b0
 try clear c52b1
 try clear c54
 try clear c54b0
 try clear c54b1
 try clear c61
 try clear c65
 try clear c65b0
 try clear c70
 try clear c70b0
 try clear c72
 try clear c72b0
 try clear c73
 try clear c73b0
 try clear c74
 try clear c74b0
 try clear c75
 try clear c75b0
 try clear c76
 try clear c76b0
 try clear c80
 try clear c90
 try clear c90b0
 try clear c91
 try clear c91b0
 try clear c95
 try clear c102
 try clear c106
 try clear c106b0
 try clear c114
 try clear c114b0
 try clear c114b1
 try clear c118
 try clear c118b0
 try clear c118b1
 try clear c118b2
 try clear c125
 try clear c129
 try clear c129b0
 try clear c134
 try clear c134b0
 try clear c136
 try clear c136b0
 try clear c137
 try clear c137b0
 try clear p137
 try clear q137
 try clear p140
 try clear q140
 try clear hcz101_0 hcz101_1 hcz101_2 hcz101_3 hfz101_0 hfz101_1 hfz101_2 hfz101_3
 try clear hcz105_0 hcz105_1 hcz105_2 hcz105_3 hcz105_4 hcz105_5 hcz105_6 hfz105_0 hfz105_1 hfz105_2 hfz105_3 hfz105_4 hfz105_5 hfz105_6
 try clear hcz109_0 hcz109_1 hcz109_2 hcz109_3 hfz109_0 hfz109_1 hfz109_2 hfz109_3
 try clear hcz113_0 hcz113_1 hcz113_2 hcz113_3 hfz113_0 hfz113_1 hfz113_2 hfz113_3
 try clear hcz117_0 hcz117_1 hcz117_2 hcz117_3 hfz117_0 hfz117_1 hfz117_2 hfz117_3
 try clear hcz121_0 hcz121_1 hcz121_2 hcz121_3 hfz121_0 hfz121_1 hfz121_2 hfz121_3
 try clear hcz124_0 hcz124_1 hcz124_2 hcz124_3 hfz124_0 hfz124_1 hfz124_2 hfz124_3
 try clear hcz128_0 hcz128_1 hcz128_2 hcz128_3 hcz128_4 hcz128_5 hcz128_6 hfz128_0 hfz128_1 hfz128_2 hfz128_3 hfz128_4 hfz128_5 hfz128_6
 try clear hcz133_0 hcz133_1 hcz133_2 hcz133_3 hfz133_0 hfz133_1 hfz133_2 hfz133_3
 try clear hcz13_0 hcz13_1 hcz13_2 hcz13_3 hcz13_4 hcz13_5 hcz13_6 hfz13_0 hfz13_1 hfz13_2 hfz13_3 hfz13_4 hfz13_5 hfz13_6
 try clear hcz140_0 hcz140_1 hcz140_2 hcz140_3 hfz140_0 hfz140_1 hfz140_2 hfz140_3
 try clear hcz17_0 hcz17_1 hcz17_2 hcz17_3 hcz17_4 hcz17_5 hcz17_6 hfz17_0 hfz17_1 hfz17_2 hfz17_3 hfz17_4 hfz17_5 hfz17_6
 try clear hcz21_0 hcz21_1 hcz21_2 hcz21_3 hcz21_4 hcz21_5 hcz21_6 hfz21_0 hfz21_1 hfz21_2 hfz21_3 hfz21_4 hfz21_5 hfz21_6
 try clear hcz29_0 hcz29_1 hcz29_2 hcz29_3 hcz29_4 hcz29_5 hcz29_6 hfz29_0 hfz29_1 hfz29_2 hfz29_3 hfz29_4 hfz29_5 hfz29_6
 try clear hcz32_0 hcz32_1 hcz32_2 hcz32_3 hcz32_4 hcz32_5 hcz32_6 hfz32_0 hfz32_1 hfz32_2 hfz32_3 hfz32_4 hfz32_5 hfz32_6
 try clear hcz34_0 hcz34_1 hcz34_2 hcz34_3 hcz34_4 hcz34_5 hcz34_6 hfz34_0 hfz34_1 hfz34_2 hfz34_3 hfz34_4 hfz34_5 hfz34_6
 try clear hcz37_0 hcz37_1 hcz37_2 hcz37_3 hcz37_4 hcz37_5 hcz37_6 hfz37_0 hfz37_1 hfz37_2 hfz37_3 hfz37_4 hfz37_5 hfz37_6
 try clear hcz44_0 hcz44_1 hcz44_2 hcz44_3 hcz44_4 hcz44_5 hcz44_6 hfz44_0 hfz44_1 hfz44_2 hfz44_3 hfz44_4 hfz44_5 hfz44_6
 try clear hcz47_0 hcz47_1 hcz47_2 hcz47_3 hcz47_4 hcz47_5 hcz47_6 hfz47_0 hfz47_1 hfz47_2 hfz47_3 hfz47_4 hfz47_5 hfz47_6
 try clear hcz51_0 hcz51_1 hcz51_2 hcz51_3 hfz51_0 hfz51_1 hfz51_2 hfz51_3
 try clear hcz57_0 hcz57_1 hcz57_2 hcz57_3 hfz57_0 hfz57_1 hfz57_2 hfz57_3
 try clear hcz60_0 hcz60_1 hcz60_2 hcz60_3 hfz60_0 hfz60_1 hfz60_2 hfz60_3
 try clear hcz64_0 hcz64_1 hcz64_2 hcz64_3 hcz64_4 hcz64_5 hcz64_6 hfz64_0 hfz64_1 hfz64_2 hfz64_3 hfz64_4 hfz64_5 hfz64_6
 try clear hcz69_0 hcz69_1 hcz69_2 hcz69_3 hfz69_0 hfz69_1 hfz69_2 hfz69_3
 try clear hcz79_0 hcz79_1 hcz79_2 hcz79_3 hfz79_0 hfz79_1 hfz79_2 hfz79_3
 try clear hcz83_0 hcz83_1 hcz83_2 hcz83_3 hfz83_0 hfz83_1 hfz83_2 hfz83_3
 try clear hcz86_0 hcz86_1 hcz86_2 hcz86_3 hfz86_0 hfz86_1 hfz86_2 hfz86_3
 try clear hcz89_0 hcz89_1 hcz89_2 hcz89_3 hfz89_0 hfz89_1 hfz89_2 hfz89_3
 try clear hcz94_0 hcz94_1 hcz94_2 hcz94_3 hfz94_0 hfz94_1 hfz94_2 hfz94_3
 try clear hcz98_0 hcz98_1 hcz98_2 hcz98_3 hfz98_0 hfz98_1 hfz98_2 hfz98_3
 try clear hx137_0
 try clear hx140_0 hx140_1 hx140_2 hx140_3
 try clear hx142_0
 try clear hx143_0
 try clear hx144_0
 try clear hx145_0
 try clear hx146_0
 try clear hx147_0
 try clear hx148_0
 try clear hx40_0
 try clear p137
 try clear p140
 try clear p142
 try clear p143
 try clear p144
 try clear p145
 try clear p146
 try clear p147
 try clear p148
 try clear p40
 try clear q137
 try clear q140
 try clear q142
 try clear q143
 try clear q144
 try clear q145
 try clear q146
 try clear q147
 try clear q148
 try clear q40
 obtain ⟨kq, x16_129, rfl, HA, HJ129, HO_129003, HO_129005, BK128, BK135, BK141, HB⟩ := hcut
 cases kq with
 | zero => exact absurd HA.out (by simp [quorumref6_walk_node.j7])
 | succ kj129 =>
 have H := HA.out
 clear HA
 simp only [quorumref6_walk_node.j7] at H
 as_aux_lemma =>
 have HC141 := mk0 H
 clear H
 have hnb142 := NB141_128.out
 have hnc142 := NB128_141.out
 obtain ⟨hcz144_0, hcz144_1, hcz144_2, hcz144_3, hfz144_0, hfz144_1, hfz144_2, hfz144_3⟩ := c4_ BK141
 go_upto_if 186 with (fail)
 repeat (go_quiet (fail); go_upto_if 186 with (fail))
 go_cut [17, 18] (fun v17 v18 wc => ∃ (kq : Nat) (x17_140 : ByteArray) (x18_140 : Bool), v17 = .string x17_140 ∧ v18 = .bool x18_140 ∧ Fc (quorumref6_walk_node.j8 kq a1 a2 a3 a4 a5 x15_6 x16_129 x17_140 x18_140 l0_0 a0_1 l0_2 x129003_6 x129004_6 x129005_6 x129006_6 ((rd_T85 l0_0 a1).f0) ((rd_T85 l0_0 a1).f1) ((rd_T85 l0_0 a1).f2) ((rd_T85 l0_0 a1).f3) = some (r0, r1, r2, r3)) ∧ Fc (kq ≤ kj129) ∧ Fc (Kd.R Kd.bool 4 wc w.heap.size (fun _ => True) u129003 x129003_6) ∧ Fc (Kd.R k41 41 wc w.heap.size (fun _ => True) u129005 x129005_6) ∧ Fc (wc.heap[gb128]? = some (.cells #[(.slice (some ad140) l0_0.length c0_0), .int .i64 a0_1, (.slice A0_2 l0_2.length c0_2), u129003, .int .i64 x129004_6, u129005, .bool x129006_6] 100 (0, 0))) ∧ Fc (Fr W wc gb128) ∧ Fc (wc.heap[gb141]? = some (.cells #[(.slice A140_0 ((rd_T85 l0_0 a1).f0).length c140_0), (.slice A140_1 ((rd_T85 l0_0 a1).f1).length c140_1), (.slice A140_2 ((rd_T85 l0_0 a1).f2).length c140_2), .bool ((rd_T85 l0_0 a1).f3)] 85 (0, 0))) ∧ Fc (Below w.heap.size w wc))
 case first =>
  have H := HC141.out
  clear HC141
  by_cases c145 : x15_6 < (((rd_T85 l0_0 a1).f0).length : Int)
  rotate_left
  ·rw [if_neg c145] at H
   have c145b0 : decide (x15_6 < (((rd_T85 l0_0 a1).f0).length : Int)) = false := decide_eq_false c145
   clear c145
   (first | rw [c145b0] | (simp only [i64_w, i32_w]; rw [c145b0]) | skip)
   have H' := mk0 H
   clear H
   go_wp2
   repeat (go_quiet (fail); try go_wp2)
   go_meet
   case rel => exact ⟨_, (a3), (a4), (by first | rfl | (simp; done) | (simp [*]; done)), (by first | rfl | (simp; done) | (simp [*]; done)), H', ⟨by have := HJ8.out; have := HJ41.out; have := HJ52.out; have := HK4.out; have := HJ109.out; have := HK6.out; have := HJ129.out; first | omega | exact Nat.le_refl _⟩, ⟨by (try simp only [hl129003_41]); (with_reducible repeat (first | apply Ra_ | apply Rn_ | apply Rd_)); exact HO_129003.out⟩, ⟨by (try simp only [hl129003_41]); (with_reducible repeat (first | apply Ra_ | apply Rn_ | apply Rd_)); exact HO_129005.out⟩, ⟨by (try simp only [hl129003_41]); (with_reducible repeat (first | refine bN_ ?_ _ | refine bD_ ?_ | refine bA_ ?_ _)); exact BK128.out⟩, ⟨by (try simp only [hl129003_41]); exact fh_ BK135⟩, ⟨by (try simp only [hl129003_41]); (with_reducible repeat (first | refine bN_ ?_ _ | refine bD_ ?_ | refine bA_ ?_ _)); exact BK141.out⟩, ⟨b_ HB⟩⟩
  rw [if_pos c145] at H
  have c145b0 : decide (x15_6 < (((rd_T85 l0_0 a1).f0).length : Int)) = true := decide_eq_true c145
  clear c145
  (first | rw [c145b0] | (simp only [i64_w, i32_w]; rw [c145b0]) | skip)
  by_cases c146 : 0 ≤ x15_6
  rotate_left
  ·rw [if_neg c146] at H
   exact absurd H (by simp)
  rw [if_pos c146] at H
  have c146b0 : decide (0 ≤ x15_6) = true := decide_eq_true c146
  clear c146
  have H' := mk0 H
  clear H
  have hnb147 := NB141_128.out
  have hnc147 := NB128_141.out
  obtain ⟨hcz149_0, hcz149_1, hcz149_2, hcz149_3, hfz149_0, hfz149_1, hfz149_2, hfz149_3⟩ := c4_ BK141
  have p149 : 0 ≤ (x15_6 : Int) := of_decide_eq_true (by first | (with_reducible assumption) | assumption)
  have q149 : x15_6 < (((rd_T85 l0_0 a1).f0).length : Int) := of_decide_eq_true (by first | (with_reducible assumption) | assumption)
  obtain ⟨ad149, e149, hx149_0⟩ := Kd.at_string HR140_0.out x15_6 p149 q149
  cases e149
  replace hx149_0 := (bc_ HB hx149_0 :)
  replace p149 := eq_true p149
  replace q149 := eq_true q149
  go_wp2
  repeat (go_quiet (fail); try go_wp2)
  go_meet
  case rel => exact ⟨_, (rdOf ByteArray.empty ((rd_T85 l0_0 a1).f0) x15_6), (false), (by first | rfl | (simp; done) | (simp [*]; done)), (by first | rfl | (simp; done) | (simp [*]; done)), H', ⟨by have := HJ8.out; have := HJ41.out; have := HJ52.out; have := HK4.out; have := HJ109.out; have := HK6.out; have := HJ129.out; first | omega | exact Nat.le_refl _⟩, ⟨by (try simp only [hl129003_41]); (with_reducible repeat (first | apply Ra_ | apply Rn_ | apply Rd_)); exact HO_129003.out⟩, ⟨by (try simp only [hl129003_41]); (with_reducible repeat (first | apply Ra_ | apply Rn_ | apply Rd_)); exact HO_129005.out⟩, ⟨by (try simp only [hl129003_41]); (with_reducible repeat (first | refine bN_ ?_ _ | refine bD_ ?_ | refine bA_ ?_ _)); exact BK128.out⟩, ⟨by (try simp only [hl129003_41]); exact fh_ BK135⟩, ⟨by (try simp only [hl129003_41]); (with_reducible repeat (first | refine bN_ ?_ _ | refine bD_ ?_ | refine bA_ ?_ _)); exact BK141.out⟩, ⟨b_ HB⟩⟩
 clear HC141
 try clear c8
 try clear c8b0
 try clear c8b1
 try clear c19
 try clear c23
 try clear c24
 try clear c24b0
 try clear c25
 try clear c25b0
 try clear c27
 try clear c35
 try clear c38
 try clear c38b0
 try clear c39
 try clear c39b0
 try clear p40
 try clear q40
 try clear c41
 try clear c41b0
 try clear c52
 try clear c52b0
 try clear c52b1
 try clear c54
 try clear c54b0
 try clear c54b1
 try clear c61
 try clear c65
 try clear c65b0
 try clear c70
 try clear c70b0
 try clear c72
 try clear c72b0
 try clear c73
 try clear c73b0
 try clear c74
 try clear c74b0
 try clear c75
 try clear c75b0
 try clear c76
 try clear c76b0
 try clear c80
 try clear c90
 try clear c90b0
 try clear c91
 try clear c91b0
 try clear c95
 try clear c102
 try clear c106
 try clear c106b0
 try clear c114
 try clear c114b0
 try clear c114b1
 try clear c118
 try clear c118b0
 try clear c118b1
 try clear c118b2
 try clear c125
 try clear c129
 try clear c129b0
 try clear c134
 try clear c134b0
 try clear c136
 try clear c136b0
 try clear c137
 try clear c137b0
 try clear p137
 try clear q137
 try clear p140
 try clear q140
 try clear p142
 try clear q142
 try clear p143
 try clear q143
 try clear p144
 try clear q144
 try clear c145
 try clear c145b0
 try clear p145
 try clear q145
 try clear c146
 try clear c146b0
 try clear p146
 try clear q146
 try clear p147
 try clear q147
 try clear p148
 try clear q148
 try clear p149
 try clear q149
 try clear hcz101_0 hcz101_1 hcz101_2 hcz101_3 hfz101_0 hfz101_1 hfz101_2 hfz101_3
 try clear hcz105_0 hcz105_1 hcz105_2 hcz105_3 hcz105_4 hcz105_5 hcz105_6 hfz105_0 hfz105_1 hfz105_2 hfz105_3 hfz105_4 hfz105_5 hfz105_6
 try clear hcz109_0 hcz109_1 hcz109_2 hcz109_3 hfz109_0 hfz109_1 hfz109_2 hfz109_3
 try clear hcz113_0 hcz113_1 hcz113_2 hcz113_3 hfz113_0 hfz113_1 hfz113_2 hfz113_3
 try clear hcz117_0 hcz117_1 hcz117_2 hcz117_3 hfz117_0 hfz117_1 hfz117_2 hfz117_3
 try clear hcz121_0 hcz121_1 hcz121_2 hcz121_3 hfz121_0 hfz121_1 hfz121_2 hfz121_3
 try clear hcz124_0 hcz124_1 hcz124_2 hcz124_3 hfz124_0 hfz124_1 hfz124_2 hfz124_3
 try clear hcz128_0 hcz128_1 hcz128_2 hcz128_3 hcz128_4 hcz128_5 hcz128_6 hfz128_0 hfz128_1 hfz128_2 hfz128_3 hfz128_4 hfz128_5 hfz128_6
 try clear hcz133_0 hcz133_1 hcz133_2 hcz133_3 hfz133_0 hfz133_1 hfz133_2 hfz133_3
 try clear hcz13_0 hcz13_1 hcz13_2 hcz13_3 hcz13_4 hcz13_5 hcz13_6 hfz13_0 hfz13_1 hfz13_2 hfz13_3 hfz13_4 hfz13_5 hfz13_6
 try clear hcz140_0 hcz140_1 hcz140_2 hcz140_3 hfz140_0 hfz140_1 hfz140_2 hfz140_3
 try clear hcz144_0 hcz144_1 hcz144_2 hcz144_3 hfz144_0 hfz144_1 hfz144_2 hfz144_3
 try clear hcz149_0 hcz149_1 hcz149_2 hcz149_3 hfz149_0 hfz149_1 hfz149_2 hfz149_3
 try clear hcz17_0 hcz17_1 hcz17_2 hcz17_3 hcz17_4 hcz17_5 hcz17_6 hfz17_0 hfz17_1 hfz17_2 hfz17_3 hfz17_4 hfz17_5 hfz17_6
 try clear hcz21_0 hcz21_1 hcz21_2 hcz21_3 hcz21_4 hcz21_5 hcz21_6 hfz21_0 hfz21_1 hfz21_2 hfz21_3 hfz21_4 hfz21_5 hfz21_6
 try clear hcz29_0 hcz29_1 hcz29_2 hcz29_3 hcz29_4 hcz29_5 hcz29_6 hfz29_0 hfz29_1 hfz29_2 hfz29_3 hfz29_4 hfz29_5 hfz29_6
 try clear hcz32_0 hcz32_1 hcz32_2 hcz32_3 hcz32_4 hcz32_5 hcz32_6 hfz32_0 hfz32_1 hfz32_2 hfz32_3 hfz32_4 hfz32_5 hfz32_6
 try clear hcz34_0 hcz34_1 hcz34_2 hcz34_3 hcz34_4 hcz34_5 hcz34_6 hfz34_0 hfz34_1 hfz34_2 hfz34_3 hfz34_4 hfz34_5 hfz34_6
 try clear hcz37_0 hcz37_1 hcz37_2 hcz37_3 hcz37_4 hcz37_5 hcz37_6 hfz37_0 hfz37_1 hfz37_2 hfz37_3 hfz37_4 hfz37_5 hfz37_6
 try clear hcz44_0 hcz44_1 hcz44_2 hcz44_3 hcz44_4 hcz44_5 hcz44_6 hfz44_0 hfz44_1 hfz44_2 hfz44_3 hfz44_4 hfz44_5 hfz44_6
 try clear hcz47_0 hcz47_1 hcz47_2 hcz47_3 hcz47_4 hcz47_5 hcz47_6 hfz47_0 hfz47_1 hfz47_2 hfz47_3 hfz47_4 hfz47_5 hfz47_6
 try clear hcz51_0 hcz51_1 hcz51_2 hcz51_3 hfz51_0 hfz51_1 hfz51_2 hfz51_3
 try clear hcz57_0 hcz57_1 hcz57_2 hcz57_3 hfz57_0 hfz57_1 hfz57_2 hfz57_3
 try clear hcz60_0 hcz60_1 hcz60_2 hcz60_3 hfz60_0 hfz60_1 hfz60_2 hfz60_3
 try clear hcz64_0 hcz64_1 hcz64_2 hcz64_3 hcz64_4 hcz64_5 hcz64_6 hfz64_0 hfz64_1 hfz64_2 hfz64_3 hfz64_4 hfz64_5 hfz64_6
 try clear hcz69_0 hcz69_1 hcz69_2 hcz69_3 hfz69_0 hfz69_1 hfz69_2 hfz69_3
 try clear hcz79_0 hcz79_1 hcz79_2 hcz79_3 hfz79_0 hfz79_1 hfz79_2 hfz79_3
 try clear hcz83_0 hcz83_1 hcz83_2 hcz83_3 hfz83_0 hfz83_1 hfz83_2 hfz83_3
 try clear hcz86_0 hcz86_1 hcz86_2 hcz86_3 hfz86_0 hfz86_1 hfz86_2 hfz86_3
 try clear hcz89_0 hcz89_1 hcz89_2 hcz89_3 hfz89_0 hfz89_1 hfz89_2 hfz89_3
 try clear hcz94_0 hcz94_1 hcz94_2 hcz94_3 hfz94_0 hfz94_1 hfz94_2 hfz94_3
 try clear hcz98_0 hcz98_1 hcz98_2 hcz98_3 hfz98_0 hfz98_1 hfz98_2 hfz98_3
 try clear hx137_0
 try clear hx140_0 hx140_1 hx140_2 hx140_3
 try clear hx142_0
 try clear hx143_0
 try clear hx144_0
 try clear hx145_0
 try clear hx146_0
 try clear hx147_0
 try clear hx148_0
 try clear hx149_0
 try clear hx40_0
 try clear p137
 try clear p140
 try clear p142
 try clear p143
 try clear p144
 try clear p145
 try clear p146
 try clear p147
 try clear p148
 try clear p149
 try clear p40
 try clear q137
 try clear q140
 try clear q142
 try clear q143
 try clear q144
 try clear q145
 try clear q146
 try clear q147
 try clear q148
 try clear q149
 try clear q40
 obtain ⟨kq, x17_140, x18_140, rfl, rfl, HA, HJ140, HO_129003, HO_129005, BK128, BK135, BK141, HB⟩ := hcut
 cases kq with
 | zero => exact absurd HA.out (by simp [quorumref6_walk_node.j8])
 | succ kj140 =>
 have H := HA.out
 clear HA
 simp only [quorumref6_walk_node.j8] at H
 as_aux_lemma =>
 by_cases c150 : 0 ≤ x15_6
 rotate_left
 ·rw [if_neg c150] at H
  exact absurd H (by simp)
 rw [if_pos c150] at H
 have c150b0 : decide (0 ≤ x15_6) = true := decide_eq_true c150
 clear c150
 by_cases c151 : x15_6 < (((rd_T85 l0_0 a1).f2).length : Int)
 rotate_left
 ·rw [if_neg c151] at H
  exact absurd H (by simp)
 rw [if_pos c151] at H
 have c151b0 : decide (x15_6 < (((rd_T85 l0_0 a1).f2).length : Int)) = true := decide_eq_true c151
 clear c151
 replace H := Option.bind_eq_some_iff.mp H
 obtain ⟨⟨q0_, q1_, q2_, q3_⟩, AN0, H⟩ := H
 try dsimp only at H
 have AN := mk0 AN0
 clear AN0
 have H' := mk0 H
 clear H
 have hnb156 := NB141_128.out
 have hnc156 := NB128_141.out
 obtain ⟨hcz158_0, hcz158_1, hcz158_2, hcz158_3, hfz158_0, hfz158_1, hfz158_2, hfz158_3⟩ := c4_ BK141
 have p150 : 0 ≤ (x15_6 : Int) := of_decide_eq_true (by first | (with_reducible assumption) | assumption)
 have q150 : x15_6 < (((rd_T85 l0_0 a1).f2).length : Int) := of_decide_eq_true (by first | (with_reducible assumption) | assumption)
 obtain ⟨ad150, e150, hx150_0⟩ := Kd.at_int HR140_2.out x15_6 p150 q150
 cases e150
 replace hx150_0 := (bc_ HB hx150_0 :)
 replace p150 := eq_true p150
 replace q150 := eq_true q150
 obtain ⟨hcz160_0, hcz160_1, hcz160_2, hcz160_3, hcz160_4, hcz160_5, hcz160_6, hfz160_0, hfz160_1, hfz160_2, hfz160_3, hfz160_4, hfz160_5, hfz160_6⟩ := c7_ BK128
 obtain ⟨As_, cs_, es_⟩ := Kd.R_slice HO_129003.out
 subst es_
 obtain ⟨Ar_, cr_, er_⟩ := Kd.R_slice HO_129005.out
 subst er_
 go_wp2_with (first | ((with_reducible refine gate_callee (f := 56) rfl ?_); refine gL_ (some 203) Tryd.func56 #[.pointer (some ⟨gb128, 0, none⟩), .int .i64 (rd ((rd_T85 l0_0 a1).f2) x15_6), .string x16_129, .string x17_140, .bool x18_140, .int .i64 (wrap64 (a5 + 1))] (h := ?_); (with_reducible refine (IH.out kj140 (by have := HJ8.out; have := HJ41.out; have := HJ52.out; have := HK4.out; have := HJ109.out; have := HK6.out; have := HJ129.out; have := HJ140.out; omega) _ As_ cs_ x129003_6 x129004_6 Ar_ cr_ x129005_6 x129006_6 _ _ _ _ _ q0_ q1_ q2_ q3_ ?nd1 ?nd2 ?nd3 ?nd4 ?nd5).mono ?_); (case nd1 => exact ⟨r_ HO_129003⟩); (case nd2 => exact ⟨r_ HO_129005⟩); (case nd3 => exact ⟨h_ BK128⟩); (case nd4 => exact ⟨b_ HB⟩); (case nd5 => exact AN.out); rintro e w161 ⟨rfl, v3_, h3_, v5_, h5_, hbk_, hfr_, hB_⟩; refine ⟨_, rfl, ?_⟩; have HE1 := mk0 h3_; have HE2 := mk0 h5_; have HE3 := mk0 hbk_; have HE4 := mk0 (Fr.trans (fh_ BK135) hfr_); have HE6 := mk0 (hfr_.keep gb141 85 _ NB141_128.out (by decide) (by decide) (h_ BK141)); have HE5 := mk0 hB_; clear h3_ h5_ hbk_ hfr_ hB_))
 go_roundg kj140
 case measure => have := HJ8.out; have := HJ41.out; have := HJ52.out; have := HK4.out; have := HJ109.out; have := HK6.out; have := HJ129.out; have := HJ140.out; omega
 case rel => exact ⟨wrap64 (x15_6 + 1), q0_, q1_, q2_, q3_, v3_, v5_, (by first | rfl | (simp; done) | (simp [*]; done)), H', ⟨by have := HJ8.out; have := HJ41.out; have := HJ52.out; have := HK4.out; have := HJ109.out; have := HK6.out; have := HJ129.out; have := HJ140.out; omega⟩, HE1, HE2, HE3, HE4, HE6, HE5⟩

end Go.Proofs.YtkmkppchhdkipaaDoor.HRef
