-- PRINTED by print.py (a twelfth state) out of the translation. Not trusted: Lean checks it.
import Derived.Test.YtbaecdcfefmcgaaPPndx0
import Derived.Test.YtbaecdcfefmcgaaPPndx11
import Derived.Great.BuildSlice
namespace Go.Proofs.Ytbaecdcfefmcgaa.PPnd
open Go.RowKit Go.Proofs.YtbaecdcfefmcgaaW.PrintWords Go.Proofs.YtbaecdcfefmcgaaW.PrintLast Go.Proofs.YtbaecdcfefmcgaaW.PrintMore
attribute [local go_sem] max2_int min2_int max_two min_two max_three min_three max_four min_four   -- for this text's walks alone
set_option linter.unusedVariables false
set_option linter.unusedSimpArgs false

theorem sets6_ (W : World) (g : Nat) (a b c d x y : Value) : W.setCells g 0 [a, b, c, d, x, y] = (((((W.setCell ⟨g, 0, none⟩ a).setCell ⟨g, 1, none⟩ b).setCell ⟨g, 2, none⟩ c).setCell ⟨g, 3, none⟩ d).setCell ⟨g, 4, none⟩ x).setCell ⟨g, 5, none⟩ y := rfl
theorem st6_run_ {P : Program} {a : Act} {o : Oper} {w w1 : World} (t : TypeId) (x y : Operand) (u p : Value) (ho : o.op = .store t x y) (hx : a.eval x = p) (hy : a.eval y = u) (hrun : (Instr.storeAt t p u).run P w = .ok () w1) : (execOp a.eval o).run P w = .ok .skip w1 := by
  unfold execOp
  simp only [ho, hx, hy, Sem.run_bind, hrun, Result.andThen_ok, Sem.run_pure]
theorem fill6_ (z c0 c1 c2 c3 c4 c5 : Value) : Instr.fill (fun i => some (i * 6, 6)) ((Array.range (1 * 6)).map (z.cells[· % z.cells.size]!)) [(0, .agg #[c0, c1, c2, c3, c4, c5])] = some #[c0, c1, c2, c3, c4, c5] := by
  have h := Go.Great.fill_whole (s := 6) (by decide) [Value.agg #[c0, c1, c2, c3, c4, c5]] ((Array.range (1 * 6)).map (z.cells[· % z.cells.size]!)) (fun v hv => by obtain rfl := List.mem_singleton.1 hv; rfl) (by simp)
  simpa [Value.cells] using h
theorem bsl_ {P : Program} {ops : Array Oper} {rest : List Oper} {Q : Exit → Act → World → Prop} {a : Act} {o : Oper} {w : World} (t e : TypeId) (parts : Array (Nat × Operand)) (cells : Array Value) (z : Value) (sz by_ : Nat) (hg : o.guard = none) (ho : o.op = .buildSlice t 1 parts) (hu : P.underlying t = some (.slice e)) (hi : (P.info? e).map (fun i => (i.zero, i.size, i.bytes)) = some (some z, sz, by_)) (hsm : ¬ 1 * sz > 2 ^ 24) (hp : ¬ 1 * sz = 0)
    (hf : Instr.fill (fun i => some (i * sz, sz)) ((Array.range (1 * sz)).map (z.cells[· % z.cells.size]!)) (parts.map fun (i, x) => (i, a.eval x)).toList = some cells) (h : wpList P ops Q rest (a.put o.dst (.slice (some ⟨w.heap.size, 0, none⟩) 1 1)) (w.alloc (.cells cells e))) : wpList P ops Q (o :: rest) a w := by
  obtain ⟨ie, h1, h2⟩ := Option.map_eq_some_iff.1 hi
  simp only [Prod.mk.injEq] at h2
  obtain ⟨h3, rfl, _⟩ := h2
  exact wpList_buildSlice hg t e 1 parts ho cells ie z hu h1 h3 hsm hp hf h
/-! ### quorumlaw10_only: function 27 -/
def quorumlaw10_only.l0 : Nat → List Int → Int → List (S36) → List Int → List (S62) → List (S36) → List Int → List (S62) → Option (Bool)
 | 0, _, _, _, _, _, _, _, _ => none
 | k + 1, x1, x6, x491000, x491001, x491002, x492000, x492001, x492002 => if x6 < (x491002.length : Int) then (if 0 ≤ x6 then (if (x1.length : Int) = 0 then (none) else (if 0 ≤ (Int.tmod x6 (x1.length : Int)) then (if (Int.tmod x6 (x1.length : Int)) < (x1.length : Int) then (if x492002.length < 2199023255552 then (quorumlaw10_only.l0 k x1 (wrap64 (x6 + 1)) x491000 x491001 x491002 x492000 x492001 (x492002 ++ [(⟨rd x1 (Int.tmod x6 (x1.length : Int)), (rd_T62 x491002 x6).f1, (⟨(rd_T62 x491002 x6).f2.f0, (rd_T62 x491002 x6).f2.f1, (rd_T62 x491002 x6).f2.f2, (rd_T62 x491002 x6).f2.f3⟩ : S36)⟩ : S62)])) else (none)) else (none)) else (none))) else (none)) else ((quorumlaw10_PendExact.f k x492000 x492001 x492002).bind fun t498 => (some t498))
def quorumlaw10_only.f (k : Nat) (l0_0 : List (S36)) (l0_1 : List Int) (l0_2 : List (S62)) (l1 : List Int) : Option (Bool) := quorumlaw10_only.l0 k l1 0 l0_0 l0_1 l0_2 l0_0 l0_1 ([] : List (S62))
theorem quorumlaw10_only.mono_l : ∀ k, (∀ y0 y1 y2 y3 y4 y5 y6 y7, LeO (quorumlaw10_only.l0 k y0 y1 y2 y3 y4 y5 y6 y7) (quorumlaw10_only.l0 (k + 1) y0 y1 y2 y3 y4 y5 y6 y7))
 | 0 => fun _ _ _ _ _ _ _ _ r h => by simp [quorumlaw10_only.l0] at h
 | k + 1 => by
  have ih0 := quorumlaw10_only.mono_l k
  ·intro y0 y1 y2 y3 y4 y5 y6 y7
   unfold quorumlaw10_only.l0
   repeat' first
   | (with_reducible exact ih0 _ _ _ _ _ _ _ _)
   | (with_reducible exact quorumlaw10_PendExact.mono _ _ _ _)
   | (with_reducible exact LeO.refl _)
   | (with_reducible exact LeO.none _)
   | (with_reducible refine LeO.ite ?_ ?_)
   | (with_reducible refine LeO.bind ?_ (fun _ => ?_))
   | exact ih0 _ _ _ _ _ _ _ _
   | exact quorumlaw10_PendExact.mono _ _ _ _
   | exact LeO.none _
   | refine LeO.ite ?_ ?_
   | refine LeO.bind ?_ (fun _ => ?_)
theorem quorumlaw10_only.mono : ∀ a0 a1 a2 a3 k, LeO (quorumlaw10_only.f k a0 a1 a2 a3) (quorumlaw10_only.f (k + 1) a0 a1 a2 a3) := by
 intro a0 a1 a2 a3 k
 have ih0 := quorumlaw10_only.mono_l k
 unfold quorumlaw10_only.f
 repeat' first
   | (with_reducible exact ih0 _ _ _ _ _ _ _ _)
   | (with_reducible exact quorumlaw10_PendExact.mono _ _ _ _)
   | (with_reducible exact LeO.refl _)
   | (with_reducible exact LeO.none _)
   | (with_reducible refine LeO.ite ?_ ?_)
   | (with_reducible refine LeO.bind ?_ (fun _ => ?_))
   | exact ih0 _ _ _ _ _ _ _ _
   | exact quorumlaw10_PendExact.mono _ _ _ _
   | exact LeO.none _
   | refine LeO.ite ?_ ?_
   | refine LeO.bind ?_ (fun _ => ?_)
set_option maxHeartbeats 8000000 in
set_option maxRecDepth 100000 in
theorem quorumlaw10_only.calls (k : Nat) (A0_0 : Option Addr) (c0_0 : Nat) (l0_0 : List (S36)) (A0_1 : Option Addr) (c0_1 : Nat) (l0_1 : List Int) (A0_2 : Option Addr) (c0_2 : Nat) (l0_2 : List (S62)) (A1 : Option Addr) (c1 : Nat) (l1 : List Int) (r : Bool) (w : World) (hr0_0 : Kd.C k36 w A0_0 l0_0.length l0_0) (hc0_0 : l0_0.length ≤ c0_0) (hr0_1 : Kd.C (Kd.int .i64) w A0_1 l0_1.length l0_1) (hc0_1 : l0_1.length ≤ c0_1) (hr0_2 : Kd.C k62 w A0_2 l0_2.length l0_2) (hc0_2 : l0_2.length ≤ c0_2) (hr1 : Kd.C (Kd.int .i64) w A1 l1.length l1) (hc1 : l1.length ≤ c1) (h : quorumlaw10_only.f k l0_0 l0_1 l0_2 l1 = some r) :
  Calls Try.prog 27 #[.agg #[.slice A0_0 l0_0.length c0_0, .slice A0_1 l0_1.length c0_1, .slice A0_2 l0_2.length c0_2], .slice A1 l1.length c1] w fun e w' => e = .returned (.bool r) ∧ Below w.heap.size w w' := by
 have hu56 := Try.underlying56
 have hu62 := Try.underlying62
 have HR0_0 := mk0 hr0_0
 have HC0_0 := mk0 hc0_0
 clear hr0_0 hc0_0
 have HR0_1 := mk0 hr0_1
 have HC0_1 := mk0 hc0_1
 clear hr0_1 hc0_1
 have HR0_2 := mk0 hr0_2
 have HC0_2 := mk0 hc0_2
 clear hr0_2 hc0_2
 have HR1 := mk0 hr1
 have HC1 := mk0 hc1
 clear hr1 hc1
 have HB := mk0 (Below.refl w.heap.size w)
 have H : (quorumlaw10_only.l0 k l1 0 l0_0 l0_1 l0_2 l0_0 l0_1 ([] : List (S62))) = some r := h
 clear h
 have H' := mk0 H
 clear H
 go_enter Try.func27, Try.ntmps27
 go_wp2_with (first | ((with_reducible refine gate_dst (N := 2) rfl ?_); refine bx_ (N := 2) (cs := #[.slice A0_0 l0_0.length c0_0, .slice A0_1 l0_1.length c0_1, .slice A0_2 l0_2.length c0_2]) (t := 56) (h := ?_); intro gb490 hg w3 hbox hb; have n2_ := mk0 (gz_ HB hg); have n3_ := mk0 (gz_ HB hg); replace HB := mk0 (bt_ (b_ HB) hb); have BK490 := mk0 (hbox); have GW490 := n2_; have GE490 := n3_; clear n2_ n3_ hb hbox hg; obtain ⟨hcz4_0, hcz4_1, hcz4_2, hfz4_0, hfz4_1, hfz4_2⟩ := c3_ BK490) | ((with_reducible refine gate_dst (N := 5) rfl ?_); refine bx_ (N := 5) (cs := #[.slice none 0 0, .slice none 0 0, .slice none 0 0]) (t := 56) (h := ?_); intro gb491 hg w5 hbox hb; have n3_ := mk0 (gz_ HB hg); have n4_ := mk0 (gz_ HB hg); have n5_ := mk0 (ne1_ BK490 hg); have n6_ := mk0 (ne2_ BK490 hg); replace BK490 := mk0 (u_ BK490 hb); replace HB := mk0 (bt_ (b_ HB) hb); have BK491 := mk0 (hbox); have GW491 := n3_; have GE491 := n4_; have NB490_491 := n5_; have NB491_490 := n6_; clear n3_ n4_ n5_ n6_ hb hbox hg; have hnb6 := NB491_490.out; have hnc6 := NB490_491.out; obtain ⟨hcz7_0, hcz7_1, hcz7_2, hfz7_0, hfz7_1, hfz7_2⟩ := c3_ BK491))
 go_loopg [6] k (fun kq v6 w' => ∃ (x6_1 : Int) (x492002_1 : List (S62)) (u492002 : Value), v6 = .int .i64 x6_1 ∧ Fc (quorumlaw10_only.l0 kq l1 x6_1 l0_0 l0_1 l0_2 l0_0 l0_1 x492002_1 = some r) ∧ Fc (kq ≤ k) ∧ Fc (Kd.R k62 62 w' w.heap.size (fun _ => True) u492002 x492002_1) ∧ Fc (w'.heap[gb490]? = some (.cells #[(.slice A0_0 l0_0.length c0_0), (.slice A0_1 l0_1.length c0_1), (.slice A0_2 l0_2.length c0_2)] 56 (0, 0))) ∧ Fc (w'.heap[gb491]? = some (.cells #[(.slice A0_0 l0_0.length c0_0), (.slice A0_1 l0_1.length c0_1), u492002] 56 (0, 0))) ∧ Fc (Below w.heap.size w w'))
 case atStart => exact ⟨(0), (([] : List (S62))), (.slice none 0 0), (by first | rfl | (simp; done) | (simp [*]; done)), H', ⟨Nat.le_refl _⟩, ⟨by first | exact Kd.R_nil _ _ _ _ _ | exact Kd.N_nil _ _ _ _ _ | exact Kd.V_nil _ _ _ _ _ | exact Kd.Q_nil _ _ _ _ _ | exact Kd.S_nil _ _ _ _ _⟩, ⟨(fa_ (fa_ (fa_ (fa_ (h_ BK490) NB490_491.out) NB490_491.out) NB490_491.out) NB490_491.out)⟩, ⟨(pu_ (cs := #[.slice A0_0 l0_0.length c0_0, .slice A0_1 l0_1.length c0_1, .slice A0_2 l0_2.length c0_2]) (pu_ (cs := #[.slice A0_0 l0_0.length c0_0, .slice A0_1 l0_1.length c0_1, .slice none 0 0]) (pu_ (cs := #[.slice A0_0 l0_0.length c0_0, .slice none 0 0, .slice none 0 0]) (pu_ (cs := #[.slice none 0 0, .slice none 0 0, .slice none 0 0]) (h_ BK491)))))⟩, ⟨b_ HB⟩⟩
 case round =>
  clear H'
  try clear c1
  try clear hcz4_0
  try clear hcz4_1
  try clear hcz4_2
  try clear hcz7_0
  try clear hcz7_1
  try clear hcz7_2
  try clear hfz4_0
  try clear hfz4_1
  try clear hfz4_2
  try clear hfz7_0
  try clear hfz7_1
  try clear hfz7_2
  obtain ⟨x6_1, x492002_1, u492002, rfl, HA, HK1, HO_492002, BK490, BK491, HB⟩ := hrel
  cases gk with
  | zero => exact absurd HA.out (by simp [quorumlaw10_only.l0])
  | succ k1 =>
   have H := HA.out
   clear HA
   simp only [quorumlaw10_only.l0] at H
   as_aux_lemma =>
    by_cases c8 : x6_1 < (l0_2.length : Int)
    ·rw [if_pos c8] at H
     have c8b0 : decide (x6_1 < (l0_2.length : Int)) = true := decide_eq_true c8
     clear c8
     by_cases c9 : 0 ≤ x6_1
     ·rw [if_pos c9] at H
      have c9b0 : decide (0 ≤ x6_1) = true := decide_eq_true c9
      clear c9
      by_cases c10 : (l1.length : Int) = 0
      ·rw [if_pos c10] at H
       exact absurd H (by simp)
      ·rw [if_neg c10] at H
       have c10b0 : ((l1.length : Int) == 0) = false := beq_eq_false_iff_ne.mpr c10
       have c10b1 : ((l1.length : Int) != 0) = true := bne_iff_ne.mpr c10
       have c10b2 : ¬ (l1 = []) := fun h_ => c10 (by rw [h_]; rfl)
       obtain ⟨ji11, hji11⟩ : ∃ j_ : Int, (Int.tmod x6_1 (l1.length : Int)) = j_ := ⟨_, rfl⟩
       replace H : (if 0 ≤ (ji11) then (if (ji11) < (l1.length : Int) then (if x492002_1.length < 2199023255552 then (quorumlaw10_only.l0 k1 l1 (wrap64 (x6_1 + 1)) l0_0 l0_1 l0_2 l0_0 l0_1 (x492002_1 ++ [(⟨rd l1 (ji11), (rd_T62 l0_2 x6_1).f1, (⟨(rd_T62 l0_2 x6_1).f2.f0, (rd_T62 l0_2 x6_1).f2.f1, (rd_T62 l0_2 x6_1).f2.f2, (rd_T62 l0_2 x6_1).f2.f3⟩ : S36)⟩ : S62)])) else (none)) else (none)) else (none)) = some r := by first | (rw [hji11] at H; exact H) | (simp only [hji11] at H ⊢; exact H)
       by_cases c12 : 0 ≤ (ji11)
       ·rw [if_pos c12] at H
        have c12b0 : decide (0 ≤ (ji11)) = true := decide_eq_true c12
        clear c12
        by_cases c13 : (ji11) < (l1.length : Int)
        ·rw [if_pos c13] at H
         have c13b0 : decide ((ji11) < (l1.length : Int)) = true := decide_eq_true c13
         clear c13
         by_cases c14 : x492002_1.length < 2199023255552
         ·rw [if_pos c14] at H
          have LMc14 := mk0 c14
          clear c14
          obtain ⟨y495, hy495⟩ : ∃ y_ : List (S62), y_ = (x492002_1 ++ [(⟨rd l1 (ji11), (rd_T62 l0_2 x6_1).f1, (⟨(rd_T62 l0_2 x6_1).f2.f0, (rd_T62 l0_2 x6_1).f2.f1, (rd_T62 l0_2 x6_1).f2.f2, (rd_T62 l0_2 x6_1).f2.f3⟩ : S36)⟩ : S62)]) := ⟨_, rfl⟩
          replace H : (quorumlaw10_only.l0 k1 l1 (wrap64 (x6_1 + 1)) l0_0 l0_1 l0_2 l0_0 l0_1 y495) = some r := by first | (rw [hy495]; with_reducible exact H) | (have H2_ := (Option.bind_some _ _).symm.trans H; rw [hy495]; with_reducible exact H2_) | (have H2_ := (Option.bind_some _ _).symm.trans H; with_reducible exact H2_) | with_reducible exact H | (rw [hy495]; exact H) | exact H
          have Ny495 := mk0 hy495
          clear hy495
          have H' := mk0 H
          clear H
          have hnb15 := NB490_491.out
          have hnc15 := NB491_490.out
          obtain ⟨hcz16_0, hcz16_1, hcz16_2, hfz16_0, hfz16_1, hfz16_2⟩ := c3_ BK490
          have p492 : 0 ≤ (x6_1 : Int) := of_decide_eq_true (by first | (with_reducible assumption) | assumption)
          have q492 : x6_1 < (l0_2.length : Int) := of_decide_eq_true (by first | (with_reducible assumption) | assumption)
          obtain ⟨ad492, e492, hx492_0, hx492_1, hx492_2, hx492_3, hx492_4, hx492_5⟩ := at_T62 HR0_2.out x6_1 p492 q492
          cases e492
          replace hx492_0 := (bc_ HB hx492_0 :)
          replace hx492_1 := (bc_ HB hx492_1 :)
          replace hx492_2 := (bc_ HB hx492_2 :)
          replace hx492_3 := (bc_ HB hx492_3 :)
          replace hx492_4 := (bc_ HB hx492_4 :)
          replace hx492_5 := (bc_ HB hx492_5 :)
          replace p492 := eq_true p492
          replace q492 := eq_true q492
          go_upto_region 7 with (first | ((with_reducible refine gate_dst (N := 7) rfl ?_); refine bx_ (N := 7) (cs := #[.int .i64 0, .int .i64 0, .int .i64 0, .string (⟨#[]⟩ : ByteArray), .string (⟨#[]⟩ : ByteArray), .bool false]) (t := 62) (h := ?_); intro gb493 hg w17 hbox hb; have n5_ := mk0 (gz_ HB hg); have n6_ := mk0 (gz_ HB hg); have n7_ := mk0 (ne1_ BK490 hg); have n8_ := mk0 (ne2_ BK490 hg); have n9_ := mk0 (ne1_ BK491 hg); have n10_ := mk0 (ne2_ BK491 hg); replace HO_492002 := mk0 (Kd.R_below (Kd.R_elderB (r_ HO_492002) gb493 (Nat.le_of_eq hg.symm)) hb); replace BK490 := mk0 (u_ BK490 hb); replace BK491 := mk0 (u_ BK491 hb); replace HB := mk0 (bt_ (b_ HB) hb); have BK493 := mk0 (hbox); have GW493 := n5_; have GE493 := n6_; have NB490_493 := n7_; have NB493_490 := n8_; have NB491_493 := n9_; have NB493_491 := n10_; clear n5_ n6_ n7_ n8_ n9_ n10_ hb hbox hg; have hnb18 := NB493_490.out; have hnc18 := NB490_493.out; have hnb19 := NB493_491.out; have hnc19 := NB491_493.out; obtain ⟨hcz20_0, hcz20_1, hcz20_2, hcz20_3, hcz20_4, hcz20_5, hfz20_0, hfz20_1, hfz20_2, hfz20_3, hfz20_4, hfz20_5⟩ := c6_ BK493) | ((with_reducible refine gate_store (t := 62) (p := 7) rfl ?_); refine sv_ (t := 62) (p := 7) (w1 := ((((((w17.setCell ⟨gb493, 0, none⟩ (.int .i64 ((rd_T62 l0_2 x6_1).f0))).setCell ⟨gb493, 1, none⟩ (.int .i64 ((rd_T62 l0_2 x6_1).f1))).setCell ⟨gb493, 2, none⟩ (.int .i64 ((rd_T62 l0_2 x6_1).f2.f0))).setCell ⟨gb493, 3, none⟩ (.string ((rd_T62 l0_2 x6_1).f2.f1))).setCell ⟨gb493, 4, none⟩ (.string ((rd_T62 l0_2 x6_1).f2.f2))).setCell ⟨gb493, 5, none⟩ (.bool ((rd_T62 l0_2 x6_1).f2.f3)))) (hrun := by (apply st6_run_ 62 _ _ (.agg #[.int .i64 ((rd_T62 l0_2 x6_1).f0), .int .i64 ((rd_T62 l0_2 x6_1).f1), .int .i64 ((rd_T62 l0_2 x6_1).f2.f0), .string ((rd_T62 l0_2 x6_1).f2.f1), .string ((rd_T62 l0_2 x6_1).f2.f2), .bool ((rd_T62 l0_2 x6_1).f2.f3)]) (.pointer (some ⟨gb493, 0, none⟩)); (case ho => rfl); (case hx => rfl); (case hy => rfl); (case hrun => (rw [← sets6_]; exact run_store_run (P := Try.prog) 62 (.agg #[.int .i64 ((rd_T62 l0_2 x6_1).f0), .int .i64 ((rd_T62 l0_2 x6_1).f1), .int .i64 ((rd_T62 l0_2 x6_1).f2.f0), .string ((rd_T62 l0_2 x6_1).f2.f1), .string ((rd_T62 l0_2 x6_1).f2.f2), .bool ((rd_T62 l0_2 x6_1).f2.f3)]) [.int .i64 ((rd_T62 l0_2 x6_1).f0), .int .i64 ((rd_T62 l0_2 x6_1).f1), .int .i64 ((rd_T62 l0_2 x6_1).f2.f0), .string ((rd_T62 l0_2 x6_1).f2.f1), .string ((rd_T62 l0_2 x6_1).f2.f2), .bool ((rd_T62 l0_2 x6_1).f2.f3)] BK493.out rfl (by kernel_rfl) (Nat.le_refl 6) (by simp [Value.oneCell']))))) (h := ?_); intro wA_ hwA_))
          have n1_ : Fc (wA_.heap[gb493]? = some (.cells #[.int .i64 ((rd_T62 l0_2 x6_1).f0), .int .i64 ((rd_T62 l0_2 x6_1).f1), .int .i64 ((rd_T62 l0_2 x6_1).f2.f0), .string ((rd_T62 l0_2 x6_1).f2.f1), .string ((rd_T62 l0_2 x6_1).f2.f2), .bool ((rd_T62 l0_2 x6_1).f2.f3)] 62 (0, 0))) := ⟨by rw [hwA_]; exact (blk_put (blk_put (blk_put (blk_put (blk_put (blk_put (cs := #[.int .i64 0, .int .i64 0, .int .i64 0, .string (⟨#[]⟩ : ByteArray), .string (⟨#[]⟩ : ByteArray), .bool false]) BK493.out 0 (.int .i64 ((rd_T62 l0_2 x6_1).f0)) rfl) 1 (.int .i64 ((rd_T62 l0_2 x6_1).f1)) rfl) 2 (.int .i64 ((rd_T62 l0_2 x6_1).f2.f0)) rfl) 3 (.string ((rd_T62 l0_2 x6_1).f2.f1)) rfl) 4 (.string ((rd_T62 l0_2 x6_1).f2.f2)) rfl) 5 (.bool ((rd_T62 l0_2 x6_1).f2.f3)) rfl)⟩
          have n2_ : Fc (wA_.heap[gb490]? = some (.cells #[.slice A0_0 l0_0.length c0_0, .slice A0_1 l0_1.length c0_1, .slice (some ad492) l0_2.length c0_2] 56 (0, 0))) := ⟨by rw [hwA_, Below.heap_setCell _ _ _ _ NB490_493.out, Below.heap_setCell _ _ _ _ NB490_493.out, Below.heap_setCell _ _ _ _ NB490_493.out, Below.heap_setCell _ _ _ _ NB490_493.out, Below.heap_setCell _ _ _ _ NB490_493.out, Below.heap_setCell _ _ _ _ NB490_493.out]; exact BK490.out⟩
          have n3_ : Fc (wA_.heap[gb491]? = some (.cells #[.slice A0_0 l0_0.length c0_0, .slice A0_1 l0_1.length c0_1, u492002] 56 (0, 0))) := ⟨by rw [hwA_, Below.heap_setCell _ _ _ _ NB491_493.out, Below.heap_setCell _ _ _ _ NB491_493.out, Below.heap_setCell _ _ _ _ NB491_493.out, Below.heap_setCell _ _ _ _ NB491_493.out, Below.heap_setCell _ _ _ _ NB491_493.out, Below.heap_setCell _ _ _ _ NB491_493.out]; exact BK491.out⟩
          have n8_ : Fc (Kd.R k62 62 wA_ w.heap.size (fun k_ => True ∧ k_ ≠ gb493) u492002 x492002_1) := ⟨by rw [hwA_]; exact (Kd.R_far (p := ⟨gb493, 5, none⟩) (Kd.R_far (p := ⟨gb493, 4, none⟩) (Kd.R_far (p := ⟨gb493, 3, none⟩) (Kd.R_far (p := ⟨gb493, 2, none⟩) (Kd.R_far (p := ⟨gb493, 1, none⟩) (Kd.R_far (p := ⟨gb493, 0, none⟩) HO_492002.out (fun _ hk => hk.2) (.int .i64 ((rd_T62 l0_2 x6_1).f0))) (fun _ hk => hk.2) (.int .i64 ((rd_T62 l0_2 x6_1).f1))) (fun _ hk => hk.2) (.int .i64 ((rd_T62 l0_2 x6_1).f2.f0))) (fun _ hk => hk.2) (.string ((rd_T62 l0_2 x6_1).f2.f1))) (fun _ hk => hk.2) (.string ((rd_T62 l0_2 x6_1).f2.f2))) (fun _ hk => hk.2) (.bool ((rd_T62 l0_2 x6_1).f2.f3)))⟩
          have n9_ : Fc (Below w.heap.size w wA_) := ⟨by rw [hwA_]; exact (bs_ (bs_ (bs_ (bs_ (bs_ (bs_ HB.out GE493.out) GE493.out) GE493.out) GE493.out) GE493.out) GE493.out)⟩
          clear BK493 BK490 BK491 HO_492002 HB hwA_
          have BK493 := n1_
          have BK490 := n2_
          have BK491 := n3_
          have HO_492002 := n8_
          have HB := n9_
          clear n1_ n2_ n3_ n8_ n9_
          have p494 : 0 ≤ ((ji11) : Int) := of_decide_eq_true (by first | (with_reducible assumption) | assumption)
          have q494 : (ji11) < (l1.length : Int) := of_decide_eq_true (by first | (with_reducible assumption) | assumption)
          obtain ⟨ad494, e494, hx494_0⟩ := Kd.at_int HR1.out (ji11) p494 q494
          cases e494
          replace hx494_0 := (bc_ HB hx494_0 :)
          replace p494 := eq_true p494
          replace q494 := eq_true q494
          have hna0_ := NB490_493.out
          have hnb0_ := NB493_490.out
          have hna1_ := NB491_493.out
          have hnb1_ := NB493_491.out
          obtain ⟨hca_0, hca_1, hca_2, hca_3, hca_4, hca_5, hfa_0, hfa_1, hfa_2, hfa_3, hfa_4, hfa_5⟩ := c6_ BK493
          obtain ⟨hcz21_0, hcz21_1, hcz21_2, hfz21_0, hfz21_1, hfz21_2⟩ := c3_ BK491
          go_upto_region 8 with (fail)
          obtain ⟨wB_, hwB_⟩ : ∃ wB_, wA_.setCell ⟨gb493, 0, none⟩ (.int .i64 (rd l1 (ji11))) = wB_ := ⟨_, rfl⟩
          rw [hwB_]
          have n1_ : Fc (wB_.heap[gb493]? = some (.cells #[.int .i64 (rd l1 (ji11)), .int .i64 ((rd_T62 l0_2 x6_1).f1), .int .i64 ((rd_T62 l0_2 x6_1).f2.f0), .string ((rd_T62 l0_2 x6_1).f2.f1), .string ((rd_T62 l0_2 x6_1).f2.f2), .bool ((rd_T62 l0_2 x6_1).f2.f3)] 62 (0, 0))) := ⟨by rw [← hwB_]; exact (blk_put (cs := #[.int .i64 ((rd_T62 l0_2 x6_1).f0), .int .i64 ((rd_T62 l0_2 x6_1).f1), .int .i64 ((rd_T62 l0_2 x6_1).f2.f0), .string ((rd_T62 l0_2 x6_1).f2.f1), .string ((rd_T62 l0_2 x6_1).f2.f2), .bool ((rd_T62 l0_2 x6_1).f2.f3)]) BK493.out 0 (.int .i64 (rd l1 (ji11))) rfl)⟩
          have n2_ : Fc (wB_.heap[gb490]? = some (.cells #[.slice A0_0 l0_0.length c0_0, .slice A0_1 l0_1.length c0_1, .slice (some ad492) l0_2.length c0_2] 56 (0, 0))) := ⟨by rw [← hwB_, Below.heap_setCell _ _ _ _ NB490_493.out]; exact BK490.out⟩
          have n3_ : Fc (wB_.heap[gb491]? = some (.cells #[.slice A0_0 l0_0.length c0_0, .slice A0_1 l0_1.length c0_1, u492002] 56 (0, 0))) := ⟨by rw [← hwB_, Below.heap_setCell _ _ _ _ NB491_493.out]; exact BK491.out⟩
          have n8_ : Fc (Kd.R k62 62 wB_ w.heap.size (fun k_ => True ∧ k_ ≠ gb493) u492002 x492002_1) := ⟨by rw [← hwB_]; exact (Kd.R_far (p := ⟨gb493, 0, none⟩) HO_492002.out (fun _ hk => hk.2) (.int .i64 (rd l1 (ji11))))⟩
          have n9_ : Fc (Below w.heap.size w wB_) := ⟨by rw [← hwB_]; exact (bs_ HB.out GE493.out)⟩
          clear BK493 BK490 BK491 HO_492002 HB hwB_
          have BK493 := n1_
          have BK490 := n2_
          have BK491 := n3_
          have HO_492002 := n8_
          have HB := n9_
          clear n1_ n2_ n3_ n8_ n9_
          clear hca_0 hca_1 hca_2 hca_3 hca_4 hca_5 hfa_0 hfa_1 hfa_2 hfa_3 hfa_4 hfa_5
          obtain ⟨hcb_0, hcb_1, hcb_2, hcb_3, hcb_4, hcb_5, hfb_0, hfb_1, hfb_2, hfb_3, hfb_4, hfb_5⟩ := c6_ BK493
          obtain ⟨hdc21_0, hdc21_1, hdc21_2, hdf21_0, hdf21_1, hdf21_2⟩ := c3_ BK491
          go_wp2_with (first | ((with_reducible refine gate_dst (N := 33) rfl ?_); refine bsl_ 54 62 ?pp_ #[.int .i64 (rd l1 (ji11)), .int .i64 ((rd_T62 l0_2 x6_1).f1), .int .i64 ((rd_T62 l0_2 x6_1).f2.f0), .string ((rd_T62 l0_2 x6_1).f2.f1), .string ((rd_T62 l0_2 x6_1).f2.f2), .bool ((rd_T62 l0_2 x6_1).f2.f3)] (.agg #[(.int .i64 0), (.int .i64 0), (.int .i64 0), (.string ⟨#[]⟩), (.string ⟨#[]⟩), (.bool false)]) 6 64 ?hg_ ?ho_ Try.underlying54 info62 (by decide) (by decide) ?hf_ ?_; (case hg_ => rfl); (case ho_ => rfl); (case hf_ => (simp only [List.map_toArray, List.map_cons, List.map_nil]; exact fill6_ _ _ _ _ _ _ _))) | ((with_reducible refine gate_builtin (b := .append) (xs := #[.tmp 31, .tmp 33]) rfl ?_); at_builtin; refine Kd.R_append k62 (w0 := w) w.heap.size rfl (.tmp 31) (.tmp 33) 54 62 (.agg #[(.int .i64 0), (.int .i64 0), (.int .i64 0), (.string ⟨#[]⟩), (.string ⟨#[]⟩), (.bool false)]) 64 rfl Try.underlying54 info62 rfl (by decide) (by omega) u492002 x492002_1 (⟨rd l1 (ji11), (rd_T62 l0_2 x6_1).f1, (⟨(rd_T62 l0_2 x6_1).f2.f0, (rd_T62 l0_2 x6_1).f2.f1, (rd_T62 l0_2 x6_1).f2.f2, (rd_T62 l0_2 x6_1).f2.f3⟩ : S36)⟩ : S62) [.int .i64 (rd l1 (ji11)), .int .i64 ((rd_T62 l0_2 x6_1).f1), .int .i64 ((rd_T62 l0_2 x6_1).f2.f0), .string ((rd_T62 l0_2 x6_1).f2.f1), .string ((rd_T62 l0_2 x6_1).f2.f2), .bool ((rd_T62 l0_2 x6_1).f2.f3)] (fun k_ => k_ ≠ gb493) (fun _ => False) rfl (by first | (go_simp; done) | (go_simp; rfl)) ?aP (fun _ hk => hk.elim) ?aF ?aO ?aB ?aS ?aL ?_; (case aP => exact k62_mkM _ _ _ (⟨rd l1 (ji11), (rd_T62 l0_2 x6_1).f1, (⟨(rd_T62 l0_2 x6_1).f2.f0, (rd_T62 l0_2 x6_1).f2.f1, (rd_T62 l0_2 x6_1).f2.f2, (rd_T62 l0_2 x6_1).f2.f3⟩ : S36)⟩ : S62)); (case aB => exact (b_ HB)); (case aF => exact (fun k_ hk => Kd.freshB (g := gb493) (o := .cells #[.int .i64 (rd l1 (ji11)), .int .i64 ((rd_T62 l0_2 x6_1).f1), .int .i64 ((rd_T62 l0_2 x6_1).f2.f0), .string ((rd_T62 l0_2 x6_1).f2.f1), .string ((rd_T62 l0_2 x6_1).f2.f2), .bool ((rd_T62 l0_2 x6_1).f2.f3)] 62 (0, 0)) (h_ BK493) k_ hk)); (case aO => exact (r2_ (Kd.R_mono HO_492002.out (fun _ hk => hk.2)))); (case aS => exact (bz_ (b_ HB))); (case aL => have := LMc14.out; omega); intro v496 w22 ho hb hg hat; rw [← Ny495.out] at ho; replace BK490 := mk0 (blk_grown (g := gb490) (o := .cells #[.slice A0_0 l0_0.length c0_0, .slice A0_1 l0_1.length c0_1, .slice (some ad492) l0_2.length c0_2] 56 (0, 0)) (h_ BK490) hg (Kd.R_ne HO_492002.out BK490.out (by decide))); replace BK491 := mk0 (blk_grown (g := gb491) (o := .cells #[.slice A0_0 l0_0.length c0_0, .slice A0_1 l0_1.length c0_1, u492002] 56 (0, 0)) (h_ BK491) hg (Kd.R_ne HO_492002.out BK491.out (by decide))); replace BK493 := mk0 (blk_grown (g := gb493) (o := .cells #[.int .i64 (rd l1 (ji11)), .int .i64 ((rd_T62 l0_2 x6_1).f1), .int .i64 ((rd_T62 l0_2 x6_1).f2.f0), .string ((rd_T62 l0_2 x6_1).f2.f1), .string ((rd_T62 l0_2 x6_1).f2.f2), .bool ((rd_T62 l0_2 x6_1).f2.f3)] 62 (0, 0)) (h_ BK493) hg (Kd.R_away HO_492002.out (fun _ hk => hk.2))); replace HB := mk0 (hb); have HO497 := mk0 (ho); clear HO_492002; clear ho hb hg hat; obtain ⟨Ao23, co23, eo23⟩ := Kd.R_slice HO497.out; subst eo23; obtain ⟨hcz24_0, hcz24_1, hcz24_2, hfz24_0, hfz24_1, hfz24_2⟩ := c3_ BK491))
          go_roundg k1
          case measure => have := HK1.out; omega
          case rel => exact ⟨(wrap64 (x6_1 + 1)), (y495), (.slice Ao23 y495.length co23), (by first | rfl | (simp; done) | (simp [*]; done)), H', ⟨by have := HK1.out; omega⟩, ⟨by (with_reducible repeat (first | apply Ra_ | apply Rn_ | apply Rd_)); exact Kd.R_mono (Kd.R_far (p := ⟨gb491, 2, none⟩) (Kd.R_types HO497.out BK491.out (by decide)) (fun _ hk => hk.2) (.slice Ao23 y495.length co23)) (fun _ hk => trivial)⟩, ⟨(fa_ (h_ BK490) NB490_491.out)⟩, ⟨(pu_ (cs := #[.slice A0_0 l0_0.length c0_0, .slice A0_1 l0_1.length c0_1, u492002]) (h_ BK491))⟩, ⟨b_ HB⟩⟩
         ·rw [if_neg c14] at H
          exact absurd H (by simp)
        ·rw [if_neg c13] at H
         exact absurd H (by simp)
       ·rw [if_neg c12] at H
        exact absurd H (by simp)
     ·rw [if_neg c9] at H
      exact absurd H (by simp)
    ·rw [if_neg c8] at H
     have c8b0 : decide (x6_1 < (l0_2.length : Int)) = false := decide_eq_false c8
     clear c8
     replace H := Option.bind_eq_some_iff.mp H
     obtain ⟨t498, A250, H⟩ := H
     try dsimp only at H
     have A25 := mk0 A250
     clear A250
     obtain rfl := Option.some.inj H
     have hnb26 := NB490_491.out
     have hnc26 := NB491_490.out
     obtain ⟨hcz27_0, hcz27_1, hcz27_2, hfz27_0, hfz27_1, hfz27_2⟩ := c3_ BK490
     obtain ⟨hcz28_0, hcz28_1, hcz28_2, hfz28_0, hfz28_1, hfz28_2⟩ := c3_ BK491
     obtain ⟨Ao29, co29, eo29⟩ := Kd.R_slice HO_492002.out
     subst eo29
     go_wp2_with (first | ((with_reducible refine gate_callee (f := 5) rfl ?_); refine gL_ (some 37) Try.func5 #[.agg #[.slice A0_0 l0_0.length c0_0, .slice A0_1 l0_1.length c0_1, .slice Ao29 x492002_1.length co29]] (h := ?_); (with_reducible refine (quorumlaw10_PendExact.calls k1 _ _ l0_0 _ _ l0_1 _ _ x492002_1 t498 _ ?side1 ?side2 ?side3 ?side4 ?side5 ?side6 A25.out).mono ?_); (case side1 => exact cb_ HR0_0 HB); (case side2 => exact HC0_0.out); (case side3 => exact cb_ HR0_1 HB); (case side4 => exact HC0_1.out); (case side5 => exact cr_ HO_492002); (case side6 => exact (Kd.R_reads' HO_492002.out).2.1); rintro e w30 ⟨rfl, hb⟩; refine ⟨_, rfl, ?_⟩; replace HO_492002 := mk0 (Kd.R_below (r_ HO_492002) hb); replace BK490 := mk0 (u_ BK490 hb); replace BK491 := mk0 (u_ BK491 hb); replace HB := mk0 (bt_ (b_ HB) hb); (try clear hb)))
     go_ret
     exact ⟨by first | rfl | (simp [errW_none, errW_some] <;> rfl) | (simp [*, errW_none, errW_some] <;> rfl), b_ HB⟩

/-! ### quorumlaw10_PendSaves: function 6 -/
def quorumlaw10_PendSaves.f (k : Nat) (l0_0 : List (S36)) (l0_1 : List Int) (l0_2 : List (S62)) : Option (Bool) := (quorumlaw10_only.f k l0_0 l0_1 l0_2 (([4, 0, 9] : List Int))).bind fun t503 => (some t503)
theorem quorumlaw10_PendSaves.mono : ∀ a0 a1 a2 k, LeO (quorumlaw10_PendSaves.f k a0 a1 a2) (quorumlaw10_PendSaves.f (k + 1) a0 a1 a2) := by
 intro a0 a1 a2 k
 unfold quorumlaw10_PendSaves.f
 repeat' first
   | (with_reducible exact quorumlaw10_only.mono _ _ _ _ _)
   | (with_reducible exact LeO.refl _)
   | (with_reducible exact LeO.none _)
   | (with_reducible refine LeO.ite ?_ ?_)
   | (with_reducible refine LeO.bind ?_ (fun _ => ?_))
   | exact quorumlaw10_only.mono _ _ _ _ _
   | exact LeO.none _
   | refine LeO.ite ?_ ?_
   | refine LeO.bind ?_ (fun _ => ?_)
set_option maxHeartbeats 8000000 in
set_option maxRecDepth 100000 in
theorem quorumlaw10_PendSaves.calls (k : Nat) (A0_0 : Option Addr) (c0_0 : Nat) (l0_0 : List (S36)) (A0_1 : Option Addr) (c0_1 : Nat) (l0_1 : List Int) (A0_2 : Option Addr) (c0_2 : Nat) (l0_2 : List (S62)) (r : Bool) (w : World) (hr0_0 : Kd.C k36 w A0_0 l0_0.length l0_0) (hc0_0 : l0_0.length ≤ c0_0) (hr0_1 : Kd.C (Kd.int .i64) w A0_1 l0_1.length l0_1) (hc0_1 : l0_1.length ≤ c0_1) (hr0_2 : Kd.C k62 w A0_2 l0_2.length l0_2) (hc0_2 : l0_2.length ≤ c0_2) (h : quorumlaw10_PendSaves.f k l0_0 l0_1 l0_2 = some r) :
  Calls Try.prog 6 #[.agg #[.slice A0_0 l0_0.length c0_0, .slice A0_1 l0_1.length c0_1, .slice A0_2 l0_2.length c0_2]] w fun e w' => e = .returned (.bool r) ∧ Below w.heap.size w w' := by
 have hu56 := Try.underlying56
 have HR0_0 := mk0 hr0_0
 have HC0_0 := mk0 hc0_0
 clear hr0_0 hc0_0
 have HR0_1 := mk0 hr0_1
 have HC0_1 := mk0 hc0_1
 clear hr0_1 hc0_1
 have HR0_2 := mk0 hr0_2
 have HC0_2 := mk0 hc0_2
 clear hr0_2 hc0_2
 have HB := mk0 (Below.refl w.heap.size w)
 have H : ((quorumlaw10_only.f k l0_0 l0_1 l0_2 (([4, 0, 9] : List Int))).bind fun t503 => (some t503)) = some r := h
 clear h
 obtain ⟨y500, hy500⟩ : ∃ y_ : List Int, y_ = (([4, 0, 9] : List Int)) := ⟨_, rfl⟩
 replace H : ((quorumlaw10_only.f k l0_0 l0_1 l0_2 y500).bind fun t503 => (some t503)) = some r := by first | (rw [hy500]; with_reducible exact H) | (have H2_ := (Option.bind_some _ _).symm.trans H; rw [hy500]; with_reducible exact H2_) | (have H2_ := (Option.bind_some _ _).symm.trans H; with_reducible exact H2_) | with_reducible exact H | (rw [hy500]; exact H) | exact H
 have Ny500 := mk0 hy500
 clear hy500
 replace H := Option.bind_eq_some_iff.mp H
 obtain ⟨t503, A20, H⟩ := H
 try dsimp only at H
 have A2 := mk0 A20
 clear A20
 obtain rfl := Option.some.inj H
 go_enter Try.func6, Try.ntmps6
 go_wp2_with (first | ((with_reducible refine gate_dst (N := 1) rfl ?_); refine bx_ (N := 1) (cs := #[.slice A0_0 l0_0.length c0_0, .slice A0_1 l0_1.length c0_1, .slice A0_2 l0_2.length c0_2]) (t := 56) (h := ?_); intro gb499 hg w3 hbox hb; have n2_ := mk0 (gz_ HB hg); have n3_ := mk0 (gz_ HB hg); replace HB := mk0 (bt_ (b_ HB) hb); have BK499 := mk0 (hbox); have GW499 := n2_; have GE499 := n3_; clear n2_ n3_ hb hbox hg; obtain ⟨hcz4_0, hcz4_1, hcz4_2, hfz4_0, hfz4_1, hfz4_2⟩ := c3_ BK499) | ((with_reducible refine gate_dst (N := 4) rfl ?_); refine Kd.R_lit (Kd.int .i64) _ 3 ?hg (N := 4) ?hd (xs := ([4, 0, 9] : List Int)) (inner := [.int .i64 4, .int .i64 0, .int .i64 9]) (ok := fun _ => True) (okp := fun _ => True) ?hr ?hp (fun _ hk => hk) trivial (Below.refl _ _) (Nat.le_refl _) (by simp) ?_; (case hd => rfl); (case hg => rfl); (case hr => first | (go_simp; done) | (go_simp; rfl)); (case hp => exact (Reps.one (show Kd.M (Kd.int .i64) _ _ _ 4 [.int .i64 4] from rfl) (Reps.one (show Kd.M (Kd.int .i64) _ _ _ 0 [.int .i64 0] from rfl) (Reps.one (show Kd.M (Kd.int .i64) _ _ _ 9 [.int .i64 9] from rfl) (Reps.none _ _))))); intro v501 w5 ho6 hb hg_ hnew_; clear hg_ hnew_; (first | rw [← Ny500.out] at ho6 | (simp only [Int.reduceToNat] at ho6; rw [← Ny500.out] at ho6)); have n0_ := mk0 (Kd.R_lower ho6 (bz_ (b_ HB))); replace BK499 := mk0 (u_ BK499 hb); replace HB := mk0 (bt_ (b_ HB) hb); have HO502 := n0_; clear n0_ hb ho6; obtain ⟨Ao7, co7, eo7⟩ := Kd.R_slice HO502.out; subst eo7) | ((with_reducible refine gate_callee (f := 27) rfl ?_); refine gL_ (some 5) Try.func27 #[.agg #[.slice A0_0 l0_0.length c0_0, .slice A0_1 l0_1.length c0_1, .slice A0_2 l0_2.length c0_2], .slice Ao7 y500.length co7] (h := ?_); (with_reducible refine (quorumlaw10_only.calls k _ _ l0_0 _ _ l0_1 _ _ l0_2 _ _ y500 t503 _ ?side1 ?side2 ?side3 ?side4 ?side5 ?side6 ?side7 ?side8 A2.out).mono ?_); (case side1 => exact cb_ HR0_0 HB); (case side2 => exact HC0_0.out); (case side3 => exact cb_ HR0_1 HB); (case side4 => exact HC0_1.out); (case side5 => exact cb_ HR0_2 HB); (case side6 => exact HC0_2.out); (case side7 => exact cr_ HO502); (case side8 => exact (Kd.R_reads' HO502.out).2.1); rintro e w8 ⟨rfl, hb⟩; refine ⟨_, rfl, ?_⟩; replace HO502 := mk0 (Kd.R_below (r_ HO502) hb); replace BK499 := mk0 (u_ BK499 hb); replace HB := mk0 (bt_ (b_ HB) hb); (try clear hb)))
 go_ret
 exact ⟨by first | rfl | (simp [errW_none, errW_some] <;> rfl) | (simp [*, errW_none, errW_some] <;> rfl), b_ HB⟩

/-! ### quorumlaw10_PendReturns: function 7 -/
def quorumlaw10_PendReturns.f (k : Nat) (l0_0 : List (S36)) (l0_1 : List Int) (l0_2 : List (S62)) : Option (Bool) := (quorumlaw10_only.f k l0_0 l0_1 l0_2 (([4, 0, 6, 0] : List Int))).bind fun t508 => (some t508)
theorem quorumlaw10_PendReturns.mono : ∀ a0 a1 a2 k, LeO (quorumlaw10_PendReturns.f k a0 a1 a2) (quorumlaw10_PendReturns.f (k + 1) a0 a1 a2) := by
 intro a0 a1 a2 k
 unfold quorumlaw10_PendReturns.f
 repeat' first
   | (with_reducible exact quorumlaw10_only.mono _ _ _ _ _)
   | (with_reducible exact LeO.refl _)
   | (with_reducible exact LeO.none _)
   | (with_reducible refine LeO.ite ?_ ?_)
   | (with_reducible refine LeO.bind ?_ (fun _ => ?_))
   | exact quorumlaw10_only.mono _ _ _ _ _
   | exact LeO.none _
   | refine LeO.ite ?_ ?_
   | refine LeO.bind ?_ (fun _ => ?_)
set_option maxHeartbeats 8000000 in
set_option maxRecDepth 100000 in
theorem quorumlaw10_PendReturns.calls (k : Nat) (A0_0 : Option Addr) (c0_0 : Nat) (l0_0 : List (S36)) (A0_1 : Option Addr) (c0_1 : Nat) (l0_1 : List Int) (A0_2 : Option Addr) (c0_2 : Nat) (l0_2 : List (S62)) (r : Bool) (w : World) (hr0_0 : Kd.C k36 w A0_0 l0_0.length l0_0) (hc0_0 : l0_0.length ≤ c0_0) (hr0_1 : Kd.C (Kd.int .i64) w A0_1 l0_1.length l0_1) (hc0_1 : l0_1.length ≤ c0_1) (hr0_2 : Kd.C k62 w A0_2 l0_2.length l0_2) (hc0_2 : l0_2.length ≤ c0_2) (h : quorumlaw10_PendReturns.f k l0_0 l0_1 l0_2 = some r) :
  Calls Try.prog 7 #[.agg #[.slice A0_0 l0_0.length c0_0, .slice A0_1 l0_1.length c0_1, .slice A0_2 l0_2.length c0_2]] w fun e w' => e = .returned (.bool r) ∧ Below w.heap.size w w' := by
 have hu56 := Try.underlying56
 have HR0_0 := mk0 hr0_0
 have HC0_0 := mk0 hc0_0
 clear hr0_0 hc0_0
 have HR0_1 := mk0 hr0_1
 have HC0_1 := mk0 hc0_1
 clear hr0_1 hc0_1
 have HR0_2 := mk0 hr0_2
 have HC0_2 := mk0 hc0_2
 clear hr0_2 hc0_2
 have HB := mk0 (Below.refl w.heap.size w)
 have H : ((quorumlaw10_only.f k l0_0 l0_1 l0_2 (([4, 0, 6, 0] : List Int))).bind fun t508 => (some t508)) = some r := h
 clear h
 obtain ⟨y505, hy505⟩ : ∃ y_ : List Int, y_ = (([4, 0, 6, 0] : List Int)) := ⟨_, rfl⟩
 replace H : ((quorumlaw10_only.f k l0_0 l0_1 l0_2 y505).bind fun t508 => (some t508)) = some r := by first | (rw [hy505]; with_reducible exact H) | (have H2_ := (Option.bind_some _ _).symm.trans H; rw [hy505]; with_reducible exact H2_) | (have H2_ := (Option.bind_some _ _).symm.trans H; with_reducible exact H2_) | with_reducible exact H | (rw [hy505]; exact H) | exact H
 have Ny505 := mk0 hy505
 clear hy505
 replace H := Option.bind_eq_some_iff.mp H
 obtain ⟨t508, A20, H⟩ := H
 try dsimp only at H
 have A2 := mk0 A20
 clear A20
 obtain rfl := Option.some.inj H
 go_enter Try.func7, Try.ntmps7
 go_wp2_with (first | ((with_reducible refine gate_dst (N := 1) rfl ?_); refine bx_ (N := 1) (cs := #[.slice A0_0 l0_0.length c0_0, .slice A0_1 l0_1.length c0_1, .slice A0_2 l0_2.length c0_2]) (t := 56) (h := ?_); intro gb504 hg w3 hbox hb; have n2_ := mk0 (gz_ HB hg); have n3_ := mk0 (gz_ HB hg); replace HB := mk0 (bt_ (b_ HB) hb); have BK504 := mk0 (hbox); have GW504 := n2_; have GE504 := n3_; clear n2_ n3_ hb hbox hg; obtain ⟨hcz4_0, hcz4_1, hcz4_2, hfz4_0, hfz4_1, hfz4_2⟩ := c3_ BK504) | ((with_reducible refine gate_dst (N := 4) rfl ?_); refine Kd.R_lit (Kd.int .i64) _ 3 ?hg (N := 4) ?hd (xs := ([4, 0, 6, 0] : List Int)) (inner := [.int .i64 4, .int .i64 0, .int .i64 6, .int .i64 0]) (ok := fun _ => True) (okp := fun _ => True) ?hr ?hp (fun _ hk => hk) trivial (Below.refl _ _) (Nat.le_refl _) (by simp) ?_; (case hd => rfl); (case hg => rfl); (case hr => first | (go_simp; done) | (go_simp; rfl)); (case hp => exact (Reps.one (show Kd.M (Kd.int .i64) _ _ _ 4 [.int .i64 4] from rfl) (Reps.one (show Kd.M (Kd.int .i64) _ _ _ 0 [.int .i64 0] from rfl) (Reps.one (show Kd.M (Kd.int .i64) _ _ _ 6 [.int .i64 6] from rfl) (Reps.one (show Kd.M (Kd.int .i64) _ _ _ 0 [.int .i64 0] from rfl) (Reps.none _ _)))))); intro v506 w5 ho6 hb hg_ hnew_; clear hg_ hnew_; (first | rw [← Ny505.out] at ho6 | (simp only [Int.reduceToNat] at ho6; rw [← Ny505.out] at ho6)); have n0_ := mk0 (Kd.R_lower ho6 (bz_ (b_ HB))); replace BK504 := mk0 (u_ BK504 hb); replace HB := mk0 (bt_ (b_ HB) hb); have HO507 := n0_; clear n0_ hb ho6; obtain ⟨Ao7, co7, eo7⟩ := Kd.R_slice HO507.out; subst eo7) | ((with_reducible refine gate_callee (f := 27) rfl ?_); refine gL_ (some 5) Try.func27 #[.agg #[.slice A0_0 l0_0.length c0_0, .slice A0_1 l0_1.length c0_1, .slice A0_2 l0_2.length c0_2], .slice Ao7 y505.length co7] (h := ?_); (with_reducible refine (quorumlaw10_only.calls k _ _ l0_0 _ _ l0_1 _ _ l0_2 _ _ y505 t508 _ ?side1 ?side2 ?side3 ?side4 ?side5 ?side6 ?side7 ?side8 A2.out).mono ?_); (case side1 => exact cb_ HR0_0 HB); (case side2 => exact HC0_0.out); (case side3 => exact cb_ HR0_1 HB); (case side4 => exact HC0_1.out); (case side5 => exact cb_ HR0_2 HB); (case side6 => exact HC0_2.out); (case side7 => exact cr_ HO507); (case side8 => exact (Kd.R_reads' HO507.out).2.1); rintro e w8 ⟨rfl, hb⟩; refine ⟨_, rfl, ?_⟩; replace HO507 := mk0 (Kd.R_below (r_ HO507) hb); replace BK504 := mk0 (u_ BK504 hb); replace HB := mk0 (bt_ (b_ HB) hb); (try clear hb)))
 go_ret
 exact ⟨by first | rfl | (simp [errW_none, errW_some] <;> rfl) | (simp [*, errW_none, errW_some] <;> rfl), b_ HB⟩

/-! ### quorumlaw10_PendReleases: function 8 -/
def quorumlaw10_PendReleases.f (k : Nat) (l0_0 : List (S36)) (l0_1 : List Int) (l0_2 : List (S62)) : Option (Bool) := (quorumlaw10_only.f k l0_0 l0_1 l0_2 (([4, 0, 8, 4] : List Int))).bind fun t513 => (some t513)
theorem quorumlaw10_PendReleases.mono : ∀ a0 a1 a2 k, LeO (quorumlaw10_PendReleases.f k a0 a1 a2) (quorumlaw10_PendReleases.f (k + 1) a0 a1 a2) := by
 intro a0 a1 a2 k
 unfold quorumlaw10_PendReleases.f
 repeat' first
   | (with_reducible exact quorumlaw10_only.mono _ _ _ _ _)
   | (with_reducible exact LeO.refl _)
   | (with_reducible exact LeO.none _)
   | (with_reducible refine LeO.ite ?_ ?_)
   | (with_reducible refine LeO.bind ?_ (fun _ => ?_))
   | exact quorumlaw10_only.mono _ _ _ _ _
   | exact LeO.none _
   | refine LeO.ite ?_ ?_
   | refine LeO.bind ?_ (fun _ => ?_)
set_option maxHeartbeats 8000000 in
set_option maxRecDepth 100000 in
theorem quorumlaw10_PendReleases.calls (k : Nat) (A0_0 : Option Addr) (c0_0 : Nat) (l0_0 : List (S36)) (A0_1 : Option Addr) (c0_1 : Nat) (l0_1 : List Int) (A0_2 : Option Addr) (c0_2 : Nat) (l0_2 : List (S62)) (r : Bool) (w : World) (hr0_0 : Kd.C k36 w A0_0 l0_0.length l0_0) (hc0_0 : l0_0.length ≤ c0_0) (hr0_1 : Kd.C (Kd.int .i64) w A0_1 l0_1.length l0_1) (hc0_1 : l0_1.length ≤ c0_1) (hr0_2 : Kd.C k62 w A0_2 l0_2.length l0_2) (hc0_2 : l0_2.length ≤ c0_2) (h : quorumlaw10_PendReleases.f k l0_0 l0_1 l0_2 = some r) :
  Calls Try.prog 8 #[.agg #[.slice A0_0 l0_0.length c0_0, .slice A0_1 l0_1.length c0_1, .slice A0_2 l0_2.length c0_2]] w fun e w' => e = .returned (.bool r) ∧ Below w.heap.size w w' := by
 have hu56 := Try.underlying56
 have HR0_0 := mk0 hr0_0
 have HC0_0 := mk0 hc0_0
 clear hr0_0 hc0_0
 have HR0_1 := mk0 hr0_1
 have HC0_1 := mk0 hc0_1
 clear hr0_1 hc0_1
 have HR0_2 := mk0 hr0_2
 have HC0_2 := mk0 hc0_2
 clear hr0_2 hc0_2
 have HB := mk0 (Below.refl w.heap.size w)
 have H : ((quorumlaw10_only.f k l0_0 l0_1 l0_2 (([4, 0, 8, 4] : List Int))).bind fun t513 => (some t513)) = some r := h
 clear h
 obtain ⟨y510, hy510⟩ : ∃ y_ : List Int, y_ = (([4, 0, 8, 4] : List Int)) := ⟨_, rfl⟩
 replace H : ((quorumlaw10_only.f k l0_0 l0_1 l0_2 y510).bind fun t513 => (some t513)) = some r := by first | (rw [hy510]; with_reducible exact H) | (have H2_ := (Option.bind_some _ _).symm.trans H; rw [hy510]; with_reducible exact H2_) | (have H2_ := (Option.bind_some _ _).symm.trans H; with_reducible exact H2_) | with_reducible exact H | (rw [hy510]; exact H) | exact H
 have Ny510 := mk0 hy510
 clear hy510
 replace H := Option.bind_eq_some_iff.mp H
 obtain ⟨t513, A20, H⟩ := H
 try dsimp only at H
 have A2 := mk0 A20
 clear A20
 obtain rfl := Option.some.inj H
 go_enter Try.func8, Try.ntmps8
 go_wp2_with (first | ((with_reducible refine gate_dst (N := 1) rfl ?_); refine bx_ (N := 1) (cs := #[.slice A0_0 l0_0.length c0_0, .slice A0_1 l0_1.length c0_1, .slice A0_2 l0_2.length c0_2]) (t := 56) (h := ?_); intro gb509 hg w3 hbox hb; have n2_ := mk0 (gz_ HB hg); have n3_ := mk0 (gz_ HB hg); replace HB := mk0 (bt_ (b_ HB) hb); have BK509 := mk0 (hbox); have GW509 := n2_; have GE509 := n3_; clear n2_ n3_ hb hbox hg; obtain ⟨hcz4_0, hcz4_1, hcz4_2, hfz4_0, hfz4_1, hfz4_2⟩ := c3_ BK509) | ((with_reducible refine gate_dst (N := 4) rfl ?_); refine Kd.R_lit (Kd.int .i64) _ 3 ?hg (N := 4) ?hd (xs := ([4, 0, 8, 4] : List Int)) (inner := [.int .i64 4, .int .i64 0, .int .i64 8, .int .i64 4]) (ok := fun _ => True) (okp := fun _ => True) ?hr ?hp (fun _ hk => hk) trivial (Below.refl _ _) (Nat.le_refl _) (by simp) ?_; (case hd => rfl); (case hg => rfl); (case hr => first | (go_simp; done) | (go_simp; rfl)); (case hp => exact (Reps.one (show Kd.M (Kd.int .i64) _ _ _ 4 [.int .i64 4] from rfl) (Reps.one (show Kd.M (Kd.int .i64) _ _ _ 0 [.int .i64 0] from rfl) (Reps.one (show Kd.M (Kd.int .i64) _ _ _ 8 [.int .i64 8] from rfl) (Reps.one (show Kd.M (Kd.int .i64) _ _ _ 4 [.int .i64 4] from rfl) (Reps.none _ _)))))); intro v511 w5 ho6 hb hg_ hnew_; clear hg_ hnew_; (first | rw [← Ny510.out] at ho6 | (simp only [Int.reduceToNat] at ho6; rw [← Ny510.out] at ho6)); have n0_ := mk0 (Kd.R_lower ho6 (bz_ (b_ HB))); replace BK509 := mk0 (u_ BK509 hb); replace HB := mk0 (bt_ (b_ HB) hb); have HO512 := n0_; clear n0_ hb ho6; obtain ⟨Ao7, co7, eo7⟩ := Kd.R_slice HO512.out; subst eo7) | ((with_reducible refine gate_callee (f := 27) rfl ?_); refine gL_ (some 5) Try.func27 #[.agg #[.slice A0_0 l0_0.length c0_0, .slice A0_1 l0_1.length c0_1, .slice A0_2 l0_2.length c0_2], .slice Ao7 y510.length co7] (h := ?_); (with_reducible refine (quorumlaw10_only.calls k _ _ l0_0 _ _ l0_1 _ _ l0_2 _ _ y510 t513 _ ?side1 ?side2 ?side3 ?side4 ?side5 ?side6 ?side7 ?side8 A2.out).mono ?_); (case side1 => exact cb_ HR0_0 HB); (case side2 => exact HC0_0.out); (case side3 => exact cb_ HR0_1 HB); (case side4 => exact HC0_1.out); (case side5 => exact cb_ HR0_2 HB); (case side6 => exact HC0_2.out); (case side7 => exact cr_ HO512); (case side8 => exact (Kd.R_reads' HO512.out).2.1); rintro e w8 ⟨rfl, hb⟩; refine ⟨_, rfl, ?_⟩; replace HO512 := mk0 (Kd.R_below (r_ HO512) hb); replace BK509 := mk0 (u_ BK509 hb); replace HB := mk0 (bt_ (b_ HB) hb); (try clear hb)))
 go_ret
 exact ⟨by first | rfl | (simp [errW_none, errW_some] <;> rfl) | (simp [*, errW_none, errW_some] <;> rfl), b_ HB⟩

end Go.Proofs.Ytbaecdcfefmcgaa.PPnd
