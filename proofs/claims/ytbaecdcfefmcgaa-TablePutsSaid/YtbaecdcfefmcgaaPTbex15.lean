-- PRINTED by print.py (a twelfth state) out of the translation. Not trusted: Lean checks it.
import Derived.Test.YtbaecdcfefmcgaaPTbex0
import Derived.Test.YtbaecdcfefmcgaaPTbex4
import Derived.Test.YtbaecdcfefmcgaaPTbex7
import Derived.Test.YtbaecdcfefmcgaaPTbex8
import Derived.Test.YtbaecdcfefmcgaaPTbex9
import Derived.Test.YtbaecdcfefmcgaaPTbex13
import Derived.Test.YtbaecdcfefmcgaaPTbex14
import Derived.Test.YtbaecdcfefmcgaaHTabW
namespace Go.Proofs.Ytbaecdcfefmcgaa.PTbe
open Go.RowKit Go.Proofs.YtbaecdcfefmcgaaW.PrintWords Go.Proofs.YtbaecdcfefmcgaaW.PrintLast Go.Proofs.YtbaecdcfefmcgaaW.PrintMore
attribute [local go_sem] max2_int min2_int max_two min_two max_three min_three max_four min_four   -- for this text's walks alone
set_option maxHeartbeats 8000000
set_option maxRecDepth 100000
set_option linter.unusedVariables false
set_option linter.unusedSimpArgs false
/-! ### table_Put: function 84 -/
def table_Put.j0 : Nat → Int → Bool → Int → List (S99) → ByteArray → List (S72) → Option ((List (S99)) × Int)
 | 0, _, _, _, _, _, _ => none
 | k + 1, x8, x9, x11, x395000, x404000, x404001 => if x11 = 0 then ((table_Rooms.f k x395000).bind fun t415 => (if t415 ≥ 64 then (some (([] : List (S99)), 5)) else (if x9 = true then (if 0 ≤ x8 then (if x8 < (x395000.length : Int) then (some ((x395000.set (x8 : Int).toNat (⟨x404000, x404001⟩ : S99)), 0)) else (none)) else (none)) else ((api_Chain_129.f x395000 x8 (([(⟨x404000, x404001⟩ : S99)] : List (S99)))).bind fun t420 => (some (t420, 0)))))) else (some (([] : List (S99)), x11))
def table_Put.f (k : Nat) (l0_0 : List (S99)) (a1 : ByteArray) (a2_0 : Int) (a2_1 : ByteArray) (a2_2 : Bool) : Option ((List (S99)) × Int) := (table_May.f k l0_0).bind fun t397 => (if t397 = true then ((table_Own.f k l0_0).bind fun t398 => ((table_seek.f t398 a1).bind fun bt401 => (if bt401.2 = true then (if 0 ≤ bt401.1 then (if bt401.1 < (t398.length : Int) then ((chain_Add.f k ((rd_T99 t398 bt401.1).f0) ((rd_T99 t398 bt401.1).f1) a2_0 a2_1 a2_2).bind fun bt405 => (table_Put.j0 k bt401.1 bt401.2 bt405.2.2 t398 bt405.1 bt405.2.1)) else (none)) else (none)) else ((chain_New.f k a1 a2_0 a2_1 a2_2).bind fun bt410 => (table_Put.j0 k bt401.1 bt401.2 bt410.2.2 t398 bt410.1 bt410.2.1))))) else (some (([] : List (S99)), 1)))
theorem table_Put.mono_l : ∀ k, (∀ y0 y1 y2 y3 y4 y5, LeO (table_Put.j0 k y0 y1 y2 y3 y4 y5) (table_Put.j0 (k + 1) y0 y1 y2 y3 y4 y5))
 | 0 => fun _ _ _ _ _ _ r h => by simp [table_Put.j0] at h
 | k + 1 => by
  have ih0 := table_Put.mono_l k
  all_goals (intros; first | unfold table_Put.j0)
  all_goals (repeat' first | (with_reducible exact ih0 ..) | (with_reducible exact chain_Add.mono ..) | (with_reducible exact chain_New.mono ..) | (with_reducible exact table_May.mono ..) | (with_reducible exact table_Own.mono ..) | (with_reducible exact table_Rooms.mono ..) | (with_reducible exact LeO.refl _) | (with_reducible exact LeO.none _) | (with_reducible refine LeO.ite ?_ ?_) | (with_reducible refine LeO.bind ?_ (fun _ => ?_)) | exact LeO.none _ | refine LeO.ite ?_ ?_ | refine LeO.bind ?_ (fun _ => ?_))
theorem table_Put.mono : ∀ a0 a1 a2 a3 a4 k, LeO (table_Put.f k a0 a1 a2 a3 a4) (table_Put.f (k + 1) a0 a1 a2 a3 a4) := by
 intro a0 a1 a2 a3 a4 k
 have ih0 := table_Put.mono_l k
 unfold table_Put.f
 repeat' first | (with_reducible exact ih0 ..) | (with_reducible exact chain_Add.mono ..) | (with_reducible exact chain_New.mono ..) | (with_reducible exact table_May.mono ..) | (with_reducible exact table_Own.mono ..) | (with_reducible exact table_Rooms.mono ..) | (with_reducible exact LeO.refl _) | (with_reducible exact LeO.none _) | (with_reducible refine LeO.ite ?_ ?_) | (with_reducible refine LeO.bind ?_ (fun _ => ?_)) | exact LeO.none _ | refine LeO.ite ?_ ?_ | refine LeO.bind ?_ (fun _ => ?_)
def table_Put.T8 : Bool × List (List Nat × List Nat) := (true, [([], []), ([0], [0]), ([], []), ([1, 2], [1, 2]), ([3], [3]), ([], []), ([4, 5], [4, 5]), ([6], [6]), ([7], [7]), ([7], [7]), ([8, 6, 0, 1, 2, 3, 4, 5, 6, 7, 8], [8]), ([9, 10, 0, 1, 2, 3, 4, 5, 6, 7, 8, 9, 10], [9])])
def table_Put.B8 : List Nat := [0, 1, 0, 7, 15, 0, 63, 127, 255, 255, 511, 2047]
theorem table_Put.tab8 : rtab .any (opsOf Try.f84 8) = table_Put.T8 := by kernel_rfl
theorem table_Put.bits8 : waitsOk table_Put.T8.2 table_Put.B8 = true := by kernel_rfl
theorem table_Put.calls (k : Nat) (A0_0 : Option Addr) (c0_0 : Nat) (l0_0 : List (S99)) (a1 : ByteArray) (a2_0 : Int) (a2_1 : ByteArray) (a2_2 : Bool) (r1 : List (S99)) (r2 : Int) (w : World) (hr0_0 : Kd.C k99 w A0_0 l0_0.length l0_0) (hc0_0 : l0_0.length ≤ c0_0) (h : table_Put.f k l0_0 a1 a2_0 a2_1 a2_2 = some (r1, r2)) :
  Calls Try.prog 84 #[.agg #[.slice A0_0 l0_0.length c0_0], .string a1, .agg #[.int .i64 a2_0, .string a2_1, .bool a2_2]] w fun e w' => ∃ v0_ : Value, e = .returned (.tuple #[.agg #[v0_], .int .i64 r2]) ∧ Kd.N HTabU.kU 99 w' w.heap.size (fun k_ => (w.heap.size ≤ k_)) v0_ r1 ∧ Below w.heap.size w w' := by
 have hu47 := Try.underlying47
 have hu72 := Try.underlying72
 have hu99 := Try.underlying99
 have bi := mk0 hr0_0
 have bj := mk0 hc0_0
 clear hr0_0 hc0_0
 have HB := mk0 (Below.refl w.heap.size w)
 have H : ((table_May.f k l0_0).bind fun bx => (if bx = true then ((table_Own.f k l0_0).bind fun ae => ((table_seek.f ae a1).bind fun bt401 => (if bt401.2 = true then (if 0 ≤ bt401.1 then (if bt401.1 < (ae.length : Int) then ((chain_Add.f k ((rd_T99 ae bt401.1).f0) ((rd_T99 ae bt401.1).f1) a2_0 a2_1 a2_2).bind fun bt405 => (table_Put.j0 k bt401.1 bt401.2 bt405.2.2 ae bt405.1 bt405.2.1)) else (none)) else (none)) else ((chain_New.f k a1 a2_0 a2_1 a2_2).bind fun bt410 => (table_Put.j0 k bt401.1 bt401.2 bt410.2.2 ae bt410.1 bt410.2.1))))) else (some (([] : List (S99)), 1)))) = some (r1, r2) := h
 clear h
 replace H := ob_ H
 obtain ⟨bx, A4, H⟩ := H
 try dsimp only at H
 by_cases c5 : bx = true
 ·subst c5
  rw [if_pos rfl] at H
  replace H := ob_ H
  obtain ⟨ae, A6, H⟩ := H
  try dsimp only at H
  replace H := ob_ H
  obtain ⟨⟨al, bm⟩, A7, H⟩ := H
  try dsimp only at H
  have HC8 := mk0 H
  clear H
  go_enter Try.func84, Try.ntmps84
  go_upto_if 24 with (first | ((with_reducible refine gate_dst (N := 3) rfl ?_); refine bx_ (N := 3) (cs := #[.slice A0_0 l0_0.length c0_0]) (t := 47) (h := ?_); intro an hg w9 hbox hb; have n2_ := mk0 (gz_ HB hg); have aM := mk0 (gz_ HB hg); replace HB := mk0 (bt_ (b_ HB) hb); have aa := mk0 (hbox); have cj := n2_; have bz := aM; clear n2_ aM; clear hb hbox hg) | ((with_reducible refine gate_dst (N := 5) rfl ?_); refine bx_ (N := 5) (cs := #[.int .i64 a2_0, .string a2_1, .bool a2_2]) (t := 72) (h := ?_); intro ao hg eZ hbox hb; have aM := mk0 (gz_ HB hg); have aI := mk0 (gz_ HB hg); have aU := mk0 (ne1_ aa hg); have aP := mk0 (ne2_ aa hg); replace aa := mk0 (u_ aa hb); replace HB := mk0 (bt_ (b_ HB) hb); have ac := mk0 (hbox); have ck := aM; have bA := aI; have ax := aU; have aw := aP; clear aM aI aU aP; clear hb hbox hg) | ((with_reducible refine gate_dst (N := 6) rfl ?_); refine bx_ (N := 6) (cs := #[.slice none 0 0]) (t := 47) (h := ?_); intro am hg e0 hbox hb; have aI := mk0 (gz_ HB hg); have aU := mk0 (gz_ HB hg); have aP := mk0 (ne1_ aa hg); have a7 := mk0 (ne2_ aa hg); have a8 := mk0 (ne1_ ac hg); have a9 := mk0 (ne2_ ac hg); replace aa := mk0 (u_ aa hb); replace ac := mk0 (u_ ac hb); replace HB := mk0 (bt_ (b_ HB) hb); have ad := mk0 (hbox); have cl := aI; have bB := aU; have ay := aP; have au := a7; have az := a8; have aA := a9; clear aI aU aP a7 a8 a9 hb hbox hg; have dM := ax.out; have dN := aw.out; have dO := ay.out; have dP := au.out; obtain ⟨bC, bD⟩ := c1_ aa) | ((with_reducible refine gate_callee (f := 95) rfl ?_); refine gL_ (some 13) Try.func95 #[.agg #[.slice A0_0 l0_0.length c0_0]] (h := ?_); (with_reducible refine (table_May.calls k _ _ l0_0 true _ ?side1 ?side2 A4.out).mono ?_); (case side1 => exact cb_ bi HB); (case side2 => exact bj.out); rintro e e1 ⟨rfl, hb⟩; refine ⟨_, rfl, ?_⟩; replace aa := mk0 (u_ aa hb); replace ac := mk0 (u_ ac hb); replace ad := mk0 (u_ ad hb); replace HB := mk0 (bt_ (b_ HB) hb); (try clear hb); obtain ⟨bE, bF⟩ := c1_ aa) | ((with_reducible refine gate_callee (f := 125) rfl ?_); refine gL_ (some 17) Try.func125 #[.agg #[.slice A0_0 l0_0.length c0_0]] (h := ?_); (with_reducible refine (table_Own.calls k _ _ l0_0 ae _ ?side1 ?side2 A6.out).mono ?_); (case side1 => exact cb_ bi HB); (case side2 => exact bj.out); rintro e e2 ⟨eR, rfl, ho0, hb⟩; refine ⟨_, rfl, ?_⟩; have cz := mk0 (Kd.N_lower (Kd.N_mono (ok' := fun k_ => (w.heap.size ≤ k_) ∧ k_ ≠ an ∧ k_ ≠ ao ∧ k_ ≠ am) (Kd.S_N (HTabU.S_U (Kd.S_bound ho0))) (fun k_ hk_ => ⟨(Nat.le_trans (bz_ (b_ HB)) hk_.2.1), (fb_ aa k_ hk_.2.1), (fb_ ac k_ hk_.2.1), (fb_ ad k_ hk_.2.1)⟩)) (bz_ (b_ HB))); replace aa := mk0 (u_ aa hb); replace ac := mk0 (u_ ac hb); replace ad := mk0 (u_ ad hb); replace HB := mk0 (bt_ (b_ HB) hb); have ag := cz; clear cz; (try clear hb); (try clear ho0); obtain ⟨aD, av, cA⟩ := Kd.N_slice ag.out; subst cA; obtain ⟨bG, bH⟩ := c1_ aa) | ((with_reducible refine gate_callee (f := 126) rfl ?_); refine gL_ (some 21) Try.func126 #[.agg #[.slice aD ae.length av], .string a1] (h := ?_); (with_reducible refine (table_seek.calls _ _ ae a1 al bm _ ?side1 ?side2 A7.out).mono ?_); (case side1 => refine HTabU.C_of (Kd.N_reads' (e := 99) (base := w.heap.size) (ok := fun k_ => (((w.heap.size ≤ k_)) ∧ (k_ ≠ an ∧ (k_ ≠ ao ∧ k_ ≠ am)))) (n := ae.length) (c := av) ?_).2.2; exact (n2_ (Kd.N_mono (Kd.N_far (p := ⟨an, 0, none⟩) (Kd.N_mono ag.out (fun k_ hk => (⟨hk, hk.2.1⟩ : _ ∧ k_ ≠ an))) (fun _ hk => hk.2) (.slice aD ae.length av)) (fun _ h_ => h_.1)))); (case side2 => exact (Kd.N_reads' ag.out).2.1); rintro e e3 ⟨rfl, hb⟩; refine ⟨_, rfl, ?_⟩; replace ag := mk0 (Kd.N_below (n2_ (Kd.N_mono (Kd.N_far (p := ⟨an, 0, none⟩) (Kd.N_mono ag.out (fun k_ hk => (⟨hk, hk.2.1⟩ : _ ∧ k_ ≠ an))) (fun _ hk => hk.2) (.slice aD ae.length av)) (fun _ h_ => h_.1))) hb); replace aa := mk0 (blk_below (g := an) (o := .cells #[.slice aD ae.length av] 47 (0, 0)) (pu_ (cs := #[.slice A0_0 l0_0.length c0_0]) (h_ aa)) hb); replace ac := mk0 (blk_below (fa_ (h_ ac) aw.out) hb); replace ad := mk0 (blk_below (fa_ (h_ ad) au.out) hb); replace HB := mk0 (bt_ (b_ HB) hb); (try clear hb)) | ((with_reducible refine gate_dst (N := 10) rfl ?_); refine bx_ (N := 10) (cs := #[.string (⟨#[]⟩ : ByteArray), .slice none 0 0]) (t := 99) (h := ?_); intro ah hg dQ hbox hb; have aP := mk0 (gz_ HB hg); have a7 := mk0 (gz_ HB hg); have a8 := mk0 (ne1_ aa hg); have a9 := mk0 (ne2_ aa hg); have b7 := mk0 (ne1_ ac hg); have b8 := mk0 (ne2_ ac hg); have b9 := mk0 (ne1_ ad hg); have ca := mk0 (ne2_ ad hg); replace ag := mk0 (Kd.N_below (Kd.N_elderB (nn_ ag) ah (Nat.le_of_eq hg.symm)) hb); replace aa := mk0 (u_ aa hb); replace ac := mk0 (u_ ac hb); replace ad := mk0 (u_ ad hb); replace HB := mk0 (bt_ (b_ HB) hb); have af := mk0 (hbox); have cm := a7; have ap := a8; have aE := a9; have ak := b7; have aG := b8; have ar := b9; have aC := ca; clear aP a7 a8 a9 b7 b8 b9 ca; clear hb hbox hg))
  (try simp only [Act.put, List.setIfInBounds_toArray, List.set_cons_zero, List.set_cons_succ])
  go_cut [11] (fun v11 wc => ∃ (kq : Nat) (a5 : Int) (ai : ByteArray) (aj : List (S72)) (aN : Value), v11 = .int .i64 a5 ∧ Fc (table_Put.j0 kq al bm a5 ae ai aj = some (r1, r2)) ∧ Fc (kq ≤ k) ∧ Fc (Kd.N HTabU.kU 99 wc w.heap.size (fun k_ => (w.heap.size ≤ k_) ∧ some k_ ≠ (aN : Value).ownBlock ∧ k_ ≠ an ∧ k_ ≠ ao ∧ k_ ≠ am ∧ k_ ≠ ah) (.slice aD ae.length av) ae) ∧ Fc (Kd.R k72 72 wc w.heap.size (fun k_ => (w.heap.size ≤ k_) ∧ k_ ≠ ao) aN aj) ∧ Fc (wc.heap[an]? = some (.cells #[(.slice aD ae.length av)] 47 (0, 0))) ∧ Fc (wc.heap[ao]? = some (.cells #[.int .i64 a2_0, .string a2_1, .bool a2_2] 72 (0, 0))) ∧ Fc (wc.heap[am]? = some (.cells #[(.slice none 0 0)] 47 (0, 0))) ∧ Fc (wc.heap[ah]? = some (.cells #[.string ai, aN] 99 (0, 0))) ∧ Fc (Below w.heap.size w wc))
  case first =>
   have H := HC8.out
   clear HC8
   by_cases bX : bm = true
   ·subst bX
    rw [if_pos rfl] at H
    by_cases bY : 0 ≤ al
    ·rw [if_pos bY] at H
     have bI := decide_eq_true bY
     clear bY
     (first | rw [bI] | (simp only [i64_w, i32_w]; rw [bI]) | skip)
     by_cases bZ : al < (ae.length : Int)
     ·rw [if_pos bZ] at H
      have dR := decide_eq_true bZ
      clear bZ
      replace H := ob_ H
      obtain ⟨⟨ba, bb, cb⟩, dS, H⟩ := H
      try dsimp only at H
      have H' := mk0 H
      clear H
      try go_wp2
      replace ag := mk0 (Kd.N_drew ag.out)
      replace aa := mk0 (bD_ aa.out)
      replace ac := mk0 (bD_ ac.out)
      replace ad := mk0 (bD_ ad.out)
      replace af := mk0 (bD_ af.out)
      replace HB := mk0 (b1_ HB.out)
      have bn : 0 ≤ (al : Int) := od_
      have bo : al < (ae.length : Int) := od_
      obtain ⟨a6, bp, bq, cB, bc, aV, bd, be⟩ := at_T99 (HTabU.C_of (Kd.N_reads' ag.out).2.2) al bn bo
      cases cB
      obtain ⟨ce404, hce404, hMe404, hcc404⟩ := Kd.N_get ag.out z99 al bn (by first | exact bo | exact od_ | (have e_ := (Kd.N_reads' ag.out).1; omega))
      obtain ⟨ua404_1, uc404_1, rfl, ul404_1, ge404_1⟩ := k99_openF (HTabU.FK_of hMe404)
      have hv404_1 := hcc404 1 _ rfl
      rw [add_field _ _ 1 (by omega)] at hv404_1
      replace hv404_1 := Option.some.inj (hv404_1.symm.trans aV)
      injection hv404_1 with hva_ hvn_ hvc_
      rw [hva_] at ge404_1
      rw [hvc_] at ul404_1
      have HL404_1 := mk0 (show Kd.V k72 72 _ w.heap.size _ _ ((rd_T99 ae al).f1) from Kd.V_mk ul404_1 ge404_1)
      clear hva_ hvn_ hvc_ ge404_1 ul404_1 hcc404 hce404
      have aJ := mk0 be
      have bJ := mk0 bd
      clear be bd
      replace bn := eq_true bn
      replace bo := eq_true bo
      refine start_ (n := 12) (S := fun w' => w'.cell? ⟨an, 0, none⟩ = some (.slice (some a6) ae.length av) ∧ w'.cell? ⟨ao, 0, none⟩ = some (.int .i64 a2_0) ∧ w'.cell? ⟨ao, 1, none⟩ = some (.string a2_1) ∧ w'.cell? ⟨ao, 2, none⟩ = some (.bool a2_2) ∧ w'.cell? (a6.add ((al).toNat * 2)) = some (.string ((rd_T99 ae al).f0)) ∧ w'.cell? ⟨(a6.add ((al).toNat * 2)).block, (a6.add ((al).toNat * 2)).off + 1, none⟩ = some (.slice bp ((rd_T99 ae al).f1).length bq)) (ds := []) (bt 12 0) (by kernel_rfl) rfl rfl ⟨bk_ aa 0, bk_ ac 0, bk_ ac 1, bk_ ac 2, bc, aV⟩ (fun hHeld => ?_); refine with_tabW table_Put.tab8 table_Put.bits8 (fun HT_ HW_ => ?_)
      generalize dQ.drew = e4 at ag aa ac ad af HB HL404_1 aJ bc aV hHeld ⊢
      refine pq_ HT_.out 0 26 (bt 12 1) (h := ?_)
      refine pq_ HT_.out 2 28 (bt 12 5) (h := ?_)
      refine tq6_ HT_.out HW_.out 1 27 (bt 12 7) hHeld (h := ?_)
      refine pq_ HT_.out 3 29 (bt 12 15) (h := ?_)
      refine tq6_ HT_.out HW_.out 4 30 (bt 12 31) hHeld (h := ?_)
      refine tq6_ HT_.out HW_.out 5 31 (bt 12 63) hHeld (h := ?_)
      refine one_ (i := 6) (N := some 32) (bt 12 127) rfl rfl (one_of HT_.out (by kernel_rfl)) (by decide) (fun K hK => ?_)
      refine goes_ Try.func127 (by kernel_rfl) rfl #[.agg #[.string ((rd_T99 ae al).f0), .slice bp ((rd_T99 ae al).f1).length bq], .agg #[.int .i64 a2_0, .string a2_1, .bool a2_2]] (by rfl) rfl rfl gs_ ?_
      with_reducible refine (chain_Add.calls k ((rd_T99 ae al).f0) _ _ ((rd_T99 ae al).f1) a2_0 a2_1 a2_2 ba bb cb _ ?side1 ?side2 dS.out).mono ?_
      (case side1 => repeat (first | exact (by repeat (first | (with_reducible exact aJ.out) | (with_reducible refine Kd.C_alloc ?_ _) | (with_reducible refine Kd.C_drewN ?_ _) | (with_reducible refine Kd.C_drew ?_) | exact aJ.out)) | (with_reducible refine Kd.C_alloc ?_ _) | (with_reducible refine Kd.C_drewN ?_ _) | (with_reducible refine Kd.C_drew ?_)))
      (case side2 => exact bJ.out)
      rintro e cC ⟨eS, rfl, ho0, hb⟩
      have HS4_ := (hb.cell (World.block_lt_of_cell? _ _ hHeld.2.2.2.2.1)).trans hHeld.2.2.2.2.1
      have HS5_ := (hb.cell (World.block_lt_of_cell? _ _ hHeld.2.2.2.2.2)).trans hHeld.2.2.2.2.2
      refine ⟨_, rfl, ?_⟩
      have n2_ := mk0 (Kd.R_lower (Kd.R_newB (Kd.R_newM (M := fun k_ => (w.heap.size ≤ k_)) ho0 (bz_ (b_ HB)) (fun k_ h_ => h_)) (g := ao) (o := .cells #[.int .i64 a2_0, .string a2_1, .bool a2_2] 72 (0, 0)) (h_ ac)) (bz_ (b_ HB)))
      replace ag := mk0 (Kd.N_elder' (nn_ ag) (Kd.R_base ho0) hb)
      replace HL404_1 := mk0 (Kd.V_elder' (v_ HL404_1) (Kd.R_base ho0) hb)
      replace aa := mk0 (u_ aa hb)
      replace ac := mk0 (u_ ac hb)
      replace ad := mk0 (u_ ad hb)
      replace af := mk0 (blk_below (g := ah) (o := .cells #[.string (⟨#[]⟩ : ByteArray), .slice none 0 0] 99 (0, 0)) (h_ af) hb)
      replace aJ := mk0 (Kd.C_below (by (with_reducible repeat (first | refine Kd.C_drewN ?_ _ | refine Kd.C_drew ?_ | refine Kd.C_alloc ?_ _)); exact aJ.out) hb)
      replace HB := mk0 (bt_ (b_ HB) hb)
      have bK := n2_
      clear n2_
      (try clear hb)
      (try clear hk)
      (try clear hi)
      (try clear ho0)
      obtain ⟨bL, bM, cc⟩ := Kd.R_slice bK.out
      (first | subst cc | (injection cc with f1_ f2_ f3_; have f4_ := f1_.symm; have f5_ := f3_.symm; clear f1_ f2_ f3_; subst f4_; subst f5_))
      refine hK.out _ _ ⟨bk_ aa 0, bk_ ac 0, bk_ ac 1, bk_ ac 2, HS4_, HS5_⟩ (fun hHeld => ?_)
      clear hK K
      refine norm_ (a' := ?_) ?_ ?_
      rotate_left
      ·show Act.put _ (some 32) _ = _
       simp only [z_]
       rfl
      refine pq_ HT_.out 7 25 (bt 12 255) (h := ?_)
      refine pq_ HT_.out 8 33 (bt 12 511) (h := ?_)
      refine pq_ HT_.out 9 34 (bt 12 1023) (h := ?_)
      refine one_ (i := 10) (N := none) (bt 12 2047) rfl rfl (one_of HT_.out (by kernel_rfl)) (by decide) (fun K hK => ?_)
      have hs28 : cC.cell? ⟨ah, 0, none⟩ = some (.string (⟨#[]⟩ : ByteArray)) := bk_ af 0
      have hfs28 := blk_frozen af.out 0
      have cD := ap.out
      have cE := ak.out
      have cF := ar.out
      have cG := aE.out
      have cH := aG.out
      have cI := aC.out
      have hs30 : cC.cell? ⟨ah, 1, none⟩ = some (.slice none 0 0) := bk_ af 1
      have hfs30 := blk_frozen af.out 1
      have cJ := ap.out
      have cK := ak.out
      have cL := ar.out
      have cM := aE.out
      have cN := aG.out
      have cO := aC.out
      refine skip_ (w1 := ?_) (by rfl) rfl ?_ ?_
      rotate_left
      ·go_simp
       rfl
      refine hK.out _ _ ⟨(cf_ ap.out (cf_ ap.out hHeld.1)), (cf_ ak.out (cf_ ak.out hHeld.2.1)), (cf_ ak.out (cf_ ak.out hHeld.2.2.1)), (cf_ ak.out (cf_ ak.out hHeld.2.2.2.1)), ((cell_far (p := ⟨ah, _, none⟩) (by first | exact Kd.own_blk (Kd.N_away ag.out (fun _ hk => hk.1.2)) | (rw [add_block]; exact Kd.own_blk (Kd.N_away ag.out (fun _ hk => hk.1.2))) | (show (Addr.add _ _).block ≠ _; rw [add_block]; exact Kd.own_blk (Kd.N_away ag.out (fun _ hk => hk.1.2))) | (dsimp only; exact Kd.own_blk (Kd.N_away ag.out (fun _ hk => hk.1.2)))) _).trans (((cell_far (p := ⟨ah, _, none⟩) (by first | exact Kd.own_blk (Kd.N_away ag.out (fun _ hk => hk.1.2)) | (rw [add_block]; exact Kd.own_blk (Kd.N_away ag.out (fun _ hk => hk.1.2))) | (show (Addr.add _ _).block ≠ _; rw [add_block]; exact Kd.own_blk (Kd.N_away ag.out (fun _ hk => hk.1.2))) | (dsimp only; exact Kd.own_blk (Kd.N_away ag.out (fun _ hk => hk.1.2)))) _).trans hHeld.2.2.2.2.1))), ((cell_far (p := ⟨ah, _, none⟩) (by first | exact Kd.own_blk (Kd.N_away ag.out (fun _ hk => hk.1.2)) | (rw [add_block]; exact Kd.own_blk (Kd.N_away ag.out (fun _ hk => hk.1.2))) | (show (Addr.add _ _).block ≠ _; rw [add_block]; exact Kd.own_blk (Kd.N_away ag.out (fun _ hk => hk.1.2))) | (dsimp only; exact Kd.own_blk (Kd.N_away ag.out (fun _ hk => hk.1.2)))) _).trans (((cell_far (p := ⟨ah, _, none⟩) (by first | exact Kd.own_blk (Kd.N_away ag.out (fun _ hk => hk.1.2)) | (rw [add_block]; exact Kd.own_blk (Kd.N_away ag.out (fun _ hk => hk.1.2))) | (show (Addr.add _ _).block ≠ _; rw [add_block]; exact Kd.own_blk (Kd.N_away ag.out (fun _ hk => hk.1.2))) | (dsimp only; exact Kd.own_blk (Kd.N_away ag.out (fun _ hk => hk.1.2)))) _).trans hHeld.2.2.2.2.2)))⟩ (fun hHeld => ?_)
      clear hK K
      refine pq_ HT_.out 11 11 (bt 12 4095) (h := ?_)
      refine done_ (done_of HT_.out (by kernel_rfl)) ?_
      try go_wp2
      go_meet
      case rel => exact ⟨_, (cb), (ba), (bb), (.slice bL bb.length bM), sm_, H', ⟨by first | omega | exact Nat.le_refl _⟩, ⟨by (with_reducible repeat (first | apply Kd.N_alloc | apply Kd.N_drewN | apply Kd.N_drew)); exact Kd.N_mono (Kd.N_far (p := ⟨ah, 1, none⟩) (Kd.N_far (p := ⟨ah, 0, none⟩) (Kd.N_mono ag.out (fun k_ hk => (⟨hk, hk.1.2⟩ : _ ∧ k_ ≠ ah))) (fun _ hk => hk.2) (.string ba)) (fun _ hk => hk.2) (.slice bL bb.length bM)) (fun _ hk => ⟨hk.1.1.1.1, ⟨hk.1.2, ⟨hk.1.1.1.2.1, ⟨hk.1.1.1.2.2.1, ⟨hk.1.1.1.2.2.2, hk.1.1.2⟩⟩⟩⟩⟩)⟩, ⟨by (with_reducible repeat (first | apply Ra_ | apply Rn_ | apply Rd_)); exact Kd.R_mono (Kd.R_far (p := ⟨ah, 1, none⟩) (Kd.R_far (p := ⟨ah, 0, none⟩) (Kd.R_types bK.out af.out (by decide)) (fun _ hk => hk.2) (.string ba)) (fun _ hk => hk.2) (.slice bL bb.length bM)) (fun _ hk => ⟨hk.1.1.1, hk.1.2⟩)⟩, ⟨(fa_ (fa_ (h_ aa) ap.out) ap.out)⟩, ⟨(fa_ (fa_ (h_ ac) ak.out) ak.out)⟩, ⟨(fa_ (fa_ (h_ ad) ar.out) ar.out)⟩, ⟨(pu_ (cs := #[.string ba, .slice none 0 0]) (pu_ (cs := #[.string (⟨#[]⟩ : ByteArray), .slice none 0 0]) (h_ af)))⟩, ⟨b_ HB⟩⟩
     ·rw [if_neg bZ] at H
      exact absurd H (by simp)
    ·rw [if_neg bY] at H
     exact absurd H (by simp)
   ·replace bX := Bool.eq_false_iff.mpr bX
    subst bX
    rw [if_neg nf_] at H
    replace H := ob_ H
    obtain ⟨⟨bf, bg, cd⟩, dT, H⟩ := H
    try dsimp only at H
    have H' := mk0 H
    clear H
    have dU := aw.out
    have dV := ax.out
    have dW := az.out
    have dX := aA.out
    have dY := ak.out
    have dZ := aG.out
    obtain ⟨cP, cQ, cR, cS, cT, cU⟩ := c3_ ac
    go_wp2_with (first | ((with_reducible refine gate_callee (f := 128) rfl ?_); refine gL_ (some 38) Try.func128 #[.string a1, .agg #[.int .i64 a2_0, .string a2_1, .bool a2_2]] (h := ?_); (with_reducible refine (chain_New.calls k a1 a2_0 a2_1 a2_2 bf bg cd _ dT.out).mono ?_); rintro e e5 ⟨eT, rfl, ho0, hb⟩; refine ⟨_, rfl, ?_⟩; have bh := mk0 (Kd.R_lower (Kd.R_newB (Kd.R_newM (M := fun k_ => (w.heap.size ≤ k_)) ho0 (bz_ (b_ HB)) (fun k_ h_ => h_)) (g := ao) (o := .cells #[.int .i64 a2_0, .string a2_1, .bool a2_2] 72 (0, 0)) (h_ ac)) (bz_ (b_ HB))); replace ag := mk0 (Kd.N_elder' (nn_ ag) (Kd.R_base ho0) hb); replace aa := mk0 (u_ aa hb); replace ac := mk0 (u_ ac hb); replace ad := mk0 (u_ ad hb); replace af := mk0 (blk_below (g := ah) (o := .cells #[.string (⟨#[]⟩ : ByteArray), .slice none 0 0] 99 (0, 0)) (h_ af) hb); replace HB := mk0 (bt_ (b_ HB) hb); have bN := bh; clear bh; (try clear hb); (try clear ho0); have d0 := aE.out; have d1 := ap.out; have d2 := aC.out; have d3 := ar.out; obtain ⟨cV, cW, cX, cY⟩ := c2_ af; obtain ⟨bO, bP, cZ⟩ := Kd.R_slice bN.out; subst cZ))
    go_meet
    case rel => exact ⟨_, (cd), (bf), (bg), (.slice bO bg.length bP), sm_, H', ⟨by first | omega | exact Nat.le_refl _⟩, ⟨by (with_reducible repeat (first | apply Kd.N_alloc | apply Kd.N_drewN | apply Kd.N_drew)); exact Kd.N_mono (Kd.N_far (p := ⟨ah, 1, none⟩) (Kd.N_far (p := ⟨ah, 0, none⟩) (Kd.N_mono ag.out (fun k_ hk => (⟨hk, hk.1.2⟩ : _ ∧ k_ ≠ ah))) (fun _ hk => hk.2) (.string bf)) (fun _ hk => hk.2) (.slice bO bg.length bP)) (fun _ hk => ⟨hk.1.1.1.1, ⟨hk.1.2, ⟨hk.1.1.1.2.1, ⟨hk.1.1.1.2.2.1, ⟨hk.1.1.1.2.2.2, hk.1.1.2⟩⟩⟩⟩⟩)⟩, ⟨by (with_reducible repeat (first | apply Ra_ | apply Rn_ | apply Rd_)); exact Kd.R_mono (Kd.R_far (p := ⟨ah, 1, none⟩) (Kd.R_far (p := ⟨ah, 0, none⟩) (Kd.R_types bN.out af.out (by decide)) (fun _ hk => hk.2) (.string bf)) (fun _ hk => hk.2) (.slice bO bg.length bP)) (fun _ hk => ⟨hk.1.1.1, hk.1.2⟩)⟩, ⟨(fa_ (fa_ (h_ aa) ap.out) ap.out)⟩, ⟨(fa_ (fa_ (h_ ac) ak.out) ak.out)⟩, ⟨(fa_ (fa_ (h_ ad) ar.out) ar.out)⟩, ⟨(pu_ (cs := #[.string bf, .slice none 0 0]) (pu_ (cs := #[.string (⟨#[]⟩ : ByteArray), .slice none 0 0]) (h_ af)))⟩, ⟨b_ HB⟩⟩
  case rest =>
   clear HC8
   try clear c5
   try clear bC
   try clear bE
   try clear bG
   try clear bD
   try clear bF
   try clear bH
   obtain ⟨kq, a5, ai, aj, aN, rfl, HA, e6, ab, aq, aa, ac, ad, af, HB⟩ := hcut
   cases kq with
   | zero => exact absurd HA.out (by simp [table_Put.j0])
   | succ cn =>
    have H := HA.out
    clear HA
    simp only [table_Put.j0] at H
    as_aux_lemma =>
     by_cases bk : a5 = 0
     ·rw [if_pos bk] at H
      have co := beq_iff_eq.mpr bk
      have cp := bne_eq_false_iff_eq.mpr bk
      clear bk
      replace H := ob_ H
      obtain ⟨br, cq, H⟩ := H
      try dsimp only at H
      by_cases bv : br ≥ 64
      ·rw [if_pos bv] at H
       have cr := decide_eq_true bv
       clear bv
       simp only [Option.some.injEq, Prod.mk.injEq] at H
       obtain ⟨rfl, rfl⟩ := H
       have d4 := ax.out
       have d5 := aw.out
       have d6 := ay.out
       have d7 := au.out
       have d8 := ap.out
       have d9 := aE.out
       obtain ⟨c0, c1⟩ := c1_ aa
       go_wp2_with (first | ((with_reducible refine gate_callee (f := 122) rfl ?_); refine gL_ (some 55) Try.func122 #[.agg #[.slice aD ae.length av]] (h := ?_); (with_reducible refine (table_Rooms.calls cn _ _ ae br _ ?side1 ?side2 cq.out).mono ?_); (case side1 => exact (HTabU.C_of (cn_ ab))); (case side2 => exact (Kd.N_reads' ab.out).2.1); rintro e e7 ⟨rfl, hb⟩; refine ⟨_, rfl, ?_⟩; replace ab := mk0 (Kd.N_below (nn_ ab) hb); replace aq := mk0 (Kd.R_below (r_ aq) hb); replace aa := mk0 (u_ aa hb); replace ac := mk0 (u_ ac hb); replace ad := mk0 (u_ ad hb); replace af := mk0 (u_ af hb); replace HB := mk0 (bt_ (b_ HB) hb); (try clear hb); have ea := aA.out; have eb := az.out; have ec := ar.out; have ed := aC.out; obtain ⟨c6, c7⟩ := c1_ ad))
       refine bodyPost_ret (results_ct rfl _ _ am 47 #[.slice none 0 0] (0, 0) _ rfl (pu_ (cs := #[.slice none 0 0]) (h_ ad)) Try.underlying47 rfl (by kernel_rfl)) rfl ?_
       exact ⟨_, sa_, nl_, b_ HB⟩
      ·rw [if_neg bv] at H
       have cr := decide_eq_false bv
       clear bv
       by_cases b0 : bm = true
       ·subst b0
        rw [if_pos rfl] at H
        by_cases b1 : 0 ≤ al
        ·rw [if_pos b1] at H
         have ee := decide_eq_true b1
         clear b1
         by_cases b2 : al < (ae.length : Int)
         ·rw [if_pos b2] at H
          have ef := decide_eq_true b2
          clear b2
          obtain ⟨ce, aW⟩ : ∃ y_ : List (S99), y_ = (ae.set (al : Int).toNat (⟨ai, aj⟩ : S99)) := ⟨_, rfl⟩
          replace H : (some (ce, 0)) = some (r1, r2) := by first | (rw [aW]; with_reducible exact H) | (have H2_ := (Option.bind_some _ _).symm.trans H; rw [aW]; with_reducible exact H2_) | (have H2_ := (Option.bind_some _ _).symm.trans H; with_reducible exact H2_) | with_reducible exact H | (rw [aW]; exact H) | exact H
          have ct := mk0 aW
          clear aW
          simp only [Option.some.injEq, Prod.mk.injEq] at H
          obtain ⟨rfl, rfl⟩ := H
          have eg := ax.out
          have eh := aw.out
          have ei := ay.out
          have ej := au.out
          have ek := ap.out
          have el := aE.out
          obtain ⟨c8, c9⟩ := c1_ aa
          go_wp2_with (first | ((with_reducible refine gate_callee (f := 122) rfl ?_); refine gL_ (some 55) Try.func122 #[.agg #[.slice aD ae.length av]] (h := ?_); (with_reducible refine (table_Rooms.calls cn _ _ ae br _ ?side1 ?side2 cq.out).mono ?_); (case side1 => exact (HTabU.C_of (cn_ ab))); (case side2 => exact (Kd.N_reads' ab.out).2.1); rintro e bl ⟨rfl, hb⟩; refine ⟨_, rfl, ?_⟩; replace ab := mk0 (Kd.N_below (nn_ ab) hb); replace aq := mk0 (Kd.R_below (r_ aq) hb); replace aa := mk0 (u_ aa hb); replace ac := mk0 (u_ ac hb); replace ad := mk0 (u_ ad hb); replace af := mk0 (u_ af hb); replace HB := mk0 (bt_ (b_ HB) hb); (try clear hb); obtain ⟨aQ, aT, bw⟩ := Kd.R_slice aq.out; subst bw; obtain ⟨da, db⟩ := c1_ aa; have em := aG.out; have en := ak.out; have eo := aC.out; have ep := ar.out; obtain ⟨dc, dd, de, df⟩ := c2_ af; have cu : 0 ≤ (al : Int) := od_; have cv : (al : Int) < ((ae.length : Int) : Int) := od_; obtain ⟨aH, eU, cf, cg, dg, eV, ch⟩ := Kd.N_form ab.out (by omega); (first | cases cf | (injection cf with ea_ en_ ec_; (first | subst ea_ | (injection ea_ with ea_; subst ea_)); subst ec_; clear en_)); have ci := mk0 cg; have eW := mk0 ch; clear cg dg ch; obtain ⟨ce55, hcl55, hM55, hcc55, hfr55⟩ := Kd.N_elem ab.out z99 (al : Int) cu cv; obtain ⟨ua55_1, uc55_1, rfl, ul55_1, ge55_1⟩ := k99_openF (HTabU.FK_of hM55); have dG : bl.cell? ⟨aH, (al : Int).toNat * 2, none⟩ = some (.string ((rd_T99 ae al).f0)) := hcc55 0 _ rfl; have dH : bl.cell? ⟨aH, (al : Int).toNat * 2 + 1, none⟩ = some (.slice ua55_1 ((rd_T99 ae al).f1).length uc55_1) := hcc55 1 _ rfl; have dI : bl.frozen? ⟨aH, (al : Int).toNat * 2, none⟩ = false := hfr55 0; have dJ : bl.frozen? ⟨aH, (al : Int).toNat * 2 + 1, none⟩ = false := hfr55 1; clear hcl55 hcc55 hfr55 hM55; replace cu := eq_true cu; replace cv := eq_true cv; have HX65 := mk0 (show Kd.N HTabU.kU 99 bl w.heap.size (fun k_ => (w.heap.size ≤ k_) ∧ k_ ≠ an ∧ k_ ≠ ao ∧ k_ ≠ am ∧ k_ ≠ ah) (.slice (some ⟨aH, 0, none⟩) ae.length av) ae from (n2_ (Kd.N_mono ab.out (fun _ hk => ⟨hk.1, ⟨hk.2.2.1, ⟨hk.2.2.2.1, ⟨hk.2.2.2.2.1, hk.2.2.2.2.2⟩⟩⟩⟩)))); obtain ⟨ce65, hcl65, hM65, hcc65, hfr65⟩ := Kd.N_elem HX65.out z99 (al : Int) od_ (by have h_ : (al : Int) < ((ae.length : Int) : Int) := od_; first | exact h_ | (have e_ := (Kd.N_reads' ab.out).1; omega) | simpa using h_); obtain ⟨ua65_1, uc65_1, rfl, ul65_1, ge65_1⟩ := k99_openF (HTabU.FK_of hM65); have bQ := Kd.N_seg HX65.out (al : Int) od_ (by have h_ : (al : Int) < ((ae.length : Int) : Int) := od_; first | exact h_ | (have e_ := (Kd.N_reads' ab.out).1; omega) | simpa using h_) (seg := [.string ai, (.slice aQ aj.length aT)]) (j := 0) hcl65 hcc65 (show 2 ≤ 2 from by decide) (x' := (⟨ai, aj⟩ : S99)) (HTabU.mkF _ _ (⟨ai, aj⟩ : S99) (Kd.R_mono (ok' := (fun k_ => ((fun k_ => (w.heap.size ≤ k_) ∧ k_ ≠ an ∧ k_ ≠ ao ∧ k_ ≠ am ∧ k_ ≠ ah)) k_ ∧ k_ ≠ aH)) (Kd.R_types (Kd.R_types (Kd.R_types (Kd.R_apart' (aq.out) (Kd.N_typed ab.out) (by decide)) aa.out (by decide)) ad.out (by decide)) af.out (by decide)) (fun k_ hk => ⟨⟨hk.1.1.1.1.1, ⟨hk.1.1.2, ⟨hk.1.1.1.1.2, ⟨hk.1.2, hk.2⟩⟩⟩⟩, fun e_ => (hk.1.1.1.2) (by rw [e_]; rfl)⟩))) (fun _ hk => hk); have b3 := hcc65 0 _ rfl; (try simp only [show (HTabU.kU).sz = 2 from rfl, Nat.mul_one, Nat.add_zero] at b3); have b4 := hfr65 0; (try simp only [show (HTabU.kU).sz = 2 from rfl, Nat.mul_one, Nat.add_zero] at b4); have b5 := hcc65 1 _ rfl; (try simp only [show (HTabU.kU).sz = 2 from rfl, Nat.mul_one, Nat.add_zero] at b5); have b6 := hfr65 1; (try simp only [show (HTabU.kU).sz = 2 from rfl, Nat.mul_one, Nat.add_zero] at b6); clear hcl65 hcc65 hfr65 hM65) | ((with_reducible refine gate_store (t := 99) (p := 64) rfl ?_); refine sv_ (t := 99) (p := 64) (w1 := ((bl.setCell ⟨aH, (al : Int).toNat * 2, none⟩ (.string ai)).setCell ⟨aH, (al : Int).toNat * 2 + 1, none⟩ ((.slice aQ aj.length aT)))) (h := ?_); intro cw hw; have hg : bl.grownBy cw (some aH) := (by rw [hw]; exact bQ.2); have hp_ : Kd.N HTabU.kU 99 cw w.heap.size (fun k_ => (w.heap.size ≤ k_) ∧ k_ ≠ an ∧ k_ ≠ ao ∧ k_ ≠ am ∧ k_ ≠ ah) (.slice (some ⟨aH, 0, none⟩) ae.length av) ce := (by rw [hw, ct.out]; exact bQ.1); clear bQ; have bh := mk0 (blk_grown (g := an) (o := .cells #[.slice (some ⟨aH, 0, none⟩) ae.length av] 47 (0, 0)) (h_ aa) hg (Kd.N_ne ab.out aa.out (by decide))); have n2_ := mk0 (blk_grown (g := ao) (o := .cells #[.int .i64 a2_0, .string a2_1, .bool a2_2] 72 (0, 0)) (h_ ac) hg (Kd.N_ne ab.out ac.out (by decide))); have aM := mk0 (blk_grown (g := am) (o := .cells #[.slice none 0 0] 47 (0, 0)) (h_ ad) hg (Kd.N_ne ab.out ad.out (by decide))); have aI := mk0 (blk_grown (g := ah) (o := .cells #[.string ai, (.slice aQ aj.length aT)] 99 (0, 0)) (h_ af) hg (Kd.N_away ab.out (fun _ hk => hk.2.2.2.2.2))); replace ab := mk0 (hp_); replace HB := mk0 ((by rw [hw]; exact bs_ (bs_ (HB.out) ci.out) ci.out : Below w.heap.size w cw)); clear aa ac ad af aq; have aa := bh; have ac := n2_; have ad := aM; have af := aI; clear bh n2_ aM aI hg hw hp_; obtain ⟨dh, di⟩ := c1_ aa; have er := aA.out; have es := az.out; obtain ⟨dj, dk⟩ := c1_ ad))
          refine bodyPost_ret (results_ct rfl _ _ am 47 #[.slice (some ⟨aH, 0, none⟩) ae.length av] (0, 0) _ rfl (pu_ (cs := #[.slice none 0 0]) (h_ ad)) Try.underlying47 rfl (by kernel_rfl)) rfl ?_
          exact ⟨_, sa_, by (with_reducible repeat (first | apply Kd.N_alloc | apply Kd.N_drewN | apply Kd.N_drew)); exact Kd.N_mono (Kd.N_far (p := ⟨am, 0, none⟩) (Kd.N_mono ab.out (fun k_ hk => (⟨hk, hk.2.2.2.1⟩ : _ ∧ k_ ≠ am))) (fun _ hk => hk.2) (.slice (some ⟨aH, 0, none⟩) ae.length av)) (fun _ hk => hk.1.1), b_ HB⟩
         ·rw [if_neg b2] at H
          exact absurd H (by simp)
        ·rw [if_neg b1] at H
         exact absurd H (by simp)
       ·replace b0 := Bool.eq_false_iff.mpr b0
        subst b0
        rw [if_neg nf_] at H
        obtain ⟨aY, aX⟩ : ∃ y_ : List (S99), y_ = (([(⟨ai, aj⟩ : S99)] : List (S99))) := ⟨_, rfl⟩
        replace H : ((api_Chain_129.f ae al aY).bind fun aZ => (some (aZ, 0))) = some (r1, r2) := by first | (rw [aX]; with_reducible exact H) | (have H2_ := (Option.bind_some _ _).symm.trans H; rw [aX]; with_reducible exact H2_) | (have H2_ := (Option.bind_some _ _).symm.trans H; with_reducible exact H2_) | with_reducible exact H | (rw [aX]; exact H) | exact H
        have bR := mk0 aX
        clear aX
        replace H := ob_ H
        obtain ⟨aZ, et, H⟩ := H
        try dsimp only at H
        simp only [Option.some.injEq, Prod.mk.injEq] at H
        obtain ⟨rfl, rfl⟩ := H
        have eu := ax.out
        have ev := aw.out
        have ew := ay.out
        have ex := au.out
        have ey := ap.out
        have ez := aE.out
        obtain ⟨dl, dm⟩ := c1_ aa
        go_wp2_with (first | ((with_reducible refine gate_callee (f := 122) rfl ?_); refine gL_ (some 55) Try.func122 #[.agg #[.slice aD ae.length av]] (h := ?_); (with_reducible refine (table_Rooms.calls cn _ _ ae br _ ?side1 ?side2 cq.out).mono ?_); (case side1 => exact (HTabU.C_of (cn_ ab))); (case side2 => exact (Kd.N_reads' ab.out).2.1); rintro e eA ⟨rfl, hb⟩; refine ⟨_, rfl, ?_⟩; replace ab := mk0 (Kd.N_below (nn_ ab) hb); replace aq := mk0 (Kd.R_below (r_ aq) hb); replace aa := mk0 (u_ aa hb); replace ac := mk0 (u_ ac hb); replace ad := mk0 (u_ ad hb); replace af := mk0 (u_ af hb); replace HB := mk0 (bt_ (b_ HB) hb); (try clear hb); obtain ⟨dn, dp⟩ := c1_ aa; have eB := aG.out; have eC := ak.out; have eD := aC.out; have eE := ar.out; obtain ⟨dq, dr, dt, du⟩ := c2_ af; obtain ⟨bS, bT, dv⟩ := Kd.R_slice aq.out; subst dv) | ((with_reducible refine gate_dst (N := 45) rfl ?_); refine Kd.N_lit HTabU.kU _ 99 ?hg (N' := 45) ?hd (xs := ([(⟨ai, aj⟩ : S99)] : List (S99))) (inner := [.string ai, .slice bS aj.length bT]) (ok := (fun k_ => (w.heap.size ≤ k_) ∧ some k_ ≠ (.slice aD ae.length av : Value).ownBlock ∧ k_ ≠ an ∧ k_ ≠ ao ∧ k_ ≠ am ∧ k_ ≠ ah)) (okp := (fun k_ => (w.heap.size ≤ k_) ∧ some k_ ≠ (.slice aD ae.length av : Value).ownBlock ∧ k_ ≠ an ∧ k_ ≠ ao ∧ k_ ≠ am ∧ k_ ≠ ah)) ?hr ?hp (fun _ hk => hk) ((show ∀ k_, eA.heap.size ≤ k_ → (fun k_ => (w.heap.size ≤ k_) ∧ some k_ ≠ (.slice aD ae.length av : Value).ownBlock ∧ k_ ≠ an ∧ k_ ≠ ao ∧ k_ ≠ am ∧ k_ ≠ ah) k_ from fun k_ hk => ⟨(Nat.le_trans (bz_ (b_ HB)) hk), Kd.fresh' (Kd.N_lt (nn_ ab)) k_ hk, Kd.freshB (g := an) (o := .cells #[.slice aD ae.length av] 47 (0, 0)) (h_ aa) k_ hk, Kd.freshB (g := ao) (o := .cells #[.int .i64 a2_0, .string a2_1, .bool a2_2] 72 (0, 0)) (h_ ac) k_ hk, Kd.freshB (g := am) (o := .cells #[.slice none 0 0] 47 (0, 0)) (h_ ad) k_ hk, Kd.freshB (g := ah) (o := .cells #[.string ai, .slice bS aj.length bT] 99 (0, 0)) (h_ af) k_ hk⟩) _ (Nat.le_refl _)) (Below.refl _ _) (Nat.le_refl _) (by simp) ?_; (case hd => rfl); (case hg => rfl); (case hr => first | (go_simp; done) | (go_simp; rfl)); (case hp => exact (Reps.c2 (show Kd.FK HTabU.kU _ _ (⟨ai, aj⟩ : S99) [.string ai, .slice bS aj.length bT] from (HTabU.mkF _ _ (⟨ai, aj⟩ : S99) (Kd.R_mono (ok' := (fun k_ => (w.heap.size ≤ k_) ∧ some k_ ≠ (.slice aD ae.length av : Value).ownBlock ∧ k_ ≠ an ∧ k_ ≠ ao ∧ k_ ≠ am ∧ k_ ≠ ah)) (Kd.R_types (Kd.R_types (Kd.R_types (Kd.R_apart' (aq.out) (Kd.N_typed ab.out) (by decide)) aa.out (by decide)) ad.out (by decide)) af.out (by decide)) (fun k_ hk => ⟨hk.1.1.1.1.1, ⟨hk.1.1.1.2, ⟨hk.1.1.2, ⟨hk.1.1.1.1.2, ⟨hk.1.2, hk.2⟩⟩⟩⟩⟩)))) (Reps.none _ _))); intro eX e8 ho82 hb hg_ hnew_; clear hg_ hnew_; (first | rw [← bR.out] at ho82 | (simp only [Int.reduceToNat] at ho82; rw [← bR.out] at ho82)); have bh := mk0 (Kd.N_lower ho82 (bz_ (b_ HB))); replace ab := mk0 (Kd.N_elder' (nn_ ab) (Kd.N_base ho82) hb); replace aa := mk0 (u_ aa hb); replace ac := mk0 (u_ ac hb); replace ad := mk0 (u_ ad hb); replace af := mk0 (u_ af hb); replace HB := mk0 (bt_ (b_ HB) hb); clear aq; have aK := bh; clear bh hb ho82; obtain ⟨bs, bu, dw⟩ := Kd.N_slice aK.out; subst dw) | ((with_reducible refine gate_callee (f := 129) rfl ?_); refine gL_ (some 46) Try.func129 #[.slice aD ae.length av, .int .i64 al, .slice bs aY.length bu] (h := ?_); (with_reducible refine (api_Chain_129.calls (fun k_ => ((w.heap.size ≤ k_) ∧ (k_ ≠ an ∧ (k_ ≠ ao ∧ (k_ ≠ am ∧ (k_ ≠ ah ∧ some k_ ≠ (.slice bs aY.length bu : Value).ownBlock)))))) (.slice aD ae.length av) ae al (fun k_ => ((w.heap.size ≤ k_) ∧ (some k_ ≠ (.slice aD ae.length av : Value).ownBlock ∧ (k_ ≠ an ∧ (k_ ≠ ao ∧ (k_ ≠ am ∧ k_ ≠ ah)))))) (.slice bs aY.length bu) aY aZ w _ ?side1 ?side2 ?side3 ?side4 ?side5 et.out).mono ?_); (case side1 => repeat (first | (with_reducible first | exact HB.out | apply bL_ | apply pN_ | apply b1_ | refine bs_ ?_ bz.out | refine bs_ ?_ bA.out | refine bs_ ?_ bB.out | refine bs_ ?_ cm.out) | exact HB.out)); (case side2 => exact Kd.N_mono (ok' := fun k_ => ((w.heap.size ≤ k_) ∧ (k_ ≠ an ∧ (k_ ≠ ao ∧ (k_ ≠ am ∧ (k_ ≠ ah ∧ some k_ ≠ (.slice bs aY.length bu : Value).ownBlock)))))) (ab.out) (fun k_ hk_ => ⟨hk_.1.1, ⟨hk_.1.2.2.1, ⟨hk_.1.2.2.2.1, ⟨hk_.1.2.2.2.2.1, ⟨hk_.1.2.2.2.2.2, hk_.2⟩⟩⟩⟩⟩)); (case side3 => exact fun k_ hk_ => hk_.2.2.2.2.2); (case side4 => exact Kd.N_mono (ok' := fun k_ => ((w.heap.size ≤ k_) ∧ (some k_ ≠ (.slice aD ae.length av : Value).ownBlock ∧ (k_ ≠ an ∧ (k_ ≠ ao ∧ (k_ ≠ am ∧ k_ ≠ ah)))))) (aK.out) (fun k_ hk_ => ⟨hk_.1, ⟨hk_.2.1, ⟨hk_.2.2.1, ⟨hk_.2.2.2.1, ⟨hk_.2.2.2.2.1, hk_.2.2.2.2.2⟩⟩⟩⟩⟩)); (case side5 => exact fun k_ hk_ => hk_.2.1); rintro e e9 ⟨eY, rfl, ho0, hb, hkp⟩; refine ⟨_, rfl, ?_⟩; have aI := mk0 (Kd.N_mono (ok' := fun k_ => (w.heap.size ≤ k_) ∧ k_ ≠ an ∧ k_ ≠ ao ∧ k_ ≠ am ∧ k_ ≠ ah) ho0 (fun k_ hk_ => ⟨Or.elim hk_ (fun hs_ => Or.elim hs_ (fun hs_ => hs_.1) (fun hs_ => hs_.1)) (fun hn_ => (Nat.le_trans (bz_ (b_ HB)) hn_)), Or.elim hk_ (fun hs_ => Or.elim hs_ (fun hs_ => hs_.2.1) (fun hs_ => hs_.2.2.1)) (fun hn_ => (fb_ aa k_ hn_)), Or.elim hk_ (fun hs_ => Or.elim hs_ (fun hs_ => hs_.2.2.1) (fun hs_ => hs_.2.2.2.1)) (fun hn_ => (fb_ ac k_ hn_)), Or.elim hk_ (fun hs_ => Or.elim hs_ (fun hs_ => hs_.2.2.2.1) (fun hs_ => hs_.2.2.2.2.1)) (fun hn_ => (fb_ ad k_ hn_)), Or.elim hk_ (fun hs_ => Or.elim hs_ (fun hs_ => hs_.2.2.2.2.1) (fun hs_ => hs_.2.2.2.2.2)) (fun hn_ => (fb_ af k_ hn_))⟩)); replace aa := mk0 (blk_kept (h_ aa) hkp (fun hs_ => Or.elim hs_ (fun e_ => (fun e_ => (Kd.N_ne ab.out aa.out (by decide)) e_) e_) (fun e_ => (fun e_ => (Kd.N_ne aK.out aa.out (by decide)) e_) e_))); replace ac := mk0 (blk_kept (h_ ac) hkp (fun hs_ => Or.elim hs_ (fun e_ => (fun e_ => (Kd.N_ne ab.out ac.out (by decide)) e_) e_) (fun e_ => (fun e_ => (Kd.N_ne aK.out ac.out (by decide)) e_) e_))); replace ad := mk0 (blk_kept (h_ ad) hkp (fun hs_ => Or.elim hs_ (fun e_ => (fun e_ => (Kd.N_ne ab.out ad.out (by decide)) e_) e_) (fun e_ => (fun e_ => (Kd.N_ne aK.out ad.out (by decide)) e_) e_))); replace af := mk0 (blk_kept (h_ af) hkp (fun hs_ => Or.elim hs_ (fun e_ => (fun e_ => (Kd.N_away ab.out (fun _ hk => hk.1.2.2.2.2.2)) e_) e_) (fun e_ => (fun e_ => (Kd.N_away aK.out (fun _ hk => hk.2.2.2.2.2)) e_) e_))); replace HB := mk0 (hb); clear aK ab; have bU := aI; clear aI; (try clear hb); (try clear hkp); (try clear ho0); obtain ⟨bV, bW, dx⟩ := Kd.N_slice bU.out; subst dx; obtain ⟨dy, dz⟩ := c1_ aa; have eF := aA.out; have eG := az.out; obtain ⟨dA, dB⟩ := c1_ ad))
        refine bodyPost_ret (results_ct rfl _ _ am 47 #[.slice bV aZ.length bW] (0, 0) _ rfl (pu_ (cs := #[.slice none 0 0]) (fa_ (h_ ad) au.out)) Try.underlying47 rfl (by kernel_rfl)) rfl ?_
        exact ⟨_, sa_, by (with_reducible repeat (first | apply Kd.N_alloc | apply Kd.N_drewN | apply Kd.N_drew)); exact Kd.N_mono (Kd.N_far (p := ⟨am, 0, none⟩) (Kd.N_far (p := ⟨an, 0, none⟩) (Kd.N_mono (Kd.N_mono bU.out (fun k_ hk => (⟨hk, hk.2.1⟩ : _ ∧ k_ ≠ an))) (fun k_ hk => (⟨hk, hk.1.2.2.2.1⟩ : _ ∧ k_ ≠ am))) (fun _ hk => hk.1.2) (.slice bV aZ.length bW)) (fun _ hk => hk.2) (.slice bV aZ.length bW)) (fun _ hk => hk.1.1.1), b_ HB⟩
     ·rw [if_neg bk] at H
      have co := beq_eq_false_iff_ne.mpr bk
      have cp := bne_iff_ne.mpr bk
      simp only [Option.some.injEq, Prod.mk.injEq] at H
      obtain ⟨rfl, rfl⟩ := H
      have eH := au.out
      have eI := ay.out
      have eJ := aA.out
      have eK := az.out
      have eL := ar.out
      have eM := aC.out
      obtain ⟨dC, dD⟩ := c1_ ad
      go_wp2
      refine bodyPost_ret (results_ct rfl _ _ am 47 #[.slice none 0 0] (0, 0) _ rfl (pu_ (cs := #[.slice none 0 0]) (h_ ad)) Try.underlying47 rfl (by kernel_rfl)) rfl ?_
      exact ⟨_, sa_, nl_, b_ HB⟩
 ·replace c5 := Bool.eq_false_iff.mpr c5
  subst c5
  rw [if_neg nf_] at H
  simp only [Option.some.injEq, Prod.mk.injEq] at H
  obtain ⟨rfl, rfl⟩ := H
  go_enter Try.func84, Try.ntmps84
  go_wp2_with (first | ((with_reducible refine gate_dst (N := 3) rfl ?_); refine bx_ (N := 3) (cs := #[.slice A0_0 l0_0.length c0_0]) (t := 47) (h := ?_); intro an hg fa hbox hb; have n2_ := mk0 (gz_ HB hg); have aM := mk0 (gz_ HB hg); replace HB := mk0 (bt_ (b_ HB) hb); have aa := mk0 (hbox); have cj := n2_; have bz := aM; clear n2_ aM; clear hb hbox hg) | ((with_reducible refine gate_dst (N := 5) rfl ?_); refine bx_ (N := 5) (cs := #[.int .i64 a2_0, .string a2_1, .bool a2_2]) (t := 72) (h := ?_); intro ao hg fb hbox hb; have aM := mk0 (gz_ HB hg); have aI := mk0 (gz_ HB hg); have aU := mk0 (ne1_ aa hg); have aP := mk0 (ne2_ aa hg); replace aa := mk0 (u_ aa hb); replace HB := mk0 (bt_ (b_ HB) hb); have ac := mk0 (hbox); have ck := aM; have bA := aI; have ax := aU; have aw := aP; clear aM aI aU aP; clear hb hbox hg) | ((with_reducible refine gate_dst (N := 6) rfl ?_); refine bx_ (N := 6) (cs := #[.slice none 0 0]) (t := 47) (h := ?_); intro am hg fc hbox hb; have aI := mk0 (gz_ HB hg); have aU := mk0 (gz_ HB hg); have aP := mk0 (ne1_ aa hg); have a7 := mk0 (ne2_ aa hg); have a8 := mk0 (ne1_ ac hg); have a9 := mk0 (ne2_ ac hg); replace aa := mk0 (u_ aa hb); replace ac := mk0 (u_ ac hb); replace HB := mk0 (bt_ (b_ HB) hb); have ad := mk0 (hbox); have cl := aI; have bB := aU; have ay := aP; have au := a7; have az := a8; have aA := a9; clear aI aU aP a7 a8 a9 hb hbox hg; have eN := ax.out; have eO := aw.out; have eP := ay.out; have eQ := au.out; obtain ⟨dE, dF⟩ := c1_ aa) | ((with_reducible refine gate_callee (f := 95) rfl ?_); refine gL_ (some 13) Try.func95 #[.agg #[.slice A0_0 l0_0.length c0_0]] (h := ?_); (with_reducible refine (table_May.calls k _ _ l0_0 false _ ?side1 ?side2 A4.out).mono ?_); (case side1 => exact cb_ bi HB); (case side2 => exact bj.out); rintro e fd ⟨rfl, hb⟩; refine ⟨_, rfl, ?_⟩; replace aa := mk0 (u_ aa hb); replace ac := mk0 (u_ ac hb); replace ad := mk0 (u_ ad hb); replace HB := mk0 (bt_ (b_ HB) hb); (try clear hb); have dK := aA.out; have dL := az.out; obtain ⟨cx, cy⟩ := c1_ ad))
  refine bodyPost_ret (results_ct rfl _ _ am 47 #[.slice none 0 0] (0, 0) _ rfl (pu_ (cs := #[.slice none 0 0]) (h_ ad)) Try.underlying47 rfl (by kernel_rfl)) rfl ?_
  exact ⟨_, sa_, nl_, b_ HB⟩
/-! ### quorumref8_Add: function 130 -/
def quorumref8_Add.f (k : Nat) (a0_0 : ByteArray) (l0_1 : List (S72)) (a1_0 : Int) (a1_1 : ByteArray) (a1_2 : Bool) : Option (ByteArray × (List (S72))) := (some (([(⟨a1_0, a1_1, a1_2⟩ : S72)] : List (S72)) : List (S72))).bind fun y426 => ((quorumref0_CopyVersions.f k l0_1).bind fun t429 => (if y426.length + t429.length < 4398046511104 then (some (a0_0, (y426 ++ t429))) else (none)))
theorem quorumref8_Add.mono : ∀ a0 a1 a2 a3 a4 k, LeO (quorumref8_Add.f k a0 a1 a2 a3 a4) (quorumref8_Add.f (k + 1) a0 a1 a2 a3 a4) := by
 intro a0 a1 a2 a3 a4 k
 unfold quorumref8_Add.f
 repeat' first | (with_reducible exact quorumref0_CopyVersions.mono ..) | (with_reducible exact LeO.refl _) | (with_reducible exact LeO.none _) | (with_reducible refine LeO.ite ?_ ?_) | (with_reducible refine LeO.bind ?_ (fun _ => ?_)) | exact LeO.none _ | refine LeO.ite ?_ ?_ | refine LeO.bind ?_ (fun _ => ?_)
def quorumref8_Add.T1 : Bool × List (List Nat × List Nat) := (true, [([], []), ([0], [0]), ([], []), ([2], [2]), ([], []), ([4], [4]), ([5], [5]), ([3, 6, 6], [3, 6]), ([1, 7], [1, 7]), ([8, 7, 0, 1, 2, 3, 4, 5, 6, 7, 8], [8])])
def quorumref8_Add.B1 : List Nat := [0, 1, 0, 4, 0, 16, 48, 124, 255, 511]
theorem quorumref8_Add.tab1 : rtab .any (opsOf Try.f130 1) = quorumref8_Add.T1 := by kernel_rfl
theorem quorumref8_Add.bits1 : waitsOk quorumref8_Add.T1.2 quorumref8_Add.B1 = true := by kernel_rfl
theorem quorumref8_Add.calls (k : Nat) (a0_0 : ByteArray) (A0_1 : Option Addr) (c0_1 : Nat) (l0_1 : List (S72)) (a1_0 : Int) (a1_1 : ByteArray) (a1_2 : Bool) (r1 : ByteArray) (r2 : List (S72)) (w : World) (hr0_1 : Kd.C k72 w A0_1 l0_1.length l0_1) (hc0_1 : l0_1.length ≤ c0_1) (h : quorumref8_Add.f k a0_0 l0_1 a1_0 a1_1 a1_2 = some (r1, r2)) :
  Calls Try.prog 130 #[.agg #[.string a0_0, .slice A0_1 l0_1.length c0_1], .agg #[.int .i64 a1_0, .string a1_1, .bool a1_2]] w fun e w' => ∃ v1_ : Value, e = .returned (.agg #[.string r1, v1_]) ∧ Kd.R k72 72 w' w.heap.size (fun _ => True) v1_ r2 ∧ Below w.heap.size w w' := by
 have hu99 := Try.underlying99
 have hu72 := Try.underlying72
 have aC := mk0 hr0_1
 have aD := mk0 hc0_1
 clear hr0_1 hc0_1
 have HB := mk0 (Below.refl w.heap.size w)
 have H : ((some (([(⟨a1_0, a1_1, a1_2⟩ : S72)] : List (S72)) : List (S72))).bind fun al => ((quorumref0_CopyVersions.f k l0_1).bind fun aj => (if al.length + aj.length < 4398046511104 then (some (a0_0, (al ++ aj))) else (none)))) = some (r1, r2) := h
 clear h
 obtain ⟨al, am⟩ : ∃ y_ : List (S72), y_ = (([(⟨a1_0, a1_1, a1_2⟩ : S72)] : List (S72))) := ⟨_, rfl⟩
 replace H : ((quorumref0_CopyVersions.f k l0_1).bind fun aj => (if al.length + aj.length < 4398046511104 then (some (a0_0, (al ++ aj))) else (none))) = some (r1, r2) := by first | (rw [am]; with_reducible exact H) | (have H2_ := (Option.bind_some _ _).symm.trans H; rw [am]; with_reducible exact H2_) | (have H2_ := (Option.bind_some _ _).symm.trans H; with_reducible exact H2_) | with_reducible exact H | (rw [am]; exact H) | exact H
 have av := mk0 am
 clear am
 replace H := ob_ H
 obtain ⟨aj, A3, H⟩ := H
 try dsimp only at H
 by_cases c4 : al.length + aj.length < 4398046511104
 ·rw [if_pos c4] at H
  have LMc4 := mk0 c4
  clear c4
  obtain ⟨aE, an⟩ : ∃ y_ : List (S72), y_ = (al ++ aj) := ⟨_, rfl⟩
  replace H : (some (a0_0, aE)) = some (r1, r2) := by first | (rw [an]; with_reducible exact H) | (have H2_ := (Option.bind_some _ _).symm.trans H; rw [an]; with_reducible exact H2_) | (have H2_ := (Option.bind_some _ _).symm.trans H; with_reducible exact H2_) | with_reducible exact H | (rw [an]; exact H) | exact H
  have aN := mk0 an
  clear an
  simp only [Option.some.injEq, Prod.mk.injEq] at H
  obtain ⟨rfl, rfl⟩ := H
  go_enter Try.func130, Try.ntmps130
  try go_wp2_with (first | ((with_reducible refine gate_dst (N := 2) rfl ?_); refine bx_ (N := 2) (cs := #[.string a0_0, .slice A0_1 l0_1.length c0_1]) (t := 99) (h := ?_); intro ak hg w5 hbox hb; have n2_ := mk0 (gz_ HB hg); have az := mk0 (gz_ HB hg); replace HB := mk0 (bt_ (b_ HB) hb); have ab := mk0 (hbox); have bc := az; clear n2_ az; clear hb hbox hg) | ((with_reducible refine gate_dst (N := 3) rfl ?_); refine bx_ (N := 3) (cs := #[.int .i64 a1_0, .string a1_1, .bool a1_2]) (t := 72) (h := ?_); intro ad hg w6 hbox hb; have az := mk0 (gz_ HB hg); have aA := mk0 (gz_ HB hg); have aw := mk0 (ne1_ ab hg); have aG := mk0 (ne2_ ab hg); replace ab := mk0 (u_ ab hb); replace HB := mk0 (bt_ (b_ HB) hb); have aa := mk0 (hbox); have bd := aA; have aP := aw; have aQ := aG; clear az aA aw aG; clear hb hbox hg) | ((with_reducible refine gate_dst (N := 4) rfl ?_); refine bx_ (N := 4) (cs := #[.string (⟨#[]⟩ : ByteArray), .slice none 0 0]) (t := 99) (h := ?_); intro ag hg w7 hbox hb; have aA := mk0 (gz_ HB hg); have aw := mk0 (gz_ HB hg); have aG := mk0 (ne1_ ab hg); have aT := mk0 (ne2_ ab hg); have aU := mk0 (ne1_ aa hg); have aV := mk0 (ne2_ aa hg); replace ab := mk0 (u_ ab hb); replace aa := mk0 (u_ aa hb); replace HB := mk0 (bt_ (b_ HB) hb); have ac := mk0 (hbox); have be := aw; have af := aG; have ao := aT; have ae := aU; have ap := aV; clear aA aw aG aT aU aV; clear hb hbox hg))
  replace ab := mk0 (bD_ ab.out)
  replace aa := mk0 (bD_ aa.out)
  replace ac := mk0 (bD_ ac.out)
  replace HB := mk0 (b1_ HB.out)
  refine start_ (n := 10) (S := fun w' => w'.cell? ⟨ak, 0, none⟩ = some (.string a0_0) ∧ w'.cell? ⟨ak, 1, none⟩ = some (.slice A0_1 l0_1.length c0_1) ∧ w'.cell? ⟨ad, 0, none⟩ = some (.int .i64 a1_0) ∧ w'.cell? ⟨ad, 1, none⟩ = some (.string a1_1) ∧ w'.cell? ⟨ad, 2, none⟩ = some (.bool a1_2)) (ds := []) (bt 10 0) (by kernel_rfl) rfl rfl ⟨bk_ ab 0, bk_ ab 1, bk_ aa 0, bk_ aa 1, bk_ aa 2⟩ (fun hHeld => ?_); refine with_tabW quorumref8_Add.tab1 quorumref8_Add.bits1 (fun HT_ HW_ => ?_)
  generalize w7.drew = w8 at ab aa ac HB hHeld ⊢
  refine pq_ HT_.out 0 5 (bt 10 1) (h := ?_)
  refine pq_ HT_.out 4 9 (bt 10 17) (h := ?_)
  refine tq5_ HT_.out HW_.out 1 6 (bt 10 19) hHeld (h := ?_)
  refine tq5_ HT_.out HW_.out 2 7 (bt 10 23) hHeld (h := ?_)
  refine tq5_ HT_.out HW_.out 5 10 (bt 10 55) hHeld (h := ?_)
  refine join_ (σ := Value × Value) 3 (bt 10 127) (fun s_ => [(8, s_.1), (11, s_.2)]) (fun s_ w' => (w'.cell? ⟨ak, 0, none⟩ = some (.string a0_0) ∧ w'.cell? ⟨ak, 1, none⟩ = some (.slice A0_1 l0_1.length c0_1) ∧ w'.cell? ⟨ad, 0, none⟩ = some (.int .i64 a1_0) ∧ w'.cell? ⟨ad, 1, none⟩ = some (.string a1_1) ∧ w'.cell? ⟨ad, 2, none⟩ = some (.bool a1_2)) ∧ (Kd.R k72 72 w' w.heap.size (fun k_ => some k_ ≠ (s_.2 : Value).ownBlock ∧ k_ ≠ ad) s_.1 al) ∧ (Kd.R k72 72 w' w.heap.size (fun k_ => some k_ ≠ (s_.1 : Value).ownBlock ∧ k_ ≠ ad) s_.2 aj) ∧ (w'.heap[ak]? = some (.cells #[.string a0_0, .slice A0_1 l0_1.length c0_1] 99 (0, 0))) ∧ (w'.heap[ad]? = some (.cells #[.int .i64 a1_0, .string a1_1, .bool a1_2] 72 (0, 0))) ∧ (w'.heap[ag]? = some (.cells #[.string (⟨#[]⟩ : ByteArray), .slice none 0 0] 99 (0, 0))) ∧ (Below w.heap.size w w')) ?_ ?_
  rotate_left
  ·intro hCont
   refine two_ (i := 3) (j := 6) (Ni := some 8) (Nj := some 11) (bt 10 63) (bt 10 119) rfl rfl rfl rfl (two_of HT_.out (by kernel_rfl)) (by decide) (by decide) (fun K hK => ?_) (fun K hK => ?_)
   ·skip
    refine Kd.R_lit_step k72 _ 72 ?hg (N := 8) ?hd (xs := ([(⟨a1_0, a1_1, a1_2⟩ : S72)] : List (S72))) (inner := [.int .i64 a1_0, .string a1_1, .bool a1_2]) (ok := fun _ => True) (okp := fun _ => True) ?hr ?hp (fun _ hk => hk) trivial (Below.refl _ _) (Nat.le_refl _) (by simp) ?_; (case hd => rfl); (case hg => rfl); (case hr => first | (go_simp; done) | (go_simp; rfl)); (case hp => exact (Reps.c3 (show Kd.M k72 _ _ _ (⟨a1_0, a1_1, a1_2⟩ : S72) [.int .i64 a1_0, .string a1_1, .bool a1_2] from (k72_mkM _ _ _ (⟨a1_0, a1_1, a1_2⟩ : S72) )) (Reps.none _ _)))
    intro aq w9 ho10 hb hg_ hnew_
    clear hg_ hnew_
    (first | rw [← av.out] at ho10 | (simp only [Int.reduceToNat] at ho10; rw [← av.out] at ho10))
    have ax := mk0 (Kd.R_lower (Kd.R_newB ho10 (g := ad) (o := .cells #[.int .i64 a1_0, .string a1_1, .bool a1_2] 72 (0, 0)) (h_ aa)) (bz_ (b_ HB)))
    replace ab := mk0 (u_ ab hb)
    replace aa := mk0 (u_ aa hb)
    replace ac := mk0 (blk_below (g := ag) (o := .cells #[.string (⟨#[]⟩ : ByteArray), .slice none 0 0] 99 (0, 0)) (h_ ac) hb)
    replace HB := mk0 (bt_ (b_ HB) hb)
    have ah := ax
    clear ax hb ho10
    refine hK.out _ _ ⟨bk_ ab 0, bk_ ab 1, bk_ aa 0, bk_ aa 1, bk_ aa 2⟩ (fun hHeld => ?_)
    clear hK K
    refine norm_ (a' := ?_) ?_ ?_
    rotate_left
    ·show Act.put _ (some 8) _ = _
     simp only [z_]
     rfl
    refine one_ (i := 6) (N := some 11) (bt 10 127) rfl rfl (one_of HT_.out (by kernel_rfl)) (by decide) (fun K hK => ?_)
    refine goes_ Try.func164 (by kernel_rfl) rfl #[.slice A0_1 l0_1.length c0_1] (by rfl) rfl rfl gs_ ?_
    with_reducible refine (quorumref0_CopyVersions.calls k _ _ l0_1 aj _ ?side1 ?side2 A3.out).mono ?_
    (case side1 => exact cb_ aC HB)
    (case side2 => exact aD.out)
    rintro e bg ⟨au, rfl, ho0, hb⟩
    refine ⟨_, rfl, ?_⟩
    have ay := mk0 (Kd.R_lower (Kd.R_newB (Kd.R_new' ho0 (Kd.R_lt (r_ ah))) (g := ad) (o := .cells #[.int .i64 a1_0, .string a1_1, .bool a1_2] 72 (0, 0)) (h_ aa)) (bz_ (b_ HB)))
    replace ah := mk0 (Kd.R_elder' (r_ ah) (Kd.R_base ho0) hb)
    replace ab := mk0 (u_ ab hb)
    replace aa := mk0 (u_ aa hb)
    replace ac := mk0 (blk_below (g := ag) (o := .cells #[.string (⟨#[]⟩ : ByteArray), .slice none 0 0] 99 (0, 0)) (h_ ac) hb)
    replace HB := mk0 (bt_ (b_ HB) hb)
    have ai := ay
    clear ay
    (try clear hb)
    (try clear hk)
    (try clear hi)
    (try clear ho0)
    refine hK.out _ _ ⟨bk_ ab 0, bk_ ab 1, bk_ aa 0, bk_ aa 1, bk_ aa 2⟩ (fun hHeld => ?_)
    clear hK K
    refine norm_ (a' := ?_) ?_ ?_
    rotate_left
    ·show Act.put _ (some 11) _ = _
     simp only [z_]
     rfl
    exact norm_ (by simp only [putAll, Act.put, List.setIfInBounds_toArray, List.set_cons_zero, List.set_cons_succ]) (hCont (aq, au) _ ⟨hHeld, (r2_ (Kd.R_mono ah.out (fun _ hk => ⟨hk.2, hk.1.2⟩))), (r2_ (Kd.R_mono ai.out (fun _ hk => ⟨hk.1.2, hk.2⟩))), (h_ ab), (h_ aa), (h_ ac), (b_ HB)⟩)
   ·skip
    refine goes_ Try.func164 (by kernel_rfl) rfl #[.slice A0_1 l0_1.length c0_1] (by rfl) rfl rfl gs_ ?_
    with_reducible refine (quorumref0_CopyVersions.calls k _ _ l0_1 aj _ ?side1 ?side2 A3.out).mono ?_
    (case side1 => exact cb_ aC HB)
    (case side2 => exact aD.out)
    rintro e w9 ⟨au, rfl, ho0, hb⟩
    refine ⟨_, rfl, ?_⟩
    have ax := mk0 (Kd.R_lower (Kd.R_newB ho0 (g := ad) (o := .cells #[.int .i64 a1_0, .string a1_1, .bool a1_2] 72 (0, 0)) (h_ aa)) (bz_ (b_ HB)))
    replace ab := mk0 (u_ ab hb)
    replace aa := mk0 (u_ aa hb)
    replace ac := mk0 (blk_below (g := ag) (o := .cells #[.string (⟨#[]⟩ : ByteArray), .slice none 0 0] 99 (0, 0)) (h_ ac) hb)
    replace HB := mk0 (bt_ (b_ HB) hb)
    have ai := ax
    clear ax
    (try clear hb)
    (try clear hk)
    (try clear hi)
    (try clear ho0)
    refine hK.out _ _ ⟨bk_ ab 0, bk_ ab 1, bk_ aa 0, bk_ aa 1, bk_ aa 2⟩ (fun hHeld => ?_)
    clear hK K
    refine norm_ (a' := ?_) ?_ ?_
    rotate_left
    ·show Act.put _ (some 11) _ = _
     simp only [z_]
     rfl
    refine one_ (i := 3) (N := some 8) (bt 10 127) rfl rfl (one_of HT_.out (by kernel_rfl)) (by decide) (fun K hK => ?_)
    refine Kd.R_lit_step k72 _ 72 ?hg (N := 8) ?hd (xs := ([(⟨a1_0, a1_1, a1_2⟩ : S72)] : List (S72))) (inner := [.int .i64 a1_0, .string a1_1, .bool a1_2]) (ok := fun _ => True) (okp := fun _ => True) ?hr ?hp (fun _ hk => hk) trivial (Below.refl _ _) (Nat.le_refl _) (by simp) ?_; (case hd => rfl); (case hg => rfl); (case hr => first | (go_simp; done) | (go_simp; rfl)); (case hp => exact (Reps.c3 (show Kd.M k72 _ _ _ (⟨a1_0, a1_1, a1_2⟩ : S72) [.int .i64 a1_0, .string a1_1, .bool a1_2] from (k72_mkM _ _ _ (⟨a1_0, a1_1, a1_2⟩ : S72) )) (Reps.none _ _)))
    intro aq bh ho11 hb hg_ hnew_
    clear hg_ hnew_
    (first | rw [← av.out] at ho11 | (simp only [Int.reduceToNat] at ho11; rw [← av.out] at ho11))
    have ay := mk0 (Kd.R_lower (Kd.R_newB (Kd.R_new' ho11 (Kd.R_lt (r_ ai))) (g := ad) (o := .cells #[.int .i64 a1_0, .string a1_1, .bool a1_2] 72 (0, 0)) (h_ aa)) (bz_ (b_ HB)))
    replace ai := mk0 (Kd.R_elder' (r_ ai) (Kd.R_base ho11) hb)
    replace ab := mk0 (u_ ab hb)
    replace aa := mk0 (u_ aa hb)
    replace ac := mk0 (blk_below (g := ag) (o := .cells #[.string (⟨#[]⟩ : ByteArray), .slice none 0 0] 99 (0, 0)) (h_ ac) hb)
    replace HB := mk0 (bt_ (b_ HB) hb)
    have ah := ay
    clear ay hb ho11
    refine hK.out _ _ ⟨bk_ ab 0, bk_ ab 1, bk_ aa 0, bk_ aa 1, bk_ aa 2⟩ (fun hHeld => ?_)
    clear hK K
    refine norm_ (a' := ?_) ?_ ?_
    rotate_left
    ·show Act.put _ (some 8) _ = _
     simp only [z_]
     rfl
    exact norm_ (by simp only [putAll, Act.put, List.setIfInBounds_toArray, List.set_cons_zero, List.set_cons_succ]) (hCont (aq, au) _ ⟨hHeld, (r2_ (Kd.R_mono ah.out (fun _ hk => ⟨hk.1.2, hk.2⟩))), (r2_ (Kd.R_mono ai.out (fun _ hk => ⟨hk.2, hk.1.2⟩))), (h_ ab), (h_ aa), (h_ ac), (b_ HB)⟩)
  rintro ⟨aq, au⟩ ar ⟨hS_, h0_, h1_, h2_, h3_, h4_, h5_⟩
  have ax : Fc (Kd.R k72 72 ar w.heap.size (fun k_ => some k_ ≠ (au : Value).ownBlock ∧ k_ ≠ ad) aq al) := ⟨h0_⟩
  have ay : Fc (Kd.R k72 72 ar w.heap.size (fun k_ => some k_ ≠ (aq : Value).ownBlock ∧ k_ ≠ ad) au aj) := ⟨h1_⟩
  have n2_ : Fc (ar.heap[ak]? = some (.cells #[.string a0_0, .slice A0_1 l0_1.length c0_1] 99 (0, 0))) := ⟨h2_⟩
  have az : Fc (ar.heap[ad]? = some (.cells #[.int .i64 a1_0, .string a1_1, .bool a1_2] 72 (0, 0))) := ⟨h3_⟩
  have aA : Fc (ar.heap[ag]? = some (.cells #[.string (⟨#[]⟩ : ByteArray), .slice none 0 0] 99 (0, 0))) := ⟨h4_⟩
  have aw : Fc (Below w.heap.size w ar) := ⟨h5_⟩
  clear ab aa ac HB h0_ h1_ h2_ h3_ h4_ h5_
  have ah := ax
  have ai := ay
  have ab := n2_
  have aa := az
  have ac := aA
  have HB := aw
  clear ax ay n2_ az aA aw
  have hHeld : ar.cell? ⟨ak, 0, none⟩ = some (.string a0_0) ∧ ar.cell? ⟨ak, 1, none⟩ = some (.slice A0_1 l0_1.length c0_1) ∧ ar.cell? ⟨ad, 0, none⟩ = some (.int .i64 a1_0) ∧ ar.cell? ⟨ad, 1, none⟩ = some (.string a1_1) ∧ ar.cell? ⟨ad, 2, none⟩ = some (.bool a1_2) := hS_
  obtain ⟨aW, aX, aI⟩ := Kd.R_slice ai.out
  (first | subst aI | (injection aI with f1_ f2_ f3_; have f4_ := f1_.symm; have f5_ := f3_.symm; clear f1_ f2_ f3_; subst f4_; subst f5_))
  refine norm_ (a' := ?_) ?_ ?_
  rotate_left
  ·simp only [putAll, Act.put, List.setIfInBounds_toArray, List.set_cons_zero, List.set_cons_succ]
   rfl
  refine one_ (i := 7) (N := some 12) (bt 10 255) rfl rfl (one_of HT_.out (by kernel_rfl)) (by decide) (fun K hK => ?_)
  refine Kd.R_append_rows_step k72 (w0 := w) w.heap.size (by rfl) (.tmp 8) (.tmp 11) 97 72 (.agg #[(.int .i64 0), (.string ⟨#[]⟩), (.bool false)]) 32 rfl Try.underlying97 info72 rfl (by decide) (by omega) aq al aj _ _ _ (fun k_ => some k_ ≠ (.slice aW aj.length aX : Value).ownBlock ∧ k_ ≠ ad) (fun _ => False) rfl rfl ?aO ?aR (fun _ _ h => h) (fun _ h => h.elim) ?aF ?aB ?aS ?aL ?_
  (case aR => exact cr_ ai)
  (case aB => exact (b_ HB))
  (case aF => exact (fun k_ hk => ⟨Kd.fresh' (Kd.R_lt (r_ ai)) k_ hk, Kd.freshB (g := ad) (o := .cells #[.int .i64 a1_0, .string a1_1, .bool a1_2] 72 (0, 0)) (h_ aa) k_ hk⟩))
  (case aO => exact (r_ ah))
  (case aS => exact (bz_ (b_ HB)))
  (case aL => have := LMc4.out; omega)
  intro bf aY ho hb hg hat
  rw [← aN.out] at ho
  replace ab := mk0 (blk_grown (g := ak) (o := .cells #[.string a0_0, .slice A0_1 l0_1.length c0_1] 99 (0, 0)) (h_ ab) hg (Kd.R_ne ah.out ab.out (by decide)))
  replace aa := mk0 (blk_grown (g := ad) (o := .cells #[.int .i64 a1_0, .string a1_1, .bool a1_2] 72 (0, 0)) (h_ aa) hg (Kd.R_away ah.out (fun _ hk => hk.2)))
  replace ac := mk0 (blk_grown (g := ag) (o := .cells #[.string (⟨#[]⟩ : ByteArray), .slice none 0 0] 99 (0, 0)) (h_ ac) hg (Kd.R_ne ah.out ac.out (by decide)))
  replace ai := mk0 (Kd.R_after (ok := (fun k_ => k_ ≠ ad)) (r2_ (Kd.R_mono ai.out (fun _ hk => ⟨hk.2, hk.1⟩))) hg hat)
  replace HB := mk0 (hb)
  have aH := mk0 (ho)
  clear ah
  clear ho hb hg hat
  obtain ⟨aJ, aK, aM⟩ := Kd.R_slice aH.out
  (first | subst aM | (injection aM with f1_ f2_ f3_; have f4_ := f1_.symm; have f5_ := f3_.symm; clear f1_ f2_ f3_; subst f4_; subst f5_))
  refine hK.out _ _ ⟨bk_ ab 0, bk_ ab 1, bk_ aa 0, bk_ aa 1, bk_ aa 2⟩ (fun hHeld => ?_)
  clear hK K
  refine norm_ (a' := ?_) ?_ ?_
  rotate_left
  ·show Act.put _ (some 12) _ = _
   simp only [z_]
   rfl
  refine pq_ HT_.out 8 13 (bt 10 511) (h := ?_)
  refine one_ (i := 9) (N := none) (bt 10 1023) rfl rfl (one_of HT_.out (by kernel_rfl)) (by decide) (fun K hK => ?_)
  have hs16 : aY.cell? ⟨ag, 0, none⟩ = some (.string (⟨#[]⟩ : ByteArray)) := bk_ ac 0
  have hfs16 := blk_frozen ac.out 0
  have aZ := af.out
  have a5 := ae.out
  have a6 := ao.out
  have a7 := ap.out
  have hs17 : aY.cell? ⟨ag, 1, none⟩ = some (.slice none 0 0) := bk_ ac 1
  have hfs17 := blk_frozen ac.out 1
  have a8 := af.out
  have a9 := ae.out
  have ba := ao.out
  have bb := ap.out
  refine skip_ (w1 := ?_) (by rfl) rfl ?_ ?_
  rotate_left
  ·go_simp
   rfl
  refine hK.out _ _ ⟨(cf_ af.out (cf_ af.out hHeld.1)), (cf_ af.out (cf_ af.out hHeld.2.1)), (cf_ ae.out (cf_ ae.out hHeld.2.2.1)), (cf_ ae.out (cf_ ae.out hHeld.2.2.2.1)), (cf_ ae.out (cf_ ae.out hHeld.2.2.2.2))⟩ (fun hHeld => ?_)
  clear hK K
  refine done_ (done_of HT_.out (by kernel_rfl)) ?_
  try go_wp2
  refine bodyPost_ret (results_cell_row rfl _ _ ag 99 #[.string a0_0, .slice aJ aE.length aK] (0, 0) _ rfl (pu_ (cs := #[.string a0_0, .slice none 0 0]) (pu_ (cs := #[.string (⟨#[]⟩ : ByteArray), .slice none 0 0]) (h_ ac))) Try.underlying99 rfl (by kernel_rfl)) rfl ?_
  exact ⟨_, sa_, by (with_reducible repeat (first | apply Ra_ | apply Rn_ | apply Rd_)); exact Kd.R_mono (Kd.R_far (p := ⟨ag, 1, none⟩) (Kd.R_far (p := ⟨ag, 0, none⟩) (Kd.R_types aH.out ac.out (by decide)) (fun _ hk => hk.2) (.string a0_0)) (fun _ hk => hk.2) (.slice aJ aE.length aK)) (fun _ hk => trivial), b_ HB⟩
 ·rw [if_neg c4] at H
  exact absurd H (by simp)
end Go.Proofs.Ytbaecdcfefmcgaa.PTbe
