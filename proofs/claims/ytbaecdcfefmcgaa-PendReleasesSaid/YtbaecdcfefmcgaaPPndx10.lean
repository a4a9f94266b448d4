-- PRINTED by print.py (a twelfth state) out of the translation. Not trusted: Lean checks it.
import Derived.Test.YtbaecdcfefmcgaaPPndx0
import Derived.Test.YtbaecdcfefmcgaaPPndx1
import Derived.Test.YtbaecdcfefmcgaaPPndx2
import Derived.Test.YtbaecdcfefmcgaaPPndx3
import Derived.Test.YtbaecdcfefmcgaaPPndx5
import Derived.Test.YtbaecdcfefmcgaaPPndx6
import Derived.Test.YtbaecdcfefmcgaaPPndx7
import Derived.Test.YtbaecdcfefmcgaaPPndx8
import Derived.Test.YtbaecdcfefmcgaaPPndx9
namespace Go.Proofs.Ytbaecdcfefmcgaa.PPnd
open Go.RowKit Go.Proofs.YtbaecdcfefmcgaaW.PrintWords Go.Proofs.YtbaecdcfefmcgaaW.PrintLast Go.Proofs.YtbaecdcfefmcgaaW.PrintMore
attribute [local go_sem] max2_int min2_int max_two min_two max_three min_three max_four min_four   -- for this text's walks alone
set_option linter.unusedVariables false
set_option linter.unusedSimpArgs false

attribute [local go_sem high] eqA36
theorem sets4_ (W : World) (g : Nat) (a b c d : Value) : W.setCells g 0 [a, b, c, d] = (((W.setCell ⟨g, 0, none⟩ a).setCell ⟨g, 1, none⟩ b).setCell ⟨g, 2, none⟩ c).setCell ⟨g, 3, none⟩ d := rfl
theorem st_run_ {P : Program} {a : Act} {o : Oper} {w w1 : World} (t : TypeId) (x y : Operand) (u p : Value) (ho : o.op = .store t x y) (hx : a.eval x = p) (hy : a.eval y = u) (hrun : (Instr.storeAt t p u).run P w = .ok () w1) : (execOp a.eval o).run P w = .ok .skip w1 := by
  unfold execOp
  simp only [ho, hx, hy, Sem.run_bind, hrun, Result.andThen_ok, Sem.run_pure]
/-! ### quorumlaw10_step: function 25 -/
set_option maxHeartbeats 40000000 in
set_option maxRecDepth 100000 in
theorem quorumlaw10_step.calls (k : Nat) (P0_0_ : Nat → Prop) (A0_0 : Option Addr) (c0_0 : Nat) (aD : List (S36)) (P0_1_ : Nat → Prop) (A0_1 : Option Addr) (c0_1 : Nat) (aM : List Int) (a1_0 : Int) (a1_1 : Int) (a1_2 : Int) (a1_3 : ByteArray) (a1_4 : ByteArray) (a1_5 : Bool) (r1 : List (S36)) (r2 : List Int) (r3 : Bool) (w : World) (ot : Kd.V k36 36 w w.heap.size (fun k_ => P0_0_ k_) (.slice A0_0 aD.length c0_0) aD) (ou : Kd.V (Kd.int .i64) 3 w w.heap.size (fun k_ => P0_1_ k_) (.slice A0_1 aM.length c0_1) aM) (h : quorumlaw10_step.f k aD aM a1_0 a1_1 a1_2 a1_3 a1_4 a1_5 = some (r1, r2, r3)) :
  Calls Try.prog 25 #[.agg #[.slice A0_0 aD.length c0_0, .slice A0_1 aM.length c0_1], .agg #[.int .i64 a1_0, .int .i64 a1_1, .int .i64 a1_2, .string a1_3, .string a1_4, .bool a1_5]] w fun e w' => ∃ v0_ v1_ : Value, e = .returned (.tuple #[.agg #[v0_, v1_], .bool r3]) ∧ Kd.V k36 36 w' w.heap.size (fun k_ => ((P0_0_ k_ ∨ P0_1_ k_) ∨ w.heap.size ≤ k_)) v0_ r1 ∧ Kd.V (Kd.int .i64) 3 w' w.heap.size (fun k_ => ((P0_0_ k_ ∨ P0_1_ k_) ∨ w.heap.size ≤ k_)) v1_ r2 ∧ Below w.heap.size w w' := by
 have hu34 := Try.underlying34
 have hu62 := Try.underlying62
 have hu36 := Try.underlying36
 have HO0_0 := mk0 (show Kd.V k36 36 w w.heap.size (fun k_ => ((P0_0_ k_ ∨ P0_1_ k_) ∨ w.heap.size ≤ k_)) (.slice A0_0 aD.length c0_0) aD from Kd.V_mono ot (fun k_ hk => .inl (.inl hk)))
 have HO0_1 := mk0 (show Kd.V (Kd.int .i64) 3 w w.heap.size (fun k_ => ((P0_0_ k_ ∨ P0_1_ k_) ∨ w.heap.size ≤ k_)) (.slice A0_1 aM.length c0_1) aM from Kd.V_mono ou (fun k_ hk => .inl (.inr hk)))
 have HB := mk0 (Below.refl w.heap.size w)
 have H : ((quorumref0_CopyPend.f k aD aM).bind fun bt334 => ((quorumref8_Pend.f k aD aM).bind fun dw => ((quorumlaw0_Within.f a1_0 10).bind fun ch => (if ch = 4 then (quorumlaw10_step.j0 k dw 1 0 0 ch (ch == 4) aD aM a1_0 a1_1 a1_2 a1_3 a1_4 a1_5 bt334.1 bt334.2) else (quorumlaw10_step.j0 k dw 1 0 0 ch (ch == 5) aD aM a1_0 a1_1 a1_2 a1_3 a1_4 a1_5 bt334.1 bt334.2))))) = some (r1, r2, r3) := h
 clear h
 replace H := Option.bind_eq_some_iff.mp H
 obtain ⟨⟨aG, aN⟩, A30, H⟩ := H
 try dsimp only at H
 have A3 := mk0 A30
 clear A30
 replace H := Option.bind_eq_some_iff.mp H
 obtain ⟨dw, A40, H⟩ := H
 try dsimp only at H
 have A4 := mk0 A40
 clear A40
 replace H := Option.bind_eq_some_iff.mp H
 obtain ⟨ch, A50, H⟩ := H
 try dsimp only at H
 have A5 := mk0 A50
 clear A50
 have HC6 := mk0 H
 clear H
 go_enter Try.func25, Try.ntmps25
 go_upto_block 0 with (first | ((with_reducible refine gate_dst (N := 2) rfl ?_); refine bx_ (N := 2) (cs := #[.slice A0_0 aD.length c0_0, .slice A0_1 aM.length c0_1]) (t := 34) (h := ?_); intro bd hg w7 hbox hb; have n4_ := mk0 (gz_ HB hg); have n5_ := mk0 (gz_ HB hg); replace HO0_0 := mk0 (Kd.V_below (Kd.V_elderB (v_ HO0_0) bd (Nat.le_of_eq hg.symm)) hb); replace HO0_1 := mk0 (Kd.V_below (Kd.V_elderB (v_ HO0_1) bd (Nat.le_of_eq hg.symm)) hb); replace HB := mk0 (bt_ (b_ HB) hb); have af := mk0 (hbox); have Ez := n4_; have ov := n5_; clear n4_ n5_; clear hb hbox hg) | ((with_reducible refine gate_dst (N := 3) rfl ?_); refine bx_ (N := 3) (cs := #[.int .i64 a1_0, .int .i64 a1_1, .int .i64 a1_2, .string a1_3, .string a1_4, .bool a1_5]) (t := 62) (h := ?_); intro bq hg w8 hbox hb; have n5_ := mk0 (gz_ HB hg); have n6_ := mk0 (gz_ HB hg); have n7_ := mk0 (ne1_ af hg); have n8_ := mk0 (ne2_ af hg); replace HO0_0 := mk0 (Kd.V_below (Kd.V_elderB (v_ HO0_0) bq (Nat.le_of_eq hg.symm)) hb); replace HO0_1 := mk0 (Kd.V_below (Kd.V_elderB (v_ HO0_1) bq (Nat.le_of_eq hg.symm)) hb); replace af := mk0 (u_ af hb); replace HB := mk0 (bt_ (b_ HB) hb); have ak := mk0 (hbox); have EA := n5_; have ow := n6_; have bl := n7_; have bm := n8_; clear n5_ n6_ n7_ n8_; clear hb hbox hg) | ((with_reducible refine gate_dst (N := 4) rfl ?_); refine bx_ (N := 4) (cs := #[.slice none 0 0, .slice none 0 0]) (t := 34) (h := ?_); intro ap hg w9 hbox hb; have n6_ := mk0 (gz_ HB hg); have n7_ := mk0 (gz_ HB hg); have n8_ := mk0 (ne1_ af hg); have n9_ := mk0 (ne2_ af hg); have n10_ := mk0 (ne1_ ak hg); have n11_ := mk0 (ne2_ ak hg); replace HO0_0 := mk0 (Kd.V_below (Kd.V_elderB (v_ HO0_0) ap (Nat.le_of_eq hg.symm)) hb); replace HO0_1 := mk0 (Kd.V_below (Kd.V_elderB (v_ HO0_1) ap (Nat.le_of_eq hg.symm)) hb); replace af := mk0 (u_ af hb); replace ak := mk0 (u_ ak hb); replace HB := mk0 (bt_ (b_ HB) hb); have ai := mk0 (hbox); have EB := n6_; have ox := n7_; have ax := n8_; have be := n9_; have aR := n10_; have aT := n11_; clear n6_ n7_ n8_ n9_ n10_ n11_ hb hbox hg; have EC := bl.out; have ED := bm.out; have EE := ax.out; have EF := be.out; obtain ⟨ej, ek, el, em⟩ := c2_ af) | ((with_reducible refine gate_callee (f := 24) rfl ?_); refine gL_ (some 24) Try.func24 #[.agg #[.slice A0_0 aD.length c0_0, .slice A0_1 aM.length c0_1]] (h := ?_); (with_reducible refine (quorumref0_CopyPend.calls k _ _ aD _ _ aM aG aN _ ?side1 ?side2 ?side3 ?side4 A3.out).mono ?_); (case side1 => exact cv_ HO0_0); (case side2 => exact (Kd.V_reads' HO0_0.out).2.1); (case side3 => exact cv_ HO0_1); (case side4 => exact (Kd.V_reads' HO0_1.out).2.1); rintro e w13 ⟨v335, v338, rfl, ho0, ho1, hb⟩; refine ⟨_, rfl, ?_⟩; have n2_ := mk0 (Kd.R_lower (Kd.R_newM (M := fun k_ => (w.heap.size ≤ k_)) ho0 (bz_ (b_ HB)) (fun k_ h_ => h_)) (bz_ (b_ HB))); have n3_ := mk0 (Kd.R_lower (Kd.R_newM (M := fun k_ => (w.heap.size ≤ k_)) ho1 (bz_ (b_ HB)) (fun k_ h_ => h_)) (bz_ (b_ HB))); replace HO0_0 := mk0 (Kd.V_mono (Kd.V_told (Kd.V_told (Kd.V_old (v_ HO0_0) hb) (Kd.R_base ho0)) (Kd.R_base ho1)) (fun _ h_ => h_.1)); replace HO0_1 := mk0 (Kd.V_mono (Kd.V_told (Kd.V_told (Kd.V_old (v_ HO0_1) hb) (Kd.R_base ho0)) (Kd.R_base ho1)) (fun _ h_ => h_.1)); replace af := mk0 (u_ af hb); replace ak := mk0 (u_ ak hb); replace ai := mk0 (u_ ai hb); replace HB := mk0 (bt_ (b_ HB) hb); have cZ := n2_; have da := n3_; clear n2_ n3_; (try clear hb); (try clear ho0); (try clear ho1)) | ((with_reducible refine gate_dst (N := 6) rfl ?_); refine bx_ (N := 6) (cs := #[.slice none 0 0, .slice none 0 0]) (t := 34) (h := ?_); intro aV hg w14 hbox hb; have n9_ := mk0 (gz_ HB hg); have n10_ := mk0 (gz_ HB hg); have n11_ := mk0 (ne1_ af hg); have n12_ := mk0 (ne2_ af hg); have n13_ := mk0 (ne1_ ak hg); have n14_ := mk0 (ne2_ ak hg); have n15_ := mk0 (ne1_ ai hg); have n16_ := mk0 (ne2_ ai hg); replace HO0_0 := mk0 (Kd.V_below (Kd.V_elderB (v_ HO0_0) aV (Nat.le_of_eq hg.symm)) hb); replace HO0_1 := mk0 (Kd.V_below (Kd.V_elderB (v_ HO0_1) aV (Nat.le_of_eq hg.symm)) hb); replace cZ := mk0 (Kd.R_below (r_ cZ) hb); replace da := mk0 (Kd.R_below (r_ da) hb); replace af := mk0 (u_ af hb); replace ak := mk0 (u_ ak hb); replace ai := mk0 (u_ ai hb); replace HB := mk0 (bt_ (b_ HB) hb); have aj := mk0 (hbox); have EG := n9_; have oy := n10_; have bn := n11_; have bw := n12_; have bo := n13_; have bx := n14_; have aX := n15_; have aU := n16_; clear n9_ n10_ n11_ n12_ n13_ n14_ n15_ n16_ hb hbox hg; obtain ⟨bc, bb, uz⟩ := Kd.R_slice cZ.out; subst uz; have EH := bw.out; have EI := bn.out; have EJ := bx.out; have EK := bo.out; have EL := aU.out; have EM := aX.out; obtain ⟨en, eo, ep, er⟩ := c2_ aj; obtain ⟨bj, bi, uA⟩ := Kd.R_slice da.out; subst uA; obtain ⟨es, et, eu, ev⟩ := c2_ af) | ((with_reducible refine gate_callee (f := 16) rfl ?_); refine gL_ (some 26) Try.func16 #[.agg #[.slice A0_0 aD.length c0_0, .slice A0_1 aM.length c0_1]] (h := ?_); (with_reducible refine (quorumref8_Pend.calls k _ _ aD _ _ aM dw _ ?side1 ?side2 ?side3 ?side4 A4.out).mono ?_); (case side1 => refine (Kd.V_reads' (e := 36) (base := w.heap.size) (ok := fun k_ => (((((((((P0_0_ k_ ∨ P0_1_ k_) ∨ w.heap.size ≤ k_)) ∧ k_ ≠ bd) ∧ k_ ≠ bq) ∧ k_ ≠ ap) ∧ some k_ ≠ (.slice bc aG.length bb : Value).ownBlock) ∧ some k_ ≠ (.slice bj aN.length bi : Value).ownBlock) ∧ k_ ≠ aV)) (n := aD.length) (c := c0_0) ?_).2.2; exact (v2_ (Kd.V_mono (Kd.V_far (p := ⟨aV, 1, none⟩) (Kd.V_far (p := ⟨aV, 0, none⟩) (Kd.V_mono HO0_0.out (fun k_ hk => (⟨hk, hk.2⟩ : _ ∧ k_ ≠ aV))) (fun _ hk => hk.2) (.slice bc aG.length bb)) (fun _ hk => hk.2) (.slice bj aN.length bi)) (fun _ h_ => h_.1)))); (case side2 => exact (Kd.V_reads' HO0_0.out).2.1); (case side3 => refine (Kd.V_reads' (e := 3) (base := w.heap.size) (ok := fun k_ => (((((((((P0_0_ k_ ∨ P0_1_ k_) ∨ w.heap.size ≤ k_)) ∧ k_ ≠ bd) ∧ k_ ≠ bq) ∧ k_ ≠ ap) ∧ some k_ ≠ (.slice bc aG.length bb : Value).ownBlock) ∧ some k_ ≠ (.slice bj aN.length bi : Value).ownBlock) ∧ k_ ≠ aV)) (n := aM.length) (c := c0_1) ?_).2.2; exact (v2_ (Kd.V_mono (Kd.V_far (p := ⟨aV, 1, none⟩) (Kd.V_far (p := ⟨aV, 0, none⟩) (Kd.V_mono HO0_1.out (fun k_ hk => (⟨hk, hk.2⟩ : _ ∧ k_ ≠ aV))) (fun _ hk => hk.2) (.slice bc aG.length bb)) (fun _ hk => hk.2) (.slice bj aN.length bi)) (fun _ h_ => h_.1)))); (case side4 => exact (Kd.V_reads' HO0_1.out).2.1); rintro e w22 ⟨rfl, hb⟩; refine ⟨_, rfl, ?_⟩; have n2_ := mk0 (Kd.R_below (r2_ (Kd.R_mono (Kd.R_far (p := ⟨aV, 1, none⟩) (Kd.R_far (p := ⟨aV, 0, none⟩) (Kd.R_types cZ.out aj.out (by decide)) (fun _ hk => hk.2) (.slice bc aG.length bb)) (fun _ hk => hk.2) (.slice bj aN.length bi)) (fun _ h_ => h_.1))) hb); have n3_ := mk0 (Kd.R_below (r2_ (Kd.R_mono (Kd.R_far (p := ⟨aV, 1, none⟩) (Kd.R_far (p := ⟨aV, 0, none⟩) (Kd.R_types da.out aj.out (by decide)) (fun _ hk => hk.2) (.slice bc aG.length bb)) (fun _ hk => hk.2) (.slice bj aN.length bi)) (fun _ h_ => h_.1))) hb); replace HO0_0 := mk0 (Kd.V_below (v2_ (Kd.V_mono (Kd.V_far (p := ⟨aV, 1, none⟩) (Kd.V_far (p := ⟨aV, 0, none⟩) (Kd.V_mono HO0_0.out (fun k_ hk => (⟨hk, hk.2⟩ : _ ∧ k_ ≠ aV))) (fun _ hk => hk.2) (.slice bc aG.length bb)) (fun _ hk => hk.2) (.slice bj aN.length bi)) (fun _ h_ => h_.1))) hb); replace HO0_1 := mk0 (Kd.V_below (v2_ (Kd.V_mono (Kd.V_far (p := ⟨aV, 1, none⟩) (Kd.V_far (p := ⟨aV, 0, none⟩) (Kd.V_mono HO0_1.out (fun k_ hk => (⟨hk, hk.2⟩ : _ ∧ k_ ≠ aV))) (fun _ hk => hk.2) (.slice bc aG.length bb)) (fun _ hk => hk.2) (.slice bj aN.length bi)) (fun _ h_ => h_.1))) hb); replace af := mk0 (blk_below (g := bd) (o := .cells #[.slice A0_0 aD.length c0_0, .slice A0_1 aM.length c0_1] 34 (0, 0)) (fa_ (fa_ (h_ af) bn.out) bn.out) hb); replace ak := mk0 (blk_below (g := bq) (o := .cells #[.int .i64 a1_0, .int .i64 a1_1, .int .i64 a1_2, .string a1_3, .string a1_4, .bool a1_5] 62 (0, 0)) (fa_ (fa_ (h_ ak) bo.out) bo.out) hb); replace ai := mk0 (blk_below (g := ap) (o := .cells #[.slice none 0 0, .slice none 0 0] 34 (0, 0)) (fa_ (fa_ (h_ ai) aX.out) aX.out) hb); replace aj := mk0 (blk_below (g := aV) (o := .cells #[.slice bc aG.length bb, .slice bj aN.length bi] 34 (0, 0)) (pu_ (cs := #[.slice bc aG.length bb, .slice none 0 0]) (pu_ (cs := #[.slice none 0 0, .slice none 0 0]) (h_ aj))) hb); replace HB := mk0 (bt_ (b_ HB) hb); clear cZ da; have cZ := n2_; have da := n3_; clear n2_ n3_; (try clear hb)) | ((with_reducible refine gate_dst (N := 9) rfl ?_); refine bx_ (N := 9) (cs := #[.slice none 0 0, .slice none 0 0]) (t := 34) (h := ?_); intro ae hg w23 hbox hb; have n10_ := mk0 (gz_ HB hg); have n11_ := mk0 (gz_ HB hg); have n12_ := mk0 (ne1_ af hg); have n13_ := mk0 (ne2_ af hg); have n14_ := mk0 (ne1_ ak hg); have n15_ := mk0 (ne2_ ak hg); have n16_ := mk0 (ne1_ ai hg); have n17_ := mk0 (ne2_ ai hg); have n18_ := mk0 (ne1_ aj hg); have n19_ := mk0 (ne2_ aj hg); replace HO0_0 := mk0 (Kd.V_below (Kd.V_elderB (v_ HO0_0) ae (Nat.le_of_eq hg.symm)) hb); replace HO0_1 := mk0 (Kd.V_below (Kd.V_elderB (v_ HO0_1) ae (Nat.le_of_eq hg.symm)) hb); replace cZ := mk0 (Kd.R_below (r_ cZ) hb); replace da := mk0 (Kd.R_below (r_ da) hb); replace af := mk0 (u_ af hb); replace ak := mk0 (u_ ak hb); replace ai := mk0 (u_ ai hb); replace aj := mk0 (u_ aj hb); replace HB := mk0 (bt_ (b_ HB) hb); have ag := mk0 (hbox); have EN := n10_; have oz := n11_; have aC := n12_; have bp := n13_; have aA := n14_; have bf := n15_; have ay := n16_; have aY := n17_; have aH := n18_; have bE := n19_; clear n10_ n11_ n12_ n13_ n14_ n15_ n16_ n17_ n18_ n19_; clear hb hbox hg) | ((with_reducible refine gate_dst (N := 10) rfl ?_); refine bx_ (N := 10) (cs := #[.slice none 0 0, .slice none 0 0]) (t := 34) (h := ?_); intro am hg w24 hbox hb; have n11_ := mk0 (gz_ HB hg); have n12_ := mk0 (gz_ HB hg); have n13_ := mk0 (ne1_ af hg); have n14_ := mk0 (ne2_ af hg); have n15_ := mk0 (ne1_ ak hg); have n16_ := mk0 (ne2_ ak hg); have n17_ := mk0 (ne1_ ai hg); have n18_ := mk0 (ne2_ ai hg); have n19_ := mk0 (ne1_ aj hg); have n20_ := mk0 (ne2_ aj hg); have n21_ := mk0 (ne1_ ag hg); have n22_ := mk0 (ne2_ ag hg); replace HO0_0 := mk0 (Kd.V_below (Kd.V_elderB (v_ HO0_0) am (Nat.le_of_eq hg.symm)) hb); replace HO0_1 := mk0 (Kd.V_below (Kd.V_elderB (v_ HO0_1) am (Nat.le_of_eq hg.symm)) hb); replace cZ := mk0 (Kd.R_below (r_ cZ) hb); replace da := mk0 (Kd.R_below (r_ da) hb); replace af := mk0 (u_ af hb); replace ak := mk0 (u_ ak hb); replace ai := mk0 (u_ ai hb); replace aj := mk0 (u_ aj hb); replace ag := mk0 (u_ ag hb); replace HB := mk0 (bt_ (b_ HB) hb); have ah := mk0 (hbox); have EO := n11_; have oA := n12_; have aZ := n13_; have bF := n14_; have aK := n15_; have bk := n16_; have aI := n17_; have bg := n18_; have ba := n19_; have bG := n20_; have aW := n21_; have aJ := n22_; clear n11_ n12_ n13_ n14_ n15_ n16_ n17_ n18_ n19_ n20_ n21_ n22_ hb hbox hg; have EP := aR.out; have EQ := aT.out; have ER := aA.out; have ES := bf.out; have ET := aK.out; have EU := bk.out; obtain ⟨ew, ex, ey, ez, eA, eB, eC, eD, eE, eF, eG, eH⟩ := c6_ ak) | ((with_reducible refine gate_callee (f := 52) rfl ?_); refine gL_ (some 29) Try.func52 #[.int .i64 a1_0, .int .i64 10] (h := ?_); (with_reducible refine (quorumlaw0_Within.calls a1_0 10 ch _ A5.out).mono ?_); rintro e w' ⟨rfl, ⟨nd, rfl⟩⟩; refine ⟨_, rfl, ?_⟩))
 (try simp only [Act.put, List.setIfInBounds_toArray, List.set_cons_zero, List.set_cons_succ])
 go_cut [8, 11, 12, 13] (fun v8 v11 v12 v13 wc => ∃ (kq : Nat) (dz : Int) (dZ : Int) (ea : Int) (cS : Int) (bA : List (S36)) (bB : List Int) (bR : List (S36)) (bS : List Int) (u343000 : Value) (u343001 : Value) (u344000 : Value) (u344001 : Value), v8 = .int .i64 dz ∧ v11 = .int .i64 dZ ∧ v12 = .int .i64 ea ∧ v13 = .int .i64 cS ∧ Fc (quorumlaw10_step.j5 kq dw dz dZ ea cS aD aM aG aN bA bB bR bS = some (r1, r2, r3)) ∧ Fc (kq ≤ k) ∧ Fc (Kd.V k36 36 wc w.heap.size (fun k_ => ((P0_0_ k_ ∨ P0_1_ k_) ∨ w.heap.size ≤ k_) ∧ some k_ ≠ ((.slice bc aG.length bb) : Value).ownBlock ∧ some k_ ≠ ((.slice bj aN.length bi) : Value).ownBlock ∧ some k_ ≠ (u343000 : Value).ownBlock ∧ some k_ ≠ (u343001 : Value).ownBlock ∧ some k_ ≠ (u344000 : Value).ownBlock ∧ some k_ ≠ (u344001 : Value).ownBlock ∧ k_ ≠ bd ∧ k_ ≠ bq ∧ k_ ≠ ap ∧ k_ ≠ aV ∧ k_ ≠ ae ∧ k_ ≠ am) (.slice A0_0 aD.length c0_0) aD) ∧ Fc (Kd.V (Kd.int .i64) 3 wc w.heap.size (fun k_ => ((P0_0_ k_ ∨ P0_1_ k_) ∨ w.heap.size ≤ k_) ∧ some k_ ≠ ((.slice bc aG.length bb) : Value).ownBlock ∧ some k_ ≠ ((.slice bj aN.length bi) : Value).ownBlock ∧ some k_ ≠ (u343000 : Value).ownBlock ∧ some k_ ≠ (u343001 : Value).ownBlock ∧ some k_ ≠ (u344000 : Value).ownBlock ∧ some k_ ≠ (u344001 : Value).ownBlock ∧ k_ ≠ bd ∧ k_ ≠ bq ∧ k_ ≠ ap ∧ k_ ≠ aV ∧ k_ ≠ ae ∧ k_ ≠ am) (.slice A0_1 aM.length c0_1) aM) ∧ Fc (Kd.R k36 36 wc w.heap.size (fun k_ => (w.heap.size ≤ k_) ∧ some k_ ≠ (u343000 : Value).ownBlock ∧ some k_ ≠ (u344000 : Value).ownBlock) (.slice bc aG.length bb) aG) ∧ Fc (Kd.R (Kd.int .i64) 3 wc w.heap.size (fun k_ => (w.heap.size ≤ k_) ∧ some k_ ≠ (u343001 : Value).ownBlock ∧ some k_ ≠ (u344001 : Value).ownBlock) (.slice bj aN.length bi) aN) ∧ Fc (Kd.R k36 36 wc w.heap.size (fun k_ => (w.heap.size ≤ k_) ∧ some k_ ≠ ((.slice bc aG.length bb) : Value).ownBlock ∧ some k_ ≠ (u344000 : Value).ownBlock) u343000 bA) ∧ Fc (Kd.R (Kd.int .i64) 3 wc w.heap.size (fun k_ => (w.heap.size ≤ k_) ∧ some k_ ≠ ((.slice bj aN.length bi) : Value).ownBlock ∧ some k_ ≠ (u344001 : Value).ownBlock) u343001 bB) ∧ Fc (Kd.R k36 36 wc w.heap.size (fun k_ => (w.heap.size ≤ k_) ∧ some k_ ≠ ((.slice bc aG.length bb) : Value).ownBlock ∧ some k_ ≠ (u343000 : Value).ownBlock) u344000 bR) ∧ Fc (Kd.R (Kd.int .i64) 3 wc w.heap.size (fun k_ => (w.heap.size ≤ k_) ∧ some k_ ≠ ((.slice bj aN.length bi) : Value).ownBlock ∧ some k_ ≠ (u343001 : Value).ownBlock) u344001 bS) ∧ Fc (wc.heap[bd]? = some (.cells #[(.slice A0_0 aD.length c0_0), (.slice A0_1 aM.length c0_1)] 34 (0, 0))) ∧ Fc (wc.heap[bq]? = some (.cells #[.int .i64 a1_0, .int .i64 a1_1, .int .i64 a1_2, .string a1_3, .string a1_4, .bool a1_5] 62 (0, 0))) ∧ Fc (wc.heap[ap]? = some (.cells #[(.slice none 0 0), (.slice none 0 0)] 34 (0, 0))) ∧ Fc (wc.heap[aV]? = some (.cells #[(.slice bc aG.length bb), (.slice bj aN.length bi)] 34 (0, 0))) ∧ Fc (wc.heap[ae]? = some (.cells #[u343000, u343001] 34 (0, 0))) ∧ Fc (wc.heap[am]? = some (.cells #[u344000, u344001] 34 (0, 0))) ∧ Fc (Below w.heap.size w wc))
 case first =>
  have H := HC6.out
  clear HC6
  have HC29 := mk0 H
  clear H
  go_upto_if 56 with (fail)
  go_cut [56] (fun v56 wc => ∃ (kq : Nat) (fH : Bool), v56 = .bool fH ∧ Fc (quorumlaw10_step.j0 kq dw 1 0 0 ch fH aD aM a1_0 a1_1 a1_2 a1_3 a1_4 a1_5 aG aN = some (r1, r2, r3)) ∧ Fc (kq ≤ k) ∧ Fc (Kd.V k36 36 wc w.heap.size (fun k_ => ((P0_0_ k_ ∨ P0_1_ k_) ∨ w.heap.size ≤ k_) ∧ some k_ ≠ ((.slice bc aG.length bb) : Value).ownBlock ∧ some k_ ≠ ((.slice bj aN.length bi) : Value).ownBlock ∧ k_ ≠ bd ∧ k_ ≠ bq ∧ k_ ≠ ap ∧ k_ ≠ aV ∧ k_ ≠ ae ∧ k_ ≠ am) (.slice A0_0 aD.length c0_0) aD) ∧ Fc (Kd.V (Kd.int .i64) 3 wc w.heap.size (fun k_ => ((P0_0_ k_ ∨ P0_1_ k_) ∨ w.heap.size ≤ k_) ∧ some k_ ≠ ((.slice bc aG.length bb) : Value).ownBlock ∧ some k_ ≠ ((.slice bj aN.length bi) : Value).ownBlock ∧ k_ ≠ bd ∧ k_ ≠ bq ∧ k_ ≠ ap ∧ k_ ≠ aV ∧ k_ ≠ ae ∧ k_ ≠ am) (.slice A0_1 aM.length c0_1) aM) ∧ Fc (Kd.R k36 36 wc w.heap.size (fun k_ => (w.heap.size ≤ k_)) (.slice bc aG.length bb) aG) ∧ Fc (Kd.R (Kd.int .i64) 3 wc w.heap.size (fun k_ => (w.heap.size ≤ k_)) (.slice bj aN.length bi) aN) ∧ Fc (wc.heap[bd]? = some (.cells #[(.slice A0_0 aD.length c0_0), (.slice A0_1 aM.length c0_1)] 34 (0, 0))) ∧ Fc (wc.heap[bq]? = some (.cells #[.int .i64 a1_0, .int .i64 a1_1, .int .i64 a1_2, .string a1_3, .string a1_4, .bool a1_5] 62 (0, 0))) ∧ Fc (wc.heap[ap]? = some (.cells #[(.slice none 0 0), (.slice none 0 0)] 34 (0, 0))) ∧ Fc (wc.heap[aV]? = some (.cells #[(.slice bc aG.length bb), (.slice bj aN.length bi)] 34 (0, 0))) ∧ Fc (wc.heap[ae]? = some (.cells #[(.slice none 0 0), (.slice none 0 0)] 34 (0, 0))) ∧ Fc (wc.heap[am]? = some (.cells #[(.slice none 0 0), (.slice none 0 0)] 34 (0, 0))) ∧ Fc (Below w.heap.size w wc))
  case first =>
   have H := HC29.out
   clear HC29
   by_cases c30 : ch = 4
   rotate_left
   ·rw [if_neg c30] at H
    have eb : (ch == 4) = false := beq_eq_false_iff_ne.mpr c30
    have lk : (ch != 4) = true := bne_iff_ne.mpr c30
    (first | rw [eb] | (simp only [i64_w, i32_w]; rw [eb]) | skip)
    have H' := mk0 H
    clear H
    go_wp2
    go_meet
    case rel => exact ⟨_, ((ch == 5)), (by first | rfl | (simp; done) | (simp [*]; done)), H', ⟨by first | omega | exact Nat.le_refl _⟩, ⟨by (with_reducible repeat (first | apply Kd.V_alloc | apply Kd.V_drewN | apply Kd.V_drew)); exact Kd.V_mono HO0_0.out (fun _ hk => ⟨hk.1.1.1.1.1.1.1.1, ⟨hk.1.1.1.1.2, ⟨hk.1.1.1.2, ⟨hk.1.1.1.1.1.1.1.2, ⟨hk.1.1.1.1.1.1.2, ⟨hk.1.1.1.1.1.2, ⟨hk.1.1.2, ⟨hk.1.2, hk.2⟩⟩⟩⟩⟩⟩⟩⟩)⟩, ⟨by (with_reducible repeat (first | apply Kd.V_alloc | apply Kd.V_drewN | apply Kd.V_drew)); exact Kd.V_mono HO0_1.out (fun _ hk => ⟨hk.1.1.1.1.1.1.1.1, ⟨hk.1.1.1.1.2, ⟨hk.1.1.1.2, ⟨hk.1.1.1.1.1.1.1.2, ⟨hk.1.1.1.1.1.1.2, ⟨hk.1.1.1.1.1.2, ⟨hk.1.1.2, ⟨hk.1.2, hk.2⟩⟩⟩⟩⟩⟩⟩⟩)⟩, ⟨by (with_reducible repeat (first | apply Ra_ | apply Rn_ | apply Rd_)); exact Kd.R_mono cZ.out (fun _ hk => hk.1)⟩, ⟨by (with_reducible repeat (first | apply Ra_ | apply Rn_ | apply Rd_)); exact Kd.R_mono da.out (fun _ hk => hk.1)⟩, ⟨h_ af⟩, ⟨h_ ak⟩, ⟨h_ ai⟩, ⟨h_ aj⟩, ⟨h_ ag⟩, ⟨h_ ah⟩, ⟨b_ HB⟩⟩
   rw [if_pos c30] at H
   have eb : (ch == 4) = true := beq_iff_eq.mpr c30
   have lk : (ch != 4) = false := bne_eq_false_iff_eq.mpr c30
   clear c30
   (first | rw [eb] | (simp only [i64_w, i32_w]; rw [eb]) | skip)
   have H' := mk0 H
   clear H
   go_wp2
   go_meet
   case rel => exact ⟨_, ((ch == 4)), (by first | rfl | (simp; done) | (simp [*]; done)), H', ⟨by first | omega | exact Nat.le_refl _⟩, ⟨by (with_reducible repeat (first | apply Kd.V_alloc | apply Kd.V_drewN | apply Kd.V_drew)); exact Kd.V_mono HO0_0.out (fun _ hk => ⟨hk.1.1.1.1.1.1.1.1, ⟨hk.1.1.1.1.2, ⟨hk.1.1.1.2, ⟨hk.1.1.1.1.1.1.1.2, ⟨hk.1.1.1.1.1.1.2, ⟨hk.1.1.1.1.1.2, ⟨hk.1.1.2, ⟨hk.1.2, hk.2⟩⟩⟩⟩⟩⟩⟩⟩)⟩, ⟨by (with_reducible repeat (first | apply Kd.V_alloc | apply Kd.V_drewN | apply Kd.V_drew)); exact Kd.V_mono HO0_1.out (fun _ hk => ⟨hk.1.1.1.1.1.1.1.1, ⟨hk.1.1.1.1.2, ⟨hk.1.1.1.2, ⟨hk.1.1.1.1.1.1.1.2, ⟨hk.1.1.1.1.1.1.2, ⟨hk.1.1.1.1.1.2, ⟨hk.1.1.2, ⟨hk.1.2, hk.2⟩⟩⟩⟩⟩⟩⟩⟩)⟩, ⟨by (with_reducible repeat (first | apply Ra_ | apply Rn_ | apply Rd_)); exact Kd.R_mono cZ.out (fun _ hk => hk.1)⟩, ⟨by (with_reducible repeat (first | apply Ra_ | apply Rn_ | apply Rd_)); exact Kd.R_mono da.out (fun _ hk => hk.1)⟩, ⟨h_ af⟩, ⟨h_ ak⟩, ⟨h_ ai⟩, ⟨h_ aj⟩, ⟨h_ ag⟩, ⟨h_ ah⟩, ⟨b_ HB⟩⟩
  clear HC29
  try clear c30
  try clear eb
  try clear lk
  try clear ej ek el em
  try clear en eo ep er
  try clear es et eu ev
  try clear ew ex ey ez eA eB eC eD eE eF eG eH
  obtain ⟨kq, fH, rfl, HA, cT, ac, ad, aa, ab, af, ak, ai, aj, ag, ah, HB⟩ := hcut
  cases kq with
  | zero => exact absurd HA.out (by simp [quorumlaw10_step.j0])
  | succ kj28 =>
  have H := HA.out
  clear HA
  simp only [quorumlaw10_step.j0] at H
  as_aux_lemma =>
  by_cases c31 : fH = true
  ·subst c31
   rw [if_pos rfl] at H
   replace H := Option.bind_eq_some_iff.mp H
   obtain ⟨⟨bJ, bL, ln, lo⟩, A320, H⟩ := H
   try dsimp only at H
   have A32 := mk0 A320
   clear A320
   by_cases c33 : dw = true
   rotate_left
   ·replace c33 := Bool.eq_false_iff.mpr c33
    subst c33
    rw [if_neg (show ¬ (false = true) by decide)] at H
    have H' := mk0 H
    clear H
    have EV := bw.out
    have EW := bn.out
    have EX := bx.out
    have EY := bo.out
    have EZ := aU.out
    have Fa := aX.out
    have Fb := aH.out
    have Fd := bE.out
    have Fe := ba.out
    have Ff := bG.out
    obtain ⟨fI, fJ, fK, fL⟩ := c2_ aj
    go_wp2_with (first | ((with_reducible refine gate_callee (f := 53) rfl ?_); refine gL_ (some 61) Try.func53 #[.agg #[.slice bc aG.length bb, .slice bj aN.length bi]] (h := ?_); (with_reducible refine (pend_Save.calls kj28 _ _ aG _ _ aN bJ bL ln lo _ ?side1 ?side2 ?side3 ?side4 A32.out).mono ?_); (case side1 => exact cr_ aa); (case side2 => exact (Kd.R_reads' aa.out).2.1); (case side3 => exact cr_ ab); (case side4 => exact (Kd.R_reads' ab.out).2.1); rintro e w91 ⟨v346, v349, rfl, ho0, ho1, hb⟩; refine ⟨_, rfl, ?_⟩; have n4_ := mk0 (Kd.R_lower (Kd.R_new' (Kd.R_newM (M := fun k_ => (w.heap.size ≤ k_)) ho0 (bz_ (b_ HB)) (fun k_ h_ => h_)) (Kd.R_lt (r_ aa))) (bz_ (b_ HB))); have n5_ := mk0 (Kd.R_lower (Kd.R_new' (Kd.R_newM (M := fun k_ => (w.heap.size ≤ k_)) ho1 (bz_ (b_ HB)) (fun k_ h_ => h_)) (Kd.R_lt (r_ ab))) (bz_ (b_ HB))); replace ac := mk0 (Kd.V_mono (Kd.V_told (Kd.V_told (Kd.V_old (v_ ac) hb) (Kd.R_base ho0)) (Kd.R_base ho1)) (fun _ h_ => h_.1)); replace ad := mk0 (Kd.V_mono (Kd.V_told (Kd.V_told (Kd.V_old (v_ ad) hb) (Kd.R_base ho0)) (Kd.R_base ho1)) (fun _ h_ => h_.1)); replace aa := mk0 (Kd.R_elder' (r_ aa) (Kd.R_base ho0) hb); replace ab := mk0 (Kd.R_elder' (r_ ab) (Kd.R_base ho1) hb); replace af := mk0 (u_ af hb); replace ak := mk0 (u_ ak hb); replace ai := mk0 (u_ ai hb); replace aj := mk0 (u_ aj hb); replace ag := mk0 (u_ ag hb); replace ah := mk0 (u_ ah hb); replace HB := mk0 (bt_ (b_ HB) hb); have cG := n4_; have cH := n5_; clear n4_ n5_; (try clear hb); (try clear ho0); (try clear ho1); obtain ⟨gM, gN, uB⟩ := Kd.R_slice cG.out; subst uB; have Fg := bp.out; have Fh := aC.out; have Fi := bf.out; have Fj := aA.out; have Fk := aY.out; have Fl := ay.out; have Fm := aW.out; have Fn := aJ.out; obtain ⟨fM, fN, fO, fP⟩ := c2_ ag; obtain ⟨ld, lf, uC⟩ := Kd.R_slice cH.out; subst uC))
    go_meet
    case rel => exact ⟨_, (1), (ln), (0), (lo), (bJ), (bL), (([] : List (S36))), (([] : List Int)), (.slice gM bJ.length gN), (.slice ld bL.length lf), (.slice none 0 0), (.slice none 0 0), (by first | rfl | (simp; done) | (simp [*]; done)), (by first | rfl | (simp; done) | (simp [*]; done)), (by first | rfl | (simp; done) | (simp [*]; done)), (by first | rfl | (simp; done) | (simp [*]; done)), H', ⟨by have := cT.out; first | omega | exact Nat.le_refl _⟩, ⟨by (with_reducible repeat (first | apply Kd.V_alloc | apply Kd.V_drewN | apply Kd.V_drew)); exact Kd.V_mono (Kd.V_far (p := ⟨ae, 1, none⟩) (Kd.V_far (p := ⟨ae, 0, none⟩) (Kd.V_mono ac.out (fun k_ hk => (⟨hk, hk.1.1.2.2.2.2.2.2.2.1⟩ : _ ∧ k_ ≠ ae))) (fun _ hk => hk.2) (.slice gM bJ.length gN)) (fun _ hk => hk.2) (.slice ld bL.length lf)) (fun _ hk => ⟨hk.1.1.1.1, ⟨hk.1.1.1.2.1, ⟨hk.1.1.1.2.2.1, ⟨hk.1.1.2, ⟨hk.1.2, ⟨(by simp [Value.ownBlock]), ⟨(by simp [Value.ownBlock]), ⟨hk.1.1.1.2.2.2.1, ⟨hk.1.1.1.2.2.2.2.1, ⟨hk.1.1.1.2.2.2.2.2.1, ⟨hk.1.1.1.2.2.2.2.2.2.1, ⟨hk.1.1.1.2.2.2.2.2.2.2.1, hk.1.1.1.2.2.2.2.2.2.2.2⟩⟩⟩⟩⟩⟩⟩⟩⟩⟩⟩⟩)⟩, ⟨by (with_reducible repeat (first | apply Kd.V_alloc | apply Kd.V_drewN | apply Kd.V_drew)); exact Kd.V_mono (Kd.V_far (p := ⟨ae, 1, none⟩) (Kd.V_far (p := ⟨ae, 0, none⟩) (Kd.V_mono ad.out (fun k_ hk => (⟨hk, hk.1.1.2.2.2.2.2.2.2.1⟩ : _ ∧ k_ ≠ ae))) (fun _ hk => hk.2) (.slice gM bJ.length gN)) (fun _ hk => hk.2) (.slice ld bL.length lf)) (fun _ hk => ⟨hk.1.1.1.1, ⟨hk.1.1.1.2.1, ⟨hk.1.1.1.2.2.1, ⟨hk.1.1.2, ⟨hk.1.2, ⟨(by simp [Value.ownBlock]), ⟨(by simp [Value.ownBlock]), ⟨hk.1.1.1.2.2.2.1, ⟨hk.1.1.1.2.2.2.2.1, ⟨hk.1.1.1.2.2.2.2.2.1, ⟨hk.1.1.1.2.2.2.2.2.2.1, ⟨hk.1.1.1.2.2.2.2.2.2.2.1, hk.1.1.1.2.2.2.2.2.2.2.2⟩⟩⟩⟩⟩⟩⟩⟩⟩⟩⟩⟩)⟩, ⟨by (with_reducible repeat (first | apply Ra_ | apply Rn_ | apply Rd_)); exact Kd.R_mono (Kd.R_far (p := ⟨ae, 1, none⟩) (Kd.R_far (p := ⟨ae, 0, none⟩) (Kd.R_types aa.out ag.out (by decide)) (fun _ hk => hk.2) (.slice gM bJ.length gN)) (fun _ hk => hk.2) (.slice ld bL.length lf)) (fun _ hk => ⟨hk.1.1, ⟨hk.1.2, (by simp [Value.ownBlock])⟩⟩)⟩, ⟨by (with_reducible repeat (first | apply Ra_ | apply Rn_ | apply Rd_)); exact Kd.R_mono (Kd.R_far (p := ⟨ae, 1, none⟩) (Kd.R_far (p := ⟨ae, 0, none⟩) (Kd.R_types ab.out ag.out (by decide)) (fun _ hk => hk.2) (.slice gM bJ.length gN)) (fun _ hk => hk.2) (.slice ld bL.length lf)) (fun _ hk => ⟨hk.1.1, ⟨hk.1.2, (by simp [Value.ownBlock])⟩⟩)⟩, ⟨by (with_reducible repeat (first | apply Ra_ | apply Rn_ | apply Rd_)); exact Kd.R_mono (Kd.R_far (p := ⟨ae, 1, none⟩) (Kd.R_far (p := ⟨ae, 0, none⟩) (Kd.R_types cG.out ag.out (by decide)) (fun _ hk => hk.2) (.slice gM bJ.length gN)) (fun _ hk => hk.2) (.slice ld bL.length lf)) (fun _ hk => ⟨hk.1.1.1, ⟨hk.1.2, (by simp [Value.ownBlock])⟩⟩)⟩, ⟨by (with_reducible repeat (first | apply Ra_ | apply Rn_ | apply Rd_)); exact Kd.R_mono (Kd.R_far (p := ⟨ae, 1, none⟩) (Kd.R_far (p := ⟨ae, 0, none⟩) (Kd.R_types cH.out ag.out (by decide)) (fun _ hk => hk.2) (.slice gM bJ.length gN)) (fun _ hk => hk.2) (.slice ld bL.length lf)) (fun _ hk => ⟨hk.1.1.1, ⟨hk.1.2, (by simp [Value.ownBlock])⟩⟩)⟩, ⟨by first | exact Kd.R_nil _ _ _ _ _ | exact Kd.N_nil _ _ _ _ _ | exact Kd.V_nil _ _ _ _ _ | exact Kd.Q_nil _ _ _ _ _ | exact Kd.S_nil _ _ _ _ _⟩, ⟨by first | exact Kd.R_nil _ _ _ _ _ | exact Kd.N_nil _ _ _ _ _ | exact Kd.V_nil _ _ _ _ _ | exact Kd.Q_nil _ _ _ _ _ | exact Kd.S_nil _ _ _ _ _⟩, ⟨(fa_ (fa_ (h_ af) aC.out) aC.out)⟩, ⟨(fa_ (fa_ (h_ ak) aA.out) aA.out)⟩, ⟨(fa_ (fa_ (h_ ai) ay.out) ay.out)⟩, ⟨(fa_ (fa_ (h_ aj) aH.out) aH.out)⟩, ⟨(pu_ (cs := #[.slice gM bJ.length gN, .slice none 0 0]) (pu_ (cs := #[.slice none 0 0, .slice none 0 0]) (h_ ag)))⟩, ⟨(fa_ (fa_ (h_ ah) aJ.out) aJ.out)⟩, ⟨b_ HB⟩⟩
   subst c33
   rw [if_pos rfl] at H
   replace H := Option.bind_eq_some_iff.mp H
   obtain ⟨⟨cM, cO, fQ⟩, A340, H⟩ := H
   try dsimp only at H
   have A34 := mk0 A340
   clear A340
   by_cases c35 : fQ = 0
   rotate_left
   ·rw [if_neg c35] at H
    have lu : (fQ == 0) = false := beq_eq_false_iff_ne.mpr c35
    have lv : (fQ != 0) = true := bne_iff_ne.mpr c35
    have H' := mk0 H
    clear H
    have Fo := bw.out
    have Fp := bn.out
    have Fq := bx.out
    have Fr := bo.out
    have Fs := aU.out
    have Ft := aX.out
    have Fu := aH.out
    have Fv := bE.out
    have Fw := ba.out
    have Fx := bG.out
    obtain ⟨fR, fS, fT, fU⟩ := c2_ aj
    go_wp2_with (first | ((with_reducible refine gate_callee (f := 53) rfl ?_); refine gL_ (some 61) Try.func53 #[.agg #[.slice bc aG.length bb, .slice bj aN.length bi]] (h := ?_); (with_reducible refine (pend_Save.calls kj28 _ _ aG _ _ aN bJ bL ln lo _ ?side1 ?side2 ?side3 ?side4 A32.out).mono ?_); (case side1 => exact cr_ aa); (case side2 => exact (Kd.R_reads' aa.out).2.1); (case side3 => exact cr_ ab); (case side4 => exact (Kd.R_reads' ab.out).2.1); rintro e w67 ⟨v346, v349, rfl, ho0, ho1, hb⟩; refine ⟨_, rfl, ?_⟩; have n4_ := mk0 (Kd.R_lower (Kd.R_new' (Kd.R_newM (M := fun k_ => (w.heap.size ≤ k_)) ho0 (bz_ (b_ HB)) (fun k_ h_ => h_)) (Kd.R_lt (r_ aa))) (bz_ (b_ HB))); have n5_ := mk0 (Kd.R_lower (Kd.R_new' (Kd.R_newM (M := fun k_ => (w.heap.size ≤ k_)) ho1 (bz_ (b_ HB)) (fun k_ h_ => h_)) (Kd.R_lt (r_ ab))) (bz_ (b_ HB))); replace ac := mk0 (Kd.V_mono (Kd.V_told (Kd.V_told (Kd.V_old (v_ ac) hb) (Kd.R_base ho0)) (Kd.R_base ho1)) (fun _ h_ => h_.1)); replace ad := mk0 (Kd.V_mono (Kd.V_told (Kd.V_told (Kd.V_old (v_ ad) hb) (Kd.R_base ho0)) (Kd.R_base ho1)) (fun _ h_ => h_.1)); replace aa := mk0 (Kd.R_elder' (r_ aa) (Kd.R_base ho0) hb); replace ab := mk0 (Kd.R_elder' (r_ ab) (Kd.R_base ho1) hb); replace af := mk0 (u_ af hb); replace ak := mk0 (u_ ak hb); replace ai := mk0 (u_ ai hb); replace aj := mk0 (u_ aj hb); replace ag := mk0 (u_ ag hb); replace ah := mk0 (u_ ah hb); replace HB := mk0 (bt_ (b_ HB) hb); have cG := n4_; have cH := n5_; clear n4_ n5_; (try clear hb); (try clear ho0); (try clear ho1); obtain ⟨dc, dd, uD⟩ := Kd.R_slice cG.out; subst uD; have Fy := bp.out; have Fz := aC.out; have FA := bf.out; have FB := aA.out; have FC := aY.out; have FD := ay.out; have FE := aW.out; have FF := aJ.out; obtain ⟨fV, fW, fX, fY⟩ := c2_ ag; obtain ⟨dm, dn, uE⟩ := Kd.R_slice cH.out; subst uE; have FG := bl.out; have FH := bm.out; have FI := ax.out; have FJ := be.out; have FK := aZ.out; have FL := bF.out; obtain ⟨fZ, ga, gb, gc⟩ := c2_ af) | ((with_reducible refine gate_callee (f := 54) rfl ?_); refine gL_ (some 68) Try.func54 #[.agg #[.slice A0_0 aD.length c0_0, .slice A0_1 aM.length c0_1]] (h := ?_); (with_reducible refine (quorumref8_Save.calls kj28 _ _ aD _ _ aM cM cO fQ _ ?side1 ?side2 ?side3 ?side4 A34.out).mono ?_); (case side1 => refine (Kd.V_reads' (e := 36) (base := w.heap.size) (ok := fun k_ => ((((((P0_0_ k_ ∨ P0_1_ k_) ∨ w.heap.size ≤ k_)) ∧ (some k_ ≠ (.slice bc aG.length bb : Value).ownBlock ∧ (some k_ ≠ (.slice bj aN.length bi : Value).ownBlock ∧ (k_ ≠ bd ∧ (k_ ≠ bq ∧ (k_ ≠ ap ∧ (k_ ≠ aV ∧ (k_ ≠ ae ∧ k_ ≠ am)))))))) ∧ some k_ ≠ (.slice dc bJ.length dd : Value).ownBlock) ∧ some k_ ≠ (.slice dm bL.length dn : Value).ownBlock)) (n := aD.length) (c := c0_0) ?_).2.2; exact (v2_ (Kd.V_mono (Kd.V_far (p := ⟨ae, 1, none⟩) (Kd.V_far (p := ⟨ae, 0, none⟩) (Kd.V_mono ac.out (fun k_ hk => (⟨hk, hk.1.1.2.2.2.2.2.2.2.1⟩ : _ ∧ k_ ≠ ae))) (fun _ hk => hk.2) (.slice dc bJ.length dd)) (fun _ hk => hk.2) (.slice dm bL.length dn)) (fun _ h_ => h_.1)))); (case side2 => exact (Kd.V_reads' ac.out).2.1); (case side3 => refine (Kd.V_reads' (e := 3) (base := w.heap.size) (ok := fun k_ => ((((((P0_0_ k_ ∨ P0_1_ k_) ∨ w.heap.size ≤ k_)) ∧ (some k_ ≠ (.slice bc aG.length bb : Value).ownBlock ∧ (some k_ ≠ (.slice bj aN.length bi : Value).ownBlock ∧ (k_ ≠ bd ∧ (k_ ≠ bq ∧ (k_ ≠ ap ∧ (k_ ≠ aV ∧ (k_ ≠ ae ∧ k_ ≠ am)))))))) ∧ some k_ ≠ (.slice dc bJ.length dd : Value).ownBlock) ∧ some k_ ≠ (.slice dm bL.length dn : Value).ownBlock)) (n := aM.length) (c := c0_1) ?_).2.2; exact (v2_ (Kd.V_mono (Kd.V_far (p := ⟨ae, 1, none⟩) (Kd.V_far (p := ⟨ae, 0, none⟩) (Kd.V_mono ad.out (fun k_ hk => (⟨hk, hk.1.1.2.2.2.2.2.2.2.1⟩ : _ ∧ k_ ≠ ae))) (fun _ hk => hk.2) (.slice dc bJ.length dd)) (fun _ hk => hk.2) (.slice dm bL.length dn)) (fun _ h_ => h_.1)))); (case side4 => exact (Kd.V_reads' ad.out).2.1); rintro e w79 ⟨v354, v357, rfl, ho0, ho1, hb⟩; refine ⟨_, rfl, ?_⟩; have n2_ := mk0 (Kd.R_elder' (r2_ (Kd.R_mono (Kd.R_far (p := ⟨ae, 1, none⟩) (Kd.R_far (p := ⟨ae, 0, none⟩) (Kd.R_types aa.out ag.out (by decide)) (fun _ hk => hk.2) (.slice dc bJ.length dd)) (fun _ hk => hk.2) (.slice dm bL.length dn)) (fun _ h_ => h_.1))) (Kd.R_base ho0) hb); have n3_ := mk0 (Kd.R_elder' (r2_ (Kd.R_mono (Kd.R_far (p := ⟨ae, 1, none⟩) (Kd.R_far (p := ⟨ae, 0, none⟩) (Kd.R_types ab.out ag.out (by decide)) (fun _ hk => hk.2) (.slice dc bJ.length dd)) (fun _ hk => hk.2) (.slice dm bL.length dn)) (fun _ h_ => h_.1))) (Kd.R_base ho1) hb); have n4_ := mk0 (Kd.R_elder' (r2_ (Kd.R_mono (Kd.R_far (p := ⟨ae, 1, none⟩) (Kd.R_far (p := ⟨ae, 0, none⟩) (Kd.R_types cG.out ag.out (by decide)) (fun _ hk => hk.2) (.slice dc bJ.length dd)) (fun _ hk => hk.2) (.slice dm bL.length dn)) (fun _ h_ => h_.1))) (Kd.R_base ho0) hb); have n5_ := mk0 (Kd.R_elder' (r2_ (Kd.R_mono (Kd.R_far (p := ⟨ae, 1, none⟩) (Kd.R_far (p := ⟨ae, 0, none⟩) (Kd.R_types cH.out ag.out (by decide)) (fun _ hk => hk.2) (.slice dc bJ.length dd)) (fun _ hk => hk.2) (.slice dm bL.length dn)) (fun _ h_ => h_.1))) (Kd.R_base ho1) hb); have n6_ := mk0 (Kd.R_lower (Kd.R_new' (Kd.R_new' (Kd.R_newM (M := fun k_ => (w.heap.size ≤ k_)) ho0 (bz_ (b_ HB)) (fun k_ h_ => h_)) (Kd.R_lt (r2_ (Kd.R_mono (Kd.R_far (p := ⟨ae, 1, none⟩) (Kd.R_far (p := ⟨ae, 0, none⟩) (Kd.R_types aa.out ag.out (by decide)) (fun _ hk => hk.2) (.slice dc bJ.length dd)) (fun _ hk => hk.2) (.slice dm bL.length dn)) (fun _ h_ => h_.1))))) (Kd.R_lt (r2_ (Kd.R_mono (Kd.R_far (p := ⟨ae, 1, none⟩) (Kd.R_far (p := ⟨ae, 0, none⟩) (Kd.R_types cG.out ag.out (by decide)) (fun _ hk => hk.2) (.slice dc bJ.length dd)) (fun _ hk => hk.2) (.slice dm bL.length dn)) (fun _ h_ => h_.1))))) (bz_ (b_ HB))); have n7_ := mk0 (Kd.R_lower (Kd.R_new' (Kd.R_new' (Kd.R_newM (M := fun k_ => (w.heap.size ≤ k_)) ho1 (bz_ (b_ HB)) (fun k_ h_ => h_)) (Kd.R_lt (r2_ (Kd.R_mono (Kd.R_far (p := ⟨ae, 1, none⟩) (Kd.R_far (p := ⟨ae, 0, none⟩) (Kd.R_types ab.out ag.out (by decide)) (fun _ hk => hk.2) (.slice dc bJ.length dd)) (fun _ hk => hk.2) (.slice dm bL.length dn)) (fun _ h_ => h_.1))))) (Kd.R_lt (r2_ (Kd.R_mono (Kd.R_far (p := ⟨ae, 1, none⟩) (Kd.R_far (p := ⟨ae, 0, none⟩) (Kd.R_types cH.out ag.out (by decide)) (fun _ hk => hk.2) (.slice dc bJ.length dd)) (fun _ hk => hk.2) (.slice dm bL.length dn)) (fun _ h_ => h_.1))))) (bz_ (b_ HB))); replace ac := mk0 (Kd.V_mono (Kd.V_told (Kd.V_told (Kd.V_old (v2_ (Kd.V_mono (Kd.V_far (p := ⟨ae, 1, none⟩) (Kd.V_far (p := ⟨ae, 0, none⟩) (Kd.V_mono ac.out (fun k_ hk => (⟨hk, hk.1.1.2.2.2.2.2.2.2.1⟩ : _ ∧ k_ ≠ ae))) (fun _ hk => hk.2) (.slice dc bJ.length dd)) (fun _ hk => hk.2) (.slice dm bL.length dn)) (fun _ h_ => h_.1))) hb) (Kd.R_base ho0)) (Kd.R_base ho1)) (fun _ h_ => h_.1)); replace ad := mk0 (Kd.V_mono (Kd.V_told (Kd.V_told (Kd.V_old (v2_ (Kd.V_mono (Kd.V_far (p := ⟨ae, 1, none⟩) (Kd.V_far (p := ⟨ae, 0, none⟩) (Kd.V_mono ad.out (fun k_ hk => (⟨hk, hk.1.1.2.2.2.2.2.2.2.1⟩ : _ ∧ k_ ≠ ae))) (fun _ hk => hk.2) (.slice dc bJ.length dd)) (fun _ hk => hk.2) (.slice dm bL.length dn)) (fun _ h_ => h_.1))) hb) (Kd.R_base ho0)) (Kd.R_base ho1)) (fun _ h_ => h_.1)); replace af := mk0 (blk_below (g := bd) (o := .cells #[.slice A0_0 aD.length c0_0, .slice A0_1 aM.length c0_1] 34 (0, 0)) (fa_ (fa_ (h_ af) aC.out) aC.out) hb); replace ak := mk0 (blk_below (g := bq) (o := .cells #[.int .i64 a1_0, .int .i64 a1_1, .int .i64 a1_2, .string a1_3, .string a1_4, .bool a1_5] 62 (0, 0)) (fa_ (fa_ (h_ ak) aA.out) aA.out) hb); replace ai := mk0 (blk_below (g := ap) (o := .cells #[.slice none 0 0, .slice none 0 0] 34 (0, 0)) (fa_ (fa_ (h_ ai) ay.out) ay.out) hb); replace aj := mk0 (blk_below (g := aV) (o := .cells #[.slice bc aG.length bb, .slice bj aN.length bi] 34 (0, 0)) (fa_ (fa_ (h_ aj) aH.out) aH.out) hb); replace ag := mk0 (blk_below (g := ae) (o := .cells #[.slice dc bJ.length dd, .slice dm bL.length dn] 34 (0, 0)) (pu_ (cs := #[.slice dc bJ.length dd, .slice none 0 0]) (pu_ (cs := #[.slice none 0 0, .slice none 0 0]) (h_ ag))) hb); replace ah := mk0 (blk_below (g := am) (o := .cells #[.slice none 0 0, .slice none 0 0] 34 (0, 0)) (fa_ (fa_ (h_ ah) aJ.out) aJ.out) hb); replace HB := mk0 (bt_ (b_ HB) hb); clear aa ab cG cH; have aa := n2_; have ab := n3_; have cG := n4_; have cH := n5_; have gO := n6_; have gP := n7_; clear n2_ n3_ n4_ n5_ n6_ n7_; (try clear hb); (try clear ho0); (try clear ho1); obtain ⟨fy, fz, uF⟩ := Kd.R_slice gO.out; subst uF; have FM := bk.out; have FN := aK.out; have FO := bg.out; have FP := aI.out; obtain ⟨gd, gf, gg, gh⟩ := c2_ ah; obtain ⟨gi, gj, uG⟩ := Kd.R_slice gP.out; subst uG))
    go_meet
    case rel => exact ⟨_, (fQ), (ln), (0), (lo), (bJ), (bL), (cM), (cO), (.slice dc bJ.length dd), (.slice dm bL.length dn), (.slice fy cM.length fz), (.slice gi cO.length gj), (by first | rfl | (simp; done) | (simp [*]; done)), (by first | rfl | (simp; done) | (simp [*]; done)), (by first | rfl | (simp; done) | (simp [*]; done)), (by first | rfl | (simp; done) | (simp [*]; done)), H', ⟨by have := cT.out; first | omega | exact Nat.le_refl _⟩, ⟨by (with_reducible repeat (first | apply Kd.V_alloc | apply Kd.V_drewN | apply Kd.V_drew)); exact Kd.V_mono (Kd.V_far (p := ⟨am, 1, none⟩) (Kd.V_far (p := ⟨am, 0, none⟩) (Kd.V_mono ac.out (fun k_ hk => (⟨hk, hk.1.1.1.1.2.2.2.2.2.2.2.2⟩ : _ ∧ k_ ≠ am))) (fun _ hk => hk.2) (.slice fy cM.length fz)) (fun _ hk => hk.2) (.slice gi cO.length gj)) (fun _ hk => ⟨hk.1.1.1.1.1.1, ⟨hk.1.1.1.1.1.2.1, ⟨hk.1.1.1.1.1.2.2.1, ⟨hk.1.1.1.1.2, ⟨hk.1.1.1.2, ⟨hk.1.1.2, ⟨hk.1.2, ⟨hk.1.1.1.1.1.2.2.2.1, ⟨hk.1.1.1.1.1.2.2.2.2.1, ⟨hk.1.1.1.1.1.2.2.2.2.2.1, ⟨hk.1.1.1.1.1.2.2.2.2.2.2.1, ⟨hk.1.1.1.1.1.2.2.2.2.2.2.2.1, hk.1.1.1.1.1.2.2.2.2.2.2.2.2⟩⟩⟩⟩⟩⟩⟩⟩⟩⟩⟩⟩)⟩, ⟨by (with_reducible repeat (first | apply Kd.V_alloc | apply Kd.V_drewN | apply Kd.V_drew)); exact Kd.V_mono (Kd.V_far (p := ⟨am, 1, none⟩) (Kd.V_far (p := ⟨am, 0, none⟩) (Kd.V_mono ad.out (fun k_ hk => (⟨hk, hk.1.1.1.1.2.2.2.2.2.2.2.2⟩ : _ ∧ k_ ≠ am))) (fun _ hk => hk.2) (.slice fy cM.length fz)) (fun _ hk => hk.2) (.slice gi cO.length gj)) (fun _ hk => ⟨hk.1.1.1.1.1.1, ⟨hk.1.1.1.1.1.2.1, ⟨hk.1.1.1.1.1.2.2.1, ⟨hk.1.1.1.1.2, ⟨hk.1.1.1.2, ⟨hk.1.1.2, ⟨hk.1.2, ⟨hk.1.1.1.1.1.2.2.2.1, ⟨hk.1.1.1.1.1.2.2.2.2.1, ⟨hk.1.1.1.1.1.2.2.2.2.2.1, ⟨hk.1.1.1.1.1.2.2.2.2.2.2.1, ⟨hk.1.1.1.1.1.2.2.2.2.2.2.2.1, hk.1.1.1.1.1.2.2.2.2.2.2.2.2⟩⟩⟩⟩⟩⟩⟩⟩⟩⟩⟩⟩)⟩, ⟨by (with_reducible repeat (first | apply Ra_ | apply Rn_ | apply Rd_)); exact Kd.R_mono (Kd.R_far (p := ⟨am, 1, none⟩) (Kd.R_far (p := ⟨am, 0, none⟩) (Kd.R_types aa.out ah.out (by decide)) (fun _ hk => hk.2) (.slice fy cM.length fz)) (fun _ hk => hk.2) (.slice gi cO.length gj)) (fun _ hk => ⟨hk.1.1.1, ⟨hk.1.1.2, hk.1.2⟩⟩)⟩, ⟨by (with_reducible repeat (first | apply Ra_ | apply Rn_ | apply Rd_)); exact Kd.R_mono (Kd.R_far (p := ⟨am, 1, none⟩) (Kd.R_far (p := ⟨am, 0, none⟩) (Kd.R_types ab.out ah.out (by decide)) (fun _ hk => hk.2) (.slice fy cM.length fz)) (fun _ hk => hk.2) (.slice gi cO.length gj)) (fun _ hk => ⟨hk.1.1.1, ⟨hk.1.1.2, hk.1.2⟩⟩)⟩, ⟨by (with_reducible repeat (first | apply Ra_ | apply Rn_ | apply Rd_)); exact Kd.R_mono (Kd.R_far (p := ⟨am, 1, none⟩) (Kd.R_far (p := ⟨am, 0, none⟩) (Kd.R_types cG.out ah.out (by decide)) (fun _ hk => hk.2) (.slice fy cM.length fz)) (fun _ hk => hk.2) (.slice gi cO.length gj)) (fun _ hk => ⟨hk.1.1.1.1, ⟨hk.1.1.2, hk.1.2⟩⟩)⟩, ⟨by (with_reducible repeat (first | apply Ra_ | apply Rn_ | apply Rd_)); exact Kd.R_mono (Kd.R_far (p := ⟨am, 1, none⟩) (Kd.R_far (p := ⟨am, 0, none⟩) (Kd.R_types cH.out ah.out (by decide)) (fun _ hk => hk.2) (.slice fy cM.length fz)) (fun _ hk => hk.2) (.slice gi cO.length gj)) (fun _ hk => ⟨hk.1.1.1.1, ⟨hk.1.1.2, hk.1.2⟩⟩)⟩, ⟨by (with_reducible repeat (first | apply Ra_ | apply Rn_ | apply Rd_)); exact Kd.R_mono (Kd.R_far (p := ⟨am, 1, none⟩) (Kd.R_far (p := ⟨am, 0, none⟩) (Kd.R_types gO.out ah.out (by decide)) (fun _ hk => hk.2) (.slice fy cM.length fz)) (fun _ hk => hk.2) (.slice gi cO.length gj)) (fun _ hk => ⟨hk.1.1.1.1, ⟨hk.1.1.2, hk.1.2⟩⟩)⟩, ⟨by (with_reducible repeat (first | apply Ra_ | apply Rn_ | apply Rd_)); exact Kd.R_mono (Kd.R_far (p := ⟨am, 1, none⟩) (Kd.R_far (p := ⟨am, 0, none⟩) (Kd.R_types gP.out ah.out (by decide)) (fun _ hk => hk.2) (.slice fy cM.length fz)) (fun _ hk => hk.2) (.slice gi cO.length gj)) (fun _ hk => ⟨hk.1.1.1.1, ⟨hk.1.1.2, hk.1.2⟩⟩)⟩, ⟨(fa_ (fa_ (h_ af) aZ.out) aZ.out)⟩, ⟨(fa_ (fa_ (h_ ak) aK.out) aK.out)⟩, ⟨(fa_ (fa_ (h_ ai) aI.out) aI.out)⟩, ⟨(fa_ (fa_ (h_ aj) ba.out) ba.out)⟩, ⟨(fa_ (fa_ (h_ ag) aW.out) aW.out)⟩, ⟨(pu_ (cs := #[.slice fy cM.length fz, .slice none 0 0]) (pu_ (cs := #[.slice none 0 0, .slice none 0 0]) (h_ ah)))⟩, ⟨b_ HB⟩⟩
   rw [if_pos c35] at H
   have lu : (fQ == 0) = true := beq_iff_eq.mpr c35
   have lv : (fQ != 0) = false := bne_eq_false_iff_eq.mpr c35
   clear c35
   have H' := mk0 H
   clear H
   have FQ := bw.out
   have FR := bn.out
   have FS := bx.out
   have FT := bo.out
   have FU := aU.out
   have FV := aX.out
   have FW := aH.out
   have FX := bE.out
   have FY := ba.out
   have FZ := bG.out
   obtain ⟨gk, gl, gm, gn⟩ := c2_ aj
   go_wp2_with (first | ((with_reducible refine gate_callee (f := 53) rfl ?_); refine gL_ (some 61) Try.func53 #[.agg #[.slice bc aG.length bb, .slice bj aN.length bi]] (h := ?_); (with_reducible refine (pend_Save.calls kj28 _ _ aG _ _ aN bJ bL ln lo _ ?side1 ?side2 ?side3 ?side4 A32.out).mono ?_); (case side1 => exact cr_ aa); (case side2 => exact (Kd.R_reads' aa.out).2.1); (case side3 => exact cr_ ab); (case side4 => exact (Kd.R_reads' ab.out).2.1); rintro e w42 ⟨v346, v349, rfl, ho0, ho1, hb⟩; refine ⟨_, rfl, ?_⟩; have n4_ := mk0 (Kd.R_lower (Kd.R_new' (Kd.R_newM (M := fun k_ => (w.heap.size ≤ k_)) ho0 (bz_ (b_ HB)) (fun k_ h_ => h_)) (Kd.R_lt (r_ aa))) (bz_ (b_ HB))); have n5_ := mk0 (Kd.R_lower (Kd.R_new' (Kd.R_newM (M := fun k_ => (w.heap.size ≤ k_)) ho1 (bz_ (b_ HB)) (fun k_ h_ => h_)) (Kd.R_lt (r_ ab))) (bz_ (b_ HB))); replace ac := mk0 (Kd.V_mono (Kd.V_told (Kd.V_told (Kd.V_old (v_ ac) hb) (Kd.R_base ho0)) (Kd.R_base ho1)) (fun _ h_ => h_.1)); replace ad := mk0 (Kd.V_mono (Kd.V_told (Kd.V_told (Kd.V_old (v_ ad) hb) (Kd.R_base ho0)) (Kd.R_base ho1)) (fun _ h_ => h_.1)); replace aa := mk0 (Kd.R_elder' (r_ aa) (Kd.R_base ho0) hb); replace ab := mk0 (Kd.R_elder' (r_ ab) (Kd.R_base ho1) hb); replace af := mk0 (u_ af hb); replace ak := mk0 (u_ ak hb); replace ai := mk0 (u_ ai hb); replace aj := mk0 (u_ aj hb); replace ag := mk0 (u_ ag hb); replace ah := mk0 (u_ ah hb); replace HB := mk0 (bt_ (b_ HB) hb); have cG := n4_; have cH := n5_; clear n4_ n5_; (try clear hb); (try clear ho0); (try clear ho1); obtain ⟨de, df, uH⟩ := Kd.R_slice cG.out; subst uH; have Ga := bp.out; have Gb := aC.out; have Gc := bf.out; have Gd := aA.out; have Ge := aY.out; have Gf := ay.out; have Gg := aW.out; have Gh := aJ.out; obtain ⟨gp, gq, gr, gs⟩ := c2_ ag; obtain ⟨dp, dq, uI⟩ := Kd.R_slice cH.out; subst uI; have Gi := bl.out; have Gj := bm.out; have Gk := ax.out; have Gl := be.out; have Gm := aZ.out; have Gn := bF.out; obtain ⟨gu, gv, gw, gx⟩ := c2_ af) | ((with_reducible refine gate_callee (f := 54) rfl ?_); refine gL_ (some 68) Try.func54 #[.agg #[.slice A0_0 aD.length c0_0, .slice A0_1 aM.length c0_1]] (h := ?_); (with_reducible refine (quorumref8_Save.calls kj28 _ _ aD _ _ aM cM cO fQ _ ?side1 ?side2 ?side3 ?side4 A34.out).mono ?_); (case side1 => refine (Kd.V_reads' (e := 36) (base := w.heap.size) (ok := fun k_ => ((((((P0_0_ k_ ∨ P0_1_ k_) ∨ w.heap.size ≤ k_)) ∧ (some k_ ≠ (.slice bc aG.length bb : Value).ownBlock ∧ (some k_ ≠ (.slice bj aN.length bi : Value).ownBlock ∧ (k_ ≠ bd ∧ (k_ ≠ bq ∧ (k_ ≠ ap ∧ (k_ ≠ aV ∧ (k_ ≠ ae ∧ k_ ≠ am)))))))) ∧ some k_ ≠ (.slice de bJ.length df : Value).ownBlock) ∧ some k_ ≠ (.slice dp bL.length dq : Value).ownBlock)) (n := aD.length) (c := c0_0) ?_).2.2; exact (v2_ (Kd.V_mono (Kd.V_far (p := ⟨ae, 1, none⟩) (Kd.V_far (p := ⟨ae, 0, none⟩) (Kd.V_mono ac.out (fun k_ hk => (⟨hk, hk.1.1.2.2.2.2.2.2.2.1⟩ : _ ∧ k_ ≠ ae))) (fun _ hk => hk.2) (.slice de bJ.length df)) (fun _ hk => hk.2) (.slice dp bL.length dq)) (fun _ h_ => h_.1)))); (case side2 => exact (Kd.V_reads' ac.out).2.1); (case side3 => refine (Kd.V_reads' (e := 3) (base := w.heap.size) (ok := fun k_ => ((((((P0_0_ k_ ∨ P0_1_ k_) ∨ w.heap.size ≤ k_)) ∧ (some k_ ≠ (.slice bc aG.length bb : Value).ownBlock ∧ (some k_ ≠ (.slice bj aN.length bi : Value).ownBlock ∧ (k_ ≠ bd ∧ (k_ ≠ bq ∧ (k_ ≠ ap ∧ (k_ ≠ aV ∧ (k_ ≠ ae ∧ k_ ≠ am)))))))) ∧ some k_ ≠ (.slice de bJ.length df : Value).ownBlock) ∧ some k_ ≠ (.slice dp bL.length dq : Value).ownBlock)) (n := aM.length) (c := c0_1) ?_).2.2; exact (v2_ (Kd.V_mono (Kd.V_far (p := ⟨ae, 1, none⟩) (Kd.V_far (p := ⟨ae, 0, none⟩) (Kd.V_mono ad.out (fun k_ hk => (⟨hk, hk.1.1.2.2.2.2.2.2.2.1⟩ : _ ∧ k_ ≠ ae))) (fun _ hk => hk.2) (.slice de bJ.length df)) (fun _ hk => hk.2) (.slice dp bL.length dq)) (fun _ h_ => h_.1)))); (case side4 => exact (Kd.V_reads' ad.out).2.1); rintro e w54 ⟨v354, v357, rfl, ho0, ho1, hb⟩; refine ⟨_, rfl, ?_⟩; have n2_ := mk0 (Kd.R_elder' (r2_ (Kd.R_mono (Kd.R_far (p := ⟨ae, 1, none⟩) (Kd.R_far (p := ⟨ae, 0, none⟩) (Kd.R_types aa.out ag.out (by decide)) (fun _ hk => hk.2) (.slice de bJ.length df)) (fun _ hk => hk.2) (.slice dp bL.length dq)) (fun _ h_ => h_.1))) (Kd.R_base ho0) hb); have n3_ := mk0 (Kd.R_elder' (r2_ (Kd.R_mono (Kd.R_far (p := ⟨ae, 1, none⟩) (Kd.R_far (p := ⟨ae, 0, none⟩) (Kd.R_types ab.out ag.out (by decide)) (fun _ hk => hk.2) (.slice de bJ.length df)) (fun _ hk => hk.2) (.slice dp bL.length dq)) (fun _ h_ => h_.1))) (Kd.R_base ho1) hb); have n4_ := mk0 (Kd.R_elder' (r2_ (Kd.R_mono (Kd.R_far (p := ⟨ae, 1, none⟩) (Kd.R_far (p := ⟨ae, 0, none⟩) (Kd.R_types cG.out ag.out (by decide)) (fun _ hk => hk.2) (.slice de bJ.length df)) (fun _ hk => hk.2) (.slice dp bL.length dq)) (fun _ h_ => h_.1))) (Kd.R_base ho0) hb); have n5_ := mk0 (Kd.R_elder' (r2_ (Kd.R_mono (Kd.R_far (p := ⟨ae, 1, none⟩) (Kd.R_far (p := ⟨ae, 0, none⟩) (Kd.R_types cH.out ag.out (by decide)) (fun _ hk => hk.2) (.slice de bJ.length df)) (fun _ hk => hk.2) (.slice dp bL.length dq)) (fun _ h_ => h_.1))) (Kd.R_base ho1) hb); have n6_ := mk0 (Kd.R_lower (Kd.R_new' (Kd.R_new' (Kd.R_newM (M := fun k_ => (w.heap.size ≤ k_)) ho0 (bz_ (b_ HB)) (fun k_ h_ => h_)) (Kd.R_lt (r2_ (Kd.R_mono (Kd.R_far (p := ⟨ae, 1, none⟩) (Kd.R_far (p := ⟨ae, 0, none⟩) (Kd.R_types aa.out ag.out (by decide)) (fun _ hk => hk.2) (.slice de bJ.length df)) (fun _ hk => hk.2) (.slice dp bL.length dq)) (fun _ h_ => h_.1))))) (Kd.R_lt (r2_ (Kd.R_mono (Kd.R_far (p := ⟨ae, 1, none⟩) (Kd.R_far (p := ⟨ae, 0, none⟩) (Kd.R_types cG.out ag.out (by decide)) (fun _ hk => hk.2) (.slice de bJ.length df)) (fun _ hk => hk.2) (.slice dp bL.length dq)) (fun _ h_ => h_.1))))) (bz_ (b_ HB))); have n7_ := mk0 (Kd.R_lower (Kd.R_new' (Kd.R_new' (Kd.R_newM (M := fun k_ => (w.heap.size ≤ k_)) ho1 (bz_ (b_ HB)) (fun k_ h_ => h_)) (Kd.R_lt (r2_ (Kd.R_mono (Kd.R_far (p := ⟨ae, 1, none⟩) (Kd.R_far (p := ⟨ae, 0, none⟩) (Kd.R_types ab.out ag.out (by decide)) (fun _ hk => hk.2) (.slice de bJ.length df)) (fun _ hk => hk.2) (.slice dp bL.length dq)) (fun _ h_ => h_.1))))) (Kd.R_lt (r2_ (Kd.R_mono (Kd.R_far (p := ⟨ae, 1, none⟩) (Kd.R_far (p := ⟨ae, 0, none⟩) (Kd.R_types cH.out ag.out (by decide)) (fun _ hk => hk.2) (.slice de bJ.length df)) (fun _ hk => hk.2) (.slice dp bL.length dq)) (fun _ h_ => h_.1))))) (bz_ (b_ HB))); replace ac := mk0 (Kd.V_mono (Kd.V_told (Kd.V_told (Kd.V_old (v2_ (Kd.V_mono (Kd.V_far (p := ⟨ae, 1, none⟩) (Kd.V_far (p := ⟨ae, 0, none⟩) (Kd.V_mono ac.out (fun k_ hk => (⟨hk, hk.1.1.2.2.2.2.2.2.2.1⟩ : _ ∧ k_ ≠ ae))) (fun _ hk => hk.2) (.slice de bJ.length df)) (fun _ hk => hk.2) (.slice dp bL.length dq)) (fun _ h_ => h_.1))) hb) (Kd.R_base ho0)) (Kd.R_base ho1)) (fun _ h_ => h_.1)); replace ad := mk0 (Kd.V_mono (Kd.V_told (Kd.V_told (Kd.V_old (v2_ (Kd.V_mono (Kd.V_far (p := ⟨ae, 1, none⟩) (Kd.V_far (p := ⟨ae, 0, none⟩) (Kd.V_mono ad.out (fun k_ hk => (⟨hk, hk.1.1.2.2.2.2.2.2.2.1⟩ : _ ∧ k_ ≠ ae))) (fun _ hk => hk.2) (.slice de bJ.length df)) (fun _ hk => hk.2) (.slice dp bL.length dq)) (fun _ h_ => h_.1))) hb) (Kd.R_base ho0)) (Kd.R_base ho1)) (fun _ h_ => h_.1)); replace af := mk0 (blk_below (g := bd) (o := .cells #[.slice A0_0 aD.length c0_0, .slice A0_1 aM.length c0_1] 34 (0, 0)) (fa_ (fa_ (h_ af) aC.out) aC.out) hb); replace ak := mk0 (blk_below (g := bq) (o := .cells #[.int .i64 a1_0, .int .i64 a1_1, .int .i64 a1_2, .string a1_3, .string a1_4, .bool a1_5] 62 (0, 0)) (fa_ (fa_ (h_ ak) aA.out) aA.out) hb); replace ai := mk0 (blk_below (g := ap) (o := .cells #[.slice none 0 0, .slice none 0 0] 34 (0, 0)) (fa_ (fa_ (h_ ai) ay.out) ay.out) hb); replace aj := mk0 (blk_below (g := aV) (o := .cells #[.slice bc aG.length bb, .slice bj aN.length bi] 34 (0, 0)) (fa_ (fa_ (h_ aj) aH.out) aH.out) hb); replace ag := mk0 (blk_below (g := ae) (o := .cells #[.slice de bJ.length df, .slice dp bL.length dq] 34 (0, 0)) (pu_ (cs := #[.slice de bJ.length df, .slice none 0 0]) (pu_ (cs := #[.slice none 0 0, .slice none 0 0]) (h_ ag))) hb); replace ah := mk0 (blk_below (g := am) (o := .cells #[.slice none 0 0, .slice none 0 0] 34 (0, 0)) (fa_ (fa_ (h_ ah) aJ.out) aJ.out) hb); replace HB := mk0 (bt_ (b_ HB) hb); clear aa ab cG cH; have aa := n2_; have ab := n3_; have cG := n4_; have cH := n5_; have gO := n6_; have gP := n7_; clear n2_ n3_ n4_ n5_ n6_ n7_; (try clear hb); (try clear ho0); (try clear ho1); obtain ⟨fA, fB, uJ⟩ := Kd.R_slice gO.out; subst uJ; have Go := bk.out; have Gp := aK.out; have Gq := bg.out; have Gr := aI.out; obtain ⟨gy, gz, gA, gB⟩ := c2_ ah; obtain ⟨gC, gD, uK⟩ := Kd.R_slice gP.out; subst uK; obtain ⟨gE, gF, gG, gH⟩ := c2_ af))
   go_meet
   case rel => exact ⟨_, (fQ), (ln), ((aM.length : Int)), (lo), (bJ), (bL), (cM), (cO), (.slice de bJ.length df), (.slice dp bL.length dq), (.slice fA cM.length fB), (.slice gC cO.length gD), (by first | rfl | (simp; done) | (simp [*]; done)), (by first | rfl | (simp; done) | (simp [*]; done)), (by first | rfl | (simp; done) | (simp [*]; done)), (by first | rfl | (simp; done) | (simp [*]; done)), H', ⟨by have := cT.out; first | omega | exact Nat.le_refl _⟩, ⟨by (with_reducible repeat (first | apply Kd.V_alloc | apply Kd.V_drewN | apply Kd.V_drew)); exact Kd.V_mono (Kd.V_far (p := ⟨am, 1, none⟩) (Kd.V_far (p := ⟨am, 0, none⟩) (Kd.V_mono ac.out (fun k_ hk => (⟨hk, hk.1.1.1.1.2.2.2.2.2.2.2.2⟩ : _ ∧ k_ ≠ am))) (fun _ hk => hk.2) (.slice fA cM.length fB)) (fun _ hk => hk.2) (.slice gC cO.length gD)) (fun _ hk => ⟨hk.1.1.1.1.1.1, ⟨hk.1.1.1.1.1.2.1, ⟨hk.1.1.1.1.1.2.2.1, ⟨hk.1.1.1.1.2, ⟨hk.1.1.1.2, ⟨hk.1.1.2, ⟨hk.1.2, ⟨hk.1.1.1.1.1.2.2.2.1, ⟨hk.1.1.1.1.1.2.2.2.2.1, ⟨hk.1.1.1.1.1.2.2.2.2.2.1, ⟨hk.1.1.1.1.1.2.2.2.2.2.2.1, ⟨hk.1.1.1.1.1.2.2.2.2.2.2.2.1, hk.1.1.1.1.1.2.2.2.2.2.2.2.2⟩⟩⟩⟩⟩⟩⟩⟩⟩⟩⟩⟩)⟩, ⟨by (with_reducible repeat (first | apply Kd.V_alloc | apply Kd.V_drewN | apply Kd.V_drew)); exact Kd.V_mono (Kd.V_far (p := ⟨am, 1, none⟩) (Kd.V_far (p := ⟨am, 0, none⟩) (Kd.V_mono ad.out (fun k_ hk => (⟨hk, hk.1.1.1.1.2.2.2.2.2.2.2.2⟩ : _ ∧ k_ ≠ am))) (fun _ hk => hk.2) (.slice fA cM.length fB)) (fun _ hk => hk.2) (.slice gC cO.length gD)) (fun _ hk => ⟨hk.1.1.1.1.1.1, ⟨hk.1.1.1.1.1.2.1, ⟨hk.1.1.1.1.1.2.2.1, ⟨hk.1.1.1.1.2, ⟨hk.1.1.1.2, ⟨hk.1.1.2, ⟨hk.1.2, ⟨hk.1.1.1.1.1.2.2.2.1, ⟨hk.1.1.1.1.1.2.2.2.2.1, ⟨hk.1.1.1.1.1.2.2.2.2.2.1, ⟨hk.1.1.1.1.1.2.2.2.2.2.2.1, ⟨hk.1.1.1.1.1.2.2.2.2.2.2.2.1, hk.1.1.1.1.1.2.2.2.2.2.2.2.2⟩⟩⟩⟩⟩⟩⟩⟩⟩⟩⟩⟩)⟩, ⟨by (with_reducible repeat (first | apply Ra_ | apply Rn_ | apply Rd_)); exact Kd.R_mono (Kd.R_far (p := ⟨am, 1, none⟩) (Kd.R_far (p := ⟨am, 0, none⟩) (Kd.R_types aa.out ah.out (by decide)) (fun _ hk => hk.2) (.slice fA cM.length fB)) (fun _ hk => hk.2) (.slice gC cO.length gD)) (fun _ hk => ⟨hk.1.1.1, ⟨hk.1.1.2, hk.1.2⟩⟩)⟩, ⟨by (with_reducible repeat (first | apply Ra_ | apply Rn_ | apply Rd_)); exact Kd.R_mono (Kd.R_far (p := ⟨am, 1, none⟩) (Kd.R_far (p := ⟨am, 0, none⟩) (Kd.R_types ab.out ah.out (by decide)) (fun _ hk => hk.2) (.slice fA cM.length fB)) (fun _ hk => hk.2) (.slice gC cO.length gD)) (fun _ hk => ⟨hk.1.1.1, ⟨hk.1.1.2, hk.1.2⟩⟩)⟩, ⟨by (with_reducible repeat (first | apply Ra_ | apply Rn_ | apply Rd_)); exact Kd.R_mono (Kd.R_far (p := ⟨am, 1, none⟩) (Kd.R_far (p := ⟨am, 0, none⟩) (Kd.R_types cG.out ah.out (by decide)) (fun _ hk => hk.2) (.slice fA cM.length fB)) (fun _ hk => hk.2) (.slice gC cO.length gD)) (fun _ hk => ⟨hk.1.1.1.1, ⟨hk.1.1.2, hk.1.2⟩⟩)⟩, ⟨by (with_reducible repeat (first | apply Ra_ | apply Rn_ | apply Rd_)); exact Kd.R_mono (Kd.R_far (p := ⟨am, 1, none⟩) (Kd.R_far (p := ⟨am, 0, none⟩) (Kd.R_types cH.out ah.out (by decide)) (fun _ hk => hk.2) (.slice fA cM.length fB)) (fun _ hk => hk.2) (.slice gC cO.length gD)) (fun _ hk => ⟨hk.1.1.1.1, ⟨hk.1.1.2, hk.1.2⟩⟩)⟩, ⟨by (with_reducible repeat (first | apply Ra_ | apply Rn_ | apply Rd_)); exact Kd.R_mono (Kd.R_far (p := ⟨am, 1, none⟩) (Kd.R_far (p := ⟨am, 0, none⟩) (Kd.R_types gO.out ah.out (by decide)) (fun _ hk => hk.2) (.slice fA cM.length fB)) (fun _ hk => hk.2) (.slice gC cO.length gD)) (fun _ hk => ⟨hk.1.1.1.1, ⟨hk.1.1.2, hk.1.2⟩⟩)⟩, ⟨by (with_reducible repeat (first | apply Ra_ | apply Rn_ | apply Rd_)); exact Kd.R_mono (Kd.R_far (p := ⟨am, 1, none⟩) (Kd.R_far (p := ⟨am, 0, none⟩) (Kd.R_types gP.out ah.out (by decide)) (fun _ hk => hk.2) (.slice fA cM.length fB)) (fun _ hk => hk.2) (.slice gC cO.length gD)) (fun _ hk => ⟨hk.1.1.1.1, ⟨hk.1.1.2, hk.1.2⟩⟩)⟩, ⟨(fa_ (fa_ (h_ af) aZ.out) aZ.out)⟩, ⟨(fa_ (fa_ (h_ ak) aK.out) aK.out)⟩, ⟨(fa_ (fa_ (h_ ai) aI.out) aI.out)⟩, ⟨(fa_ (fa_ (h_ aj) ba.out) ba.out)⟩, ⟨(fa_ (fa_ (h_ ag) aW.out) aW.out)⟩, ⟨(pu_ (cs := #[.slice fA cM.length fB, .slice none 0 0]) (pu_ (cs := #[.slice none 0 0, .slice none 0 0]) (h_ ah)))⟩, ⟨b_ HB⟩⟩
  replace c31 := Bool.eq_false_iff.mpr c31
  subst c31
  rw [if_neg (show ¬ (false = true) by decide)] at H
  have HC99 := mk0 H
  clear H
  go_upto_if 76 with (fail)
  go_cut [76] (fun v76 wc => ∃ (kq : Nat) (gI : Bool), v76 = .bool gI ∧ Fc (quorumlaw10_step.j1 kq dw 1 0 0 ch gI aD aM a1_0 a1_1 a1_2 a1_3 a1_4 a1_5 aG aN = some (r1, r2, r3)) ∧ Fc (kq ≤ kj28) ∧ Fc (Kd.V k36 36 wc w.heap.size (fun k_ => ((P0_0_ k_ ∨ P0_1_ k_) ∨ w.heap.size ≤ k_) ∧ some k_ ≠ ((.slice bc aG.length bb) : Value).ownBlock ∧ some k_ ≠ ((.slice bj aN.length bi) : Value).ownBlock ∧ k_ ≠ bd ∧ k_ ≠ bq ∧ k_ ≠ ap ∧ k_ ≠ aV ∧ k_ ≠ ae ∧ k_ ≠ am) (.slice A0_0 aD.length c0_0) aD) ∧ Fc (Kd.V (Kd.int .i64) 3 wc w.heap.size (fun k_ => ((P0_0_ k_ ∨ P0_1_ k_) ∨ w.heap.size ≤ k_) ∧ some k_ ≠ ((.slice bc aG.length bb) : Value).ownBlock ∧ some k_ ≠ ((.slice bj aN.length bi) : Value).ownBlock ∧ k_ ≠ bd ∧ k_ ≠ bq ∧ k_ ≠ ap ∧ k_ ≠ aV ∧ k_ ≠ ae ∧ k_ ≠ am) (.slice A0_1 aM.length c0_1) aM) ∧ Fc (Kd.R k36 36 wc w.heap.size (fun k_ => (w.heap.size ≤ k_)) (.slice bc aG.length bb) aG) ∧ Fc (Kd.R (Kd.int .i64) 3 wc w.heap.size (fun k_ => (w.heap.size ≤ k_)) (.slice bj aN.length bi) aN) ∧ Fc (wc.heap[bd]? = some (.cells #[(.slice A0_0 aD.length c0_0), (.slice A0_1 aM.length c0_1)] 34 (0, 0))) ∧ Fc (wc.heap[bq]? = some (.cells #[.int .i64 a1_0, .int .i64 a1_1, .int .i64 a1_2, .string a1_3, .string a1_4, .bool a1_5] 62 (0, 0))) ∧ Fc (wc.heap[ap]? = some (.cells #[(.slice none 0 0), (.slice none 0 0)] 34 (0, 0))) ∧ Fc (wc.heap[aV]? = some (.cells #[(.slice bc aG.length bb), (.slice bj aN.length bi)] 34 (0, 0))) ∧ Fc (wc.heap[ae]? = some (.cells #[(.slice none 0 0), (.slice none 0 0)] 34 (0, 0))) ∧ Fc (wc.heap[am]? = some (.cells #[(.slice none 0 0), (.slice none 0 0)] 34 (0, 0))) ∧ Fc (Below w.heap.size w wc))
  case first =>
   have H := HC99.out
   clear HC99
   by_cases c100 : ch = 6
   rotate_left
   ·rw [if_neg c100] at H
    have dx : (ch == 6) = false := beq_eq_false_iff_ne.mpr c100
    have lg : (ch != 6) = true := bne_iff_ne.mpr c100
    (first | rw [dx] | (simp only [i64_w, i32_w]; rw [dx]) | skip)
    have H' := mk0 H
    clear H
    go_wp2
    go_meet
    case rel => exact ⟨_, ((ch == 7)), (by first | rfl | (simp; done) | (simp [*]; done)), H', ⟨by have := cT.out; first | omega | exact Nat.le_refl _⟩, ⟨by (with_reducible repeat (first | apply Kd.V_alloc | apply Kd.V_drewN | apply Kd.V_drew)); exact ac.out⟩, ⟨by (with_reducible repeat (first | apply Kd.V_alloc | apply Kd.V_drewN | apply Kd.V_drew)); exact ad.out⟩, ⟨by (with_reducible repeat (first | apply Ra_ | apply Rn_ | apply Rd_)); exact aa.out⟩, ⟨by (with_reducible repeat (first | apply Ra_ | apply Rn_ | apply Rd_)); exact ab.out⟩, ⟨h_ af⟩, ⟨h_ ak⟩, ⟨h_ ai⟩, ⟨h_ aj⟩, ⟨h_ ag⟩, ⟨h_ ah⟩, ⟨b_ HB⟩⟩
   rw [if_pos c100] at H
   have dx : (ch == 6) = true := beq_iff_eq.mpr c100
   have lg : (ch != 6) = false := bne_eq_false_iff_eq.mpr c100
   clear c100
   (first | rw [dx] | (simp only [i64_w, i32_w]; rw [dx]) | skip)
   have H' := mk0 H
   clear H
   go_wp2
   go_meet
   case rel => exact ⟨_, ((ch == 6)), (by first | rfl | (simp; done) | (simp [*]; done)), H', ⟨by have := cT.out; first | omega | exact Nat.le_refl _⟩, ⟨by (with_reducible repeat (first | apply Kd.V_alloc | apply Kd.V_drewN | apply Kd.V_drew)); exact ac.out⟩, ⟨by (with_reducible repeat (first | apply Kd.V_alloc | apply Kd.V_drewN | apply Kd.V_drew)); exact ad.out⟩, ⟨by (with_reducible repeat (first | apply Ra_ | apply Rn_ | apply Rd_)); exact aa.out⟩, ⟨by (with_reducible repeat (first | apply Ra_ | apply Rn_ | apply Rd_)); exact ab.out⟩, ⟨h_ af⟩, ⟨h_ ak⟩, ⟨h_ ai⟩, ⟨h_ aj⟩, ⟨h_ ag⟩, ⟨h_ ah⟩, ⟨b_ HB⟩⟩
  clear HC99
  try clear c30
  try clear eb
  try clear lk
  try clear c31
  try clear c33
  try clear c35
  try clear lu
  try clear lv
  try clear c100
  try clear dx
  try clear lg
  try clear ej ek el em
  try clear en eo ep er
  try clear es et eu ev
  try clear ew ex ey ez eA eB eC eD eE eF eG eH
  try clear gk gl gm gn
  try clear gp gq gr gs
  try clear gu gv gw gx
  try clear gy gz gA gB
  try clear gE gF gG gH
  try clear fR fS fT fU
  try clear fV fW fX fY
  try clear fZ ga gb gc
  try clear gd gf gg gh
  try clear fI fJ fK fL
  try clear fM fN fO fP
  obtain ⟨kq, gI, rfl, HA, dy, ac, ad, aa, ab, af, ak, ai, aj, ag, ah, HB⟩ := hcut
  cases kq with
  | zero => exact absurd HA.out (by simp [quorumlaw10_step.j1])
  | succ kj98 =>
  have H := HA.out
  clear HA
  simp only [quorumlaw10_step.j1] at H
  as_aux_lemma =>
  by_cases c101 : gI = true
  ·subst c101
   rw [if_pos rfl] at H
   replace H := Option.bind_eq_some_iff.mp H
   obtain ⟨⟨cr, cx, nR⟩, A1020, H⟩ := H
   try dsimp only at H
   have A102 := mk0 A1020
   clear A1020
   by_cases c103 : dw = true
   rotate_left
   ·replace c103 := Bool.eq_false_iff.mpr c103
    subst c103
    rw [if_neg (show ¬ (false = true) by decide)] at H
    have H' := mk0 H
    clear H
    have uL := bw.out
    have uM := bn.out
    have uN := bx.out
    have uO := bo.out
    have uP := aU.out
    have uQ := aX.out
    have uR := aH.out
    have uS := bE.out
    have uT := ba.out
    have uU := bG.out
    obtain ⟨gQ, gR, gS, gT⟩ := c2_ aj
    have uV := bm.out
    have uW := bl.out
    have uX := aR.out
    have uY := aT.out
    have uZ := aA.out
    have va := bf.out
    have vb := aK.out
    have vc := bk.out
    obtain ⟨gU, gV, gW, gX, gY, gZ, ha, hc, hd, he, hf, hh⟩ := c6_ ak
    go_wp2_with (first | ((with_reducible refine gate_callee (f := 55) rfl ?_); refine gL_ (some 83) Try.func55 #[.agg #[.slice bc aG.length bb, .slice bj aN.length bi], .int .i64 a1_1] (h := ?_); (with_reducible refine (pend_Return.calls kj98 _ _ aG _ _ aN a1_1 cr cx nR _ ?side1 ?side2 ?side3 ?side4 A102.out).mono ?_); (case side1 => exact cr_ aa); (case side2 => exact (Kd.R_reads' aa.out).2.1); (case side3 => exact cr_ ab); (case side4 => exact (Kd.R_reads' ab.out).2.1); rintro e w143 ⟨v361, v364, rfl, ho0, ho1, hb⟩; refine ⟨_, rfl, ?_⟩; have n4_ := mk0 (Kd.R_lower (Kd.R_new' (Kd.R_newM (M := fun k_ => (w.heap.size ≤ k_)) ho0 (bz_ (b_ HB)) (fun k_ h_ => h_)) (Kd.R_lt (r_ aa))) (bz_ (b_ HB))); have n5_ := mk0 (Kd.R_lower (Kd.R_new' (Kd.R_newM (M := fun k_ => (w.heap.size ≤ k_)) ho1 (bz_ (b_ HB)) (fun k_ h_ => h_)) (Kd.R_lt (r_ ab))) (bz_ (b_ HB))); replace ac := mk0 (Kd.V_mono (Kd.V_told (Kd.V_told (Kd.V_old (v_ ac) hb) (Kd.R_base ho0)) (Kd.R_base ho1)) (fun _ h_ => h_.1)); replace ad := mk0 (Kd.V_mono (Kd.V_told (Kd.V_told (Kd.V_old (v_ ad) hb) (Kd.R_base ho0)) (Kd.R_base ho1)) (fun _ h_ => h_.1)); replace aa := mk0 (Kd.R_elder' (r_ aa) (Kd.R_base ho0) hb); replace ab := mk0 (Kd.R_elder' (r_ ab) (Kd.R_base ho1) hb); replace af := mk0 (u_ af hb); replace ak := mk0 (u_ ak hb); replace ai := mk0 (u_ ai hb); replace aj := mk0 (u_ aj hb); replace ag := mk0 (u_ ag hb); replace ah := mk0 (u_ ah hb); replace HB := mk0 (bt_ (b_ HB) hb); have dA := n4_; have dB := n5_; clear n4_ n5_; (try clear hb); (try clear ho0); (try clear ho1); obtain ⟨ec, ed, oB⟩ := Kd.R_slice dA.out; subst oB; have vd := bp.out; have ve := aC.out; have vf := aY.out; have vg := ay.out; have vh := aW.out; have vi := aJ.out; obtain ⟨hj, hl, hm, hn⟩ := c2_ ag; obtain ⟨eJ, eK, oC⟩ := Kd.R_slice dB.out; subst oC))
    go_meet
    case rel => exact ⟨_, (1), (0), (0), (nR), (cr), (cx), (([] : List (S36))), (([] : List Int)), (.slice ec cr.length ed), (.slice eJ cx.length eK), (.slice none 0 0), (.slice none 0 0), (by first | rfl | (simp; done) | (simp [*]; done)), (by first | rfl | (simp; done) | (simp [*]; done)), (by first | rfl | (simp; done) | (simp [*]; done)), (by first | rfl | (simp; done) | (simp [*]; done)), H', ⟨by have := cT.out; have := dy.out; first | omega | exact Nat.le_refl _⟩, ⟨by (with_reducible repeat (first | apply Kd.V_alloc | apply Kd.V_drewN | apply Kd.V_drew)); exact Kd.V_mono (Kd.V_far (p := ⟨ae, 1, none⟩) (Kd.V_far (p := ⟨ae, 0, none⟩) (Kd.V_mono ac.out (fun k_ hk => (⟨hk, hk.1.1.2.2.2.2.2.2.2.1⟩ : _ ∧ k_ ≠ ae))) (fun _ hk => hk.2) (.slice ec cr.length ed)) (fun _ hk => hk.2) (.slice eJ cx.length eK)) (fun _ hk => ⟨hk.1.1.1.1, ⟨hk.1.1.1.2.1, ⟨hk.1.1.1.2.2.1, ⟨hk.1.1.2, ⟨hk.1.2, ⟨(by simp [Value.ownBlock]), ⟨(by simp [Value.ownBlock]), ⟨hk.1.1.1.2.2.2.1, ⟨hk.1.1.1.2.2.2.2.1, ⟨hk.1.1.1.2.2.2.2.2.1, ⟨hk.1.1.1.2.2.2.2.2.2.1, ⟨hk.1.1.1.2.2.2.2.2.2.2.1, hk.1.1.1.2.2.2.2.2.2.2.2⟩⟩⟩⟩⟩⟩⟩⟩⟩⟩⟩⟩)⟩, ⟨by (with_reducible repeat (first | apply Kd.V_alloc | apply Kd.V_drewN | apply Kd.V_drew)); exact Kd.V_mono (Kd.V_far (p := ⟨ae, 1, none⟩) (Kd.V_far (p := ⟨ae, 0, none⟩) (Kd.V_mono ad.out (fun k_ hk => (⟨hk, hk.1.1.2.2.2.2.2.2.2.1⟩ : _ ∧ k_ ≠ ae))) (fun _ hk => hk.2) (.slice ec cr.length ed)) (fun _ hk => hk.2) (.slice eJ cx.length eK)) (fun _ hk => ⟨hk.1.1.1.1, ⟨hk.1.1.1.2.1, ⟨hk.1.1.1.2.2.1, ⟨hk.1.1.2, ⟨hk.1.2, ⟨(by simp [Value.ownBlock]), ⟨(by simp [Value.ownBlock]), ⟨hk.1.1.1.2.2.2.1, ⟨hk.1.1.1.2.2.2.2.1, ⟨hk.1.1.1.2.2.2.2.2.1, ⟨hk.1.1.1.2.2.2.2.2.2.1, ⟨hk.1.1.1.2.2.2.2.2.2.2.1, hk.1.1.1.2.2.2.2.2.2.2.2⟩⟩⟩⟩⟩⟩⟩⟩⟩⟩⟩⟩)⟩, ⟨by (with_reducible repeat (first | apply Ra_ | apply Rn_ | apply Rd_)); exact Kd.R_mono (Kd.R_far (p := ⟨ae, 1, none⟩) (Kd.R_far (p := ⟨ae, 0, none⟩) (Kd.R_types aa.out ag.out (by decide)) (fun _ hk => hk.2) (.slice ec cr.length ed)) (fun _ hk => hk.2) (.slice eJ cx.length eK)) (fun _ hk => ⟨hk.1.1, ⟨hk.1.2, (by simp [Value.ownBlock])⟩⟩)⟩, ⟨by (with_reducible repeat (first | apply Ra_ | apply Rn_ | apply Rd_)); exact Kd.R_mono (Kd.R_far (p := ⟨ae, 1, none⟩) (Kd.R_far (p := ⟨ae, 0, none⟩) (Kd.R_types ab.out ag.out (by decide)) (fun _ hk => hk.2) (.slice ec cr.length ed)) (fun _ hk => hk.2) (.slice eJ cx.length eK)) (fun _ hk => ⟨hk.1.1, ⟨hk.1.2, (by simp [Value.ownBlock])⟩⟩)⟩, ⟨by (with_reducible repeat (first | apply Ra_ | apply Rn_ | apply Rd_)); exact Kd.R_mono (Kd.R_far (p := ⟨ae, 1, none⟩) (Kd.R_far (p := ⟨ae, 0, none⟩) (Kd.R_types dA.out ag.out (by decide)) (fun _ hk => hk.2) (.slice ec cr.length ed)) (fun _ hk => hk.2) (.slice eJ cx.length eK)) (fun _ hk => ⟨hk.1.1.1, ⟨hk.1.2, (by simp [Value.ownBlock])⟩⟩)⟩, ⟨by (with_reducible repeat (first | apply Ra_ | apply Rn_ | apply Rd_)); exact Kd.R_mono (Kd.R_far (p := ⟨ae, 1, none⟩) (Kd.R_far (p := ⟨ae, 0, none⟩) (Kd.R_types dB.out ag.out (by decide)) (fun _ hk => hk.2) (.slice ec cr.length ed)) (fun _ hk => hk.2) (.slice eJ cx.length eK)) (fun _ hk => ⟨hk.1.1.1, ⟨hk.1.2, (by simp [Value.ownBlock])⟩⟩)⟩, ⟨by first | exact Kd.R_nil _ _ _ _ _ | exact Kd.N_nil _ _ _ _ _ | exact Kd.V_nil _ _ _ _ _ | exact Kd.Q_nil _ _ _ _ _ | exact Kd.S_nil _ _ _ _ _⟩, ⟨by first | exact Kd.R_nil _ _ _ _ _ | exact Kd.N_nil _ _ _ _ _ | exact Kd.V_nil _ _ _ _ _ | exact Kd.Q_nil _ _ _ _ _ | exact Kd.S_nil _ _ _ _ _⟩, ⟨(fa_ (fa_ (h_ af) aC.out) aC.out)⟩, ⟨(fa_ (fa_ (h_ ak) aA.out) aA.out)⟩, ⟨(fa_ (fa_ (h_ ai) ay.out) ay.out)⟩, ⟨(fa_ (fa_ (h_ aj) aH.out) aH.out)⟩, ⟨(pu_ (cs := #[.slice ec cr.length ed, .slice none 0 0]) (pu_ (cs := #[.slice none 0 0, .slice none 0 0]) (h_ ag)))⟩, ⟨(fa_ (fa_ (h_ ah) aJ.out) aJ.out)⟩, ⟨b_ HB⟩⟩
   subst c103
   rw [if_pos rfl] at H
   replace H := Option.bind_eq_some_iff.mp H
   obtain ⟨⟨eh, eL, oD⟩, A1040, H⟩ := H
   try dsimp only at H
   have A104 := mk0 A1040
   clear A1040
   have H' := mk0 H
   clear H
   have vj := bw.out
   have vk := bn.out
   have vl := bx.out
   have vm := bo.out
   have vn := aU.out
   have vo := aX.out
   have vp := aH.out
   have vq := bE.out
   have vr := ba.out
   have vs := bG.out
   obtain ⟨hp, hq, hr, hs⟩ := c2_ aj
   have vt := bm.out
   have vu := bl.out
   have vv := aR.out
   have vw := aT.out
   have vx := aA.out
   have vy := bf.out
   have vz := aK.out
   have vA := bk.out
   obtain ⟨ht, hu, hv, hw, hx, hy, hz, hA, hB, hC, hD, hE⟩ := c6_ ak
   go_wp2_with (first | ((with_reducible refine gate_callee (f := 55) rfl ?_); refine gL_ (some 83) Try.func55 #[.agg #[.slice bc aG.length bb, .slice bj aN.length bi], .int .i64 a1_1] (h := ?_); (with_reducible refine (pend_Return.calls kj98 _ _ aG _ _ aN a1_1 cr cx nR _ ?side1 ?side2 ?side3 ?side4 A102.out).mono ?_); (case side1 => exact cr_ aa); (case side2 => exact (Kd.R_reads' aa.out).2.1); (case side3 => exact cr_ ab); (case side4 => exact (Kd.R_reads' ab.out).2.1); rintro e w116 ⟨v361, v364, rfl, ho0, ho1, hb⟩; refine ⟨_, rfl, ?_⟩; have n4_ := mk0 (Kd.R_lower (Kd.R_new' (Kd.R_newM (M := fun k_ => (w.heap.size ≤ k_)) ho0 (bz_ (b_ HB)) (fun k_ h_ => h_)) (Kd.R_lt (r_ aa))) (bz_ (b_ HB))); have n5_ := mk0 (Kd.R_lower (Kd.R_new' (Kd.R_newM (M := fun k_ => (w.heap.size ≤ k_)) ho1 (bz_ (b_ HB)) (fun k_ h_ => h_)) (Kd.R_lt (r_ ab))) (bz_ (b_ HB))); replace ac := mk0 (Kd.V_mono (Kd.V_told (Kd.V_told (Kd.V_old (v_ ac) hb) (Kd.R_base ho0)) (Kd.R_base ho1)) (fun _ h_ => h_.1)); replace ad := mk0 (Kd.V_mono (Kd.V_told (Kd.V_told (Kd.V_old (v_ ad) hb) (Kd.R_base ho0)) (Kd.R_base ho1)) (fun _ h_ => h_.1)); replace aa := mk0 (Kd.R_elder' (r_ aa) (Kd.R_base ho0) hb); replace ab := mk0 (Kd.R_elder' (r_ ab) (Kd.R_base ho1) hb); replace af := mk0 (u_ af hb); replace ak := mk0 (u_ ak hb); replace ai := mk0 (u_ ai hb); replace aj := mk0 (u_ aj hb); replace ag := mk0 (u_ ag hb); replace ah := mk0 (u_ ah hb); replace HB := mk0 (bt_ (b_ HB) hb); have dA := n4_; have dB := n5_; clear n4_ n5_; (try clear hb); (try clear ho0); (try clear ho1); obtain ⟨cA, cB, oE⟩ := Kd.R_slice dA.out; subst oE; have vB := bp.out; have vC := aC.out; have vD := aY.out; have vE := ay.out; have vF := aW.out; have vG := aJ.out; obtain ⟨hF, hG, hH, hI⟩ := c2_ ag; obtain ⟨cI, cJ, oF⟩ := Kd.R_slice dB.out; subst oF; have vH := ax.out; have vI := be.out; have vJ := aZ.out; have vK := bF.out; obtain ⟨hJ, hL, hM, hN⟩ := c2_ af; obtain ⟨hO, hP, hQ, hR, hS, hT, hU, hV, hW, hX, hY, hZ⟩ := c6_ ak) | ((with_reducible refine gate_callee (f := 56) rfl ?_); refine gL_ (some 91) Try.func56 #[.agg #[.slice A0_0 aD.length c0_0, .slice A0_1 aM.length c0_1], .int .i64 a1_1] (h := ?_); (with_reducible refine (quorumref8_Return.calls kj98 _ _ aD _ _ aM a1_1 eh eL oD _ ?side1 ?side2 ?side3 ?side4 A104.out).mono ?_); (case side1 => refine (Kd.V_reads' (e := 36) (base := w.heap.size) (ok := fun k_ => ((((((P0_0_ k_ ∨ P0_1_ k_) ∨ w.heap.size ≤ k_)) ∧ (some k_ ≠ (.slice bc aG.length bb : Value).ownBlock ∧ (some k_ ≠ (.slice bj aN.length bi : Value).ownBlock ∧ (k_ ≠ bd ∧ (k_ ≠ bq ∧ (k_ ≠ ap ∧ (k_ ≠ aV ∧ (k_ ≠ ae ∧ k_ ≠ am)))))))) ∧ some k_ ≠ (.slice cA cr.length cB : Value).ownBlock) ∧ some k_ ≠ (.slice cI cx.length cJ : Value).ownBlock)) (n := aD.length) (c := c0_0) ?_).2.2; exact (v2_ (Kd.V_mono (Kd.V_far (p := ⟨ae, 1, none⟩) (Kd.V_far (p := ⟨ae, 0, none⟩) (Kd.V_mono ac.out (fun k_ hk => (⟨hk, hk.1.1.2.2.2.2.2.2.2.1⟩ : _ ∧ k_ ≠ ae))) (fun _ hk => hk.2) (.slice cA cr.length cB)) (fun _ hk => hk.2) (.slice cI cx.length cJ)) (fun _ h_ => h_.1)))); (case side2 => exact (Kd.V_reads' ac.out).2.1); (case side3 => refine (Kd.V_reads' (e := 3) (base := w.heap.size) (ok := fun k_ => ((((((P0_0_ k_ ∨ P0_1_ k_) ∨ w.heap.size ≤ k_)) ∧ (some k_ ≠ (.slice bc aG.length bb : Value).ownBlock ∧ (some k_ ≠ (.slice bj aN.length bi : Value).ownBlock ∧ (k_ ≠ bd ∧ (k_ ≠ bq ∧ (k_ ≠ ap ∧ (k_ ≠ aV ∧ (k_ ≠ ae ∧ k_ ≠ am)))))))) ∧ some k_ ≠ (.slice cA cr.length cB : Value).ownBlock) ∧ some k_ ≠ (.slice cI cx.length cJ : Value).ownBlock)) (n := aM.length) (c := c0_1) ?_).2.2; exact (v2_ (Kd.V_mono (Kd.V_far (p := ⟨ae, 1, none⟩) (Kd.V_far (p := ⟨ae, 0, none⟩) (Kd.V_mono ad.out (fun k_ hk => (⟨hk, hk.1.1.2.2.2.2.2.2.2.1⟩ : _ ∧ k_ ≠ ae))) (fun _ hk => hk.2) (.slice cA cr.length cB)) (fun _ hk => hk.2) (.slice cI cx.length cJ)) (fun _ h_ => h_.1)))); (case side4 => exact (Kd.V_reads' ad.out).2.1); rintro e w127 ⟨v368, v371, rfl, ho0, ho1, hb⟩; refine ⟨_, rfl, ?_⟩; have n2_ := mk0 (Kd.R_elder' (r2_ (Kd.R_mono (Kd.R_far (p := ⟨ae, 1, none⟩) (Kd.R_far (p := ⟨ae, 0, none⟩) (Kd.R_types aa.out ag.out (by decide)) (fun _ hk => hk.2) (.slice cA cr.length cB)) (fun _ hk => hk.2) (.slice cI cx.length cJ)) (fun _ h_ => h_.1))) (Kd.R_base ho0) hb); have n3_ := mk0 (Kd.R_elder' (r2_ (Kd.R_mono (Kd.R_far (p := ⟨ae, 1, none⟩) (Kd.R_far (p := ⟨ae, 0, none⟩) (Kd.R_types ab.out ag.out (by decide)) (fun _ hk => hk.2) (.slice cA cr.length cB)) (fun _ hk => hk.2) (.slice cI cx.length cJ)) (fun _ h_ => h_.1))) (Kd.R_base ho1) hb); have n4_ := mk0 (Kd.R_elder' (r2_ (Kd.R_mono (Kd.R_far (p := ⟨ae, 1, none⟩) (Kd.R_far (p := ⟨ae, 0, none⟩) (Kd.R_types dA.out ag.out (by decide)) (fun _ hk => hk.2) (.slice cA cr.length cB)) (fun _ hk => hk.2) (.slice cI cx.length cJ)) (fun _ h_ => h_.1))) (Kd.R_base ho0) hb); have n5_ := mk0 (Kd.R_elder' (r2_ (Kd.R_mono (Kd.R_far (p := ⟨ae, 1, none⟩) (Kd.R_far (p := ⟨ae, 0, none⟩) (Kd.R_types dB.out ag.out (by decide)) (fun _ hk => hk.2) (.slice cA cr.length cB)) (fun _ hk => hk.2) (.slice cI cx.length cJ)) (fun _ h_ => h_.1))) (Kd.R_base ho1) hb); have n6_ := mk0 (Kd.R_lower (Kd.R_new' (Kd.R_new' (Kd.R_newM (M := fun k_ => (w.heap.size ≤ k_)) ho0 (bz_ (b_ HB)) (fun k_ h_ => h_)) (Kd.R_lt (r2_ (Kd.R_mono (Kd.R_far (p := ⟨ae, 1, none⟩) (Kd.R_far (p := ⟨ae, 0, none⟩) (Kd.R_types aa.out ag.out (by decide)) (fun _ hk => hk.2) (.slice cA cr.length cB)) (fun _ hk => hk.2) (.slice cI cx.length cJ)) (fun _ h_ => h_.1))))) (Kd.R_lt (r2_ (Kd.R_mono (Kd.R_far (p := ⟨ae, 1, none⟩) (Kd.R_far (p := ⟨ae, 0, none⟩) (Kd.R_types dA.out ag.out (by decide)) (fun _ hk => hk.2) (.slice cA cr.length cB)) (fun _ hk => hk.2) (.slice cI cx.length cJ)) (fun _ h_ => h_.1))))) (bz_ (b_ HB))); have n7_ := mk0 (Kd.R_lower (Kd.R_new' (Kd.R_new' (Kd.R_newM (M := fun k_ => (w.heap.size ≤ k_)) ho1 (bz_ (b_ HB)) (fun k_ h_ => h_)) (Kd.R_lt (r2_ (Kd.R_mono (Kd.R_far (p := ⟨ae, 1, none⟩) (Kd.R_far (p := ⟨ae, 0, none⟩) (Kd.R_types ab.out ag.out (by decide)) (fun _ hk => hk.2) (.slice cA cr.length cB)) (fun _ hk => hk.2) (.slice cI cx.length cJ)) (fun _ h_ => h_.1))))) (Kd.R_lt (r2_ (Kd.R_mono (Kd.R_far (p := ⟨ae, 1, none⟩) (Kd.R_far (p := ⟨ae, 0, none⟩) (Kd.R_types dB.out ag.out (by decide)) (fun _ hk => hk.2) (.slice cA cr.length cB)) (fun _ hk => hk.2) (.slice cI cx.length cJ)) (fun _ h_ => h_.1))))) (bz_ (b_ HB))); replace ac := mk0 (Kd.V_mono (Kd.V_told (Kd.V_told (Kd.V_old (v2_ (Kd.V_mono (Kd.V_far (p := ⟨ae, 1, none⟩) (Kd.V_far (p := ⟨ae, 0, none⟩) (Kd.V_mono ac.out (fun k_ hk => (⟨hk, hk.1.1.2.2.2.2.2.2.2.1⟩ : _ ∧ k_ ≠ ae))) (fun _ hk => hk.2) (.slice cA cr.length cB)) (fun _ hk => hk.2) (.slice cI cx.length cJ)) (fun _ h_ => h_.1))) hb) (Kd.R_base ho0)) (Kd.R_base ho1)) (fun _ h_ => h_.1)); replace ad := mk0 (Kd.V_mono (Kd.V_told (Kd.V_told (Kd.V_old (v2_ (Kd.V_mono (Kd.V_far (p := ⟨ae, 1, none⟩) (Kd.V_far (p := ⟨ae, 0, none⟩) (Kd.V_mono ad.out (fun k_ hk => (⟨hk, hk.1.1.2.2.2.2.2.2.2.1⟩ : _ ∧ k_ ≠ ae))) (fun _ hk => hk.2) (.slice cA cr.length cB)) (fun _ hk => hk.2) (.slice cI cx.length cJ)) (fun _ h_ => h_.1))) hb) (Kd.R_base ho0)) (Kd.R_base ho1)) (fun _ h_ => h_.1)); replace af := mk0 (blk_below (g := bd) (o := .cells #[.slice A0_0 aD.length c0_0, .slice A0_1 aM.length c0_1] 34 (0, 0)) (fa_ (fa_ (h_ af) aC.out) aC.out) hb); replace ak := mk0 (blk_below (g := bq) (o := .cells #[.int .i64 a1_0, .int .i64 a1_1, .int .i64 a1_2, .string a1_3, .string a1_4, .bool a1_5] 62 (0, 0)) (fa_ (fa_ (h_ ak) aA.out) aA.out) hb); replace ai := mk0 (blk_below (g := ap) (o := .cells #[.slice none 0 0, .slice none 0 0] 34 (0, 0)) (fa_ (fa_ (h_ ai) ay.out) ay.out) hb); replace aj := mk0 (blk_below (g := aV) (o := .cells #[.slice bc aG.length bb, .slice bj aN.length bi] 34 (0, 0)) (fa_ (fa_ (h_ aj) aH.out) aH.out) hb); replace ag := mk0 (blk_below (g := ae) (o := .cells #[.slice cA cr.length cB, .slice cI cx.length cJ] 34 (0, 0)) (pu_ (cs := #[.slice cA cr.length cB, .slice none 0 0]) (pu_ (cs := #[.slice none 0 0, .slice none 0 0]) (h_ ag))) hb); replace ah := mk0 (blk_below (g := am) (o := .cells #[.slice none 0 0, .slice none 0 0] 34 (0, 0)) (fa_ (fa_ (h_ ah) aJ.out) aJ.out) hb); replace HB := mk0 (bt_ (b_ HB) hb); clear aa ab dA dB; have aa := n2_; have ab := n3_; have dA := n4_; have dB := n5_; have nU := n6_; have nV := n7_; clear n2_ n3_ n4_ n5_ n6_ n7_; (try clear hb); (try clear ho0); (try clear ho1); obtain ⟨dr, dt, oG⟩ := Kd.R_slice nU.out; subst oG; have vL := bg.out; have vM := aI.out; obtain ⟨ia, ib, ic, ie⟩ := c2_ ah; obtain ⟨dC, dD, oH⟩ := Kd.R_slice nV.out; subst oH))
   go_meet
   case rel => exact ⟨_, (oD), (0), (0), (nR), (cr), (cx), (eh), (eL), (.slice cA cr.length cB), (.slice cI cx.length cJ), (.slice dr eh.length dt), (.slice dC eL.length dD), (by first | rfl | (simp; done) | (simp [*]; done)), (by first | rfl | (simp; done) | (simp [*]; done)), (by first | rfl | (simp; done) | (simp [*]; done)), (by first | rfl | (simp; done) | (simp [*]; done)), H', ⟨by have := cT.out; have := dy.out; first | omega | exact Nat.le_refl _⟩, ⟨by (with_reducible repeat (first | apply Kd.V_alloc | apply Kd.V_drewN | apply Kd.V_drew)); exact Kd.V_mono (Kd.V_far (p := ⟨am, 1, none⟩) (Kd.V_far (p := ⟨am, 0, none⟩) (Kd.V_mono ac.out (fun k_ hk => (⟨hk, hk.1.1.1.1.2.2.2.2.2.2.2.2⟩ : _ ∧ k_ ≠ am))) (fun _ hk => hk.2) (.slice dr eh.length dt)) (fun _ hk => hk.2) (.slice dC eL.length dD)) (fun _ hk => ⟨hk.1.1.1.1.1.1, ⟨hk.1.1.1.1.1.2.1, ⟨hk.1.1.1.1.1.2.2.1, ⟨hk.1.1.1.1.2, ⟨hk.1.1.1.2, ⟨hk.1.1.2, ⟨hk.1.2, ⟨hk.1.1.1.1.1.2.2.2.1, ⟨hk.1.1.1.1.1.2.2.2.2.1, ⟨hk.1.1.1.1.1.2.2.2.2.2.1, ⟨hk.1.1.1.1.1.2.2.2.2.2.2.1, ⟨hk.1.1.1.1.1.2.2.2.2.2.2.2.1, hk.1.1.1.1.1.2.2.2.2.2.2.2.2⟩⟩⟩⟩⟩⟩⟩⟩⟩⟩⟩⟩)⟩, ⟨by (with_reducible repeat (first | apply Kd.V_alloc | apply Kd.V_drewN | apply Kd.V_drew)); exact Kd.V_mono (Kd.V_far (p := ⟨am, 1, none⟩) (Kd.V_far (p := ⟨am, 0, none⟩) (Kd.V_mono ad.out (fun k_ hk => (⟨hk, hk.1.1.1.1.2.2.2.2.2.2.2.2⟩ : _ ∧ k_ ≠ am))) (fun _ hk => hk.2) (.slice dr eh.length dt)) (fun _ hk => hk.2) (.slice dC eL.length dD)) (fun _ hk => ⟨hk.1.1.1.1.1.1, ⟨hk.1.1.1.1.1.2.1, ⟨hk.1.1.1.1.1.2.2.1, ⟨hk.1.1.1.1.2, ⟨hk.1.1.1.2, ⟨hk.1.1.2, ⟨hk.1.2, ⟨hk.1.1.1.1.1.2.2.2.1, ⟨hk.1.1.1.1.1.2.2.2.2.1, ⟨hk.1.1.1.1.1.2.2.2.2.2.1, ⟨hk.1.1.1.1.1.2.2.2.2.2.2.1, ⟨hk.1.1.1.1.1.2.2.2.2.2.2.2.1, hk.1.1.1.1.1.2.2.2.2.2.2.2.2⟩⟩⟩⟩⟩⟩⟩⟩⟩⟩⟩⟩)⟩, ⟨by (with_reducible repeat (first | apply Ra_ | apply Rn_ | apply Rd_)); exact Kd.R_mono (Kd.R_far (p := ⟨am, 1, none⟩) (Kd.R_far (p := ⟨am, 0, none⟩) (Kd.R_types aa.out ah.out (by decide)) (fun _ hk => hk.2) (.slice dr eh.length dt)) (fun _ hk => hk.2) (.slice dC eL.length dD)) (fun _ hk => ⟨hk.1.1.1, ⟨hk.1.1.2, hk.1.2⟩⟩)⟩, ⟨by (with_reducible repeat (first | apply Ra_ | apply Rn_ | apply Rd_)); exact Kd.R_mono (Kd.R_far (p := ⟨am, 1, none⟩) (Kd.R_far (p := ⟨am, 0, none⟩) (Kd.R_types ab.out ah.out (by decide)) (fun _ hk => hk.2) (.slice dr eh.length dt)) (fun _ hk => hk.2) (.slice dC eL.length dD)) (fun _ hk => ⟨hk.1.1.1, ⟨hk.1.1.2, hk.1.2⟩⟩)⟩, ⟨by (with_reducible repeat (first | apply Ra_ | apply Rn_ | apply Rd_)); exact Kd.R_mono (Kd.R_far (p := ⟨am, 1, none⟩) (Kd.R_far (p := ⟨am, 0, none⟩) (Kd.R_types dA.out ah.out (by decide)) (fun _ hk => hk.2) (.slice dr eh.length dt)) (fun _ hk => hk.2) (.slice dC eL.length dD)) (fun _ hk => ⟨hk.1.1.1.1, ⟨hk.1.1.2, hk.1.2⟩⟩)⟩, ⟨by (with_reducible repeat (first | apply Ra_ | apply Rn_ | apply Rd_)); exact Kd.R_mono (Kd.R_far (p := ⟨am, 1, none⟩) (Kd.R_far (p := ⟨am, 0, none⟩) (Kd.R_types dB.out ah.out (by decide)) (fun _ hk => hk.2) (.slice dr eh.length dt)) (fun _ hk => hk.2) (.slice dC eL.length dD)) (fun _ hk => ⟨hk.1.1.1.1, ⟨hk.1.1.2, hk.1.2⟩⟩)⟩, ⟨by (with_reducible repeat (first | apply Ra_ | apply Rn_ | apply Rd_)); exact Kd.R_mono (Kd.R_far (p := ⟨am, 1, none⟩) (Kd.R_far (p := ⟨am, 0, none⟩) (Kd.R_types nU.out ah.out (by decide)) (fun _ hk => hk.2) (.slice dr eh.length dt)) (fun _ hk => hk.2) (.slice dC eL.length dD)) (fun _ hk => ⟨hk.1.1.1.1, ⟨hk.1.1.2, hk.1.2⟩⟩)⟩, ⟨by (with_reducible repeat (first | apply Ra_ | apply Rn_ | apply Rd_)); exact Kd.R_mono (Kd.R_far (p := ⟨am, 1, none⟩) (Kd.R_far (p := ⟨am, 0, none⟩) (Kd.R_types nV.out ah.out (by decide)) (fun _ hk => hk.2) (.slice dr eh.length dt)) (fun _ hk => hk.2) (.slice dC eL.length dD)) (fun _ hk => ⟨hk.1.1.1.1, ⟨hk.1.1.2, hk.1.2⟩⟩)⟩, ⟨(fa_ (fa_ (h_ af) aZ.out) aZ.out)⟩, ⟨(fa_ (fa_ (h_ ak) aK.out) aK.out)⟩, ⟨(fa_ (fa_ (h_ ai) aI.out) aI.out)⟩, ⟨(fa_ (fa_ (h_ aj) ba.out) ba.out)⟩, ⟨(fa_ (fa_ (h_ ag) aW.out) aW.out)⟩, ⟨(pu_ (cs := #[.slice dr eh.length dt, .slice none 0 0]) (pu_ (cs := #[.slice none 0 0, .slice none 0 0]) (h_ ah)))⟩, ⟨b_ HB⟩⟩
  replace c101 := Bool.eq_false_iff.mpr c101
  subst c101
  rw [if_neg (show ¬ (false = true) by decide)] at H
  by_cases c150 : ch = 8
  ·rw [if_pos c150] at H
   have lw : (ch == 8) = true := beq_iff_eq.mpr c150
   have lx : (ch != 8) = false := bne_eq_false_iff_eq.mpr c150
   clear c150
   replace H := Option.bind_eq_some_iff.mp H
   obtain ⟨⟨ct, cy, nS⟩, A1510, H⟩ := H
   try dsimp only at H
   have A151 := mk0 A1510
   clear A1510
   by_cases c152 : dw = true
   rotate_left
   ·replace c152 := Bool.eq_false_iff.mpr c152
    subst c152
    rw [if_neg (show ¬ (false = true) by decide)] at H
    have H' := mk0 H
    clear H
    have vN := bw.out
    have vO := bn.out
    have vP := bx.out
    have vQ := bo.out
    have vR := aU.out
    have vS := aX.out
    have vT := aH.out
    have vU := bE.out
    have vV := ba.out
    have vW := bG.out
    obtain ⟨ig, ih, ii, ij⟩ := c2_ aj
    have vX := bm.out
    have vY := bl.out
    have vZ := aR.out
    have wa := aT.out
    have wb := aA.out
    have wd := bf.out
    have we := aK.out
    have wf := bk.out
    obtain ⟨ik, il, im, io, ip, iq, ir, it, iu, iv, iw, ix⟩ := c6_ ak
    go_wp2_with (first | ((with_reducible refine gate_callee (f := 57) rfl ?_); refine gL_ (some 100) Try.func57 #[.agg #[.slice bc aG.length bb, .slice bj aN.length bi], .int .i64 a1_1] (h := ?_); (with_reducible refine (pend_Release.calls kj98 _ _ aG _ _ aN a1_1 ct cy nS _ ?side1 ?side2 ?side3 ?side4 A151.out).mono ?_); (case side1 => exact cr_ aa); (case side2 => exact (Kd.R_reads' aa.out).2.1); (case side3 => exact cr_ ab); (case side4 => exact (Kd.R_reads' ab.out).2.1); rintro e w192 ⟨v375, v378, rfl, ho0, ho1, hb⟩; refine ⟨_, rfl, ?_⟩; have n4_ := mk0 (Kd.R_lower (Kd.R_new' (Kd.R_newM (M := fun k_ => (w.heap.size ≤ k_)) ho0 (bz_ (b_ HB)) (fun k_ h_ => h_)) (Kd.R_lt (r_ aa))) (bz_ (b_ HB))); have n5_ := mk0 (Kd.R_lower (Kd.R_new' (Kd.R_newM (M := fun k_ => (w.heap.size ≤ k_)) ho1 (bz_ (b_ HB)) (fun k_ h_ => h_)) (Kd.R_lt (r_ ab))) (bz_ (b_ HB))); replace ac := mk0 (Kd.V_mono (Kd.V_told (Kd.V_told (Kd.V_old (v_ ac) hb) (Kd.R_base ho0)) (Kd.R_base ho1)) (fun _ h_ => h_.1)); replace ad := mk0 (Kd.V_mono (Kd.V_told (Kd.V_told (Kd.V_old (v_ ad) hb) (Kd.R_base ho0)) (Kd.R_base ho1)) (fun _ h_ => h_.1)); replace aa := mk0 (Kd.R_elder' (r_ aa) (Kd.R_base ho0) hb); replace ab := mk0 (Kd.R_elder' (r_ ab) (Kd.R_base ho1) hb); replace af := mk0 (u_ af hb); replace ak := mk0 (u_ ak hb); replace ai := mk0 (u_ ai hb); replace aj := mk0 (u_ aj hb); replace ag := mk0 (u_ ag hb); replace ah := mk0 (u_ ah hb); replace HB := mk0 (bt_ (b_ HB) hb); have dE := n4_; have dF := n5_; clear n4_ n5_; (try clear hb); (try clear ho0); (try clear ho1); obtain ⟨ee, ef, oI⟩ := Kd.R_slice dE.out; subst oI; have wg := bp.out; have wh := aC.out; have wi := aY.out; have wj := ay.out; have wk := aW.out; have wl := aJ.out; obtain ⟨iy, iz, iA, iB⟩ := c2_ ag; obtain ⟨eM, eN, oJ⟩ := Kd.R_slice dF.out; subst oJ))
    go_meet
    case rel => exact ⟨_, (1), (0), (0), (nS), (ct), (cy), (([] : List (S36))), (([] : List Int)), (.slice ee ct.length ef), (.slice eM cy.length eN), (.slice none 0 0), (.slice none 0 0), (by first | rfl | (simp; done) | (simp [*]; done)), (by first | rfl | (simp; done) | (simp [*]; done)), (by first | rfl | (simp; done) | (simp [*]; done)), (by first | rfl | (simp; done) | (simp [*]; done)), H', ⟨by have := cT.out; have := dy.out; first | omega | exact Nat.le_refl _⟩, ⟨by (with_reducible repeat (first | apply Kd.V_alloc | apply Kd.V_drewN | apply Kd.V_drew)); exact Kd.V_mono (Kd.V_far (p := ⟨ae, 1, none⟩) (Kd.V_far (p := ⟨ae, 0, none⟩) (Kd.V_mono ac.out (fun k_ hk => (⟨hk, hk.1.1.2.2.2.2.2.2.2.1⟩ : _ ∧ k_ ≠ ae))) (fun _ hk => hk.2) (.slice ee ct.length ef)) (fun _ hk => hk.2) (.slice eM cy.length eN)) (fun _ hk => ⟨hk.1.1.1.1, ⟨hk.1.1.1.2.1, ⟨hk.1.1.1.2.2.1, ⟨hk.1.1.2, ⟨hk.1.2, ⟨(by simp [Value.ownBlock]), ⟨(by simp [Value.ownBlock]), ⟨hk.1.1.1.2.2.2.1, ⟨hk.1.1.1.2.2.2.2.1, ⟨hk.1.1.1.2.2.2.2.2.1, ⟨hk.1.1.1.2.2.2.2.2.2.1, ⟨hk.1.1.1.2.2.2.2.2.2.2.1, hk.1.1.1.2.2.2.2.2.2.2.2⟩⟩⟩⟩⟩⟩⟩⟩⟩⟩⟩⟩)⟩, ⟨by (with_reducible repeat (first | apply Kd.V_alloc | apply Kd.V_drewN | apply Kd.V_drew)); exact Kd.V_mono (Kd.V_far (p := ⟨ae, 1, none⟩) (Kd.V_far (p := ⟨ae, 0, none⟩) (Kd.V_mono ad.out (fun k_ hk => (⟨hk, hk.1.1.2.2.2.2.2.2.2.1⟩ : _ ∧ k_ ≠ ae))) (fun _ hk => hk.2) (.slice ee ct.length ef)) (fun _ hk => hk.2) (.slice eM cy.length eN)) (fun _ hk => ⟨hk.1.1.1.1, ⟨hk.1.1.1.2.1, ⟨hk.1.1.1.2.2.1, ⟨hk.1.1.2, ⟨hk.1.2, ⟨(by simp [Value.ownBlock]), ⟨(by simp [Value.ownBlock]), ⟨hk.1.1.1.2.2.2.1, ⟨hk.1.1.1.2.2.2.2.1, ⟨hk.1.1.1.2.2.2.2.2.1, ⟨hk.1.1.1.2.2.2.2.2.2.1, ⟨hk.1.1.1.2.2.2.2.2.2.2.1, hk.1.1.1.2.2.2.2.2.2.2.2⟩⟩⟩⟩⟩⟩⟩⟩⟩⟩⟩⟩)⟩, ⟨by (with_reducible repeat (first | apply Ra_ | apply Rn_ | apply Rd_)); exact Kd.R_mono (Kd.R_far (p := ⟨ae, 1, none⟩) (Kd.R_far (p := ⟨ae, 0, none⟩) (Kd.R_types aa.out ag.out (by decide)) (fun _ hk => hk.2) (.slice ee ct.length ef)) (fun _ hk => hk.2) (.slice eM cy.length eN)) (fun _ hk => ⟨hk.1.1, ⟨hk.1.2, (by simp [Value.ownBlock])⟩⟩)⟩, ⟨by (with_reducible repeat (first | apply Ra_ | apply Rn_ | apply Rd_)); exact Kd.R_mono (Kd.R_far (p := ⟨ae, 1, none⟩) (Kd.R_far (p := ⟨ae, 0, none⟩) (Kd.R_types ab.out ag.out (by decide)) (fun _ hk => hk.2) (.slice ee ct.length ef)) (fun _ hk => hk.2) (.slice eM cy.length eN)) (fun _ hk => ⟨hk.1.1, ⟨hk.1.2, (by simp [Value.ownBlock])⟩⟩)⟩, ⟨by (with_reducible repeat (first | apply Ra_ | apply Rn_ | apply Rd_)); exact Kd.R_mono (Kd.R_far (p := ⟨ae, 1, none⟩) (Kd.R_far (p := ⟨ae, 0, none⟩) (Kd.R_types dE.out ag.out (by decide)) (fun _ hk => hk.2) (.slice ee ct.length ef)) (fun _ hk => hk.2) (.slice eM cy.length eN)) (fun _ hk => ⟨hk.1.1.1, ⟨hk.1.2, (by simp [Value.ownBlock])⟩⟩)⟩, ⟨by (with_reducible repeat (first | apply Ra_ | apply Rn_ | apply Rd_)); exact Kd.R_mono (Kd.R_far (p := ⟨ae, 1, none⟩) (Kd.R_far (p := ⟨ae, 0, none⟩) (Kd.R_types dF.out ag.out (by decide)) (fun _ hk => hk.2) (.slice ee ct.length ef)) (fun _ hk => hk.2) (.slice eM cy.length eN)) (fun _ hk => ⟨hk.1.1.1, ⟨hk.1.2, (by simp [Value.ownBlock])⟩⟩)⟩, ⟨by first | exact Kd.R_nil _ _ _ _ _ | exact Kd.N_nil _ _ _ _ _ | exact Kd.V_nil _ _ _ _ _ | exact Kd.Q_nil _ _ _ _ _ | exact Kd.S_nil _ _ _ _ _⟩, ⟨by first | exact Kd.R_nil _ _ _ _ _ | exact Kd.N_nil _ _ _ _ _ | exact Kd.V_nil _ _ _ _ _ | exact Kd.Q_nil _ _ _ _ _ | exact Kd.S_nil _ _ _ _ _⟩, ⟨(fa_ (fa_ (h_ af) aC.out) aC.out)⟩, ⟨(fa_ (fa_ (h_ ak) aA.out) aA.out)⟩, ⟨(fa_ (fa_ (h_ ai) ay.out) ay.out)⟩, ⟨(fa_ (fa_ (h_ aj) aH.out) aH.out)⟩, ⟨(pu_ (cs := #[.slice ee ct.length ef, .slice none 0 0]) (pu_ (cs := #[.slice none 0 0, .slice none 0 0]) (h_ ag)))⟩, ⟨(fa_ (fa_ (h_ ah) aJ.out) aJ.out)⟩, ⟨b_ HB⟩⟩
   subst c152
   rw [if_pos rfl] at H
   replace H := Option.bind_eq_some_iff.mp H
   obtain ⟨⟨ei, eO, oK⟩, A1530, H⟩ := H
   try dsimp only at H
   have A153 := mk0 A1530
   clear A1530
   have H' := mk0 H
   clear H
   have wm := bw.out
   have wn := bn.out
   have wo := bx.out
   have wp := bo.out
   have wq := aU.out
   have wr := aX.out
   have ws := aH.out
   have wt := bE.out
   have wu := ba.out
   have wv := bG.out
   obtain ⟨iC, iD, iE, iF⟩ := c2_ aj
   have ww := bm.out
   have wx := bl.out
   have wy := aR.out
   have wz := aT.out
   have wA := aA.out
   have wB := bf.out
   have wC := aK.out
   have wD := bk.out
   obtain ⟨iG, iH, iI, iJ, iK, iL, iM, iN, iO, iP, iQ, iR⟩ := c6_ ak
   go_wp2_with (first | ((with_reducible refine gate_callee (f := 57) rfl ?_); refine gL_ (some 100) Try.func57 #[.agg #[.slice bc aG.length bb, .slice bj aN.length bi], .int .i64 a1_1] (h := ?_); (with_reducible refine (pend_Release.calls kj98 _ _ aG _ _ aN a1_1 ct cy nS _ ?side1 ?side2 ?side3 ?side4 A151.out).mono ?_); (case side1 => exact cr_ aa); (case side2 => exact (Kd.R_reads' aa.out).2.1); (case side3 => exact cr_ ab); (case side4 => exact (Kd.R_reads' ab.out).2.1); rintro e w165 ⟨v375, v378, rfl, ho0, ho1, hb⟩; refine ⟨_, rfl, ?_⟩; have n4_ := mk0 (Kd.R_lower (Kd.R_new' (Kd.R_newM (M := fun k_ => (w.heap.size ≤ k_)) ho0 (bz_ (b_ HB)) (fun k_ h_ => h_)) (Kd.R_lt (r_ aa))) (bz_ (b_ HB))); have n5_ := mk0 (Kd.R_lower (Kd.R_new' (Kd.R_newM (M := fun k_ => (w.heap.size ≤ k_)) ho1 (bz_ (b_ HB)) (fun k_ h_ => h_)) (Kd.R_lt (r_ ab))) (bz_ (b_ HB))); replace ac := mk0 (Kd.V_mono (Kd.V_told (Kd.V_told (Kd.V_old (v_ ac) hb) (Kd.R_base ho0)) (Kd.R_base ho1)) (fun _ h_ => h_.1)); replace ad := mk0 (Kd.V_mono (Kd.V_told (Kd.V_told (Kd.V_old (v_ ad) hb) (Kd.R_base ho0)) (Kd.R_base ho1)) (fun _ h_ => h_.1)); replace aa := mk0 (Kd.R_elder' (r_ aa) (Kd.R_base ho0) hb); replace ab := mk0 (Kd.R_elder' (r_ ab) (Kd.R_base ho1) hb); replace af := mk0 (u_ af hb); replace ak := mk0 (u_ ak hb); replace ai := mk0 (u_ ai hb); replace aj := mk0 (u_ aj hb); replace ag := mk0 (u_ ag hb); replace ah := mk0 (u_ ah hb); replace HB := mk0 (bt_ (b_ HB) hb); have dE := n4_; have dF := n5_; clear n4_ n5_; (try clear hb); (try clear ho0); (try clear ho1); obtain ⟨cC, cD, oL⟩ := Kd.R_slice dE.out; subst oL; have wE := bp.out; have wF := aC.out; have wG := aY.out; have wH := ay.out; have wI := aW.out; have wJ := aJ.out; obtain ⟨iS, iT, iU, iV⟩ := c2_ ag; obtain ⟨cK, cL, oM⟩ := Kd.R_slice dF.out; subst oM; have wK := ax.out; have wL := be.out; have wM := aZ.out; have wN := bF.out; obtain ⟨iW, iX, iY, iZ⟩ := c2_ af; obtain ⟨ja, jb, jc, jd, je, jf, jg, jh, ji, jj, jk, jl⟩ := c6_ ak) | ((with_reducible refine gate_callee (f := 58) rfl ?_); refine gL_ (some 108) Try.func58 #[.agg #[.slice A0_0 aD.length c0_0, .slice A0_1 aM.length c0_1], .int .i64 a1_1] (h := ?_); (with_reducible refine (quorumref8_Release.calls kj98 _ _ aD _ _ aM a1_1 ei eO oK _ ?side1 ?side2 ?side3 ?side4 A153.out).mono ?_); (case side1 => refine (Kd.V_reads' (e := 36) (base := w.heap.size) (ok := fun k_ => ((((((P0_0_ k_ ∨ P0_1_ k_) ∨ w.heap.size ≤ k_)) ∧ (some k_ ≠ (.slice bc aG.length bb : Value).ownBlock ∧ (some k_ ≠ (.slice bj aN.length bi : Value).ownBlock ∧ (k_ ≠ bd ∧ (k_ ≠ bq ∧ (k_ ≠ ap ∧ (k_ ≠ aV ∧ (k_ ≠ ae ∧ k_ ≠ am)))))))) ∧ some k_ ≠ (.slice cC ct.length cD : Value).ownBlock) ∧ some k_ ≠ (.slice cK cy.length cL : Value).ownBlock)) (n := aD.length) (c := c0_0) ?_).2.2; exact (v2_ (Kd.V_mono (Kd.V_far (p := ⟨ae, 1, none⟩) (Kd.V_far (p := ⟨ae, 0, none⟩) (Kd.V_mono ac.out (fun k_ hk => (⟨hk, hk.1.1.2.2.2.2.2.2.2.1⟩ : _ ∧ k_ ≠ ae))) (fun _ hk => hk.2) (.slice cC ct.length cD)) (fun _ hk => hk.2) (.slice cK cy.length cL)) (fun _ h_ => h_.1)))); (case side2 => exact (Kd.V_reads' ac.out).2.1); (case side3 => refine (Kd.V_reads' (e := 3) (base := w.heap.size) (ok := fun k_ => ((((((P0_0_ k_ ∨ P0_1_ k_) ∨ w.heap.size ≤ k_)) ∧ (some k_ ≠ (.slice bc aG.length bb : Value).ownBlock ∧ (some k_ ≠ (.slice bj aN.length bi : Value).ownBlock ∧ (k_ ≠ bd ∧ (k_ ≠ bq ∧ (k_ ≠ ap ∧ (k_ ≠ aV ∧ (k_ ≠ ae ∧ k_ ≠ am)))))))) ∧ some k_ ≠ (.slice cC ct.length cD : Value).ownBlock) ∧ some k_ ≠ (.slice cK cy.length cL : Value).ownBlock)) (n := aM.length) (c := c0_1) ?_).2.2; exact (v2_ (Kd.V_mono (Kd.V_far (p := ⟨ae, 1, none⟩) (Kd.V_far (p := ⟨ae, 0, none⟩) (Kd.V_mono ad.out (fun k_ hk => (⟨hk, hk.1.1.2.2.2.2.2.2.2.1⟩ : _ ∧ k_ ≠ ae))) (fun _ hk => hk.2) (.slice cC ct.length cD)) (fun _ hk => hk.2) (.slice cK cy.length cL)) (fun _ h_ => h_.1)))); (case side4 => exact (Kd.V_reads' ad.out).2.1); rintro e w176 ⟨v382, v385, rfl, ho0, ho1, hb⟩; refine ⟨_, rfl, ?_⟩; have n2_ := mk0 (Kd.R_elder' (r2_ (Kd.R_mono (Kd.R_far (p := ⟨ae, 1, none⟩) (Kd.R_far (p := ⟨ae, 0, none⟩) (Kd.R_types aa.out ag.out (by decide)) (fun _ hk => hk.2) (.slice cC ct.length cD)) (fun _ hk => hk.2) (.slice cK cy.length cL)) (fun _ h_ => h_.1))) (Kd.R_base ho0) hb); have n3_ := mk0 (Kd.R_elder' (r2_ (Kd.R_mono (Kd.R_far (p := ⟨ae, 1, none⟩) (Kd.R_far (p := ⟨ae, 0, none⟩) (Kd.R_types ab.out ag.out (by decide)) (fun _ hk => hk.2) (.slice cC ct.length cD)) (fun _ hk => hk.2) (.slice cK cy.length cL)) (fun _ h_ => h_.1))) (Kd.R_base ho1) hb); have n4_ := mk0 (Kd.R_elder' (r2_ (Kd.R_mono (Kd.R_far (p := ⟨ae, 1, none⟩) (Kd.R_far (p := ⟨ae, 0, none⟩) (Kd.R_types dE.out ag.out (by decide)) (fun _ hk => hk.2) (.slice cC ct.length cD)) (fun _ hk => hk.2) (.slice cK cy.length cL)) (fun _ h_ => h_.1))) (Kd.R_base ho0) hb); have n5_ := mk0 (Kd.R_elder' (r2_ (Kd.R_mono (Kd.R_far (p := ⟨ae, 1, none⟩) (Kd.R_far (p := ⟨ae, 0, none⟩) (Kd.R_types dF.out ag.out (by decide)) (fun _ hk => hk.2) (.slice cC ct.length cD)) (fun _ hk => hk.2) (.slice cK cy.length cL)) (fun _ h_ => h_.1))) (Kd.R_base ho1) hb); have n6_ := mk0 (Kd.R_lower (Kd.R_new' (Kd.R_new' (Kd.R_newM (M := fun k_ => (w.heap.size ≤ k_)) ho0 (bz_ (b_ HB)) (fun k_ h_ => h_)) (Kd.R_lt (r2_ (Kd.R_mono (Kd.R_far (p := ⟨ae, 1, none⟩) (Kd.R_far (p := ⟨ae, 0, none⟩) (Kd.R_types aa.out ag.out (by decide)) (fun _ hk => hk.2) (.slice cC ct.length cD)) (fun _ hk => hk.2) (.slice cK cy.length cL)) (fun _ h_ => h_.1))))) (Kd.R_lt (r2_ (Kd.R_mono (Kd.R_far (p := ⟨ae, 1, none⟩) (Kd.R_far (p := ⟨ae, 0, none⟩) (Kd.R_types dE.out ag.out (by decide)) (fun _ hk => hk.2) (.slice cC ct.length cD)) (fun _ hk => hk.2) (.slice cK cy.length cL)) (fun _ h_ => h_.1))))) (bz_ (b_ HB))); have n7_ := mk0 (Kd.R_lower (Kd.R_new' (Kd.R_new' (Kd.R_newM (M := fun k_ => (w.heap.size ≤ k_)) ho1 (bz_ (b_ HB)) (fun k_ h_ => h_)) (Kd.R_lt (r2_ (Kd.R_mono (Kd.R_far (p := ⟨ae, 1, none⟩) (Kd.R_far (p := ⟨ae, 0, none⟩) (Kd.R_types ab.out ag.out (by decide)) (fun _ hk => hk.2) (.slice cC ct.length cD)) (fun _ hk => hk.2) (.slice cK cy.length cL)) (fun _ h_ => h_.1))))) (Kd.R_lt (r2_ (Kd.R_mono (Kd.R_far (p := ⟨ae, 1, none⟩) (Kd.R_far (p := ⟨ae, 0, none⟩) (Kd.R_types dF.out ag.out (by decide)) (fun _ hk => hk.2) (.slice cC ct.length cD)) (fun _ hk => hk.2) (.slice cK cy.length cL)) (fun _ h_ => h_.1))))) (bz_ (b_ HB))); replace ac := mk0 (Kd.V_mono (Kd.V_told (Kd.V_told (Kd.V_old (v2_ (Kd.V_mono (Kd.V_far (p := ⟨ae, 1, none⟩) (Kd.V_far (p := ⟨ae, 0, none⟩) (Kd.V_mono ac.out (fun k_ hk => (⟨hk, hk.1.1.2.2.2.2.2.2.2.1⟩ : _ ∧ k_ ≠ ae))) (fun _ hk => hk.2) (.slice cC ct.length cD)) (fun _ hk => hk.2) (.slice cK cy.length cL)) (fun _ h_ => h_.1))) hb) (Kd.R_base ho0)) (Kd.R_base ho1)) (fun _ h_ => h_.1)); replace ad := mk0 (Kd.V_mono (Kd.V_told (Kd.V_told (Kd.V_old (v2_ (Kd.V_mono (Kd.V_far (p := ⟨ae, 1, none⟩) (Kd.V_far (p := ⟨ae, 0, none⟩) (Kd.V_mono ad.out (fun k_ hk => (⟨hk, hk.1.1.2.2.2.2.2.2.2.1⟩ : _ ∧ k_ ≠ ae))) (fun _ hk => hk.2) (.slice cC ct.length cD)) (fun _ hk => hk.2) (.slice cK cy.length cL)) (fun _ h_ => h_.1))) hb) (Kd.R_base ho0)) (Kd.R_base ho1)) (fun _ h_ => h_.1)); replace af := mk0 (blk_below (g := bd) (o := .cells #[.slice A0_0 aD.length c0_0, .slice A0_1 aM.length c0_1] 34 (0, 0)) (fa_ (fa_ (h_ af) aC.out) aC.out) hb); replace ak := mk0 (blk_below (g := bq) (o := .cells #[.int .i64 a1_0, .int .i64 a1_1, .int .i64 a1_2, .string a1_3, .string a1_4, .bool a1_5] 62 (0, 0)) (fa_ (fa_ (h_ ak) aA.out) aA.out) hb); replace ai := mk0 (blk_below (g := ap) (o := .cells #[.slice none 0 0, .slice none 0 0] 34 (0, 0)) (fa_ (fa_ (h_ ai) ay.out) ay.out) hb); replace aj := mk0 (blk_below (g := aV) (o := .cells #[.slice bc aG.length bb, .slice bj aN.length bi] 34 (0, 0)) (fa_ (fa_ (h_ aj) aH.out) aH.out) hb); replace ag := mk0 (blk_below (g := ae) (o := .cells #[.slice cC ct.length cD, .slice cK cy.length cL] 34 (0, 0)) (pu_ (cs := #[.slice cC ct.length cD, .slice none 0 0]) (pu_ (cs := #[.slice none 0 0, .slice none 0 0]) (h_ ag))) hb); replace ah := mk0 (blk_below (g := am) (o := .cells #[.slice none 0 0, .slice none 0 0] 34 (0, 0)) (fa_ (fa_ (h_ ah) aJ.out) aJ.out) hb); replace HB := mk0 (bt_ (b_ HB) hb); clear aa ab dE dF; have aa := n2_; have ab := n3_; have dE := n4_; have dF := n5_; have nW := n6_; have nX := n7_; clear n2_ n3_ n4_ n5_ n6_ n7_; (try clear hb); (try clear ho0); (try clear ho1); obtain ⟨du, dv, oN⟩ := Kd.R_slice nW.out; subst oN; have wO := bg.out; have wP := aI.out; obtain ⟨jm, jn, jo, jp⟩ := c2_ ah; obtain ⟨dG, dH, oO⟩ := Kd.R_slice nX.out; subst oO))
   go_meet
   case rel => exact ⟨_, (oK), (0), (0), (nS), (ct), (cy), (ei), (eO), (.slice cC ct.length cD), (.slice cK cy.length cL), (.slice du ei.length dv), (.slice dG eO.length dH), (by first | rfl | (simp; done) | (simp [*]; done)), (by first | rfl | (simp; done) | (simp [*]; done)), (by first | rfl | (simp; done) | (simp [*]; done)), (by first | rfl | (simp; done) | (simp [*]; done)), H', ⟨by have := cT.out; have := dy.out; first | omega | exact Nat.le_refl _⟩, ⟨by (with_reducible repeat (first | apply Kd.V_alloc | apply Kd.V_drewN | apply Kd.V_drew)); exact Kd.V_mono (Kd.V_far (p := ⟨am, 1, none⟩) (Kd.V_far (p := ⟨am, 0, none⟩) (Kd.V_mono ac.out (fun k_ hk => (⟨hk, hk.1.1.1.1.2.2.2.2.2.2.2.2⟩ : _ ∧ k_ ≠ am))) (fun _ hk => hk.2) (.slice du ei.length dv)) (fun _ hk => hk.2) (.slice dG eO.length dH)) (fun _ hk => ⟨hk.1.1.1.1.1.1, ⟨hk.1.1.1.1.1.2.1, ⟨hk.1.1.1.1.1.2.2.1, ⟨hk.1.1.1.1.2, ⟨hk.1.1.1.2, ⟨hk.1.1.2, ⟨hk.1.2, ⟨hk.1.1.1.1.1.2.2.2.1, ⟨hk.1.1.1.1.1.2.2.2.2.1, ⟨hk.1.1.1.1.1.2.2.2.2.2.1, ⟨hk.1.1.1.1.1.2.2.2.2.2.2.1, ⟨hk.1.1.1.1.1.2.2.2.2.2.2.2.1, hk.1.1.1.1.1.2.2.2.2.2.2.2.2⟩⟩⟩⟩⟩⟩⟩⟩⟩⟩⟩⟩)⟩, ⟨by (with_reducible repeat (first | apply Kd.V_alloc | apply Kd.V_drewN | apply Kd.V_drew)); exact Kd.V_mono (Kd.V_far (p := ⟨am, 1, none⟩) (Kd.V_far (p := ⟨am, 0, none⟩) (Kd.V_mono ad.out (fun k_ hk => (⟨hk, hk.1.1.1.1.2.2.2.2.2.2.2.2⟩ : _ ∧ k_ ≠ am))) (fun _ hk => hk.2) (.slice du ei.length dv)) (fun _ hk => hk.2) (.slice dG eO.length dH)) (fun _ hk => ⟨hk.1.1.1.1.1.1, ⟨hk.1.1.1.1.1.2.1, ⟨hk.1.1.1.1.1.2.2.1, ⟨hk.1.1.1.1.2, ⟨hk.1.1.1.2, ⟨hk.1.1.2, ⟨hk.1.2, ⟨hk.1.1.1.1.1.2.2.2.1, ⟨hk.1.1.1.1.1.2.2.2.2.1, ⟨hk.1.1.1.1.1.2.2.2.2.2.1, ⟨hk.1.1.1.1.1.2.2.2.2.2.2.1, ⟨hk.1.1.1.1.1.2.2.2.2.2.2.2.1, hk.1.1.1.1.1.2.2.2.2.2.2.2.2⟩⟩⟩⟩⟩⟩⟩⟩⟩⟩⟩⟩)⟩, ⟨by (with_reducible repeat (first | apply Ra_ | apply Rn_ | apply Rd_)); exact Kd.R_mono (Kd.R_far (p := ⟨am, 1, none⟩) (Kd.R_far (p := ⟨am, 0, none⟩) (Kd.R_types aa.out ah.out (by decide)) (fun _ hk => hk.2) (.slice du ei.length dv)) (fun _ hk => hk.2) (.slice dG eO.length dH)) (fun _ hk => ⟨hk.1.1.1, ⟨hk.1.1.2, hk.1.2⟩⟩)⟩, ⟨by (with_reducible repeat (first | apply Ra_ | apply Rn_ | apply Rd_)); exact Kd.R_mono (Kd.R_far (p := ⟨am, 1, none⟩) (Kd.R_far (p := ⟨am, 0, none⟩) (Kd.R_types ab.out ah.out (by decide)) (fun _ hk => hk.2) (.slice du ei.length dv)) (fun _ hk => hk.2) (.slice dG eO.length dH)) (fun _ hk => ⟨hk.1.1.1, ⟨hk.1.1.2, hk.1.2⟩⟩)⟩, ⟨by (with_reducible repeat (first | apply Ra_ | apply Rn_ | apply Rd_)); exact Kd.R_mono (Kd.R_far (p := ⟨am, 1, none⟩) (Kd.R_far (p := ⟨am, 0, none⟩) (Kd.R_types dE.out ah.out (by decide)) (fun _ hk => hk.2) (.slice du ei.length dv)) (fun _ hk => hk.2) (.slice dG eO.length dH)) (fun _ hk => ⟨hk.1.1.1.1, ⟨hk.1.1.2, hk.1.2⟩⟩)⟩, ⟨by (with_reducible repeat (first | apply Ra_ | apply Rn_ | apply Rd_)); exact Kd.R_mono (Kd.R_far (p := ⟨am, 1, none⟩) (Kd.R_far (p := ⟨am, 0, none⟩) (Kd.R_types dF.out ah.out (by decide)) (fun _ hk => hk.2) (.slice du ei.length dv)) (fun _ hk => hk.2) (.slice dG eO.length dH)) (fun _ hk => ⟨hk.1.1.1.1, ⟨hk.1.1.2, hk.1.2⟩⟩)⟩, ⟨by (with_reducible repeat (first | apply Ra_ | apply Rn_ | apply Rd_)); exact Kd.R_mono (Kd.R_far (p := ⟨am, 1, none⟩) (Kd.R_far (p := ⟨am, 0, none⟩) (Kd.R_types nW.out ah.out (by decide)) (fun _ hk => hk.2) (.slice du ei.length dv)) (fun _ hk => hk.2) (.slice dG eO.length dH)) (fun _ hk => ⟨hk.1.1.1.1, ⟨hk.1.1.2, hk.1.2⟩⟩)⟩, ⟨by (with_reducible repeat (first | apply Ra_ | apply Rn_ | apply Rd_)); exact Kd.R_mono (Kd.R_far (p := ⟨am, 1, none⟩) (Kd.R_far (p := ⟨am, 0, none⟩) (Kd.R_types nX.out ah.out (by decide)) (fun _ hk => hk.2) (.slice du ei.length dv)) (fun _ hk => hk.2) (.slice dG eO.length dH)) (fun _ hk => ⟨hk.1.1.1.1, ⟨hk.1.1.2, hk.1.2⟩⟩)⟩, ⟨(fa_ (fa_ (h_ af) aZ.out) aZ.out)⟩, ⟨(fa_ (fa_ (h_ ak) aK.out) aK.out)⟩, ⟨(fa_ (fa_ (h_ ai) aI.out) aI.out)⟩, ⟨(fa_ (fa_ (h_ aj) ba.out) ba.out)⟩, ⟨(fa_ (fa_ (h_ ag) aW.out) aW.out)⟩, ⟨(pu_ (cs := #[.slice du ei.length dv, .slice none 0 0]) (pu_ (cs := #[.slice none 0 0, .slice none 0 0]) (h_ ah)))⟩, ⟨b_ HB⟩⟩
  rw [if_neg c150] at H
  have lw : (ch == 8) = false := beq_eq_false_iff_ne.mpr c150
  have lx : (ch != 8) = true := bne_iff_ne.mpr c150
  by_cases c199 : ch = 9
  rotate_left
  ·rw [if_neg c199] at H
   have eP : (ch == 9) = false := beq_eq_false_iff_ne.mpr c199
   have eQ : (ch != 9) = true := bne_iff_ne.mpr c199
   replace H := Option.bind_eq_some_iff.mp H
   obtain ⟨⟨ce, cj, lp⟩, A3460, H⟩ := H
   try dsimp only at H
   have A346 := mk0 A3460
   clear A3460
   have HC347 := mk0 H
   clear H
   have wQ := bw.out
   have wR := bn.out
   have wS := bx.out
   have wT := bo.out
   have wU := aU.out
   have wV := aX.out
   have wW := aH.out
   have wX := bE.out
   have wY := ba.out
   have wZ := bG.out
   obtain ⟨eR, eS, eT, eU⟩ := c2_ aj
   have xa := bm.out
   have xb := bl.out
   have xc := aR.out
   have xd := aT.out
   have xe := aA.out
   have xf := bf.out
   have xg := aK.out
   have xh := bk.out
   obtain ⟨eV, eW, eX, eY, eZ, fa, fb, fc, fd, fe, ff, fg⟩ := c6_ ak
   go_upto_region 9 with (first | ((with_reducible refine gate_callee (f := 66) rfl ?_); refine gL_ (some 34) Try.func66 #[.agg #[.slice bc aG.length bb, .slice bj aN.length bi], .agg #[.int .i64 a1_2, .string a1_3, .string a1_4, .bool a1_5]] (h := ?_); (with_reducible refine (pend_Put.calls kj98 _ _ aG _ _ aN a1_2 a1_3 a1_4 a1_5 ce cj lp _ ?side1 ?side2 ?side3 ?side4 A346.out).mono ?_); (case side1 => exact cr_ aa); (case side2 => exact (Kd.R_reads' aa.out).2.1); (case side3 => exact cr_ ab); (case side4 => exact (Kd.R_reads' ab.out).2.1); rintro e w359 ⟨v415, v418, rfl, ho0, ho1, hb⟩; refine ⟨_, rfl, ?_⟩; have n4_ := mk0 (Kd.R_lower (Kd.R_new' (Kd.R_newM (M := fun k_ => (w.heap.size ≤ k_)) ho0 (bz_ (b_ HB)) (fun k_ h_ => h_)) (Kd.R_lt (r_ aa))) (bz_ (b_ HB))); have n5_ := mk0 (Kd.R_lower (Kd.R_new' (Kd.R_newM (M := fun k_ => (w.heap.size ≤ k_)) ho1 (bz_ (b_ HB)) (fun k_ h_ => h_)) (Kd.R_lt (r_ ab))) (bz_ (b_ HB))); replace ac := mk0 (Kd.V_mono (Kd.V_told (Kd.V_told (Kd.V_old (v_ ac) hb) (Kd.R_base ho0)) (Kd.R_base ho1)) (fun _ h_ => h_.1)); replace ad := mk0 (Kd.V_mono (Kd.V_told (Kd.V_told (Kd.V_old (v_ ad) hb) (Kd.R_base ho0)) (Kd.R_base ho1)) (fun _ h_ => h_.1)); replace aa := mk0 (Kd.R_elder' (r_ aa) (Kd.R_base ho0) hb); replace ab := mk0 (Kd.R_elder' (r_ ab) (Kd.R_base ho1) hb); replace af := mk0 (u_ af hb); replace ak := mk0 (u_ ak hb); replace ai := mk0 (u_ ai hb); replace aj := mk0 (u_ aj hb); replace ag := mk0 (u_ ag hb); replace ah := mk0 (u_ ah hb); replace HB := mk0 (bt_ (b_ HB) hb); have fF := n4_; have fG := n5_; clear n4_ n5_; (try clear hb); (try clear ho0); (try clear ho1); obtain ⟨bO, bP, oP⟩ := Kd.R_slice fF.out; subst oP; have xi := bp.out; have xj := aC.out; have xk := aY.out; have xl := ay.out; have xm := aW.out; have xn := aJ.out; obtain ⟨fh, fi, fj, fk⟩ := c2_ ag; obtain ⟨cc, cd, oQ⟩ := Kd.R_slice fG.out; subst oQ))
   (try simp only [Act.put, List.setIfInBounds_toArray, List.set_cons_zero, List.set_cons_succ])
   go_cut [42] (fun v42 wc => ∃ (kq : Nat) (eI : Bool), v42 = .bool eI ∧ Fc (quorumlaw10_step.j4 kq dw 1 0 0 lp eI aD aM a1_0 a1_1 a1_2 a1_3 a1_4 a1_5 aG aN ce cj = some (r1, r2, r3)) ∧ Fc (kq ≤ kj98) ∧ Fc (Kd.V k36 36 wc w.heap.size (fun k_ => ((P0_0_ k_ ∨ P0_1_ k_) ∨ w.heap.size ≤ k_) ∧ some k_ ≠ ((.slice bc aG.length bb) : Value).ownBlock ∧ some k_ ≠ ((.slice bj aN.length bi) : Value).ownBlock ∧ some k_ ≠ ((.slice bO ce.length bP) : Value).ownBlock ∧ some k_ ≠ ((.slice cc cj.length cd) : Value).ownBlock ∧ k_ ≠ bd ∧ k_ ≠ bq ∧ k_ ≠ ap ∧ k_ ≠ aV ∧ k_ ≠ ae ∧ k_ ≠ am) (.slice A0_0 aD.length c0_0) aD) ∧ Fc (Kd.V (Kd.int .i64) 3 wc w.heap.size (fun k_ => ((P0_0_ k_ ∨ P0_1_ k_) ∨ w.heap.size ≤ k_) ∧ some k_ ≠ ((.slice bc aG.length bb) : Value).ownBlock ∧ some k_ ≠ ((.slice bj aN.length bi) : Value).ownBlock ∧ some k_ ≠ ((.slice bO ce.length bP) : Value).ownBlock ∧ some k_ ≠ ((.slice cc cj.length cd) : Value).ownBlock ∧ k_ ≠ bd ∧ k_ ≠ bq ∧ k_ ≠ ap ∧ k_ ≠ aV ∧ k_ ≠ ae ∧ k_ ≠ am) (.slice A0_1 aM.length c0_1) aM) ∧ Fc (Kd.R k36 36 wc w.heap.size (fun k_ => (w.heap.size ≤ k_) ∧ some k_ ≠ ((.slice bO ce.length bP) : Value).ownBlock) (.slice bc aG.length bb) aG) ∧ Fc (Kd.R (Kd.int .i64) 3 wc w.heap.size (fun k_ => (w.heap.size ≤ k_) ∧ some k_ ≠ ((.slice cc cj.length cd) : Value).ownBlock) (.slice bj aN.length bi) aN) ∧ Fc (Kd.R k36 36 wc w.heap.size (fun k_ => (w.heap.size ≤ k_) ∧ some k_ ≠ ((.slice bc aG.length bb) : Value).ownBlock) (.slice bO ce.length bP) ce) ∧ Fc (Kd.R (Kd.int .i64) 3 wc w.heap.size (fun k_ => (w.heap.size ≤ k_) ∧ some k_ ≠ ((.slice bj aN.length bi) : Value).ownBlock) (.slice cc cj.length cd) cj) ∧ Fc (wc.heap[bd]? = some (.cells #[(.slice A0_0 aD.length c0_0), (.slice A0_1 aM.length c0_1)] 34 (0, 0))) ∧ Fc (wc.heap[bq]? = some (.cells #[.int .i64 a1_0, .int .i64 a1_1, .int .i64 a1_2, .string a1_3, .string a1_4, .bool a1_5] 62 (0, 0))) ∧ Fc (wc.heap[ap]? = some (.cells #[(.slice none 0 0), (.slice none 0 0)] 34 (0, 0))) ∧ Fc (wc.heap[aV]? = some (.cells #[(.slice bc aG.length bb), (.slice bj aN.length bi)] 34 (0, 0))) ∧ Fc (wc.heap[ae]? = some (.cells #[(.slice bO ce.length bP), (.slice cc cj.length cd)] 34 (0, 0))) ∧ Fc (wc.heap[am]? = some (.cells #[(.slice none 0 0), (.slice none 0 0)] 34 (0, 0))) ∧ Fc (Below w.heap.size w wc))
   case first =>
    have H := HC347.out
    clear HC347
    by_cases c366 : dw = true
    rotate_left
    ·replace c366 := Bool.eq_false_iff.mpr c366
     subst c366
     rw [if_neg (show ¬ (false = true) by decide)] at H
     have H' := mk0 H
     clear H
     go_wp2
     go_meet
     case rel => exact ⟨_, (false), (by first | rfl | (simp; done) | (simp [*]; done)), H', ⟨by have := cT.out; have := dy.out; first | omega | exact Nat.le_refl _⟩, ⟨by (with_reducible repeat (first | apply Kd.V_alloc | apply Kd.V_drewN | apply Kd.V_drew)); exact Kd.V_mono (Kd.V_far (p := ⟨ae, 1, none⟩) (Kd.V_far (p := ⟨ae, 0, none⟩) (Kd.V_mono ac.out (fun k_ hk => (⟨hk, hk.1.1.2.2.2.2.2.2.2.1⟩ : _ ∧ k_ ≠ ae))) (fun _ hk => hk.2) (.slice bO ce.length bP)) (fun _ hk => hk.2) (.slice cc cj.length cd)) (fun _ hk => ⟨hk.1.1.1.1, ⟨hk.1.1.1.2.1, ⟨hk.1.1.1.2.2.1, ⟨hk.1.1.2, ⟨hk.1.2, ⟨hk.1.1.1.2.2.2.1, ⟨hk.1.1.1.2.2.2.2.1, ⟨hk.1.1.1.2.2.2.2.2.1, ⟨hk.1.1.1.2.2.2.2.2.2.1, ⟨hk.1.1.1.2.2.2.2.2.2.2.1, hk.1.1.1.2.2.2.2.2.2.2.2⟩⟩⟩⟩⟩⟩⟩⟩⟩⟩)⟩, ⟨by (with_reducible repeat (first | apply Kd.V_alloc | apply Kd.V_drewN | apply Kd.V_drew)); exact Kd.V_mono (Kd.V_far (p := ⟨ae, 1, none⟩) (Kd.V_far (p := ⟨ae, 0, none⟩) (Kd.V_mono ad.out (fun k_ hk => (⟨hk, hk.1.1.2.2.2.2.2.2.2.1⟩ : _ ∧ k_ ≠ ae))) (fun _ hk => hk.2) (.slice bO ce.length bP)) (fun _ hk => hk.2) (.slice cc cj.length cd)) (fun _ hk => ⟨hk.1.1.1.1, ⟨hk.1.1.1.2.1, ⟨hk.1.1.1.2.2.1, ⟨hk.1.1.2, ⟨hk.1.2, ⟨hk.1.1.1.2.2.2.1, ⟨hk.1.1.1.2.2.2.2.1, ⟨hk.1.1.1.2.2.2.2.2.1, ⟨hk.1.1.1.2.2.2.2.2.2.1, ⟨hk.1.1.1.2.2.2.2.2.2.2.1, hk.1.1.1.2.2.2.2.2.2.2.2⟩⟩⟩⟩⟩⟩⟩⟩⟩⟩)⟩, ⟨by (with_reducible repeat (first | apply Ra_ | apply Rn_ | apply Rd_)); exact Kd.R_mono (Kd.R_far (p := ⟨ae, 1, none⟩) (Kd.R_far (p := ⟨ae, 0, none⟩) (Kd.R_types aa.out ag.out (by decide)) (fun _ hk => hk.2) (.slice bO ce.length bP)) (fun _ hk => hk.2) (.slice cc cj.length cd)) (fun _ hk => ⟨hk.1.1, hk.1.2⟩)⟩, ⟨by (with_reducible repeat (first | apply Ra_ | apply Rn_ | apply Rd_)); exact Kd.R_mono (Kd.R_far (p := ⟨ae, 1, none⟩) (Kd.R_far (p := ⟨ae, 0, none⟩) (Kd.R_types ab.out ag.out (by decide)) (fun _ hk => hk.2) (.slice bO ce.length bP)) (fun _ hk => hk.2) (.slice cc cj.length cd)) (fun _ hk => ⟨hk.1.1, hk.1.2⟩)⟩, ⟨by (with_reducible repeat (first | apply Ra_ | apply Rn_ | apply Rd_)); exact Kd.R_mono (Kd.R_far (p := ⟨ae, 1, none⟩) (Kd.R_far (p := ⟨ae, 0, none⟩) (Kd.R_types fF.out ag.out (by decide)) (fun _ hk => hk.2) (.slice bO ce.length bP)) (fun _ hk => hk.2) (.slice cc cj.length cd)) (fun _ hk => ⟨hk.1.1.1, hk.1.2⟩)⟩, ⟨by (with_reducible repeat (first | apply Ra_ | apply Rn_ | apply Rd_)); exact Kd.R_mono (Kd.R_far (p := ⟨ae, 1, none⟩) (Kd.R_far (p := ⟨ae, 0, none⟩) (Kd.R_types fG.out ag.out (by decide)) (fun _ hk => hk.2) (.slice bO ce.length bP)) (fun _ hk => hk.2) (.slice cc cj.length cd)) (fun _ hk => ⟨hk.1.1.1, hk.1.2⟩)⟩, ⟨(fa_ (fa_ (h_ af) aC.out) aC.out)⟩, ⟨(fa_ (fa_ (h_ ak) aA.out) aA.out)⟩, ⟨(fa_ (fa_ (h_ ai) ay.out) ay.out)⟩, ⟨(fa_ (fa_ (h_ aj) aH.out) aH.out)⟩, ⟨(pu_ (cs := #[.slice bO ce.length bP, .slice none 0 0]) (pu_ (cs := #[.slice none 0 0, .slice none 0 0]) (h_ ag)))⟩, ⟨(fa_ (fa_ (h_ ah) aJ.out) aJ.out)⟩, ⟨b_ HB⟩⟩
    subst c366
    rw [if_pos rfl] at H
    replace H := Option.bind_eq_some_iff.mp H
    obtain ⟨oR, A3670, H⟩ := H
    try dsimp only at H
    have A367 := mk0 A3670
    clear A3670
    have H' := mk0 H
    clear H
    have xo := bm.out
    have xp := bl.out
    have xq := aR.out
    have xr := aT.out
    have xt := bo.out
    have xu := bx.out
    have xv := aA.out
    have xw := bf.out
    have xx := aK.out
    have xy := bk.out
    obtain ⟨fl, fm, fn, fo, fp, fq, fr, fs, ft, fu, fv, fw⟩ := c6_ ak
    go_wp2_with (first | (go_at_call 38; (with_reducible refine (quorumref8_Write.calls a1_2 a1_3 a1_4 a1_5 oR _ A367.out).mono ?_); rintro e w374 ⟨rfl, hb⟩; have n2_ := mk0 (Kd.R_below (r2_ (Kd.R_mono (Kd.R_far (p := ⟨ae, 1, none⟩) (Kd.R_far (p := ⟨ae, 0, none⟩) (Kd.R_types aa.out ag.out (by decide)) (fun _ hk => hk.2) (.slice bO ce.length bP)) (fun _ hk => hk.2) (.slice cc cj.length cd)) (fun _ h_ => h_.1))) hb); have n3_ := mk0 (Kd.R_below (r2_ (Kd.R_mono (Kd.R_far (p := ⟨ae, 1, none⟩) (Kd.R_far (p := ⟨ae, 0, none⟩) (Kd.R_types ab.out ag.out (by decide)) (fun _ hk => hk.2) (.slice bO ce.length bP)) (fun _ hk => hk.2) (.slice cc cj.length cd)) (fun _ h_ => h_.1))) hb); have n4_ := mk0 (Kd.R_below (r2_ (Kd.R_mono (Kd.R_far (p := ⟨ae, 1, none⟩) (Kd.R_far (p := ⟨ae, 0, none⟩) (Kd.R_types fF.out ag.out (by decide)) (fun _ hk => hk.2) (.slice bO ce.length bP)) (fun _ hk => hk.2) (.slice cc cj.length cd)) (fun _ h_ => h_.1))) hb); have n5_ := mk0 (Kd.R_below (r2_ (Kd.R_mono (Kd.R_far (p := ⟨ae, 1, none⟩) (Kd.R_far (p := ⟨ae, 0, none⟩) (Kd.R_types fG.out ag.out (by decide)) (fun _ hk => hk.2) (.slice bO ce.length bP)) (fun _ hk => hk.2) (.slice cc cj.length cd)) (fun _ h_ => h_.1))) hb); replace ac := mk0 (Kd.V_below (v2_ (Kd.V_mono (Kd.V_far (p := ⟨ae, 1, none⟩) (Kd.V_far (p := ⟨ae, 0, none⟩) (Kd.V_mono ac.out (fun k_ hk => (⟨hk, hk.1.1.2.2.2.2.2.2.2.1⟩ : _ ∧ k_ ≠ ae))) (fun _ hk => hk.2) (.slice bO ce.length bP)) (fun _ hk => hk.2) (.slice cc cj.length cd)) (fun _ h_ => h_.1))) hb); replace ad := mk0 (Kd.V_below (v2_ (Kd.V_mono (Kd.V_far (p := ⟨ae, 1, none⟩) (Kd.V_far (p := ⟨ae, 0, none⟩) (Kd.V_mono ad.out (fun k_ hk => (⟨hk, hk.1.1.2.2.2.2.2.2.2.1⟩ : _ ∧ k_ ≠ ae))) (fun _ hk => hk.2) (.slice bO ce.length bP)) (fun _ hk => hk.2) (.slice cc cj.length cd)) (fun _ h_ => h_.1))) hb); replace af := mk0 (blk_below (g := bd) (o := .cells #[.slice A0_0 aD.length c0_0, .slice A0_1 aM.length c0_1] 34 (0, 0)) (fa_ (fa_ (h_ af) aC.out) aC.out) hb); replace ak := mk0 (blk_below (g := bq) (o := .cells #[.int .i64 a1_0, .int .i64 a1_1, .int .i64 a1_2, .string a1_3, .string a1_4, .bool a1_5] 62 (0, 0)) (fa_ (fa_ (h_ ak) aA.out) aA.out) hb); replace ai := mk0 (blk_below (g := ap) (o := .cells #[.slice none 0 0, .slice none 0 0] 34 (0, 0)) (fa_ (fa_ (h_ ai) ay.out) ay.out) hb); replace aj := mk0 (blk_below (g := aV) (o := .cells #[.slice bc aG.length bb, .slice bj aN.length bi] 34 (0, 0)) (fa_ (fa_ (h_ aj) aH.out) aH.out) hb); replace ag := mk0 (blk_below (g := ae) (o := .cells #[.slice bO ce.length bP, .slice cc cj.length cd] 34 (0, 0)) (pu_ (cs := #[.slice bO ce.length bP, .slice none 0 0]) (pu_ (cs := #[.slice none 0 0, .slice none 0 0]) (h_ ag))) hb); replace ah := mk0 (blk_below (g := am) (o := .cells #[.slice none 0 0, .slice none 0 0] 34 (0, 0)) (fa_ (fa_ (h_ ah) aJ.out) aJ.out) hb); replace HB := mk0 (bt_ (b_ HB) hb); clear aa ab fF fG; have aa := n2_; have ab := n3_; have fF := n4_; have fG := n5_; clear n2_ n3_ n4_ n5_; (try clear hb)))
    go_meet
    case rel => exact ⟨_, (oR), (by first | rfl | (simp; done) | (simp [*]; done)), H', ⟨by have := cT.out; have := dy.out; first | omega | exact Nat.le_refl _⟩, ⟨by (with_reducible repeat (first | apply Kd.V_alloc | apply Kd.V_drewN | apply Kd.V_drew)); exact Kd.V_mono ac.out (fun _ hk => ⟨hk.1.1.1, ⟨hk.1.1.2.1, ⟨hk.1.1.2.2.1, ⟨hk.1.2, ⟨hk.2, ⟨hk.1.1.2.2.2.1, ⟨hk.1.1.2.2.2.2.1, ⟨hk.1.1.2.2.2.2.2.1, ⟨hk.1.1.2.2.2.2.2.2.1, ⟨hk.1.1.2.2.2.2.2.2.2.1, hk.1.1.2.2.2.2.2.2.2.2⟩⟩⟩⟩⟩⟩⟩⟩⟩⟩)⟩, ⟨by (with_reducible repeat (first | apply Kd.V_alloc | apply Kd.V_drewN | apply Kd.V_drew)); exact Kd.V_mono ad.out (fun _ hk => ⟨hk.1.1.1, ⟨hk.1.1.2.1, ⟨hk.1.1.2.2.1, ⟨hk.1.2, ⟨hk.2, ⟨hk.1.1.2.2.2.1, ⟨hk.1.1.2.2.2.2.1, ⟨hk.1.1.2.2.2.2.2.1, ⟨hk.1.1.2.2.2.2.2.2.1, ⟨hk.1.1.2.2.2.2.2.2.2.1, hk.1.1.2.2.2.2.2.2.2.2⟩⟩⟩⟩⟩⟩⟩⟩⟩⟩)⟩, ⟨by (with_reducible repeat (first | apply Ra_ | apply Rn_ | apply Rd_)); exact aa.out⟩, ⟨by (with_reducible repeat (first | apply Ra_ | apply Rn_ | apply Rd_)); exact ab.out⟩, ⟨by (with_reducible repeat (first | apply Ra_ | apply Rn_ | apply Rd_)); exact Kd.R_mono fF.out (fun _ hk => ⟨hk.1.1, hk.2⟩)⟩, ⟨by (with_reducible repeat (first | apply Ra_ | apply Rn_ | apply Rd_)); exact Kd.R_mono fG.out (fun _ hk => ⟨hk.1.1, hk.2⟩)⟩, ⟨h_ af⟩, ⟨h_ ak⟩, ⟨h_ ai⟩, ⟨h_ aj⟩, ⟨h_ ag⟩, ⟨h_ ah⟩, ⟨b_ HB⟩⟩
   clear HC347
   try clear c31
   try clear c35
   try clear c199
   try clear eP
   try clear eQ
   try clear c319
   try clear gJ
   try clear gK
   try clear c366
   try clear eR eS eT eU
   try clear eV eW eX eY eZ fa fb fc fd fe ff fg
   try clear fh fi fj fk
   try clear fl fm fn fo fp fq fr fs ft fu fv fw
   obtain ⟨kq, eI, rfl, HA, ly, ac, ad, aa, ab, al, an, af, ak, ai, aj, ag, ah, HB⟩ := hcut
   cases kq with
   | zero => exact absurd HA.out (by simp [quorumlaw10_step.j4])
   | succ kj346 =>
   have H := HA.out
   clear HA
   simp only [quorumlaw10_step.j4] at H
   as_aux_lemma =>
   by_cases c375 : eI = true
   rotate_left
   ·replace c375 := Bool.eq_false_iff.mpr c375
    subst c375
    rw [if_neg (show ¬ (false = true) by decide)] at H
    have H' := mk0 H
    clear H
    go_wp2
    go_meet
    case rel => exact ⟨_, (1), (0), (0), (lp), (ce), (cj), (([] : List (S36))), (([] : List Int)), (.slice bO ce.length bP), (.slice cc cj.length cd), (.slice none 0 0), (.slice none 0 0), (by first | rfl | (simp; done) | (simp [*]; done)), (by first | rfl | (simp; done) | (simp [*]; done)), (by first | rfl | (simp; done) | (simp [*]; done)), (by first | rfl | (simp; done) | (simp [*]; done)), H', ⟨by have := cT.out; have := dy.out; have := ly.out; first | omega | exact Nat.le_refl _⟩, ⟨by (with_reducible repeat (first | apply Kd.V_alloc | apply Kd.V_drewN | apply Kd.V_drew)); exact Kd.V_mono ac.out (fun _ hk => ⟨hk.1, ⟨hk.2.1, ⟨hk.2.2.1, ⟨hk.2.2.2.1, ⟨hk.2.2.2.2.1, ⟨(by simp [Value.ownBlock]), ⟨(by simp [Value.ownBlock]), ⟨hk.2.2.2.2.2.1, ⟨hk.2.2.2.2.2.2.1, ⟨hk.2.2.2.2.2.2.2.1, ⟨hk.2.2.2.2.2.2.2.2.1, ⟨hk.2.2.2.2.2.2.2.2.2.1, hk.2.2.2.2.2.2.2.2.2.2⟩⟩⟩⟩⟩⟩⟩⟩⟩⟩⟩⟩)⟩, ⟨by (with_reducible repeat (first | apply Kd.V_alloc | apply Kd.V_drewN | apply Kd.V_drew)); exact Kd.V_mono ad.out (fun _ hk => ⟨hk.1, ⟨hk.2.1, ⟨hk.2.2.1, ⟨hk.2.2.2.1, ⟨hk.2.2.2.2.1, ⟨(by simp [Value.ownBlock]), ⟨(by simp [Value.ownBlock]), ⟨hk.2.2.2.2.2.1, ⟨hk.2.2.2.2.2.2.1, ⟨hk.2.2.2.2.2.2.2.1, ⟨hk.2.2.2.2.2.2.2.2.1, ⟨hk.2.2.2.2.2.2.2.2.2.1, hk.2.2.2.2.2.2.2.2.2.2⟩⟩⟩⟩⟩⟩⟩⟩⟩⟩⟩⟩)⟩, ⟨by (with_reducible repeat (first | apply Ra_ | apply Rn_ | apply Rd_)); exact Kd.R_mono aa.out (fun _ hk => ⟨hk.1, ⟨hk.2, (by simp [Value.ownBlock])⟩⟩)⟩, ⟨by (with_reducible repeat (first | apply Ra_ | apply Rn_ | apply Rd_)); exact Kd.R_mono ab.out (fun _ hk => ⟨hk.1, ⟨hk.2, (by simp [Value.ownBlock])⟩⟩)⟩, ⟨by (with_reducible repeat (first | apply Ra_ | apply Rn_ | apply Rd_)); exact Kd.R_mono al.out (fun _ hk => ⟨hk.1, ⟨hk.2, (by simp [Value.ownBlock])⟩⟩)⟩, ⟨by (with_reducible repeat (first | apply Ra_ | apply Rn_ | apply Rd_)); exact Kd.R_mono an.out (fun _ hk => ⟨hk.1, ⟨hk.2, (by simp [Value.ownBlock])⟩⟩)⟩, ⟨by first | exact Kd.R_nil _ _ _ _ _ | exact Kd.N_nil _ _ _ _ _ | exact Kd.V_nil _ _ _ _ _ | exact Kd.Q_nil _ _ _ _ _ | exact Kd.S_nil _ _ _ _ _⟩, ⟨by first | exact Kd.R_nil _ _ _ _ _ | exact Kd.N_nil _ _ _ _ _ | exact Kd.V_nil _ _ _ _ _ | exact Kd.Q_nil _ _ _ _ _ | exact Kd.S_nil _ _ _ _ _⟩, ⟨h_ af⟩, ⟨h_ ak⟩, ⟨h_ ai⟩, ⟨h_ aj⟩, ⟨h_ ag⟩, ⟨h_ ah⟩, ⟨b_ HB⟩⟩
   subst c375
   rw [if_pos rfl] at H
   by_cases c376 : (aD.length : Int) < 12
   rotate_left
   ·rw [if_neg c376] at H
    have lh : decide ((aD.length : Int) < 12) = false := decide_eq_false c376
    have li : decide (aD.length < 12) = false := decide_eq_false (by omega)
    clear c376
    have H' := mk0 H
    clear H
    have xz := bl.out
    have xA := bm.out
    have xB := ax.out
    have xC := be.out
    have xD := bn.out
    have xE := bw.out
    have xF := aC.out
    have xG := bp.out
    have xH := aZ.out
    have xI := bF.out
    obtain ⟨jq, jr, js, jt⟩ := c2_ af
    go_wp2
    go_meet
    case rel => exact ⟨_, (2), (0), (0), (lp), (ce), (cj), (([] : List (S36))), (([] : List Int)), (.slice bO ce.length bP), (.slice cc cj.length cd), (.slice none 0 0), (.slice none 0 0), (by first | rfl | (simp; done) | (simp [*]; done)), (by first | rfl | (simp; done) | (simp [*]; done)), (by first | rfl | (simp; done) | (simp [*]; done)), (by first | rfl | (simp; done) | (simp [*]; done)), H', ⟨by have := cT.out; have := dy.out; have := ly.out; first | omega | exact Nat.le_refl _⟩, ⟨by (with_reducible repeat (first | apply Kd.V_alloc | apply Kd.V_drewN | apply Kd.V_drew)); exact Kd.V_mono ac.out (fun _ hk => ⟨hk.1, ⟨hk.2.1, ⟨hk.2.2.1, ⟨hk.2.2.2.1, ⟨hk.2.2.2.2.1, ⟨(by simp [Value.ownBlock]), ⟨(by simp [Value.ownBlock]), ⟨hk.2.2.2.2.2.1, ⟨hk.2.2.2.2.2.2.1, ⟨hk.2.2.2.2.2.2.2.1, ⟨hk.2.2.2.2.2.2.2.2.1, ⟨hk.2.2.2.2.2.2.2.2.2.1, hk.2.2.2.2.2.2.2.2.2.2⟩⟩⟩⟩⟩⟩⟩⟩⟩⟩⟩⟩)⟩, ⟨by (with_reducible repeat (first | apply Kd.V_alloc | apply Kd.V_drewN | apply Kd.V_drew)); exact Kd.V_mono ad.out (fun _ hk => ⟨hk.1, ⟨hk.2.1, ⟨hk.2.2.1, ⟨hk.2.2.2.1, ⟨hk.2.2.2.2.1, ⟨(by simp [Value.ownBlock]), ⟨(by simp [Value.ownBlock]), ⟨hk.2.2.2.2.2.1, ⟨hk.2.2.2.2.2.2.1, ⟨hk.2.2.2.2.2.2.2.1, ⟨hk.2.2.2.2.2.2.2.2.1, ⟨hk.2.2.2.2.2.2.2.2.2.1, hk.2.2.2.2.2.2.2.2.2.2⟩⟩⟩⟩⟩⟩⟩⟩⟩⟩⟩⟩)⟩, ⟨by (with_reducible repeat (first | apply Ra_ | apply Rn_ | apply Rd_)); exact Kd.R_mono aa.out (fun _ hk => ⟨hk.1, ⟨hk.2, (by simp [Value.ownBlock])⟩⟩)⟩, ⟨by (with_reducible repeat (first | apply Ra_ | apply Rn_ | apply Rd_)); exact Kd.R_mono ab.out (fun _ hk => ⟨hk.1, ⟨hk.2, (by simp [Value.ownBlock])⟩⟩)⟩, ⟨by (with_reducible repeat (first | apply Ra_ | apply Rn_ | apply Rd_)); exact Kd.R_mono al.out (fun _ hk => ⟨hk.1, ⟨hk.2, (by simp [Value.ownBlock])⟩⟩)⟩, ⟨by (with_reducible repeat (first | apply Ra_ | apply Rn_ | apply Rd_)); exact Kd.R_mono an.out (fun _ hk => ⟨hk.1, ⟨hk.2, (by simp [Value.ownBlock])⟩⟩)⟩, ⟨by first | exact Kd.R_nil _ _ _ _ _ | exact Kd.N_nil _ _ _ _ _ | exact Kd.V_nil _ _ _ _ _ | exact Kd.Q_nil _ _ _ _ _ | exact Kd.S_nil _ _ _ _ _⟩, ⟨by first | exact Kd.R_nil _ _ _ _ _ | exact Kd.N_nil _ _ _ _ _ | exact Kd.V_nil _ _ _ _ _ | exact Kd.Q_nil _ _ _ _ _ | exact Kd.S_nil _ _ _ _ _⟩, ⟨h_ af⟩, ⟨h_ ak⟩, ⟨h_ ai⟩, ⟨h_ aj⟩, ⟨h_ ag⟩, ⟨h_ ah⟩, ⟨b_ HB⟩⟩
   rw [if_pos c376] at H
   have lh : decide ((aD.length : Int) < 12) = true := decide_eq_true c376
   have li : decide (aD.length < 12) = true := decide_eq_true (by omega)
   clear c376
   replace H := Option.bind_eq_some_iff.mp H
   obtain ⟨⟨cQ, cR⟩, A3770, H⟩ := H
   try dsimp only at H
   have A377 := mk0 A3770
   clear A3770
   by_cases c378 : cQ.length < 2932031007402
   rotate_left
   ·rw [if_neg c378] at H
    exact absurd H (by simp)
   rw [if_pos c378] at H
   have LMc378 := mk0 c378
   clear c378
   obtain ⟨fx, hy428⟩ : ∃ y_ : List (S36), y_ = (cQ ++ [(⟨a1_2, a1_3, a1_4, a1_5⟩ : S36)]) := ⟨_, rfl⟩
   replace H : (quorumlaw10_step.j5 kj346 dw 0 0 0 lp aD aM aG aN ce cj fx cR) = some (r1, r2, r3) := by first | (rw [hy428]; with_reducible exact H) | (have H2_ := (Option.bind_some _ _).symm.trans H; rw [hy428]; with_reducible exact H2_) | (have H2_ := (Option.bind_some _ _).symm.trans H; with_reducible exact H2_) | with_reducible exact H | (rw [hy428]; exact H) | exact H
   have Ny428 := mk0 hy428
   clear hy428
   have H' := mk0 H
   clear H
   have xJ := bl.out
   have xK := bm.out
   have xL := ax.out
   have xM := be.out
   have xN := bn.out
   have xO := bw.out
   have xP := aC.out
   have xQ := bp.out
   have xR := aZ.out
   have xS := bF.out
   obtain ⟨ju, jv, jw, jx⟩ := c2_ af
   go_wp2_with (first | ((with_reducible refine gate_callee (f := 24) rfl ?_); refine gL_ (some 48) Try.func24 #[.agg #[.slice A0_0 aD.length c0_0, .slice A0_1 aM.length c0_1]] (h := ?_); (with_reducible refine (quorumref0_CopyPend.calls kj346 _ _ aD _ _ aM cQ cR _ ?side1 ?side2 ?side3 ?side4 A377.out).mono ?_); (case side1 => exact cv_ ac); (case side2 => exact (Kd.V_reads' ac.out).2.1); (case side3 => exact cv_ ad); (case side4 => exact (Kd.V_reads' ad.out).2.1); rintro e w385 ⟨v423, v426, rfl, ho0, ho1, hb⟩; refine ⟨_, rfl, ?_⟩; have n6_ := mk0 (Kd.R_lower (Kd.R_new' (Kd.R_new' (Kd.R_newM (M := fun k_ => (w.heap.size ≤ k_)) ho0 (bz_ (b_ HB)) (fun k_ h_ => h_)) (Kd.R_lt (r_ aa))) (Kd.R_lt (r_ al))) (bz_ (b_ HB))); have n7_ := mk0 (Kd.R_lower (Kd.R_new' (Kd.R_new' (Kd.R_newM (M := fun k_ => (w.heap.size ≤ k_)) ho1 (bz_ (b_ HB)) (fun k_ h_ => h_)) (Kd.R_lt (r_ ab))) (Kd.R_lt (r_ an))) (bz_ (b_ HB))); replace ac := mk0 (Kd.V_mono (Kd.V_told (Kd.V_told (Kd.V_old (v_ ac) hb) (Kd.R_base ho0)) (Kd.R_base ho1)) (fun _ h_ => h_.1)); replace ad := mk0 (Kd.V_mono (Kd.V_told (Kd.V_told (Kd.V_old (v_ ad) hb) (Kd.R_base ho0)) (Kd.R_base ho1)) (fun _ h_ => h_.1)); replace aa := mk0 (Kd.R_elder' (r_ aa) (Kd.R_base ho0) hb); replace ab := mk0 (Kd.R_elder' (r_ ab) (Kd.R_base ho1) hb); replace al := mk0 (Kd.R_elder' (r_ al) (Kd.R_base ho0) hb); replace an := mk0 (Kd.R_elder' (r_ an) (Kd.R_base ho1) hb); replace af := mk0 (u_ af hb); replace ak := mk0 (u_ ak hb); replace ai := mk0 (u_ ai hb); replace aj := mk0 (u_ aj hb); replace ag := mk0 (u_ ag hb); replace ah := mk0 (u_ ah hb); replace HB := mk0 (bt_ (b_ HB) hb); have db := n6_; have jy := n7_; clear n6_ n7_; (try clear hb); (try clear ho0); (try clear ho1); obtain ⟨cE, cF, oS⟩ := Kd.R_slice db.out; subst oS; have xT := bk.out; have xU := aK.out; have xV := bg.out; have xW := aI.out; have xX := bG.out; have xY := ba.out; have xZ := aJ.out; have ya := aW.out; obtain ⟨jz, jA, jB, jC⟩ := c2_ ah; obtain ⟨cv, cw, oT⟩ := Kd.R_slice jy.out; subst oT; have yb := aR.out; have yc := aT.out; have yd := bo.out; have ye := bx.out; have yf := aA.out; have yg := bf.out; obtain ⟨jD, jE, jF, jG, jH, jI, jJ, jK, jL, jM, jN, jO⟩ := c6_ ak) | ((with_reducible refine gate_builtin (b := .append) (xs := #[.tmp 50, .tmp 53]) rfl ?_); at_builtin; refine Kd.R_append k36 (w0 := w) w.heap.size rfl (.tmp 50) (.tmp 53) 32 36 (.agg #[(.int .i64 0), (.string ⟨#[]⟩), (.string ⟨#[]⟩), (.bool false)]) 48 rfl Try.underlying32 info36 rfl (by decide) (by omega) (.slice cE cQ.length cF) cQ (⟨a1_2, a1_3, a1_4, a1_5⟩ : S36) [.int .i64 a1_2, .string a1_3, .string a1_4, .bool a1_5] (fun k_ => (w.heap.size ≤ k_) ∧ some k_ ≠ (.slice bc aG.length bb : Value).ownBlock ∧ some k_ ≠ (.slice bO ce.length bP : Value).ownBlock) (fun _ => False) rfl (by first | (go_simp; done) | (go_simp; rfl)) ?aP (fun _ hk => hk.elim) ?aF ?aO ?aB ?aS ?aL ?_; (case aP => exact k36_mkM _ _ _ (⟨a1_2, a1_3, a1_4, a1_5⟩ : S36)); (case aB => exact (b_ HB)); (case aF => exact (fun k_ hk => ⟨(Nat.le_trans (bz_ (b_ HB)) hk), Kd.fresh' (Kd.R_lt (r2_ (Kd.R_mono (Kd.R_far (p := ⟨am, 1, none⟩) (Kd.R_far (p := ⟨am, 0, none⟩) (Kd.R_types aa.out ah.out (by decide)) (fun _ hk => hk.2) (.slice cE cQ.length cF)) (fun _ hk => hk.2) (.slice cv cR.length cw)) (fun _ h_ => h_.1)))) k_ hk, Kd.fresh' (Kd.R_lt (r2_ (Kd.R_mono (Kd.R_far (p := ⟨am, 1, none⟩) (Kd.R_far (p := ⟨am, 0, none⟩) (Kd.R_types al.out ah.out (by decide)) (fun _ hk => hk.2) (.slice cE cQ.length cF)) (fun _ hk => hk.2) (.slice cv cR.length cw)) (fun _ h_ => h_.1)))) k_ hk⟩)); (case aO => exact (r2_ (Kd.R_mono (Kd.R_far (p := ⟨am, 1, none⟩) (Kd.R_far (p := ⟨am, 0, none⟩) (Kd.R_types db.out ah.out (by decide)) (fun _ hk => hk.2) (.slice cE cQ.length cF)) (fun _ hk => hk.2) (.slice cv cR.length cw)) (fun _ hk => ⟨hk.1.1.1.1, ⟨hk.1.1.2, hk.1.2⟩⟩)))); (case aS => exact (bz_ (b_ HB))); (case aL => have := LMc378.out; omega); intro v429 w397 ho hb hg hat; rw [← Ny428.out] at ho; have n2_ := mk0 (Kd.R_after (ok := (fun k_ => (w.heap.size ≤ k_) ∧ some k_ ≠ (.slice bO ce.length bP : Value).ownBlock)) (r2_ (Kd.R_mono (Kd.R_far (p := ⟨am, 1, none⟩) (Kd.R_far (p := ⟨am, 0, none⟩) (Kd.R_types aa.out ah.out (by decide)) (fun _ hk => hk.2) (.slice cE cQ.length cF)) (fun _ hk => hk.2) (.slice cv cR.length cw)) (fun _ hk => ⟨⟨hk.1.1.1, hk.1.1.2⟩, hk.1.2⟩))) hg hat); have n3_ := mk0 (Kd.R_over' (r2_ (Kd.R_mono (Kd.R_far (p := ⟨am, 1, none⟩) (Kd.R_far (p := ⟨am, 0, none⟩) (Kd.R_types ab.out ah.out (by decide)) (fun _ hk => hk.2) (.slice cE cQ.length cF)) (fun _ hk => hk.2) (.slice cv cR.length cw)) (fun _ h_ => h_.1))) (Kd.R_typed (r2_ (Kd.R_mono (Kd.R_far (p := ⟨am, 1, none⟩) (Kd.R_far (p := ⟨am, 0, none⟩) (Kd.R_types db.out ah.out (by decide)) (fun _ hk => hk.2) (.slice cE cQ.length cF)) (fun _ hk => hk.2) (.slice cv cR.length cw)) (fun _ h_ => h_.1)))) (by decide) hg); have n4_ := mk0 (Kd.R_after (ok := (fun k_ => (w.heap.size ≤ k_) ∧ some k_ ≠ (.slice bc aG.length bb : Value).ownBlock)) (r2_ (Kd.R_mono (Kd.R_far (p := ⟨am, 1, none⟩) (Kd.R_far (p := ⟨am, 0, none⟩) (Kd.R_types al.out ah.out (by decide)) (fun _ hk => hk.2) (.slice cE cQ.length cF)) (fun _ hk => hk.2) (.slice cv cR.length cw)) (fun _ hk => ⟨⟨hk.1.1.1, hk.1.1.2⟩, hk.1.2⟩))) hg hat); have n5_ := mk0 (Kd.R_over' (r2_ (Kd.R_mono (Kd.R_far (p := ⟨am, 1, none⟩) (Kd.R_far (p := ⟨am, 0, none⟩) (Kd.R_types an.out ah.out (by decide)) (fun _ hk => hk.2) (.slice cE cQ.length cF)) (fun _ hk => hk.2) (.slice cv cR.length cw)) (fun _ h_ => h_.1))) (Kd.R_typed (r2_ (Kd.R_mono (Kd.R_far (p := ⟨am, 1, none⟩) (Kd.R_far (p := ⟨am, 0, none⟩) (Kd.R_types db.out ah.out (by decide)) (fun _ hk => hk.2) (.slice cE cQ.length cF)) (fun _ hk => hk.2) (.slice cv cR.length cw)) (fun _ h_ => h_.1)))) (by decide) hg); have n12_ := mk0 (Kd.R_over' (r2_ (Kd.R_mono (Kd.R_far (p := ⟨am, 1, none⟩) (Kd.R_far (p := ⟨am, 0, none⟩) (Kd.R_types jy.out ah.out (by decide)) (fun _ hk => hk.2) (.slice cE cQ.length cF)) (fun _ hk => hk.2) (.slice cv cR.length cw)) (fun _ h_ => h_.1))) (Kd.R_typed (r2_ (Kd.R_mono (Kd.R_far (p := ⟨am, 1, none⟩) (Kd.R_far (p := ⟨am, 0, none⟩) (Kd.R_types db.out ah.out (by decide)) (fun _ hk => hk.2) (.slice cE cQ.length cF)) (fun _ hk => hk.2) (.slice cv cR.length cw)) (fun _ h_ => h_.1)))) (by decide) hg); replace ac := mk0 (Kd.V_afterv (ok := (fun k_ => ((P0_0_ k_ ∨ P0_1_ k_) ∨ w.heap.size ≤ k_) ∧ some k_ ≠ (.slice bc aG.length bb : Value).ownBlock ∧ some k_ ≠ (.slice bj aN.length bi : Value).ownBlock ∧ some k_ ≠ (.slice bO ce.length bP : Value).ownBlock ∧ some k_ ≠ (.slice cc cj.length cd : Value).ownBlock ∧ some k_ ≠ (.slice cv cR.length cw : Value).ownBlock ∧ k_ ≠ bd ∧ k_ ≠ bq ∧ k_ ≠ ap ∧ k_ ≠ aV ∧ k_ ≠ ae ∧ k_ ≠ am)) (v2_ (Kd.V_mono (Kd.V_far (p := ⟨am, 1, none⟩) (Kd.V_far (p := ⟨am, 0, none⟩) (Kd.V_mono ac.out (fun k_ hk => (⟨hk, hk.1.1.2.2.2.2.2.2.2.2.2.2⟩ : _ ∧ k_ ≠ am))) (fun _ hk => hk.2) (.slice cE cQ.length cF)) (fun _ hk => hk.2) (.slice cv cR.length cw)) (fun _ hk => ⟨⟨hk.1.1.1.1, ⟨hk.1.1.1.2.1, ⟨hk.1.1.1.2.2.1, ⟨hk.1.1.1.2.2.2.1, ⟨hk.1.1.1.2.2.2.2.1, ⟨hk.1.2, ⟨hk.1.1.1.2.2.2.2.2.1, ⟨hk.1.1.1.2.2.2.2.2.2.1, ⟨hk.1.1.1.2.2.2.2.2.2.2.1, ⟨hk.1.1.1.2.2.2.2.2.2.2.2.1, ⟨hk.1.1.1.2.2.2.2.2.2.2.2.2.1, hk.1.1.1.2.2.2.2.2.2.2.2.2.2⟩⟩⟩⟩⟩⟩⟩⟩⟩⟩⟩, hk.1.1.2⟩))) hg hat); replace ad := mk0 (Kd.V_afterv (ok := (fun k_ => ((P0_0_ k_ ∨ P0_1_ k_) ∨ w.heap.size ≤ k_) ∧ some k_ ≠ (.slice bc aG.length bb : Value).ownBlock ∧ some k_ ≠ (.slice bj aN.length bi : Value).ownBlock ∧ some k_ ≠ (.slice bO ce.length bP : Value).ownBlock ∧ some k_ ≠ (.slice cc cj.length cd : Value).ownBlock ∧ some k_ ≠ (.slice cv cR.length cw : Value).ownBlock ∧ k_ ≠ bd ∧ k_ ≠ bq ∧ k_ ≠ ap ∧ k_ ≠ aV ∧ k_ ≠ ae ∧ k_ ≠ am)) (v2_ (Kd.V_mono (Kd.V_far (p := ⟨am, 1, none⟩) (Kd.V_far (p := ⟨am, 0, none⟩) (Kd.V_mono ad.out (fun k_ hk => (⟨hk, hk.1.1.2.2.2.2.2.2.2.2.2.2⟩ : _ ∧ k_ ≠ am))) (fun _ hk => hk.2) (.slice cE cQ.length cF)) (fun _ hk => hk.2) (.slice cv cR.length cw)) (fun _ hk => ⟨⟨hk.1.1.1.1, ⟨hk.1.1.1.2.1, ⟨hk.1.1.1.2.2.1, ⟨hk.1.1.1.2.2.2.1, ⟨hk.1.1.1.2.2.2.2.1, ⟨hk.1.2, ⟨hk.1.1.1.2.2.2.2.2.1, ⟨hk.1.1.1.2.2.2.2.2.2.1, ⟨hk.1.1.1.2.2.2.2.2.2.2.1, ⟨hk.1.1.1.2.2.2.2.2.2.2.2.1, ⟨hk.1.1.1.2.2.2.2.2.2.2.2.2.1, hk.1.1.1.2.2.2.2.2.2.2.2.2.2⟩⟩⟩⟩⟩⟩⟩⟩⟩⟩⟩, hk.1.1.2⟩))) hg hat); replace af := mk0 (blk_grown (g := bd) (o := .cells #[.slice A0_0 aD.length c0_0, .slice A0_1 aM.length c0_1] 34 (0, 0)) (fa_ (fa_ (h_ af) aZ.out) aZ.out) hg (Kd.R_ne db.out af.out (by decide))); replace ak := mk0 (blk_grown (g := bq) (o := .cells #[.int .i64 a1_0, .int .i64 a1_1, .int .i64 a1_2, .string a1_3, .string a1_4, .bool a1_5] 62 (0, 0)) (fa_ (fa_ (h_ ak) aK.out) aK.out) hg (Kd.R_ne db.out ak.out (by decide))); replace ai := mk0 (blk_grown (g := ap) (o := .cells #[.slice none 0 0, .slice none 0 0] 34 (0, 0)) (fa_ (fa_ (h_ ai) aI.out) aI.out) hg (Kd.R_ne db.out ai.out (by decide))); replace aj := mk0 (blk_grown (g := aV) (o := .cells #[.slice bc aG.length bb, .slice bj aN.length bi] 34 (0, 0)) (fa_ (fa_ (h_ aj) ba.out) ba.out) hg (Kd.R_ne db.out aj.out (by decide))); replace ag := mk0 (blk_grown (g := ae) (o := .cells #[.slice bO ce.length bP, .slice cc cj.length cd] 34 (0, 0)) (fa_ (fa_ (h_ ag) aW.out) aW.out) hg (Kd.R_ne db.out ag.out (by decide))); replace ah := mk0 (blk_grown (g := am) (o := .cells #[.slice cE cQ.length cF, .slice cv cR.length cw] 34 (0, 0)) (pu_ (cs := #[.slice cE cQ.length cF, .slice none 0 0]) (pu_ (cs := #[.slice none 0 0, .slice none 0 0]) (h_ ah))) hg (Kd.R_ne db.out ah.out (by decide))); replace HB := mk0 (hb); have nY := mk0 (ho); clear aa ab al an jy db; have aa := n2_; have ab := n3_; have al := n4_; have an := n5_; have jy := n12_; clear n2_ n3_ n4_ n5_ n12_ ho hb hg hat; obtain ⟨dI, dJ, oU⟩ := Kd.R_slice nY.out; subst oU; obtain ⟨jP, jQ, jR, jS⟩ := c2_ ah))
   go_meet
   case rel => exact ⟨_, (0), (0), (0), (lp), (ce), (cj), (fx), (cR), (.slice bO ce.length bP), (.slice cc cj.length cd), (.slice dI fx.length dJ), (.slice cv cR.length cw), (by first | rfl | (simp; done) | (simp [*]; done)), (by first | rfl | (simp; done) | (simp [*]; done)), (by first | rfl | (simp; done) | (simp [*]; done)), (by first | rfl | (simp; done) | (simp [*]; done)), H', ⟨by have := cT.out; have := dy.out; have := ly.out; first | omega | exact Nat.le_refl _⟩, ⟨by (with_reducible repeat (first | apply Kd.V_alloc | apply Kd.V_drewN | apply Kd.V_drew)); exact Kd.V_mono (Kd.V_far (p := ⟨am, 0, none⟩) (Kd.V_mono ac.out (fun k_ hk => (⟨hk, hk.1.2.2.2.2.2.2.2.2.2.2.2⟩ : _ ∧ k_ ≠ am))) (fun _ hk => hk.2) (.slice dI fx.length dJ)) (fun _ hk => ⟨hk.1.1.1, ⟨hk.1.1.2.1, ⟨hk.1.1.2.2.1, ⟨hk.1.1.2.2.2.1, ⟨hk.1.1.2.2.2.2.1, ⟨hk.1.2, ⟨hk.1.1.2.2.2.2.2.1, ⟨hk.1.1.2.2.2.2.2.2.1, ⟨hk.1.1.2.2.2.2.2.2.2.1, ⟨hk.1.1.2.2.2.2.2.2.2.2.1, ⟨hk.1.1.2.2.2.2.2.2.2.2.2.1, ⟨hk.1.1.2.2.2.2.2.2.2.2.2.2.1, hk.1.1.2.2.2.2.2.2.2.2.2.2.2⟩⟩⟩⟩⟩⟩⟩⟩⟩⟩⟩⟩)⟩, ⟨by (with_reducible repeat (first | apply Kd.V_alloc | apply Kd.V_drewN | apply Kd.V_drew)); exact Kd.V_mono (Kd.V_far (p := ⟨am, 0, none⟩) (Kd.V_mono ad.out (fun k_ hk => (⟨hk, hk.1.2.2.2.2.2.2.2.2.2.2.2⟩ : _ ∧ k_ ≠ am))) (fun _ hk => hk.2) (.slice dI fx.length dJ)) (fun _ hk => ⟨hk.1.1.1, ⟨hk.1.1.2.1, ⟨hk.1.1.2.2.1, ⟨hk.1.1.2.2.2.1, ⟨hk.1.1.2.2.2.2.1, ⟨hk.1.2, ⟨hk.1.1.2.2.2.2.2.1, ⟨hk.1.1.2.2.2.2.2.2.1, ⟨hk.1.1.2.2.2.2.2.2.2.1, ⟨hk.1.1.2.2.2.2.2.2.2.2.1, ⟨hk.1.1.2.2.2.2.2.2.2.2.2.1, ⟨hk.1.1.2.2.2.2.2.2.2.2.2.2.1, hk.1.1.2.2.2.2.2.2.2.2.2.2.2⟩⟩⟩⟩⟩⟩⟩⟩⟩⟩⟩⟩)⟩, ⟨by (with_reducible repeat (first | apply Ra_ | apply Rn_ | apply Rd_)); exact Kd.R_mono (Kd.R_far (p := ⟨am, 0, none⟩) (Kd.R_types aa.out ah.out (by decide)) (fun _ hk => hk.2) (.slice dI fx.length dJ)) (fun _ hk => ⟨hk.1.1.1, ⟨hk.1.1.2, hk.1.2⟩⟩)⟩, ⟨by (with_reducible repeat (first | apply Ra_ | apply Rn_ | apply Rd_)); exact Kd.R_mono (Kd.R_far (p := ⟨am, 0, none⟩) (Kd.R_types ab.out ah.out (by decide)) (fun _ hk => hk.2) (.slice dI fx.length dJ)) (fun _ hk => ⟨hk.1.1.1, ⟨hk.1.1.2, hk.1.2⟩⟩)⟩, ⟨by (with_reducible repeat (first | apply Ra_ | apply Rn_ | apply Rd_)); exact Kd.R_mono (Kd.R_far (p := ⟨am, 0, none⟩) (Kd.R_types al.out ah.out (by decide)) (fun _ hk => hk.2) (.slice dI fx.length dJ)) (fun _ hk => ⟨hk.1.1.1, ⟨hk.1.1.2, hk.1.2⟩⟩)⟩, ⟨by (with_reducible repeat (first | apply Ra_ | apply Rn_ | apply Rd_)); exact Kd.R_mono (Kd.R_far (p := ⟨am, 0, none⟩) (Kd.R_types an.out ah.out (by decide)) (fun _ hk => hk.2) (.slice dI fx.length dJ)) (fun _ hk => ⟨hk.1.1.1, ⟨hk.1.1.2, hk.1.2⟩⟩)⟩, ⟨by (with_reducible repeat (first | apply Ra_ | apply Rn_ | apply Rd_)); exact Kd.R_mono (Kd.R_far (p := ⟨am, 0, none⟩) (Kd.R_types nY.out ah.out (by decide)) (fun _ hk => hk.2) (.slice dI fx.length dJ)) (fun _ hk => ⟨hk.1.1, ⟨hk.1.2.1, hk.1.2.2⟩⟩)⟩, ⟨by (with_reducible repeat (first | apply Ra_ | apply Rn_ | apply Rd_)); exact Kd.R_mono (Kd.R_far (p := ⟨am, 0, none⟩) (Kd.R_types jy.out ah.out (by decide)) (fun _ hk => hk.2) (.slice dI fx.length dJ)) (fun _ hk => ⟨hk.1.1.1.1, ⟨hk.1.1.2, hk.1.2⟩⟩)⟩, ⟨(fa_ (h_ af) aZ.out)⟩, ⟨(fa_ (h_ ak) aK.out)⟩, ⟨(fa_ (h_ ai) aI.out)⟩, ⟨(fa_ (h_ aj) ba.out)⟩, ⟨(fa_ (h_ ag) aW.out)⟩, ⟨(pu_ (cs := #[.slice cE cQ.length cF, .slice cv cR.length cw]) (h_ ah))⟩, ⟨b_ HB⟩⟩
  rw [if_pos c199] at H
  have eP : (ch == 9) = true := beq_iff_eq.mpr c199
  have eQ : (ch != 9) = false := bne_eq_false_iff_eq.mpr c199
  clear c199
  replace H := Option.bind_eq_some_iff.mp H
  obtain ⟨⟨cf, ci, cq, cu, dQ⟩, A2000, H⟩ := H
  try dsimp only at H
  have A200 := mk0 A2000
  clear A2000
  replace H := Option.bind_eq_some_iff.mp H
  obtain ⟨⟨fC, gL⟩, A2010, H⟩ := H
  try dsimp only at H
  have A201 := mk0 A2010
  clear A2010
  have HC202 := mk0 H
  clear H
  have yh := bw.out
  have yi := bn.out
  have yj := bx.out
  have yk := bo.out
  have yl := aU.out
  have ym := aX.out
  have yn := aH.out
  have yo := bE.out
  have yp := ba.out
  have yq := bG.out
  obtain ⟨jT, jU, jV, jW⟩ := c2_ aj
  have yr := bm.out
  have ys := bl.out
  have yt := aR.out
  have yu := aT.out
  have yv := aA.out
  have yw := bf.out
  have yx := aK.out
  have yy := bk.out
  obtain ⟨jX, jY, jZ, ka, kb, kc, kd, ke, kf, kg, kh, ki⟩ := c6_ ak
  go_upto_if 129 with (first | ((with_reducible refine gate_callee (f := 59) rfl ?_); refine gL_ (some 121) Try.func59 #[.agg #[.slice bc aG.length bb, .slice bj aN.length bi], .int .i64 a1_2, .string a1_3] (h := ?_); (with_reducible refine (pend_Last.calls kj98 _ _ aG _ _ aN a1_2 a1_3 cf ci cq cu dQ _ ?side1 ?side2 ?side3 ?side4 A200.out).mono ?_); (case side1 => exact cr_ aa); (case side2 => exact (Kd.R_reads' aa.out).2.1); (case side3 => exact cr_ ab); (case side4 => exact (Kd.R_reads' ab.out).2.1); rintro e w214 ⟨rfl, hb⟩; refine ⟨_, rfl, ?_⟩; replace ac := mk0 (Kd.V_below (v_ ac) hb); replace ad := mk0 (Kd.V_below (v_ ad) hb); replace aa := mk0 (Kd.R_below (r_ aa) hb); replace ab := mk0 (Kd.R_below (r_ ab) hb); replace af := mk0 (u_ af hb); replace ak := mk0 (u_ ak hb); replace ai := mk0 (u_ ai hb); replace aj := mk0 (u_ aj hb); replace ag := mk0 (u_ ag hb); replace ah := mk0 (u_ ah hb); replace HB := mk0 (bt_ (b_ HB) hb); (try clear hb)) | ((with_reducible refine gate_dst (N := 14) rfl ?_); refine bx_ (N := 14) (cs := #[.int .i64 0, .string (⟨#[]⟩ : ByteArray), .string (⟨#[]⟩ : ByteArray), .bool false]) (t := 36) (h := ?_); intro aQ hg w215 hbox hb; have n12_ := mk0 (gz_ HB hg); have n13_ := mk0 (gz_ HB hg); have n14_ := mk0 (ne1_ af hg); have n15_ := mk0 (ne2_ af hg); have n16_ := mk0 (ne1_ ak hg); have n17_ := mk0 (ne2_ ak hg); have n18_ := mk0 (ne1_ ai hg); have n19_ := mk0 (ne2_ ai hg); have n20_ := mk0 (ne1_ aj hg); have n21_ := mk0 (ne2_ aj hg); have n22_ := mk0 (ne1_ ag hg); have n23_ := mk0 (ne2_ ag hg); have n24_ := mk0 (ne1_ ah hg); have n25_ := mk0 (ne2_ ah hg); replace ac := mk0 (Kd.V_below (Kd.V_elderB (v_ ac) aQ (Nat.le_of_eq hg.symm)) hb); replace ad := mk0 (Kd.V_below (Kd.V_elderB (v_ ad) aQ (Nat.le_of_eq hg.symm)) hb); replace aa := mk0 (Kd.R_below (Kd.R_elderB (r_ aa) aQ (Nat.le_of_eq hg.symm)) hb); replace ab := mk0 (Kd.R_below (r_ ab) hb); replace af := mk0 (u_ af hb); replace ak := mk0 (u_ ak hb); replace ai := mk0 (u_ ai hb); replace aj := mk0 (u_ aj hb); replace ag := mk0 (u_ ag hb); replace ah := mk0 (u_ ah hb); replace HB := mk0 (bt_ (b_ HB) hb); have aq := mk0 (hbox); have Gs := n12_; have Gt := n13_; have ck := n14_; have dh := n15_; have cg := n16_; have cU := n17_; have bH := n18_; have az := n19_; have cV := n20_; have lq := n21_; have cW := n22_; have lr := n23_; have cX := n24_; have ls := n25_; clear n12_ n13_ n14_ n15_ n16_ n17_ n18_ n19_ n20_ n21_ n22_ n23_ n24_ n25_ hb hbox hg; have yz := dh.out; have yA := ck.out; have yB := cU.out; have yC := cg.out; have yD := az.out; have yE := bH.out; have yF := lq.out; have yG := cV.out; have yH := lr.out; have yI := cW.out; have yJ := ls.out; have yK := cX.out; obtain ⟨kj, kk, kl, km, kn, ko, kp, kr⟩ := c4_ aq; obtain ⟨ks, kt, ku, kv⟩ := c2_ aj) | ((with_reducible refine gate_callee (f := 60) rfl ?_); refine gL_ (some 126) Try.func60 #[.agg #[.slice bc aG.length bb, .slice bj aN.length bi]] (h := ?_); (with_reducible refine (pend_Sum.calls kj98 _ _ aG _ _ aN fC gL _ ?side1 ?side2 ?side3 ?side4 A201.out).mono ?_); (case side1 => refine (Kd.R_reads' (e := 36) (base := w.heap.size) (ok := fun k_ => (((w.heap.size ≤ k_)) ∧ k_ ≠ aQ)) (n := aG.length) (c := bb) ?_).2.2; exact (r2_ (Kd.R_mono (Kd.R_far (p := ⟨aQ, 3, none⟩) (Kd.R_far (p := ⟨aQ, 2, none⟩) (Kd.R_far (p := ⟨aQ, 1, none⟩) (Kd.R_far (p := ⟨aQ, 0, none⟩) (Kd.R_mono aa.out (fun k_ hk => (⟨hk, hk.2⟩ : _ ∧ k_ ≠ aQ))) (fun _ hk => hk.2) (.int .i64 cf)) (fun _ hk => hk.2) (.string ci)) (fun _ hk => hk.2) (.string cq)) (fun _ hk => hk.2) (.bool cu)) (fun _ h_ => h_.1)))); (case side2 => exact (Kd.R_reads' aa.out).2.1); (case side3 => refine (Kd.R_reads' (e := 3) (base := w.heap.size) (ok := fun k_ => ((w.heap.size ≤ k_))) (n := aN.length) (c := bi) ?_).2.2; exact (r2_ (Kd.R_mono (Kd.R_far (p := ⟨aQ, 3, none⟩) (Kd.R_far (p := ⟨aQ, 2, none⟩) (Kd.R_far (p := ⟨aQ, 1, none⟩) (Kd.R_far (p := ⟨aQ, 0, none⟩) (Kd.R_types ab.out aq.out (by decide)) (fun _ hk => hk.2) (.int .i64 cf)) (fun _ hk => hk.2) (.string ci)) (fun _ hk => hk.2) (.string cq)) (fun _ hk => hk.2) (.bool cu)) (fun _ h_ => h_.1)))); (case side4 => exact (Kd.R_reads' ab.out).2.1); rintro e w224 ⟨v395, rfl, ho0, hb⟩; refine ⟨_, rfl, ?_⟩; have n3_ := mk0 (Kd.R_below (r2_ (Kd.R_mono (Kd.R_far (p := ⟨aQ, 3, none⟩) (Kd.R_far (p := ⟨aQ, 2, none⟩) (Kd.R_far (p := ⟨aQ, 1, none⟩) (Kd.R_far (p := ⟨aQ, 0, none⟩) (Kd.R_types ab.out aq.out (by decide)) (fun _ hk => hk.2) (.int .i64 cf)) (fun _ hk => hk.2) (.string ci)) (fun _ hk => hk.2) (.string cq)) (fun _ hk => hk.2) (.bool cu)) (fun _ h_ => h_.1))) hb); have n4_ := mk0 (Kd.R_lower (Kd.R_newB (Kd.R_new' (Kd.R_newM (M := fun k_ => (w.heap.size ≤ k_)) ho0 (bz_ (b_ HB)) (fun k_ h_ => h_)) (Kd.R_lt (r2_ (Kd.R_mono (Kd.R_far (p := ⟨aQ, 3, none⟩) (Kd.R_far (p := ⟨aQ, 2, none⟩) (Kd.R_far (p := ⟨aQ, 1, none⟩) (Kd.R_far (p := ⟨aQ, 0, none⟩) (Kd.R_mono aa.out (fun k_ hk => (⟨hk, hk.2⟩ : _ ∧ k_ ≠ aQ))) (fun _ hk => hk.2) (.int .i64 cf)) (fun _ hk => hk.2) (.string ci)) (fun _ hk => hk.2) (.string cq)) (fun _ hk => hk.2) (.bool cu)) (fun _ h_ => h_.1))))) (g := aQ) (o := .cells #[.int .i64 cf, .string ci, .string cq, .bool cu] 36 (0, 0)) (pu_ (cs := #[.int .i64 cf, .string ci, .string cq, .bool false]) (pu_ (cs := #[.int .i64 cf, .string ci, .string (⟨#[]⟩ : ByteArray), .bool false]) (pu_ (cs := #[.int .i64 cf, .string (⟨#[]⟩ : ByteArray), .string (⟨#[]⟩ : ByteArray), .bool false]) (pu_ (cs := #[.int .i64 0, .string (⟨#[]⟩ : ByteArray), .string (⟨#[]⟩ : ByteArray), .bool false]) (h_ aq)))))) (bz_ (b_ HB))); replace ac := mk0 (Kd.V_elder' (v2_ (Kd.V_mono (Kd.V_far (p := ⟨aQ, 3, none⟩) (Kd.V_far (p := ⟨aQ, 2, none⟩) (Kd.V_far (p := ⟨aQ, 1, none⟩) (Kd.V_far (p := ⟨aQ, 0, none⟩) (Kd.V_mono ac.out (fun k_ hk => (⟨hk, hk.2⟩ : _ ∧ k_ ≠ aQ))) (fun _ hk => hk.2) (.int .i64 cf)) (fun _ hk => hk.2) (.string ci)) (fun _ hk => hk.2) (.string cq)) (fun _ hk => hk.2) (.bool cu)) (fun _ h_ => h_.1))) (Kd.R_base ho0) hb); replace ad := mk0 (Kd.V_elder' (v2_ (Kd.V_mono (Kd.V_far (p := ⟨aQ, 3, none⟩) (Kd.V_far (p := ⟨aQ, 2, none⟩) (Kd.V_far (p := ⟨aQ, 1, none⟩) (Kd.V_far (p := ⟨aQ, 0, none⟩) (Kd.V_mono ad.out (fun k_ hk => (⟨hk, hk.2⟩ : _ ∧ k_ ≠ aQ))) (fun _ hk => hk.2) (.int .i64 cf)) (fun _ hk => hk.2) (.string ci)) (fun _ hk => hk.2) (.string cq)) (fun _ hk => hk.2) (.bool cu)) (fun _ h_ => h_.1))) (Kd.R_base ho0) hb); replace aa := mk0 (Kd.R_elder' (r2_ (Kd.R_mono (Kd.R_far (p := ⟨aQ, 3, none⟩) (Kd.R_far (p := ⟨aQ, 2, none⟩) (Kd.R_far (p := ⟨aQ, 1, none⟩) (Kd.R_far (p := ⟨aQ, 0, none⟩) (Kd.R_mono aa.out (fun k_ hk => (⟨hk, hk.2⟩ : _ ∧ k_ ≠ aQ))) (fun _ hk => hk.2) (.int .i64 cf)) (fun _ hk => hk.2) (.string ci)) (fun _ hk => hk.2) (.string cq)) (fun _ hk => hk.2) (.bool cu)) (fun _ h_ => h_.1))) (Kd.R_base ho0) hb); replace af := mk0 (blk_below (g := bd) (o := .cells #[.slice A0_0 aD.length c0_0, .slice A0_1 aM.length c0_1] 34 (0, 0)) (fa_ (fa_ (fa_ (fa_ (h_ af) ck.out) ck.out) ck.out) ck.out) hb); replace ak := mk0 (blk_below (g := bq) (o := .cells #[.int .i64 a1_0, .int .i64 a1_1, .int .i64 a1_2, .string a1_3, .string a1_4, .bool a1_5] 62 (0, 0)) (fa_ (fa_ (fa_ (fa_ (h_ ak) cg.out) cg.out) cg.out) cg.out) hb); replace ai := mk0 (blk_below (g := ap) (o := .cells #[.slice none 0 0, .slice none 0 0] 34 (0, 0)) (fa_ (fa_ (fa_ (fa_ (h_ ai) bH.out) bH.out) bH.out) bH.out) hb); replace aj := mk0 (blk_below (g := aV) (o := .cells #[.slice bc aG.length bb, .slice bj aN.length bi] 34 (0, 0)) (fa_ (fa_ (fa_ (fa_ (h_ aj) cV.out) cV.out) cV.out) cV.out) hb); replace ag := mk0 (blk_below (g := ae) (o := .cells #[.slice none 0 0, .slice none 0 0] 34 (0, 0)) (fa_ (fa_ (fa_ (fa_ (h_ ag) cW.out) cW.out) cW.out) cW.out) hb); replace ah := mk0 (blk_below (g := am) (o := .cells #[.slice none 0 0, .slice none 0 0] 34 (0, 0)) (fa_ (fa_ (fa_ (fa_ (h_ ah) cX.out) cX.out) cX.out) cX.out) hb); replace aq := mk0 (blk_below (g := aQ) (o := .cells #[.int .i64 cf, .string ci, .string cq, .bool cu] 36 (0, 0)) (pu_ (cs := #[.int .i64 cf, .string ci, .string cq, .bool false]) (pu_ (cs := #[.int .i64 cf, .string ci, .string (⟨#[]⟩ : ByteArray), .bool false]) (pu_ (cs := #[.int .i64 cf, .string (⟨#[]⟩ : ByteArray), .string (⟨#[]⟩ : ByteArray), .bool false]) (pu_ (cs := #[.int .i64 0, .string (⟨#[]⟩ : ByteArray), .string (⟨#[]⟩ : ByteArray), .bool false]) (h_ aq))))) hb); replace HB := mk0 (bt_ (b_ HB) hb); clear ab; have ab := n3_; have eg := n4_; clear n3_ n4_; (try clear hb); (try clear ho0)) | ((with_reducible refine gate_dst (N := 19) rfl ?_); refine bx_ (N := 19) (cs := #[.int .i64 0, .string (⟨#[]⟩ : ByteArray), .string (⟨#[]⟩ : ByteArray), .bool false]) (t := 36) (h := ?_); intro aE hg w225 hbox hb; have n14_ := mk0 (gz_ HB hg); have n15_ := mk0 (gz_ HB hg); have n16_ := mk0 (ne1_ af hg); have n17_ := mk0 (ne2_ af hg); have n18_ := mk0 (ne1_ ak hg); have n19_ := mk0 (ne2_ ak hg); have n20_ := mk0 (ne1_ ai hg); have n21_ := mk0 (ne2_ ai hg); have n22_ := mk0 (ne1_ aj hg); have n23_ := mk0 (ne2_ aj hg); have n24_ := mk0 (ne1_ ag hg); have n25_ := mk0 (ne2_ ag hg); have n26_ := mk0 (ne1_ ah hg); have n27_ := mk0 (ne2_ ah hg); have n28_ := mk0 (ne1_ aq hg); have n29_ := mk0 (ne2_ aq hg); replace ac := mk0 (Kd.V_below (Kd.V_elderB (v_ ac) aE (Nat.le_of_eq hg.symm)) hb); replace ad := mk0 (Kd.V_below (Kd.V_elderB (v_ ad) aE (Nat.le_of_eq hg.symm)) hb); replace aa := mk0 (Kd.R_below (Kd.R_elderB (r_ aa) aE (Nat.le_of_eq hg.symm)) hb); replace ab := mk0 (Kd.R_below (r_ ab) hb); replace eg := mk0 (Kd.R_below (Kd.R_elderB (r_ eg) aE (Nat.le_of_eq hg.symm)) hb); replace af := mk0 (u_ af hb); replace ak := mk0 (u_ ak hb); replace ai := mk0 (u_ ai hb); replace aj := mk0 (u_ aj hb); replace ag := mk0 (u_ ag hb); replace ah := mk0 (u_ ah hb); replace aq := mk0 (u_ aq hb); replace HB := mk0 (bt_ (b_ HB) hb); have ar := mk0 (hbox); have Gu := n14_; have Gv := n15_; have bT := n16_; have cz := n17_; have bM := n18_; have cl := n19_; have bz := n20_; have aw := n21_; have cm := n22_; have di := n23_; have cn := n24_; have dj := n25_; have co := n26_; have dk := n27_; have cp := n28_; have dl := n29_; clear n14_ n15_ n16_ n17_ n18_ n19_ n20_ n21_ n22_ n23_ n24_ n25_ n26_ n27_ n28_ n29_; clear hb hbox hg))
  (try simp only [Act.put, List.setIfInBounds_toArray, List.set_cons_zero, List.set_cons_succ])
  go_cut [8, 18, 20] (fun v8 v18 v20 wc => ∃ (kq : Nat) (dg : Int) (cP : Int) (cY : List (S36)) (br : Int) (bs : ByteArray) (bu : ByteArray) (bv : Bool), v8 = .int .i64 dg ∧ v18 = .int .i64 cP ∧ Fc (quorumlaw10_step.j3 kq dg dQ fC gL cP cY aD aM aG aN cf ci cq cu br bs bu bv = some (r1, r2, r3)) ∧ Fc (kq ≤ kj98) ∧ Fc (Kd.R k36 36 wc w.heap.size (fun k_ => (w.heap.size ≤ k_) ∧ some k_ ≠ (v20 : Value).ownBlock ∧ some k_ ≠ ((.slice bc aG.length bb) : Value).ownBlock ∧ k_ ≠ aQ ∧ k_ ≠ aE) v395 fC) ∧ Fc (Kd.R k36 36 wc w.heap.size (fun k_ => (w.heap.size ≤ k_) ∧ some k_ ≠ (v395 : Value).ownBlock ∧ some k_ ≠ ((.slice bc aG.length bb) : Value).ownBlock ∧ k_ ≠ aQ ∧ k_ ≠ aE) v20 cY) ∧ Fc (Kd.V k36 36 wc w.heap.size (fun k_ => ((P0_0_ k_ ∨ P0_1_ k_) ∨ w.heap.size ≤ k_) ∧ some k_ ≠ (v395 : Value).ownBlock ∧ some k_ ≠ (v20 : Value).ownBlock ∧ some k_ ≠ ((.slice bc aG.length bb) : Value).ownBlock ∧ some k_ ≠ ((.slice bj aN.length bi) : Value).ownBlock ∧ k_ ≠ bd ∧ k_ ≠ bq ∧ k_ ≠ ap ∧ k_ ≠ aV ∧ k_ ≠ ae ∧ k_ ≠ am ∧ k_ ≠ aQ ∧ k_ ≠ aE) (.slice A0_0 aD.length c0_0) aD) ∧ Fc (Kd.V (Kd.int .i64) 3 wc w.heap.size (fun k_ => ((P0_0_ k_ ∨ P0_1_ k_) ∨ w.heap.size ≤ k_) ∧ some k_ ≠ (v395 : Value).ownBlock ∧ some k_ ≠ (v20 : Value).ownBlock ∧ some k_ ≠ ((.slice bc aG.length bb) : Value).ownBlock ∧ some k_ ≠ ((.slice bj aN.length bi) : Value).ownBlock ∧ k_ ≠ bd ∧ k_ ≠ bq ∧ k_ ≠ ap ∧ k_ ≠ aV ∧ k_ ≠ ae ∧ k_ ≠ am ∧ k_ ≠ aQ ∧ k_ ≠ aE) (.slice A0_1 aM.length c0_1) aM) ∧ Fc (Kd.R k36 36 wc w.heap.size (fun k_ => (w.heap.size ≤ k_) ∧ some k_ ≠ (v395 : Value).ownBlock ∧ some k_ ≠ (v20 : Value).ownBlock ∧ k_ ≠ aQ ∧ k_ ≠ aE) (.slice bc aG.length bb) aG) ∧ Fc (Kd.R (Kd.int .i64) 3 wc w.heap.size (fun k_ => (w.heap.size ≤ k_)) (.slice bj aN.length bi) aN) ∧ Fc (wc.heap[bd]? = some (.cells #[(.slice A0_0 aD.length c0_0), (.slice A0_1 aM.length c0_1)] 34 (0, 0))) ∧ Fc (wc.heap[bq]? = some (.cells #[.int .i64 a1_0, .int .i64 a1_1, .int .i64 a1_2, .string a1_3, .string a1_4, .bool a1_5] 62 (0, 0))) ∧ Fc (wc.heap[ap]? = some (.cells #[(.slice none 0 0), (.slice none 0 0)] 34 (0, 0))) ∧ Fc (wc.heap[aV]? = some (.cells #[(.slice bc aG.length bb), (.slice bj aN.length bi)] 34 (0, 0))) ∧ Fc (wc.heap[ae]? = some (.cells #[(.slice none 0 0), (.slice none 0 0)] 34 (0, 0))) ∧ Fc (wc.heap[am]? = some (.cells #[(.slice none 0 0), (.slice none 0 0)] 34 (0, 0))) ∧ Fc (wc.heap[aQ]? = some (.cells #[.int .i64 cf, .string ci, .string cq, .bool cu] 36 (0, 0))) ∧ Fc (wc.heap[aE]? = some (.cells #[.int .i64 br, .string bs, .string bu, .bool bv] 36 (0, 0))) ∧ Fc (Below w.heap.size w wc))
  case first =>
   have H := HC202.out
   clear HC202
   by_cases c226 : dw = true
   rotate_left
   ·replace c226 := Bool.eq_false_iff.mpr c226
    subst c226
    rw [if_neg (show ¬ (false = true) by decide)] at H
    have H' := mk0 H
    clear H
    go_wp2
    go_meet
    case rel => exact ⟨_, (1), (1), (([] : List (S36))), (0), ((⟨#[]⟩ : ByteArray)), ((⟨#[]⟩ : ByteArray)), (false), (by first | rfl | (simp; done) | (simp [*]; done)), (by first | rfl | (simp; done) | (simp [*]; done)), H', ⟨by have := cT.out; have := dy.out; first | omega | exact Nat.le_refl _⟩, ⟨by (with_reducible repeat (first | apply Ra_ | apply Rn_ | apply Rd_)); exact Kd.R_mono eg.out (fun _ hk => ⟨hk.1.1.1.1, ⟨(by simp [Value.ownBlock]), ⟨hk.1.1.2, ⟨hk.1.2, hk.2⟩⟩⟩⟩)⟩, ⟨by first | exact Kd.R_nil _ _ _ _ _ | exact Kd.N_nil _ _ _ _ _ | exact Kd.V_nil _ _ _ _ _ | exact Kd.Q_nil _ _ _ _ _ | exact Kd.S_nil _ _ _ _ _⟩, ⟨by (with_reducible repeat (first | apply Kd.V_alloc | apply Kd.V_drewN | apply Kd.V_drew)); exact Kd.V_mono ac.out (fun _ hk => ⟨hk.1.1.1.1, ⟨hk.1.2, ⟨(by simp [Value.ownBlock]), ⟨hk.1.1.1.2.1, ⟨hk.1.1.1.2.2.1, ⟨hk.1.1.1.2.2.2.1, ⟨hk.1.1.1.2.2.2.2.1, ⟨hk.1.1.1.2.2.2.2.2.1, ⟨hk.1.1.1.2.2.2.2.2.2.1, ⟨hk.1.1.1.2.2.2.2.2.2.2.1, ⟨hk.1.1.1.2.2.2.2.2.2.2.2, ⟨hk.1.1.2, hk.2⟩⟩⟩⟩⟩⟩⟩⟩⟩⟩⟩⟩)⟩, ⟨by (with_reducible repeat (first | apply Kd.V_alloc | apply Kd.V_drewN | apply Kd.V_drew)); exact Kd.V_mono ad.out (fun _ hk => ⟨hk.1.1.1.1, ⟨hk.1.2, ⟨(by simp [Value.ownBlock]), ⟨hk.1.1.1.2.1, ⟨hk.1.1.1.2.2.1, ⟨hk.1.1.1.2.2.2.1, ⟨hk.1.1.1.2.2.2.2.1, ⟨hk.1.1.1.2.2.2.2.2.1, ⟨hk.1.1.1.2.2.2.2.2.2.1, ⟨hk.1.1.1.2.2.2.2.2.2.2.1, ⟨hk.1.1.1.2.2.2.2.2.2.2.2, ⟨hk.1.1.2, hk.2⟩⟩⟩⟩⟩⟩⟩⟩⟩⟩⟩⟩)⟩, ⟨by (with_reducible repeat (first | apply Ra_ | apply Rn_ | apply Rd_)); exact Kd.R_mono aa.out (fun _ hk => ⟨hk.1.1.1, ⟨hk.1.2, ⟨(by simp [Value.ownBlock]), ⟨hk.1.1.2, hk.2⟩⟩⟩⟩)⟩, ⟨by (with_reducible repeat (first | apply Ra_ | apply Rn_ | apply Rd_)); exact ab.out⟩, ⟨h_ af⟩, ⟨h_ ak⟩, ⟨h_ ai⟩, ⟨h_ aj⟩, ⟨h_ ag⟩, ⟨h_ ah⟩, ⟨h_ aq⟩, ⟨h_ ar⟩, ⟨b_ HB⟩⟩
   subst c226
   rw [if_pos rfl] at H
   replace H := Option.bind_eq_some_iff.mp H
   obtain ⟨lj, A2270, H⟩ := H
   try dsimp only at H
   have A227 := mk0 A2270
   clear A2270
   have HC228 := mk0 H
   clear H
   have yL := bl.out
   have yM := bm.out
   have yN := ax.out
   have yO := be.out
   have yP := bn.out
   have yQ := bw.out
   have yR := aC.out
   have yS := bp.out
   have yT := aZ.out
   have yU := bF.out
   have yV := ck.out
   have yW := dh.out
   have yX := bT.out
   have yY := cz.out
   obtain ⟨kw, kx, ky, kz⟩ := c2_ af
   go_upto_region 39 with (first | ((with_reducible refine gate_callee (f := 61) rfl ?_); refine gL_ (some 131) Try.func61 #[.agg #[.slice A0_0 aD.length c0_0, .slice A0_1 aM.length c0_1]] (h := ?_); (with_reducible refine (quorumref8_Sum.calls kj98 _ _ aD _ _ aM lj _ ?side1 ?side2 ?side3 ?side4 A227.out).mono ?_); (case side1 => exact cv_ ac); (case side2 => exact (Kd.V_reads' ac.out).2.1); (case side3 => exact cv_ ad); (case side4 => exact (Kd.V_reads' ad.out).2.1); rintro e w237 ⟨v400, rfl, ho0, hb⟩; refine ⟨_, rfl, ?_⟩; have n5_ := mk0 (Kd.R_lower (Kd.R_newB (Kd.R_newB (Kd.R_new' (Kd.R_new' (Kd.R_newM (M := fun k_ => (w.heap.size ≤ k_)) ho0 (bz_ (b_ HB)) (fun k_ h_ => h_)) (Kd.R_lt (r_ aa))) (Kd.R_lt (r_ eg))) (g := aQ) (o := .cells #[.int .i64 cf, .string ci, .string cq, .bool cu] 36 (0, 0)) (h_ aq)) (g := aE) (o := .cells #[.int .i64 0, .string (⟨#[]⟩ : ByteArray), .string (⟨#[]⟩ : ByteArray), .bool false] 36 (0, 0)) (h_ ar)) (bz_ (b_ HB))); replace ac := mk0 (Kd.V_elder' (v_ ac) (Kd.R_base ho0) hb); replace ad := mk0 (Kd.V_elder' (v_ ad) (Kd.R_base ho0) hb); replace aa := mk0 (Kd.R_elder' (r_ aa) (Kd.R_base ho0) hb); replace ab := mk0 (Kd.R_below (r_ ab) hb); replace eg := mk0 (Kd.R_elder' (r_ eg) (Kd.R_base ho0) hb); replace af := mk0 (u_ af hb); replace ak := mk0 (u_ ak hb); replace ai := mk0 (u_ ai hb); replace aj := mk0 (u_ aj hb); replace ag := mk0 (u_ ag hb); replace ah := mk0 (u_ ah hb); replace aq := mk0 (u_ aq hb); replace ar := mk0 (blk_below (g := aE) (o := .cells #[.int .i64 0, .string (⟨#[]⟩ : ByteArray), .string (⟨#[]⟩ : ByteArray), .bool false] 36 (0, 0)) (h_ ar) hb); replace HB := mk0 (bt_ (b_ HB) hb); have nZ := n5_; clear n5_; (try clear hb); (try clear ho0)))
   (try simp only [Act.put, List.setIfInBounds_toArray, List.set_cons_zero, List.set_cons_succ])
   go_cut [141] (fun v141 wc => ∃ (kq : Nat) (dK : Bool), v141 = .bool dK ∧ Fc (quorumlaw10_step.j2 kq 1 dQ fC gL 0 lj dK aD aM a1_0 a1_1 a1_2 a1_3 a1_4 a1_5 aG aN cf ci cq cu 0 (⟨#[]⟩ : ByteArray) (⟨#[]⟩ : ByteArray) false = some (r1, r2, r3)) ∧ Fc (kq ≤ kj98) ∧ Fc (Kd.R k36 36 wc w.heap.size (fun k_ => (w.heap.size ≤ k_) ∧ some k_ ≠ (v400 : Value).ownBlock ∧ some k_ ≠ ((.slice bc aG.length bb) : Value).ownBlock ∧ k_ ≠ aQ ∧ k_ ≠ aE) v395 fC) ∧ Fc (Kd.R k36 36 wc w.heap.size (fun k_ => (w.heap.size ≤ k_) ∧ some k_ ≠ (v395 : Value).ownBlock ∧ some k_ ≠ ((.slice bc aG.length bb) : Value).ownBlock ∧ k_ ≠ aQ ∧ k_ ≠ aE) v400 lj) ∧ Fc (Kd.V k36 36 wc w.heap.size (fun k_ => ((P0_0_ k_ ∨ P0_1_ k_) ∨ w.heap.size ≤ k_) ∧ some k_ ≠ (v395 : Value).ownBlock ∧ some k_ ≠ (v400 : Value).ownBlock ∧ some k_ ≠ ((.slice bc aG.length bb) : Value).ownBlock ∧ some k_ ≠ ((.slice bj aN.length bi) : Value).ownBlock ∧ k_ ≠ bd ∧ k_ ≠ bq ∧ k_ ≠ ap ∧ k_ ≠ aV ∧ k_ ≠ ae ∧ k_ ≠ am ∧ k_ ≠ aQ ∧ k_ ≠ aE) (.slice A0_0 aD.length c0_0) aD) ∧ Fc (Kd.V (Kd.int .i64) 3 wc w.heap.size (fun k_ => ((P0_0_ k_ ∨ P0_1_ k_) ∨ w.heap.size ≤ k_) ∧ some k_ ≠ (v395 : Value).ownBlock ∧ some k_ ≠ (v400 : Value).ownBlock ∧ some k_ ≠ ((.slice bc aG.length bb) : Value).ownBlock ∧ some k_ ≠ ((.slice bj aN.length bi) : Value).ownBlock ∧ k_ ≠ bd ∧ k_ ≠ bq ∧ k_ ≠ ap ∧ k_ ≠ aV ∧ k_ ≠ ae ∧ k_ ≠ am ∧ k_ ≠ aQ ∧ k_ ≠ aE) (.slice A0_1 aM.length c0_1) aM) ∧ Fc (Kd.R k36 36 wc w.heap.size (fun k_ => (w.heap.size ≤ k_) ∧ some k_ ≠ (v395 : Value).ownBlock ∧ some k_ ≠ (v400 : Value).ownBlock ∧ k_ ≠ aQ ∧ k_ ≠ aE) (.slice bc aG.length bb) aG) ∧ Fc (Kd.R (Kd.int .i64) 3 wc w.heap.size (fun k_ => (w.heap.size ≤ k_)) (.slice bj aN.length bi) aN) ∧ Fc (wc.heap[bd]? = some (.cells #[(.slice A0_0 aD.length c0_0), (.slice A0_1 aM.length c0_1)] 34 (0, 0))) ∧ Fc (wc.heap[bq]? = some (.cells #[.int .i64 a1_0, .int .i64 a1_1, .int .i64 a1_2, .string a1_3, .string a1_4, .bool a1_5] 62 (0, 0))) ∧ Fc (wc.heap[ap]? = some (.cells #[(.slice none 0 0), (.slice none 0 0)] 34 (0, 0))) ∧ Fc (wc.heap[aV]? = some (.cells #[(.slice bc aG.length bb), (.slice bj aN.length bi)] 34 (0, 0))) ∧ Fc (wc.heap[ae]? = some (.cells #[(.slice none 0 0), (.slice none 0 0)] 34 (0, 0))) ∧ Fc (wc.heap[am]? = some (.cells #[(.slice none 0 0), (.slice none 0 0)] 34 (0, 0))) ∧ Fc (wc.heap[aQ]? = some (.cells #[.int .i64 cf, .string ci, .string cq, .bool cu] 36 (0, 0))) ∧ Fc (wc.heap[aE]? = some (.cells #[.int .i64 0, .string (⟨#[]⟩ : ByteArray), .string (⟨#[]⟩ : ByteArray), .bool false] 36 (0, 0))) ∧ Fc (Below w.heap.size w wc))
   case first =>
    have H := HC228.out
    clear HC228
    replace H := Option.bind_eq_some_iff.mp H
    obtain ⟨yZ, A2380, H⟩ := H
    try dsimp only at H
    have A238 := mk0 A2380
    clear A2380
    by_cases c239 : yZ = true
    rotate_left
    ·replace c239 := Bool.eq_false_iff.mpr c239
     subst c239
     rw [if_neg (show ¬ (false = true) by decide)] at H
     have H' := mk0 H
     clear H
     have za := bm.out
     have zb := bl.out
     have zc := aR.out
     have zd := aT.out
     have ze := bo.out
     have zf := bx.out
     have zg := aA.out
     have zh := bf.out
     have zi := aK.out
     have zj := bk.out
     have zk := cg.out
     have zl := cU.out
     have zm := bM.out
     have zn := cl.out
     obtain ⟨kA, kB, kC, kD, kE, kF, kG, kH, kI, kJ, kK, kL⟩ := c6_ ak
     go_wp2_with (first | ((with_reducible refine gate_callee (f := 39) rfl ?_); refine gL_ (some 135) Try.func39 #[.int .i64 a1_2, .int .i64 2] (h := ?_); (with_reducible refine (quorumref0_Num.calls a1_2 2 false _ A238.out).mono ?_); rintro e w' ⟨rfl, ⟨nd, rfl⟩⟩; refine ⟨_, rfl, ?_⟩))
     go_meet
     case rel => exact ⟨_, (false), (by first | rfl | (simp; done) | (simp [*]; done)), H', ⟨by have := cT.out; have := dy.out; first | omega | exact Nat.le_refl _⟩, ⟨by (with_reducible repeat (first | apply Ra_ | apply Rn_ | apply Rd_)); exact Kd.R_mono eg.out (fun _ hk => ⟨hk.1.1.1.1.1, ⟨hk.2, ⟨hk.1.1.1.2, ⟨hk.1.1.2, hk.1.2⟩⟩⟩⟩)⟩, ⟨by (with_reducible repeat (first | apply Ra_ | apply Rn_ | apply Rd_)); exact Kd.R_mono nZ.out (fun _ hk => ⟨hk.1.1.1.1.1, ⟨hk.1.1.2, ⟨hk.1.1.1.2, ⟨hk.1.2, hk.2⟩⟩⟩⟩)⟩, ⟨by (with_reducible repeat (first | apply Kd.V_alloc | apply Kd.V_drewN | apply Kd.V_drew)); exact Kd.V_mono ac.out (fun _ hk => ⟨hk.1.1.1.1.1, ⟨hk.1.1.2, ⟨hk.2, ⟨hk.1.1.1.1.2.1, ⟨hk.1.1.1.1.2.2.1, ⟨hk.1.1.1.1.2.2.2.1, ⟨hk.1.1.1.1.2.2.2.2.1, ⟨hk.1.1.1.1.2.2.2.2.2.1, ⟨hk.1.1.1.1.2.2.2.2.2.2.1, ⟨hk.1.1.1.1.2.2.2.2.2.2.2.1, ⟨hk.1.1.1.1.2.2.2.2.2.2.2.2, ⟨hk.1.1.1.2, hk.1.2⟩⟩⟩⟩⟩⟩⟩⟩⟩⟩⟩⟩)⟩, ⟨by (with_reducible repeat (first | apply Kd.V_alloc | apply Kd.V_drewN | apply Kd.V_drew)); exact Kd.V_mono ad.out (fun _ hk => ⟨hk.1.1.1.1.1, ⟨hk.1.1.2, ⟨hk.2, ⟨hk.1.1.1.1.2.1, ⟨hk.1.1.1.1.2.2.1, ⟨hk.1.1.1.1.2.2.2.1, ⟨hk.1.1.1.1.2.2.2.2.1, ⟨hk.1.1.1.1.2.2.2.2.2.1, ⟨hk.1.1.1.1.2.2.2.2.2.2.1, ⟨hk.1.1.1.1.2.2.2.2.2.2.2.1, ⟨hk.1.1.1.1.2.2.2.2.2.2.2.2, ⟨hk.1.1.1.2, hk.1.2⟩⟩⟩⟩⟩⟩⟩⟩⟩⟩⟩⟩)⟩, ⟨by (with_reducible repeat (first | apply Ra_ | apply Rn_ | apply Rd_)); exact Kd.R_mono aa.out (fun _ hk => ⟨hk.1.1.1.1, ⟨hk.1.1.2, ⟨hk.2, ⟨hk.1.1.1.2, hk.1.2⟩⟩⟩⟩)⟩, ⟨by (with_reducible repeat (first | apply Ra_ | apply Rn_ | apply Rd_)); exact ab.out⟩, ⟨h_ af⟩, ⟨h_ ak⟩, ⟨h_ ai⟩, ⟨h_ aj⟩, ⟨h_ ag⟩, ⟨h_ ah⟩, ⟨h_ aq⟩, ⟨h_ ar⟩, ⟨b_ HB⟩⟩
    subst c239
    rw [if_pos rfl] at H
    replace H := Option.bind_eq_some_iff.mp H
    obtain ⟨oV, A2400, H⟩ := H
    try dsimp only at H
    have A240 := mk0 A2400
    clear A2400
    have H' := mk0 H
    clear H
    have zo := bm.out
    have zp := bl.out
    have zq := aR.out
    have zr := aT.out
    have zs := bo.out
    have zt := bx.out
    have zu := aA.out
    have zv := bf.out
    have zw := aK.out
    have zx := bk.out
    have zy := cg.out
    have zz := cU.out
    have zA := bM.out
    have zB := cl.out
    obtain ⟨kM, kN, kO, kP, kQ, kR, kS, kT, kU, kV, kW, kX⟩ := c6_ ak
    go_wp2_with (first | ((with_reducible refine gate_callee (f := 39) rfl ?_); refine gL_ (some 135) Try.func39 #[.int .i64 a1_2, .int .i64 2] (h := ?_); (with_reducible refine (quorumref0_Num.calls a1_2 2 true _ A238.out).mono ?_); rintro e w' ⟨rfl, ⟨nd, rfl⟩⟩; refine ⟨_, rfl, ?_⟩) | (go_at_call 62; (with_reducible refine (quorumref1_Key.calls a1_3 oV _ A240.out).mono ?_); rintro e w' ⟨rfl, ⟨nd, rfl⟩⟩))
    go_meet
    case rel => exact ⟨_, (oV), (by first | rfl | (simp; done) | (simp [*]; done)), H', ⟨by have := cT.out; have := dy.out; first | omega | exact Nat.le_refl _⟩, ⟨by (with_reducible repeat (first | apply Ra_ | apply Rn_ | apply Rd_)); exact Kd.R_mono eg.out (fun _ hk => ⟨hk.1.1.1.1.1, ⟨hk.2, ⟨hk.1.1.1.2, ⟨hk.1.1.2, hk.1.2⟩⟩⟩⟩)⟩, ⟨by (with_reducible repeat (first | apply Ra_ | apply Rn_ | apply Rd_)); exact Kd.R_mono nZ.out (fun _ hk => ⟨hk.1.1.1.1.1, ⟨hk.1.1.2, ⟨hk.1.1.1.2, ⟨hk.1.2, hk.2⟩⟩⟩⟩)⟩, ⟨by (with_reducible repeat (first | apply Kd.V_alloc | apply Kd.V_drewN | apply Kd.V_drew)); exact Kd.V_mono ac.out (fun _ hk => ⟨hk.1.1.1.1.1, ⟨hk.1.1.2, ⟨hk.2, ⟨hk.1.1.1.1.2.1, ⟨hk.1.1.1.1.2.2.1, ⟨hk.1.1.1.1.2.2.2.1, ⟨hk.1.1.1.1.2.2.2.2.1, ⟨hk.1.1.1.1.2.2.2.2.2.1, ⟨hk.1.1.1.1.2.2.2.2.2.2.1, ⟨hk.1.1.1.1.2.2.2.2.2.2.2.1, ⟨hk.1.1.1.1.2.2.2.2.2.2.2.2, ⟨hk.1.1.1.2, hk.1.2⟩⟩⟩⟩⟩⟩⟩⟩⟩⟩⟩⟩)⟩, ⟨by (with_reducible repeat (first | apply Kd.V_alloc | apply Kd.V_drewN | apply Kd.V_drew)); exact Kd.V_mono ad.out (fun _ hk => ⟨hk.1.1.1.1.1, ⟨hk.1.1.2, ⟨hk.2, ⟨hk.1.1.1.1.2.1, ⟨hk.1.1.1.1.2.2.1, ⟨hk.1.1.1.1.2.2.2.1, ⟨hk.1.1.1.1.2.2.2.2.1, ⟨hk.1.1.1.1.2.2.2.2.2.1, ⟨hk.1.1.1.1.2.2.2.2.2.2.1, ⟨hk.1.1.1.1.2.2.2.2.2.2.2.1, ⟨hk.1.1.1.1.2.2.2.2.2.2.2.2, ⟨hk.1.1.1.2, hk.1.2⟩⟩⟩⟩⟩⟩⟩⟩⟩⟩⟩⟩)⟩, ⟨by (with_reducible repeat (first | apply Ra_ | apply Rn_ | apply Rd_)); exact Kd.R_mono aa.out (fun _ hk => ⟨hk.1.1.1.1, ⟨hk.1.1.2, ⟨hk.2, ⟨hk.1.1.1.2, hk.1.2⟩⟩⟩⟩)⟩, ⟨by (with_reducible repeat (first | apply Ra_ | apply Rn_ | apply Rd_)); exact ab.out⟩, ⟨h_ af⟩, ⟨h_ ak⟩, ⟨h_ ai⟩, ⟨h_ aj⟩, ⟨h_ ag⟩, ⟨h_ ah⟩, ⟨h_ aq⟩, ⟨h_ ar⟩, ⟨b_ HB⟩⟩
   clear HC228
   try clear c30
   try clear eb
   try clear lk
   try clear c31
   try clear c33
   try clear c35
   try clear lu
   try clear lv
   try clear c100
   try clear dx
   try clear lg
   try clear c101
   try clear c103
   try clear c150
   try clear lw
   try clear lx
   try clear c152
   try clear c199
   try clear eP
   try clear eQ
   try clear c226
   try clear c239
   try clear hp hq hr hs
   try clear ht hu hv hw hx hy hz hA hB hC hD hE
   try clear hF hG hH hI
   try clear hJ hL hM hN
   try clear hO hP hQ hR hS hT hU hV hW hX hY hZ
   try clear ej ek el em
   try clear ia ib ic ie
   try clear gQ gR gS gT
   try clear gU gV gW gX gY gZ ha hc hd he hf hh
   try clear hj hl hm hn
   try clear iC iD iE iF
   try clear iG iH iI iJ iK iL iM iN iO iP iQ iR
   try clear iS iT iU iV
   try clear iW iX iY iZ
   try clear ja jb jc jd je jf jg jh ji jj jk jl
   try clear jm jn jo jp
   try clear ig ih ii ij
   try clear ik il im io ip iq ir it iu iv iw ix
   try clear iy iz iA iB
   try clear en eo ep er
   try clear jT jU jV jW
   try clear jX jY jZ ka kb kc kd ke kf kg kh ki
   try clear es et eu ev
   try clear kj kk kl km kn ko kp kr
   try clear ks kt ku kv
   try clear kw kx ky kz
   try clear kM kN kO kP kQ kR kS kT kU kV kW kX
   try clear kA kB kC kD kE kF kG kH kI kJ kK kL
   try clear ew ex ey ez eA eB eC eD eE eF eG eH
   try clear gk gl gm gn
   try clear gp gq gr gs
   try clear gu gv gw gx
   try clear gy gz gA gB
   try clear gE gF gG gH
   try clear fR fS fT fU
   try clear fV fW fX fY
   try clear fZ ga gb gc
   try clear gd gf gg gh
   try clear fI fJ fK fL
   try clear fM fN fO fP
   obtain ⟨kq, dK, rfl, HA, lz, bC, bD, ac, ad, aa, ab, af, ak, ai, aj, ag, ah, aq, ar, HB⟩ := hcut
   cases kq with
   | zero => exact absurd HA.out (by simp [quorumlaw10_step.j2])
   | succ kj227 =>
   have H := HA.out
   clear HA
   simp only [quorumlaw10_step.j2] at H
   as_aux_lemma =>
   by_cases c257 : dK = true
   rotate_left
   ·replace c257 := Bool.eq_false_iff.mpr c257
    subst c257
    rw [if_neg (show ¬ (false = true) by decide)] at H
    have H' := mk0 H
    clear H
    go_wp2
    go_meet
    case rel => exact ⟨_, (1), (0), (lj), (0), ((⟨#[]⟩ : ByteArray)), ((⟨#[]⟩ : ByteArray)), (false), (by first | rfl | (simp; done) | (simp [*]; done)), (by first | rfl | (simp; done) | (simp [*]; done)), H', ⟨by have := cT.out; have := dy.out; have := lz.out; first | omega | exact Nat.le_refl _⟩, ⟨by (with_reducible repeat (first | apply Ra_ | apply Rn_ | apply Rd_)); exact bC.out⟩, ⟨by (with_reducible repeat (first | apply Ra_ | apply Rn_ | apply Rd_)); exact bD.out⟩, ⟨by (with_reducible repeat (first | apply Kd.V_alloc | apply Kd.V_drewN | apply Kd.V_drew)); exact ac.out⟩, ⟨by (with_reducible repeat (first | apply Kd.V_alloc | apply Kd.V_drewN | apply Kd.V_drew)); exact ad.out⟩, ⟨by (with_reducible repeat (first | apply Ra_ | apply Rn_ | apply Rd_)); exact aa.out⟩, ⟨by (with_reducible repeat (first | apply Ra_ | apply Rn_ | apply Rd_)); exact ab.out⟩, ⟨h_ af⟩, ⟨h_ ak⟩, ⟨h_ ai⟩, ⟨h_ aj⟩, ⟨h_ ag⟩, ⟨h_ ah⟩, ⟨h_ aq⟩, ⟨h_ ar⟩, ⟨b_ HB⟩⟩
   subst c257
   rw [if_pos rfl] at H
   replace H := Option.bind_eq_some_iff.mp H
   obtain ⟨⟨bK, bN, bQ, cb, zC⟩, A2580, H⟩ := H
   try dsimp only at H
   have A258 := mk0 A2580
   clear A2580
   by_cases c259 : zC = true
   rotate_left
   ·replace c259 := Bool.eq_false_iff.mpr c259
    subst c259
    rw [if_neg (show ¬ (false = true) by decide)] at H
    have H' := mk0 H
    clear H
    have zD := bl.out
    have zE := bm.out
    have zF := ax.out
    have zG := be.out
    have zH := bn.out
    have zI := bw.out
    have zJ := aC.out
    have zK := bp.out
    have zL := aZ.out
    have zM := bF.out
    have zN := ck.out
    have zO := dh.out
    have zP := bT.out
    have zQ := cz.out
    obtain ⟨lA, lB, lC, lD⟩ := c2_ af
    have zR := aR.out
    have zS := aT.out
    have zT := bo.out
    have zU := bx.out
    have zV := aA.out
    have zW := bf.out
    have zX := aK.out
    have zY := bk.out
    have zZ := cg.out
    have Aa := cU.out
    have Ab := bM.out
    have Ac := cl.out
    obtain ⟨lE, lF, lG, lH, lI, lJ, lK, lL, lM, lN, lO, lP⟩ := c6_ ak
    go_wp2_with (first | ((with_reducible refine gate_callee (f := 17) rfl ?_); refine gL_ (some 150) Try.func17 #[.agg #[.slice A0_0 aD.length c0_0, .slice A0_1 aM.length c0_1], .int .i64 a1_2, .string a1_3] (h := ?_); (with_reducible refine (quorumref8_Last.calls kj227 _ _ aD _ _ aM a1_2 a1_3 bK bN bQ cb false _ ?side1 ?side2 ?side3 ?side4 A258.out).mono ?_); (case side1 => exact cv_ ac); (case side2 => exact (Kd.V_reads' ac.out).2.1); (case side3 => exact cv_ ad); (case side4 => exact (Kd.V_reads' ad.out).2.1); rintro e w307 ⟨rfl, hb⟩; refine ⟨_, rfl, ?_⟩; replace bC := mk0 (Kd.R_below (r_ bC) hb); replace bD := mk0 (Kd.R_below (r_ bD) hb); replace ac := mk0 (Kd.V_below (v_ ac) hb); replace ad := mk0 (Kd.V_below (v_ ad) hb); replace aa := mk0 (Kd.R_below (r_ aa) hb); replace ab := mk0 (Kd.R_below (r_ ab) hb); replace af := mk0 (u_ af hb); replace ak := mk0 (u_ ak hb); replace ai := mk0 (u_ ai hb); replace aj := mk0 (u_ aj hb); replace ag := mk0 (u_ ag hb); replace ah := mk0 (u_ ah hb); replace aq := mk0 (u_ aq hb); replace ar := mk0 (blk_below (g := aE) (o := .cells #[.int .i64 0, .string (⟨#[]⟩ : ByteArray), .string (⟨#[]⟩ : ByteArray), .bool false] 36 (0, 0)) (h_ ar) hb); replace HB := mk0 (bt_ (b_ HB) hb); (try clear hb)) | ((with_reducible refine gate_dst (N := 21) rfl ?_); refine bx_ (N := 21) (cs := #[.int .i64 0, .string (⟨#[]⟩ : ByteArray), .string (⟨#[]⟩ : ByteArray), .bool false]) (t := 36) (h := ?_); intro ao hg w308 hbox hb; have n16_ := mk0 (gz_ HB hg); have n17_ := mk0 (gz_ HB hg); have n18_ := mk0 (ne1_ af hg); have n19_ := mk0 (ne2_ af hg); have n20_ := mk0 (ne1_ ak hg); have n21_ := mk0 (ne2_ ak hg); have n22_ := mk0 (ne1_ ai hg); have n23_ := mk0 (ne2_ ai hg); have n24_ := mk0 (ne1_ aj hg); have n25_ := mk0 (ne2_ aj hg); have n26_ := mk0 (ne1_ ag hg); have n27_ := mk0 (ne2_ ag hg); have n28_ := mk0 (ne1_ ah hg); have n29_ := mk0 (ne2_ ah hg); have n30_ := mk0 (ne1_ aq hg); have n31_ := mk0 (ne2_ aq hg); have n32_ := mk0 ((by rw [hg]; exact Nat.ne_of_lt (blk_lt (g := aE) (o := .cells #[.int .i64 0, .string (⟨#[]⟩ : ByteArray), .string (⟨#[]⟩ : ByteArray), .bool false] 36 (0, 0)) (h_ ar)) : aE ≠ ao)); have n33_ := mk0 ((by rw [hg]; exact Nat.ne_of_gt (blk_lt (g := aE) (o := .cells #[.int .i64 0, .string (⟨#[]⟩ : ByteArray), .string (⟨#[]⟩ : ByteArray), .bool false] 36 (0, 0)) (h_ ar)) : ao ≠ aE)); replace bC := mk0 (Kd.R_below (Kd.R_elderB (r_ bC) ao (Nat.le_of_eq hg.symm)) hb); replace bD := mk0 (Kd.R_below (Kd.R_elderB (r_ bD) ao (Nat.le_of_eq hg.symm)) hb); replace ac := mk0 (Kd.V_below (Kd.V_elderB (v_ ac) ao (Nat.le_of_eq hg.symm)) hb); replace ad := mk0 (Kd.V_below (Kd.V_elderB (v_ ad) ao (Nat.le_of_eq hg.symm)) hb); replace aa := mk0 (Kd.R_below (Kd.R_elderB (r_ aa) ao (Nat.le_of_eq hg.symm)) hb); replace ab := mk0 (Kd.R_below (r_ ab) hb); replace af := mk0 (u_ af hb); replace ak := mk0 (u_ ak hb); replace ai := mk0 (u_ ai hb); replace aj := mk0 (u_ aj hb); replace ag := mk0 (u_ ag hb); replace ah := mk0 (u_ ah hb); replace aq := mk0 (u_ aq hb); replace ar := mk0 (blk_below (g := aE) (o := .cells #[.int .i64 0, .string (⟨#[]⟩ : ByteArray), .string (⟨#[]⟩ : ByteArray), .bool false] 36 (0, 0)) (h_ ar) hb); replace HB := mk0 (bt_ (b_ HB) hb); have cN := mk0 (hbox); have oW := n16_; have oX := n17_; have bU := n18_; have dR := n19_; have bV := n20_; have dS := n21_; have bW := n22_; have dT := n23_; have bX := n24_; have dU := n25_; have bY := n26_; have dV := n27_; have bZ := n28_; have dW := n29_; have ca := n30_; have dX := n31_; have bI := n32_; have bh := n33_; clear n16_ n17_ n18_ n19_ n20_ n21_ n22_ n23_ n24_ n25_ n26_ n27_ n28_ n29_ n30_ n31_ n32_ n33_ hb hbox hg; have Ad := dR.out; have Ae := bU.out; have Af := dS.out; have Ag := bV.out; have Ah := dT.out; have Ai := bW.out; have Aj := dU.out; have Ak := bX.out; have Al := dV.out; have Am := bY.out; have An := dW.out; have Ao := bZ.out; have Ap := dX.out; have Aq := ca.out; have Ar := bh.out; have As := bI.out; obtain ⟨lQ, lR, lS, lT, lU, lV, lW, lX⟩ := c4_ cN))
    go_meet
    case rel => exact ⟨_, (3), (0), (lj), (0), ((⟨#[]⟩ : ByteArray)), ((⟨#[]⟩ : ByteArray)), (false), (by first | rfl | (simp; done) | (simp [*]; done)), (by first | rfl | (simp; done) | (simp [*]; done)), H', ⟨by have := cT.out; have := dy.out; have := lz.out; first | omega | exact Nat.le_refl _⟩, ⟨by (with_reducible repeat (first | apply Ra_ | apply Rn_ | apply Rd_)); exact Kd.R_mono (Kd.R_far (p := ⟨ao, 3, none⟩) (Kd.R_far (p := ⟨ao, 2, none⟩) (Kd.R_far (p := ⟨ao, 1, none⟩) (Kd.R_far (p := ⟨ao, 0, none⟩) (Kd.R_mono bC.out (fun k_ hk => (⟨hk, hk.2⟩ : _ ∧ k_ ≠ ao))) (fun _ hk => hk.2) (.int .i64 bK)) (fun _ hk => hk.2) (.string bN)) (fun _ hk => hk.2) (.string bQ)) (fun _ hk => hk.2) (.bool cb)) (fun _ hk => ⟨hk.1.1.1, ⟨hk.1.1.2.1, ⟨hk.1.1.2.2.1, ⟨hk.1.1.2.2.2.1, hk.1.1.2.2.2.2⟩⟩⟩⟩)⟩, ⟨by (with_reducible repeat (first | apply Ra_ | apply Rn_ | apply Rd_)); exact Kd.R_mono (Kd.R_far (p := ⟨ao, 3, none⟩) (Kd.R_far (p := ⟨ao, 2, none⟩) (Kd.R_far (p := ⟨ao, 1, none⟩) (Kd.R_far (p := ⟨ao, 0, none⟩) (Kd.R_mono bD.out (fun k_ hk => (⟨hk, hk.2⟩ : _ ∧ k_ ≠ ao))) (fun _ hk => hk.2) (.int .i64 bK)) (fun _ hk => hk.2) (.string bN)) (fun _ hk => hk.2) (.string bQ)) (fun _ hk => hk.2) (.bool cb)) (fun _ hk => ⟨hk.1.1.1, ⟨hk.1.1.2.1, ⟨hk.1.1.2.2.1, ⟨hk.1.1.2.2.2.1, hk.1.1.2.2.2.2⟩⟩⟩⟩)⟩, ⟨by (with_reducible repeat (first | apply Kd.V_alloc | apply Kd.V_drewN | apply Kd.V_drew)); exact Kd.V_mono (Kd.V_far (p := ⟨ao, 3, none⟩) (Kd.V_far (p := ⟨ao, 2, none⟩) (Kd.V_far (p := ⟨ao, 1, none⟩) (Kd.V_far (p := ⟨ao, 0, none⟩) (Kd.V_mono ac.out (fun k_ hk => (⟨hk, hk.2⟩ : _ ∧ k_ ≠ ao))) (fun _ hk => hk.2) (.int .i64 bK)) (fun _ hk => hk.2) (.string bN)) (fun _ hk => hk.2) (.string bQ)) (fun _ hk => hk.2) (.bool cb)) (fun _ hk => ⟨hk.1.1.1, ⟨hk.1.1.2.1, ⟨hk.1.1.2.2.1, ⟨hk.1.1.2.2.2.1, ⟨hk.1.1.2.2.2.2.1, ⟨hk.1.1.2.2.2.2.2.1, ⟨hk.1.1.2.2.2.2.2.2.1, ⟨hk.1.1.2.2.2.2.2.2.2.1, ⟨hk.1.1.2.2.2.2.2.2.2.2.1, ⟨hk.1.1.2.2.2.2.2.2.2.2.2.1, ⟨hk.1.1.2.2.2.2.2.2.2.2.2.2.1, ⟨hk.1.1.2.2.2.2.2.2.2.2.2.2.2.1, hk.1.1.2.2.2.2.2.2.2.2.2.2.2.2⟩⟩⟩⟩⟩⟩⟩⟩⟩⟩⟩⟩)⟩, ⟨by (with_reducible repeat (first | apply Kd.V_alloc | apply Kd.V_drewN | apply Kd.V_drew)); exact Kd.V_mono (Kd.V_far (p := ⟨ao, 3, none⟩) (Kd.V_far (p := ⟨ao, 2, none⟩) (Kd.V_far (p := ⟨ao, 1, none⟩) (Kd.V_far (p := ⟨ao, 0, none⟩) (Kd.V_mono ad.out (fun k_ hk => (⟨hk, hk.2⟩ : _ ∧ k_ ≠ ao))) (fun _ hk => hk.2) (.int .i64 bK)) (fun _ hk => hk.2) (.string bN)) (fun _ hk => hk.2) (.string bQ)) (fun _ hk => hk.2) (.bool cb)) (fun _ hk => ⟨hk.1.1.1, ⟨hk.1.1.2.1, ⟨hk.1.1.2.2.1, ⟨hk.1.1.2.2.2.1, ⟨hk.1.1.2.2.2.2.1, ⟨hk.1.1.2.2.2.2.2.1, ⟨hk.1.1.2.2.2.2.2.2.1, ⟨hk.1.1.2.2.2.2.2.2.2.1, ⟨hk.1.1.2.2.2.2.2.2.2.2.1, ⟨hk.1.1.2.2.2.2.2.2.2.2.2.1, ⟨hk.1.1.2.2.2.2.2.2.2.2.2.2.1, ⟨hk.1.1.2.2.2.2.2.2.2.2.2.2.2.1, hk.1.1.2.2.2.2.2.2.2.2.2.2.2.2⟩⟩⟩⟩⟩⟩⟩⟩⟩⟩⟩⟩)⟩, ⟨by (with_reducible repeat (first | apply Ra_ | apply Rn_ | apply Rd_)); exact Kd.R_mono (Kd.R_far (p := ⟨ao, 3, none⟩) (Kd.R_far (p := ⟨ao, 2, none⟩) (Kd.R_far (p := ⟨ao, 1, none⟩) (Kd.R_far (p := ⟨ao, 0, none⟩) (Kd.R_mono aa.out (fun k_ hk => (⟨hk, hk.2⟩ : _ ∧ k_ ≠ ao))) (fun _ hk => hk.2) (.int .i64 bK)) (fun _ hk => hk.2) (.string bN)) (fun _ hk => hk.2) (.string bQ)) (fun _ hk => hk.2) (.bool cb)) (fun _ hk => ⟨hk.1.1.1, ⟨hk.1.1.2.1, ⟨hk.1.1.2.2.1, ⟨hk.1.1.2.2.2.1, hk.1.1.2.2.2.2⟩⟩⟩⟩)⟩, ⟨by (with_reducible repeat (first | apply Ra_ | apply Rn_ | apply Rd_)); exact Kd.R_mono (Kd.R_far (p := ⟨ao, 3, none⟩) (Kd.R_far (p := ⟨ao, 2, none⟩) (Kd.R_far (p := ⟨ao, 1, none⟩) (Kd.R_far (p := ⟨ao, 0, none⟩) (Kd.R_types ab.out cN.out (by decide)) (fun _ hk => hk.2) (.int .i64 bK)) (fun _ hk => hk.2) (.string bN)) (fun _ hk => hk.2) (.string bQ)) (fun _ hk => hk.2) (.bool cb)) (fun _ hk => hk.1)⟩, ⟨(fa_ (fa_ (fa_ (fa_ (h_ af) bU.out) bU.out) bU.out) bU.out)⟩, ⟨(fa_ (fa_ (fa_ (fa_ (h_ ak) bV.out) bV.out) bV.out) bV.out)⟩, ⟨(fa_ (fa_ (fa_ (fa_ (h_ ai) bW.out) bW.out) bW.out) bW.out)⟩, ⟨(fa_ (fa_ (fa_ (fa_ (h_ aj) bX.out) bX.out) bX.out) bX.out)⟩, ⟨(fa_ (fa_ (fa_ (fa_ (h_ ag) bY.out) bY.out) bY.out) bY.out)⟩, ⟨(fa_ (fa_ (fa_ (fa_ (h_ ah) bZ.out) bZ.out) bZ.out) bZ.out)⟩, ⟨(fa_ (fa_ (fa_ (fa_ (h_ aq) ca.out) ca.out) ca.out) ca.out)⟩, ⟨(fa_ (fa_ (fa_ (fa_ (h_ ar) bI.out) bI.out) bI.out) bI.out)⟩, ⟨b_ HB⟩⟩
   subst c259
   rw [if_pos rfl] at H
   have H' := mk0 H
   clear H
   have At := bl.out
   have Au := bm.out
   have Av := ax.out
   have Aw := be.out
   have Ax := bn.out
   have Ay := bw.out
   have Az := aC.out
   have AA := bp.out
   have AB := aZ.out
   have AC := bF.out
   have AD := ck.out
   have AE := dh.out
   have AF := bT.out
   have AG := cz.out
   obtain ⟨lY, lZ, ma, mb⟩ := c2_ af
   have AH := aR.out
   have AI := aT.out
   have AJ := bo.out
   have AK := bx.out
   have AL := aA.out
   have AM := bf.out
   have AN := aK.out
   have AO := bk.out
   have AP := cg.out
   have AQ := cU.out
   have AR := bM.out
   have AS := cl.out
   obtain ⟨mc, md, me, mf, mg, mh, mi, mj, ml, mm, mn, mo⟩ := c6_ ak
   try go_wp2_with (first | ((with_reducible refine gate_callee (f := 17) rfl ?_); refine gL_ (some 150) Try.func17 #[.agg #[.slice A0_0 aD.length c0_0, .slice A0_1 aM.length c0_1], .int .i64 a1_2, .string a1_3] (h := ?_); (with_reducible refine (quorumref8_Last.calls kj227 _ _ aD _ _ aM a1_2 a1_3 bK bN bQ cb true _ ?side1 ?side2 ?side3 ?side4 A258.out).mono ?_); (case side1 => exact cv_ ac); (case side2 => exact (Kd.V_reads' ac.out).2.1); (case side3 => exact cv_ ad); (case side4 => exact (Kd.V_reads' ad.out).2.1); rintro e w275 ⟨rfl, hb⟩; refine ⟨_, rfl, ?_⟩; replace bC := mk0 (Kd.R_below (r_ bC) hb); replace bD := mk0 (Kd.R_below (r_ bD) hb); replace ac := mk0 (Kd.V_below (v_ ac) hb); replace ad := mk0 (Kd.V_below (v_ ad) hb); replace aa := mk0 (Kd.R_below (r_ aa) hb); replace ab := mk0 (Kd.R_below (r_ ab) hb); replace af := mk0 (u_ af hb); replace ak := mk0 (u_ ak hb); replace ai := mk0 (u_ ai hb); replace aj := mk0 (u_ aj hb); replace ag := mk0 (u_ ag hb); replace ah := mk0 (u_ ah hb); replace aq := mk0 (u_ aq hb); replace ar := mk0 (blk_below (g := aE) (o := .cells #[.int .i64 0, .string (⟨#[]⟩ : ByteArray), .string (⟨#[]⟩ : ByteArray), .bool false] 36 (0, 0)) (h_ ar) hb); replace HB := mk0 (bt_ (b_ HB) hb); (try clear hb)) | ((with_reducible refine gate_dst (N := 21) rfl ?_); refine bx_ (N := 21) (cs := #[.int .i64 0, .string (⟨#[]⟩ : ByteArray), .string (⟨#[]⟩ : ByteArray), .bool false]) (t := 36) (h := ?_); intro ao hg w276 hbox hb; have n16_ := mk0 (gz_ HB hg); have n17_ := mk0 (gz_ HB hg); have n18_ := mk0 (ne1_ af hg); have n19_ := mk0 (ne2_ af hg); have n20_ := mk0 (ne1_ ak hg); have n21_ := mk0 (ne2_ ak hg); have n22_ := mk0 (ne1_ ai hg); have n23_ := mk0 (ne2_ ai hg); have n24_ := mk0 (ne1_ aj hg); have n25_ := mk0 (ne2_ aj hg); have n26_ := mk0 (ne1_ ag hg); have n27_ := mk0 (ne2_ ag hg); have n28_ := mk0 (ne1_ ah hg); have n29_ := mk0 (ne2_ ah hg); have n30_ := mk0 (ne1_ aq hg); have n31_ := mk0 (ne2_ aq hg); have n32_ := mk0 ((by rw [hg]; exact Nat.ne_of_lt (blk_lt (g := aE) (o := .cells #[.int .i64 0, .string (⟨#[]⟩ : ByteArray), .string (⟨#[]⟩ : ByteArray), .bool false] 36 (0, 0)) (h_ ar)) : aE ≠ ao)); have n33_ := mk0 ((by rw [hg]; exact Nat.ne_of_gt (blk_lt (g := aE) (o := .cells #[.int .i64 0, .string (⟨#[]⟩ : ByteArray), .string (⟨#[]⟩ : ByteArray), .bool false] 36 (0, 0)) (h_ ar)) : ao ≠ aE)); replace bC := mk0 (Kd.R_below (Kd.R_elderB (r_ bC) ao (Nat.le_of_eq hg.symm)) hb); replace bD := mk0 (Kd.R_below (Kd.R_elderB (r_ bD) ao (Nat.le_of_eq hg.symm)) hb); replace ac := mk0 (Kd.V_below (Kd.V_elderB (v_ ac) ao (Nat.le_of_eq hg.symm)) hb); replace ad := mk0 (Kd.V_below (Kd.V_elderB (v_ ad) ao (Nat.le_of_eq hg.symm)) hb); replace aa := mk0 (Kd.R_below (Kd.R_elderB (r_ aa) ao (Nat.le_of_eq hg.symm)) hb); replace ab := mk0 (Kd.R_below (r_ ab) hb); replace af := mk0 (u_ af hb); replace ak := mk0 (u_ ak hb); replace ai := mk0 (u_ ai hb); replace aj := mk0 (u_ aj hb); replace ag := mk0 (u_ ag hb); replace ah := mk0 (u_ ah hb); replace aq := mk0 (u_ aq hb); replace ar := mk0 (blk_below (g := aE) (o := .cells #[.int .i64 0, .string (⟨#[]⟩ : ByteArray), .string (⟨#[]⟩ : ByteArray), .bool false] 36 (0, 0)) (h_ ar) hb); replace HB := mk0 (bt_ (b_ HB) hb); have cN := mk0 (hbox); have oW := n16_; have oX := n17_; have bU := n18_; have dR := n19_; have bV := n20_; have dS := n21_; have bW := n22_; have dT := n23_; have bX := n24_; have dU := n25_; have bY := n26_; have dV := n27_; have bZ := n28_; have dW := n29_; have ca := n30_; have dX := n31_; have bI := n32_; have bh := n33_; clear n16_ n17_ n18_ n19_ n20_ n21_ n22_ n23_ n24_ n25_ n26_ n27_ n28_ n29_ n30_ n31_ n32_ n33_ hb hbox hg; have AT := dR.out; have AU := bU.out; have AV := dS.out; have AW := bV.out; have AX := dT.out; have AY := bW.out; have AZ := dU.out; have Ba := bX.out; have Bb := dV.out; have Bc := bY.out; have Bd := dW.out; have Be := bZ.out; have Bf := dX.out; have Bg := ca.out; have Bh := bh.out; have Bi := bI.out; obtain ⟨mq, mr, ms, mt, mu, mv, mw, mx⟩ := c4_ cN))
   have n0_ : Fc (Kd.R k36 36 ((((w276.setCell ⟨ao, 0, none⟩ (.int .i64 bK)).setCell ⟨ao, 1, none⟩ (.string bN)).setCell ⟨ao, 2, none⟩ (.string bQ)).setCell ⟨ao, 3, none⟩ (.bool cb)) w.heap.size (fun k_ => (w.heap.size ≤ k_) ∧ some k_ ≠ (v400 : Value).ownBlock ∧ some k_ ≠ (.slice bc aG.length bb : Value).ownBlock ∧ k_ ≠ aQ ∧ k_ ≠ aE ∧ k_ ≠ ao) v395 fC) := ⟨by (with_reducible repeat (first | apply Ra_ | apply Rn_ | apply Rd_)); exact Kd.R_mono (Kd.R_far (p := ⟨ao, 3, none⟩) (Kd.R_far (p := ⟨ao, 2, none⟩) (Kd.R_far (p := ⟨ao, 1, none⟩) (Kd.R_far (p := ⟨ao, 0, none⟩) (Kd.R_mono bC.out (fun k_ hk => (⟨hk, hk.2⟩ : _ ∧ k_ ≠ ao))) (fun _ hk => hk.2) (.int .i64 bK)) (fun _ hk => hk.2) (.string bN)) (fun _ hk => hk.2) (.string bQ)) (fun _ hk => hk.2) (.bool cb)) (fun _ hk => ⟨hk.1.1.1, ⟨hk.1.1.2.1, ⟨hk.1.1.2.2.1, ⟨hk.1.1.2.2.2.1, ⟨hk.1.1.2.2.2.2, hk.1.2⟩⟩⟩⟩⟩)⟩
   have n1_ : Fc (Kd.R k36 36 ((((w276.setCell ⟨ao, 0, none⟩ (.int .i64 bK)).setCell ⟨ao, 1, none⟩ (.string bN)).setCell ⟨ao, 2, none⟩ (.string bQ)).setCell ⟨ao, 3, none⟩ (.bool cb)) w.heap.size (fun k_ => (w.heap.size ≤ k_) ∧ some k_ ≠ (v395 : Value).ownBlock ∧ some k_ ≠ (.slice bc aG.length bb : Value).ownBlock ∧ k_ ≠ aQ ∧ k_ ≠ aE ∧ k_ ≠ ao) v400 lj) := ⟨by (with_reducible repeat (first | apply Ra_ | apply Rn_ | apply Rd_)); exact Kd.R_mono (Kd.R_far (p := ⟨ao, 3, none⟩) (Kd.R_far (p := ⟨ao, 2, none⟩) (Kd.R_far (p := ⟨ao, 1, none⟩) (Kd.R_far (p := ⟨ao, 0, none⟩) (Kd.R_mono bD.out (fun k_ hk => (⟨hk, hk.2⟩ : _ ∧ k_ ≠ ao))) (fun _ hk => hk.2) (.int .i64 bK)) (fun _ hk => hk.2) (.string bN)) (fun _ hk => hk.2) (.string bQ)) (fun _ hk => hk.2) (.bool cb)) (fun _ hk => ⟨hk.1.1.1, ⟨hk.1.1.2.1, ⟨hk.1.1.2.2.1, ⟨hk.1.1.2.2.2.1, ⟨hk.1.1.2.2.2.2, hk.1.2⟩⟩⟩⟩⟩)⟩
   have n2_ : Fc (Kd.V k36 36 ((((w276.setCell ⟨ao, 0, none⟩ (.int .i64 bK)).setCell ⟨ao, 1, none⟩ (.string bN)).setCell ⟨ao, 2, none⟩ (.string bQ)).setCell ⟨ao, 3, none⟩ (.bool cb)) w.heap.size (fun k_ => ((P0_0_ k_ ∨ P0_1_ k_) ∨ w.heap.size ≤ k_) ∧ some k_ ≠ (v395 : Value).ownBlock ∧ some k_ ≠ (v400 : Value).ownBlock ∧ some k_ ≠ (.slice bc aG.length bb : Value).ownBlock ∧ some k_ ≠ (.slice bj aN.length bi : Value).ownBlock ∧ k_ ≠ bd ∧ k_ ≠ bq ∧ k_ ≠ ap ∧ k_ ≠ aV ∧ k_ ≠ ae ∧ k_ ≠ am ∧ k_ ≠ aQ ∧ k_ ≠ aE ∧ k_ ≠ ao) (.slice A0_0 aD.length c0_0) aD) := ⟨by (with_reducible repeat (first | apply Kd.V_alloc | apply Kd.V_drewN | apply Kd.V_drew)); exact Kd.V_mono (Kd.V_far (p := ⟨ao, 3, none⟩) (Kd.V_far (p := ⟨ao, 2, none⟩) (Kd.V_far (p := ⟨ao, 1, none⟩) (Kd.V_far (p := ⟨ao, 0, none⟩) (Kd.V_mono ac.out (fun k_ hk => (⟨hk, hk.2⟩ : _ ∧ k_ ≠ ao))) (fun _ hk => hk.2) (.int .i64 bK)) (fun _ hk => hk.2) (.string bN)) (fun _ hk => hk.2) (.string bQ)) (fun _ hk => hk.2) (.bool cb)) (fun _ hk => ⟨hk.1.1.1, ⟨hk.1.1.2.1, ⟨hk.1.1.2.2.1, ⟨hk.1.1.2.2.2.1, ⟨hk.1.1.2.2.2.2.1, ⟨hk.1.1.2.2.2.2.2.1, ⟨hk.1.1.2.2.2.2.2.2.1, ⟨hk.1.1.2.2.2.2.2.2.2.1, ⟨hk.1.1.2.2.2.2.2.2.2.2.1, ⟨hk.1.1.2.2.2.2.2.2.2.2.2.1, ⟨hk.1.1.2.2.2.2.2.2.2.2.2.2.1, ⟨hk.1.1.2.2.2.2.2.2.2.2.2.2.2.1, ⟨hk.1.1.2.2.2.2.2.2.2.2.2.2.2.2, hk.1.2⟩⟩⟩⟩⟩⟩⟩⟩⟩⟩⟩⟩⟩)⟩
   have n3_ : Fc (Kd.V (Kd.int .i64) 3 ((((w276.setCell ⟨ao, 0, none⟩ (.int .i64 bK)).setCell ⟨ao, 1, none⟩ (.string bN)).setCell ⟨ao, 2, none⟩ (.string bQ)).setCell ⟨ao, 3, none⟩ (.bool cb)) w.heap.size (fun k_ => ((P0_0_ k_ ∨ P0_1_ k_) ∨ w.heap.size ≤ k_) ∧ some k_ ≠ (v395 : Value).ownBlock ∧ some k_ ≠ (v400 : Value).ownBlock ∧ some k_ ≠ (.slice bc aG.length bb : Value).ownBlock ∧ some k_ ≠ (.slice bj aN.length bi : Value).ownBlock ∧ k_ ≠ bd ∧ k_ ≠ bq ∧ k_ ≠ ap ∧ k_ ≠ aV ∧ k_ ≠ ae ∧ k_ ≠ am ∧ k_ ≠ aQ ∧ k_ ≠ aE ∧ k_ ≠ ao) (.slice A0_1 aM.length c0_1) aM) := ⟨by (with_reducible repeat (first | apply Kd.V_alloc | apply Kd.V_drewN | apply Kd.V_drew)); exact Kd.V_mono (Kd.V_far (p := ⟨ao, 3, none⟩) (Kd.V_far (p := ⟨ao, 2, none⟩) (Kd.V_far (p := ⟨ao, 1, none⟩) (Kd.V_far (p := ⟨ao, 0, none⟩) (Kd.V_mono ad.out (fun k_ hk => (⟨hk, hk.2⟩ : _ ∧ k_ ≠ ao))) (fun _ hk => hk.2) (.int .i64 bK)) (fun _ hk => hk.2) (.string bN)) (fun _ hk => hk.2) (.string bQ)) (fun _ hk => hk.2) (.bool cb)) (fun _ hk => ⟨hk.1.1.1, ⟨hk.1.1.2.1, ⟨hk.1.1.2.2.1, ⟨hk.1.1.2.2.2.1, ⟨hk.1.1.2.2.2.2.1, ⟨hk.1.1.2.2.2.2.2.1, ⟨hk.1.1.2.2.2.2.2.2.1, ⟨hk.1.1.2.2.2.2.2.2.2.1, ⟨hk.1.1.2.2.2.2.2.2.2.2.1, ⟨hk.1.1.2.2.2.2.2.2.2.2.2.1, ⟨hk.1.1.2.2.2.2.2.2.2.2.2.2.1, ⟨hk.1.1.2.2.2.2.2.2.2.2.2.2.2.1, ⟨hk.1.1.2.2.2.2.2.2.2.2.2.2.2.2, hk.1.2⟩⟩⟩⟩⟩⟩⟩⟩⟩⟩⟩⟩⟩)⟩
   have n4_ : Fc (Kd.R k36 36 ((((w276.setCell ⟨ao, 0, none⟩ (.int .i64 bK)).setCell ⟨ao, 1, none⟩ (.string bN)).setCell ⟨ao, 2, none⟩ (.string bQ)).setCell ⟨ao, 3, none⟩ (.bool cb)) w.heap.size (fun k_ => (w.heap.size ≤ k_) ∧ some k_ ≠ (v395 : Value).ownBlock ∧ some k_ ≠ (v400 : Value).ownBlock ∧ k_ ≠ aQ ∧ k_ ≠ aE ∧ k_ ≠ ao) (.slice bc aG.length bb) aG) := ⟨by (with_reducible repeat (first | apply Ra_ | apply Rn_ | apply Rd_)); exact Kd.R_mono (Kd.R_far (p := ⟨ao, 3, none⟩) (Kd.R_far (p := ⟨ao, 2, none⟩) (Kd.R_far (p := ⟨ao, 1, none⟩) (Kd.R_far (p := ⟨ao, 0, none⟩) (Kd.R_mono aa.out (fun k_ hk => (⟨hk, hk.2⟩ : _ ∧ k_ ≠ ao))) (fun _ hk => hk.2) (.int .i64 bK)) (fun _ hk => hk.2) (.string bN)) (fun _ hk => hk.2) (.string bQ)) (fun _ hk => hk.2) (.bool cb)) (fun _ hk => ⟨hk.1.1.1, ⟨hk.1.1.2.1, ⟨hk.1.1.2.2.1, ⟨hk.1.1.2.2.2.1, ⟨hk.1.1.2.2.2.2, hk.1.2⟩⟩⟩⟩⟩)⟩
   have n5_ : Fc (Kd.R (Kd.int .i64) 3 ((((w276.setCell ⟨ao, 0, none⟩ (.int .i64 bK)).setCell ⟨ao, 1, none⟩ (.string bN)).setCell ⟨ao, 2, none⟩ (.string bQ)).setCell ⟨ao, 3, none⟩ (.bool cb)) w.heap.size (fun k_ => (w.heap.size ≤ k_)) (.slice bj aN.length bi) aN) := ⟨by (with_reducible repeat (first | apply Ra_ | apply Rn_ | apply Rd_)); exact Kd.R_mono (Kd.R_far (p := ⟨ao, 3, none⟩) (Kd.R_far (p := ⟨ao, 2, none⟩) (Kd.R_far (p := ⟨ao, 1, none⟩) (Kd.R_far (p := ⟨ao, 0, none⟩) (Kd.R_types ab.out cN.out (by decide)) (fun _ hk => hk.2) (.int .i64 bK)) (fun _ hk => hk.2) (.string bN)) (fun _ hk => hk.2) (.string bQ)) (fun _ hk => hk.2) (.bool cb)) (fun _ hk => hk.1)⟩
   have n6_ : Fc (((((w276.setCell ⟨ao, 0, none⟩ (.int .i64 bK)).setCell ⟨ao, 1, none⟩ (.string bN)).setCell ⟨ao, 2, none⟩ (.string bQ)).setCell ⟨ao, 3, none⟩ (.bool cb)).heap[bd]? = some (.cells #[.slice A0_0 aD.length c0_0, .slice A0_1 aM.length c0_1] 34 (0, 0))) := ⟨(fa_ (fa_ (fa_ (fa_ (h_ af) bU.out) bU.out) bU.out) bU.out)⟩
   have n7_ : Fc (((((w276.setCell ⟨ao, 0, none⟩ (.int .i64 bK)).setCell ⟨ao, 1, none⟩ (.string bN)).setCell ⟨ao, 2, none⟩ (.string bQ)).setCell ⟨ao, 3, none⟩ (.bool cb)).heap[bq]? = some (.cells #[.int .i64 a1_0, .int .i64 a1_1, .int .i64 a1_2, .string a1_3, .string a1_4, .bool a1_5] 62 (0, 0))) := ⟨(fa_ (fa_ (fa_ (fa_ (h_ ak) bV.out) bV.out) bV.out) bV.out)⟩
   have n8_ : Fc (((((w276.setCell ⟨ao, 0, none⟩ (.int .i64 bK)).setCell ⟨ao, 1, none⟩ (.string bN)).setCell ⟨ao, 2, none⟩ (.string bQ)).setCell ⟨ao, 3, none⟩ (.bool cb)).heap[ap]? = some (.cells #[.slice none 0 0, .slice none 0 0] 34 (0, 0))) := ⟨(fa_ (fa_ (fa_ (fa_ (h_ ai) bW.out) bW.out) bW.out) bW.out)⟩
   have n9_ : Fc (((((w276.setCell ⟨ao, 0, none⟩ (.int .i64 bK)).setCell ⟨ao, 1, none⟩ (.string bN)).setCell ⟨ao, 2, none⟩ (.string bQ)).setCell ⟨ao, 3, none⟩ (.bool cb)).heap[aV]? = some (.cells #[.slice bc aG.length bb, .slice bj aN.length bi] 34 (0, 0))) := ⟨(fa_ (fa_ (fa_ (fa_ (h_ aj) bX.out) bX.out) bX.out) bX.out)⟩
   have n10_ : Fc (((((w276.setCell ⟨ao, 0, none⟩ (.int .i64 bK)).setCell ⟨ao, 1, none⟩ (.string bN)).setCell ⟨ao, 2, none⟩ (.string bQ)).setCell ⟨ao, 3, none⟩ (.bool cb)).heap[ae]? = some (.cells #[.slice none 0 0, .slice none 0 0] 34 (0, 0))) := ⟨(fa_ (fa_ (fa_ (fa_ (h_ ag) bY.out) bY.out) bY.out) bY.out)⟩
   have n11_ : Fc (((((w276.setCell ⟨ao, 0, none⟩ (.int .i64 bK)).setCell ⟨ao, 1, none⟩ (.string bN)).setCell ⟨ao, 2, none⟩ (.string bQ)).setCell ⟨ao, 3, none⟩ (.bool cb)).heap[am]? = some (.cells #[.slice none 0 0, .slice none 0 0] 34 (0, 0))) := ⟨(fa_ (fa_ (fa_ (fa_ (h_ ah) bZ.out) bZ.out) bZ.out) bZ.out)⟩
   have n12_ : Fc (((((w276.setCell ⟨ao, 0, none⟩ (.int .i64 bK)).setCell ⟨ao, 1, none⟩ (.string bN)).setCell ⟨ao, 2, none⟩ (.string bQ)).setCell ⟨ao, 3, none⟩ (.bool cb)).heap[aQ]? = some (.cells #[.int .i64 cf, .string ci, .string cq, .bool cu] 36 (0, 0))) := ⟨(fa_ (fa_ (fa_ (fa_ (h_ aq) ca.out) ca.out) ca.out) ca.out)⟩
   have n13_ : Fc (((((w276.setCell ⟨ao, 0, none⟩ (.int .i64 bK)).setCell ⟨ao, 1, none⟩ (.string bN)).setCell ⟨ao, 2, none⟩ (.string bQ)).setCell ⟨ao, 3, none⟩ (.bool cb)).heap[aE]? = some (.cells #[.int .i64 0, .string (⟨#[]⟩ : ByteArray), .string (⟨#[]⟩ : ByteArray), .bool false] 36 (0, 0))) := ⟨(fa_ (fa_ (fa_ (fa_ (h_ ar) bI.out) bI.out) bI.out) bI.out)⟩
   have n14_ : Fc (((((w276.setCell ⟨ao, 0, none⟩ (.int .i64 bK)).setCell ⟨ao, 1, none⟩ (.string bN)).setCell ⟨ao, 2, none⟩ (.string bQ)).setCell ⟨ao, 3, none⟩ (.bool cb)).heap[ao]? = some (.cells #[.int .i64 bK, .string bN, .string bQ, .bool cb] 36 (0, 0))) := ⟨(pu_ (cs := #[.int .i64 bK, .string bN, .string bQ, .bool false]) (pu_ (cs := #[.int .i64 bK, .string bN, .string (⟨#[]⟩ : ByteArray), .bool false]) (pu_ (cs := #[.int .i64 bK, .string (⟨#[]⟩ : ByteArray), .string (⟨#[]⟩ : ByteArray), .bool false]) (pu_ (cs := #[.int .i64 0, .string (⟨#[]⟩ : ByteArray), .string (⟨#[]⟩ : ByteArray), .bool false]) (h_ cN)))))⟩
   have n15_ : Fc (Below w.heap.size w ((((w276.setCell ⟨ao, 0, none⟩ (.int .i64 bK)).setCell ⟨ao, 1, none⟩ (.string bN)).setCell ⟨ao, 2, none⟩ (.string bQ)).setCell ⟨ao, 3, none⟩ (.bool cb))) := ⟨b_ HB⟩
   (try clear bC)
   (try clear bD)
   (try clear ac)
   (try clear ad)
   (try clear aa)
   (try clear ab)
   (try clear af)
   (try clear ak)
   (try clear ai)
   (try clear aj)
   (try clear ag)
   (try clear ah)
   (try clear aq)
   (try clear ar)
   (try clear cN)
   (try clear HB)
   generalize ((((w276.setCell ⟨ao, 0, none⟩ (.int .i64 bK)).setCell ⟨ao, 1, none⟩ (.string bN)).setCell ⟨ao, 2, none⟩ (.string bQ)).setCell ⟨ao, 3, none⟩ (.bool cb)) = w286 at n0_ n1_ n2_ n3_ n4_ n5_ n6_ n7_ n8_ n9_ n10_ n11_ n12_ n13_ n14_ n15_ ⊢
   have bC := n0_
   have bD := n1_
   have ac := n2_
   have ad := n3_
   have aa := n4_
   have ab := n5_
   have af := n6_
   have ak := n7_
   have ai := n8_
   have aj := n9_
   have ag := n10_
   have ah := n11_
   have aq := n12_
   have ar := n13_
   have cN := n14_
   have HB := n15_
   clear n0_ n1_ n2_ n3_ n4_ n5_ n6_ n7_ n8_ n9_ n10_ n11_ n12_ n13_ n14_ n15_
   replace bC := mk0 (Rd_ bC.out)
   replace bD := mk0 (Rd_ bD.out)
   replace ac := mk0 (Kd.V_drew ac.out)
   replace ad := mk0 (Kd.V_drew ad.out)
   replace aa := mk0 (Rd_ aa.out)
   replace ab := mk0 (Rd_ ab.out)
   replace af := mk0 (bD_ af.out)
   replace ak := mk0 (bD_ ak.out)
   replace ai := mk0 (bD_ ai.out)
   replace aj := mk0 (bD_ aj.out)
   replace ag := mk0 (bD_ ag.out)
   replace ah := mk0 (bD_ ah.out)
   replace aq := mk0 (bD_ aq.out)
   replace ar := mk0 (bD_ ar.out)
   replace cN := mk0 (bD_ cN.out)
   replace HB := mk0 (b1_ HB.out)
   refine start_ (n := 3) (S := fun w' => w'.cell? ⟨ao, 0, none⟩ = some (.int .i64 bK) ∧ w'.cell? ⟨ao, 1, none⟩ = some (.string bN) ∧ w'.cell? ⟨ao, 2, none⟩ = some (.string bQ) ∧ w'.cell? ⟨ao, 3, none⟩ = some (.bool cb)) (ds := []) #[false, false, false] (by kernel_rfl) rfl rfl ⟨bk_ cN 0, bk_ cN 1, bk_ cN 2, bk_ cN 3⟩ (fun hHeld => ?_)
   generalize w286.drew = w287 at bC bD ac ad aa ab af ak ai aj ag ah aq ar cN HB hHeld ⊢
   refine pure_ (i := 1) (N := some 8) #[false, true, false] rfl rfl (by kernel_rfl) (fun _ _ _ h => h) (Or.inl ⟨by rfl, by intro w'; go_simp; with_reducible rfl⟩) (by simp only [z_]; rfl) ?_
   refine take_ (i := 0) (N := some 154) #[true, true, false] rfl rfl (by kernel_rfl) (fun _ _ _ h => h) (Or.inl ⟨by rfl, by rintro w' ⟨s0, s1, s2, s3⟩; go_simp; with_reducible rfl⟩) hHeld (by simp only [z_]; rfl) ?_
   refine one_ (i := 2) (N := none) #[true, true, true] rfl rfl (by kernel_rfl) (by decide) (fun K hK => ?_)
   have hs288 : w287.cell? ⟨aE, 0, none⟩ = some (.int .i64 0) := bk_ ar 0
   have hfs288 := blk_frozen ar.out 0
   have oY := bT.out
   have oZ := bM.out
   have pa := bz.out
   have pb := cm.out
   have pc := cn.out
   have pd := co.out
   have pe := cp.out
   have pf := bh.out
   have pg := cz.out
   have ph := cl.out
   have pi := aw.out
   have pj := di.out
   have pk := dj.out
   have pl := dk.out
   have pm := dl.out
   have pn := bI.out
   have hs289 : w287.cell? ⟨aE, 1, none⟩ = some (.string (⟨#[]⟩ : ByteArray)) := bk_ ar 1
   have hfs289 := blk_frozen ar.out 1
   have po := bT.out
   have pp := bM.out
   have pq := bz.out
   have pr := cm.out
   have ps := cn.out
   have pt := co.out
   have pu := cp.out
   have pv := bh.out
   have pw := cz.out
   have px := cl.out
   have py := aw.out
   have pz := di.out
   have pA := dj.out
   have pB := dk.out
   have pC := dl.out
   have pD := bI.out
   have hs290 : w287.cell? ⟨aE, 2, none⟩ = some (.string (⟨#[]⟩ : ByteArray)) := bk_ ar 2
   have hfs290 := blk_frozen ar.out 2
   have pE := bT.out
   have pF := bM.out
   have pG := bz.out
   have pH := cm.out
   have pI := cn.out
   have pJ := co.out
   have pK := cp.out
   have pL := bh.out
   have pM := cz.out
   have pN := cl.out
   have pO := aw.out
   have pP := di.out
   have pQ := dj.out
   have pR := dk.out
   have pS := dl.out
   have pT := bI.out
   have hs291 : w287.cell? ⟨aE, 3, none⟩ = some (.bool false) := bk_ ar 3
   have hfs291 := blk_frozen ar.out 3
   have pU := bT.out
   have pV := bM.out
   have pW := bz.out
   have pX := cm.out
   have pY := cn.out
   have pZ := co.out
   have qa := cp.out
   have qb := bh.out
   have qc := cz.out
   have qd := cl.out
   have qe := aw.out
   have qf := di.out
   have qg := dj.out
   have qh := dk.out
   have qi := dl.out
   have qj := bI.out
   have hS4_ : ((((w287.setCell ⟨aE, 0, none⟩ (.int .i64 bK)).setCell ⟨aE, 1, none⟩ (.string bN)).setCell ⟨aE, 2, none⟩ (.string bQ)).setCell ⟨aE, 3, none⟩ (.bool cb)).cell? ⟨ao, 0, none⟩ = some (.int .i64 bK) ∧ ((((w287.setCell ⟨aE, 0, none⟩ (.int .i64 bK)).setCell ⟨aE, 1, none⟩ (.string bN)).setCell ⟨aE, 2, none⟩ (.string bQ)).setCell ⟨aE, 3, none⟩ (.bool cb)).cell? ⟨ao, 1, none⟩ = some (.string bN) ∧ ((((w287.setCell ⟨aE, 0, none⟩ (.int .i64 bK)).setCell ⟨aE, 1, none⟩ (.string bN)).setCell ⟨aE, 2, none⟩ (.string bQ)).setCell ⟨aE, 3, none⟩ (.bool cb)).cell? ⟨ao, 2, none⟩ = some (.string bQ) ∧ ((((w287.setCell ⟨aE, 0, none⟩ (.int .i64 bK)).setCell ⟨aE, 1, none⟩ (.string bN)).setCell ⟨aE, 2, none⟩ (.string bQ)).setCell ⟨aE, 3, none⟩ (.bool cb)).cell? ⟨ao, 3, none⟩ = some (.bool cb) := ⟨(cf_ bh.out ((cf_ bh.out ((cf_ bh.out (cf_ bh.out hHeld.1)))))), (cf_ bh.out ((cf_ bh.out ((cf_ bh.out (cf_ bh.out hHeld.2.1)))))), (cf_ bh.out ((cf_ bh.out ((cf_ bh.out (cf_ bh.out hHeld.2.2.1)))))), (cf_ bh.out ((cf_ bh.out ((cf_ bh.out (cf_ bh.out hHeld.2.2.2))))))⟩
   refine skip_ (w1 := ((((w287.setCell ⟨aE, 0, none⟩ (.int .i64 bK)).setCell ⟨aE, 1, none⟩ (.string bN)).setCell ⟨aE, 2, none⟩ (.string bQ)).setCell ⟨aE, 3, none⟩ (.bool cb))) (by rfl) rfl ?_ ?_
   ·apply st_run_ 36 _ _ (.agg #[.int .i64 bK, .string bN, .string bQ, .bool cb]) (.pointer (some ⟨aE, 0, none⟩))
    case ho => rfl
    case hx => rfl
    case hy => rfl
    case hrun => rw [← sets4_]; exact run_store_run (P := Try.prog) 36 (.agg #[.int .i64 bK, .string bN, .string bQ, .bool cb]) [.int .i64 bK, .string bN, .string bQ, .bool cb] ar.out rfl (by kernel_rfl) (Nat.le_refl 4) (by simp [Value.oneCell'])
   refine hK.out _ _ hS4_ (fun hHeld => ?_)
   clear hK K
   refine done_ (by kernel_rfl) ?_
   try go_wp2
   go_meet
   case rel => exact ⟨_, (0), (0), (lj), (bK), (bN), (bQ), (cb), (by first | rfl | (simp; done) | (simp [*]; done)), (by first | rfl | (simp; done) | (simp [*]; done)), H', ⟨by have := cT.out; have := dy.out; have := lz.out; first | omega | exact Nat.le_refl _⟩, ⟨by (with_reducible repeat (first | apply Ra_ | apply Rn_ | apply Rd_)); exact Kd.R_mono (Kd.R_far (p := ⟨aE, 3, none⟩) (Kd.R_far (p := ⟨aE, 2, none⟩) (Kd.R_far (p := ⟨aE, 1, none⟩) (Kd.R_far (p := ⟨aE, 0, none⟩) (Kd.R_mono bC.out (fun k_ hk => (⟨hk, hk.2.2.2.2.1⟩ : _ ∧ k_ ≠ aE))) (fun _ hk => hk.2) (.int .i64 bK)) (fun _ hk => hk.2) (.string bN)) (fun _ hk => hk.2) (.string bQ)) (fun _ hk => hk.2) (.bool cb)) (fun _ hk => ⟨hk.1.1, ⟨hk.1.2.1, ⟨hk.1.2.2.1, ⟨hk.1.2.2.2.1, hk.1.2.2.2.2.1⟩⟩⟩⟩)⟩, ⟨by (with_reducible repeat (first | apply Ra_ | apply Rn_ | apply Rd_)); exact Kd.R_mono (Kd.R_far (p := ⟨aE, 3, none⟩) (Kd.R_far (p := ⟨aE, 2, none⟩) (Kd.R_far (p := ⟨aE, 1, none⟩) (Kd.R_far (p := ⟨aE, 0, none⟩) (Kd.R_mono bD.out (fun k_ hk => (⟨hk, hk.2.2.2.2.1⟩ : _ ∧ k_ ≠ aE))) (fun _ hk => hk.2) (.int .i64 bK)) (fun _ hk => hk.2) (.string bN)) (fun _ hk => hk.2) (.string bQ)) (fun _ hk => hk.2) (.bool cb)) (fun _ hk => ⟨hk.1.1, ⟨hk.1.2.1, ⟨hk.1.2.2.1, ⟨hk.1.2.2.2.1, hk.1.2.2.2.2.1⟩⟩⟩⟩)⟩, ⟨by (with_reducible repeat (first | apply Kd.V_alloc | apply Kd.V_drewN | apply Kd.V_drew)); exact Kd.V_mono (Kd.V_far (p := ⟨aE, 3, none⟩) (Kd.V_far (p := ⟨aE, 2, none⟩) (Kd.V_far (p := ⟨aE, 1, none⟩) (Kd.V_far (p := ⟨aE, 0, none⟩) (Kd.V_mono ac.out (fun k_ hk => (⟨hk, hk.2.2.2.2.2.2.2.2.2.2.2.2.1⟩ : _ ∧ k_ ≠ aE))) (fun _ hk => hk.2) (.int .i64 bK)) (fun _ hk => hk.2) (.string bN)) (fun _ hk => hk.2) (.string bQ)) (fun _ hk => hk.2) (.bool cb)) (fun _ hk => ⟨hk.1.1, ⟨hk.1.2.1, ⟨hk.1.2.2.1, ⟨hk.1.2.2.2.1, ⟨hk.1.2.2.2.2.1, ⟨hk.1.2.2.2.2.2.1, ⟨hk.1.2.2.2.2.2.2.1, ⟨hk.1.2.2.2.2.2.2.2.1, ⟨hk.1.2.2.2.2.2.2.2.2.1, ⟨hk.1.2.2.2.2.2.2.2.2.2.1, ⟨hk.1.2.2.2.2.2.2.2.2.2.2.1, ⟨hk.1.2.2.2.2.2.2.2.2.2.2.2.1, hk.1.2.2.2.2.2.2.2.2.2.2.2.2.1⟩⟩⟩⟩⟩⟩⟩⟩⟩⟩⟩⟩)⟩, ⟨by (with_reducible repeat (first | apply Kd.V_alloc | apply Kd.V_drewN | apply Kd.V_drew)); exact Kd.V_mono (Kd.V_far (p := ⟨aE, 3, none⟩) (Kd.V_far (p := ⟨aE, 2, none⟩) (Kd.V_far (p := ⟨aE, 1, none⟩) (Kd.V_far (p := ⟨aE, 0, none⟩) (Kd.V_mono ad.out (fun k_ hk => (⟨hk, hk.2.2.2.2.2.2.2.2.2.2.2.2.1⟩ : _ ∧ k_ ≠ aE))) (fun _ hk => hk.2) (.int .i64 bK)) (fun _ hk => hk.2) (.string bN)) (fun _ hk => hk.2) (.string bQ)) (fun _ hk => hk.2) (.bool cb)) (fun _ hk => ⟨hk.1.1, ⟨hk.1.2.1, ⟨hk.1.2.2.1, ⟨hk.1.2.2.2.1, ⟨hk.1.2.2.2.2.1, ⟨hk.1.2.2.2.2.2.1, ⟨hk.1.2.2.2.2.2.2.1, ⟨hk.1.2.2.2.2.2.2.2.1, ⟨hk.1.2.2.2.2.2.2.2.2.1, ⟨hk.1.2.2.2.2.2.2.2.2.2.1, ⟨hk.1.2.2.2.2.2.2.2.2.2.2.1, ⟨hk.1.2.2.2.2.2.2.2.2.2.2.2.1, hk.1.2.2.2.2.2.2.2.2.2.2.2.2.1⟩⟩⟩⟩⟩⟩⟩⟩⟩⟩⟩⟩)⟩, ⟨by (with_reducible repeat (first | apply Ra_ | apply Rn_ | apply Rd_)); exact Kd.R_mono (Kd.R_far (p := ⟨aE, 3, none⟩) (Kd.R_far (p := ⟨aE, 2, none⟩) (Kd.R_far (p := ⟨aE, 1, none⟩) (Kd.R_far (p := ⟨aE, 0, none⟩) (Kd.R_mono aa.out (fun k_ hk => (⟨hk, hk.2.2.2.2.1⟩ : _ ∧ k_ ≠ aE))) (fun _ hk => hk.2) (.int .i64 bK)) (fun _ hk => hk.2) (.string bN)) (fun _ hk => hk.2) (.string bQ)) (fun _ hk => hk.2) (.bool cb)) (fun _ hk => ⟨hk.1.1, ⟨hk.1.2.1, ⟨hk.1.2.2.1, ⟨hk.1.2.2.2.1, hk.1.2.2.2.2.1⟩⟩⟩⟩)⟩, ⟨by (with_reducible repeat (first | apply Ra_ | apply Rn_ | apply Rd_)); exact Kd.R_mono (Kd.R_far (p := ⟨aE, 3, none⟩) (Kd.R_far (p := ⟨aE, 2, none⟩) (Kd.R_far (p := ⟨aE, 1, none⟩) (Kd.R_far (p := ⟨aE, 0, none⟩) (Kd.R_types ab.out ar.out (by decide)) (fun _ hk => hk.2) (.int .i64 bK)) (fun _ hk => hk.2) (.string bN)) (fun _ hk => hk.2) (.string bQ)) (fun _ hk => hk.2) (.bool cb)) (fun _ hk => hk.1)⟩, ⟨(fa_ (fa_ (fa_ (fa_ (h_ af) bT.out) bT.out) bT.out) bT.out)⟩, ⟨(fa_ (fa_ (fa_ (fa_ (h_ ak) bM.out) bM.out) bM.out) bM.out)⟩, ⟨(fa_ (fa_ (fa_ (fa_ (h_ ai) bz.out) bz.out) bz.out) bz.out)⟩, ⟨(fa_ (fa_ (fa_ (fa_ (h_ aj) cm.out) cm.out) cm.out) cm.out)⟩, ⟨(fa_ (fa_ (fa_ (fa_ (h_ ag) cn.out) cn.out) cn.out) cn.out)⟩, ⟨(fa_ (fa_ (fa_ (fa_ (h_ ah) co.out) co.out) co.out) co.out)⟩, ⟨(fa_ (fa_ (fa_ (fa_ (h_ aq) cp.out) cp.out) cp.out) cp.out)⟩, ⟨(pu_ (cs := #[.int .i64 bK, .string bN, .string bQ, .bool false]) (pu_ (cs := #[.int .i64 bK, .string bN, .string (⟨#[]⟩ : ByteArray), .bool false]) (pu_ (cs := #[.int .i64 bK, .string (⟨#[]⟩ : ByteArray), .string (⟨#[]⟩ : ByteArray), .bool false]) (pu_ (cs := #[.int .i64 0, .string (⟨#[]⟩ : ByteArray), .string (⟨#[]⟩ : ByteArray), .bool false]) (h_ ar)))))⟩, ⟨b_ HB⟩⟩
  clear HC202
  try clear c30
  try clear c31
  try clear c226
  try clear c257
  try clear c259
  try clear hp hq hr hs
  try clear ht hu hv hw hx hy hz hA hB hC hD hE
  try clear hF hG hH hI
  try clear hJ hL hM hN
  try clear hO hP hQ hR hS hT hU hV hW hX hY hZ
  try clear ej ek el em
  try clear ia ib ic ie
  try clear gQ gR gS gT
  try clear gU gV gW gX gY gZ ha hc hd he hf hh
  try clear hj hl hm hn
  try clear iC iD iE iF
  try clear iG iH iI iJ iK iL iM iN iO iP iQ iR
  try clear iS iT iU iV
  try clear iW iX iY iZ
  try clear ja jb jc jd je jf jg jh ji jj jk jl
  try clear jm jn jo jp
  try clear ig ih ii ij
  try clear ik il im io ip iq ir it iu iv iw ix
  try clear iy iz iA iB
  try clear en eo ep er
  try clear jT jU jV jW
  try clear jX jY jZ ka kb kc kd ke kf kg kh ki
  try clear es et eu ev
  try clear kj kk kl km kn ko kp kr
  try clear ks kt ku kv
  try clear kw kx ky kz
  try clear kM kN kO kP kQ kR kS kT kU kV kW kX
  try clear kA kB kC kD kE kF kG kH kI kJ kK kL
  try clear lY lZ ma mb
  try clear mc md me mf mg mh mi mj ml mm mn mo
  try clear mq mr ms mt mu mv mw mx
  try clear ew ex ey ez eA eB eC eD eE eF eG eH
  try clear lA lB lC lD
  try clear lE lF lG lH lI lJ lK lL lM lN lO lP
  try clear lQ lR lS lT lU lV lW lX
  try clear gk gl gm gn
  try clear gp gq gr gs
  try clear gu gv gw gx
  try clear gy gz gA gB
  try clear gE gF gG gH
  try clear fR fS fT fU
  try clear fV fW fX fY
  try clear fZ ga gb gc
  try clear gd gf gg gh
  try clear fI fJ fK fL
  try clear fM fN fO fP
  obtain ⟨kq, dg, cP, cY, br, bs, bu, bv, rfl, rfl, HA, Gw, bC, bD, ac, ad, aa, ab, af, ak, ai, aj, ag, ah, aq, ar, HB⟩ := hcut
  cases kq with
  | zero => exact absurd HA.out (by simp [quorumlaw10_step.j3])
  | succ kj201 =>
  have H := HA.out
  clear HA
  simp only [quorumlaw10_step.j3] at H
  as_aux_lemma =>
  replace H := Option.bind_eq_some_iff.mp H
  obtain ⟨fD, A3180, H⟩ := H
  try dsimp only at H
  have A318 := mk0 A3180
  clear A3180
  by_cases c319 : fD = dg
  rotate_left
  ·rw [if_neg c319] at H
   have gJ : (fD == dg) = false := beq_eq_false_iff_ne.mpr c319
   have gK : (fD != dg) = true := bne_iff_ne.mpr c319
   simp only [Option.some.injEq, Prod.mk.injEq] at H
   obtain ⟨rfl, rfl, rfl⟩ := H
   try go_wp2
   replace bC := mk0 (Rd_ bC.out)
   replace bD := mk0 (Rd_ bD.out)
   replace ac := mk0 (Kd.V_drew ac.out)
   replace ad := mk0 (Kd.V_drew ad.out)
   replace aa := mk0 (Rd_ aa.out)
   replace ab := mk0 (Rd_ ab.out)
   replace af := mk0 (bD_ af.out)
   replace ak := mk0 (bD_ ak.out)
   replace ai := mk0 (bD_ ai.out)
   replace aj := mk0 (bD_ aj.out)
   replace ag := mk0 (bD_ ag.out)
   replace ah := mk0 (bD_ ah.out)
   replace aq := mk0 (bD_ aq.out)
   replace ar := mk0 (bD_ ar.out)
   replace HB := mk0 (b1_ HB.out)
   refine start_ (n := 28) (S := fun w' => w'.cell? ⟨bd, 0, none⟩ = some (.slice A0_0 aD.length c0_0) ∧ w'.cell? ⟨bd, 1, none⟩ = some (.slice A0_1 aM.length c0_1)) (ds := []) (bt 28 0) (by kernel_rfl) rfl rfl ⟨bk_ af 0, bk_ af 1⟩ (fun hHeld => ?_); refine with_tabW quorumlaw10_step.tab44 quorumlaw10_step.bits44 (fun HT_ HW_ => ?_)
   generalize wc.drew = w343 at bC bD ac ad aa ab af ak ai aj ag ah aq ar HB hHeld ⊢
   refine pq_ HT_.out 1 156 (bt 28 2) (h := ?_)
   refine pq_ HT_.out 3 158 (bt 28 10) (h := ?_)
   refine tq2_ HT_.out HW_.out 0 155 (bt 28 11) hHeld (h := ?_)
   refine one_ (i := 2) (N := some 157) (bt 28 15) rfl rfl (one_of HT_.out (by kernel_rfl)) (by decide) (fun K hK => ?_)
   refine goes_ Try.func63 (by kernel_rfl) rfl #[.int .i64 dQ] (by rfl) rfl rfl (by (try simp only [List.map_toArray, List.map_cons, List.map_nil]); first | done | rfl | (simp only [List.length_drop, List.length_take]; rfl)) ?_
   with_reducible refine (quorumlaw10_num.calls dQ fD _ A318.out).mono ?_
   rintro e w' ⟨rfl, ⟨nd, rfl⟩⟩
   refine ⟨_, rfl, ?_⟩
   refine hK.out _ _ ⟨bk_ af 0, bk_ af 1⟩ (fun hHeld => ?_)
   clear hK K
   refine norm_ (a' := ?_) ?_ ?_
   rotate_left
   ·show Act.put _ (some 157) _ = _
    simp only [z_]
    rfl
   refine pq_ HT_.out 4 159 (bt 28 31) (h := ?_)
   refine pq_ HT_.out 5 160 (bt 28 63) (h := ?_)
   refine uq_ HT_.out 6 161 (bt 28 127) (h := ?_)
   refine uq_ HT_.out 7 162 (bt 28 255) (h := ?_)
   refine uq_ HT_.out 8 163 (bt 28 511) (h := ?_)
   refine pq_ HT_.out 9 164 (bt 28 1023) (h := ?_)
   refine pq_ HT_.out 10 165 (bt 28 2047) (h := ?_)
   refine uq_ HT_.out 11 166 (bt 28 4095) (h := ?_)
   refine uq_ HT_.out 12 167 (bt 28 8191) (h := ?_)
   refine uq_ HT_.out 13 168 (bt 28 16383) (h := ?_)
   refine uq_ HT_.out 14 169 (bt 28 32767) (h := ?_)
   refine pq_ HT_.out 15 170 (bt 28 65535) (h := ?_)
   refine pq_ HT_.out 16 171 (bt 28 131071) (h := ?_)
   refine uq_ HT_.out 17 172 (bt 28 262143) (h := ?_)
   refine uq_ HT_.out 18 173 (bt 28 524287) (h := ?_)
   refine uq_ HT_.out 19 174 (bt 28 1048575) (h := ?_)
   refine pq_ HT_.out 20 175 (bt 28 2097151) (h := ?_)
   refine pq_ HT_.out 21 176 (bt 28 4194303) (h := ?_)
   refine uq_ HT_.out 22 177 (bt 28 8388607) (h := ?_)
   refine uq_ HT_.out 23 178 (bt 28 16777215) (h := ?_)
   refine uq_ HT_.out 24 179 (bt 28 33554431) (h := ?_)
   refine pq_ HT_.out 25 180 (bt 28 67108863) (h := ?_)
   refine one_ (i := 26) (N := none) (bt 28 134217727) rfl rfl (one_of HT_.out (by kernel_rfl)) (by decide) (fun K hK => ?_)
   have hs344 : w343.cell? ⟨ap, 0, none⟩ = some (.slice none 0 0) := bk_ ai 0
   have hfs344 := blk_frozen ai.out 0
   have qk := ax.out
   have ql := aR.out
   have qm := aU.out
   have qn := aY.out
   have qo := bg.out
   have qp := az.out
   have qq := aw.out
   have qr := be.out
   have qs := aT.out
   have qt := aX.out
   have qu := ay.out
   have qv := aI.out
   have qw := bH.out
   have qx := bz.out
   have hs345 : w343.cell? ⟨ap, 1, none⟩ = some (.slice none 0 0) := bk_ ai 1
   have hfs345 := blk_frozen ai.out 1
   have qy := ax.out
   have qz := aR.out
   have qA := aU.out
   have qB := aY.out
   have qC := bg.out
   have qD := az.out
   have qE := aw.out
   have qF := be.out
   have qG := aT.out
   have qH := aX.out
   have qI := ay.out
   have qJ := aI.out
   have qK := bH.out
   have qL := bz.out
   refine skip_ (w1 := ?_) (by rfl) rfl ?_ ?_
   rotate_left
   ·go_simp
    rfl
   refine hK.out _ _ ⟨(cf_ ax.out (cf_ ax.out hHeld.1)), (cf_ ax.out (cf_ ax.out hHeld.2))⟩ (fun hHeld => ?_)
   clear hK K
   refine pq_ HT_.out 27 5 (bt 28 268435455) (h := ?_)
   refine done_ (done_of HT_.out (by kernel_rfl)) ?_
   try go_wp2
   refine bodyPost_ret (results_ct rfl _ _ ap 34 #[.slice A0_0 aD.length c0_0, .slice A0_1 aM.length c0_1] (0, 0) _ rfl (pu_ (cs := #[.slice A0_0 aD.length c0_0, .slice none 0 0]) (pu_ (cs := #[.slice none 0 0, .slice none 0 0]) (h_ ai))) Try.underlying34 rfl (by kernel_rfl)) rfl ?_
   exact ⟨_, _, by first | rfl | (simp [errW_none, errW_some] <;> rfl) | (simp [*, errW_none, errW_some] <;> rfl), by (with_reducible repeat (first | apply Kd.V_alloc | apply Kd.V_drewN | apply Kd.V_drew)); exact Kd.V_mono (Kd.V_far (p := ⟨ap, 1, none⟩) (Kd.V_far (p := ⟨ap, 0, none⟩) (Kd.V_mono ac.out (fun k_ hk => (⟨hk, hk.2.2.2.2.2.2.2.1⟩ : _ ∧ k_ ≠ ap))) (fun _ hk => hk.2) (.slice A0_0 aD.length c0_0)) (fun _ hk => hk.2) (.slice A0_1 aM.length c0_1)) (fun _ hk => hk.1.1), by (with_reducible repeat (first | apply Kd.V_alloc | apply Kd.V_drewN | apply Kd.V_drew)); exact Kd.V_mono (Kd.V_far (p := ⟨ap, 1, none⟩) (Kd.V_far (p := ⟨ap, 0, none⟩) (Kd.V_mono ad.out (fun k_ hk => (⟨hk, hk.2.2.2.2.2.2.2.1⟩ : _ ∧ k_ ≠ ap))) (fun _ hk => hk.2) (.slice A0_0 aD.length c0_0)) (fun _ hk => hk.2) (.slice A0_1 aM.length c0_1)) (fun _ hk => hk.1.1), b_ HB⟩
  rw [if_pos c319] at H
  have gJ : (fD == dg) = true := beq_iff_eq.mpr c319
  have gK : (fD != dg) = false := bne_eq_false_iff_eq.mpr c319
  clear c319
  by_cases c320 : (cf == br && (ci.toList == bs.toList && (cq.toList == bu.toList && (cu == bv)))) = true
  rotate_left
  ·rw [if_neg c320] at H
   have oh : (cf == br && (ci.toList == bs.toList && (cq.toList == bu.toList && (cu == bv)))) = false := by simpa using c320
   (try (have oi : decide (cf = br && (ci.toList == bs.toList && (cq.toList == bu.toList && (cu == bv)))) = false := by simpa using c320))
   (try (have oj : (cf == br && (ci.toList == bs.toList && (cq.toList == bu.toList && (cu == bv)))) = false := by simpa using c320))
   (try (have Bj : ¬ (cf = br && (ci.toList == bs.toList && (cq.toList == bu.toList && (cu == bv)))) := by simpa using c320))
   clear c320
   simp only [Option.some.injEq, Prod.mk.injEq] at H
   obtain ⟨rfl, rfl, rfl⟩ := H
   try go_wp2
   replace bC := mk0 (Rd_ bC.out)
   replace bD := mk0 (Rd_ bD.out)
   replace ac := mk0 (Kd.V_drew ac.out)
   replace ad := mk0 (Kd.V_drew ad.out)
   replace aa := mk0 (Rd_ aa.out)
   replace ab := mk0 (Rd_ ab.out)
   replace af := mk0 (bD_ af.out)
   replace ak := mk0 (bD_ ak.out)
   replace ai := mk0 (bD_ ai.out)
   replace aj := mk0 (bD_ aj.out)
   replace ag := mk0 (bD_ ag.out)
   replace ah := mk0 (bD_ ah.out)
   replace aq := mk0 (bD_ aq.out)
   replace ar := mk0 (bD_ ar.out)
   replace HB := mk0 (b1_ HB.out)
   refine start_ (n := 28) (S := fun w' => w'.cell? ⟨bd, 0, none⟩ = some (.slice A0_0 aD.length c0_0) ∧ w'.cell? ⟨bd, 1, none⟩ = some (.slice A0_1 aM.length c0_1) ∧ w'.cell? ⟨aQ, 0, none⟩ = some (.int .i64 cf) ∧ w'.cell? ⟨aQ, 1, none⟩ = some (.string ci) ∧ w'.cell? ⟨aQ, 2, none⟩ = some (.string cq) ∧ w'.cell? ⟨aQ, 3, none⟩ = some (.bool cu) ∧ w'.cell? ⟨aE, 0, none⟩ = some (.int .i64 br) ∧ w'.cell? ⟨aE, 1, none⟩ = some (.string bs) ∧ w'.cell? ⟨aE, 2, none⟩ = some (.string bu) ∧ w'.cell? ⟨aE, 3, none⟩ = some (.bool bv)) (ds := []) (bt 28 0) (by kernel_rfl) rfl rfl ⟨bk_ af 0, bk_ af 1, bk_ aq 0, bk_ aq 1, bk_ aq 2, bk_ aq 3, bk_ ar 0, bk_ ar 1, bk_ ar 2, bk_ ar 3⟩ (fun hHeld => ?_); refine with_tabW quorumlaw10_step.tab44 quorumlaw10_step.bits44 (fun HT_ HW_ => ?_)
   generalize wc.drew = w340 at bC bD ac ad aa ab af ak ai aj ag ah aq ar HB hHeld ⊢
   refine pq_ HT_.out 1 156 (bt 28 2) (h := ?_)
   refine pq_ HT_.out 3 158 (bt 28 10) (h := ?_)
   refine tq10_ HT_.out HW_.out 0 155 (bt 28 11) hHeld (h := ?_)
   refine one_ (i := 2) (N := some 157) (bt 28 15) rfl rfl (one_of HT_.out (by kernel_rfl)) (by decide) (fun K hK => ?_)
   refine goes_ Try.func63 (by kernel_rfl) rfl #[.int .i64 dQ] (by rfl) rfl rfl (by (try simp only [List.map_toArray, List.map_cons, List.map_nil]); first | done | rfl | (simp only [List.length_drop, List.length_take]; rfl)) ?_
   with_reducible refine (quorumlaw10_num.calls dQ fD _ A318.out).mono ?_
   rintro e w' ⟨rfl, ⟨nd, rfl⟩⟩
   refine ⟨_, rfl, ?_⟩
   refine hK.out _ _ ⟨bk_ af 0, bk_ af 1, bk_ aq 0, bk_ aq 1, bk_ aq 2, bk_ aq 3, bk_ ar 0, bk_ ar 1, bk_ ar 2, bk_ ar 3⟩ (fun hHeld => ?_)
   clear hK K
   refine norm_ (a' := ?_) ?_ ?_
   rotate_left
   ·show Act.put _ (some 157) _ = _
    simp only [z_]
    rfl
   refine pq_ HT_.out 4 159 (bt 28 31) (h := ?_)
   refine pq_ HT_.out 5 160 (bt 28 63) (h := ?_)
   refine tq10_ HT_.out HW_.out 6 161 (bt 28 127) hHeld (h := ?_)
   refine tq10_ HT_.out HW_.out 7 162 (bt 28 255) hHeld (h := ?_)
   refine pq_ HT_.out 8 163 (bt 28 511) (h := ?_)
   refine pq_ HT_.out 9 164 (bt 28 1023) (h := ?_)
   refine pq_ HT_.out 10 165 (bt 28 2047) (h := ?_)
   refine uq_ HT_.out 11 166 (bt 28 4095) (h := ?_)
   refine uq_ HT_.out 12 167 (bt 28 8191) (h := ?_)
   refine uq_ HT_.out 13 168 (bt 28 16383) (h := ?_)
   refine uq_ HT_.out 14 169 (bt 28 32767) (h := ?_)
   refine pq_ HT_.out 15 170 (bt 28 65535) (h := ?_)
   refine pq_ HT_.out 16 171 (bt 28 131071) (h := ?_)
   refine uq_ HT_.out 17 172 (bt 28 262143) (h := ?_)
   refine uq_ HT_.out 18 173 (bt 28 524287) (h := ?_)
   refine uq_ HT_.out 19 174 (bt 28 1048575) (h := ?_)
   refine pq_ HT_.out 20 175 (bt 28 2097151) (h := ?_)
   refine pq_ HT_.out 21 176 (bt 28 4194303) (h := ?_)
   refine uq_ HT_.out 22 177 (bt 28 8388607) (h := ?_)
   refine uq_ HT_.out 23 178 (bt 28 16777215) (h := ?_)
   refine uq_ HT_.out 24 179 (bt 28 33554431) (h := ?_)
   refine pq_ HT_.out 25 180 (bt 28 67108863) (h := ?_)
   refine one_ (i := 26) (N := none) (bt 28 134217727) rfl rfl (one_of HT_.out (by kernel_rfl)) (by decide) (fun K hK => ?_)
   have hs341 : w340.cell? ⟨ap, 0, none⟩ = some (.slice none 0 0) := bk_ ai 0
   have hfs341 := blk_frozen ai.out 0
   have qM := ax.out
   have qN := aR.out
   have qO := aU.out
   have qP := aY.out
   have qQ := bg.out
   have qR := az.out
   have qS := aw.out
   have qT := be.out
   have qU := aT.out
   have qV := aX.out
   have qW := ay.out
   have qX := aI.out
   have qY := bH.out
   have qZ := bz.out
   have hs342 : w340.cell? ⟨ap, 1, none⟩ = some (.slice none 0 0) := bk_ ai 1
   have hfs342 := blk_frozen ai.out 1
   have ra := ax.out
   have rb := aR.out
   have rc := aU.out
   have rd := aY.out
   have re := bg.out
   have rf := az.out
   have rg := aw.out
   have rh := be.out
   have ri := aT.out
   have rj := aX.out
   have rk := ay.out
   have rl := aI.out
   have rm := bH.out
   have rn := bz.out
   refine skip_ (w1 := ?_) (by rfl) rfl ?_ ?_
   rotate_left
   ·go_simp
    rfl
   refine hK.out _ _ ⟨(cf_ ax.out (cf_ ax.out hHeld.1)), (cf_ ax.out (cf_ ax.out hHeld.2.1)), (cf_ az.out (cf_ az.out hHeld.2.2.1)), (cf_ az.out (cf_ az.out hHeld.2.2.2.1)), (cf_ az.out (cf_ az.out hHeld.2.2.2.2.1)), (cf_ az.out (cf_ az.out hHeld.2.2.2.2.2.1)), (cf_ aw.out (cf_ aw.out hHeld.2.2.2.2.2.2.1)), (cf_ aw.out (cf_ aw.out hHeld.2.2.2.2.2.2.2.1)), (cf_ aw.out (cf_ aw.out hHeld.2.2.2.2.2.2.2.2.1)), (cf_ aw.out (cf_ aw.out hHeld.2.2.2.2.2.2.2.2.2))⟩ (fun hHeld => ?_)
   clear hK K
   refine pq_ HT_.out 27 5 (bt 28 268435455) (h := ?_)
   refine done_ (done_of HT_.out (by kernel_rfl)) ?_
   try go_wp2
   refine bodyPost_ret (results_ct rfl _ _ ap 34 #[.slice A0_0 aD.length c0_0, .slice A0_1 aM.length c0_1] (0, 0) _ rfl (pu_ (cs := #[.slice A0_0 aD.length c0_0, .slice none 0 0]) (pu_ (cs := #[.slice none 0 0, .slice none 0 0]) (h_ ai))) Try.underlying34 rfl (by kernel_rfl)) rfl ?_
   exact ⟨_, _, by first | rfl | (simp [errW_none, errW_some] <;> rfl) | (simp [*, errW_none, errW_some] <;> rfl), by (with_reducible repeat (first | apply Kd.V_alloc | apply Kd.V_drewN | apply Kd.V_drew)); exact Kd.V_mono (Kd.V_far (p := ⟨ap, 1, none⟩) (Kd.V_far (p := ⟨ap, 0, none⟩) (Kd.V_mono ac.out (fun k_ hk => (⟨hk, hk.2.2.2.2.2.2.2.1⟩ : _ ∧ k_ ≠ ap))) (fun _ hk => hk.2) (.slice A0_0 aD.length c0_0)) (fun _ hk => hk.2) (.slice A0_1 aM.length c0_1)) (fun _ hk => hk.1.1), by (with_reducible repeat (first | apply Kd.V_alloc | apply Kd.V_drewN | apply Kd.V_drew)); exact Kd.V_mono (Kd.V_far (p := ⟨ap, 1, none⟩) (Kd.V_far (p := ⟨ap, 0, none⟩) (Kd.V_mono ad.out (fun k_ hk => (⟨hk, hk.2.2.2.2.2.2.2.1⟩ : _ ∧ k_ ≠ ap))) (fun _ hk => hk.2) (.slice A0_0 aD.length c0_0)) (fun _ hk => hk.2) (.slice A0_1 aM.length c0_1)) (fun _ hk => hk.1.1), b_ HB⟩
  rw [if_pos c320] at H
  have oh : (cf == br && (ci.toList == bs.toList && (cq.toList == bu.toList && (cu == bv)))) = true := c320
  (try (have oi : decide (cf = br && (ci.toList == bs.toList && (cq.toList == bu.toList && (cu == bv)))) = true := by simpa using c320))
  (try (have oj : (cf == br && (ci.toList == bs.toList && (cq.toList == bu.toList && (cu == bv)))) = true := by simpa using c320))
  clear c320
  replace H := Option.bind_eq_some_iff.mp H
  obtain ⟨kY, A3210, H⟩ := H
  try dsimp only at H
  have A321 := mk0 A3210
  clear A3210
  by_cases c322 : kY = cP
  rotate_left
  ·rw [if_neg c322] at H
   have ol : (kY == cP) = false := beq_eq_false_iff_ne.mpr c322
   have om : (kY != cP) = true := bne_iff_ne.mpr c322
   simp only [Option.some.injEq, Prod.mk.injEq] at H
   obtain ⟨rfl, rfl, rfl⟩ := H
   try go_wp2
   replace bC := mk0 (Rd_ bC.out)
   replace bD := mk0 (Rd_ bD.out)
   replace ac := mk0 (Kd.V_drew ac.out)
   replace ad := mk0 (Kd.V_drew ad.out)
   replace aa := mk0 (Rd_ aa.out)
   replace ab := mk0 (Rd_ ab.out)
   replace af := mk0 (bD_ af.out)
   replace ak := mk0 (bD_ ak.out)
   replace ai := mk0 (bD_ ai.out)
   replace aj := mk0 (bD_ aj.out)
   replace ag := mk0 (bD_ ag.out)
   replace ah := mk0 (bD_ ah.out)
   replace aq := mk0 (bD_ aq.out)
   replace ar := mk0 (bD_ ar.out)
   replace HB := mk0 (b1_ HB.out)
   refine start_ (n := 28) (S := fun w' => w'.cell? ⟨bd, 0, none⟩ = some (.slice A0_0 aD.length c0_0) ∧ w'.cell? ⟨bd, 1, none⟩ = some (.slice A0_1 aM.length c0_1) ∧ w'.cell? ⟨aQ, 0, none⟩ = some (.int .i64 cf) ∧ w'.cell? ⟨aQ, 1, none⟩ = some (.string ci) ∧ w'.cell? ⟨aQ, 2, none⟩ = some (.string cq) ∧ w'.cell? ⟨aQ, 3, none⟩ = some (.bool cu) ∧ w'.cell? ⟨aE, 0, none⟩ = some (.int .i64 br) ∧ w'.cell? ⟨aE, 1, none⟩ = some (.string bs) ∧ w'.cell? ⟨aE, 2, none⟩ = some (.string bu) ∧ w'.cell? ⟨aE, 3, none⟩ = some (.bool bv)) (ds := []) (bt 28 0) (by kernel_rfl) rfl rfl ⟨bk_ af 0, bk_ af 1, bk_ aq 0, bk_ aq 1, bk_ aq 2, bk_ aq 3, bk_ ar 0, bk_ ar 1, bk_ ar 2, bk_ ar 3⟩ (fun hHeld => ?_); refine with_tabW quorumlaw10_step.tab44 quorumlaw10_step.bits44 (fun HT_ HW_ => ?_)
   generalize wc.drew = w337 at bC bD ac ad aa ab af ak ai aj ag ah aq ar HB hHeld ⊢
   refine pq_ HT_.out 1 156 (bt 28 2) (h := ?_)
   refine pq_ HT_.out 3 158 (bt 28 10) (h := ?_)
   refine tq10_ HT_.out HW_.out 0 155 (bt 28 11) hHeld (h := ?_)
   refine one_ (i := 2) (N := some 157) (bt 28 15) rfl rfl (one_of HT_.out (by kernel_rfl)) (by decide) (fun K hK => ?_)
   refine goes_ Try.func63 (by kernel_rfl) rfl #[.int .i64 dQ] (by rfl) rfl rfl (by (try simp only [List.map_toArray, List.map_cons, List.map_nil]); first | done | rfl | (simp only [List.length_drop, List.length_take]; rfl)) ?_
   with_reducible refine (quorumlaw10_num.calls dQ fD _ A318.out).mono ?_
   rintro e w' ⟨rfl, ⟨nd, rfl⟩⟩
   refine ⟨_, rfl, ?_⟩
   refine hK.out _ _ ⟨bk_ af 0, bk_ af 1, bk_ aq 0, bk_ aq 1, bk_ aq 2, bk_ aq 3, bk_ ar 0, bk_ ar 1, bk_ ar 2, bk_ ar 3⟩ (fun hHeld => ?_)
   clear hK K
   refine norm_ (a' := ?_) ?_ ?_
   rotate_left
   ·show Act.put _ (some 157) _ = _
    simp only [z_]
    rfl
   refine pq_ HT_.out 4 159 (bt 28 31) (h := ?_)
   refine pq_ HT_.out 5 160 (bt 28 63) (h := ?_)
   refine tq10_ HT_.out HW_.out 6 161 (bt 28 127) hHeld (h := ?_)
   refine tq10_ HT_.out HW_.out 7 162 (bt 28 255) hHeld (h := ?_)
   refine pq_ HT_.out 8 163 (bt 28 511) (h := ?_)
   refine pq_ HT_.out 9 164 (bt 28 1023) (h := ?_)
   refine pq_ HT_.out 10 165 (bt 28 2047) (h := ?_)
   refine pq_ HT_.out 11 166 (bt 28 4095) (h := ?_)
   refine pq_ HT_.out 13 168 (bt 28 12287) (h := ?_)
   refine one_ (i := 12) (N := some 167) (bt 28 16383) rfl rfl (one_of HT_.out (by kernel_rfl)) (by decide) (fun K hK => ?_)
   refine goes_ Try.func63 (by kernel_rfl) rfl #[.int .i64 gL] (by rfl) rfl rfl (by (try simp only [List.map_toArray, List.map_cons, List.map_nil]); first | done | rfl | (simp only [List.length_drop, List.length_take]; rfl)) ?_
   with_reducible refine (quorumlaw10_num.calls gL kY _ A321.out).mono ?_
   rintro e w' ⟨rfl, ⟨nd, rfl⟩⟩
   refine ⟨_, rfl, ?_⟩
   refine hK.out _ _ ⟨bk_ af 0, bk_ af 1, bk_ aq 0, bk_ aq 1, bk_ aq 2, bk_ aq 3, bk_ ar 0, bk_ ar 1, bk_ ar 2, bk_ ar 3⟩ (fun hHeld => ?_)
   clear hK K
   refine norm_ (a' := ?_) ?_ ?_
   rotate_left
   ·show Act.put _ (some 167) _ = _
    simp only [z_]
    rfl
   refine pq_ HT_.out 14 169 (bt 28 32767) (h := ?_)
   refine pq_ HT_.out 15 170 (bt 28 65535) (h := ?_)
   refine pq_ HT_.out 16 171 (bt 28 131071) (h := ?_)
   refine uq_ HT_.out 17 172 (bt 28 262143) (h := ?_)
   refine uq_ HT_.out 18 173 (bt 28 524287) (h := ?_)
   refine uq_ HT_.out 19 174 (bt 28 1048575) (h := ?_)
   refine pq_ HT_.out 20 175 (bt 28 2097151) (h := ?_)
   refine pq_ HT_.out 21 176 (bt 28 4194303) (h := ?_)
   refine uq_ HT_.out 22 177 (bt 28 8388607) (h := ?_)
   refine uq_ HT_.out 23 178 (bt 28 16777215) (h := ?_)
   refine uq_ HT_.out 24 179 (bt 28 33554431) (h := ?_)
   refine pq_ HT_.out 25 180 (bt 28 67108863) (h := ?_)
   refine one_ (i := 26) (N := none) (bt 28 134217727) rfl rfl (one_of HT_.out (by kernel_rfl)) (by decide) (fun K hK => ?_)
   have hs338 : w337.cell? ⟨ap, 0, none⟩ = some (.slice none 0 0) := bk_ ai 0
   have hfs338 := blk_frozen ai.out 0
   have ro := ax.out
   have rp := aR.out
   have rq := aU.out
   have rr := aY.out
   have rs := bg.out
   have rt := az.out
   have ru := aw.out
   have rv := be.out
   have rx := aT.out
   have ry := aX.out
   have rz := ay.out
   have rA := aI.out
   have rB := bH.out
   have rC := bz.out
   have hs339 : w337.cell? ⟨ap, 1, none⟩ = some (.slice none 0 0) := bk_ ai 1
   have hfs339 := blk_frozen ai.out 1
   have rD := ax.out
   have rE := aR.out
   have rF := aU.out
   have rG := aY.out
   have rH := bg.out
   have rI := az.out
   have rJ := aw.out
   have rK := be.out
   have rL := aT.out
   have rM := aX.out
   have rN := ay.out
   have rO := aI.out
   have rP := bH.out
   have rQ := bz.out
   refine skip_ (w1 := ?_) (by rfl) rfl ?_ ?_
   rotate_left
   ·go_simp
    rfl
   refine hK.out _ _ ⟨(cf_ ax.out (cf_ ax.out hHeld.1)), (cf_ ax.out (cf_ ax.out hHeld.2.1)), (cf_ az.out (cf_ az.out hHeld.2.2.1)), (cf_ az.out (cf_ az.out hHeld.2.2.2.1)), (cf_ az.out (cf_ az.out hHeld.2.2.2.2.1)), (cf_ az.out (cf_ az.out hHeld.2.2.2.2.2.1)), (cf_ aw.out (cf_ aw.out hHeld.2.2.2.2.2.2.1)), (cf_ aw.out (cf_ aw.out hHeld.2.2.2.2.2.2.2.1)), (cf_ aw.out (cf_ aw.out hHeld.2.2.2.2.2.2.2.2.1)), (cf_ aw.out (cf_ aw.out hHeld.2.2.2.2.2.2.2.2.2))⟩ (fun hHeld => ?_)
   clear hK K
   refine pq_ HT_.out 27 5 (bt 28 268435455) (h := ?_)
   refine done_ (done_of HT_.out (by kernel_rfl)) ?_
   try go_wp2
   refine bodyPost_ret (results_ct rfl _ _ ap 34 #[.slice A0_0 aD.length c0_0, .slice A0_1 aM.length c0_1] (0, 0) _ rfl (pu_ (cs := #[.slice A0_0 aD.length c0_0, .slice none 0 0]) (pu_ (cs := #[.slice none 0 0, .slice none 0 0]) (h_ ai))) Try.underlying34 rfl (by kernel_rfl)) rfl ?_
   exact ⟨_, _, by first | rfl | (simp [errW_none, errW_some] <;> rfl) | (simp [*, errW_none, errW_some] <;> rfl), by (with_reducible repeat (first | apply Kd.V_alloc | apply Kd.V_drewN | apply Kd.V_drew)); exact Kd.V_mono (Kd.V_far (p := ⟨ap, 1, none⟩) (Kd.V_far (p := ⟨ap, 0, none⟩) (Kd.V_mono ac.out (fun k_ hk => (⟨hk, hk.2.2.2.2.2.2.2.1⟩ : _ ∧ k_ ≠ ap))) (fun _ hk => hk.2) (.slice A0_0 aD.length c0_0)) (fun _ hk => hk.2) (.slice A0_1 aM.length c0_1)) (fun _ hk => hk.1.1), by (with_reducible repeat (first | apply Kd.V_alloc | apply Kd.V_drewN | apply Kd.V_drew)); exact Kd.V_mono (Kd.V_far (p := ⟨ap, 1, none⟩) (Kd.V_far (p := ⟨ap, 0, none⟩) (Kd.V_mono ad.out (fun k_ hk => (⟨hk, hk.2.2.2.2.2.2.2.1⟩ : _ ∧ k_ ≠ ap))) (fun _ hk => hk.2) (.slice A0_0 aD.length c0_0)) (fun _ hk => hk.2) (.slice A0_1 aM.length c0_1)) (fun _ hk => hk.1.1), b_ HB⟩
  rw [if_pos c322] at H
  have ol : (kY == cP) = true := beq_iff_eq.mpr c322
  have om : (kY != cP) = false := bne_eq_false_iff_eq.mpr c322
  clear c322
  replace H := Option.bind_eq_some_iff.mp H
  obtain ⟨Bk, A3230, H⟩ := H
  try dsimp only at H
  have A323 := mk0 A3230
  clear A3230
  by_cases c324 : Bk = true
  rotate_left
  ·replace c324 := Bool.eq_false_iff.mpr c324
   subst c324
   rw [if_neg (show ¬ (false = true) by decide)] at H
   simp only [Option.some.injEq, Prod.mk.injEq] at H
   obtain ⟨rfl, rfl, rfl⟩ := H
   try go_wp2
   replace bC := mk0 (Rd_ bC.out)
   replace bD := mk0 (Rd_ bD.out)
   replace ac := mk0 (Kd.V_drew ac.out)
   replace ad := mk0 (Kd.V_drew ad.out)
   replace aa := mk0 (Rd_ aa.out)
   replace ab := mk0 (Rd_ ab.out)
   replace af := mk0 (bD_ af.out)
   replace ak := mk0 (bD_ ak.out)
   replace ai := mk0 (bD_ ai.out)
   replace aj := mk0 (bD_ aj.out)
   replace ag := mk0 (bD_ ag.out)
   replace ah := mk0 (bD_ ah.out)
   replace aq := mk0 (bD_ aq.out)
   replace ar := mk0 (bD_ ar.out)
   replace HB := mk0 (b1_ HB.out)
   refine start_ (n := 28) (S := fun w' => w'.cell? ⟨bd, 0, none⟩ = some (.slice A0_0 aD.length c0_0) ∧ w'.cell? ⟨bd, 1, none⟩ = some (.slice A0_1 aM.length c0_1) ∧ w'.cell? ⟨aQ, 0, none⟩ = some (.int .i64 cf) ∧ w'.cell? ⟨aQ, 1, none⟩ = some (.string ci) ∧ w'.cell? ⟨aQ, 2, none⟩ = some (.string cq) ∧ w'.cell? ⟨aQ, 3, none⟩ = some (.bool cu) ∧ w'.cell? ⟨aE, 0, none⟩ = some (.int .i64 br) ∧ w'.cell? ⟨aE, 1, none⟩ = some (.string bs) ∧ w'.cell? ⟨aE, 2, none⟩ = some (.string bu) ∧ w'.cell? ⟨aE, 3, none⟩ = some (.bool bv)) (ds := []) (bt 28 0) (by kernel_rfl) rfl rfl ⟨bk_ af 0, bk_ af 1, bk_ aq 0, bk_ aq 1, bk_ aq 2, bk_ aq 3, bk_ ar 0, bk_ ar 1, bk_ ar 2, bk_ ar 3⟩ (fun hHeld => ?_); refine with_tabW quorumlaw10_step.tab44 quorumlaw10_step.bits44 (fun HT_ HW_ => ?_)
   generalize wc.drew = w332 at bC bD ac ad aa ab af ak ai aj ag ah aq ar HB hHeld ⊢
   refine pq_ HT_.out 1 156 (bt 28 2) (h := ?_)
   refine pq_ HT_.out 3 158 (bt 28 10) (h := ?_)
   refine tq10_ HT_.out HW_.out 0 155 (bt 28 11) hHeld (h := ?_)
   refine one_ (i := 2) (N := some 157) (bt 28 15) rfl rfl (one_of HT_.out (by kernel_rfl)) (by decide) (fun K hK => ?_)
   refine goes_ Try.func63 (by kernel_rfl) rfl #[.int .i64 dQ] (by rfl) rfl rfl (by (try simp only [List.map_toArray, List.map_cons, List.map_nil]); first | done | rfl | (simp only [List.length_drop, List.length_take]; rfl)) ?_
   with_reducible refine (quorumlaw10_num.calls dQ fD _ A318.out).mono ?_
   rintro e w' ⟨rfl, ⟨nd, rfl⟩⟩
   refine ⟨_, rfl, ?_⟩
   refine hK.out _ _ ⟨bk_ af 0, bk_ af 1, bk_ aq 0, bk_ aq 1, bk_ aq 2, bk_ aq 3, bk_ ar 0, bk_ ar 1, bk_ ar 2, bk_ ar 3⟩ (fun hHeld => ?_)
   clear hK K
   refine norm_ (a' := ?_) ?_ ?_
   rotate_left
   ·show Act.put _ (some 157) _ = _
    simp only [z_]
    rfl
   refine pq_ HT_.out 4 159 (bt 28 31) (h := ?_)
   refine pq_ HT_.out 5 160 (bt 28 63) (h := ?_)
   refine tq10_ HT_.out HW_.out 6 161 (bt 28 127) hHeld (h := ?_)
   refine tq10_ HT_.out HW_.out 7 162 (bt 28 255) hHeld (h := ?_)
   refine pq_ HT_.out 8 163 (bt 28 511) (h := ?_)
   refine pq_ HT_.out 9 164 (bt 28 1023) (h := ?_)
   refine pq_ HT_.out 10 165 (bt 28 2047) (h := ?_)
   refine pq_ HT_.out 11 166 (bt 28 4095) (h := ?_)
   refine pq_ HT_.out 13 168 (bt 28 12287) (h := ?_)
   refine one_ (i := 12) (N := some 167) (bt 28 16383) rfl rfl (one_of HT_.out (by kernel_rfl)) (by decide) (fun K hK => ?_)
   refine goes_ Try.func63 (by kernel_rfl) rfl #[.int .i64 gL] (by rfl) rfl rfl (by (try simp only [List.map_toArray, List.map_cons, List.map_nil]); first | done | rfl | (simp only [List.length_drop, List.length_take]; rfl)) ?_
   with_reducible refine (quorumlaw10_num.calls gL kY _ A321.out).mono ?_
   rintro e w' ⟨rfl, ⟨nd, rfl⟩⟩
   refine ⟨_, rfl, ?_⟩
   obtain ⟨rR, rS, oa⟩ := Kd.R_slice bC.out
   (first | subst oa | (injection oa with f1_ f2_ f3_; have f4_ := f1_.symm; have f5_ := f3_.symm; clear f1_ f2_ f3_; subst f4_; subst f5_))
   obtain ⟨rT, rU, ob⟩ := Kd.R_slice bD.out
   (first | subst ob | (injection ob with f1_ f2_ f3_; have f4_ := f1_.symm; have f5_ := f3_.symm; clear f1_ f2_ f3_; subst f4_; subst f5_))
   refine hK.out _ _ ⟨bk_ af 0, bk_ af 1, bk_ aq 0, bk_ aq 1, bk_ aq 2, bk_ aq 3, bk_ ar 0, bk_ ar 1, bk_ ar 2, bk_ ar 3⟩ (fun hHeld => ?_)
   clear hK K
   refine norm_ (a' := ?_) ?_ ?_
   rotate_left
   ·show Act.put _ (some 167) _ = _
    simp only [z_]
    rfl
   refine pq_ HT_.out 14 169 (bt 28 32767) (h := ?_)
   refine pq_ HT_.out 15 170 (bt 28 65535) (h := ?_)
   refine pq_ HT_.out 16 171 (bt 28 131071) (h := ?_)
   refine pq_ HT_.out 17 172 (bt 28 262143) (h := ?_)
   refine pq_ HT_.out 18 173 (bt 28 524287) (h := ?_)
   refine one_ (i := 19) (N := some 174) (bt 28 1048575) rfl rfl (one_of HT_.out (by kernel_rfl)) (by decide) (fun K hK => ?_)
   refine goes_ Try.func64 (by kernel_rfl) rfl #[.slice rR fC.length rS, .slice rT cY.length rU] (by rfl) rfl rfl (by (try simp only [List.map_toArray, List.map_cons, List.map_nil]); first | done | rfl | (simp only [List.length_drop, List.length_take]; rfl)) ?_
   with_reducible refine (quorumref0_EqWrites.calls kj201 _ _ fC _ _ cY false _ ?side1 ?side2 ?side3 ?side4 A323.out).mono ?_
   (case side1 => exact cr_ bC)
   (case side2 => exact (Kd.R_reads' bC.out).2.1)
   (case side3 => exact cr_ bD)
   (case side4 => exact (Kd.R_reads' bD.out).2.1)
   rintro e w' ⟨rfl, ⟨nd, rfl⟩⟩
   refine ⟨_, rfl, ?_⟩
   refine hK.out _ _ ⟨bk_ af 0, bk_ af 1, bk_ aq 0, bk_ aq 1, bk_ aq 2, bk_ aq 3, bk_ ar 0, bk_ ar 1, bk_ ar 2, bk_ ar 3⟩ (fun hHeld => ?_)
   clear hK K
   refine norm_ (a' := ?_) ?_ ?_
   rotate_left
   ·show Act.put _ (some 174) _ = _
    simp only [z_]
    rfl
   refine pq_ HT_.out 20 175 (bt 28 2097151) (h := ?_)
   refine pq_ HT_.out 21 176 (bt 28 4194303) (h := ?_)
   refine uq_ HT_.out 22 177 (bt 28 8388607) (h := ?_)
   refine uq_ HT_.out 23 178 (bt 28 16777215) (h := ?_)
   refine uq_ HT_.out 24 179 (bt 28 33554431) (h := ?_)
   refine pq_ HT_.out 25 180 (bt 28 67108863) (h := ?_)
   refine one_ (i := 26) (N := none) (bt 28 134217727) rfl rfl (one_of HT_.out (by kernel_rfl)) (by decide) (fun K hK => ?_)
   have hs335 : w332.cell? ⟨ap, 0, none⟩ = some (.slice none 0 0) := bk_ ai 0
   have hfs335 := blk_frozen ai.out 0
   have rV := ax.out
   have rW := aR.out
   have rX := aU.out
   have rY := aY.out
   have rZ := bg.out
   have sa := az.out
   have sb := aw.out
   have sc := be.out
   have sd := aT.out
   have se := aX.out
   have sf := ay.out
   have sg := aI.out
   have sh := bH.out
   have si := bz.out
   have hs336 : w332.cell? ⟨ap, 1, none⟩ = some (.slice none 0 0) := bk_ ai 1
   have hfs336 := blk_frozen ai.out 1
   have sj := ax.out
   have sk := aR.out
   have sl := aU.out
   have sm := aY.out
   have sn := bg.out
   have so := az.out
   have sp := aw.out
   have sq := be.out
   have sr := aT.out
   have ss := aX.out
   have st := ay.out
   have su := aI.out
   have sv := bH.out
   have sw := bz.out
   refine skip_ (w1 := ?_) (by rfl) rfl ?_ ?_
   rotate_left
   ·go_simp
    rfl
   refine hK.out _ _ ⟨(cf_ ax.out (cf_ ax.out hHeld.1)), (cf_ ax.out (cf_ ax.out hHeld.2.1)), (cf_ az.out (cf_ az.out hHeld.2.2.1)), (cf_ az.out (cf_ az.out hHeld.2.2.2.1)), (cf_ az.out (cf_ az.out hHeld.2.2.2.2.1)), (cf_ az.out (cf_ az.out hHeld.2.2.2.2.2.1)), (cf_ aw.out (cf_ aw.out hHeld.2.2.2.2.2.2.1)), (cf_ aw.out (cf_ aw.out hHeld.2.2.2.2.2.2.2.1)), (cf_ aw.out (cf_ aw.out hHeld.2.2.2.2.2.2.2.2.1)), (cf_ aw.out (cf_ aw.out hHeld.2.2.2.2.2.2.2.2.2))⟩ (fun hHeld => ?_)
   clear hK K
   refine pq_ HT_.out 27 5 (bt 28 268435455) (h := ?_)
   refine done_ (done_of HT_.out (by kernel_rfl)) ?_
   try go_wp2
   refine bodyPost_ret (results_ct rfl _ _ ap 34 #[.slice A0_0 aD.length c0_0, .slice A0_1 aM.length c0_1] (0, 0) _ rfl (pu_ (cs := #[.slice A0_0 aD.length c0_0, .slice none 0 0]) (pu_ (cs := #[.slice none 0 0, .slice none 0 0]) (h_ ai))) Try.underlying34 rfl (by kernel_rfl)) rfl ?_
   exact ⟨_, _, by first | rfl | (simp [errW_none, errW_some] <;> rfl) | (simp [*, errW_none, errW_some] <;> rfl), by (with_reducible repeat (first | apply Kd.V_alloc | apply Kd.V_drewN | apply Kd.V_drew)); exact Kd.V_mono (Kd.V_far (p := ⟨ap, 1, none⟩) (Kd.V_far (p := ⟨ap, 0, none⟩) (Kd.V_mono ac.out (fun k_ hk => (⟨hk, hk.2.2.2.2.2.2.2.1⟩ : _ ∧ k_ ≠ ap))) (fun _ hk => hk.2) (.slice A0_0 aD.length c0_0)) (fun _ hk => hk.2) (.slice A0_1 aM.length c0_1)) (fun _ hk => hk.1.1), by (with_reducible repeat (first | apply Kd.V_alloc | apply Kd.V_drewN | apply Kd.V_drew)); exact Kd.V_mono (Kd.V_far (p := ⟨ap, 1, none⟩) (Kd.V_far (p := ⟨ap, 0, none⟩) (Kd.V_mono ad.out (fun k_ hk => (⟨hk, hk.2.2.2.2.2.2.2.1⟩ : _ ∧ k_ ≠ ap))) (fun _ hk => hk.2) (.slice A0_0 aD.length c0_0)) (fun _ hk => hk.2) (.slice A0_1 aM.length c0_1)) (fun _ hk => hk.1.1), b_ HB⟩
  subst c324
  rw [if_pos rfl] at H
  replace H := Option.bind_eq_some_iff.mp H
  obtain ⟨Bl, A3250, H⟩ := H
  try dsimp only at H
  have A325 := mk0 A3250
  clear A3250
  simp only [Option.some.injEq, Prod.mk.injEq] at H
  obtain ⟨rfl, rfl, rfl⟩ := H
  try go_wp2
  replace bC := mk0 (Rd_ bC.out)
  replace bD := mk0 (Rd_ bD.out)
  replace ac := mk0 (Kd.V_drew ac.out)
  replace ad := mk0 (Kd.V_drew ad.out)
  replace aa := mk0 (Rd_ aa.out)
  replace ab := mk0 (Rd_ ab.out)
  replace af := mk0 (bD_ af.out)
  replace ak := mk0 (bD_ ak.out)
  replace ai := mk0 (bD_ ai.out)
  replace aj := mk0 (bD_ aj.out)
  replace ag := mk0 (bD_ ag.out)
  replace ah := mk0 (bD_ ah.out)
  replace aq := mk0 (bD_ aq.out)
  replace ar := mk0 (bD_ ar.out)
  replace HB := mk0 (b1_ HB.out)
  refine start_ (n := 28) (S := fun w' => w'.cell? ⟨bd, 0, none⟩ = some (.slice A0_0 aD.length c0_0) ∧ w'.cell? ⟨bd, 1, none⟩ = some (.slice A0_1 aM.length c0_1) ∧ w'.cell? ⟨aQ, 0, none⟩ = some (.int .i64 cf) ∧ w'.cell? ⟨aQ, 1, none⟩ = some (.string ci) ∧ w'.cell? ⟨aQ, 2, none⟩ = some (.string cq) ∧ w'.cell? ⟨aQ, 3, none⟩ = some (.bool cu) ∧ w'.cell? ⟨aE, 0, none⟩ = some (.int .i64 br) ∧ w'.cell? ⟨aE, 1, none⟩ = some (.string bs) ∧ w'.cell? ⟨aE, 2, none⟩ = some (.string bu) ∧ w'.cell? ⟨aE, 3, none⟩ = some (.bool bv) ∧ w'.cell? ⟨aV, 0, none⟩ = some (.slice bc aG.length bb) ∧ w'.cell? ⟨aV, 1, none⟩ = some (.slice bj aN.length bi)) (ds := []) (bt 28 0) (by kernel_rfl) rfl rfl ⟨bk_ af 0, bk_ af 1, bk_ aq 0, bk_ aq 1, bk_ aq 2, bk_ aq 3, bk_ ar 0, bk_ ar 1, bk_ ar 2, bk_ ar 3, bk_ aj 0, bk_ aj 1⟩ (fun hHeld => ?_); refine with_tabW quorumlaw10_step.tab44 quorumlaw10_step.bits44 (fun HT_ HW_ => ?_)
  generalize wc.drew = w326 at bC bD ac ad aa ab af ak ai aj ag ah aq ar HB hHeld ⊢
  refine pq_ HT_.out 1 156 (bt 28 2) (h := ?_)
  refine pq_ HT_.out 3 158 (bt 28 10) (h := ?_)
  refine tq12_ HT_.out HW_.out 0 155 (bt 28 11) hHeld (h := ?_)
  refine one_ (i := 2) (N := some 157) (bt 28 15) rfl rfl (one_of HT_.out (by kernel_rfl)) (by decide) (fun K hK => ?_)
  refine goes_ Try.func63 (by kernel_rfl) rfl #[.int .i64 dQ] (by rfl) rfl rfl (by (try simp only [List.map_toArray, List.map_cons, List.map_nil]); first | done | rfl | (simp only [List.length_drop, List.length_take]; rfl)) ?_
  with_reducible refine (quorumlaw10_num.calls dQ fD _ A318.out).mono ?_
  rintro e w' ⟨rfl, ⟨nd, rfl⟩⟩
  refine ⟨_, rfl, ?_⟩
  refine hK.out _ _ ⟨bk_ af 0, bk_ af 1, bk_ aq 0, bk_ aq 1, bk_ aq 2, bk_ aq 3, bk_ ar 0, bk_ ar 1, bk_ ar 2, bk_ ar 3, bk_ aj 0, bk_ aj 1⟩ (fun hHeld => ?_)
  clear hK K
  refine norm_ (a' := ?_) ?_ ?_
  rotate_left
  ·show Act.put _ (some 157) _ = _
   simp only [z_]
   rfl
  refine pq_ HT_.out 4 159 (bt 28 31) (h := ?_)
  refine pq_ HT_.out 5 160 (bt 28 63) (h := ?_)
  refine tq12_ HT_.out HW_.out 6 161 (bt 28 127) hHeld (h := ?_)
  refine tq12_ HT_.out HW_.out 7 162 (bt 28 255) hHeld (h := ?_)
  refine pq_ HT_.out 8 163 (bt 28 511) (h := ?_)
  refine pq_ HT_.out 9 164 (bt 28 1023) (h := ?_)
  refine pq_ HT_.out 10 165 (bt 28 2047) (h := ?_)
  refine pq_ HT_.out 11 166 (bt 28 4095) (h := ?_)
  refine pq_ HT_.out 13 168 (bt 28 12287) (h := ?_)
  refine one_ (i := 12) (N := some 167) (bt 28 16383) rfl rfl (one_of HT_.out (by kernel_rfl)) (by decide) (fun K hK => ?_)
  refine goes_ Try.func63 (by kernel_rfl) rfl #[.int .i64 gL] (by rfl) rfl rfl (by (try simp only [List.map_toArray, List.map_cons, List.map_nil]); first | done | rfl | (simp only [List.length_drop, List.length_take]; rfl)) ?_
  with_reducible refine (quorumlaw10_num.calls gL kY _ A321.out).mono ?_
  rintro e w' ⟨rfl, ⟨nd, rfl⟩⟩
  refine ⟨_, rfl, ?_⟩
  obtain ⟨sx, sy, oc⟩ := Kd.R_slice bC.out
  (first | subst oc | (injection oc with f1_ f2_ f3_; have f4_ := f1_.symm; have f5_ := f3_.symm; clear f1_ f2_ f3_; subst f4_; subst f5_))
  obtain ⟨sz, sA, od⟩ := Kd.R_slice bD.out
  (first | subst od | (injection od with f1_ f2_ f3_; have f4_ := f1_.symm; have f5_ := f3_.symm; clear f1_ f2_ f3_; subst f4_; subst f5_))
  refine hK.out _ _ ⟨bk_ af 0, bk_ af 1, bk_ aq 0, bk_ aq 1, bk_ aq 2, bk_ aq 3, bk_ ar 0, bk_ ar 1, bk_ ar 2, bk_ ar 3, bk_ aj 0, bk_ aj 1⟩ (fun hHeld => ?_)
  clear hK K
  refine norm_ (a' := ?_) ?_ ?_
  rotate_left
  ·show Act.put _ (some 167) _ = _
   simp only [z_]
   rfl
  refine pq_ HT_.out 14 169 (bt 28 32767) (h := ?_)
  refine pq_ HT_.out 15 170 (bt 28 65535) (h := ?_)
  refine pq_ HT_.out 16 171 (bt 28 131071) (h := ?_)
  refine pq_ HT_.out 17 172 (bt 28 262143) (h := ?_)
  refine pq_ HT_.out 18 173 (bt 28 524287) (h := ?_)
  refine one_ (i := 19) (N := some 174) (bt 28 1048575) rfl rfl (one_of HT_.out (by kernel_rfl)) (by decide) (fun K hK => ?_)
  refine goes_ Try.func64 (by kernel_rfl) rfl #[.slice sx fC.length sy, .slice sz cY.length sA] (by rfl) rfl rfl (by (try simp only [List.map_toArray, List.map_cons, List.map_nil]); first | done | rfl | (simp only [List.length_drop, List.length_take]; rfl)) ?_
  with_reducible refine (quorumref0_EqWrites.calls kj201 _ _ fC _ _ cY true _ ?side1 ?side2 ?side3 ?side4 A323.out).mono ?_
  (case side1 => exact cr_ bC)
  (case side2 => exact (Kd.R_reads' bC.out).2.1)
  (case side3 => exact cr_ bD)
  (case side4 => exact (Kd.R_reads' bD.out).2.1)
  rintro e w' ⟨rfl, ⟨nd, rfl⟩⟩
  refine ⟨_, rfl, ?_⟩
  refine hK.out _ _ ⟨bk_ af 0, bk_ af 1, bk_ aq 0, bk_ aq 1, bk_ aq 2, bk_ aq 3, bk_ ar 0, bk_ ar 1, bk_ ar 2, bk_ ar 3, bk_ aj 0, bk_ aj 1⟩ (fun hHeld => ?_)
  clear hK K
  refine norm_ (a' := ?_) ?_ ?_
  rotate_left
  ·show Act.put _ (some 174) _ = _
   simp only [z_]
   rfl
  refine pq_ HT_.out 20 175 (bt 28 2097151) (h := ?_)
  refine pq_ HT_.out 21 176 (bt 28 4194303) (h := ?_)
  refine tq12_ HT_.out HW_.out 22 177 (bt 28 8388607) hHeld (h := ?_)
  refine tq12_ HT_.out HW_.out 23 178 (bt 28 16777215) hHeld (h := ?_)
  refine one_ (i := 24) (N := some 179) (bt 28 33554431) rfl rfl (one_of HT_.out (by kernel_rfl)) (by decide) (fun K hK => ?_)
  refine goes_ Try.func65 (by kernel_rfl) rfl #[.agg #[.slice bc aG.length bb, .slice bj aN.length bi], .agg #[.slice A0_0 aD.length c0_0, .slice A0_1 aM.length c0_1]] (by rfl) rfl rfl (by (try simp only [List.map_toArray, List.map_cons, List.map_nil]); first | done | rfl | (simp only [List.length_drop, List.length_take]; rfl)) ?_
  with_reducible refine (quorumref0_EqPend.calls kj201 _ _ aG _ _ aN _ _ aD _ _ aM Bl _ ?side1 ?side2 ?side3 ?side4 ?side5 ?side6 ?side7 ?side8 A325.out).mono ?_
  (case side1 => exact cr_ aa)
  (case side2 => exact (Kd.R_reads' aa.out).2.1)
  (case side3 => exact cr_ ab)
  (case side4 => exact (Kd.R_reads' ab.out).2.1)
  (case side5 => exact cv_ ac)
  (case side6 => exact (Kd.V_reads' ac.out).2.1)
  (case side7 => exact cv_ ad)
  (case side8 => exact (Kd.V_reads' ad.out).2.1)
  rintro e w329 ⟨rfl, hb⟩
  refine ⟨_, rfl, ?_⟩
  replace bC := mk0 (Kd.R_below (r_ bC) hb)
  replace bD := mk0 (Kd.R_below (r_ bD) hb)
  replace ac := mk0 (Kd.V_below (v_ ac) hb)
  replace ad := mk0 (Kd.V_below (v_ ad) hb)
  replace aa := mk0 (Kd.R_below (r_ aa) hb)
  replace ab := mk0 (Kd.R_below (r_ ab) hb)
  replace af := mk0 (u_ af hb)
  replace ak := mk0 (u_ ak hb)
  replace ai := mk0 (u_ ai hb)
  replace aj := mk0 (u_ aj hb)
  replace ag := mk0 (u_ ag hb)
  replace ah := mk0 (u_ ah hb)
  replace aq := mk0 (u_ aq hb)
  replace ar := mk0 (u_ ar hb)
  replace HB := mk0 (bt_ (b_ HB) hb)
  (try clear hb)
  (try clear hb2)
  (try clear hk)
  (try clear hi)
  refine hK.out _ _ ⟨bk_ af 0, bk_ af 1, bk_ aq 0, bk_ aq 1, bk_ aq 2, bk_ aq 3, bk_ ar 0, bk_ ar 1, bk_ ar 2, bk_ ar 3, bk_ aj 0, bk_ aj 1⟩ (fun hHeld => ?_)
  clear hK K
  refine norm_ (a' := ?_) ?_ ?_
  rotate_left
  ·show Act.put _ (some 179) _ = _
   simp only [z_]
   rfl
  refine pq_ HT_.out 25 180 (bt 28 67108863) (h := ?_)
  refine one_ (i := 26) (N := none) (bt 28 134217727) rfl rfl (one_of HT_.out (by kernel_rfl)) (by decide) (fun K hK => ?_)
  have hs330 : w329.cell? ⟨ap, 0, none⟩ = some (.slice none 0 0) := bk_ ai 0
  have hfs330 := blk_frozen ai.out 0
  have sB := ax.out
  have sC := aR.out
  have sD := aU.out
  have sE := aY.out
  have sF := bg.out
  have sG := az.out
  have sH := aw.out
  have sI := be.out
  have sJ := aT.out
  have sK := aX.out
  have sL := ay.out
  have sM := aI.out
  have sN := bH.out
  have sO := bz.out
  have hs331 : w329.cell? ⟨ap, 1, none⟩ = some (.slice none 0 0) := bk_ ai 1
  have hfs331 := blk_frozen ai.out 1
  have sP := ax.out
  have sQ := aR.out
  have sR := aU.out
  have sS := aY.out
  have sT := bg.out
  have sU := az.out
  have sV := aw.out
  have sW := be.out
  have sX := aT.out
  have sY := aX.out
  have sZ := ay.out
  have ta := aI.out
  have tb := bH.out
  have tc := bz.out
  refine skip_ (w1 := ?_) (by rfl) rfl ?_ ?_
  rotate_left
  ·go_simp
   rfl
  refine hK.out _ _ ⟨(cf_ ax.out (cf_ ax.out hHeld.1)), (cf_ ax.out (cf_ ax.out hHeld.2.1)), (cf_ az.out (cf_ az.out hHeld.2.2.1)), (cf_ az.out (cf_ az.out hHeld.2.2.2.1)), (cf_ az.out (cf_ az.out hHeld.2.2.2.2.1)), (cf_ az.out (cf_ az.out hHeld.2.2.2.2.2.1)), (cf_ aw.out (cf_ aw.out hHeld.2.2.2.2.2.2.1)), (cf_ aw.out (cf_ aw.out hHeld.2.2.2.2.2.2.2.1)), (cf_ aw.out (cf_ aw.out hHeld.2.2.2.2.2.2.2.2.1)), (cf_ aw.out (cf_ aw.out hHeld.2.2.2.2.2.2.2.2.2.1)), (cf_ aU.out (cf_ aU.out hHeld.2.2.2.2.2.2.2.2.2.2.1)), (cf_ aU.out (cf_ aU.out hHeld.2.2.2.2.2.2.2.2.2.2.2))⟩ (fun hHeld => ?_)
  clear hK K
  refine pq_ HT_.out 27 5 (bt 28 268435455) (h := ?_)
  refine done_ (done_of HT_.out (by kernel_rfl)) ?_
  try go_wp2
  refine bodyPost_ret (results_ct rfl _ _ ap 34 #[.slice A0_0 aD.length c0_0, .slice A0_1 aM.length c0_1] (0, 0) _ rfl (pu_ (cs := #[.slice A0_0 aD.length c0_0, .slice none 0 0]) (pu_ (cs := #[.slice none 0 0, .slice none 0 0]) (h_ ai))) Try.underlying34 rfl (by kernel_rfl)) rfl ?_
  exact ⟨_, _, by first | rfl | (simp [errW_none, errW_some] <;> rfl) | (simp [*, errW_none, errW_some] <;> rfl), by (with_reducible repeat (first | apply Kd.V_alloc | apply Kd.V_drewN | apply Kd.V_drew)); exact Kd.V_mono (Kd.V_far (p := ⟨ap, 1, none⟩) (Kd.V_far (p := ⟨ap, 0, none⟩) (Kd.V_mono ac.out (fun k_ hk => (⟨hk, hk.2.2.2.2.2.2.2.1⟩ : _ ∧ k_ ≠ ap))) (fun _ hk => hk.2) (.slice A0_0 aD.length c0_0)) (fun _ hk => hk.2) (.slice A0_1 aM.length c0_1)) (fun _ hk => hk.1.1), by (with_reducible repeat (first | apply Kd.V_alloc | apply Kd.V_drewN | apply Kd.V_drew)); exact Kd.V_mono (Kd.V_far (p := ⟨ap, 1, none⟩) (Kd.V_far (p := ⟨ap, 0, none⟩) (Kd.V_mono ad.out (fun k_ hk => (⟨hk, hk.2.2.2.2.2.2.2.1⟩ : _ ∧ k_ ≠ ap))) (fun _ hk => hk.2) (.slice A0_0 aD.length c0_0)) (fun _ hk => hk.2) (.slice A0_1 aM.length c0_1)) (fun _ hk => hk.1.1), b_ HB⟩
 clear HC6
 try clear c31
 try clear c35
 try clear c199
 try clear eP
 try clear eQ
 try clear c319
 try clear gJ
 try clear gK
 try clear c366
 try clear c375
 try clear c376
 try clear lh
 try clear li
 try clear c378
 try clear eR eS eT eU
 try clear eV eW eX eY eZ fa fb fc fd fe ff fg
 try clear fh fi fj fk
 try clear fl fm fn fo fp fq fr fs ft fu fv fw
 try clear ju jv jw jx
 try clear jz jA jB jC
 try clear jD jE jF jG jH jI jJ jK jL jM jN jO
 try clear jP jQ jR jS
 try clear jq jr js jt
 obtain ⟨kq, dz, dZ, ea, cS, bA, bB, bR, bS, u343000, u343001, u344000, u344001, rfl, rfl, rfl, rfl, HA, td, ac, ad, aa, ab, al, an, au, av, af, ak, ai, aj, ag, ah, HB⟩ := hcut
 cases kq with
 | zero => exact absurd HA.out (by simp [quorumlaw10_step.j5])
 | succ kj5 =>
 have H := HA.out
 clear HA
 simp only [quorumlaw10_step.j5] at H
 as_aux_lemma =>
 have HC406 := mk0 H
 clear H
 go_upto_region 45 with (fail)
 go_cut [209] (fun v209 wc => ∃ (kq : Nat) (dL : Bool), v209 = .bool dL ∧ Fc (quorumlaw10_step.j6 kq dz dL aD aM aG aN bA bB bR bS = some (r1, r2, r3)) ∧ Fc (kq ≤ kj5) ∧ Fc (Kd.V k36 36 wc w.heap.size (fun k_ => ((P0_0_ k_ ∨ P0_1_ k_) ∨ w.heap.size ≤ k_) ∧ some k_ ≠ ((.slice bc aG.length bb) : Value).ownBlock ∧ some k_ ≠ ((.slice bj aN.length bi) : Value).ownBlock ∧ some k_ ≠ (u343000 : Value).ownBlock ∧ some k_ ≠ (u343001 : Value).ownBlock ∧ some k_ ≠ (u344000 : Value).ownBlock ∧ some k_ ≠ (u344001 : Value).ownBlock ∧ k_ ≠ bd ∧ k_ ≠ bq ∧ k_ ≠ ap ∧ k_ ≠ aV ∧ k_ ≠ ae ∧ k_ ≠ am) (.slice A0_0 aD.length c0_0) aD) ∧ Fc (Kd.V (Kd.int .i64) 3 wc w.heap.size (fun k_ => ((P0_0_ k_ ∨ P0_1_ k_) ∨ w.heap.size ≤ k_) ∧ some k_ ≠ ((.slice bc aG.length bb) : Value).ownBlock ∧ some k_ ≠ ((.slice bj aN.length bi) : Value).ownBlock ∧ some k_ ≠ (u343000 : Value).ownBlock ∧ some k_ ≠ (u343001 : Value).ownBlock ∧ some k_ ≠ (u344000 : Value).ownBlock ∧ some k_ ≠ (u344001 : Value).ownBlock ∧ k_ ≠ bd ∧ k_ ≠ bq ∧ k_ ≠ ap ∧ k_ ≠ aV ∧ k_ ≠ ae ∧ k_ ≠ am) (.slice A0_1 aM.length c0_1) aM) ∧ Fc (Kd.R k36 36 wc w.heap.size (fun k_ => (w.heap.size ≤ k_) ∧ some k_ ≠ (u343000 : Value).ownBlock ∧ some k_ ≠ (u344000 : Value).ownBlock) (.slice bc aG.length bb) aG) ∧ Fc (Kd.R (Kd.int .i64) 3 wc w.heap.size (fun k_ => (w.heap.size ≤ k_) ∧ some k_ ≠ (u343001 : Value).ownBlock ∧ some k_ ≠ (u344001 : Value).ownBlock) (.slice bj aN.length bi) aN) ∧ Fc (Kd.R k36 36 wc w.heap.size (fun k_ => (w.heap.size ≤ k_) ∧ some k_ ≠ ((.slice bc aG.length bb) : Value).ownBlock ∧ some k_ ≠ (u344000 : Value).ownBlock) u343000 bA) ∧ Fc (Kd.R (Kd.int .i64) 3 wc w.heap.size (fun k_ => (w.heap.size ≤ k_) ∧ some k_ ≠ ((.slice bj aN.length bi) : Value).ownBlock ∧ some k_ ≠ (u344001 : Value).ownBlock) u343001 bB) ∧ Fc (Kd.R k36 36 wc w.heap.size (fun k_ => (w.heap.size ≤ k_) ∧ some k_ ≠ ((.slice bc aG.length bb) : Value).ownBlock ∧ some k_ ≠ (u343000 : Value).ownBlock) u344000 bR) ∧ Fc (Kd.R (Kd.int .i64) 3 wc w.heap.size (fun k_ => (w.heap.size ≤ k_) ∧ some k_ ≠ ((.slice bj aN.length bi) : Value).ownBlock ∧ some k_ ≠ (u343001 : Value).ownBlock) u344001 bS) ∧ Fc (wc.heap[bd]? = some (.cells #[(.slice A0_0 aD.length c0_0), (.slice A0_1 aM.length c0_1)] 34 (0, 0))) ∧ Fc (wc.heap[bq]? = some (.cells #[.int .i64 a1_0, .int .i64 a1_1, .int .i64 a1_2, .string a1_3, .string a1_4, .bool a1_5] 62 (0, 0))) ∧ Fc (wc.heap[ap]? = some (.cells #[(.slice none 0 0), (.slice none 0 0)] 34 (0, 0))) ∧ Fc (wc.heap[aV]? = some (.cells #[(.slice bc aG.length bb), (.slice bj aN.length bi)] 34 (0, 0))) ∧ Fc (wc.heap[ae]? = some (.cells #[u343000, u343001] 34 (0, 0))) ∧ Fc (wc.heap[am]? = some (.cells #[u344000, u344001] 34 (0, 0))) ∧ Fc (Below w.heap.size w wc))
 case first =>
  have H := HC406.out
  clear HC406
  replace H := Option.bind_eq_some_iff.mp H
  obtain ⟨fE, A4070, H⟩ := H
  try dsimp only at H
  have A407 := mk0 A4070
  clear A4070
  by_cases c408 : fE = dz
  rotate_left
  ·rw [if_neg c408] at H
   have dY : (fE == dz) = false := beq_eq_false_iff_ne.mpr c408
   have my : (fE != dz) = true := bne_iff_ne.mpr c408
   (first | rw [dY] | (simp only [i64_w, i32_w]; rw [dY]) | skip)
   have H' := mk0 H
   clear H
   go_wp2_with (first | ((with_reducible refine gate_callee (f := 63) rfl ?_); refine gL_ (some 182) Try.func63 #[.int .i64 cS] (h := ?_); (with_reducible refine (quorumlaw10_num.calls cS fE _ A407.out).mono ?_); rintro e w' ⟨rfl, ⟨nd, rfl⟩⟩; refine ⟨_, rfl, ?_⟩))
   go_meet
   case rel => exact ⟨_, (true), (by first | rfl | (simp; done) | (simp [*]; done)), H', ⟨by have := td.out; first | omega | exact Nat.le_refl _⟩, ⟨by (with_reducible repeat (first | apply Kd.V_alloc | apply Kd.V_drewN | apply Kd.V_drew)); exact ac.out⟩, ⟨by (with_reducible repeat (first | apply Kd.V_alloc | apply Kd.V_drewN | apply Kd.V_drew)); exact ad.out⟩, ⟨by (with_reducible repeat (first | apply Ra_ | apply Rn_ | apply Rd_)); exact aa.out⟩, ⟨by (with_reducible repeat (first | apply Ra_ | apply Rn_ | apply Rd_)); exact ab.out⟩, ⟨by (with_reducible repeat (first | apply Ra_ | apply Rn_ | apply Rd_)); exact al.out⟩, ⟨by (with_reducible repeat (first | apply Ra_ | apply Rn_ | apply Rd_)); exact an.out⟩, ⟨by (with_reducible repeat (first | apply Ra_ | apply Rn_ | apply Rd_)); exact au.out⟩, ⟨by (with_reducible repeat (first | apply Ra_ | apply Rn_ | apply Rd_)); exact av.out⟩, ⟨h_ af⟩, ⟨h_ ak⟩, ⟨h_ ai⟩, ⟨h_ aj⟩, ⟨h_ ag⟩, ⟨h_ ah⟩, ⟨b_ HB⟩⟩
  rw [if_pos c408] at H
  have dY : (fE == dz) = true := beq_iff_eq.mpr c408
  have my : (fE != dz) = false := bne_eq_false_iff_eq.mpr c408
  clear c408
  (first | rw [dY] | (simp only [i64_w, i32_w]; rw [dY]) | skip)
  replace H := Option.bind_eq_some_iff.mp H
  obtain ⟨Bm, A4090, H⟩ := H
  try dsimp only at H
  have A409 := mk0 A4090
  clear A4090
  by_cases c410 : Bm = true
  rotate_left
  ·replace c410 := Bool.eq_false_iff.mpr c410
   subst c410
   rw [if_neg (show ¬ (false = true) by decide)] at H
   have H' := mk0 H
   clear H
   go_wp2_with (first | ((with_reducible refine gate_callee (f := 63) rfl ?_); refine gL_ (some 182) Try.func63 #[.int .i64 cS] (h := ?_); (with_reducible refine (quorumlaw10_num.calls cS fE _ A407.out).mono ?_); rintro e w' ⟨rfl, ⟨nd, rfl⟩⟩; refine ⟨_, rfl, ?_⟩; have Bn := bp.out; have Bo := aC.out; have Bp := bf.out; have Bq := aA.out; have Br := aY.out; have Bs := ay.out; have Bt := bE.out; have Bu := aH.out; have Bv := aW.out; have Bw := aJ.out; obtain ⟨mz, mA, mB, mC⟩ := c2_ ag; have Bx := bF.out; have By := aZ.out; have Bz := bk.out; have BA := aK.out; have BB := bg.out; have BC := aI.out; have BD := bG.out; have BE := ba.out; obtain ⟨mD, mE, mF, mG⟩ := c2_ ah; obtain ⟨Gx, Gy, te⟩ := Kd.R_slice al.out; subst te; obtain ⟨Gz, GA, tf⟩ := Kd.R_slice an.out; subst tf; obtain ⟨GB, GC, tg⟩ := Kd.R_slice au.out; subst tg; obtain ⟨GD, GE, th⟩ := Kd.R_slice av.out; subst th) | (go_at_call 65; (with_reducible refine (quorumref0_EqPend.calls kj5 _ _ bA _ _ bB _ _ bR _ _ bS false _ ?side1 ?side2 ?side3 ?side4 ?side5 ?side6 ?side7 ?side8 A409.out).mono ?_); (case side1 => exact cr_ al); (case side2 => exact (Kd.R_reads' al.out).2.1); (case side3 => exact cr_ an); (case side4 => exact (Kd.R_reads' an.out).2.1); (case side5 => exact cr_ au); (case side6 => exact (Kd.R_reads' au.out).2.1); (case side7 => exact cr_ av); (case side8 => exact (Kd.R_reads' av.out).2.1); rintro e w497 ⟨rfl, hb⟩; replace ac := mk0 (Kd.V_below (v_ ac) hb); replace ad := mk0 (Kd.V_below (v_ ad) hb); replace aa := mk0 (Kd.R_below (r_ aa) hb); replace ab := mk0 (Kd.R_below (r_ ab) hb); replace al := mk0 (Kd.R_below (r_ al) hb); replace an := mk0 (Kd.R_below (r_ an) hb); replace au := mk0 (Kd.R_below (r_ au) hb); replace av := mk0 (Kd.R_below (r_ av) hb); replace af := mk0 (u_ af hb); replace ak := mk0 (u_ ak hb); replace ai := mk0 (u_ ai hb); replace aj := mk0 (u_ aj hb); replace ag := mk0 (u_ ag hb); replace ah := mk0 (u_ ah hb); replace HB := mk0 (bt_ (b_ HB) hb); (try clear hb)))
   go_meet
   case rel => exact ⟨_, (true), (by first | rfl | (simp; done) | (simp [*]; done)), H', ⟨by have := td.out; first | omega | exact Nat.le_refl _⟩, ⟨by (with_reducible repeat (first | apply Kd.V_alloc | apply Kd.V_drewN | apply Kd.V_drew)); exact ac.out⟩, ⟨by (with_reducible repeat (first | apply Kd.V_alloc | apply Kd.V_drewN | apply Kd.V_drew)); exact ad.out⟩, ⟨by (with_reducible repeat (first | apply Ra_ | apply Rn_ | apply Rd_)); exact aa.out⟩, ⟨by (with_reducible repeat (first | apply Ra_ | apply Rn_ | apply Rd_)); exact ab.out⟩, ⟨by (with_reducible repeat (first | apply Ra_ | apply Rn_ | apply Rd_)); exact al.out⟩, ⟨by (with_reducible repeat (first | apply Ra_ | apply Rn_ | apply Rd_)); exact an.out⟩, ⟨by (with_reducible repeat (first | apply Ra_ | apply Rn_ | apply Rd_)); exact au.out⟩, ⟨by (with_reducible repeat (first | apply Ra_ | apply Rn_ | apply Rd_)); exact av.out⟩, ⟨h_ af⟩, ⟨h_ ak⟩, ⟨h_ ai⟩, ⟨h_ aj⟩, ⟨h_ ag⟩, ⟨h_ ah⟩, ⟨b_ HB⟩⟩
  subst c410
  rw [if_pos rfl] at H
  by_cases c411 : dZ = ea
  rotate_left
  ·rw [if_neg c411] at H
   have mH : (dZ == ea) = false := beq_eq_false_iff_ne.mpr c411
   have mI : (dZ != ea) = true := bne_iff_ne.mpr c411
   have H' := mk0 H
   clear H
   go_wp2_with (first | ((with_reducible refine gate_callee (f := 63) rfl ?_); refine gL_ (some 182) Try.func63 #[.int .i64 cS] (h := ?_); (with_reducible refine (quorumlaw10_num.calls cS fE _ A407.out).mono ?_); rintro e w' ⟨rfl, ⟨nd, rfl⟩⟩; refine ⟨_, rfl, ?_⟩; have BF := bp.out; have BG := aC.out; have BH := bf.out; have BI := aA.out; have BJ := aY.out; have BK := ay.out; have BL := bE.out; have BM := aH.out; have BN := aW.out; have BO := aJ.out; obtain ⟨mJ, mK, mL, mM⟩ := c2_ ag; have BP := bF.out; have BQ := aZ.out; have BR := bk.out; have BS := aK.out; have BT := bg.out; have BU := aI.out; have BV := bG.out; have BW := ba.out; obtain ⟨mN, mO, mP, mQ⟩ := c2_ ah; obtain ⟨GF, GG, ti⟩ := Kd.R_slice al.out; subst ti; obtain ⟨GH, GI, tj⟩ := Kd.R_slice an.out; subst tj; obtain ⟨GJ, GK, tk⟩ := Kd.R_slice au.out; subst tk; obtain ⟨GL, GM, tl⟩ := Kd.R_slice av.out; subst tl) | (go_at_call 65; (with_reducible refine (quorumref0_EqPend.calls kj5 _ _ bA _ _ bB _ _ bR _ _ bS true _ ?side1 ?side2 ?side3 ?side4 ?side5 ?side6 ?side7 ?side8 A409.out).mono ?_); (case side1 => exact cr_ al); (case side2 => exact (Kd.R_reads' al.out).2.1); (case side3 => exact cr_ an); (case side4 => exact (Kd.R_reads' an.out).2.1); (case side5 => exact cr_ au); (case side6 => exact (Kd.R_reads' au.out).2.1); (case side7 => exact cr_ av); (case side8 => exact (Kd.R_reads' av.out).2.1); rintro e w481 ⟨rfl, hb⟩; replace ac := mk0 (Kd.V_below (v_ ac) hb); replace ad := mk0 (Kd.V_below (v_ ad) hb); replace aa := mk0 (Kd.R_below (r_ aa) hb); replace ab := mk0 (Kd.R_below (r_ ab) hb); replace al := mk0 (Kd.R_below (r_ al) hb); replace an := mk0 (Kd.R_below (r_ an) hb); replace au := mk0 (Kd.R_below (r_ au) hb); replace av := mk0 (Kd.R_below (r_ av) hb); replace af := mk0 (u_ af hb); replace ak := mk0 (u_ ak hb); replace ai := mk0 (u_ ai hb); replace aj := mk0 (u_ aj hb); replace ag := mk0 (u_ ag hb); replace ah := mk0 (u_ ah hb); replace HB := mk0 (bt_ (b_ HB) hb); (try clear hb)))
   go_meet
   case rel => exact ⟨_, (true), (by first | rfl | (simp; done) | (simp [*]; done)), H', ⟨by have := td.out; first | omega | exact Nat.le_refl _⟩, ⟨by (with_reducible repeat (first | apply Kd.V_alloc | apply Kd.V_drewN | apply Kd.V_drew)); exact ac.out⟩, ⟨by (with_reducible repeat (first | apply Kd.V_alloc | apply Kd.V_drewN | apply Kd.V_drew)); exact ad.out⟩, ⟨by (with_reducible repeat (first | apply Ra_ | apply Rn_ | apply Rd_)); exact aa.out⟩, ⟨by (with_reducible repeat (first | apply Ra_ | apply Rn_ | apply Rd_)); exact ab.out⟩, ⟨by (with_reducible repeat (first | apply Ra_ | apply Rn_ | apply Rd_)); exact al.out⟩, ⟨by (with_reducible repeat (first | apply Ra_ | apply Rn_ | apply Rd_)); exact an.out⟩, ⟨by (with_reducible repeat (first | apply Ra_ | apply Rn_ | apply Rd_)); exact au.out⟩, ⟨by (with_reducible repeat (first | apply Ra_ | apply Rn_ | apply Rd_)); exact av.out⟩, ⟨h_ af⟩, ⟨h_ ak⟩, ⟨h_ ai⟩, ⟨h_ aj⟩, ⟨h_ ag⟩, ⟨h_ ah⟩, ⟨b_ HB⟩⟩
  rw [if_pos c411] at H
  have mH : (dZ == ea) = true := beq_iff_eq.mpr c411
  have mI : (dZ != ea) = false := bne_eq_false_iff_eq.mpr c411
  clear c411
  replace H := Option.bind_eq_some_iff.mp H
  obtain ⟨BX, A4120, H⟩ := H
  try dsimp only at H
  have A412 := mk0 A4120
  clear A4120
  by_cases c413 : BX = true
  rotate_left
  ·replace c413 := Bool.eq_false_iff.mpr c413
   subst c413
   rw [if_neg (show ¬ (false = true) by decide)] at H
   have H' := mk0 H
   clear H
   go_wp2_with (first | ((with_reducible refine gate_callee (f := 63) rfl ?_); refine gL_ (some 182) Try.func63 #[.int .i64 cS] (h := ?_); (with_reducible refine (quorumlaw10_num.calls cS fE _ A407.out).mono ?_); rintro e w' ⟨rfl, ⟨nd, rfl⟩⟩; refine ⟨_, rfl, ?_⟩; have BY := bp.out; have BZ := aC.out; have Ca := bf.out; have Cb := aA.out; have Cc := aY.out; have Cd := ay.out; have Ce := bE.out; have Cf := aH.out; have Cg := aW.out; have Ch := aJ.out; obtain ⟨mR, mS, mT, mU⟩ := c2_ ag; have Ci := bF.out; have Cj := aZ.out; have Ck := bk.out; have Cl := aK.out; have Cm := bg.out; have Cn := aI.out; have Co := bG.out; have Cp := ba.out; obtain ⟨mV, mW, mX, mY⟩ := c2_ ah; obtain ⟨GN, GO, tm⟩ := Kd.R_slice al.out; subst tm; obtain ⟨GP, GQ, tn⟩ := Kd.R_slice an.out; subst tn; obtain ⟨GR, GS, tp⟩ := Kd.R_slice au.out; subst tp; obtain ⟨GT, GU, tq⟩ := Kd.R_slice av.out; subst tq) | (go_at_call 65; (with_reducible refine (quorumref0_EqPend.calls kj5 _ _ bA _ _ bB _ _ bR _ _ bS true _ ?side1 ?side2 ?side3 ?side4 ?side5 ?side6 ?side7 ?side8 A409.out).mono ?_); (case side1 => exact cr_ al); (case side2 => exact (Kd.R_reads' al.out).2.1); (case side3 => exact cr_ an); (case side4 => exact (Kd.R_reads' an.out).2.1); (case side5 => exact cr_ au); (case side6 => exact (Kd.R_reads' au.out).2.1); (case side7 => exact cr_ av); (case side8 => exact (Kd.R_reads' av.out).2.1); rintro e w457 ⟨rfl, hb⟩; replace ac := mk0 (Kd.V_below (v_ ac) hb); replace ad := mk0 (Kd.V_below (v_ ad) hb); replace aa := mk0 (Kd.R_below (r_ aa) hb); replace ab := mk0 (Kd.R_below (r_ ab) hb); replace al := mk0 (Kd.R_below (r_ al) hb); replace an := mk0 (Kd.R_below (r_ an) hb); replace au := mk0 (Kd.R_below (r_ au) hb); replace av := mk0 (Kd.R_below (r_ av) hb); replace af := mk0 (u_ af hb); replace ak := mk0 (u_ ak hb); replace ai := mk0 (u_ ai hb); replace aj := mk0 (u_ aj hb); replace ag := mk0 (u_ ag hb); replace ah := mk0 (u_ ah hb); replace HB := mk0 (bt_ (b_ HB) hb); (try clear hb); have Cq := bw.out; have Cr := bn.out; have Cs := bx.out; have Ct := bo.out; have Cu := aU.out; have Cv := aX.out; obtain ⟨mZ, na, nb, nc⟩ := c2_ aj; have Cw := bl.out; have Cx := bm.out; have Cy := ax.out; have Cz := be.out; obtain ⟨nf, ng, nh, ni⟩ := c2_ af) | (go_at_call 65; (with_reducible refine (quorumref0_EqPend.calls kj5 _ _ aG _ _ aN _ _ aD _ _ aM false _ ?side1 ?side2 ?side3 ?side4 ?side5 ?side6 ?side7 ?side8 A412.out).mono ?_); (case side1 => exact cr_ aa); (case side2 => exact (Kd.R_reads' aa.out).2.1); (case side3 => exact cr_ ab); (case side4 => exact (Kd.R_reads' ab.out).2.1); (case side5 => exact cv_ ac); (case side6 => exact (Kd.V_reads' ac.out).2.1); (case side7 => exact cv_ ad); (case side8 => exact (Kd.V_reads' ad.out).2.1); rintro e w465 ⟨rfl, hb⟩; replace ac := mk0 (Kd.V_below (v_ ac) hb); replace ad := mk0 (Kd.V_below (v_ ad) hb); replace aa := mk0 (Kd.R_below (r_ aa) hb); replace ab := mk0 (Kd.R_below (r_ ab) hb); replace al := mk0 (Kd.R_below (r_ al) hb); replace an := mk0 (Kd.R_below (r_ an) hb); replace au := mk0 (Kd.R_below (r_ au) hb); replace av := mk0 (Kd.R_below (r_ av) hb); replace af := mk0 (u_ af hb); replace ak := mk0 (u_ ak hb); replace ai := mk0 (u_ ai hb); replace aj := mk0 (u_ aj hb); replace ag := mk0 (u_ ag hb); replace ah := mk0 (u_ ah hb); replace HB := mk0 (bt_ (b_ HB) hb); (try clear hb)))
   go_meet
   case rel => exact ⟨_, (true), (by first | rfl | (simp; done) | (simp [*]; done)), H', ⟨by have := td.out; first | omega | exact Nat.le_refl _⟩, ⟨by (with_reducible repeat (first | apply Kd.V_alloc | apply Kd.V_drewN | apply Kd.V_drew)); exact ac.out⟩, ⟨by (with_reducible repeat (first | apply Kd.V_alloc | apply Kd.V_drewN | apply Kd.V_drew)); exact ad.out⟩, ⟨by (with_reducible repeat (first | apply Ra_ | apply Rn_ | apply Rd_)); exact aa.out⟩, ⟨by (with_reducible repeat (first | apply Ra_ | apply Rn_ | apply Rd_)); exact ab.out⟩, ⟨by (with_reducible repeat (first | apply Ra_ | apply Rn_ | apply Rd_)); exact al.out⟩, ⟨by (with_reducible repeat (first | apply Ra_ | apply Rn_ | apply Rd_)); exact an.out⟩, ⟨by (with_reducible repeat (first | apply Ra_ | apply Rn_ | apply Rd_)); exact au.out⟩, ⟨by (with_reducible repeat (first | apply Ra_ | apply Rn_ | apply Rd_)); exact av.out⟩, ⟨h_ af⟩, ⟨h_ ak⟩, ⟨h_ ai⟩, ⟨h_ aj⟩, ⟨h_ ag⟩, ⟨h_ ah⟩, ⟨b_ HB⟩⟩
  subst c413
  rw [if_pos rfl] at H
  replace H := Option.bind_eq_some_iff.mp H
  obtain ⟨tr, A4140, H⟩ := H
  try dsimp only at H
  have A414 := mk0 A4140
  clear A4140
  replace H := Option.bind_eq_some_iff.mp H
  obtain ⟨ts, A4150, H⟩ := H
  try dsimp only at H
  have A415 := mk0 A4150
  clear A4150
  have H' := mk0 H
  clear H
  go_wp2_with (first | ((with_reducible refine gate_callee (f := 63) rfl ?_); refine gL_ (some 182) Try.func63 #[.int .i64 cS] (h := ?_); (with_reducible refine (quorumlaw10_num.calls cS fE _ A407.out).mono ?_); rintro e w' ⟨rfl, ⟨nd, rfl⟩⟩; refine ⟨_, rfl, ?_⟩; have CA := bp.out; have CB := aC.out; have CC := bf.out; have CD := aA.out; have CE := aY.out; have CF := ay.out; have CG := bE.out; have CH := aH.out; have CI := aW.out; have CJ := aJ.out; obtain ⟨nj, nk, nl, nm⟩ := c2_ ag; have CK := bF.out; have CL := aZ.out; have CM := bk.out; have CN := aK.out; have CO := bg.out; have CP := aI.out; have CQ := bG.out; have CR := ba.out; obtain ⟨nn, np, nq, nr⟩ := c2_ ah; obtain ⟨GV, GW, tt⟩ := Kd.R_slice al.out; subst tt; obtain ⟨GX, GY, tu⟩ := Kd.R_slice an.out; subst tu; obtain ⟨GZ, Ha, tv⟩ := Kd.R_slice au.out; subst tv; obtain ⟨Hb, Hc, tw⟩ := Kd.R_slice av.out; subst tw) | (go_at_call 65; (with_reducible refine (quorumref0_EqPend.calls kj5 _ _ bA _ _ bB _ _ bR _ _ bS true _ ?side1 ?side2 ?side3 ?side4 ?side5 ?side6 ?side7 ?side8 A409.out).mono ?_); (case side1 => exact cr_ al); (case side2 => exact (Kd.R_reads' al.out).2.1); (case side3 => exact cr_ an); (case side4 => exact (Kd.R_reads' an.out).2.1); (case side5 => exact cr_ au); (case side6 => exact (Kd.R_reads' au.out).2.1); (case side7 => exact cr_ av); (case side8 => exact (Kd.R_reads' av.out).2.1); rintro e w431 ⟨rfl, hb⟩; replace ac := mk0 (Kd.V_below (v_ ac) hb); replace ad := mk0 (Kd.V_below (v_ ad) hb); replace aa := mk0 (Kd.R_below (r_ aa) hb); replace ab := mk0 (Kd.R_below (r_ ab) hb); replace al := mk0 (Kd.R_below (r_ al) hb); replace an := mk0 (Kd.R_below (r_ an) hb); replace au := mk0 (Kd.R_below (r_ au) hb); replace av := mk0 (Kd.R_below (r_ av) hb); replace af := mk0 (u_ af hb); replace ak := mk0 (u_ ak hb); replace ai := mk0 (u_ ai hb); replace aj := mk0 (u_ aj hb); replace ag := mk0 (u_ ag hb); replace ah := mk0 (u_ ah hb); replace HB := mk0 (bt_ (b_ HB) hb); (try clear hb); have CS := bw.out; have CT := bn.out; have CU := bx.out; have CV := bo.out; have CW := aU.out; have CX := aX.out; obtain ⟨ns, nt, nu, nv⟩ := c2_ aj; have CY := bl.out; have CZ := bm.out; have Da := ax.out; have Db := be.out; obtain ⟨nw, nx, ny, nz⟩ := c2_ af) | (go_at_call 65; (with_reducible refine (quorumref0_EqPend.calls kj5 _ _ aG _ _ aN _ _ aD _ _ aM true _ ?side1 ?side2 ?side3 ?side4 ?side5 ?side6 ?side7 ?side8 A412.out).mono ?_); (case side1 => exact cr_ aa); (case side2 => exact (Kd.R_reads' aa.out).2.1); (case side3 => exact cr_ ab); (case side4 => exact (Kd.R_reads' ab.out).2.1); (case side5 => exact cv_ ac); (case side6 => exact (Kd.V_reads' ac.out).2.1); (case side7 => exact cv_ ad); (case side8 => exact (Kd.V_reads' ad.out).2.1); rintro e w439 ⟨rfl, hb⟩; replace ac := mk0 (Kd.V_below (v_ ac) hb); replace ad := mk0 (Kd.V_below (v_ ad) hb); replace aa := mk0 (Kd.R_below (r_ aa) hb); replace ab := mk0 (Kd.R_below (r_ ab) hb); replace al := mk0 (Kd.R_below (r_ al) hb); replace an := mk0 (Kd.R_below (r_ an) hb); replace au := mk0 (Kd.R_below (r_ au) hb); replace av := mk0 (Kd.R_below (r_ av) hb); replace af := mk0 (u_ af hb); replace ak := mk0 (u_ ak hb); replace ai := mk0 (u_ ai hb); replace aj := mk0 (u_ aj hb); replace ag := mk0 (u_ ag hb); replace ah := mk0 (u_ ah hb); replace HB := mk0 (bt_ (b_ HB) hb); (try clear hb); obtain ⟨nA, nB, nC, nD⟩ := c2_ aj) | (go_at_call 67; (with_reducible refine (pend_Check.calls kj5 _ _ aG _ _ aN tr _ ?side1 ?side2 ?side3 ?side4 A414.out).mono ?_); (case side1 => exact cr_ aa); (case side2 => exact (Kd.R_reads' aa.out).2.1); (case side3 => exact cr_ ab); (case side4 => exact (Kd.R_reads' ab.out).2.1); rintro e w441 ⟨rfl, hb⟩; replace ac := mk0 (Kd.V_below (v_ ac) hb); replace ad := mk0 (Kd.V_below (v_ ad) hb); replace aa := mk0 (Kd.R_below (r_ aa) hb); replace ab := mk0 (Kd.R_below (r_ ab) hb); replace al := mk0 (Kd.R_below (r_ al) hb); replace an := mk0 (Kd.R_below (r_ an) hb); replace au := mk0 (Kd.R_below (r_ au) hb); replace av := mk0 (Kd.R_below (r_ av) hb); replace af := mk0 (u_ af hb); replace ak := mk0 (u_ ak hb); replace ai := mk0 (u_ ai hb); replace aj := mk0 (u_ aj hb); replace ag := mk0 (u_ ag hb); replace ah := mk0 (u_ ah hb); replace HB := mk0 (bt_ (b_ HB) hb); (try clear hb)) | (go_at_call 63; (with_reducible refine (quorumlaw10_num.calls tr ts _ A415.out).mono ?_); rintro e w' ⟨rfl, ⟨nd, rfl⟩⟩))
  go_meet
  case rel => exact ⟨_, (((ts == 0) != dw)), (by first | rfl | (simp; done) | (simp [*]; done)), H', ⟨by have := td.out; first | omega | exact Nat.le_refl _⟩, ⟨by (with_reducible repeat (first | apply Kd.V_alloc | apply Kd.V_drewN | apply Kd.V_drew)); exact ac.out⟩, ⟨by (with_reducible repeat (first | apply Kd.V_alloc | apply Kd.V_drewN | apply Kd.V_drew)); exact ad.out⟩, ⟨by (with_reducible repeat (first | apply Ra_ | apply Rn_ | apply Rd_)); exact aa.out⟩, ⟨by (with_reducible repeat (first | apply Ra_ | apply Rn_ | apply Rd_)); exact ab.out⟩, ⟨by (with_reducible repeat (first | apply Ra_ | apply Rn_ | apply Rd_)); exact al.out⟩, ⟨by (with_reducible repeat (first | apply Ra_ | apply Rn_ | apply Rd_)); exact an.out⟩, ⟨by (with_reducible repeat (first | apply Ra_ | apply Rn_ | apply Rd_)); exact au.out⟩, ⟨by (with_reducible repeat (first | apply Ra_ | apply Rn_ | apply Rd_)); exact av.out⟩, ⟨h_ af⟩, ⟨h_ ak⟩, ⟨h_ ai⟩, ⟨h_ aj⟩, ⟨h_ ag⟩, ⟨h_ ah⟩, ⟨b_ HB⟩⟩
 clear HC406
 try clear c31
 try clear c35
 try clear c199
 try clear eP
 try clear eQ
 try clear c319
 try clear gJ
 try clear gK
 try clear c366
 try clear c375
 try clear c376
 try clear lh
 try clear li
 try clear c378
 try clear c408
 try clear dY
 try clear my
 try clear c410
 try clear c411
 try clear mH
 try clear mI
 try clear c413
 try clear eR eS eT eU
 try clear eV eW eX eY eZ fa fb fc fd fe ff fg
 try clear fh fi fj fk
 try clear fl fm fn fo fp fq fr fs ft fu fv fw
 try clear ju jv jw jx
 try clear jz jA jB jC
 try clear jD jE jF jG jH jI jJ jK jL jM jN jO
 try clear jP jQ jR jS
 try clear jq jr js jt
 try clear nj nk nl nm
 try clear nn np nq nr
 try clear ns nt nu nv
 try clear nw nx ny nz
 try clear nA nB nC nD
 try clear mR mS mT mU
 try clear mV mW mX mY
 try clear mZ na nb nc
 try clear nf ng nh ni
 try clear mJ mK mL mM
 try clear mN mO mP mQ
 try clear mz mA mB mC
 try clear mD mE mF mG
 obtain ⟨kq, dL, rfl, HA, Hd, ac, ad, aa, ab, al, an, au, av, af, ak, ai, aj, ag, ah, HB⟩ := hcut
 cases kq with
 | zero => exact absurd HA.out (by simp [quorumlaw10_step.j6])
 | succ kj405 =>
 have H := HA.out
 clear HA
 simp only [quorumlaw10_step.j6] at H
 as_aux_lemma =>
 by_cases c498 : dL = true
 ·subst c498
  rw [if_pos rfl] at H
  simp only [Option.some.injEq, Prod.mk.injEq] at H
  obtain ⟨rfl, rfl, rfl⟩ := H
  have Dc := bl.out
  have Dd := bm.out
  have De := ax.out
  have Df := be.out
  have Dg := bn.out
  have Dh := bw.out
  have Di := aC.out
  have Dj := bp.out
  have Dk := aZ.out
  have Dl := bF.out
  obtain ⟨tx, ty, tz, tA⟩ := c2_ af
  have Dm := aT.out
  have Dn := aR.out
  have Do := aX.out
  have Dp := aU.out
  have Dq := ay.out
  have Dr := aY.out
  have Ds := aI.out
  have Dt := bg.out
  obtain ⟨tB, tC, tD, tE⟩ := c2_ ai
  go_wp2
  refine bodyPost_ret (results_ct rfl _ _ ap 34 #[.slice A0_0 aD.length c0_0, .slice A0_1 aM.length c0_1] (0, 0) _ rfl (pu_ (cs := #[.slice A0_0 aD.length c0_0, .slice none 0 0]) (pu_ (cs := #[.slice none 0 0, .slice none 0 0]) (h_ ai))) Try.underlying34 rfl (by kernel_rfl)) rfl ?_
  exact ⟨_, _, by first | rfl | (simp [errW_none, errW_some] <;> rfl) | (simp [*, errW_none, errW_some] <;> rfl), by (with_reducible repeat (first | apply Kd.V_alloc | apply Kd.V_drewN | apply Kd.V_drew)); exact Kd.V_mono (Kd.V_far (p := ⟨ap, 1, none⟩) (Kd.V_far (p := ⟨ap, 0, none⟩) (Kd.V_mono ac.out (fun k_ hk => (⟨hk, hk.2.2.2.2.2.2.2.2.2.1⟩ : _ ∧ k_ ≠ ap))) (fun _ hk => hk.2) (.slice A0_0 aD.length c0_0)) (fun _ hk => hk.2) (.slice A0_1 aM.length c0_1)) (fun _ hk => hk.1.1), by (with_reducible repeat (first | apply Kd.V_alloc | apply Kd.V_drewN | apply Kd.V_drew)); exact Kd.V_mono (Kd.V_far (p := ⟨ap, 1, none⟩) (Kd.V_far (p := ⟨ap, 0, none⟩) (Kd.V_mono ad.out (fun k_ hk => (⟨hk, hk.2.2.2.2.2.2.2.2.2.1⟩ : _ ∧ k_ ≠ ap))) (fun _ hk => hk.2) (.slice A0_0 aD.length c0_0)) (fun _ hk => hk.2) (.slice A0_1 aM.length c0_1)) (fun _ hk => hk.1.1), b_ HB⟩
 focus
  replace c498 := Bool.eq_false_iff.mpr c498
  subst c498
  rw [if_neg (show ¬ (false = true) by decide)] at H
  replace H := Option.bind_eq_some_iff.mp H
  obtain ⟨⟨Du, Dv⟩, A5100, H⟩ := H
  try dsimp only at H
  have A510 := mk0 A5100
  clear A5100
  replace H := Option.bind_eq_some_iff.mp H
  obtain ⟨Dw, A5110, H⟩ := H
  try dsimp only at H
  have A511 := mk0 A5110
  clear A5110
  by_cases c512 : Dw = true
  focus
   subst c512
   rw [if_pos rfl] at H
   by_cases c513 : dz = 0
   focus
    rw [if_pos c513] at H
    have oo : (dz == 0) = true := beq_iff_eq.mpr c513
    have op : (dz != 0) = false := bne_eq_false_iff_eq.mpr c513
    clear c513
    replace H := Option.bind_eq_some_iff.mp H
    obtain ⟨⟨nE, nT⟩, A5140, H⟩ := H
    try dsimp only at H
    have A514 := mk0 A5140
    clear A5140
    simp only [Option.some.injEq, Prod.mk.injEq] at H
    obtain ⟨rfl, rfl, rfl⟩ := H
    have Dx := bp.out
    have Dy := aC.out
    have Dz := bf.out
    have DA := aA.out
    have DB := aY.out
    have DC := ay.out
    have DD := bE.out
    have DE := aH.out
    have DF := aW.out
    have DG := aJ.out
    obtain ⟨tF, tG, tH, tI⟩ := c2_ ag
    obtain ⟨dM, dN, tJ⟩ := Kd.R_slice al.out
    subst tJ
    obtain ⟨dO, dP, tK⟩ := Kd.R_slice an.out
    subst tK
   rotate_left 1
   focus
    rw [if_neg c513] at H
    have oo : (dz == 0) = false := beq_eq_false_iff_ne.mpr c513
    have op : (dz != 0) = true := bne_iff_ne.mpr c513
    simp only [Option.some.injEq, Prod.mk.injEq] at H
    obtain ⟨rfl, rfl, rfl⟩ := H
    have DH := bp.out
    have DI := aC.out
    have DJ := bf.out
    have DK := aA.out
    have DL := aY.out
    have DM := ay.out
    have DN := bE.out
    have DO := aH.out
    have DP := aW.out
    have DQ := aJ.out
    obtain ⟨tL, tM, tN, tO⟩ := c2_ ag
    obtain ⟨dM, dN, tP⟩ := Kd.R_slice al.out
    subst tP
    obtain ⟨dO, dP, tQ⟩ := Kd.R_slice an.out
    subst tQ
   rotate_right 1
  rotate_left 2
  focus
   replace c512 := Bool.eq_false_iff.mpr c512
   subst c512
   rw [if_neg (show ¬ (false = true) by decide)] at H
   simp only [Option.some.injEq, Prod.mk.injEq] at H
   obtain ⟨rfl, rfl, rfl⟩ := H
   have DR := bp.out
   have DS := aC.out
   have DT := bf.out
   have DU := aA.out
   have DV := aY.out
   have DW := ay.out
   have DX := bE.out
   have DY := aH.out
   have DZ := aW.out
   have Ea := aJ.out
   obtain ⟨tR, tS, tT, tU⟩ := c2_ ag
   obtain ⟨dM, dN, tV⟩ := Kd.R_slice al.out
   subst tV
   obtain ⟨dO, dP, tW⟩ := Kd.R_slice an.out
   subst tW
  rotate_right 2
 all_goals go_wp2_with (first | ((with_reducible refine gate_callee (f := 68) rfl ?_); refine gL_ (some 212) Try.func68 #[.agg #[.slice dM bA.length dN, .slice dO bB.length dP]] (h := ?_); (with_reducible refine (quorumlaw0_Pend.calls kj405 (fun k_ => some k_ = (.slice dM bA.length dN : Value).ownBlock) (.slice dM bA.length dN) bA (fun k_ => some k_ = (.slice dO bB.length dP : Value).ownBlock) (.slice dO bB.length dP) bB Du Dv w _ ?side1 ?side2 ?side3 A510.out).mono ?_); (case side1 => repeat (first | (with_reducible first | exact HB.out | apply bL_ | apply pN_ | apply b1_ | refine bs_ ?_ ov.out | refine bs_ ?_ ow.out | refine bs_ ?_ ox.out | refine bs_ ?_ oy.out | refine bs_ ?_ oz.out | refine bs_ ?_ oA.out) | exact HB.out)); (case side2 => exact Kd.R_tight rfl al.out); (case side3 => exact Kd.R_tight rfl an.out); rintro e w523 ⟨rfl, hy0, hy1, hb, hkp⟩; refine ⟨_, rfl, ?_⟩; have n2_ := mk0 (Kd.R_mono (ok' := fun k_ => (w.heap.size ≤ k_) ∧ some k_ ≠ (.slice dM bA.length dN : Value).ownBlock ∧ some k_ ≠ (u344000 : Value).ownBlock) (Kd.R_keptB ((Kd.R_apart' aa.out (Kd.R_typed an.out) (by decide))) hkp (fun k_ hk_ hs_ => Or.elim hs_ (fun e_ => (hk_.1.2.1) e_) (fun e_ => (hk_.2) e_))) (fun k_ hk_ => ⟨hk_.1.1.1, hk_.1.1.2.1, hk_.1.1.2.2⟩)); have n3_ := mk0 (Kd.R_mono (ok' := fun k_ => (w.heap.size ≤ k_) ∧ some k_ ≠ (.slice dO bB.length dP : Value).ownBlock ∧ some k_ ≠ (u344001 : Value).ownBlock) (Kd.R_keptB ((Kd.R_apart' ab.out (Kd.R_typed al.out) (by decide))) hkp (fun k_ hk_ hs_ => Or.elim hs_ (fun e_ => (hk_.2) e_) (fun e_ => (hk_.1.2.1) e_))) (fun k_ hk_ => ⟨hk_.1.1.1, hk_.1.1.2.1, hk_.1.1.2.2⟩)); have n6_ := mk0 (Kd.R_mono (ok' := fun k_ => (w.heap.size ≤ k_) ∧ some k_ ≠ (.slice bc aG.length bb : Value).ownBlock ∧ some k_ ≠ (.slice dM bA.length dN : Value).ownBlock) (Kd.R_keptB ((Kd.R_apart' au.out (Kd.R_typed an.out) (by decide))) hkp (fun k_ hk_ hs_ => Or.elim hs_ (fun e_ => (hk_.1.2.2) e_) (fun e_ => (hk_.2) e_))) (fun k_ hk_ => ⟨hk_.1.1.1, hk_.1.1.2.1, hk_.1.1.2.2⟩)); have n7_ := mk0 (Kd.R_mono (ok' := fun k_ => (w.heap.size ≤ k_) ∧ some k_ ≠ (.slice bj aN.length bi : Value).ownBlock ∧ some k_ ≠ (.slice dO bB.length dP : Value).ownBlock) (Kd.R_keptB ((Kd.R_apart' av.out (Kd.R_typed al.out) (by decide))) hkp (fun k_ hk_ hs_ => Or.elim hs_ (fun e_ => (hk_.2) e_) (fun e_ => (hk_.1.2.2) e_))) (fun k_ hk_ => ⟨hk_.1.1.1, hk_.1.1.2.1, hk_.1.1.2.2⟩)); have n8_ := mk0 (blk_kept (h_ af) hkp (fun hs_ => Or.elim hs_ (fun e_ => (fun e_ => (Kd.R_ne al.out af.out (by decide)) e_) e_) (fun e_ => (fun e_ => (Kd.R_ne an.out af.out (by decide)) e_) e_))); have n9_ := mk0 (blk_kept (h_ ak) hkp (fun hs_ => Or.elim hs_ (fun e_ => (fun e_ => (Kd.R_ne al.out ak.out (by decide)) e_) e_) (fun e_ => (fun e_ => (Kd.R_ne an.out ak.out (by decide)) e_) e_))); have n10_ := mk0 (blk_kept (h_ ai) hkp (fun hs_ => Or.elim hs_ (fun e_ => (fun e_ => (Kd.R_ne al.out ai.out (by decide)) e_) e_) (fun e_ => (fun e_ => (Kd.R_ne an.out ai.out (by decide)) e_) e_))); have n11_ := mk0 (blk_kept (h_ aj) hkp (fun hs_ => Or.elim hs_ (fun e_ => (fun e_ => (Kd.R_ne al.out aj.out (by decide)) e_) e_) (fun e_ => (fun e_ => (Kd.R_ne an.out aj.out (by decide)) e_) e_))); have n12_ := mk0 (blk_kept (h_ ag) hkp (fun hs_ => Or.elim hs_ (fun e_ => (fun e_ => (Kd.R_ne al.out ag.out (by decide)) e_) e_) (fun e_ => (fun e_ => (Kd.R_ne an.out ag.out (by decide)) e_) e_))); have n13_ := mk0 (blk_kept (h_ ah) hkp (fun hs_ => Or.elim hs_ (fun e_ => (fun e_ => (Kd.R_ne al.out ah.out (by decide)) e_) e_) (fun e_ => (fun e_ => (Kd.R_ne an.out ah.out (by decide)) e_) e_))); replace ac := mk0 (Kd.V_mono (ok' := fun k_ => ((P0_0_ k_ ∨ P0_1_ k_) ∨ w.heap.size ≤ k_) ∧ some k_ ≠ (.slice bc aG.length bb : Value).ownBlock ∧ some k_ ≠ (.slice bj aN.length bi : Value).ownBlock ∧ some k_ ≠ (.slice dM bA.length dN : Value).ownBlock ∧ some k_ ≠ (.slice dO bB.length dP : Value).ownBlock ∧ some k_ ≠ (u344000 : Value).ownBlock ∧ some k_ ≠ (u344001 : Value).ownBlock ∧ k_ ≠ bd ∧ k_ ≠ bq ∧ k_ ≠ ap ∧ k_ ≠ aV ∧ k_ ≠ ae ∧ k_ ≠ am) (Kd.V_keptB (ac.out) hkp (fun k_ hk_ hs_ => Or.elim hs_ (fun e_ => (hk_.2.2.2.1) e_) (fun e_ => (hk_.2.2.2.2.1) e_))) (fun k_ hk_ => ⟨hk_.1.1, hk_.1.2.1, hk_.1.2.2.1, hk_.1.2.2.2.1, hk_.1.2.2.2.2.1, hk_.1.2.2.2.2.2.1, hk_.1.2.2.2.2.2.2.1, hk_.1.2.2.2.2.2.2.2.1, hk_.1.2.2.2.2.2.2.2.2.1, hk_.1.2.2.2.2.2.2.2.2.2.1, hk_.1.2.2.2.2.2.2.2.2.2.2.1, hk_.1.2.2.2.2.2.2.2.2.2.2.2.1, hk_.1.2.2.2.2.2.2.2.2.2.2.2.2⟩)); replace ad := mk0 (Kd.V_mono (ok' := fun k_ => ((P0_0_ k_ ∨ P0_1_ k_) ∨ w.heap.size ≤ k_) ∧ some k_ ≠ (.slice bc aG.length bb : Value).ownBlock ∧ some k_ ≠ (.slice bj aN.length bi : Value).ownBlock ∧ some k_ ≠ (.slice dM bA.length dN : Value).ownBlock ∧ some k_ ≠ (.slice dO bB.length dP : Value).ownBlock ∧ some k_ ≠ (u344000 : Value).ownBlock ∧ some k_ ≠ (u344001 : Value).ownBlock ∧ k_ ≠ bd ∧ k_ ≠ bq ∧ k_ ≠ ap ∧ k_ ≠ aV ∧ k_ ≠ ae ∧ k_ ≠ am) (Kd.V_keptB (ad.out) hkp (fun k_ hk_ hs_ => Or.elim hs_ (fun e_ => (hk_.2.2.2.1) e_) (fun e_ => (hk_.2.2.2.2.1) e_))) (fun k_ hk_ => ⟨hk_.1.1, hk_.1.2.1, hk_.1.2.2.1, hk_.1.2.2.2.1, hk_.1.2.2.2.2.1, hk_.1.2.2.2.2.2.1, hk_.1.2.2.2.2.2.2.1, hk_.1.2.2.2.2.2.2.2.1, hk_.1.2.2.2.2.2.2.2.2.1, hk_.1.2.2.2.2.2.2.2.2.2.1, hk_.1.2.2.2.2.2.2.2.2.2.2.1, hk_.1.2.2.2.2.2.2.2.2.2.2.2.1, hk_.1.2.2.2.2.2.2.2.2.2.2.2.2⟩)); replace al := mk0 (Kd.R_reok rfl hy0 (fun k_ e_ => al.out.1 k_ e_)); replace an := mk0 (Kd.R_reok rfl hy1 (fun k_ e_ => an.out.1 k_ e_)); replace HB := mk0 (hb); clear aa ab au av af ak ai aj ag ah; have aa := n2_; have ab := n3_; have au := n6_; have av := n7_; have af := n8_; have ak := n9_; have ai := n10_; have aj := n11_; have ag := n12_; have ah := n13_; clear n2_ n3_ n6_ n7_ n8_ n9_ n10_ n11_ n12_ n13_; (try clear hb); (try clear hkp); (try clear hy0); (try clear hy1); have Eb := bw.out; have Ec := bn.out; have Ed := bx.out; have Ee := bo.out; have Ef := aU.out; have Eg := aX.out; have Eh := ba.out; have Ei := bG.out; obtain ⟨tX, tY, tZ, ua⟩ := c2_ aj; have Ej := bl.out; have Ek := bm.out; have El := ax.out; have Em := be.out; have En := aZ.out; have Eo := bF.out; obtain ⟨ub, uc, ud, ue⟩ := c2_ af) | ((with_reducible refine gate_callee (f := 65) rfl ?_); refine gL_ (some 215) Try.func65 #[.agg #[.slice bc aG.length bb, .slice bj aN.length bi], .agg #[.slice A0_0 aD.length c0_0, .slice A0_1 aM.length c0_1]] (h := ?_); (with_reducible refine (quorumref0_EqPend.calls kj405 _ _ aG _ _ aN _ _ aD _ _ aM true _ ?side1 ?side2 ?side3 ?side4 ?side5 ?side6 ?side7 ?side8 A511.out).mono ?_); (case side1 => exact cr_ aa); (case side2 => exact (Kd.R_reads' aa.out).2.1); (case side3 => exact cr_ ab); (case side4 => exact (Kd.R_reads' ab.out).2.1); (case side5 => exact cv_ ac); (case side6 => exact (Kd.V_reads' ac.out).2.1); (case side7 => exact cv_ ad); (case side8 => exact (Kd.V_reads' ad.out).2.1); rintro e w533 ⟨rfl, hb⟩; refine ⟨_, rfl, ?_⟩; replace ac := mk0 (Kd.V_below (v_ ac) hb); replace ad := mk0 (Kd.V_below (v_ ad) hb); replace aa := mk0 (Kd.R_below (r_ aa) hb); replace ab := mk0 (Kd.R_below (r_ ab) hb); replace al := mk0 (Kd.R_below (r_ al) hb); replace an := mk0 (Kd.R_below (r_ an) hb); replace au := mk0 (Kd.R_below (r_ au) hb); replace av := mk0 (Kd.R_below (r_ av) hb); replace af := mk0 (u_ af hb); replace ak := mk0 (u_ ak hb); replace ai := mk0 (u_ ai hb); replace aj := mk0 (u_ aj hb); replace ag := mk0 (u_ ag hb); replace ah := mk0 (u_ ah hb); replace HB := mk0 (bt_ (b_ HB) hb); (try clear hb); have nF := bk.out; have nG := aK.out; have Ep := bg.out; have Eq := aI.out; obtain ⟨kZ, la, lb, lc⟩ := c2_ ah; obtain ⟨uf, ug, uh⟩ := Kd.R_slice au.out; subst uh; obtain ⟨ui, uj, uk⟩ := Kd.R_slice av.out; subst uk; (try obtain ⟨nH, nI, nJ, nK⟩ := c2_ af); (try have oq := aT.out); (try have os := aR.out); (try obtain ⟨nL, nM, nN, nO⟩ := c2_ ai)) | ((with_reducible refine gate_callee (f := 24) rfl ?_); refine gL_ (some 222) Try.func24 #[.agg #[.slice uf bR.length ug, .slice ui bS.length uj]] (h := ?_); (with_reducible refine (quorumref0_CopyPend.calls kj405 _ _ bR _ _ bS nE nT _ ?side1 ?side2 ?side3 ?side4 A514.out).mono ?_); (case side1 => exact cr_ au); (case side2 => exact (Kd.R_reads' au.out).2.1); (case side3 => exact cr_ av); (case side4 => exact (Kd.R_reads' av.out).2.1); rintro e w539 ⟨v440, v443, rfl, ho0, ho1, hb⟩; refine ⟨_, rfl, ?_⟩; have n8_ := mk0 (Kd.R_lower (Kd.R_new' (Kd.R_new' (Kd.R_new' (Kd.R_newM (M := fun k_ => (w.heap.size ≤ k_)) ho0 (bz_ (b_ HB)) (fun k_ h_ => h_)) (Kd.R_lt (r_ aa))) (Kd.R_lt (r_ al))) (Kd.R_lt (r_ au))) (bz_ (b_ HB))); have n9_ := mk0 (Kd.R_lower (Kd.R_new' (Kd.R_new' (Kd.R_new' (Kd.R_newM (M := fun k_ => (w.heap.size ≤ k_)) ho1 (bz_ (b_ HB)) (fun k_ h_ => h_)) (Kd.R_lt (r_ ab))) (Kd.R_lt (r_ an))) (Kd.R_lt (r_ av))) (bz_ (b_ HB))); replace ac := mk0 (Kd.V_mono (Kd.V_told (Kd.V_told (Kd.V_old (v_ ac) hb) (Kd.R_base ho0)) (Kd.R_base ho1)) (fun _ h_ => h_.1)); replace ad := mk0 (Kd.V_mono (Kd.V_told (Kd.V_told (Kd.V_old (v_ ad) hb) (Kd.R_base ho0)) (Kd.R_base ho1)) (fun _ h_ => h_.1)); replace aa := mk0 (Kd.R_elder' (r_ aa) (Kd.R_base ho0) hb); replace ab := mk0 (Kd.R_elder' (r_ ab) (Kd.R_base ho1) hb); replace al := mk0 (Kd.R_elder' (r_ al) (Kd.R_base ho0) hb); replace an := mk0 (Kd.R_elder' (r_ an) (Kd.R_base ho1) hb); replace au := mk0 (Kd.R_elder' (r_ au) (Kd.R_base ho0) hb); replace av := mk0 (Kd.R_elder' (r_ av) (Kd.R_base ho1) hb); replace af := mk0 (u_ af hb); replace ak := mk0 (u_ ak hb); replace ai := mk0 (u_ ai hb); replace aj := mk0 (u_ aj hb); replace ag := mk0 (u_ ag hb); replace ah := mk0 (u_ ah hb); replace HB := mk0 (bt_ (b_ HB) hb); have oe := n8_; have og := n9_; clear n8_ n9_; (try clear hb); (try clear ho0); (try clear ho1); obtain ⟨ll, lm, ul⟩ := Kd.R_slice oe.out; subst ul; have Er := aT.out; have Es := aR.out; obtain ⟨um, un, uo, up⟩ := c2_ ai; obtain ⟨nP, nQ, uq⟩ := Kd.R_slice og.out; subst uq) | ((with_reducible refine gate_callee (f := 65) rfl ?_); refine gL_ (some 215) Try.func65 #[.agg #[.slice bc aG.length bb, .slice bj aN.length bi], .agg #[.slice A0_0 aD.length c0_0, .slice A0_1 aM.length c0_1]] (h := ?_); (with_reducible refine (quorumref0_EqPend.calls kj405 _ _ aG _ _ aN _ _ aD _ _ aM true _ ?side1 ?side2 ?side3 ?side4 ?side5 ?side6 ?side7 ?side8 A511.out).mono ?_); (case side1 => exact cr_ aa); (case side2 => exact (Kd.R_reads' aa.out).2.1); (case side3 => exact cr_ ab); (case side4 => exact (Kd.R_reads' ab.out).2.1); (case side5 => exact cv_ ac); (case side6 => exact (Kd.V_reads' ac.out).2.1); (case side7 => exact cv_ ad); (case side8 => exact (Kd.V_reads' ad.out).2.1); rintro e w562 ⟨rfl, hb⟩; refine ⟨_, rfl, ?_⟩; replace ac := mk0 (Kd.V_below (v_ ac) hb); replace ad := mk0 (Kd.V_below (v_ ad) hb); replace aa := mk0 (Kd.R_below (r_ aa) hb); replace ab := mk0 (Kd.R_below (r_ ab) hb); replace al := mk0 (Kd.R_below (r_ al) hb); replace an := mk0 (Kd.R_below (r_ an) hb); replace au := mk0 (Kd.R_below (r_ au) hb); replace av := mk0 (Kd.R_below (r_ av) hb); replace af := mk0 (u_ af hb); replace ak := mk0 (u_ ak hb); replace ai := mk0 (u_ ai hb); replace aj := mk0 (u_ aj hb); replace ag := mk0 (u_ ag hb); replace ah := mk0 (u_ ah hb); replace HB := mk0 (bt_ (b_ HB) hb); (try clear hb); obtain ⟨nH, nI, nJ, nK⟩ := c2_ af; have oq := aT.out; have os := aR.out; have Et := aI.out; have Eu := bg.out; obtain ⟨nL, nM, nN, nO⟩ := c2_ ai; (try have nF := bk.out); (try have nG := aK.out); (try obtain ⟨kZ, la, lb, lc⟩ := c2_ ah)) | ((with_reducible refine gate_callee (f := 65) rfl ?_); refine gL_ (some 215) Try.func65 #[.agg #[.slice bc aG.length bb, .slice bj aN.length bi], .agg #[.slice A0_0 aD.length c0_0, .slice A0_1 aM.length c0_1]] (h := ?_); (with_reducible refine (quorumref0_EqPend.calls kj405 _ _ aG _ _ aN _ _ aD _ _ aM false _ ?side1 ?side2 ?side3 ?side4 ?side5 ?side6 ?side7 ?side8 A511.out).mono ?_); (case side1 => exact cr_ aa); (case side2 => exact (Kd.R_reads' aa.out).2.1); (case side3 => exact cr_ ab); (case side4 => exact (Kd.R_reads' ab.out).2.1); (case side5 => exact cv_ ac); (case side6 => exact (Kd.V_reads' ac.out).2.1); (case side7 => exact cv_ ad); (case side8 => exact (Kd.V_reads' ad.out).2.1); rintro e w585 ⟨rfl, hb⟩; refine ⟨_, rfl, ?_⟩; replace ac := mk0 (Kd.V_below (v_ ac) hb); replace ad := mk0 (Kd.V_below (v_ ad) hb); replace aa := mk0 (Kd.R_below (r_ aa) hb); replace ab := mk0 (Kd.R_below (r_ ab) hb); replace al := mk0 (Kd.R_below (r_ al) hb); replace an := mk0 (Kd.R_below (r_ an) hb); replace au := mk0 (Kd.R_below (r_ au) hb); replace av := mk0 (Kd.R_below (r_ av) hb); replace af := mk0 (u_ af hb); replace ak := mk0 (u_ ak hb); replace ai := mk0 (u_ ai hb); replace aj := mk0 (u_ aj hb); replace ag := mk0 (u_ ag hb); replace ah := mk0 (u_ ah hb); replace HB := mk0 (bt_ (b_ HB) hb); (try clear hb); obtain ⟨ur, us, ut, uu⟩ := c2_ af; have Ev := aT.out; have Ew := aR.out; have Ex := aI.out; have Ey := bg.out; obtain ⟨uv, uw, ux, uy⟩ := c2_ ai; (try have nF := bk.out); (try have nG := aK.out); (try obtain ⟨kZ, la, lb, lc⟩ := c2_ ah)))
 ·refine bodyPost_ret (results_ct rfl _ _ ap 34 #[.slice ll nE.length lm, .slice nP nT.length nQ] (0, 0) _ rfl (pu_ (cs := #[.slice ll nE.length lm, .slice none 0 0]) (pu_ (cs := #[.slice none 0 0, .slice none 0 0]) (h_ ai))) Try.underlying34 rfl (by kernel_rfl)) rfl ?_
  exact ⟨_, _, by first | rfl | (simp [errW_none, errW_some] <;> rfl) | (simp [*, errW_none, errW_some] <;> rfl), Kd.V_mono (Kd.R_V (r2_ (Kd.R_mono (Kd.R_far (p := ⟨ap, 1, none⟩) (Kd.R_far (p := ⟨ap, 0, none⟩) (Kd.R_types oe.out ai.out (by decide)) (fun _ hk => hk.2) (.slice ll nE.length lm)) (fun _ hk => hk.2) (.slice nP nT.length nQ)) (fun _ hk => hk.1.1.1.1.1)))) (fun k_ hk => by first | exact ⟨(.inr (hk.1)), hk.2⟩ | exact (.inr (hk))), Kd.V_mono (Kd.R_V (r2_ (Kd.R_mono (Kd.R_far (p := ⟨ap, 1, none⟩) (Kd.R_far (p := ⟨ap, 0, none⟩) (Kd.R_types og.out ai.out (by decide)) (fun _ hk => hk.2) (.slice ll nE.length lm)) (fun _ hk => hk.2) (.slice nP nT.length nQ)) (fun _ hk => hk.1.1.1.1.1)))) (fun k_ hk => by first | exact ⟨(.inr (hk.1)), hk.2⟩ | exact (.inr (hk))), b_ HB⟩
 ·refine bodyPost_ret (results_ct rfl _ _ ap 34 #[.slice A0_0 aD.length c0_0, .slice A0_1 aM.length c0_1] (0, 0) _ rfl (pu_ (cs := #[.slice A0_0 aD.length c0_0, .slice none 0 0]) (pu_ (cs := #[.slice none 0 0, .slice none 0 0]) (h_ ai))) Try.underlying34 rfl (by kernel_rfl)) rfl ?_
  exact ⟨_, _, by first | rfl | (simp [errW_none, errW_some] <;> rfl) | (simp [*, errW_none, errW_some] <;> rfl), by (with_reducible repeat (first | apply Kd.V_alloc | apply Kd.V_drewN | apply Kd.V_drew)); exact Kd.V_mono (Kd.V_far (p := ⟨ap, 1, none⟩) (Kd.V_far (p := ⟨ap, 0, none⟩) (Kd.V_mono ac.out (fun k_ hk => (⟨hk, hk.2.2.2.2.2.2.2.2.2.1⟩ : _ ∧ k_ ≠ ap))) (fun _ hk => hk.2) (.slice A0_0 aD.length c0_0)) (fun _ hk => hk.2) (.slice A0_1 aM.length c0_1)) (fun _ hk => hk.1.1), by (with_reducible repeat (first | apply Kd.V_alloc | apply Kd.V_drewN | apply Kd.V_drew)); exact Kd.V_mono (Kd.V_far (p := ⟨ap, 1, none⟩) (Kd.V_far (p := ⟨ap, 0, none⟩) (Kd.V_mono ad.out (fun k_ hk => (⟨hk, hk.2.2.2.2.2.2.2.2.2.1⟩ : _ ∧ k_ ≠ ap))) (fun _ hk => hk.2) (.slice A0_0 aD.length c0_0)) (fun _ hk => hk.2) (.slice A0_1 aM.length c0_1)) (fun _ hk => hk.1.1), b_ HB⟩
 ·refine bodyPost_ret (results_ct rfl _ _ ap 34 #[.slice A0_0 aD.length c0_0, .slice A0_1 aM.length c0_1] (0, 0) _ rfl (pu_ (cs := #[.slice A0_0 aD.length c0_0, .slice none 0 0]) (pu_ (cs := #[.slice none 0 0, .slice none 0 0]) (h_ ai))) Try.underlying34 rfl (by kernel_rfl)) rfl ?_
  exact ⟨_, _, by first | rfl | (simp [errW_none, errW_some] <;> rfl) | (simp [*, errW_none, errW_some] <;> rfl), by (with_reducible repeat (first | apply Kd.V_alloc | apply Kd.V_drewN | apply Kd.V_drew)); exact Kd.V_mono (Kd.V_far (p := ⟨ap, 1, none⟩) (Kd.V_far (p := ⟨ap, 0, none⟩) (Kd.V_mono ac.out (fun k_ hk => (⟨hk, hk.2.2.2.2.2.2.2.2.2.1⟩ : _ ∧ k_ ≠ ap))) (fun _ hk => hk.2) (.slice A0_0 aD.length c0_0)) (fun _ hk => hk.2) (.slice A0_1 aM.length c0_1)) (fun _ hk => hk.1.1), by (with_reducible repeat (first | apply Kd.V_alloc | apply Kd.V_drewN | apply Kd.V_drew)); exact Kd.V_mono (Kd.V_far (p := ⟨ap, 1, none⟩) (Kd.V_far (p := ⟨ap, 0, none⟩) (Kd.V_mono ad.out (fun k_ hk => (⟨hk, hk.2.2.2.2.2.2.2.2.2.1⟩ : _ ∧ k_ ≠ ap))) (fun _ hk => hk.2) (.slice A0_0 aD.length c0_0)) (fun _ hk => hk.2) (.slice A0_1 aM.length c0_1)) (fun _ hk => hk.1.1), b_ HB⟩

end Go.Proofs.Ytbaecdcfefmcgaa.PPnd
