-- PRINTED by print.py (a twelfth state) out of the translation. Not trusted: Lean checks it.
import Derived.Test.YtbaecdcfefmcgaaPTbex0
import Derived.Test.YtbaecdcfefmcgaaPTbex4
import Derived.Test.YtbaecdcfefmcgaaPTbex5
import Derived.Test.YtbaecdcfefmcgaaPTbex6
import Derived.Test.YtbaecdcfefmcgaaPTbex8
import Derived.Test.YtbaecdcfefmcgaaPTbex15
import Derived.Test.YtbaecdcfefmcgaaHTabW
namespace Go.Proofs.Ytbaecdcfefmcgaa.PTbe
open Go.RowKit Go.Proofs.YtbaecdcfefmcgaaW.PrintWords Go.Proofs.YtbaecdcfefmcgaaW.PrintLast Go.Proofs.YtbaecdcfefmcgaaW.PrintMore
attribute [local go_sem] max2_int min2_int max_two min_two max_three min_three max_four min_four   -- for this text's walks alone
set_option maxHeartbeats 8000000
set_option maxRecDepth 100000
set_option linter.unusedVariables false
set_option linter.unusedSimpArgs false
/-! ### quorumref8_Put: function 85 -/
def quorumref8_Put.j0 : Nat → Int → List (S99) → List (S99) → ByteArray → List (S72) → Option ((List (S99)) × Int)
 | 0, _, _, _, _, _ => none
 | k + 1, x8, x11, x436000, x444000, x444001 => (quorumref8_Chain.f k x444000 x444001).bind fun t459 => (if t459 = true then ((quorumref8_Count.f k x436000).bind fun t460 => (if t460 ≥ 64 then (some (([] : List (S99)), 5)) else (if 0 ≤ x8 then (if x8 ≤ (x436000.length : Int) then ((quorumref0_CopyChains.f k (x436000.take (x8 : Int).toNat)).bind fun t466 => ((some (([(⟨x444000, x444001⟩ : S99)] : List (S99)) : List (S99))).bind fun y469 => (if t466.length + y469.length < 3518437208883 then ((some (t466 ++ y469 : List (S99))).bind fun y472 => ((quorumref0_CopyChains.f k x11).bind fun t475 => (if y472.length + t475.length < 3518437208883 then (some ((y472 ++ t475), 0)) else (none)))) else (none)))) else (none)) else (none)))) else (some (([] : List (S99)), 1)))
def quorumref8_Put.f (k : Nat) (l0_0 : List (S99)) (a1 : ByteArray) (a2_0 : Int) (a2_1 : ByteArray) (a2_2 : Bool) : Option ((List (S99)) × Int) := (quorumref8_place.f k l0_0 a1).bind fun bt438 => (if 0 ≤ bt438.1 then (if bt438.1 ≤ (l0_0.length : Int) then ((some (l0_0.drop (bt438.1 : Int).toNat : List (S99))).bind fun y444 => (if bt438.2 = true then (if bt438.1 < (l0_0.length : Int) then ((quorumref8_Add.f k ((rd_T99 l0_0 bt438.1).f0) ((rd_T99 l0_0 bt438.1).f1) a2_0 a2_1 a2_2).bind fun bt450 => (if 1 ≤ (y444.length : Int) then (quorumref8_Put.j0 k bt438.1 (y444.drop 1) l0_0 bt450.1 bt450.2) else (none))) else (none)) else (quorumref8_Put.j0 k bt438.1 y444 l0_0 a1 (([(⟨a2_0, a2_1, a2_2⟩ : S72)] : List (S72)))))) else (none)) else (none))
theorem quorumref8_Put.mono_l : ∀ k, (∀ y0 y1 y2 y3 y4, LeO (quorumref8_Put.j0 k y0 y1 y2 y3 y4) (quorumref8_Put.j0 (k + 1) y0 y1 y2 y3 y4))
 | 0 => fun _ _ _ _ _ r h => by simp [quorumref8_Put.j0] at h
 | k + 1 => by
  have ih0 := quorumref8_Put.mono_l k
  all_goals (intros; first | unfold quorumref8_Put.j0)
  all_goals (repeat' first | (with_reducible exact ih0 ..) | (with_reducible exact quorumref0_CopyChains.mono ..) | (with_reducible exact quorumref8_Add.mono ..) | (with_reducible exact quorumref8_Chain.mono ..) | (with_reducible exact quorumref8_Count.mono ..) | (with_reducible exact quorumref8_place.mono ..) | (with_reducible exact LeO.refl _) | (with_reducible exact LeO.none _) | (with_reducible refine LeO.ite ?_ ?_) | (with_reducible refine LeO.bind ?_ (fun _ => ?_)) | exact LeO.none _ | refine LeO.ite ?_ ?_ | refine LeO.bind ?_ (fun _ => ?_))
theorem quorumref8_Put.mono : ∀ a0 a1 a2 a3 a4 k, LeO (quorumref8_Put.f k a0 a1 a2 a3 a4) (quorumref8_Put.f (k + 1) a0 a1 a2 a3 a4) := by
 intro a0 a1 a2 a3 a4 k
 have ih0 := quorumref8_Put.mono_l k
 unfold quorumref8_Put.f
 repeat' first | (with_reducible exact ih0 ..) | (with_reducible exact quorumref0_CopyChains.mono ..) | (with_reducible exact quorumref8_Add.mono ..) | (with_reducible exact quorumref8_Chain.mono ..) | (with_reducible exact quorumref8_Count.mono ..) | (with_reducible exact quorumref8_place.mono ..) | (with_reducible exact LeO.refl _) | (with_reducible exact LeO.none _) | (with_reducible refine LeO.ite ?_ ?_) | (with_reducible refine LeO.bind ?_ (fun _ => ?_)) | exact LeO.none _ | refine LeO.ite ?_ ?_ | refine LeO.bind ?_ (fun _ => ?_)
def quorumref8_Put.T5 : Bool × List (List Nat × List Nat) := (true, [([], []), ([0], [0]), ([], []), ([1, 2], [1, 2]), ([3], [3]), ([], []), ([4, 5], [4, 5]), ([6, 6, 0, 1, 2, 3, 4, 5, 6], [6])])
def quorumref8_Put.B5 : List Nat := [0, 1, 0, 7, 15, 0, 63, 127]
theorem quorumref8_Put.tab5 : rtab .any (opsOf Try.f85 5) = quorumref8_Put.T5 := by kernel_rfl
theorem quorumref8_Put.bits5 : waitsOk quorumref8_Put.T5.2 quorumref8_Put.B5 = true := by kernel_rfl
def quorumref8_Put.T11 : Bool × List (List Nat × List Nat) := (true, [([], []), ([0], [0]), ([], []), ([1, 2], [1, 2]), ([3], [3]), ([], []), ([5], [5]), ([4, 6, 4], [4, 6]), ([], []), ([8, 7], [8]), ([7, 9, 9], [7, 9]), ([10], [10]), ([11, 10, 0, 1, 2, 3, 4, 5, 6, 7, 8, 9, 10, 11], [11]), ([12, 0, 1, 2, 3, 4, 5, 6, 7, 8, 9, 10, 11, 12], [])])
def quorumref8_Put.B11 : List Nat := [0, 1, 0, 7, 15, 0, 32, 127, 0, 511, 1023, 2047, 4095, 8191]
theorem quorumref8_Put.tab11 : rtab .any (opsOf Try.f85 11) = quorumref8_Put.T11 := by kernel_rfl
theorem quorumref8_Put.bits11 : waitsOk quorumref8_Put.T11.2 quorumref8_Put.B11 = true := by kernel_rfl
theorem quorumref8_Put.calls (k : Nat) (P0_0_ : Nat → Prop) (A0_0 : Option Addr) (c0_0 : Nat) (l0_0 : List (S99)) (a1 : ByteArray) (a2_0 : Int) (a2_1 : ByteArray) (a2_2 : Bool) (r1 : List (S99)) (r2 : Int) (w : World) (hs0_0 : Kd.V k99 99 w w.heap.size (fun k_ => P0_0_ k_) (.slice A0_0 l0_0.length c0_0) l0_0) (h : quorumref8_Put.f k l0_0 a1 a2_0 a2_1 a2_2 = some (r1, r2)) :
  Calls Try.prog 85 #[.agg #[.slice A0_0 l0_0.length c0_0], .string a1, .agg #[.int .i64 a2_0, .string a2_1, .bool a2_2]] w fun e w' => ∃ v0_ : Value, e = .returned (.tuple #[.agg #[v0_], .int .i64 r2]) ∧ Kd.N k99 99 w' w.heap.size (fun k_ => (P0_0_ k_ ∨ w.heap.size ≤ k_)) v0_ r1 ∧ Below w.heap.size w w' := by
 have hu47 := Try.underlying47
 have hu72 := Try.underlying72
 have hu99 := Try.underlying99
 have am := mk0 (show Kd.V k99 99 w w.heap.size (fun k_ => (P0_0_ k_ ∨ w.heap.size ≤ k_)) (.slice A0_0 l0_0.length c0_0) l0_0 from Kd.V_mono hs0_0 (fun k_ hk => .inl hk))
 have HB := mk0 (Below.refl w.heap.size w)
 have H : ((quorumref8_place.f k l0_0 a1).bind fun bt438 => (if 0 ≤ bt438.1 then (if bt438.1 ≤ (l0_0.length : Int) then ((some (l0_0.drop (bt438.1 : Int).toNat : List (S99))).bind fun au => (if bt438.2 = true then (if bt438.1 < (l0_0.length : Int) then ((quorumref8_Add.f k ((rd_T99 l0_0 bt438.1).f0) ((rd_T99 l0_0 bt438.1).f1) a2_0 a2_1 a2_2).bind fun bt450 => (if 1 ≤ (au.length : Int) then (quorumref8_Put.j0 k bt438.1 (au.drop 1) l0_0 bt450.1 bt450.2) else (none))) else (none)) else (quorumref8_Put.j0 k bt438.1 au l0_0 a1 (([(⟨a2_0, a2_1, a2_2⟩ : S72)] : List (S72)))))) else (none)) else (none))) = some (r1, r2) := h
 clear h
 replace H := ob_ H
 obtain ⟨⟨an, bU⟩, A4, H⟩ := H
 try dsimp only at H
 obtain ⟨aG, bu⟩ : ∃ y_ : List (S72), y_ = (([(⟨a2_0, a2_1, a2_2⟩ : S72)] : List (S72))) := ⟨_, rfl⟩
 replace H : (if 0 ≤ an then (if an ≤ (l0_0.length : Int) then ((some (l0_0.drop (an : Int).toNat : List (S99))).bind fun au => (if bU = true then (if an < (l0_0.length : Int) then ((quorumref8_Add.f k ((rd_T99 l0_0 an).f0) ((rd_T99 l0_0 an).f1) a2_0 a2_1 a2_2).bind fun bt450 => (if 1 ≤ (au.length : Int) then (quorumref8_Put.j0 k an (au.drop 1) l0_0 bt450.1 bt450.2) else (none))) else (none)) else (quorumref8_Put.j0 k an au l0_0 a1 aG))) else (none)) else (none)) = some (r1, r2) := by first | (rw [bu]; with_reducible exact H) | (have H2_ := (Option.bind_some _ _).symm.trans H; rw [bu]; with_reducible exact H2_) | (have H2_ := (Option.bind_some _ _).symm.trans H; with_reducible exact H2_) | with_reducible exact H | (rw [bu]; exact H) | exact H
 have bZ := mk0 bu
 clear bu
 by_cases c5 : 0 ≤ an
 ·rw [if_pos c5] at H
  have cR := eq_true c5
  have cS := decide_eq_true c5
  clear c5
  by_cases c6 : an ≤ (l0_0.length : Int)
  ·rw [if_pos c6] at H
   have cT := eq_true c6
   have cU := decide_eq_true c6
   clear c6
   obtain ⟨au, bv⟩ : ∃ y_ : List (S99), y_ = (l0_0.drop (an : Int).toNat) := ⟨_, rfl⟩
   replace H : (if bU = true then (if an < (l0_0.length : Int) then ((quorumref8_Add.f k ((rd_T99 l0_0 an).f0) ((rd_T99 l0_0 an).f1) a2_0 a2_1 a2_2).bind fun bt450 => (if 1 ≤ (au.length : Int) then (quorumref8_Put.j0 k an (au.drop 1) l0_0 bt450.1 bt450.2) else (none))) else (none)) else (quorumref8_Put.j0 k an au l0_0 a1 aG)) = some (r1, r2) := by first | (rw [bv]; with_reducible exact H) | (have H2_ := (Option.bind_some _ _).symm.trans H; rw [bv]; with_reducible exact H2_) | (have H2_ := (Option.bind_some _ _).symm.trans H; with_reducible exact H2_) | with_reducible exact H | (rw [bv]; exact H) | exact H
   have b0 := mk0 bv
   clear bv
   have HC7 := mk0 H
   clear H
   go_enter Try.func85, Try.ntmps85
   go_upto_if 26 with (first | ((with_reducible refine gate_dst (N := 3) rfl ?_); refine bx_ (N := 3) (cs := #[.slice A0_0 l0_0.length c0_0]) (t := 47) (h := ?_); intro al hg w8 hbox hb; have bh := mk0 (gz_ HB hg); have aM := mk0 (gz_ HB hg); replace am := mk0 (Kd.V_below (Kd.V_elderB (v_ am) al (Nat.le_of_eq hg.symm)) hb); replace HB := mk0 (bt_ (b_ HB) hb); have ab := mk0 (hbox); have dU := aM; clear bh aM; clear hb hbox hg) | ((with_reducible refine gate_dst (N := 5) rfl ?_); refine bx_ (N := 5) (cs := #[.int .i64 a2_0, .string a2_1, .bool a2_2]) (t := 72) (h := ?_); intro ah hg w9 hbox hb; have aM := mk0 (gz_ HB hg); have a9 := mk0 (gz_ HB hg); have be := mk0 (ne1_ ab hg); have bi := mk0 (ne2_ ab hg); replace am := mk0 (Kd.V_below (Kd.V_elderB (v_ am) ah (Nat.le_of_eq hg.symm)) hb); replace ab := mk0 (u_ ab hb); replace HB := mk0 (bt_ (b_ HB) hb); have ad := mk0 (hbox); have dV := a9; have bf := be; have bg := bi; clear aM a9 be bi; clear hb hbox hg) | ((with_reducible refine gate_dst (N := 6) rfl ?_); refine bx_ (N := 6) (cs := #[.slice none 0 0]) (t := 47) (h := ?_); intro ak hg eX hbox hb; have a9 := mk0 (gz_ HB hg); have be := mk0 (gz_ HB hg); have bi := mk0 (ne1_ ab hg); have bp := mk0 (ne2_ ab hg); have bq := mk0 (ne1_ ad hg); have bK := mk0 (ne2_ ad hg); replace am := mk0 (Kd.V_below (Kd.V_elderB (v_ am) ak (Nat.le_of_eq hg.symm)) hb); replace ab := mk0 (u_ ab hb); replace ad := mk0 (u_ ad hb); replace HB := mk0 (bt_ (b_ HB) hb); have af := mk0 (hbox); have dW := be; have aI := bi; have aV := bp; have a5 := bq; have a6 := bK; clear a9 be bi bp bq bK hb hbox hg; have dX := bf.out; have dY := bg.out; have dZ := aI.out; have d0 := aV.out; obtain ⟨b1, b2⟩ := c1_ ab) | ((with_reducible refine gate_callee (f := 44) rfl ?_); refine gL_ (some 15) Try.func44 #[.agg #[.slice A0_0 l0_0.length c0_0], .string a1] (h := ?_); (with_reducible refine (quorumref8_place.calls k _ _ l0_0 a1 an bU _ ?side1 ?side2 A4.out).mono ?_); (case side1 => exact cv_ am); (case side2 => exact (Kd.V_reads' am.out).2.1); rintro e eY ⟨rfl, hb⟩; refine ⟨_, rfl, ?_⟩; replace am := mk0 (Kd.V_below (v_ am) hb); replace ab := mk0 (u_ ab hb); replace ad := mk0 (u_ ad hb); replace af := mk0 (u_ af hb); replace HB := mk0 (bt_ (b_ HB) hb); (try clear hb); have d1 := a5.out; have d2 := a6.out; obtain ⟨b3, b4, b5, b6, b7, b8⟩ := c3_ ad) | ((with_reducible refine gate_dst (N := 20) rfl ?_); refine Kd.R_lit k72 _ 72 ?hg (N := 20) ?hd (xs := ([(⟨a2_0, a2_1, a2_2⟩ : S72)] : List (S72))) (inner := [.int .i64 a2_0, .string a2_1, .bool a2_2]) (ok := fun _ => True) (okp := fun _ => True) ?hr ?hp (fun _ hk => hk) trivial (Below.refl _ _) (Nat.le_refl _) (by simp) ?_; (case hd => rfl); (case hg => rfl); (case hr => first | (go_simp; done) | (go_simp; rfl)); (case hp => exact (Reps.c3 (show Kd.M k72 _ _ _ (⟨a2_0, a2_1, a2_2⟩ : S72) [.int .i64 a2_0, .string a2_1, .bool a2_2] from (k72_mkM _ _ _ (⟨a2_0, a2_1, a2_2⟩ : S72) )) (Reps.none _ _))); intro eT eZ ho18 hb hg_ hnew_; clear hg_ hnew_; (first | rw [← bZ.out] at ho18 | (simp only [Int.reduceToNat] at ho18; rw [← bZ.out] at ho18)); have br := mk0 (Kd.R_lower (Kd.R_newB (Kd.R_newM (M := fun k_ => (w.heap.size ≤ k_)) ho18 (bz_ (b_ HB)) (fun k_ h_ => h_)) (g := ah) (o := .cells #[.int .i64 a2_0, .string a2_1, .bool a2_2] 72 (0, 0)) (h_ ad)) (bz_ (b_ HB))); replace am := mk0 (Kd.V_elder' (v_ am) (Kd.R_base ho18) hb); replace ab := mk0 (u_ ab hb); replace ad := mk0 (u_ ad hb); replace af := mk0 (u_ af hb); replace HB := mk0 (bt_ (b_ HB) hb); have aA := br; clear br hb ho18; obtain ⟨aW, aX, cV⟩ := Kd.R_slice aA.out; subst cV) | ((with_reducible refine gate_dst (N := 10) rfl ?_); refine bx_ (N := 10) (cs := #[.string (⟨#[]⟩ : ByteArray), .slice none 0 0]) (t := 99) (h := ?_); intro aa hg d3 hbox hb; have bi := mk0 (gz_ HB hg); have bp := mk0 (gz_ HB hg); have bq := mk0 (ne1_ ab hg); have bK := mk0 (ne2_ ab hg); have cz := mk0 (ne1_ ad hg); have cA := mk0 (ne2_ ad hg); have cB := mk0 (ne1_ af hg); have cC := mk0 (ne2_ af hg); replace am := mk0 (Kd.V_below (Kd.V_elderB (v_ am) aa (Nat.le_of_eq hg.symm)) hb); replace aA := mk0 (Kd.R_below (r_ aA) hb); replace ab := mk0 (u_ ab hb); replace ad := mk0 (u_ ad hb); replace af := mk0 (u_ af hb); replace HB := mk0 (bt_ (b_ HB) hb); have ac := mk0 (hbox); have d4 := bp; have aq := bq; have aJ := bK; have ap := cz; have aK := cA; have ar := cB; have ax := cC; clear bi bp bq bK cz cA cB cC hb hbox hg; have d5 := aJ.out; have d6 := aq.out; have d7 := aK.out; have d8 := ap.out; have d9 := ax.out; have ea := ar.out; obtain ⟨b9, ca, cb, cc⟩ := c2_ ac) | ((with_reducible refine gate_store (t := 99) (p := 10) rfl ?_); refine sv_ (t := 99) (p := 10) (w1 := ((d3.setCell ⟨aa, 0, none⟩ (.string a1)).setCell ⟨aa, 1, none⟩ (.slice aW aG.length aX))) (h := ?_); intro bL hw; have bE : Fc (Kd.V k99 99 bL w.heap.size (fun k_ => (P0_0_ k_ ∨ w.heap.size ≤ k_) ∧ some k_ ≠ (.slice aW aG.length aX : Value).ownBlock ∧ k_ ≠ al ∧ k_ ≠ ah ∧ k_ ≠ ak ∧ k_ ≠ aa) (.slice A0_0 l0_0.length c0_0) l0_0) := ⟨(by rw [hw]; exact (v2_ (Kd.V_mono (Kd.V_far (p := ⟨aa, 1, none⟩) (Kd.V_far (p := ⟨aa, 0, none⟩) (Kd.V_mono am.out (fun k_ hk => (⟨hk, hk.2⟩ : _ ∧ k_ ≠ aa))) (fun _ hk => hk.2) (.string a1)) (fun _ hk => hk.2) (.slice aW aG.length aX)) (fun _ hk => ⟨hk.1.1.1.1.1.1, ⟨hk.1.1.2, ⟨hk.1.1.1.1.1.2, ⟨hk.1.1.1.1.2, ⟨hk.1.1.1.2, hk.1.2⟩⟩⟩⟩⟩))))⟩; have br : Fc (Kd.R k72 72 bL w.heap.size (fun k_ => (w.heap.size ≤ k_) ∧ k_ ≠ ah) (.slice aW aG.length aX) aG) := ⟨(by rw [hw]; exact (r2_ (Kd.R_mono (Kd.R_far (p := ⟨aa, 1, none⟩) (Kd.R_far (p := ⟨aa, 0, none⟩) (Kd.R_types aA.out ac.out (by decide)) (fun _ hk => hk.2) (.string a1)) (fun _ hk => hk.2) (.slice aW aG.length aX)) (fun _ hk => ⟨hk.1.1.1, hk.1.2⟩))))⟩; have n2_ : Fc (bL.heap[al]? = some (.cells #[.slice A0_0 l0_0.length c0_0] 47 (0, 0))) := ⟨(by rw [hw]; exact (fa_ (fa_ (h_ ab) aq.out) aq.out))⟩; have bh : Fc (bL.heap[ah]? = some (.cells #[.int .i64 a2_0, .string a2_1, .bool a2_2] 72 (0, 0))) := ⟨(by rw [hw]; exact (fa_ (fa_ (h_ ad) ap.out) ap.out))⟩; have aM : Fc (bL.heap[ak]? = some (.cells #[.slice none 0 0] 47 (0, 0))) := ⟨(by rw [hw]; exact (fa_ (fa_ (h_ af) ar.out) ar.out))⟩; have a9 : Fc (bL.heap[aa]? = some (.cells #[.string a1, .slice aW aG.length aX] 99 (0, 0))) := ⟨(by rw [hw]; exact (pu_ (cs := #[.string a1, .slice none 0 0]) (pu_ (cs := #[.string (⟨#[]⟩ : ByteArray), .slice none 0 0]) (h_ ac))))⟩; have be : Fc (Below w.heap.size w bL) := ⟨(by rw [hw]; exact (b_ HB))⟩; clear hw am aA ab ad af ac HB; have am := bE; have aA := br; have ab := n2_; have ad := bh; have af := aM; have ac := a9; have HB := be; clear bE br n2_ bh aM a9 be; obtain ⟨cd, ce⟩ := c1_ ab; have cf : (an : Int) ≤ ((l0_0.length : Int) : Int) := od_; obtain ⟨i027, hi027, _, hsz27, _⟩ := info_parts info99; have hroom27 : l0_0.length ≤ c0_0 := (Kd.V_reads' am.out).2.1; have hC27 : Kd.F k99 _ _ A0_0 l0_0.length l0_0 := (Kd.V_at (base := w.heap.size) am.out).2.2; have cD : (0 : Int) ≤ (an : Int) := od_; have hcut27 := cut_from (P := Try.prog) 45 99 .i64 Try.underlying45 hi027 2 hsz27 A0_0 l0_0.length c0_0 an cD cf; have hr27 := Kd.F_cut (m := (an : Int).toNat) (c := c0_0) hC27 (by omega) hroom27; obtain ⟨bT, hA27⟩ : ∃ A1, A1 = (if c0_0 = (an : Int).toNat then A0_0 else (A0_0 : Option Addr).map (·.add ((an : Int).toNat * 2))) := ⟨_, rfl⟩; obtain ⟨bF, hc27⟩ : ∃ c1, c1 = c0_0 - (an : Int).toNat := ⟨_, rfl⟩; have bM : au.length = l0_0.length - (an : Int).toNat := (by rw [b0.out, List.length_drop] <;> omega); rw [show (l0_0).drop (an : Int).toNat = au from b0.out.symm] at hr27; replace hr27 : Kd.F k99 _ _ bT au.length au := (by rw [hA27]; exact hr27); rw [← bM, ← hA27, ← hc27] at hcut27; have aY := mk0 (show Kd.V k99 99 _ w.heap.size _ (.slice bT au.length bF) au from Kd.V_mk (by rw [bM, hc27]; exact Nat.sub_le_sub_right hroom27 _) hr27); have HC448 := mk0 (show au.length ≤ bF from by rw [bM, hc27]; exact Nat.sub_le_sub_right hroom27 _); clear hr27 hC27 hroom27 hi027 hsz27 hc27; have KY27 := mk0 bM; have KA27 := mk0 hA27; clear bM hA27; replace cf := eq_true cf))
   (try simp only [Act.put, List.setIfInBounds_toArray, List.set_cons_zero, List.set_cons_succ])
   go_cut [11] (fun v11 wc => ∃ (kq : Nat) (aU : List (S99)) (ai : ByteArray) (ag : List (S72)) (ba : Value), Fc (quorumref8_Put.j0 kq an aU l0_0 ai ag = some (r1, r2)) ∧ Fc (kq ≤ k) ∧ Fc (Kd.V k99 99 wc w.heap.size (fun k_ => (P0_0_ k_ ∨ w.heap.size ≤ k_) ∧ some k_ ≠ (ba : Value).ownBlock ∧ k_ ≠ al ∧ k_ ≠ ah ∧ k_ ≠ ak ∧ k_ ≠ aa) v11 aU) ∧ Fc (Kd.V k99 99 wc w.heap.size (fun k_ => (P0_0_ k_ ∨ w.heap.size ≤ k_) ∧ some k_ ≠ (ba : Value).ownBlock ∧ k_ ≠ al ∧ k_ ≠ ah ∧ k_ ≠ ak ∧ k_ ≠ aa) (.slice A0_0 l0_0.length c0_0) l0_0) ∧ Fc (Kd.R k72 72 wc w.heap.size (fun k_ => (w.heap.size ≤ k_) ∧ k_ ≠ ah) ba ag) ∧ Fc (wc.heap[al]? = some (.cells #[(.slice A0_0 l0_0.length c0_0)] 47 (0, 0))) ∧ Fc (wc.heap[ah]? = some (.cells #[.int .i64 a2_0, .string a2_1, .bool a2_2] 72 (0, 0))) ∧ Fc (wc.heap[ak]? = some (.cells #[(.slice none 0 0)] 47 (0, 0))) ∧ Fc (wc.heap[aa]? = some (.cells #[.string ai, ba] 99 (0, 0))) ∧ Fc (Below w.heap.size w wc))
   case first =>
    have H := HC7.out
    clear HC7
    by_cases cu : bU = true
    ·subst cu
     rw [if_pos rfl] at H
     by_cases cv : an < (l0_0.length : Int)
     ·rw [if_pos cv] at H
      have cg := decide_eq_true cv
      clear cv
      (first | rw [cg] | (simp only [i64_w, i32_w]; rw [cg]) | skip)
      replace H := ob_ H
      obtain ⟨⟨aD, aw⟩, eb, H⟩ := H
      try dsimp only at H
      by_cases ch : 1 ≤ (au.length : Int)
      ·rw [if_pos ch] at H
       have ec := eq_true ch
       have ed := decide_eq_true ch
       clear ch
       obtain ⟨bj, bw⟩ : ∃ y_ : List (S99), y_ = (au.drop 1) := ⟨_, rfl⟩
       replace H : (quorumref8_Put.j0 k an bj l0_0 aD aw) = some (r1, r2) := by first | (rw [bw]; with_reducible exact H) | (have H2_ := (Option.bind_some _ _).symm.trans H; rw [bw]; with_reducible exact H2_) | (have H2_ := (Option.bind_some _ _).symm.trans H; with_reducible exact H2_) | with_reducible exact H | (rw [bw]; exact H) | exact H
       have ci := mk0 bw
       clear bw
       have H' := mk0 H
       clear H
       try go_wp2
       replace am := mk0 (Kd.V_drew am.out)
       replace aA := mk0 (Rd_ aA.out)
       replace aY := mk0 (Kd.V_drew aY.out)
       replace ab := mk0 (bD_ ab.out)
       replace ad := mk0 (bD_ ad.out)
       replace af := mk0 (bD_ af.out)
       replace ac := mk0 (bD_ ac.out)
       replace HB := mk0 (b1_ HB.out)
       have bN : 0 ≤ (an : Int) := od_
       have bO : an < (l0_0.length : Int) := od_
       have HN_ := mk0 (show 0 < l0_0.length from by have h1_ := bN; have h2_ := bO; omega)
       obtain ⟨bk, bG, bH, cW, bP, bx, bQ, bR⟩ := at_T99 (Kd.V_reads' am.out).2.2 an bN bO
       cases cW
       obtain ⟨ce449, hce449, hMe449, hcc449⟩ := Kd.V_get am.out z99 an bN (by first | exact bO | exact od_ | (have e_ := (Kd.V_reads' am.out).1; omega))
       obtain ⟨ua449_1, uc449_1, rfl, ul449_1, ge449_1⟩ := k99_openF hMe449
       have hv449_1 := hcc449 1 _ rfl
       rw [add_field _ _ 1 (by omega)] at hv449_1
       replace hv449_1 := Option.some.inj (hv449_1.symm.trans bx)
       injection hv449_1 with hva_ hvn_ hvc_
       rw [hva_] at ge449_1
       rw [hvc_] at ul449_1
       have HL449_1 := mk0 (show Kd.V k72 72 _ w.heap.size _ _ ((rd_T99 l0_0 an).f1) from Kd.V_mk ul449_1 ge449_1)
       clear hva_ hvn_ hvc_ ge449_1 ul449_1 hcc449 hce449
       have bb := mk0 bR
       have cj := mk0 bQ
       clear bR bQ
       replace bN := eq_true bN
       replace bO := eq_true bO
       refine start_ (n := 8) (S := fun w' => w'.cell? ⟨al, 0, none⟩ = some (.slice (some bk) l0_0.length c0_0) ∧ w'.cell? ⟨ah, 0, none⟩ = some (.int .i64 a2_0) ∧ w'.cell? ⟨ah, 1, none⟩ = some (.string a2_1) ∧ w'.cell? ⟨ah, 2, none⟩ = some (.bool a2_2) ∧ w'.cell? (bk.add ((an).toNat * 2)) = some (.string ((rd_T99 l0_0 an).f0)) ∧ w'.cell? ⟨(bk.add ((an).toNat * 2)).block, (bk.add ((an).toNat * 2)).off + 1, none⟩ = some (.slice bG ((rd_T99 l0_0 an).f1).length bH)) (ds := []) (bt 8 0) (by kernel_rfl) rfl rfl ⟨bk_ ab 0, bk_ ad 0, bk_ ad 1, bk_ ad 2, bP, bx⟩ (fun hHeld => ?_); refine with_tabW quorumref8_Put.tab5 quorumref8_Put.bits5 (fun HT_ HW_ => ?_)
       generalize bL.drew = e0 at am aA aY ab ad af ac HB HL449_1 bb bP bx hHeld ⊢
       refine pq_ HT_.out 0 27 (bt 8 1) (h := ?_)
       refine pq_ HT_.out 2 29 (bt 8 5) (h := ?_)
       refine tq6_ HT_.out HW_.out 1 28 (bt 8 7) hHeld (h := ?_)
       refine pq_ HT_.out 3 30 (bt 8 15) (h := ?_)
       refine tq6_ HT_.out HW_.out 4 31 (bt 8 31) hHeld (h := ?_)
       refine tq6_ HT_.out HW_.out 5 32 (bt 8 63) hHeld (h := ?_)
       refine one_ (i := 6) (N := some 33) (bt 8 127) rfl rfl (one_of HT_.out (by kernel_rfl)) (by decide) (fun K hK => ?_)
       refine goes_ Try.func130 (by kernel_rfl) rfl #[.agg #[.string ((rd_T99 l0_0 an).f0), .slice bG ((rd_T99 l0_0 an).f1).length bH], .agg #[.int .i64 a2_0, .string a2_1, .bool a2_2]] (by rfl) rfl rfl gs_ ?_
       with_reducible refine (quorumref8_Add.calls k ((rd_T99 l0_0 an).f0) _ _ ((rd_T99 l0_0 an).f1) a2_0 a2_1 a2_2 aD aw _ ?side1 ?side2 eb.out).mono ?_
       (case side1 => repeat (first | exact (by repeat (first | (with_reducible exact bb.out) | (with_reducible refine Kd.C_alloc ?_ _) | (with_reducible refine Kd.C_drewN ?_ _) | (with_reducible refine Kd.C_drew ?_) | exact bb.out)) | (with_reducible refine Kd.C_alloc ?_ _) | (with_reducible refine Kd.C_drewN ?_ _) | (with_reducible refine Kd.C_drew ?_)))
       (case side2 => exact cj.out)
       rintro e bl ⟨eU, rfl, ho0, hb⟩
       have HS4_ := (hb.cell (World.block_lt_of_cell? _ _ hHeld.2.2.2.2.1)).trans hHeld.2.2.2.2.1
       have HS5_ := (hb.cell (World.block_lt_of_cell? _ _ hHeld.2.2.2.2.2)).trans hHeld.2.2.2.2.2
       refine ⟨_, rfl, ?_⟩
       have aM := mk0 (Kd.R_lower (Kd.R_newB (Kd.R_new' (Kd.R_newM (M := fun k_ => (w.heap.size ≤ k_)) ho0 (bz_ (b_ HB)) (fun k_ h_ => h_)) (Kd.R_lt (r_ aA))) (g := ah) (o := .cells #[.int .i64 a2_0, .string a2_1, .bool a2_2] 72 (0, 0)) (h_ ad)) (bz_ (b_ HB)))
       replace am := mk0 (Kd.V_elder' (v_ am) (Kd.R_base ho0) hb)
       replace aA := mk0 (Kd.R_elder' (r_ aA) (Kd.R_base ho0) hb)
       replace aY := mk0 (Kd.V_elder' (v_ aY) (Kd.R_base ho0) hb)
       replace HL449_1 := mk0 (Kd.V_elder' (v_ HL449_1) (Kd.R_base ho0) hb)
       replace ab := mk0 (u_ ab hb)
       replace ad := mk0 (u_ ad hb)
       replace af := mk0 (u_ af hb)
       replace ac := mk0 (u_ ac hb)
       replace bb := mk0 (Kd.C_below (by (with_reducible repeat (first | refine Kd.C_drewN ?_ _ | refine Kd.C_drew ?_ | refine Kd.C_alloc ?_ _)); exact bb.out) hb)
       replace HB := mk0 (bt_ (b_ HB) hb)
       have bz := aM
       clear aM
       (try clear hb)
       (try clear hk)
       (try clear hi)
       (try clear ho0)
       obtain ⟨ay, az, cE⟩ := Kd.R_slice bz.out
       (first | subst cE | (injection cE with f1_ f2_ f3_; have f4_ := f1_.symm; have f5_ := f3_.symm; clear f1_ f2_ f3_; subst f4_; subst f5_))
       refine hK.out _ _ ⟨bk_ ab 0, bk_ ad 0, bk_ ad 1, bk_ ad 2, HS4_, HS5_⟩ (fun hHeld => ?_)
       clear hK K
       refine norm_ (a' := ?_) ?_ ?_
       rotate_left
       ·show Act.put _ (some 33) _ = _
        simp only [z_]
        rfl
       refine one_ (i := 7) (N := none) (bt 8 255) rfl rfl (one_of HT_.out (by kernel_rfl)) (by decide) (fun K hK => ?_)
       have hs34 : bl.cell? ⟨aa, 0, none⟩ = some (.string a1) := bk_ ac 0
       have hfs34 := blk_frozen ac.out 0
       have cX := aq.out
       have cY := ap.out
       have cZ := ar.out
       have c0 := aJ.out
       have c4 := aK.out
       have c7 := ax.out
       have hs36 : bl.cell? ⟨aa, 1, none⟩ = some (.slice aW aG.length aX) := bk_ ac 1
       have hfs36 := blk_frozen ac.out 1
       have c8 := aq.out
       have c9 := ap.out
       have da := ar.out
       have db := aJ.out
       have dc := aK.out
       have dd := ax.out
       refine skip_ (w1 := ?_) (by rfl) rfl ?_ ?_
       rotate_left
       ·go_simp
        rfl
       refine hK.out _ _ ⟨(cf_ aq.out (cf_ aq.out hHeld.1)), (cf_ ap.out (cf_ ap.out hHeld.2.1)), (cf_ ap.out (cf_ ap.out hHeld.2.2.1)), (cf_ ap.out (cf_ ap.out hHeld.2.2.2.1)), ((cell_far (p := ⟨aa, _, none⟩) (by first | exact (HTabU.v_away am.out HN_.out (by decide) (fun _ hk => hk.1.2.2.2.2.2)) | (rw [add_block]; exact (HTabU.v_away am.out HN_.out (by decide) (fun _ hk => hk.1.2.2.2.2.2))) | (show (Addr.add _ _).block ≠ _; rw [add_block]; exact (HTabU.v_away am.out HN_.out (by decide) (fun _ hk => hk.1.2.2.2.2.2))) | (dsimp only; exact (HTabU.v_away am.out HN_.out (by decide) (fun _ hk => hk.1.2.2.2.2.2)))) _).trans (((cell_far (p := ⟨aa, _, none⟩) (by first | exact (HTabU.v_away am.out HN_.out (by decide) (fun _ hk => hk.1.2.2.2.2.2)) | (rw [add_block]; exact (HTabU.v_away am.out HN_.out (by decide) (fun _ hk => hk.1.2.2.2.2.2))) | (show (Addr.add _ _).block ≠ _; rw [add_block]; exact (HTabU.v_away am.out HN_.out (by decide) (fun _ hk => hk.1.2.2.2.2.2))) | (dsimp only; exact (HTabU.v_away am.out HN_.out (by decide) (fun _ hk => hk.1.2.2.2.2.2)))) _).trans hHeld.2.2.2.2.1))), ((cell_far (p := ⟨aa, _, none⟩) (by first | exact (HTabU.v_away am.out HN_.out (by decide) (fun _ hk => hk.1.2.2.2.2.2)) | (rw [add_block]; exact (HTabU.v_away am.out HN_.out (by decide) (fun _ hk => hk.1.2.2.2.2.2))) | (show (Addr.add _ _).block ≠ _; rw [add_block]; exact (HTabU.v_away am.out HN_.out (by decide) (fun _ hk => hk.1.2.2.2.2.2))) | (dsimp only; exact (HTabU.v_away am.out HN_.out (by decide) (fun _ hk => hk.1.2.2.2.2.2)))) _).trans (((cell_far (p := ⟨aa, _, none⟩) (by first | exact (HTabU.v_away am.out HN_.out (by decide) (fun _ hk => hk.1.2.2.2.2.2)) | (rw [add_block]; exact (HTabU.v_away am.out HN_.out (by decide) (fun _ hk => hk.1.2.2.2.2.2))) | (show (Addr.add _ _).block ≠ _; rw [add_block]; exact (HTabU.v_away am.out HN_.out (by decide) (fun _ hk => hk.1.2.2.2.2.2))) | (dsimp only; exact (HTabU.v_away am.out HN_.out (by decide) (fun _ hk => hk.1.2.2.2.2.2)))) _).trans hHeld.2.2.2.2.2)))⟩ (fun hHeld => ?_)
       clear hK K
       refine done_ (done_of HT_.out (by kernel_rfl)) ?_
       have bE : Fc (Kd.V k99 99 ((bl.setCell ⟨aa, 0, none⟩ (.string aD)).setCell ⟨aa, 1, none⟩ (.slice ay aw.length az)) w.heap.size (fun k_ => (P0_0_ k_ ∨ w.heap.size ≤ k_) ∧ some k_ ≠ (.slice aW aG.length aX : Value).ownBlock ∧ some k_ ≠ (.slice ay aw.length az : Value).ownBlock ∧ k_ ≠ al ∧ k_ ≠ ah ∧ k_ ≠ ak ∧ k_ ≠ aa) (.slice (some bk) l0_0.length c0_0) l0_0) := ⟨by (with_reducible repeat (first | apply Kd.V_alloc | apply Kd.V_drewN | apply Kd.V_drew)); exact Kd.V_mono (Kd.V_far (p := ⟨aa, 1, none⟩) (Kd.V_far (p := ⟨aa, 0, none⟩) (Kd.V_mono am.out (fun k_ hk => (⟨hk, hk.1.2.2.2.2.2⟩ : _ ∧ k_ ≠ aa))) (fun _ hk => hk.2) (.string aD)) (fun _ hk => hk.2) (.slice ay aw.length az)) (fun _ hk => ⟨hk.1.1.1, ⟨hk.1.1.2.1, ⟨hk.1.2, ⟨hk.1.1.2.2.1, ⟨hk.1.1.2.2.2.1, ⟨hk.1.1.2.2.2.2.1, hk.1.1.2.2.2.2.2⟩⟩⟩⟩⟩⟩)⟩
       have br : Fc (Kd.R k72 72 ((bl.setCell ⟨aa, 0, none⟩ (.string aD)).setCell ⟨aa, 1, none⟩ (.slice ay aw.length az)) w.heap.size (fun k_ => (w.heap.size ≤ k_) ∧ some k_ ≠ (.slice ay aw.length az : Value).ownBlock ∧ k_ ≠ ah) (.slice aW aG.length aX) aG) := ⟨by (with_reducible repeat (first | apply Ra_ | apply Rn_ | apply Rd_)); exact Kd.R_mono (Kd.R_far (p := ⟨aa, 1, none⟩) (Kd.R_far (p := ⟨aa, 0, none⟩) (Kd.R_types aA.out ac.out (by decide)) (fun _ hk => hk.2) (.string aD)) (fun _ hk => hk.2) (.slice ay aw.length az)) (fun _ hk => ⟨hk.1.1.1, ⟨hk.1.2, hk.1.1.2⟩⟩)⟩
       have n2_ : Fc (Kd.V k99 99 ((bl.setCell ⟨aa, 0, none⟩ (.string aD)).setCell ⟨aa, 1, none⟩ (.slice ay aw.length az)) w.heap.size (fun k_ => (P0_0_ k_ ∨ w.heap.size ≤ k_) ∧ some k_ ≠ (.slice aW aG.length aX : Value).ownBlock ∧ some k_ ≠ (.slice ay aw.length az : Value).ownBlock ∧ k_ ≠ al ∧ k_ ≠ ah ∧ k_ ≠ ak ∧ k_ ≠ aa) (.slice bT au.length bF) au) := ⟨by (with_reducible repeat (first | apply Kd.V_alloc | apply Kd.V_drewN | apply Kd.V_drew)); exact Kd.V_mono (Kd.V_far (p := ⟨aa, 1, none⟩) (Kd.V_far (p := ⟨aa, 0, none⟩) (Kd.V_mono aY.out (fun k_ hk => (⟨hk, hk.1.2.2.2.2.2⟩ : _ ∧ k_ ≠ aa))) (fun _ hk => hk.2) (.string aD)) (fun _ hk => hk.2) (.slice ay aw.length az)) (fun _ hk => ⟨hk.1.1.1, ⟨hk.1.1.2.1, ⟨hk.1.2, ⟨hk.1.1.2.2.1, ⟨hk.1.1.2.2.2.1, ⟨hk.1.1.2.2.2.2.1, hk.1.1.2.2.2.2.2⟩⟩⟩⟩⟩⟩)⟩
       have bh : Fc (Kd.V k72 72 ((bl.setCell ⟨aa, 0, none⟩ (.string aD)).setCell ⟨aa, 1, none⟩ (.slice ay aw.length az)) w.heap.size (fun k_ => (P0_0_ k_ ∨ w.heap.size ≤ k_) ∧ some k_ ≠ (.slice aW aG.length aX : Value).ownBlock ∧ some k_ ≠ (.slice ay aw.length az : Value).ownBlock ∧ k_ ≠ al ∧ k_ ≠ ah ∧ k_ ≠ ak ∧ k_ ≠ aa) (.slice bG ((rd_T99 l0_0 an).f1).length bH) ((rd_T99 l0_0 an).f1)) := ⟨by (with_reducible repeat (first | apply Kd.V_alloc | apply Kd.V_drewN | apply Kd.V_drew)); exact Kd.V_mono (Kd.V_far (p := ⟨aa, 1, none⟩) (Kd.V_far (p := ⟨aa, 0, none⟩) (Kd.V_mono HL449_1.out (fun k_ hk => (⟨hk, hk.1.2.2.2.2.2⟩ : _ ∧ k_ ≠ aa))) (fun _ hk => hk.2) (.string aD)) (fun _ hk => hk.2) (.slice ay aw.length az)) (fun _ hk => ⟨hk.1.1.1, ⟨hk.1.1.2.1, ⟨hk.1.2, ⟨hk.1.1.2.2.1, ⟨hk.1.1.2.2.2.1, ⟨hk.1.1.2.2.2.2.1, hk.1.1.2.2.2.2.2⟩⟩⟩⟩⟩⟩)⟩
       have aM : Fc (Kd.R k72 72 ((bl.setCell ⟨aa, 0, none⟩ (.string aD)).setCell ⟨aa, 1, none⟩ (.slice ay aw.length az)) w.heap.size (fun k_ => (w.heap.size ≤ k_) ∧ some k_ ≠ (.slice aW aG.length aX : Value).ownBlock ∧ k_ ≠ ah) (.slice ay aw.length az) aw) := ⟨by (with_reducible repeat (first | apply Ra_ | apply Rn_ | apply Rd_)); exact Kd.R_mono (Kd.R_far (p := ⟨aa, 1, none⟩) (Kd.R_far (p := ⟨aa, 0, none⟩) (Kd.R_types bz.out ac.out (by decide)) (fun _ hk => hk.2) (.string aD)) (fun _ hk => hk.2) (.slice ay aw.length az)) (fun _ hk => ⟨hk.1.1.1.1, ⟨hk.1.1.2, hk.1.2⟩⟩)⟩
       have a9 : Fc (((bl.setCell ⟨aa, 0, none⟩ (.string aD)).setCell ⟨aa, 1, none⟩ (.slice ay aw.length az)).heap[al]? = some (.cells #[.slice (some bk) l0_0.length c0_0] 47 (0, 0))) := ⟨(fa_ (fa_ (h_ ab) aq.out) aq.out)⟩
       have be : Fc (((bl.setCell ⟨aa, 0, none⟩ (.string aD)).setCell ⟨aa, 1, none⟩ (.slice ay aw.length az)).heap[ah]? = some (.cells #[.int .i64 a2_0, .string a2_1, .bool a2_2] 72 (0, 0))) := ⟨(fa_ (fa_ (h_ ad) ap.out) ap.out)⟩
       have bi : Fc (((bl.setCell ⟨aa, 0, none⟩ (.string aD)).setCell ⟨aa, 1, none⟩ (.slice ay aw.length az)).heap[ak]? = some (.cells #[.slice none 0 0] 47 (0, 0))) := ⟨(fa_ (fa_ (h_ af) ar.out) ar.out)⟩
       have bp : Fc (((bl.setCell ⟨aa, 0, none⟩ (.string aD)).setCell ⟨aa, 1, none⟩ (.slice ay aw.length az)).heap[aa]? = some (.cells #[.string aD, .slice ay aw.length az] 99 (0, 0))) := ⟨(pu_ (cs := #[.string aD, .slice aW aG.length aX]) (pu_ (cs := #[.string a1, .slice aW aG.length aX]) (h_ ac)))⟩
       have bq : Fc (Below w.heap.size w ((bl.setCell ⟨aa, 0, none⟩ (.string aD)).setCell ⟨aa, 1, none⟩ (.slice ay aw.length az))) := ⟨b_ HB⟩
       (try clear am)
       (try clear aA)
       (try clear aY)
       (try clear HL449_1)
       (try clear bz)
       (try clear ab)
       (try clear ad)
       (try clear af)
       (try clear ac)
       (try clear HB)
       generalize ((bl.setCell ⟨aa, 0, none⟩ (.string aD)).setCell ⟨aa, 1, none⟩ (.slice ay aw.length az)) = e1 at bE br n2_ bh aM a9 be bi bp bq ⊢
       have am := bE
       have aA := br
       have aY := n2_
       have HL449_1 := bh
       have bz := aM
       have ab := a9
       have ad := be
       have af := bi
       have ac := bp
       have HB := bq
       clear bE br n2_ bh aM a9 be bi bp bq
       have cK : (1 : Int) ≤ ((au.length : Int) : Int) := od_
       obtain ⟨i038, hi038, _, hsz38, _⟩ := info_parts info99
       have hroom38 : au.length ≤ bF := (Kd.V_reads' aY.out).2.1
       have hC38 : Kd.F k99 _ _ bT au.length au := (Kd.V_at (base := w.heap.size) aY.out).2.2
       have hcut38 := cut_from (P := Try.prog) 45 99 .i64 Try.underlying45 hi038 2 hsz38 bT au.length bF 1 (by omega) cK
       have hr38 := Kd.F_cut (m := (1 : Int).toNat) (c := bF) hC38 (by omega) hroom38
       obtain ⟨de, hA38⟩ : ∃ A1, A1 = (if bF = (1 : Int).toNat then bT else (bT : Option Addr).map (·.add ((1 : Int).toNat * 2))) := ⟨_, rfl⟩
       obtain ⟨df, hc38⟩ : ∃ c1, c1 = bF - (1 : Int).toNat := ⟨_, rfl⟩
       have bS : bj.length = au.length - (1 : Int).toNat := (by rw [ci.out, List.length_drop] <;> omega)
       rw [show (au).drop (1 : Int).toNat = bj from ci.out.symm] at hr38
       replace hr38 : Kd.F k99 _ _ de bj.length bj := (by rw [hA38]; exact hr38)
       rw [← bS, ← hA38, ← hc38] at hcut38
       have cL := mk0 (show Kd.V k99 99 _ w.heap.size _ (.slice de bj.length df) bj from Kd.V_mk (by rw [bS, hc38]; exact Nat.sub_le_sub_right hroom38 _) hr38)
       have HC458 := mk0 (show bj.length ≤ df from by rw [bS, hc38]; exact Nat.sub_le_sub_right hroom38 _)
       clear hr38 hC38 hroom38 hi038 hsz38 hc38
       have KY38 := mk0 bS
       have KA38 := mk0 hA38
       clear bS hA38
       replace cK := eq_true cK
       try go_wp2
       go_meet
       case rel => exact ⟨_, (bj), (aD), (aw), (.slice ay aw.length az), H', ⟨by first | omega | exact Nat.le_refl _⟩, ⟨by (with_reducible repeat (first | apply Kd.V_alloc | apply Kd.V_drewN | apply Kd.V_drew)); exact Kd.V_mono cL.out (fun _ hk => ⟨hk.1, ⟨hk.2.2.1, ⟨hk.2.2.2.1, ⟨hk.2.2.2.2.1, ⟨hk.2.2.2.2.2.1, hk.2.2.2.2.2.2⟩⟩⟩⟩⟩)⟩, ⟨by (with_reducible repeat (first | apply Kd.V_alloc | apply Kd.V_drewN | apply Kd.V_drew)); exact Kd.V_mono am.out (fun _ hk => ⟨hk.1, ⟨hk.2.2.1, ⟨hk.2.2.2.1, ⟨hk.2.2.2.2.1, ⟨hk.2.2.2.2.2.1, hk.2.2.2.2.2.2⟩⟩⟩⟩⟩)⟩, ⟨by (with_reducible repeat (first | apply Ra_ | apply Rn_ | apply Rd_)); exact Kd.R_mono bz.out (fun _ hk => ⟨hk.1, hk.2.2⟩)⟩, ⟨h_ ab⟩, ⟨h_ ad⟩, ⟨h_ af⟩, ⟨h_ ac⟩, ⟨b_ HB⟩⟩
      ·rw [if_neg ch] at H
       exact absurd H (by simp)
     ·rw [if_neg cv] at H
      exact absurd H (by simp)
    ·replace cu := Bool.eq_false_iff.mpr cu
     subst cu
     rw [if_neg nf_] at H
     have H' := mk0 H
     clear H
     go_wp2
     go_meet
     case rel => exact ⟨_, (au), (a1), (aG), (.slice aW aG.length aX), H', ⟨by first | omega | exact Nat.le_refl _⟩, ⟨v2_ aY.out⟩, ⟨v2_ am.out⟩, ⟨r2_ aA.out⟩, ⟨h_ ab⟩, ⟨h_ ad⟩, ⟨h_ af⟩, ⟨h_ ac⟩, ⟨b_ HB⟩⟩
   case rest =>
    clear HC7
    try clear c5
    try clear cR
    try clear cS
    try clear c6
    try clear cT
    try clear cU
    try clear bF
    try clear cf
    try clear b1
    try clear b3
    try clear b4
    try clear b5
    try clear b9
    try clear ca
    try clear cd
    try clear b2
    try clear b6
    try clear b7
    try clear b8
    try clear cb
    try clear cc
    try clear ce
    try clear cD
    try clear cf
    obtain ⟨kq, aU, ai, ag, ba, HA, e2, ao, ae, aj, ab, ad, af, ac, HB⟩ := hcut
    cases kq with
    | zero => exact absurd HA.out (by simp [quorumref8_Put.j0])
    | succ bs =>
     have H := HA.out
     clear HA
     simp only [quorumref8_Put.j0] at H
     as_aux_lemma =>
      replace H := ob_ H
      obtain ⟨dg, cM, H⟩ := H
      try dsimp only at H
      by_cases cw : dg = true
      ·subst cw
       rw [if_pos rfl] at H
       replace H := ob_ H
       obtain ⟨ck, dh, H⟩ := H
       try dsimp only at H
       by_cases bY : ck ≥ 64
       ·rw [if_pos bY] at H
        have cN := decide_eq_true bY
        clear bY
        simp only [Option.some.injEq, Prod.mk.injEq] at H
        obtain ⟨rfl, rfl⟩ := H
        have ee := aJ.out
        have ef := aq.out
        have eg := aK.out
        have eh := ap.out
        have ei := ax.out
        have ej := ar.out
        obtain ⟨di, dj, dk, dl⟩ := c2_ ac
        obtain ⟨dm, dn, dp⟩ := Kd.R_slice aj.out
        subst dp
        go_wp2_with (first | ((with_reducible refine gate_callee (f := 92) rfl ?_); refine gL_ (some 37) Try.func92 #[.agg #[.string ai, .slice dm ag.length dn]] (h := ?_); (with_reducible refine (quorumref8_Chain.calls bs ai _ _ ag true _ ?side1 ?side2 cM.out).mono ?_); (case side1 => exact cr_ aj); (case side2 => exact (Kd.R_reads' aj.out).2.1); rintro e e3 ⟨rfl, hb⟩; refine ⟨_, rfl, ?_⟩; replace ao := mk0 (Kd.V_below (v_ ao) hb); replace ae := mk0 (Kd.V_below (v_ ae) hb); replace aj := mk0 (Kd.R_below (r_ aj) hb); replace ab := mk0 (u_ ab hb); replace ad := mk0 (u_ ad hb); replace af := mk0 (u_ af hb); replace ac := mk0 (u_ ac hb); replace HB := mk0 (bt_ (b_ HB) hb); (try clear hb); have ek := bf.out; have el := bg.out; have em := aI.out; have en := aV.out; obtain ⟨dq, dr⟩ := c1_ ab) | ((with_reducible refine gate_callee (f := 75) rfl ?_); refine gL_ (some 41) Try.func75 #[.agg #[.slice A0_0 l0_0.length c0_0]] (h := ?_); (with_reducible refine (quorumref8_Count.calls bs _ _ l0_0 ck _ ?side1 ?side2 dh.out).mono ?_); (case side1 => exact cv_ ae); (case side2 => exact (Kd.V_reads' ae.out).2.1); rintro e e4 ⟨rfl, hb⟩; refine ⟨_, rfl, ?_⟩; replace ao := mk0 (Kd.V_below (v_ ao) hb); replace ae := mk0 (Kd.V_below (v_ ae) hb); replace aj := mk0 (Kd.R_below (r_ aj) hb); replace ab := mk0 (u_ ab hb); replace ad := mk0 (u_ ad hb); replace af := mk0 (u_ af hb); replace ac := mk0 (u_ ac hb); replace HB := mk0 (bt_ (b_ HB) hb); (try clear hb); have eo := a6.out; have ep := a5.out; obtain ⟨dt, du⟩ := c1_ af))
        refine bodyPost_ret (results_ct rfl _ _ ak 47 #[.slice none 0 0] (0, 0) _ rfl (pu_ (cs := #[.slice none 0 0]) (h_ af)) Try.underlying47 rfl (by kernel_rfl)) rfl ?_
        exact ⟨_, sa_, nl_, b_ HB⟩
       ·rw [if_neg bY] at H
        have cN := decide_eq_false bY
        clear bY
        by_cases cl : 0 ≤ an
        ·rw [if_pos cl] at H
         have er := eq_true cl
         have es := decide_eq_true cl
         clear cl
         by_cases cm : an ≤ (l0_0.length : Int)
         ·rw [if_pos cm] at H
          have et := eq_true cm
          have eu := decide_eq_true cm
          clear cm
          obtain ⟨aZ, bA⟩ : ∃ y_ : List (S99), y_ = (l0_0.take (an : Int).toNat) := ⟨_, rfl⟩
          replace H : ((quorumref0_CopyChains.f bs aZ).bind fun a8 => ((some (([(⟨ai, ag⟩ : S99)] : List (S99)) : List (S99))).bind fun aH => (if a8.length + aH.length < 3518437208883 then ((some (a8 ++ aH : List (S99))).bind fun bc => ((quorumref0_CopyChains.f bs aU).bind fun aN => (if bc.length + aN.length < 3518437208883 then (some ((bc ++ aN), 0)) else (none)))) else (none)))) = some (r1, r2) := by first | (rw [bA]; with_reducible exact H) | (have H2_ := (Option.bind_some _ _).symm.trans H; rw [bA]; with_reducible exact H2_) | (have H2_ := (Option.bind_some _ _).symm.trans H; with_reducible exact H2_) | with_reducible exact H | (rw [bA]; exact H) | exact H
          have cn := mk0 bA
          clear bA
          replace H := ob_ H
          obtain ⟨a8, dv, H⟩ := H
          try dsimp only at H
          obtain ⟨aH, bB⟩ : ∃ y_ : List (S99), y_ = (([(⟨ai, ag⟩ : S99)] : List (S99))) := ⟨_, rfl⟩
          replace H : (if a8.length + aH.length < 3518437208883 then ((some (a8 ++ aH : List (S99))).bind fun bc => ((quorumref0_CopyChains.f bs aU).bind fun aN => (if bc.length + aN.length < 3518437208883 then (some ((bc ++ aN), 0)) else (none)))) else (none)) = some (r1, r2) := by first | (rw [bB]; with_reducible exact H) | (have H2_ := (Option.bind_some _ _).symm.trans H; rw [bB]; with_reducible exact H2_) | (have H2_ := (Option.bind_some _ _).symm.trans H; with_reducible exact H2_) | with_reducible exact H | (rw [bB]; exact H) | exact H
          have bI := mk0 bB
          clear bB
          by_cases cx : a8.length + aH.length < 3518437208883
          ·rw [if_pos cx] at H
           have LMc58 := mk0 cx
           clear cx
           obtain ⟨bc, bC⟩ : ∃ y_ : List (S99), y_ = (a8 ++ aH) := ⟨_, rfl⟩
           replace H : ((quorumref0_CopyChains.f bs aU).bind fun aN => (if bc.length + aN.length < 3518437208883 then (some ((bc ++ aN), 0)) else (none))) = some (r1, r2) := by first | (rw [bC]; with_reducible exact H) | (have H2_ := (Option.bind_some _ _).symm.trans H; rw [bC]; with_reducible exact H2_) | (have H2_ := (Option.bind_some _ _).symm.trans H; with_reducible exact H2_) | with_reducible exact H | (rw [bC]; exact H) | exact H
           have cO := mk0 bC
           clear bC
           replace H := ob_ H
           obtain ⟨aN, ev, H⟩ := H
           try dsimp only at H
           by_cases cy : bc.length + aN.length < 3518437208883
           ·rw [if_pos cy] at H
            have LMc60 := mk0 cy
            clear cy
            obtain ⟨co, bD⟩ : ∃ y_ : List (S99), y_ = (bc ++ aN) := ⟨_, rfl⟩
            replace H : (some (co, 0)) = some (r1, r2) := by first | (rw [bD]; with_reducible exact H) | (have H2_ := (Option.bind_some _ _).symm.trans H; rw [bD]; with_reducible exact H2_) | (have H2_ := (Option.bind_some _ _).symm.trans H; with_reducible exact H2_) | with_reducible exact H | (rw [bD]; exact H) | exact H
            have cP := mk0 bD
            clear bD
            simp only [Option.some.injEq, Prod.mk.injEq] at H
            obtain ⟨rfl, rfl⟩ := H
            have ew := aJ.out
            have ex := aq.out
            have ey := aK.out
            have ez := ap.out
            have eA := ax.out
            have eB := ar.out
            obtain ⟨dw, dx, dy, dz⟩ := c2_ ac
            obtain ⟨aP, aQ, dA⟩ := Kd.R_slice aj.out
            subst dA
            try go_wp2_with (first | ((with_reducible refine gate_callee (f := 92) rfl ?_); refine gL_ (some 37) Try.func92 #[.agg #[.string ai, .slice aP ag.length aQ]] (h := ?_); (with_reducible refine (quorumref8_Chain.calls bs ai _ _ ag true _ ?side1 ?side2 cM.out).mono ?_); (case side1 => exact cr_ aj); (case side2 => exact (Kd.R_reads' aj.out).2.1); rintro e e5 ⟨rfl, hb⟩; refine ⟨_, rfl, ?_⟩; replace ao := mk0 (Kd.V_below (v_ ao) hb); replace ae := mk0 (Kd.V_below (v_ ae) hb); replace aj := mk0 (Kd.R_below (r_ aj) hb); replace ab := mk0 (u_ ab hb); replace ad := mk0 (u_ ad hb); replace af := mk0 (u_ af hb); replace ac := mk0 (u_ ac hb); replace HB := mk0 (bt_ (b_ HB) hb); (try clear hb); have eC := bf.out; have eD := bg.out; have eE := aI.out; have eF := aV.out; obtain ⟨dB, dC⟩ := c1_ ab) | ((with_reducible refine gate_callee (f := 75) rfl ?_); refine gL_ (some 41) Try.func75 #[.agg #[.slice A0_0 l0_0.length c0_0]] (h := ?_); (with_reducible refine (quorumref8_Count.calls bs _ _ l0_0 ck _ ?side1 ?side2 dh.out).mono ?_); (case side1 => exact cv_ ae); (case side2 => exact (Kd.V_reads' ae.out).2.1); rintro e eG ⟨rfl, hb⟩; refine ⟨_, rfl, ?_⟩; replace ao := mk0 (Kd.V_below (v_ ao) hb); replace ae := mk0 (Kd.V_below (v_ ae) hb); replace aj := mk0 (Kd.R_below (r_ aj) hb); replace ab := mk0 (u_ ab hb); replace ad := mk0 (u_ ad hb); replace af := mk0 (u_ af hb); replace ac := mk0 (u_ ac hb); replace HB := mk0 (bt_ (b_ HB) hb); (try clear hb); obtain ⟨cp, cq, dD⟩ := Kd.V_slice ao.out; subst dD))
            replace ao := mk0 (Kd.V_drew ao.out)
            replace ae := mk0 (Kd.V_drew ae.out)
            replace aj := mk0 (Rd_ aj.out)
            replace ab := mk0 (bD_ ab.out)
            replace ad := mk0 (bD_ ad.out)
            replace af := mk0 (bD_ af.out)
            replace ac := mk0 (bD_ ac.out)
            replace HB := mk0 (b1_ HB.out)
            have cQ : (an : Int) ≤ ((l0_0.length : Int) : Int) := od_
            obtain ⟨i073, hi073, _, hsz73, _⟩ := info_parts info99
            have hroom73 : l0_0.length ≤ c0_0 := (Kd.V_reads' ae.out).2.1
            have hC73 : Kd.F k99 _ _ A0_0 l0_0.length l0_0 := (Kd.V_at (base := w.heap.size) ae.out).2.2
            have hcut73 := cut_to (P := Try.prog) 45 99 .i64 Try.underlying45 hi073 A0_0 l0_0.length c0_0 an od_ cQ hroom73
            have hr73 := Kd.F_take (m := (an : Int).toNat) hC73 (by omega)
            have cr : aZ.length = (an : Int).toNat := (by rw [cn.out, List.length_take]; omega)
            rw [← cn.out] at hr73
            rw [← cr] at hcut73
            have av := mk0 (show Kd.V k99 99 _ w.heap.size _ (.slice A0_0 aZ.length c0_0) aZ from Kd.V_mk (by omega) hr73)
            have HC465 := mk0 (show aZ.length ≤ c0_0 from by omega)
            clear hr73 hC73 hroom73 hi073 hsz73
            have KY73 := mk0 cr
            clear cr
            replace cQ := eq_true cQ
            refine start_ (n := 14) (S := fun w' => w'.cell? ⟨al, 0, none⟩ = some (.slice A0_0 l0_0.length c0_0) ∧ w'.cell? ⟨aa, 0, none⟩ = some (.string ai) ∧ w'.cell? ⟨aa, 1, none⟩ = some (.slice aP ag.length aQ)) (ds := []) (bt 14 0) (by kernel_rfl) rfl rfl ⟨bk_ ab 0, bk_ ac 0, bk_ ac 1⟩ (fun hHeld => ?_); refine with_tabW quorumref8_Put.tab11 quorumref8_Put.bits11 (fun HT_ HW_ => ?_)
            generalize eG.drew = eH at ao ae aj ab ad af ac HB av hHeld ⊢
            refine pq_ HT_.out 0 44 (bt 14 1) (h := ?_)
            refine pq_ HT_.out 2 46 (bt 14 5) (h := ?_)
            refine pq_ HT_.out 8 52 (bt 14 261) (h := ?_)
            refine tq3_ HT_.out HW_.out 1 45 (bt 14 263) hHeld (h := ?_)
            refine pq_ HT_.out 3 47 (bt 14 271) (h := ?_)
            refine tq3_ HT_.out HW_.out 5 49 (bt 14 303) hHeld (h := ?_)
            refine join_ (σ := Value × Value) 6 (bt 14 383) (fun s_ => [(48, s_.1), (50, s_.2)]) (fun s_ w' => (w'.cell? ⟨al, 0, none⟩ = some (.slice A0_0 l0_0.length c0_0) ∧ w'.cell? ⟨aa, 0, none⟩ = some (.string ai) ∧ w'.cell? ⟨aa, 1, none⟩ = some (.slice aP ag.length aQ)) ∧ (Kd.V k99 99 w' w.heap.size (fun k_ => (P0_0_ k_ ∨ w.heap.size ≤ k_) ∧ some k_ ≠ (s_.1 : Value).ownBlock ∧ some k_ ≠ (s_.2 : Value).ownBlock ∧ k_ ≠ al ∧ k_ ≠ ah ∧ k_ ≠ ak ∧ k_ ≠ aa) (.slice A0_0 aZ.length c0_0) aZ) ∧ (Kd.N k99 99 w' w.heap.size (fun k_ => (P0_0_ k_ ∨ w.heap.size ≤ k_) ∧ some k_ ≠ (s_.2 : Value).ownBlock ∧ k_ ≠ al ∧ k_ ≠ ah ∧ k_ ≠ ak ∧ k_ ≠ aa) s_.1 a8) ∧ (Kd.N k99 99 w' w.heap.size (fun k_ => (P0_0_ k_ ∨ w.heap.size ≤ k_) ∧ some k_ ≠ (s_.1 : Value).ownBlock ∧ k_ ≠ al ∧ k_ ≠ ah ∧ k_ ≠ ak ∧ k_ ≠ aa) s_.2 aH) ∧ (Kd.V k99 99 w' w.heap.size (fun k_ => (P0_0_ k_ ∨ w.heap.size ≤ k_) ∧ some k_ ≠ (s_.1 : Value).ownBlock ∧ some k_ ≠ (s_.2 : Value).ownBlock ∧ k_ ≠ al ∧ k_ ≠ ah ∧ k_ ≠ ak ∧ k_ ≠ aa) (.slice cp aU.length cq) aU) ∧ (Kd.V k99 99 w' w.heap.size (fun k_ => (P0_0_ k_ ∨ w.heap.size ≤ k_) ∧ some k_ ≠ (s_.1 : Value).ownBlock ∧ some k_ ≠ (s_.2 : Value).ownBlock ∧ k_ ≠ al ∧ k_ ≠ ah ∧ k_ ≠ ak ∧ k_ ≠ aa) (.slice A0_0 l0_0.length c0_0) l0_0) ∧ (w'.heap[al]? = some (.cells #[.slice A0_0 l0_0.length c0_0] 47 (0, 0))) ∧ (w'.heap[ah]? = some (.cells #[.int .i64 a2_0, .string a2_1, .bool a2_2] 72 (0, 0))) ∧ (w'.heap[ak]? = some (.cells #[.slice none 0 0] 47 (0, 0))) ∧ (w'.heap[aa]? = some (.cells #[.string ai, .slice aP ag.length aQ] 99 (0, 0))) ∧ (Below w.heap.size w w')) ?_ ?_
            rotate_left
            ·intro hCont
             refine two_ (i := 4) (j := 6) (Ni := some 48) (Nj := some 50) (bt 14 319) (bt 14 367) rfl rfl rfl rfl (two_of HT_.out (by kernel_rfl)) (by decide) (by decide) (fun K hK => ?_) (fun K hK => ?_)
             ·skip
              refine goes_ Try.func70 (by kernel_rfl) rfl #[.slice A0_0 aZ.length c0_0] (by rfl) rfl rfl gs_ ?_
              with_reducible refine (quorumref0_CopyChains.calls bs _ _ aZ a8 _ ?side1 ?side2 dv.out).mono ?_
              (case side1 => exact cv_ av)
              (case side2 => exact (Kd.V_reads' av.out).2.1)
              rintro e dE ⟨aT, rfl, ho0, hb⟩
              refine ⟨_, rfl, ?_⟩
              have aM := mk0 (Kd.N_lower (Kd.N_mono (ok' := fun k_ => (P0_0_ k_ ∨ w.heap.size ≤ k_) ∧ some k_ ≠ (.slice aP ag.length aQ : Value).ownBlock ∧ k_ ≠ al ∧ k_ ≠ ah ∧ k_ ≠ ak ∧ k_ ≠ aa) (Kd.S_N (Kd.S_bound ho0)) (fun k_ hk_ => ⟨(.inr (Nat.le_trans (bz_ (b_ HB)) hk_.2.1)), (Kd.fresh' (Kd.R_lt (r_ aj)) k_ hk_.2.1), (fb_ ab k_ hk_.2.1), (fb_ ad k_ hk_.2.1), (fb_ af k_ hk_.2.1), (fb_ ac k_ hk_.2.1)⟩)) (bz_ (b_ HB)))
              replace ao := mk0 (Kd.V_elder' (v_ ao) (Kd.S_base ho0) hb)
              replace ae := mk0 (Kd.V_elder' (v_ ae) (Kd.S_base ho0) hb)
              replace aj := mk0 (Kd.R_below (r_ aj) hb)
              replace av := mk0 (Kd.V_elder' (v_ av) (Kd.S_base ho0) hb)
              replace ab := mk0 (u_ ab hb)
              replace ad := mk0 (u_ ad hb)
              replace af := mk0 (u_ af hb)
              replace ac := mk0 (u_ ac hb)
              replace HB := mk0 (bt_ (b_ HB) hb)
              have aE := aM
              clear aM
              (try clear hb)
              (try clear hk)
              (try clear hi)
              (try clear ho0)
              refine hK.out _ _ ⟨bk_ ab 0, bk_ ac 0, bk_ ac 1⟩ (fun hHeld => ?_)
              clear hK K
              refine norm_ (a' := ?_) ?_ ?_
              rotate_left
              ·show Act.put _ (some 48) _ = _
               simp only [z_]
               rfl
              refine one_ (i := 6) (N := some 50) (bt 14 383) rfl rfl (one_of HT_.out (by kernel_rfl)) (by decide) (fun K hK => ?_)
              refine Kd.N_lit_step k99 _ 99 ?hg (N' := 50) ?hd (xs := ([(⟨ai, ag⟩ : S99)] : List (S99))) (inner := [.string ai, .slice aP ag.length aQ]) (ok := (fun k_ => (P0_0_ k_ ∨ w.heap.size ≤ k_) ∧ some k_ ≠ (aT : Value).ownBlock ∧ k_ ≠ al ∧ k_ ≠ ah ∧ k_ ≠ ak ∧ k_ ≠ aa)) (okp := (fun k_ => (P0_0_ k_ ∨ w.heap.size ≤ k_) ∧ some k_ ≠ (aT : Value).ownBlock ∧ k_ ≠ al ∧ k_ ≠ ah ∧ k_ ≠ ak ∧ k_ ≠ aa)) ?hr ?hp (fun _ hk => hk) ((show ∀ k_, dE.heap.size ≤ k_ → (fun k_ => (P0_0_ k_ ∨ w.heap.size ≤ k_) ∧ some k_ ≠ (aT : Value).ownBlock ∧ k_ ≠ al ∧ k_ ≠ ah ∧ k_ ≠ ak ∧ k_ ≠ aa) k_ from fun k_ hk => ⟨(.inr (Nat.le_trans (bz_ (b_ HB)) hk)), Kd.fresh' (Kd.N_lt (nn_ aE)) k_ hk, Kd.freshB (g := al) (o := .cells #[.slice A0_0 l0_0.length c0_0] 47 (0, 0)) (h_ ab) k_ hk, Kd.freshB (g := ah) (o := .cells #[.int .i64 a2_0, .string a2_1, .bool a2_2] 72 (0, 0)) (h_ ad) k_ hk, Kd.freshB (g := ak) (o := .cells #[.slice none 0 0] 47 (0, 0)) (h_ af) k_ hk, Kd.freshB (g := aa) (o := .cells #[.string ai, .slice aP ag.length aQ] 99 (0, 0)) (h_ ac) k_ hk⟩) _ (Nat.le_refl _)) (Below.refl _ _) (Nat.le_refl _) (by simp) ?_; (case hd => rfl); (case hg => rfl); (case hr => first | (go_simp; done) | (go_simp; rfl)); (case hp => exact (Reps.c2 (show Kd.FK k99 _ _ (⟨ai, ag⟩ : S99) [.string ai, .slice aP ag.length aQ] from (k99_mkF _ _ (⟨ai, ag⟩ : S99) (Kd.R_reads' (Kd.R_mono (ok' := (fun k_ => (P0_0_ k_ ∨ w.heap.size ≤ k_) ∧ some k_ ≠ (aT : Value).ownBlock ∧ k_ ≠ al ∧ k_ ≠ ah ∧ k_ ≠ ak ∧ k_ ≠ aa)) (Kd.R_types (Kd.R_types (Kd.R_types (Kd.R_apart' (aj.out) (Kd.N_typed aE.out) (by decide)) ab.out (by decide)) af.out (by decide)) ac.out (by decide)) (fun k_ hk => ⟨(.inr (hk.1.1.1.1.1)), ⟨hk.1.1.1.2, ⟨hk.1.1.2, ⟨hk.1.1.1.1.2, ⟨hk.1.2, hk.2⟩⟩⟩⟩⟩))).2.1 (Kd.R_F (Kd.R_mono (ok' := (fun k_ => (P0_0_ k_ ∨ w.heap.size ≤ k_) ∧ some k_ ≠ (aT : Value).ownBlock ∧ k_ ≠ al ∧ k_ ≠ ah ∧ k_ ≠ ak ∧ k_ ≠ aa)) (Kd.R_types (Kd.R_types (Kd.R_types (Kd.R_apart' (aj.out) (Kd.N_typed aE.out) (by decide)) ab.out (by decide)) af.out (by decide)) ac.out (by decide)) (fun k_ hk => ⟨(.inr (hk.1.1.1.1.1)), ⟨hk.1.1.1.2, ⟨hk.1.1.2, ⟨hk.1.1.1.1.2, ⟨hk.1.2, hk.2⟩⟩⟩⟩⟩))))) (Reps.none _ _)))
              intro bd e6 ho76 hb hg_ hnew_
              clear hg_ hnew_
              (first | rw [← bI.out] at ho76 | (simp only [Int.reduceToNat] at ho76; rw [← bI.out] at ho76))
              have aM := mk0 (Kd.N_lower ho76 (bz_ (b_ HB)))
              replace ao := mk0 (Kd.V_elder' (v_ ao) (Kd.N_base ho76) hb)
              replace ae := mk0 (Kd.V_elder' (v_ ae) (Kd.N_base ho76) hb)
              replace av := mk0 (Kd.V_elder' (v_ av) (Kd.N_base ho76) hb)
              replace aE := mk0 (Kd.N_elder' (nn_ aE) (Kd.N_base ho76) hb)
              replace ab := mk0 (u_ ab hb)
              replace ad := mk0 (u_ ad hb)
              replace af := mk0 (u_ af hb)
              replace ac := mk0 (u_ ac hb)
              replace HB := mk0 (bt_ (b_ HB) hb)
              clear aj
              have aC := aM
              clear aM hb ho76
              refine hK.out _ _ ⟨bk_ ab 0, bk_ ac 0, bk_ ac 1⟩ (fun hHeld => ?_)
              clear hK K
              refine norm_ (a' := ?_) ?_ ?_
              rotate_left
              ·show Act.put _ (some 50) _ = _
               simp only [z_]
               rfl
              exact norm_ (by simp only [putAll, Act.put, List.setIfInBounds_toArray, List.set_cons_zero, List.set_cons_succ]) (hCont (aT, bd) _ ⟨hHeld, (v2_ (Kd.V_mono av.out (fun _ hk => ⟨hk.1.1.1, ⟨hk.1.2, ⟨hk.2, ⟨hk.1.1.2.2.1, ⟨hk.1.1.2.2.2.1, ⟨hk.1.1.2.2.2.2.1, hk.1.1.2.2.2.2.2⟩⟩⟩⟩⟩⟩))), (n2_ (Kd.N_mono aE.out (fun _ hk => ⟨hk.1.1, ⟨hk.2, ⟨hk.1.2.2.1, ⟨hk.1.2.2.2.1, ⟨hk.1.2.2.2.2.1, hk.1.2.2.2.2.2⟩⟩⟩⟩⟩))), (nn_ aC), (v2_ (Kd.V_mono ao.out (fun _ hk => ⟨hk.1.1.1, ⟨hk.1.2, ⟨hk.2, ⟨hk.1.1.2.2.1, ⟨hk.1.1.2.2.2.1, ⟨hk.1.1.2.2.2.2.1, hk.1.1.2.2.2.2.2⟩⟩⟩⟩⟩⟩))), (v2_ (Kd.V_mono ae.out (fun _ hk => ⟨hk.1.1.1, ⟨hk.1.2, ⟨hk.2, ⟨hk.1.1.2.2.1, ⟨hk.1.1.2.2.2.1, ⟨hk.1.1.2.2.2.2.1, hk.1.1.2.2.2.2.2⟩⟩⟩⟩⟩⟩))), (h_ ab), (h_ ad), (h_ af), (h_ ac), (b_ HB)⟩)
             ·skip
              refine Kd.N_lit_step k99 _ 99 ?hg (N' := 50) ?hd (xs := ([(⟨ai, ag⟩ : S99)] : List (S99))) (inner := [.string ai, .slice aP ag.length aQ]) (ok := (fun k_ => (P0_0_ k_ ∨ w.heap.size ≤ k_) ∧ k_ ≠ al ∧ k_ ≠ ah ∧ k_ ≠ ak ∧ k_ ≠ aa)) (okp := (fun k_ => (P0_0_ k_ ∨ w.heap.size ≤ k_) ∧ k_ ≠ al ∧ k_ ≠ ah ∧ k_ ≠ ak ∧ k_ ≠ aa)) ?hr ?hp (fun _ hk => hk) ((show ∀ k_, eH.heap.size ≤ k_ → (fun k_ => (P0_0_ k_ ∨ w.heap.size ≤ k_) ∧ k_ ≠ al ∧ k_ ≠ ah ∧ k_ ≠ ak ∧ k_ ≠ aa) k_ from fun k_ hk => ⟨(.inr (Nat.le_trans (bz_ (b_ HB)) hk)), Kd.freshB (g := al) (o := .cells #[.slice A0_0 l0_0.length c0_0] 47 (0, 0)) (h_ ab) k_ hk, Kd.freshB (g := ah) (o := .cells #[.int .i64 a2_0, .string a2_1, .bool a2_2] 72 (0, 0)) (h_ ad) k_ hk, Kd.freshB (g := ak) (o := .cells #[.slice none 0 0] 47 (0, 0)) (h_ af) k_ hk, Kd.freshB (g := aa) (o := .cells #[.string ai, .slice aP ag.length aQ] 99 (0, 0)) (h_ ac) k_ hk⟩) _ (Nat.le_refl _)) (Below.refl _ _) (Nat.le_refl _) (by simp) ?_; (case hd => rfl); (case hg => rfl); (case hr => first | (go_simp; done) | (go_simp; rfl)); (case hp => exact (Reps.c2 (show Kd.FK k99 _ _ (⟨ai, ag⟩ : S99) [.string ai, .slice aP ag.length aQ] from (k99_mkF _ _ (⟨ai, ag⟩ : S99) (Kd.R_reads' (Kd.R_mono (ok' := (fun k_ => (P0_0_ k_ ∨ w.heap.size ≤ k_) ∧ k_ ≠ al ∧ k_ ≠ ah ∧ k_ ≠ ak ∧ k_ ≠ aa)) (Kd.R_types (Kd.R_types (Kd.R_types (aj.out) ab.out (by decide)) af.out (by decide)) ac.out (by decide)) (fun k_ hk => ⟨(.inr (hk.1.1.1.1)), ⟨hk.1.1.2, ⟨hk.1.1.1.2, ⟨hk.1.2, hk.2⟩⟩⟩⟩))).2.1 (Kd.R_F (Kd.R_mono (ok' := (fun k_ => (P0_0_ k_ ∨ w.heap.size ≤ k_) ∧ k_ ≠ al ∧ k_ ≠ ah ∧ k_ ≠ ak ∧ k_ ≠ aa)) (Kd.R_types (Kd.R_types (Kd.R_types (aj.out) ab.out (by decide)) af.out (by decide)) ac.out (by decide)) (fun k_ hk => ⟨(.inr (hk.1.1.1.1)), ⟨hk.1.1.2, ⟨hk.1.1.1.2, ⟨hk.1.2, hk.2⟩⟩⟩⟩))))) (Reps.none _ _)))
              intro bd dE ho75 hb hg_ hnew_
              clear hg_ hnew_
              (first | rw [← bI.out] at ho75 | (simp only [Int.reduceToNat] at ho75; rw [← bI.out] at ho75))
              have bh := mk0 (Kd.N_lower ho75 (bz_ (b_ HB)))
              replace ao := mk0 (Kd.V_elder' (v_ ao) (Kd.N_base ho75) hb)
              replace ae := mk0 (Kd.V_elder' (v_ ae) (Kd.N_base ho75) hb)
              replace av := mk0 (Kd.V_elder' (v_ av) (Kd.N_base ho75) hb)
              replace ab := mk0 (u_ ab hb)
              replace ad := mk0 (u_ ad hb)
              replace af := mk0 (u_ af hb)
              replace ac := mk0 (u_ ac hb)
              replace HB := mk0 (bt_ (b_ HB) hb)
              clear aj
              have aC := bh
              clear bh hb ho75
              refine hK.out _ _ ⟨bk_ ab 0, bk_ ac 0, bk_ ac 1⟩ (fun hHeld => ?_)
              clear hK K
              refine norm_ (a' := ?_) ?_ ?_
              rotate_left
              ·show Act.put _ (some 50) _ = _
               simp only [z_]
               rfl
              refine one_ (i := 4) (N := some 48) (bt 14 383) rfl rfl (one_of HT_.out (by kernel_rfl)) (by decide) (fun K hK => ?_)
              refine goes_ Try.func70 (by kernel_rfl) rfl #[.slice A0_0 aZ.length c0_0] (by rfl) rfl rfl gs_ ?_
              with_reducible refine (quorumref0_CopyChains.calls bs _ _ aZ a8 _ ?side1 ?side2 dv.out).mono ?_
              (case side1 => exact cv_ av)
              (case side2 => exact (Kd.V_reads' av.out).2.1)
              rintro e e7 ⟨aT, rfl, ho0, hb⟩
              refine ⟨_, rfl, ?_⟩
              have aM := mk0 (Kd.N_lower (Kd.N_mono (ok' := fun k_ => (P0_0_ k_ ∨ w.heap.size ≤ k_) ∧ some k_ ≠ (bd : Value).ownBlock ∧ k_ ≠ al ∧ k_ ≠ ah ∧ k_ ≠ ak ∧ k_ ≠ aa) (Kd.S_N (Kd.S_bound ho0)) (fun k_ hk_ => ⟨(.inr (Nat.le_trans (bz_ (b_ HB)) hk_.2.1)), (Kd.fresh' (Kd.N_lt (nn_ aC)) k_ hk_.2.1), (fb_ ab k_ hk_.2.1), (fb_ ad k_ hk_.2.1), (fb_ af k_ hk_.2.1), (fb_ ac k_ hk_.2.1)⟩)) (bz_ (b_ HB)))
              replace ao := mk0 (Kd.V_elder' (v_ ao) (Kd.S_base ho0) hb)
              replace ae := mk0 (Kd.V_elder' (v_ ae) (Kd.S_base ho0) hb)
              replace av := mk0 (Kd.V_elder' (v_ av) (Kd.S_base ho0) hb)
              replace aC := mk0 (Kd.N_elder' (nn_ aC) (Kd.S_base ho0) hb)
              replace ab := mk0 (u_ ab hb)
              replace ad := mk0 (u_ ad hb)
              replace af := mk0 (u_ af hb)
              replace ac := mk0 (u_ ac hb)
              replace HB := mk0 (bt_ (b_ HB) hb)
              have aE := aM
              clear aM
              (try clear hb)
              (try clear hk)
              (try clear hi)
              (try clear ho0)
              refine hK.out _ _ ⟨bk_ ab 0, bk_ ac 0, bk_ ac 1⟩ (fun hHeld => ?_)
              clear hK K
              refine norm_ (a' := ?_) ?_ ?_
              rotate_left
              ·show Act.put _ (some 48) _ = _
               simp only [z_]
               rfl
              exact norm_ (by simp only [putAll, Act.put, List.setIfInBounds_toArray, List.set_cons_zero, List.set_cons_succ]) (hCont (aT, bd) _ ⟨hHeld, (v2_ (Kd.V_mono av.out (fun _ hk => ⟨hk.1.1.1, ⟨hk.2, ⟨hk.1.2, ⟨hk.1.1.2.2.1, ⟨hk.1.1.2.2.2.1, ⟨hk.1.1.2.2.2.2.1, hk.1.1.2.2.2.2.2⟩⟩⟩⟩⟩⟩))), (nn_ aE), (n2_ (Kd.N_mono aC.out (fun _ hk => ⟨hk.1.1, ⟨hk.2, ⟨hk.1.2.1, ⟨hk.1.2.2.1, ⟨hk.1.2.2.2.1, hk.1.2.2.2.2⟩⟩⟩⟩⟩))), (v2_ (Kd.V_mono ao.out (fun _ hk => ⟨hk.1.1.1, ⟨hk.2, ⟨hk.1.2, ⟨hk.1.1.2.2.1, ⟨hk.1.1.2.2.2.1, ⟨hk.1.1.2.2.2.2.1, hk.1.1.2.2.2.2.2⟩⟩⟩⟩⟩⟩))), (v2_ (Kd.V_mono ae.out (fun _ hk => ⟨hk.1.1.1, ⟨hk.2, ⟨hk.1.2, ⟨hk.1.1.2.2.1, ⟨hk.1.1.2.2.2.1, ⟨hk.1.1.2.2.2.2.1, hk.1.1.2.2.2.2.2⟩⟩⟩⟩⟩⟩))), (h_ ab), (h_ ad), (h_ af), (h_ ac), (b_ HB)⟩)
            rintro ⟨aT, bd⟩ bm ⟨hS_, h0_, h1_, h2_, h3_, h4_, h5_, h6_, h7_, h8_, h9_⟩
            have bE : Fc (Kd.V k99 99 bm w.heap.size (fun k_ => (P0_0_ k_ ∨ w.heap.size ≤ k_) ∧ some k_ ≠ (aT : Value).ownBlock ∧ some k_ ≠ (bd : Value).ownBlock ∧ k_ ≠ al ∧ k_ ≠ ah ∧ k_ ≠ ak ∧ k_ ≠ aa) (.slice A0_0 aZ.length c0_0) aZ) := ⟨h0_⟩
            have br : Fc (Kd.N k99 99 bm w.heap.size (fun k_ => (P0_0_ k_ ∨ w.heap.size ≤ k_) ∧ some k_ ≠ (bd : Value).ownBlock ∧ k_ ≠ al ∧ k_ ≠ ah ∧ k_ ≠ ak ∧ k_ ≠ aa) aT a8) := ⟨h1_⟩
            have n2_ : Fc (Kd.N k99 99 bm w.heap.size (fun k_ => (P0_0_ k_ ∨ w.heap.size ≤ k_) ∧ some k_ ≠ (aT : Value).ownBlock ∧ k_ ≠ al ∧ k_ ≠ ah ∧ k_ ≠ ak ∧ k_ ≠ aa) bd aH) := ⟨h2_⟩
            have bh : Fc (Kd.V k99 99 bm w.heap.size (fun k_ => (P0_0_ k_ ∨ w.heap.size ≤ k_) ∧ some k_ ≠ (aT : Value).ownBlock ∧ some k_ ≠ (bd : Value).ownBlock ∧ k_ ≠ al ∧ k_ ≠ ah ∧ k_ ≠ ak ∧ k_ ≠ aa) (.slice cp aU.length cq) aU) := ⟨h3_⟩
            have aM : Fc (Kd.V k99 99 bm w.heap.size (fun k_ => (P0_0_ k_ ∨ w.heap.size ≤ k_) ∧ some k_ ≠ (aT : Value).ownBlock ∧ some k_ ≠ (bd : Value).ownBlock ∧ k_ ≠ al ∧ k_ ≠ ah ∧ k_ ≠ ak ∧ k_ ≠ aa) (.slice A0_0 l0_0.length c0_0) l0_0) := ⟨h4_⟩
            have a9 : Fc (bm.heap[al]? = some (.cells #[.slice A0_0 l0_0.length c0_0] 47 (0, 0))) := ⟨h5_⟩
            have be : Fc (bm.heap[ah]? = some (.cells #[.int .i64 a2_0, .string a2_1, .bool a2_2] 72 (0, 0))) := ⟨h6_⟩
            have bi : Fc (bm.heap[ak]? = some (.cells #[.slice none 0 0] 47 (0, 0))) := ⟨h7_⟩
            have bp : Fc (bm.heap[aa]? = some (.cells #[.string ai, .slice aP ag.length aQ] 99 (0, 0))) := ⟨h8_⟩
            have bq : Fc (Below w.heap.size w bm) := ⟨h9_⟩
            clear ao ae aj ab ad af ac HB h0_ h1_ h2_ h3_ h4_ h5_ h6_ h7_ h8_ h9_
            have av := bE
            have aE := br
            have aC := n2_
            have ao := bh
            have ae := aM
            have ab := a9
            have ad := be
            have af := bi
            have ac := bp
            have HB := bq
            clear bE br n2_ bh aM a9 be bi bp bq
            have hHeld : bm.cell? ⟨al, 0, none⟩ = some (.slice A0_0 l0_0.length c0_0) ∧ bm.cell? ⟨aa, 0, none⟩ = some (.string ai) ∧ bm.cell? ⟨aa, 1, none⟩ = some (.slice aP ag.length aQ) := hS_
            obtain ⟨bn, bo, cF⟩ := Kd.N_slice aC.out
            (first | subst cF | (injection cF with f1_ f2_ f3_; have f4_ := f1_.symm; have f5_ := f3_.symm; clear f1_ f2_ f3_; subst f4_; subst f5_))
            refine norm_ (a' := ?_) ?_ ?_
            rotate_left
            ·simp only [putAll, Act.put, List.setIfInBounds_toArray, List.set_cons_zero, List.set_cons_succ]
             rfl
            refine one_ (i := 7) (N := some 51) (bt 14 511) rfl rfl (one_of HT_.out (by kernel_rfl)) (by decide) (fun K hK => ?_)
            refine Kd.N_append_rows_step k99 (w0 := w) w.heap.size (by rfl) (.tmp 48) (.tmp 50) 45 99 (.agg #[(.string ⟨#[]⟩), (.slice none 0 0)]) 40 rfl Try.underlying45 info99 rfl (by decide) (by omega) aT a8 aH _ _ _ (fun k_ => (P0_0_ k_ ∨ w.heap.size ≤ k_) ∧ k_ ≠ al ∧ k_ ≠ ah ∧ k_ ≠ ak ∧ k_ ≠ aa) (fun k_ => ((fun k_ => (P0_0_ k_ ∨ w.heap.size ≤ k_) ∧ k_ ≠ al ∧ k_ ≠ ah ∧ k_ ≠ ak ∧ k_ ≠ aa)) k_ ∧ some k_ ≠ (aT : Value).ownBlock) rfl rfl ?aO ?aR (fun _ hk => hk) ?aF ?aB ?aS ?aL ?_
            (case aR => exact (by skip; exact Kd.N_F (Kd.N_mono (ok' := (fun k_ => ((fun k_ => (P0_0_ k_ ∨ w.heap.size ≤ k_) ∧ k_ ≠ al ∧ k_ ≠ ah ∧ k_ ≠ ak ∧ k_ ≠ aa)) k_ ∧ some k_ ≠ (aT : Value).ownBlock)) (aC.out) (fun k_ hk => ⟨⟨hk.1, ⟨hk.2.2.1, ⟨hk.2.2.2.1, ⟨hk.2.2.2.2.1, hk.2.2.2.2.2⟩⟩⟩⟩, hk.2.1⟩))))
            (case aB => exact (b_ HB))
            (case aF => exact (fun k_ hk => ⟨(.inr (Nat.le_trans (bz_ (b_ HB)) hk)), Kd.freshB (g := al) (o := .cells #[.slice A0_0 l0_0.length c0_0] 47 (0, 0)) (h_ ab) k_ hk, Kd.freshB (g := ah) (o := .cells #[.int .i64 a2_0, .string a2_1, .bool a2_2] 72 (0, 0)) (h_ ad) k_ hk, Kd.freshB (g := ak) (o := .cells #[.slice none 0 0] 47 (0, 0)) (h_ af) k_ hk, Kd.freshB (g := aa) (o := .cells #[.string ai, .slice aP ag.length aQ] 99 (0, 0)) (h_ ac) k_ hk⟩))
            (case aO => exact (n2_ (Kd.N_mono aE.out (fun _ hk => ⟨hk.1, ⟨hk.2.2.1, ⟨hk.2.2.2.1, ⟨hk.2.2.2.2.1, hk.2.2.2.2.2⟩⟩⟩⟩))))
            (case aS => exact (bz_ (b_ HB)))
            (case aL => have := LMc58.out; omega)
            intro bV e8 ho hb hg hat
            rw [← cO.out] at ho
            replace ao := mk0 (Kd.V_afterv (ok := (fun k_ => (P0_0_ k_ ∨ w.heap.size ≤ k_) ∧ some k_ ≠ (.slice bn aH.length bo : Value).ownBlock ∧ k_ ≠ al ∧ k_ ≠ ah ∧ k_ ≠ ak ∧ k_ ≠ aa)) (v2_ (Kd.V_mono ao.out (fun _ hk => ⟨⟨hk.1, ⟨hk.2.2.1, ⟨hk.2.2.2.1, ⟨hk.2.2.2.2.1, ⟨hk.2.2.2.2.2.1, hk.2.2.2.2.2.2⟩⟩⟩⟩⟩, hk.2.1⟩))) hg hat)
            replace ae := mk0 (Kd.V_afterv (ok := (fun k_ => (P0_0_ k_ ∨ w.heap.size ≤ k_) ∧ some k_ ≠ (.slice bn aH.length bo : Value).ownBlock ∧ k_ ≠ al ∧ k_ ≠ ah ∧ k_ ≠ ak ∧ k_ ≠ aa)) (v2_ (Kd.V_mono ae.out (fun _ hk => ⟨⟨hk.1, ⟨hk.2.2.1, ⟨hk.2.2.2.1, ⟨hk.2.2.2.2.1, ⟨hk.2.2.2.2.2.1, hk.2.2.2.2.2.2⟩⟩⟩⟩⟩, hk.2.1⟩))) hg hat)
            replace ab := mk0 (blk_grown (g := al) (o := .cells #[.slice A0_0 l0_0.length c0_0] 47 (0, 0)) (h_ ab) hg (Kd.N_ne aE.out ab.out (by decide)))
            replace ad := mk0 (blk_grown (g := ah) (o := .cells #[.int .i64 a2_0, .string a2_1, .bool a2_2] 72 (0, 0)) (h_ ad) hg (Kd.N_ne aE.out ad.out (by decide)))
            replace af := mk0 (blk_grown (g := ak) (o := .cells #[.slice none 0 0] 47 (0, 0)) (h_ af) hg (Kd.N_ne aE.out af.out (by decide)))
            replace ac := mk0 (blk_grown (g := aa) (o := .cells #[.string ai, .slice aP ag.length aQ] 99 (0, 0)) (h_ ac) hg (Kd.N_away aE.out (fun _ hk => hk.2.2.2.2.2)))
            replace av := mk0 (Kd.V_afterv (ok := (fun k_ => (P0_0_ k_ ∨ w.heap.size ≤ k_) ∧ some k_ ≠ (.slice bn aH.length bo : Value).ownBlock ∧ k_ ≠ al ∧ k_ ≠ ah ∧ k_ ≠ ak ∧ k_ ≠ aa)) (v2_ (Kd.V_mono av.out (fun _ hk => ⟨⟨hk.1, ⟨hk.2.2.1, ⟨hk.2.2.2.1, ⟨hk.2.2.2.2.1, ⟨hk.2.2.2.2.2.1, hk.2.2.2.2.2.2⟩⟩⟩⟩⟩, hk.2.1⟩))) hg hat)
            replace aC := mk0 (Kd.N_afterv (ok := (fun k_ => (P0_0_ k_ ∨ w.heap.size ≤ k_) ∧ k_ ≠ al ∧ k_ ≠ ah ∧ k_ ≠ ak ∧ k_ ≠ aa)) (n2_ (Kd.N_mono aC.out (fun _ hk => ⟨⟨hk.1, ⟨hk.2.2.1, ⟨hk.2.2.2.1, ⟨hk.2.2.2.2.1, hk.2.2.2.2.2⟩⟩⟩⟩, hk.2.1⟩))) hg hat)
            replace HB := mk0 (hb)
            have a7 := mk0 (ho)
            clear aE
            clear ho hb hg hat
            refine hK.out _ _ ⟨bk_ ab 0, bk_ ac 0, bk_ ac 1⟩ (fun hHeld => ?_)
            clear hK K
            refine norm_ (a' := ?_) ?_ ?_
            rotate_left
            ·show Act.put _ (some 51) _ = _
             simp only [z_]
             rfl
            refine one_ (i := 9) (N := some 53) (bt 14 1023) rfl rfl (one_of HT_.out (by kernel_rfl)) (by decide) (fun K hK => ?_)
            refine goes_ Try.func70 (by kernel_rfl) rfl #[.slice cp aU.length cq] (by rfl) rfl rfl gs_ ?_
            with_reducible refine (quorumref0_CopyChains.calls bs _ _ aU aN _ ?side1 ?side2 ev.out).mono ?_
            (case side1 => exact cv_ ao)
            (case side2 => exact (Kd.V_reads' ao.out).2.1)
            rintro e e9 ⟨eV, rfl, ho0, hb⟩
            refine ⟨_, rfl, ?_⟩
            have a9 := mk0 (Kd.N_lower (Kd.N_mono (ok' := fun k_ => (P0_0_ k_ ∨ w.heap.size ≤ k_) ∧ some k_ ≠ (.slice bn aH.length bo : Value).ownBlock ∧ some k_ ≠ (bV : Value).ownBlock ∧ k_ ≠ al ∧ k_ ≠ ah ∧ k_ ≠ ak ∧ k_ ≠ aa) (Kd.S_N (Kd.S_bound ho0)) (fun k_ hk_ => ⟨(.inr (Nat.le_trans (bz_ (b_ HB)) hk_.2.1)), (Kd.fresh' (Kd.N_lt (nn_ aC)) k_ hk_.2.1), (Kd.fresh' (Kd.N_lt (nn_ a7)) k_ hk_.2.1), (fb_ ab k_ hk_.2.1), (fb_ ad k_ hk_.2.1), (fb_ af k_ hk_.2.1), (fb_ ac k_ hk_.2.1)⟩)) (bz_ (b_ HB)))
            replace ao := mk0 (Kd.V_elder' (v_ ao) (Kd.S_base ho0) hb)
            replace ae := mk0 (Kd.V_elder' (v_ ae) (Kd.S_base ho0) hb)
            replace av := mk0 (Kd.V_elder' (v_ av) (Kd.S_base ho0) hb)
            replace aC := mk0 (Kd.N_elder' (nn_ aC) (Kd.S_base ho0) hb)
            replace a7 := mk0 (Kd.N_elder' (nn_ a7) (Kd.S_base ho0) hb)
            replace ab := mk0 (u_ ab hb)
            replace ad := mk0 (u_ ad hb)
            replace af := mk0 (u_ af hb)
            replace ac := mk0 (u_ ac hb)
            replace HB := mk0 (bt_ (b_ HB) hb)
            have bJ := a9
            clear a9
            (try clear hb)
            (try clear hk)
            (try clear hi)
            (try clear ho0)
            obtain ⟨bW, bX, cG⟩ := Kd.N_slice bJ.out
            (first | subst cG | (injection cG with f1_ f2_ f3_; have f4_ := f1_.symm; have f5_ := f3_.symm; clear f1_ f2_ f3_; subst f4_; subst f5_))
            refine hK.out _ _ ⟨bk_ ab 0, bk_ ac 0, bk_ ac 1⟩ (fun hHeld => ?_)
            clear hK K
            refine norm_ (a' := ?_) ?_ ?_
            rotate_left
            ·show Act.put _ (some 53) _ = _
             simp only [z_]
             rfl
            refine one_ (i := 10) (N := some 54) (bt 14 2047) rfl rfl (one_of HT_.out (by kernel_rfl)) (by decide) (fun K hK => ?_)
            refine Kd.N_append_rows_step k99 (w0 := w) w.heap.size (by rfl) (.tmp 51) (.tmp 53) 45 99 (.agg #[(.string ⟨#[]⟩), (.slice none 0 0)]) 40 rfl Try.underlying45 info99 rfl (by decide) (by omega) bV bc aN _ _ _ (fun k_ => (P0_0_ k_ ∨ w.heap.size ≤ k_) ∧ k_ ≠ al ∧ k_ ≠ ah ∧ k_ ≠ ak ∧ k_ ≠ aa) (fun k_ => ((fun k_ => (P0_0_ k_ ∨ w.heap.size ≤ k_) ∧ k_ ≠ al ∧ k_ ≠ ah ∧ k_ ≠ ak ∧ k_ ≠ aa)) k_ ∧ some k_ ≠ (bV : Value).ownBlock) rfl rfl ?aO ?aR (fun _ hk => hk) ?aF ?aB ?aS ?aL ?_
            (case aR => exact (by skip; exact Kd.N_F (Kd.N_mono (ok' := (fun k_ => ((fun k_ => (P0_0_ k_ ∨ w.heap.size ≤ k_) ∧ k_ ≠ al ∧ k_ ≠ ah ∧ k_ ≠ ak ∧ k_ ≠ aa)) k_ ∧ some k_ ≠ (bV : Value).ownBlock)) (bJ.out) (fun k_ hk => ⟨⟨hk.1, ⟨hk.2.2.2.1, ⟨hk.2.2.2.2.1, ⟨hk.2.2.2.2.2.1, hk.2.2.2.2.2.2⟩⟩⟩⟩, hk.2.2.1⟩))))
            (case aB => exact (b_ HB))
            (case aF => exact (fun k_ hk => ⟨(.inr (Nat.le_trans (bz_ (b_ HB)) hk)), Kd.freshB (g := al) (o := .cells #[.slice A0_0 l0_0.length c0_0] 47 (0, 0)) (h_ ab) k_ hk, Kd.freshB (g := ah) (o := .cells #[.int .i64 a2_0, .string a2_1, .bool a2_2] 72 (0, 0)) (h_ ad) k_ hk, Kd.freshB (g := ak) (o := .cells #[.slice none 0 0] 47 (0, 0)) (h_ af) k_ hk, Kd.freshB (g := aa) (o := .cells #[.string ai, .slice aP ag.length aQ] 99 (0, 0)) (h_ ac) k_ hk⟩))
            (case aO => exact (n2_ (Kd.N_mono a7.out (fun _ hk => ⟨hk.1.1, ⟨hk.1.2.1, ⟨hk.1.2.2.1, ⟨hk.1.2.2.2.1, hk.1.2.2.2.2⟩⟩⟩⟩))))
            (case aS => exact (bz_ (b_ HB)))
            (case aL => have := LMc60.out; omega)
            intro eW eI ho hb hg hat
            rw [← cP.out] at ho
            replace ao := mk0 (Kd.V_afterv (ok := (fun k_ => (P0_0_ k_ ∨ w.heap.size ≤ k_) ∧ some k_ ≠ (.slice bn aH.length bo : Value).ownBlock ∧ some k_ ≠ (.slice bW aN.length bX : Value).ownBlock ∧ k_ ≠ al ∧ k_ ≠ ah ∧ k_ ≠ ak ∧ k_ ≠ aa)) (v2_ (Kd.V_mono ao.out (fun _ hk => ⟨⟨hk.1.1.1, ⟨hk.1.1.2.1, ⟨hk.2, ⟨hk.1.1.2.2.1, ⟨hk.1.1.2.2.2.1, ⟨hk.1.1.2.2.2.2.1, hk.1.1.2.2.2.2.2⟩⟩⟩⟩⟩⟩, hk.1.2⟩))) hg hat)
            replace ae := mk0 (Kd.V_afterv (ok := (fun k_ => (P0_0_ k_ ∨ w.heap.size ≤ k_) ∧ some k_ ≠ (.slice bn aH.length bo : Value).ownBlock ∧ some k_ ≠ (.slice bW aN.length bX : Value).ownBlock ∧ k_ ≠ al ∧ k_ ≠ ah ∧ k_ ≠ ak ∧ k_ ≠ aa)) (v2_ (Kd.V_mono ae.out (fun _ hk => ⟨⟨hk.1.1.1, ⟨hk.1.1.2.1, ⟨hk.2, ⟨hk.1.1.2.2.1, ⟨hk.1.1.2.2.2.1, ⟨hk.1.1.2.2.2.2.1, hk.1.1.2.2.2.2.2⟩⟩⟩⟩⟩⟩, hk.1.2⟩))) hg hat)
            replace ab := mk0 (blk_grown (g := al) (o := .cells #[.slice A0_0 l0_0.length c0_0] 47 (0, 0)) (h_ ab) hg (Kd.N_ne a7.out ab.out (by decide)))
            replace ad := mk0 (blk_grown (g := ah) (o := .cells #[.int .i64 a2_0, .string a2_1, .bool a2_2] 72 (0, 0)) (h_ ad) hg (Kd.N_ne a7.out ad.out (by decide)))
            replace af := mk0 (blk_grown (g := ak) (o := .cells #[.slice none 0 0] 47 (0, 0)) (h_ af) hg (Kd.N_ne a7.out af.out (by decide)))
            replace ac := mk0 (blk_grown (g := aa) (o := .cells #[.string ai, .slice aP ag.length aQ] 99 (0, 0)) (h_ ac) hg (Kd.N_away a7.out (fun _ hk => hk.1.2.2.2.2)))
            replace av := mk0 (Kd.V_afterv (ok := (fun k_ => (P0_0_ k_ ∨ w.heap.size ≤ k_) ∧ some k_ ≠ (.slice bn aH.length bo : Value).ownBlock ∧ some k_ ≠ (.slice bW aN.length bX : Value).ownBlock ∧ k_ ≠ al ∧ k_ ≠ ah ∧ k_ ≠ ak ∧ k_ ≠ aa)) (v2_ (Kd.V_mono av.out (fun _ hk => ⟨⟨hk.1.1.1, ⟨hk.1.1.2.1, ⟨hk.2, ⟨hk.1.1.2.2.1, ⟨hk.1.1.2.2.2.1, ⟨hk.1.1.2.2.2.2.1, hk.1.1.2.2.2.2.2⟩⟩⟩⟩⟩⟩, hk.1.2⟩))) hg hat)
            replace aC := mk0 (Kd.N_afterv (ok := (fun k_ => (P0_0_ k_ ∨ w.heap.size ≤ k_) ∧ some k_ ≠ (.slice bW aN.length bX : Value).ownBlock ∧ k_ ≠ al ∧ k_ ≠ ah ∧ k_ ≠ ak ∧ k_ ≠ aa)) (n2_ (Kd.N_mono aC.out (fun _ hk => ⟨⟨hk.1.1.1, ⟨hk.2, ⟨hk.1.1.2.1, ⟨hk.1.1.2.2.1, ⟨hk.1.1.2.2.2.1, hk.1.1.2.2.2.2⟩⟩⟩⟩⟩, hk.1.2⟩))) hg hat)
            replace bJ := mk0 (Kd.N_afterv (ok := (fun k_ => (P0_0_ k_ ∨ w.heap.size ≤ k_) ∧ some k_ ≠ (.slice bn aH.length bo : Value).ownBlock ∧ k_ ≠ al ∧ k_ ≠ ah ∧ k_ ≠ ak ∧ k_ ≠ aa)) (n2_ (Kd.N_mono bJ.out (fun _ hk => ⟨⟨hk.1, ⟨hk.2.1, ⟨hk.2.2.2.1, ⟨hk.2.2.2.2.1, ⟨hk.2.2.2.2.2.1, hk.2.2.2.2.2.2⟩⟩⟩⟩⟩, hk.2.2.1⟩))) hg hat)
            replace HB := mk0 (hb)
            have ct := mk0 (ho)
            clear a7
            clear ho hb hg hat
            obtain ⟨cH, cI, cJ⟩ := Kd.N_slice ct.out
            (first | subst cJ | (injection cJ with f1_ f2_ f3_; have f4_ := f1_.symm; have f5_ := f3_.symm; clear f1_ f2_ f3_; subst f4_; subst f5_))
            refine hK.out _ _ ⟨bk_ ab 0, bk_ ac 0, bk_ ac 1⟩ (fun hHeld => ?_)
            clear hK K
            refine norm_ (a' := ?_) ?_ ?_
            rotate_left
            ·show Act.put _ (some 54) _ = _
             simp only [z_]
             rfl
            refine pq_ HT_.out 11 55 (bt 14 4095) (h := ?_)
            refine one_ (i := 12) (N := none) (bt 14 8191) rfl rfl (one_of HT_.out (by kernel_rfl)) (by decide) (fun K hK => ?_)
            have hs84 : eI.cell? ⟨ak, 0, none⟩ = some (.slice none 0 0) := bk_ af 0
            have hfs84 := blk_frozen af.out 0
            have dF := aI.out
            have dG := a5.out
            have dH := ax.out
            have dI := aV.out
            have dJ := a6.out
            have dK := ar.out
            refine skip_ (w1 := ?_) (by rfl) rfl ?_ ?_
            rotate_left
            ·go_simp
             rfl
            refine hK.out _ _ ⟨(cf_ aI.out hHeld.1), (cf_ ax.out hHeld.2.1), (cf_ ax.out hHeld.2.2)⟩ (fun hHeld => ?_)
            clear hK K
            refine pq_ HT_.out 13 7 (bt 14 16383) (h := ?_)
            refine done_ (done_of HT_.out (by kernel_rfl)) ?_
            try go_wp2
            refine bodyPost_ret (results_ct rfl _ _ ak 47 #[.slice cH co.length cI] (0, 0) _ rfl (pu_ (cs := #[.slice none 0 0]) (h_ af)) Try.underlying47 rfl (by kernel_rfl)) rfl ?_
            exact ⟨_, sa_, by (with_reducible repeat (first | apply Kd.N_alloc | apply Kd.N_drewN | apply Kd.N_drew)); exact Kd.N_mono (Kd.N_far (p := ⟨ak, 0, none⟩) (Kd.N_mono ct.out (fun k_ hk => (⟨hk, hk.2.2.2.1⟩ : _ ∧ k_ ≠ ak))) (fun _ hk => hk.2) (.slice cH co.length cI)) (fun _ hk => hk.1.1), b_ HB⟩
           ·rw [if_neg cy] at H
            exact absurd H (by simp)
          ·rw [if_neg cx] at H
           exact absurd H (by simp)
         ·rw [if_neg cm] at H
          exact absurd H (by simp)
        ·rw [if_neg cl] at H
         exact absurd H (by simp)
      ·replace cw := Bool.eq_false_iff.mpr cw
       subst cw
       rw [if_neg nf_] at H
       simp only [Option.some.injEq, Prod.mk.injEq] at H
       obtain ⟨rfl, rfl⟩ := H
       have eJ := aJ.out
       have eK := aq.out
       have eL := aK.out
       have eM := ap.out
       have eN := ax.out
       have eO := ar.out
       obtain ⟨dL, dM, dN, dO⟩ := c2_ ac
       obtain ⟨dP, dQ, dR⟩ := Kd.R_slice aj.out
       subst dR
       go_wp2_with (first | ((with_reducible refine gate_callee (f := 92) rfl ?_); refine gL_ (some 37) Try.func92 #[.agg #[.string ai, .slice dP ag.length dQ]] (h := ?_); (with_reducible refine (quorumref8_Chain.calls bs ai _ _ ag false _ ?side1 ?side2 cM.out).mono ?_); (case side1 => exact cr_ aj); (case side2 => exact (Kd.R_reads' aj.out).2.1); rintro e fa ⟨rfl, hb⟩; refine ⟨_, rfl, ?_⟩; replace ao := mk0 (Kd.V_below (v_ ao) hb); replace ae := mk0 (Kd.V_below (v_ ae) hb); replace aj := mk0 (Kd.R_below (r_ aj) hb); replace ab := mk0 (u_ ab hb); replace ad := mk0 (u_ ad hb); replace af := mk0 (u_ af hb); replace ac := mk0 (u_ ac hb); replace HB := mk0 (bt_ (b_ HB) hb); (try clear hb); have eP := aV.out; have eQ := aI.out; have eR := a6.out; have eS := a5.out; obtain ⟨dS, dT⟩ := c1_ af))
       refine bodyPost_ret (results_ct rfl _ _ ak 47 #[.slice none 0 0] (0, 0) _ rfl (pu_ (cs := #[.slice none 0 0]) (h_ af)) Try.underlying47 rfl (by kernel_rfl)) rfl ?_
       exact ⟨_, sa_, nl_, b_ HB⟩
  ·rw [if_neg c6] at H
   exact absurd H (by simp)
 ·rw [if_neg c5] at H
  exact absurd H (by simp)
/-! ### table_Check: function 86 -/
def table_Check.f (k : Nat) (l0_0 : List (S99)) : Option (Int) := (table_May.f k l0_0).bind fun t482 => (if t482 = true then (some 0) else (some 1))
theorem table_Check.mono : ∀ a0 k, LeO (table_Check.f k a0) (table_Check.f (k + 1) a0) := by
 intro a0 k
 unfold table_Check.f
 repeat' first | (with_reducible exact table_May.mono ..) | (with_reducible exact LeO.refl _) | (with_reducible exact LeO.none _) | (with_reducible refine LeO.ite ?_ ?_) | (with_reducible refine LeO.bind ?_ (fun _ => ?_)) | exact LeO.none _ | refine LeO.ite ?_ ?_ | refine LeO.bind ?_ (fun _ => ?_)
theorem table_Check.calls (k : Nat) (A0_0 : Option Addr) (c0_0 : Nat) (l0_0 : List (S99)) (r : Int) (w : World) (hr0_0 : Kd.C k99 w A0_0 l0_0.length l0_0) (hc0_0 : l0_0.length ≤ c0_0) (h : table_Check.f k l0_0 = some r) :
  Calls Try.prog 86 #[.agg #[.slice A0_0 l0_0.length c0_0]] w fun e w' => e = .returned (.int .i64 r) ∧ Below w.heap.size w w' := by
 have hu47 := Try.underlying47
 have ab := mk0 hr0_0
 have ac := mk0 hc0_0
 clear hr0_0 hc0_0
 have HB := mk0 (Below.refl w.heap.size w)
 have H : ((table_May.f k l0_0).bind fun ad => (if ad = true then (some 0) else (some 1))) = some r := h
 clear h
 replace H := ob_ H
 obtain ⟨ad, A2, H⟩ := H
 try dsimp only at H
 by_cases c3 : ad = true
 ·subst c3
  rw [if_pos rfl] at H
  obtain rfl := Option.some.inj H
  go_enter Try.func86, Try.ntmps86
  go_wp2_with (first | ((with_reducible refine gate_dst (N := 1) rfl ?_); refine bx_ (N := 1) (cs := #[.slice A0_0 l0_0.length c0_0]) (t := 47) (h := ?_); intro af hg w4 hbox hb; have n2_ := mk0 (gz_ HB hg); have ae := mk0 (gz_ HB hg); replace HB := mk0 (bt_ (b_ HB) hb); have aa := mk0 (hbox); have ag := n2_; have ah := ae; clear n2_ ae hb hbox hg; obtain ⟨ai, aj⟩ := c1_ aa) | ((with_reducible refine gate_callee (f := 95) rfl ?_); refine gL_ (some 4) Try.func95 #[.agg #[.slice A0_0 l0_0.length c0_0]] (h := ?_); (with_reducible refine (table_May.calls k _ _ l0_0 true _ ?side1 ?side2 A2.out).mono ?_); (case side1 => exact cb_ ab HB); (case side2 => exact ac.out); rintro e w6 ⟨rfl, hb⟩; refine ⟨_, rfl, ?_⟩; replace aa := mk0 (u_ aa hb); replace HB := mk0 (bt_ (b_ HB) hb); (try clear hb)))
  go_ret
  exact ⟨sa_, b_ HB⟩
 ·replace c3 := Bool.eq_false_iff.mpr c3
  subst c3
  rw [if_neg nf_] at H
  obtain rfl := Option.some.inj H
  go_enter Try.func86, Try.ntmps86
  go_wp2_with (first | ((with_reducible refine gate_dst (N := 1) rfl ?_); refine bx_ (N := 1) (cs := #[.slice A0_0 l0_0.length c0_0]) (t := 47) (h := ?_); intro af hg w7 hbox hb; have n2_ := mk0 (gz_ HB hg); have ae := mk0 (gz_ HB hg); replace HB := mk0 (bt_ (b_ HB) hb); have aa := mk0 (hbox); have ag := n2_; have ah := ae; clear n2_ ae hb hbox hg; obtain ⟨ak, al⟩ := c1_ aa) | ((with_reducible refine gate_callee (f := 95) rfl ?_); refine gL_ (some 4) Try.func95 #[.agg #[.slice A0_0 l0_0.length c0_0]] (h := ?_); (with_reducible refine (table_May.calls k _ _ l0_0 false _ ?side1 ?side2 A2.out).mono ?_); (case side1 => exact cb_ ab HB); (case side2 => exact ac.out); rintro e w9 ⟨rfl, hb⟩; refine ⟨_, rfl, ?_⟩; replace aa := mk0 (u_ aa hb); replace HB := mk0 (bt_ (b_ HB) hb); (try clear hb)))
  go_ret
  exact ⟨sa_, b_ HB⟩
/-! ### quorumlaw0_Table: function 87 (by hand) -/
def quorumlaw0_Table.f (k : Nat) (l0_0 : List S99) : Option (List S99) := if l0_0.length < 4398046511104 then some l0_0 else none
theorem quorumlaw0_Table.mono : ∀ a0 k, LeO (quorumlaw0_Table.f k a0) (quorumlaw0_Table.f (k + 1) a0) := fun _ _ => LeO.refl _
end Go.Proofs.Ytbaecdcfefmcgaa.PTbe
