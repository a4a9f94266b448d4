-- PRINTED by print.py (a twelfth state) out of the translation. Not trusted: Lean checks it.
import Derived.Test.YtbaecdcfefmcgaaPTbex0
import Derived.Test.YtbaecdcfefmcgaaPTbex18
namespace Go.Proofs.Ytbaecdcfefmcgaa.PTbe
open Go.RowKit Go.Proofs.YtbaecdcfefmcgaaW.PrintWords Go.Proofs.YtbaecdcfefmcgaaW.PrintLast Go.Proofs.YtbaecdcfefmcgaaW.PrintMore
attribute [local go_sem] max2_int min2_int max_two min_two max_three min_three max_four min_four   -- for this text's walks alone
set_option maxHeartbeats 8000000
set_option maxRecDepth 100000
set_option linter.unusedVariables false
set_option linter.unusedSimpArgs false
/-! ### quorumlaw9_only: function 32 -/
def quorumlaw9_only.l0 : Nat → List Int → Int → List (S99) → List (S76) → List (S99) → List (S76) → Option (Bool)
 | 0, _, _, _, _, _, _ => none
 | k + 1, x1, x6, J, I, K, L => if x6 < (I.length : Int) then (if 0 ≤ x6 then (if (x1.length : Int) = 0 then (none) else (if 0 ≤ (Int.tmod x6 (x1.length : Int)) then (if (Int.tmod x6 (x1.length : Int)) < (x1.length : Int) then (if L.length < 1172812402961 then (quorumlaw9_only.l0 k x1 (wrap64 (x6 + 1)) J I K (L ++ [(⟨rd x1 (Int.tmod x6 (x1.length : Int)), (rd_T76 I x6).f1, (rd_T76 I x6).f2, (rd_T76 I x6).f3, (⟨(rd_T76 I x6).f4.f0, (rd_T76 I x6).f4.f1, (rd_T76 I x6).f4.f2⟩ : S72), (⟨(rd_T76 I x6).f5.f0, (rd_T76 I x6).f5.f1, (rd_T76 I x6).f5.f2⟩ : S74), (rd_T76 I x6).f6⟩ : S76)])) else (none)) else (none)) else (none))) else (none)) else ((quorumlaw9_TableExact.f k K L).bind fun t585 => (some t585))
def quorumlaw9_only.f (k : Nat) (A : List (S99)) (q : List (S76)) (l1 : List Int) : Option (Bool) := quorumlaw9_only.l0 k l1 0 A q A ([] : List (S76))
theorem quorumlaw9_only.mono_l : ∀ k, (∀ y0 y1 y2 y3 y4 y5, LeO (quorumlaw9_only.l0 k y0 y1 y2 y3 y4 y5) (quorumlaw9_only.l0 (k + 1) y0 y1 y2 y3 y4 y5))
 | 0 => fun _ _ _ _ _ _ r h => by simp [quorumlaw9_only.l0] at h
 | k + 1 => by
  have ih0 := quorumlaw9_only.mono_l k
  all_goals (intros; first | unfold quorumlaw9_only.l0)
  all_goals (repeat' first | (with_reducible exact ih0 ..) | (with_reducible exact quorumlaw9_TableExact.mono ..) | (with_reducible exact LeO.refl _) | (with_reducible exact LeO.none _) | (with_reducible refine LeO.ite ?_ ?_) | (with_reducible refine LeO.bind ?_ (fun _ => ?_)) | exact LeO.none _ | refine LeO.ite ?_ ?_ | refine LeO.bind ?_ (fun _ => ?_))
theorem quorumlaw9_only.mono : ∀ a0 a1 a2 k, LeO (quorumlaw9_only.f k a0 a1 a2) (quorumlaw9_only.f (k + 1) a0 a1 a2) := by
 intro a0 a1 a2 k
 have ih0 := quorumlaw9_only.mono_l k
 unfold quorumlaw9_only.f
 repeat' first | (with_reducible exact ih0 ..) | (with_reducible exact quorumlaw9_TableExact.mono ..) | (with_reducible exact LeO.refl _) | (with_reducible exact LeO.none _) | (with_reducible refine LeO.ite ?_ ?_) | (with_reducible refine LeO.bind ?_ (fun _ => ?_)) | exact LeO.none _ | refine LeO.ite ?_ ?_ | refine LeO.bind ?_ (fun _ => ?_)
theorem quorumlaw9_only.calls (k : Nat) (B : Option Addr) (D : Nat) (A : List (S99)) (E : Option Addr) (G : Nat) (q : List (S76)) (A1 : Option Addr) (c1 : Nat) (l1 : List Int) (r : Bool) (w : World) (O : Kd.C k99 w B A.length A) (P : A.length ≤ D) (Q : Kd.C k76 w E q.length q) (U : q.length ≤ G) (hr1 : Kd.C (Kd.int .i64) w A1 l1.length l1) (hc1 : l1.length ≤ c1) (h : quorumlaw9_only.f k A q l1 = some r) :
  Calls Try.prog 32 #[.agg #[.slice B A.length D, .slice E q.length G], .slice A1 l1.length c1] w fun e w' => e = .returned (.bool r) ∧ Below w.heap.size w w' := by
 have hu66 := Try.underlying66
 have hu76 := Try.underlying76
 have br := mk0 O
 have bs := mk0 P
 clear O P
 have bt := mk0 Q
 have cq := mk0 U
 clear Q U
 have HR1 := mk0 hr1
 have HC1 := mk0 hc1
 clear hr1 hc1
 have HB := mk0 (Below.refl w.heap.size w)
 have H : (quorumlaw9_only.l0 k l1 0 A q A ([] : List (S76))) = some r := h
 clear h
 have H' := mk0 H
 clear H
 go_enter Try.func32, Try.ntmps32
 go_wp2_with (first | ((with_reducible refine gate_dst (N := 2) rfl ?_); refine bx_ (N := 2) (cs := #[.slice B A.length D, .slice E q.length G]) (t := 66) (h := ?_); intro aZ hg w3 hbox hb; have bc := mk0 (gz_ HB hg); replace HB := mk0 (bt_ (b_ HB) hb); have ah := mk0 (hbox); have cr := bc; clear bc hb hbox hg; obtain ⟨bd, be, bf, bg⟩ := c2_ ah) | ((with_reducible refine gate_dst (N := 5) rfl ?_); refine bx_ (N := 5) (cs := #[.slice none 0 0, .slice none 0 0]) (t := 66) (h := ?_); intro aV hg w5 hbox hb; have bc := mk0 (gz_ HB hg); have bz := mk0 (gz_ HB hg); have a3 := mk0 (ne1_ ah hg); have a4 := mk0 (ne2_ ah hg); replace ah := mk0 (u_ ah hb); replace HB := mk0 (bt_ (b_ HB) hb); have ai := mk0 (hbox); have ct := bz; have aj := a3; have ap := a4; clear bc bz a3 a4 hb hbox hg; have cJ := ap.out; have cK := aj.out; obtain ⟨bh, bi, bj, bk⟩ := c2_ ai))
 go_loopg [6] k (fun kq v6 w' => ∃ (aa : Int) (ag : List (S76)) (an : Value), v6 = .int .i64 aa ∧ Fc (quorumlaw9_only.l0 kq l1 aa A q A ag = some r) ∧ Fc (kq ≤ k) ∧ Fc (Kd.R k76 76 w' w.heap.size (fun _ => True) an ag) ∧ Fc (w'.heap[aZ]? = some (.cells #[(.slice B A.length D), (.slice E q.length G)] 66 (0, 0))) ∧ Fc (w'.heap[aV]? = some (.cells #[(.slice B A.length D), an] 66 (0, 0))) ∧ Fc (Below w.heap.size w w'))
 case atStart => exact ⟨(0), (([] : List (S76))), (.slice none 0 0), sm_, H', ⟨Nat.le_refl _⟩, ⟨nl_⟩, ⟨(fa_ (fa_ (fa_ (h_ ah) aj.out) aj.out) aj.out)⟩, ⟨(pu_ (cs := #[.slice B A.length D, .slice E q.length G]) (pu_ (cs := #[.slice B A.length D, .slice none 0 0]) (pu_ (cs := #[.slice none 0 0, .slice none 0 0]) (h_ ai))))⟩, ⟨b_ HB⟩⟩
 case round =>
  clear H'
  try clear bd
  try clear be
  try clear bh
  try clear bi
  try clear bf
  try clear bg
  try clear bj
  try clear bk
  obtain ⟨aa, ag, an, rfl, HA, bA, af, ah, ai, HB⟩ := hrel
  cases gk with
  | zero => exact absurd HA.out (by simp [quorumlaw9_only.l0])
  | succ k1 =>
   have H := HA.out
   clear HA
   simp only [quorumlaw9_only.l0] at H
   focus
    by_cases c8 : aa < (q.length : Int)
    ·rw [if_pos c8] at H
     have bB := decide_eq_true c8
     clear c8
     by_cases c9 : 0 ≤ aa
     ·rw [if_pos c9] at H
      have cL := decide_eq_true c9
      clear c9
      by_cases a5 : (l1.length : Int) = 0
      ·rw [if_pos a5] at H
       exact absurd H (by simp)
      ·rw [if_neg a5] at H
       have cu := beq_eq_false_iff_ne.mpr a5
       have cv := bne_iff_ne.mpr a5
       have cw : ¬ (l1 = []) := fun h_ => a5 (by rw [h_]; rfl)
       obtain ⟨ak, a6⟩ : ∃ j_ : Int, (Int.tmod aa (l1.length : Int)) = j_ := ⟨_, rfl⟩
       replace H : (if 0 ≤ (ak) then (if (ak) < (l1.length : Int) then (if ag.length < 1172812402961 then (quorumlaw9_only.l0 k1 l1 (wrap64 (aa + 1)) A q A (ag ++ [(⟨rd l1 (ak), (rd_T76 q aa).f1, (rd_T76 q aa).f2, (rd_T76 q aa).f3, (⟨(rd_T76 q aa).f4.f0, (rd_T76 q aa).f4.f1, (rd_T76 q aa).f4.f2⟩ : S72), (⟨(rd_T76 q aa).f5.f0, (rd_T76 q aa).f5.f1, (rd_T76 q aa).f5.f2⟩ : S74), (rd_T76 q aa).f6⟩ : S76)])) else (none)) else (none)) else (none)) = some r := by first | (rw [a6] at H; exact H) | (simp only [a6] at H ⊢; exact H)
       by_cases bl : 0 ≤ (ak)
       ·rw [if_pos bl] at H
        have cx := decide_eq_true bl
        clear bl
        by_cases bm : (ak) < (l1.length : Int)
        ·rw [if_pos bm] at H
         have cy := decide_eq_true bm
         clear bm
         by_cases bn : ag.length < 1172812402961
         ·rw [if_pos bn] at H
          have LMc14 := mk0 bn
          clear bn
          obtain ⟨aY, aD⟩ : ∃ y_ : List (S76), y_ = (ag ++ [(⟨rd l1 (ak), (rd_T76 q aa).f1, (rd_T76 q aa).f2, (rd_T76 q aa).f3, (⟨(rd_T76 q aa).f4.f0, (rd_T76 q aa).f4.f1, (rd_T76 q aa).f4.f2⟩ : S72), (⟨(rd_T76 q aa).f5.f0, (rd_T76 q aa).f5.f1, (rd_T76 q aa).f5.f2⟩ : S74), (rd_T76 q aa).f6⟩ : S76)]) := ⟨_, rfl⟩
          replace H : (quorumlaw9_only.l0 k1 l1 (wrap64 (aa + 1)) A q A aY) = some r := by first | (rw [aD]; with_reducible exact H) | (have H2_ := (Option.bind_some _ _).symm.trans H; rw [aD]; with_reducible exact H2_) | (have H2_ := (Option.bind_some _ _).symm.trans H; with_reducible exact H2_) | with_reducible exact H | (rw [aD]; exact H) | exact H
          have bu := mk0 aD
          clear aD
          have H' := mk0 H
          clear H
          have cz := aj.out
          have cA := ap.out
          obtain ⟨bC, bD, bE, bF⟩ := c2_ ah
          have a7 : 0 ≤ (aa : Int) := od_
          have a8 : aa < (q.length : Int) := od_
          obtain ⟨bv, bG, aH, aI, aJ, aK, aM, aN, aQ, aR, aT, aU, aE⟩ := at_T76 bt.out aa a7 a8
          cases bG
          replace aH := (bc_ HB aH :)
          replace aI := (bc_ HB aI :)
          replace aJ := (bc_ HB aJ :)
          replace aK := (bc_ HB aK :)
          replace aM := (bc_ HB aM :)
          replace aN := (bc_ HB aN :)
          replace aQ := (bc_ HB aQ :)
          replace aR := (bc_ HB aR :)
          replace aT := (bc_ HB aT :)
          replace aU := (bc_ HB aU :)
          replace aE := (bc_ HB aE :)
          replace a7 := eq_true a7
          replace a8 := eq_true a8
          go_wp2_with (first | ((with_reducible refine gate_dst (N := 7) rfl ?_); refine bx_ (N := 7) (cs := #[.int .i64 0, .int .i64 0, .int .i64 0, .string (⟨#[]⟩ : ByteArray), .int .i64 0, .string (⟨#[]⟩ : ByteArray), .bool false, .string (⟨#[]⟩ : ByteArray), .string (⟨#[]⟩ : ByteArray), .bool false, .bool false]) (t := 76) (h := ?_); intro ac hg cN hbox hb; have a3 := mk0 (gz_ HB hg); have a4 := mk0 (gz_ HB hg); have bH := mk0 (ne1_ ah hg); have bI := mk0 (ne2_ ah hg); have bJ := mk0 (ne1_ ai hg); have bo := mk0 (ne2_ ai hg); replace af := mk0 (Kd.R_below (Kd.R_elderB (r_ af) ac (Nat.le_of_eq hg.symm)) hb); replace ah := mk0 (u_ ah hb); replace ai := mk0 (u_ ai hb); replace HB := mk0 (bt_ (b_ HB) hb); have aG := mk0 (hbox); have al := a3; have cB := a4; have ad := bH; have aW := bI; have ae := bJ; have aX := bo; clear a3 a4 bH bI bJ bo hb hbox hg; have cC := aW.out; have cD := ad.out; have cE := aX.out; have cF := ae.out; obtain ⟨bK, bL, bM, bN, bO, bP, bQ, bR, bS, bT, bw, bU, bV, bW, bX, bY, bZ, b0, b1, b2, b3, bx⟩ := c11_ aG; have a9 : 0 ≤ ((ak) : Int) := od_; have ba : (ak) < (l1.length : Int) := od_; obtain ⟨am, b4, ab⟩ := Kd.at_int HR1.out (ak) a9 ba; cases b4; have aq : am.block ≠ ac := nb_ ab al; have ar : am.block ≠ ac := nb_ ab al; have au : am.block ≠ ac := nb_ ab al; have av : am.block ≠ ac := nb_ ab al; have aw : am.block ≠ ac := nb_ ab al; have ax : am.block ≠ ac := nb_ ab al; have ay : am.block ≠ ac := nb_ ab al; have az : am.block ≠ ac := nb_ ab al; have aA : am.block ≠ ac := nb_ ab al; have aC : am.block ≠ ac := nb_ ab al; have ao : am.block ≠ ac := nb_ ab al; replace ab := (bc_ HB ab :); replace ab := (cell_far (p := ⟨ac, 0, none⟩) (by first | (rw [add_block]; exact aq) | (show (Addr.add _ _).block ≠ _; rw [add_block]; exact aq) | exact aq) (.int .i64 ((rd_T76 q aa).f0))).trans ab; replace ab := (cell_far (p := ⟨ac, 1, none⟩) (by first | (rw [add_block]; exact ar) | (show (Addr.add _ _).block ≠ _; rw [add_block]; exact ar) | exact ar) (.int .i64 ((rd_T76 q aa).f1))).trans ab; replace ab := (cell_far (p := ⟨ac, 2, none⟩) (by first | (rw [add_block]; exact au) | (show (Addr.add _ _).block ≠ _; rw [add_block]; exact au) | exact au) (.int .i64 ((rd_T76 q aa).f2))).trans ab; replace ab := (cell_far (p := ⟨ac, 3, none⟩) (by first | (rw [add_block]; exact av) | (show (Addr.add _ _).block ≠ _; rw [add_block]; exact av) | exact av) (.string ((rd_T76 q aa).f3))).trans ab; replace ab := (cell_far (p := ⟨ac, 4, none⟩) (by first | (rw [add_block]; exact aw) | (show (Addr.add _ _).block ≠ _; rw [add_block]; exact aw) | exact aw) (.int .i64 ((rd_T76 q aa).f4.f0))).trans ab; replace ab := (cell_far (p := ⟨ac, 5, none⟩) (by first | (rw [add_block]; exact ax) | (show (Addr.add _ _).block ≠ _; rw [add_block]; exact ax) | exact ax) (.string ((rd_T76 q aa).f4.f1))).trans ab; replace ab := (cell_far (p := ⟨ac, 6, none⟩) (by first | (rw [add_block]; exact ay) | (show (Addr.add _ _).block ≠ _; rw [add_block]; exact ay) | exact ay) (.bool ((rd_T76 q aa).f4.f2))).trans ab; replace ab := (cell_far (p := ⟨ac, 7, none⟩) (by first | (rw [add_block]; exact az) | (show (Addr.add _ _).block ≠ _; rw [add_block]; exact az) | exact az) (.string ((rd_T76 q aa).f5.f0))).trans ab; replace ab := (cell_far (p := ⟨ac, 8, none⟩) (by first | (rw [add_block]; exact aA) | (show (Addr.add _ _).block ≠ _; rw [add_block]; exact aA) | exact aA) (.string ((rd_T76 q aa).f5.f1))).trans ab; replace ab := (cell_far (p := ⟨ac, 9, none⟩) (by first | (rw [add_block]; exact aC) | (show (Addr.add _ _).block ≠ _; rw [add_block]; exact aC) | exact aC) (.bool ((rd_T76 q aa).f5.f2))).trans ab; replace ab := (cell_far (p := ⟨ac, 10, none⟩) (by first | (rw [add_block]; exact ao) | (show (Addr.add _ _).block ≠ _; rw [add_block]; exact ao) | exact ao) (.bool ((rd_T76 q aa).f6))).trans ab; clear aq ar au av aw ax ay az aA aC ao; replace a9 := eq_true a9; replace ba := eq_true ba; obtain ⟨b5, b6, b7, b8⟩ := c2_ ai) | ((with_reducible refine gate_builtin (b := .append) (xs := #[.tmp 31, .tmp 33]) rfl ?_); at_builtin; refine Kd.R_append k76 (w0 := w) w.heap.size rfl (.tmp 31) (.tmp 33) 64 76 (.agg #[(.int .i64 0), (.int .i64 0), (.int .i64 0), (.string ⟨#[]⟩), (.int .i64 0), (.string ⟨#[]⟩), (.bool false), (.string ⟨#[]⟩), (.string ⟨#[]⟩), (.bool false), (.bool false)]) 120 rfl Try.underlying64 info76 rfl (by decide) (by omega) an ag (⟨rd l1 (ak), (rd_T76 q aa).f1, (rd_T76 q aa).f2, (rd_T76 q aa).f3, (⟨(rd_T76 q aa).f4.f0, (rd_T76 q aa).f4.f1, (rd_T76 q aa).f4.f2⟩ : S72), (⟨(rd_T76 q aa).f5.f0, (rd_T76 q aa).f5.f1, (rd_T76 q aa).f5.f2⟩ : S74), (rd_T76 q aa).f6⟩ : S76) [.int .i64 (rd l1 (ak)), .int .i64 ((rd_T76 q aa).f1), .int .i64 ((rd_T76 q aa).f2), .string ((rd_T76 q aa).f3), .int .i64 ((rd_T76 q aa).f4.f0), .string ((rd_T76 q aa).f4.f1), .bool ((rd_T76 q aa).f4.f2), .string ((rd_T76 q aa).f5.f0), .string ((rd_T76 q aa).f5.f1), .bool ((rd_T76 q aa).f5.f2), .bool ((rd_T76 q aa).f6)] (fun k_ => k_ ≠ ac) (fun _ => False) rfl (by first | (go_simp; done) | (go_simp; rfl)) ?aP (fun _ hk => hk.elim) ?aF ?aO ?aB ?aS ?aL ?_; (case aP => exact k76_mkM _ _ _ (⟨rd l1 (ak), (rd_T76 q aa).f1, (rd_T76 q aa).f2, (rd_T76 q aa).f3, (⟨(rd_T76 q aa).f4.f0, (rd_T76 q aa).f4.f1, (rd_T76 q aa).f4.f2⟩ : S72), (⟨(rd_T76 q aa).f5.f0, (rd_T76 q aa).f5.f1, (rd_T76 q aa).f5.f2⟩ : S74), (rd_T76 q aa).f6⟩ : S76)); (case aB => exact (b_ HB)); (case aF => exact (fun k_ hk => Kd.freshB (g := ac) (o := .cells #[.int .i64 (rd l1 (ak)), .int .i64 ((rd_T76 q aa).f1), .int .i64 ((rd_T76 q aa).f2), .string ((rd_T76 q aa).f3), .int .i64 ((rd_T76 q aa).f4.f0), .string ((rd_T76 q aa).f4.f1), .bool ((rd_T76 q aa).f4.f2), .string ((rd_T76 q aa).f5.f0), .string ((rd_T76 q aa).f5.f1), .bool ((rd_T76 q aa).f5.f2), .bool ((rd_T76 q aa).f6)] 76 (0, 0)) (pu_ (cs := #[.int .i64 ((rd_T76 q aa).f0), .int .i64 ((rd_T76 q aa).f1), .int .i64 ((rd_T76 q aa).f2), .string ((rd_T76 q aa).f3), .int .i64 ((rd_T76 q aa).f4.f0), .string ((rd_T76 q aa).f4.f1), .bool ((rd_T76 q aa).f4.f2), .string ((rd_T76 q aa).f5.f0), .string ((rd_T76 q aa).f5.f1), .bool ((rd_T76 q aa).f5.f2), .bool ((rd_T76 q aa).f6)]) (pu_ (cs := #[.int .i64 ((rd_T76 q aa).f0), .int .i64 ((rd_T76 q aa).f1), .int .i64 ((rd_T76 q aa).f2), .string ((rd_T76 q aa).f3), .int .i64 ((rd_T76 q aa).f4.f0), .string ((rd_T76 q aa).f4.f1), .bool ((rd_T76 q aa).f4.f2), .string ((rd_T76 q aa).f5.f0), .string ((rd_T76 q aa).f5.f1), .bool ((rd_T76 q aa).f5.f2), .bool false]) (pu_ (cs := #[.int .i64 ((rd_T76 q aa).f0), .int .i64 ((rd_T76 q aa).f1), .int .i64 ((rd_T76 q aa).f2), .string ((rd_T76 q aa).f3), .int .i64 ((rd_T76 q aa).f4.f0), .string ((rd_T76 q aa).f4.f1), .bool ((rd_T76 q aa).f4.f2), .string ((rd_T76 q aa).f5.f0), .string ((rd_T76 q aa).f5.f1), .bool false, .bool false]) (pu_ (cs := #[.int .i64 ((rd_T76 q aa).f0), .int .i64 ((rd_T76 q aa).f1), .int .i64 ((rd_T76 q aa).f2), .string ((rd_T76 q aa).f3), .int .i64 ((rd_T76 q aa).f4.f0), .string ((rd_T76 q aa).f4.f1), .bool ((rd_T76 q aa).f4.f2), .string ((rd_T76 q aa).f5.f0), .string (⟨#[]⟩ : ByteArray), .bool false, .bool false]) (pu_ (cs := #[.int .i64 ((rd_T76 q aa).f0), .int .i64 ((rd_T76 q aa).f1), .int .i64 ((rd_T76 q aa).f2), .string ((rd_T76 q aa).f3), .int .i64 ((rd_T76 q aa).f4.f0), .string ((rd_T76 q aa).f4.f1), .bool ((rd_T76 q aa).f4.f2), .string (⟨#[]⟩ : ByteArray), .string (⟨#[]⟩ : ByteArray), .bool false, .bool false]) (pu_ (cs := #[.int .i64 ((rd_T76 q aa).f0), .int .i64 ((rd_T76 q aa).f1), .int .i64 ((rd_T76 q aa).f2), .string ((rd_T76 q aa).f3), .int .i64 ((rd_T76 q aa).f4.f0), .string ((rd_T76 q aa).f4.f1), .bool false, .string (⟨#[]⟩ : ByteArray), .string (⟨#[]⟩ : ByteArray), .bool false, .bool false]) (pu_ (cs := #[.int .i64 ((rd_T76 q aa).f0), .int .i64 ((rd_T76 q aa).f1), .int .i64 ((rd_T76 q aa).f2), .string ((rd_T76 q aa).f3), .int .i64 ((rd_T76 q aa).f4.f0), .string (⟨#[]⟩ : ByteArray), .bool false, .string (⟨#[]⟩ : ByteArray), .string (⟨#[]⟩ : ByteArray), .bool false, .bool false]) (pu_ (cs := #[.int .i64 ((rd_T76 q aa).f0), .int .i64 ((rd_T76 q aa).f1), .int .i64 ((rd_T76 q aa).f2), .string ((rd_T76 q aa).f3), .int .i64 0, .string (⟨#[]⟩ : ByteArray), .bool false, .string (⟨#[]⟩ : ByteArray), .string (⟨#[]⟩ : ByteArray), .bool false, .bool false]) (pu_ (cs := #[.int .i64 ((rd_T76 q aa).f0), .int .i64 ((rd_T76 q aa).f1), .int .i64 ((rd_T76 q aa).f2), .string (⟨#[]⟩ : ByteArray), .int .i64 0, .string (⟨#[]⟩ : ByteArray), .bool false, .string (⟨#[]⟩ : ByteArray), .string (⟨#[]⟩ : ByteArray), .bool false, .bool false]) (pu_ (cs := #[.int .i64 ((rd_T76 q aa).f0), .int .i64 ((rd_T76 q aa).f1), .int .i64 0, .string (⟨#[]⟩ : ByteArray), .int .i64 0, .string (⟨#[]⟩ : ByteArray), .bool false, .string (⟨#[]⟩ : ByteArray), .string (⟨#[]⟩ : ByteArray), .bool false, .bool false]) (pu_ (cs := #[.int .i64 ((rd_T76 q aa).f0), .int .i64 0, .int .i64 0, .string (⟨#[]⟩ : ByteArray), .int .i64 0, .string (⟨#[]⟩ : ByteArray), .bool false, .string (⟨#[]⟩ : ByteArray), .string (⟨#[]⟩ : ByteArray), .bool false, .bool false]) (pu_ (cs := #[.int .i64 0, .int .i64 0, .int .i64 0, .string (⟨#[]⟩ : ByteArray), .int .i64 0, .string (⟨#[]⟩ : ByteArray), .bool false, .string (⟨#[]⟩ : ByteArray), .string (⟨#[]⟩ : ByteArray), .bool false, .bool false]) (h_ aG))))))))))))) k_ hk)); (case aO => exact (r2_ (Kd.R_mono (Kd.R_far (p := ⟨ac, 0, none⟩) (Kd.R_far (p := ⟨ac, 10, none⟩) (Kd.R_far (p := ⟨ac, 9, none⟩) (Kd.R_far (p := ⟨ac, 8, none⟩) (Kd.R_far (p := ⟨ac, 7, none⟩) (Kd.R_far (p := ⟨ac, 6, none⟩) (Kd.R_far (p := ⟨ac, 5, none⟩) (Kd.R_far (p := ⟨ac, 4, none⟩) (Kd.R_far (p := ⟨ac, 3, none⟩) (Kd.R_far (p := ⟨ac, 2, none⟩) (Kd.R_far (p := ⟨ac, 1, none⟩) (Kd.R_far (p := ⟨ac, 0, none⟩) (Kd.R_mono af.out (fun k_ hk => (⟨hk, hk.2⟩ : _ ∧ k_ ≠ ac))) (fun _ hk => hk.2) (.int .i64 ((rd_T76 q aa).f0))) (fun _ hk => hk.2) (.int .i64 ((rd_T76 q aa).f1))) (fun _ hk => hk.2) (.int .i64 ((rd_T76 q aa).f2))) (fun _ hk => hk.2) (.string ((rd_T76 q aa).f3))) (fun _ hk => hk.2) (.int .i64 ((rd_T76 q aa).f4.f0))) (fun _ hk => hk.2) (.string ((rd_T76 q aa).f4.f1))) (fun _ hk => hk.2) (.bool ((rd_T76 q aa).f4.f2))) (fun _ hk => hk.2) (.string ((rd_T76 q aa).f5.f0))) (fun _ hk => hk.2) (.string ((rd_T76 q aa).f5.f1))) (fun _ hk => hk.2) (.bool ((rd_T76 q aa).f5.f2))) (fun _ hk => hk.2) (.bool ((rd_T76 q aa).f6))) (fun _ hk => hk.2) (.int .i64 (rd l1 (ak)))) (fun _ hk => hk.1.2)))); (case aS => exact (bz_ (b_ HB))); (case aL => have := LMc14.out; omega); intro cM cO ho hb hg hat; rw [← bu.out] at ho; replace ah := mk0 (blk_grown (g := aZ) (o := .cells #[.slice B A.length D, .slice (some bv) q.length G] 66 (0, 0)) (fa_ (fa_ (fa_ (fa_ (fa_ (fa_ (fa_ (fa_ (fa_ (fa_ (fa_ (fa_ (h_ ah) ad.out) ad.out) ad.out) ad.out) ad.out) ad.out) ad.out) ad.out) ad.out) ad.out) ad.out) ad.out) hg (Kd.R_ne af.out ah.out (by decide))); replace ai := mk0 (blk_grown (g := aV) (o := .cells #[.slice B A.length D, an] 66 (0, 0)) (fa_ (fa_ (fa_ (fa_ (fa_ (fa_ (fa_ (fa_ (fa_ (fa_ (fa_ (fa_ (h_ ai) ae.out) ae.out) ae.out) ae.out) ae.out) ae.out) ae.out) ae.out) ae.out) ae.out) ae.out) ae.out) hg (Kd.R_ne af.out ai.out (by decide))); replace aG := mk0 (blk_grown (g := ac) (o := .cells #[.int .i64 (rd l1 (ak)), .int .i64 ((rd_T76 q aa).f1), .int .i64 ((rd_T76 q aa).f2), .string ((rd_T76 q aa).f3), .int .i64 ((rd_T76 q aa).f4.f0), .string ((rd_T76 q aa).f4.f1), .bool ((rd_T76 q aa).f4.f2), .string ((rd_T76 q aa).f5.f0), .string ((rd_T76 q aa).f5.f1), .bool ((rd_T76 q aa).f5.f2), .bool ((rd_T76 q aa).f6)] 76 (0, 0)) (pu_ (cs := #[.int .i64 ((rd_T76 q aa).f0), .int .i64 ((rd_T76 q aa).f1), .int .i64 ((rd_T76 q aa).f2), .string ((rd_T76 q aa).f3), .int .i64 ((rd_T76 q aa).f4.f0), .string ((rd_T76 q aa).f4.f1), .bool ((rd_T76 q aa).f4.f2), .string ((rd_T76 q aa).f5.f0), .string ((rd_T76 q aa).f5.f1), .bool ((rd_T76 q aa).f5.f2), .bool ((rd_T76 q aa).f6)]) (pu_ (cs := #[.int .i64 ((rd_T76 q aa).f0), .int .i64 ((rd_T76 q aa).f1), .int .i64 ((rd_T76 q aa).f2), .string ((rd_T76 q aa).f3), .int .i64 ((rd_T76 q aa).f4.f0), .string ((rd_T76 q aa).f4.f1), .bool ((rd_T76 q aa).f4.f2), .string ((rd_T76 q aa).f5.f0), .string ((rd_T76 q aa).f5.f1), .bool ((rd_T76 q aa).f5.f2), .bool false]) (pu_ (cs := #[.int .i64 ((rd_T76 q aa).f0), .int .i64 ((rd_T76 q aa).f1), .int .i64 ((rd_T76 q aa).f2), .string ((rd_T76 q aa).f3), .int .i64 ((rd_T76 q aa).f4.f0), .string ((rd_T76 q aa).f4.f1), .bool ((rd_T76 q aa).f4.f2), .string ((rd_T76 q aa).f5.f0), .string ((rd_T76 q aa).f5.f1), .bool false, .bool false]) (pu_ (cs := #[.int .i64 ((rd_T76 q aa).f0), .int .i64 ((rd_T76 q aa).f1), .int .i64 ((rd_T76 q aa).f2), .string ((rd_T76 q aa).f3), .int .i64 ((rd_T76 q aa).f4.f0), .string ((rd_T76 q aa).f4.f1), .bool ((rd_T76 q aa).f4.f2), .string ((rd_T76 q aa).f5.f0), .string (⟨#[]⟩ : ByteArray), .bool false, .bool false]) (pu_ (cs := #[.int .i64 ((rd_T76 q aa).f0), .int .i64 ((rd_T76 q aa).f1), .int .i64 ((rd_T76 q aa).f2), .string ((rd_T76 q aa).f3), .int .i64 ((rd_T76 q aa).f4.f0), .string ((rd_T76 q aa).f4.f1), .bool ((rd_T76 q aa).f4.f2), .string (⟨#[]⟩ : ByteArray), .string (⟨#[]⟩ : ByteArray), .bool false, .bool false]) (pu_ (cs := #[.int .i64 ((rd_T76 q aa).f0), .int .i64 ((rd_T76 q aa).f1), .int .i64 ((rd_T76 q aa).f2), .string ((rd_T76 q aa).f3), .int .i64 ((rd_T76 q aa).f4.f0), .string ((rd_T76 q aa).f4.f1), .bool false, .string (⟨#[]⟩ : ByteArray), .string (⟨#[]⟩ : ByteArray), .bool false, .bool false]) (pu_ (cs := #[.int .i64 ((rd_T76 q aa).f0), .int .i64 ((rd_T76 q aa).f1), .int .i64 ((rd_T76 q aa).f2), .string ((rd_T76 q aa).f3), .int .i64 ((rd_T76 q aa).f4.f0), .string (⟨#[]⟩ : ByteArray), .bool false, .string (⟨#[]⟩ : ByteArray), .string (⟨#[]⟩ : ByteArray), .bool false, .bool false]) (pu_ (cs := #[.int .i64 ((rd_T76 q aa).f0), .int .i64 ((rd_T76 q aa).f1), .int .i64 ((rd_T76 q aa).f2), .string ((rd_T76 q aa).f3), .int .i64 0, .string (⟨#[]⟩ : ByteArray), .bool false, .string (⟨#[]⟩ : ByteArray), .string (⟨#[]⟩ : ByteArray), .bool false, .bool false]) (pu_ (cs := #[.int .i64 ((rd_T76 q aa).f0), .int .i64 ((rd_T76 q aa).f1), .int .i64 ((rd_T76 q aa).f2), .string (⟨#[]⟩ : ByteArray), .int .i64 0, .string (⟨#[]⟩ : ByteArray), .bool false, .string (⟨#[]⟩ : ByteArray), .string (⟨#[]⟩ : ByteArray), .bool false, .bool false]) (pu_ (cs := #[.int .i64 ((rd_T76 q aa).f0), .int .i64 ((rd_T76 q aa).f1), .int .i64 0, .string (⟨#[]⟩ : ByteArray), .int .i64 0, .string (⟨#[]⟩ : ByteArray), .bool false, .string (⟨#[]⟩ : ByteArray), .string (⟨#[]⟩ : ByteArray), .bool false, .bool false]) (pu_ (cs := #[.int .i64 ((rd_T76 q aa).f0), .int .i64 0, .int .i64 0, .string (⟨#[]⟩ : ByteArray), .int .i64 0, .string (⟨#[]⟩ : ByteArray), .bool false, .string (⟨#[]⟩ : ByteArray), .string (⟨#[]⟩ : ByteArray), .bool false, .bool false]) (pu_ (cs := #[.int .i64 0, .int .i64 0, .int .i64 0, .string (⟨#[]⟩ : ByteArray), .int .i64 0, .string (⟨#[]⟩ : ByteArray), .bool false, .string (⟨#[]⟩ : ByteArray), .string (⟨#[]⟩ : ByteArray), .bool false, .bool false]) (h_ aG))))))))))))) hg (Kd.R_away af.out (fun _ hk => hk.2))); replace HB := mk0 (hb); have bb := mk0 (ho); clear af; clear ho hb hg hat; obtain ⟨bp, bq, b9⟩ := Kd.R_slice bb.out; subst b9; obtain ⟨ca, cb, cc, cd⟩ := c2_ ai))
          go_roundg k1
          case measure => have := bA.out; omega
          case rel => exact ⟨(wrap64 (aa + 1)), (aY), (.slice bp aY.length bq), sm_, H', ⟨by have := bA.out; omega⟩, ⟨by (with_reducible repeat (first | apply Ra_ | apply Rn_ | apply Rd_)); exact Kd.R_mono (Kd.R_far (p := ⟨aV, 1, none⟩) (Kd.R_types bb.out ai.out (by decide)) (fun _ hk => hk.2) (.slice bp aY.length bq)) (fun _ hk => trivial)⟩, ⟨(fa_ (h_ ah) aj.out)⟩, ⟨(pu_ (cs := #[.slice B A.length D, an]) (h_ ai))⟩, ⟨b_ HB⟩⟩
         ·rw [if_neg bn] at H
          exact absurd H (by simp)
        ·rw [if_neg bm] at H
         exact absurd H (by simp)
       ·rw [if_neg bl] at H
        exact absurd H (by simp)
     ·rw [if_neg c9] at H
      exact absurd H (by simp)
    ·rw [if_neg c8] at H
     have bB := decide_eq_false c8
     clear c8
     replace H := ob_ H
     obtain ⟨ce, cG, H⟩ := H
     try dsimp only at H
     obtain rfl := Option.some.inj H
     have cH := aj.out
     have cI := ap.out
     obtain ⟨cf, cg, ch, ci⟩ := c2_ ah
     obtain ⟨cj, ck, cl, cm⟩ := c2_ ai
     obtain ⟨cn, co, cp⟩ := Kd.R_slice af.out
     subst cp
     go_wp2_with (first | ((with_reducible refine gate_callee (f := 9) rfl ?_); refine gL_ (some 37) Try.func9 #[.agg #[.slice B A.length D, .slice cn ag.length co]] (h := ?_); (with_reducible refine (quorumlaw9_TableExact.calls k1 _ _ A _ _ ag ce _ ?side1 ?side2 ?side3 ?side4 cG.out).mono ?_); (case side1 => exact cb_ br HB); (case side2 => exact bs.out); (case side3 => exact cr_ af); (case side4 => exact (Kd.R_reads' af.out).2.1); rintro e cP ⟨rfl, hb⟩; refine ⟨_, rfl, ?_⟩; replace af := mk0 (Kd.R_below (r_ af) hb); replace ah := mk0 (u_ ah hb); replace ai := mk0 (u_ ai hb); replace HB := mk0 (bt_ (b_ HB) hb); (try clear hb)))
     go_ret
     exact ⟨sa_, b_ HB⟩
/-! ### quorumlaw9_TablePuts: function 10 -/
def quorumlaw9_TablePuts.f (k : Nat) (A : List (S99)) (q : List (S76)) : Option (Bool) := (quorumlaw9_only.f k A q (([0, 5, 0] : List Int))).bind fun t590 => (some t590)
theorem quorumlaw9_TablePuts.mono : ∀ a0 a1 k, LeO (quorumlaw9_TablePuts.f k a0 a1) (quorumlaw9_TablePuts.f (k + 1) a0 a1) := by
 intro a0 a1 k
 unfold quorumlaw9_TablePuts.f
 repeat' first | (with_reducible exact quorumlaw9_only.mono ..) | (with_reducible exact LeO.refl _) | (with_reducible exact LeO.none _) | (with_reducible refine LeO.ite ?_ ?_) | (with_reducible refine LeO.bind ?_ (fun _ => ?_)) | exact LeO.none _ | refine LeO.ite ?_ ?_ | refine LeO.bind ?_ (fun _ => ?_)
theorem quorumlaw9_TablePuts.calls (k : Nat) (B : Option Addr) (D : Nat) (A : List (S99)) (E : Option Addr) (G : Nat) (q : List (S76)) (r : Bool) (w : World) (O : Kd.C k99 w B A.length A) (P : A.length ≤ D) (Q : Kd.C k76 w E q.length q) (U : q.length ≤ G) (h : quorumlaw9_TablePuts.f k A q = some r) :
  Calls Try.prog 10 #[.agg #[.slice B A.length D, .slice E q.length G]] w fun e w' => e = .returned (.bool r) ∧ Below w.heap.size w w' := by
 have hu66 := Try.underlying66
 have ag := mk0 O
 have ah := mk0 P
 clear O P
 have ai := mk0 Q
 have aj := mk0 U
 clear Q U
 have HB := mk0 (Below.refl w.heap.size w)
 have H : ((quorumlaw9_only.f k A q (([0, 5, 0] : List Int))).bind fun ad => (some ad)) = some r := h
 clear h
 obtain ⟨ae, aa⟩ : ∃ y_ : List Int, y_ = (([0, 5, 0] : List Int)) := ⟨_, rfl⟩
 replace H : ((quorumlaw9_only.f k A q ae).bind fun ad => (some ad)) = some r := by first | (rw [aa]; with_reducible exact H) | (have H2_ := (Option.bind_some _ _).symm.trans H; rw [aa]; with_reducible exact H2_) | (have H2_ := (Option.bind_some _ _).symm.trans H; with_reducible exact H2_) | with_reducible exact H | (rw [aa]; exact H) | exact H
 have af := mk0 aa
 clear aa
 replace H := ob_ H
 obtain ⟨ad, A2, H⟩ := H
 try dsimp only at H
 obtain rfl := Option.some.inj H
 go_enter Try.func10, Try.ntmps10
 go_wp2_with (first | ((with_reducible refine gate_dst (N := 1) rfl ?_); refine bx_ (N := 1) (cs := #[.slice B A.length D, .slice E q.length G]) (t := 66) (h := ?_); intro aq hg w3 hbox hb; have ak := mk0 (gz_ HB hg); replace HB := mk0 (bt_ (b_ HB) hb); have ab := mk0 (hbox); have ar := ak; clear ak hb hbox hg; obtain ⟨am, an, ao, ap⟩ := c2_ ab) | ((with_reducible refine gate_dst (N := 4) rfl ?_); refine Kd.R_lit (Kd.int .i64) _ 3 ?hg (N := 4) ?hd (xs := ([0, 5, 0] : List Int)) (inner := [.int .i64 0, .int .i64 5, .int .i64 0]) (ok := fun _ => True) (okp := fun _ => True) ?hr ?hp (fun _ hk => hk) trivial (Below.refl _ _) (Nat.le_refl _) (by simp) ?_; (case hd => rfl); (case hg => rfl); (case hr => first | (go_simp; done) | (go_simp; rfl)); (case hp => exact (Reps.one (show Kd.M (Kd.int .i64) _ _ _ 0 [.int .i64 0] from rfl) (Reps.one (show Kd.M (Kd.int .i64) _ _ _ 5 [.int .i64 5] from rfl) (Reps.one (show Kd.M (Kd.int .i64) _ _ _ 0 [.int .i64 0] from rfl) (Reps.none _ _))))); intro ax w5 ho6 hb hg_ hnew_; clear hg_ hnew_; (first | rw [← af.out] at ho6 | (simp only [Int.reduceToNat] at ho6; rw [← af.out] at ho6)); have al := mk0 (Kd.R_lower ho6 (bz_ (b_ HB))); replace ab := mk0 (u_ ab hb); replace HB := mk0 (bt_ (b_ HB) hb); have ac := al; clear al hb ho6; obtain ⟨au, av, aw⟩ := Kd.R_slice ac.out; subst aw) | ((with_reducible refine gate_callee (f := 32) rfl ?_); refine gL_ (some 5) Try.func32 #[.agg #[.slice B A.length D, .slice E q.length G], .slice au ae.length av] (h := ?_); (with_reducible refine (quorumlaw9_only.calls k _ _ A _ _ q _ _ ae ad _ ?side1 ?side2 ?side3 ?side4 ?side5 ?side6 A2.out).mono ?_); (case side1 => exact cb_ ag HB); (case side2 => exact ah.out); (case side3 => exact cb_ ai HB); (case side4 => exact aj.out); (case side5 => exact cr_ ac); (case side6 => exact (Kd.R_reads' ac.out).2.1); rintro e w8 ⟨rfl, hb⟩; refine ⟨_, rfl, ?_⟩; replace ac := mk0 (Kd.R_below (r_ ac) hb); replace ab := mk0 (u_ ab hb); replace HB := mk0 (bt_ (b_ HB) hb); (try clear hb)))
 go_ret
 exact ⟨sa_, b_ HB⟩
/-! ### quorumlaw9_TableScans: function 11 -/
def quorumlaw9_TableScans.f (k : Nat) (A : List (S99)) (q : List (S76)) : Option (Bool) := (quorumlaw9_only.f k A q (([0, 7, 0, 8] : List Int))).bind fun t595 => (some t595)
theorem quorumlaw9_TableScans.mono : ∀ a0 a1 k, LeO (quorumlaw9_TableScans.f k a0 a1) (quorumlaw9_TableScans.f (k + 1) a0 a1) := by
 intro a0 a1 k
 unfold quorumlaw9_TableScans.f
 repeat' first | (with_reducible exact quorumlaw9_only.mono ..) | (with_reducible exact LeO.refl _) | (with_reducible exact LeO.none _) | (with_reducible refine LeO.ite ?_ ?_) | (with_reducible refine LeO.bind ?_ (fun _ => ?_)) | exact LeO.none _ | refine LeO.ite ?_ ?_ | refine LeO.bind ?_ (fun _ => ?_)
theorem quorumlaw9_TableScans.calls (k : Nat) (B : Option Addr) (D : Nat) (A : List (S99)) (E : Option Addr) (G : Nat) (q : List (S76)) (r : Bool) (w : World) (O : Kd.C k99 w B A.length A) (P : A.length ≤ D) (Q : Kd.C k76 w E q.length q) (U : q.length ≤ G) (h : quorumlaw9_TableScans.f k A q = some r) :
  Calls Try.prog 11 #[.agg #[.slice B A.length D, .slice E q.length G]] w fun e w' => e = .returned (.bool r) ∧ Below w.heap.size w w' := by
 have hu66 := Try.underlying66
 have ag := mk0 O
 have ah := mk0 P
 clear O P
 have ai := mk0 Q
 have aj := mk0 U
 clear Q U
 have HB := mk0 (Below.refl w.heap.size w)
 have H : ((quorumlaw9_only.f k A q (([0, 7, 0, 8] : List Int))).bind fun ad => (some ad)) = some r := h
 clear h
 obtain ⟨ae, aa⟩ : ∃ y_ : List Int, y_ = (([0, 7, 0, 8] : List Int)) := ⟨_, rfl⟩
 replace H : ((quorumlaw9_only.f k A q ae).bind fun ad => (some ad)) = some r := by first | (rw [aa]; with_reducible exact H) | (have H2_ := (Option.bind_some _ _).symm.trans H; rw [aa]; with_reducible exact H2_) | (have H2_ := (Option.bind_some _ _).symm.trans H; with_reducible exact H2_) | with_reducible exact H | (rw [aa]; exact H) | exact H
 have af := mk0 aa
 clear aa
 replace H := ob_ H
 obtain ⟨ad, A2, H⟩ := H
 try dsimp only at H
 obtain rfl := Option.some.inj H
 go_enter Try.func11, Try.ntmps11
 go_wp2_with (first | ((with_reducible refine gate_dst (N := 1) rfl ?_); refine bx_ (N := 1) (cs := #[.slice B A.length D, .slice E q.length G]) (t := 66) (h := ?_); intro aq hg w3 hbox hb; have ak := mk0 (gz_ HB hg); replace HB := mk0 (bt_ (b_ HB) hb); have ab := mk0 (hbox); have ar := ak; clear ak hb hbox hg; obtain ⟨am, an, ao, ap⟩ := c2_ ab) | ((with_reducible refine gate_dst (N := 4) rfl ?_); refine Kd.R_lit (Kd.int .i64) _ 3 ?hg (N := 4) ?hd (xs := ([0, 7, 0, 8] : List Int)) (inner := [.int .i64 0, .int .i64 7, .int .i64 0, .int .i64 8]) (ok := fun _ => True) (okp := fun _ => True) ?hr ?hp (fun _ hk => hk) trivial (Below.refl _ _) (Nat.le_refl _) (by simp) ?_; (case hd => rfl); (case hg => rfl); (case hr => first | (go_simp; done) | (go_simp; rfl)); (case hp => exact (Reps.one (show Kd.M (Kd.int .i64) _ _ _ 0 [.int .i64 0] from rfl) (Reps.one (show Kd.M (Kd.int .i64) _ _ _ 7 [.int .i64 7] from rfl) (Reps.one (show Kd.M (Kd.int .i64) _ _ _ 0 [.int .i64 0] from rfl) (Reps.one (show Kd.M (Kd.int .i64) _ _ _ 8 [.int .i64 8] from rfl) (Reps.none _ _)))))); intro ax w5 ho6 hb hg_ hnew_; clear hg_ hnew_; (first | rw [← af.out] at ho6 | (simp only [Int.reduceToNat] at ho6; rw [← af.out] at ho6)); have al := mk0 (Kd.R_lower ho6 (bz_ (b_ HB))); replace ab := mk0 (u_ ab hb); replace HB := mk0 (bt_ (b_ HB) hb); have ac := al; clear al hb ho6; obtain ⟨au, av, aw⟩ := Kd.R_slice ac.out; subst aw) | ((with_reducible refine gate_callee (f := 32) rfl ?_); refine gL_ (some 5) Try.func32 #[.agg #[.slice B A.length D, .slice E q.length G], .slice au ae.length av] (h := ?_); (with_reducible refine (quorumlaw9_only.calls k _ _ A _ _ q _ _ ae ad _ ?side1 ?side2 ?side3 ?side4 ?side5 ?side6 A2.out).mono ?_); (case side1 => exact cb_ ag HB); (case side2 => exact ah.out); (case side3 => exact cb_ ai HB); (case side4 => exact aj.out); (case side5 => exact cr_ ac); (case side6 => exact (Kd.R_reads' ac.out).2.1); rintro e w8 ⟨rfl, hb⟩; refine ⟨_, rfl, ?_⟩; replace ac := mk0 (Kd.R_below (r_ ac) hb); replace ab := mk0 (u_ ab hb); replace HB := mk0 (bt_ (b_ HB) hb); (try clear hb)))
 go_ret
 exact ⟨sa_, b_ HB⟩
/-! ### quorumlaw9_TablePurges: function 12 -/
def quorumlaw9_TablePurges.f (k : Nat) (A : List (S99)) (q : List (S76)) : Option (Bool) := (quorumlaw9_only.f k A q (([0, 0, 4, 7] : List Int))).bind fun t600 => (some t600)
theorem quorumlaw9_TablePurges.mono : ∀ a0 a1 k, LeO (quorumlaw9_TablePurges.f k a0 a1) (quorumlaw9_TablePurges.f (k + 1) a0 a1) := by
 intro a0 a1 k
 unfold quorumlaw9_TablePurges.f
 repeat' first | (with_reducible exact quorumlaw9_only.mono ..) | (with_reducible exact LeO.refl _) | (with_reducible exact LeO.none _) | (with_reducible refine LeO.ite ?_ ?_) | (with_reducible refine LeO.bind ?_ (fun _ => ?_)) | exact LeO.none _ | refine LeO.ite ?_ ?_ | refine LeO.bind ?_ (fun _ => ?_)
theorem quorumlaw9_TablePurges.calls (k : Nat) (B : Option Addr) (D : Nat) (A : List (S99)) (E : Option Addr) (G : Nat) (q : List (S76)) (r : Bool) (w : World) (O : Kd.C k99 w B A.length A) (P : A.length ≤ D) (Q : Kd.C k76 w E q.length q) (U : q.length ≤ G) (h : quorumlaw9_TablePurges.f k A q = some r) :
  Calls Try.prog 12 #[.agg #[.slice B A.length D, .slice E q.length G]] w fun e w' => e = .returned (.bool r) ∧ Below w.heap.size w w' := by
 have hu66 := Try.underlying66
 have ag := mk0 O
 have ah := mk0 P
 clear O P
 have ai := mk0 Q
 have aj := mk0 U
 clear Q U
 have HB := mk0 (Below.refl w.heap.size w)
 have H : ((quorumlaw9_only.f k A q (([0, 0, 4, 7] : List Int))).bind fun ad => (some ad)) = some r := h
 clear h
 obtain ⟨ae, aa⟩ : ∃ y_ : List Int, y_ = (([0, 0, 4, 7] : List Int)) := ⟨_, rfl⟩
 replace H : ((quorumlaw9_only.f k A q ae).bind fun ad => (some ad)) = some r := by first | (rw [aa]; with_reducible exact H) | (have H2_ := (Option.bind_some _ _).symm.trans H; rw [aa]; with_reducible exact H2_) | (have H2_ := (Option.bind_some _ _).symm.trans H; with_reducible exact H2_) | with_reducible exact H | (rw [aa]; exact H) | exact H
 have af := mk0 aa
 clear aa
 replace H := ob_ H
 obtain ⟨ad, A2, H⟩ := H
 try dsimp only at H
 obtain rfl := Option.some.inj H
 go_enter Try.func12, Try.ntmps12
 go_wp2_with (first | ((with_reducible refine gate_dst (N := 1) rfl ?_); refine bx_ (N := 1) (cs := #[.slice B A.length D, .slice E q.length G]) (t := 66) (h := ?_); intro aq hg w3 hbox hb; have ak := mk0 (gz_ HB hg); replace HB := mk0 (bt_ (b_ HB) hb); have ab := mk0 (hbox); have ar := ak; clear ak hb hbox hg; obtain ⟨am, an, ao, ap⟩ := c2_ ab) | ((with_reducible refine gate_dst (N := 4) rfl ?_); refine Kd.R_lit (Kd.int .i64) _ 3 ?hg (N := 4) ?hd (xs := ([0, 0, 4, 7] : List Int)) (inner := [.int .i64 0, .int .i64 0, .int .i64 4, .int .i64 7]) (ok := fun _ => True) (okp := fun _ => True) ?hr ?hp (fun _ hk => hk) trivial (Below.refl _ _) (Nat.le_refl _) (by simp) ?_; (case hd => rfl); (case hg => rfl); (case hr => first | (go_simp; done) | (go_simp; rfl)); (case hp => exact (Reps.one (show Kd.M (Kd.int .i64) _ _ _ 0 [.int .i64 0] from rfl) (Reps.one (show Kd.M (Kd.int .i64) _ _ _ 0 [.int .i64 0] from rfl) (Reps.one (show Kd.M (Kd.int .i64) _ _ _ 4 [.int .i64 4] from rfl) (Reps.one (show Kd.M (Kd.int .i64) _ _ _ 7 [.int .i64 7] from rfl) (Reps.none _ _)))))); intro ax w5 ho6 hb hg_ hnew_; clear hg_ hnew_; (first | rw [← af.out] at ho6 | (simp only [Int.reduceToNat] at ho6; rw [← af.out] at ho6)); have al := mk0 (Kd.R_lower ho6 (bz_ (b_ HB))); replace ab := mk0 (u_ ab hb); replace HB := mk0 (bt_ (b_ HB) hb); have ac := al; clear al hb ho6; obtain ⟨au, av, aw⟩ := Kd.R_slice ac.out; subst aw) | ((with_reducible refine gate_callee (f := 32) rfl ?_); refine gL_ (some 5) Try.func32 #[.agg #[.slice B A.length D, .slice E q.length G], .slice au ae.length av] (h := ?_); (with_reducible refine (quorumlaw9_only.calls k _ _ A _ _ q _ _ ae ad _ ?side1 ?side2 ?side3 ?side4 ?side5 ?side6 A2.out).mono ?_); (case side1 => exact cb_ ag HB); (case side2 => exact ah.out); (case side3 => exact cb_ ai HB); (case side4 => exact aj.out); (case side5 => exact cr_ ac); (case side6 => exact (Kd.R_reads' ac.out).2.1); rintro e w8 ⟨rfl, hb⟩; refine ⟨_, rfl, ?_⟩; replace ac := mk0 (Kd.R_below (r_ ac) hb); replace ab := mk0 (u_ ab hb); replace HB := mk0 (bt_ (b_ HB) hb); (try clear hb)))
 go_ret
 exact ⟨sa_, b_ HB⟩
end Go.Proofs.Ytbaecdcfefmcgaa.PTbe
