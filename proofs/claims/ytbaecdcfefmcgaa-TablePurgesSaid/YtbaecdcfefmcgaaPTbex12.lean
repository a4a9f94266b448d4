-- PRINTED by print.py (a twelfth state) out of the translation. Not trusted: Lean checks it.
import Derived.Shelf.SlSorted.Search
import Derived.Test.YtbaecdcfefmcgaaPTbex0
import Derived.Test.YtbaecdcfefmcgaaPTbex5
import Derived.Test.YtbaecdcfefmcgaaPTbex8
import Derived.Test.YtbaecdcfefmcgaaPTbex11
namespace Go.Proofs.Ytbaecdcfefmcgaa.PTbe
open Go.RowKit Go.Proofs.YtbaecdcfefmcgaaW.PrintWords Go.Proofs.YtbaecdcfefmcgaaW.PrintLast Go.Proofs.YtbaecdcfefmcgaaW.PrintMore
attribute [local go_sem] max2_int min2_int max_two min_two max_three min_three max_four min_four   -- for this text's walks alone
set_option maxHeartbeats 8000000
set_option maxRecDepth 100000
set_option linter.unusedVariables false
set_option linter.unusedSimpArgs false
/-! ### table_Map: function 79 -/
def table_Map.f (k : Nat) (l0_0 : List (S99)) (a1 : Int) : Option ((List (S82)) × Int) := (table_May.f k l0_0).bind fun t320 => (if t320 = true then ((table_Rows.f k l0_0 a1).bind fun t321 => (some (t321, 0))) else (some (([] : List (S82)), 1)))
theorem table_Map.mono : ∀ a0 a1 k, LeO (table_Map.f k a0 a1) (table_Map.f (k + 1) a0 a1) := by
 intro a0 a1 k
 unfold table_Map.f
 repeat' first | (with_reducible exact table_May.mono ..) | (with_reducible exact table_Rows.mono ..) | (with_reducible exact LeO.refl _) | (with_reducible exact LeO.none _) | (with_reducible refine LeO.ite ?_ ?_) | (with_reducible refine LeO.bind ?_ (fun _ => ?_)) | exact LeO.none _ | refine LeO.ite ?_ ?_ | refine LeO.bind ?_ (fun _ => ?_)
theorem table_Map.calls (k : Nat) (A0_0 : Option Addr) (c0_0 : Nat) (l0_0 : List (S99)) (a1 : Int) (r1 : List (S82)) (r2 : Int) (w : World) (hr0_0 : Kd.C k99 w A0_0 l0_0.length l0_0) (hc0_0 : l0_0.length ≤ c0_0) (h : table_Map.f k l0_0 a1 = some (r1, r2)) :
  Calls Try.prog 79 #[.agg #[.slice A0_0 l0_0.length c0_0], .int .i64 a1] w fun e w' => ∃ v0_ : Value, e = .returned (.tuple #[v0_, .int .i64 r2]) ∧ Kd.R k82 82 w' w.heap.size (fun _ => True) v0_ r1 ∧ Below w.heap.size w w' := by
 have hu47 := Try.underlying47
 have ab := mk0 hr0_0
 have ac := mk0 hc0_0
 clear hr0_0 hc0_0
 have HB := mk0 (Below.refl w.heap.size w)
 have H : ((table_May.f k l0_0).bind fun ad => (if ad = true then ((table_Rows.f k l0_0 a1).bind fun ae => (some (ae, 0))) else (some (([] : List (S82)), 1)))) = some (r1, r2) := h
 clear h
 replace H := ob_ H
 obtain ⟨ad, A3, H⟩ := H
 try dsimp only at H
 by_cases c4 : ad = true
 ·subst c4
  rw [if_pos rfl] at H
  replace H := ob_ H
  obtain ⟨ae, A5, H⟩ := H
  try dsimp only at H
  simp only [Option.some.injEq, Prod.mk.injEq] at H
  obtain ⟨rfl, rfl⟩ := H
  go_enter Try.func79, Try.ntmps79
  go_wp2_with (first | ((with_reducible refine gate_dst (N := 2) rfl ?_); refine bx_ (N := 2) (cs := #[.slice A0_0 l0_0.length c0_0]) (t := 47) (h := ?_); intro ag hg w6 hbox hb; have n2_ := mk0 (gz_ HB hg); have af := mk0 (gz_ HB hg); replace HB := mk0 (bt_ (b_ HB) hb); have aa := mk0 (hbox); have ah := n2_; have ai := af; clear n2_ af hb hbox hg; obtain ⟨an, ao⟩ := c1_ aa) | ((with_reducible refine gate_callee (f := 95) rfl ?_); refine gL_ (some 7) Try.func95 #[.agg #[.slice A0_0 l0_0.length c0_0]] (h := ?_); (with_reducible refine (table_May.calls k _ _ l0_0 true _ ?side1 ?side2 A3.out).mono ?_); (case side1 => exact cb_ ab HB); (case side2 => exact ac.out); rintro e w8 ⟨rfl, hb⟩; refine ⟨_, rfl, ?_⟩; replace aa := mk0 (u_ aa hb); replace HB := mk0 (bt_ (b_ HB) hb); (try clear hb); obtain ⟨ap, aq⟩ := c1_ aa) | ((with_reducible refine gate_callee (f := 91) rfl ?_); refine gL_ (some 11) Try.func91 #[.agg #[.slice A0_0 l0_0.length c0_0], .int .i64 a1] (h := ?_); (with_reducible refine (table_Rows.calls k _ _ l0_0 a1 ae _ ?side1 ?side2 A5.out).mono ?_); (case side1 => exact cb_ ab HB); (case side2 => exact ac.out); rintro e au ⟨ar, rfl, ho0, hb⟩; refine ⟨_, rfl, ?_⟩; have ak := mk0 (Kd.R_lower ho0 (bz_ (b_ HB))); replace aa := mk0 (u_ aa hb); replace HB := mk0 (bt_ (b_ HB) hb); have aj := ak; clear ak; (try clear hb); (try clear ho0)))
  go_ret2
  exact ⟨_, sa_, by (with_reducible repeat (first | apply Ra_ | apply Rn_ | apply Rd_)); exact aj.out, b_ HB⟩
 ·replace c4 := Bool.eq_false_iff.mpr c4
  subst c4
  rw [if_neg nf_] at H
  simp only [Option.some.injEq, Prod.mk.injEq] at H
  obtain ⟨rfl, rfl⟩ := H
  go_enter Try.func79, Try.ntmps79
  go_wp2_with (first | ((with_reducible refine gate_dst (N := 2) rfl ?_); refine bx_ (N := 2) (cs := #[.slice A0_0 l0_0.length c0_0]) (t := 47) (h := ?_); intro ag hg av hbox hb; have n2_ := mk0 (gz_ HB hg); have af := mk0 (gz_ HB hg); replace HB := mk0 (bt_ (b_ HB) hb); have aa := mk0 (hbox); have ah := n2_; have ai := af; clear n2_ af hb hbox hg; obtain ⟨al, am⟩ := c1_ aa) | ((with_reducible refine gate_callee (f := 95) rfl ?_); refine gL_ (some 7) Try.func95 #[.agg #[.slice A0_0 l0_0.length c0_0]] (h := ?_); (with_reducible refine (table_May.calls k _ _ l0_0 false _ ?side1 ?side2 A3.out).mono ?_); (case side1 => exact cb_ ab HB); (case side2 => exact ac.out); rintro e aw ⟨rfl, hb⟩; refine ⟨_, rfl, ?_⟩; replace aa := mk0 (u_ aa hb); replace HB := mk0 (bt_ (b_ HB) hb); (try clear hb)))
  go_ret2
  exact ⟨_, sa_, nl_, b_ HB⟩
/-! ### quorumref8_Map: function 80 -/
def quorumref8_Map.l0 : Nat → Int → List (S82) → Int → List (S99) → Option ((List (S82)))
 | 0, _, _, _, _ => none
 | k + 1, x1, x5, x6, x325000 => if x6 < (x325000.length : Int) then (if 0 ≤ x6 then ((quorumref8_At.f k ((rd_T99 x325000 x6).f0) ((rd_T99 x325000 x6).f1) x1).bind fun bt326 => (if bt326.2.2.2 = true then (if x5.length < 4398046511104 then (quorumref8_Map.l0 k x1 (x5 ++ [(⟨(rd_T99 x325000 x6).f0, bt326.2.1⟩ : S82)]) (wrap64 (x6 + 1)) x325000) else (none)) else (quorumref8_Map.l0 k x1 x5 (wrap64 (x6 + 1)) x325000))) else (none)) else (some x5)
def quorumref8_Map.f (k : Nat) (l0_0 : List (S99)) (a1 : Int) : Option ((List (S82))) := quorumref8_Map.l0 k a1 ([] : List (S82)) 0 l0_0
theorem quorumref8_Map.mono_l : ∀ k, (∀ y0 y1 y2 y3, LeO (quorumref8_Map.l0 k y0 y1 y2 y3) (quorumref8_Map.l0 (k + 1) y0 y1 y2 y3))
 | 0 => fun _ _ _ _ r h => by simp [quorumref8_Map.l0] at h
 | k + 1 => by
  have ih0 := quorumref8_Map.mono_l k
  all_goals (intros; first | unfold quorumref8_Map.l0)
  all_goals (repeat' first | (with_reducible exact ih0 ..) | (with_reducible exact quorumref8_At.mono ..) | (with_reducible exact LeO.refl _) | (with_reducible exact LeO.none _) | (with_reducible refine LeO.ite ?_ ?_) | (with_reducible refine LeO.bind ?_ (fun _ => ?_)) | exact LeO.none _ | refine LeO.ite ?_ ?_ | refine LeO.bind ?_ (fun _ => ?_))
theorem quorumref8_Map.mono : ∀ a0 a1 k, LeO (quorumref8_Map.f k a0 a1) (quorumref8_Map.f (k + 1) a0 a1) := by
 intro a0 a1 k
 have ih0 := quorumref8_Map.mono_l k
 unfold quorumref8_Map.f
 repeat' first | (with_reducible exact ih0 ..) | (with_reducible exact quorumref8_At.mono ..) | (with_reducible exact LeO.refl _) | (with_reducible exact LeO.none _) | (with_reducible refine LeO.ite ?_ ?_) | (with_reducible refine LeO.bind ?_ (fun _ => ?_)) | exact LeO.none _ | refine LeO.ite ?_ ?_ | refine LeO.bind ?_ (fun _ => ?_)
def quorumref8_Map.T7 : Bool × List (List Nat × List Nat) := (true, [([], []), ([], []), ([1], [1]), ([], []), ([2, 3], [2, 3]), ([4], [4]), ([5], [5]), ([], []), ([7], [7]), ([6, 8], [6, 8]), ([9], [9]), ([0, 10], [0, 10]), ([11, 11, 0, 1, 2, 3, 4, 5, 6, 7, 8, 9, 10, 11], [0, 11])])
def quorumref8_Map.B7 : List Nat := [0, 0, 2, 0, 14, 30, 62, 0, 128, 510, 1022, 2047, 4095]
theorem quorumref8_Map.tab7 : rtab .any (opsOf Try.f80 7) = quorumref8_Map.T7 := by kernel_rfl
theorem quorumref8_Map.bits7 : waitsOk quorumref8_Map.T7.2 quorumref8_Map.B7 = true := by kernel_rfl
theorem quorumref8_Map.calls (k : Nat) (A0_0 : Option Addr) (c0_0 : Nat) (l0_0 : List (S99)) (a1 : Int) (r : List (S82)) (w : World) (hr0_0 : Kd.C k99 w A0_0 l0_0.length l0_0) (hc0_0 : l0_0.length ≤ c0_0) (h : quorumref8_Map.f k l0_0 a1 = some r) :
  Calls Try.prog 80 #[.agg #[.slice A0_0 l0_0.length c0_0], .int .i64 a1] w fun e w' => ∃ v0_ : Value, e = .returned (v0_) ∧ Kd.R k82 82 w' w.heap.size (fun _ => True) v0_ r ∧ Below w.heap.size w w' := by
 have hu47 := Try.underlying47
 have hu99 := Try.underlying99
 have hu72 := Try.underlying72
 have hu82 := Try.underlying82
 have aI := mk0 hr0_0
 have bC := mk0 hc0_0
 clear hr0_0 hc0_0
 have HB := mk0 (Below.refl w.heap.size w)
 have H : (quorumref8_Map.l0 k a1 ([] : List (S82)) 0 l0_0) = some r := h
 clear h
 have H' := mk0 H
 clear H
 go_enter Try.func80, Try.ntmps80
 go_wp2_with (first | ((with_reducible refine gate_dst (N := 2) rfl ?_); refine bx_ (N := 2) (cs := #[.slice A0_0 l0_0.length c0_0]) (t := 47) (h := ?_); intro aC hg w3 hbox hb; have n2_ := mk0 (gz_ HB hg); have aJ := mk0 (gz_ HB hg); replace HB := mk0 (bt_ (b_ HB) hb); have aa := mk0 (hbox); have bD := aJ; clear n2_ aJ; clear hb hbox hg))
 go_loopg [5, 6] k (fun kq v5 v6 w' => ∃ (av : List (S82)) (ac : Int), v6 = .int .i64 ac ∧ Fc (quorumref8_Map.l0 kq a1 av ac l0_0 = some r) ∧ Fc (kq ≤ k) ∧ Fc (Kd.R k82 82 w' w.heap.size (fun _ => True) v5 av) ∧ Fc (w'.heap[aC]? = some (.cells #[(.slice A0_0 l0_0.length c0_0)] 47 (0, 0))) ∧ Fc (Below w.heap.size w w'))
 case atStart => exact ⟨(([] : List (S82))), (0), sm_, H', ⟨Nat.le_refl _⟩, ⟨nl_⟩, ⟨h_ aa⟩, ⟨b_ HB⟩⟩
 case round =>
  clear H'
  obtain ⟨av, ac, rfl, HA, aX, af, aa, HB⟩ := hrel
  cases gk with
  | zero => exact absurd HA.out (by simp [quorumref8_Map.l0])
  | succ k1 =>
   have H := HA.out
   clear HA
   simp only [quorumref8_Map.l0] at H
   as_aux_lemma =>
    by_cases c4 : ac < (l0_0.length : Int)
    ·rw [if_pos c4] at H
     have be := decide_eq_true c4
     clear c4
     by_cases c5 : 0 ≤ ac
     ·rw [if_pos c5] at H
      have bJ := decide_eq_true c5
      clear c5
      replace H := ob_ H
      obtain ⟨⟨ah, ag, ai, bf⟩, A6, H⟩ := H
      try dsimp only at H
      by_cases c7 : bf = true
      ·subst c7
       rw [if_pos rfl] at H
       by_cases c8 : av.length < 4398046511104
       ·rw [if_pos c8] at H
        have LMc8 := mk0 c8
        clear c8
        obtain ⟨a6, aw⟩ : ∃ y_ : List (S82), y_ = (av ++ [(⟨(rd_T99 l0_0 ac).f0, ag⟩ : S82)]) := ⟨_, rfl⟩
        replace H : (quorumref8_Map.l0 k1 a1 a6 (wrap64 (ac + 1)) l0_0) = some r := by first | (rw [aw]; with_reducible exact H) | (have H2_ := (Option.bind_some _ _).symm.trans H; rw [aw]; with_reducible exact H2_) | (have H2_ := (Option.bind_some _ _).symm.trans H; with_reducible exact H2_) | with_reducible exact H | (rw [aw]; exact H) | exact H
        have a7 := mk0 aw
        clear aw
        have H' := mk0 H
        clear H
        obtain ⟨bA, bB⟩ := c1_ aa
        have ax : 0 ≤ (ac : Int) := od_
        have ay : ac < (l0_0.length : Int) := od_
        obtain ⟨aj, aD, aE, aK, ak, al, am, an⟩ := at_T99 aI.out ac ax ay
        cases aK
        replace ak := (bc_ HB ak :)
        replace al := (bc_ HB al :)
        have az := mk0 an
        have aA := mk0 am
        clear an am
        replace ax := eq_true ax
        replace ay := eq_true ay
        try go_wp2_with (first | ((with_reducible refine gate_callee (f := 45) rfl ?_); refine gL_ (some 23) Try.func45 #[.agg #[.string ((rd_T99 l0_0 ac).f0), .slice aD ((rd_T99 l0_0 ac).f1).length aE], .int .i64 a1] (h := ?_); (with_reducible refine (quorumref8_At.calls k1 ((rd_T99 l0_0 ac).f0) _ _ ((rd_T99 l0_0 ac).f1) a1 ah ag ai true _ ?side1 ?side2 A6.out).mono ?_); (case side1 => exact cb_ az HB); (case side2 => exact aA.out); rintro e bL ⟨rfl, hb⟩; refine ⟨_, rfl, ?_⟩; replace af := mk0 (Kd.R_below (r_ af) hb); replace aa := mk0 (u_ aa hb); replace HB := mk0 (bt_ (b_ HB) hb); (try clear hb)) | ((with_reducible refine gate_dst (N := 7) rfl ?_); refine bx_ (N := 7) (cs := #[.int .i64 0, .string (⟨#[]⟩ : ByteArray), .bool false]) (t := 72) (h := ?_); intro ab hg aM hbox hb; have aN := mk0 (gz_ HB hg); have aQ := mk0 (gz_ HB hg); have aR := mk0 (ne1_ aa hg); have aT := mk0 (ne2_ aa hg); replace af := mk0 (Kd.R_below (r_ af) hb); replace aa := mk0 (u_ aa hb); replace HB := mk0 (bt_ (b_ HB) hb); have ad := mk0 (hbox); have a8 := aN; have a9 := aQ; have ae := aR; have ao := aT; clear aN aQ aR aT hb hbox hg; have bE := ao.out; have bF := ae.out; obtain ⟨bg, bh, bi, bj, bk, bl⟩ := c3_ ad))
        have ba : Fc (Kd.R k82 82 (((aM.setCell ⟨ab, 0, none⟩ (.int .i64 ah)).setCell ⟨ab, 1, none⟩ (.string ag)).setCell ⟨ab, 2, none⟩ (.bool ai)) w.heap.size (fun _ => True) u5 av) := ⟨by (with_reducible repeat (first | apply Ra_ | apply Rn_ | apply Rd_)); exact Kd.R_mono (Kd.R_far (p := ⟨ab, 2, none⟩) (Kd.R_far (p := ⟨ab, 1, none⟩) (Kd.R_far (p := ⟨ab, 0, none⟩) (Kd.R_types af.out ad.out (by decide)) (fun _ hk => hk.2) (.int .i64 ah)) (fun _ hk => hk.2) (.string ag)) (fun _ hk => hk.2) (.bool ai)) (fun _ hk => trivial)⟩
        have bb : Fc ((((aM.setCell ⟨ab, 0, none⟩ (.int .i64 ah)).setCell ⟨ab, 1, none⟩ (.string ag)).setCell ⟨ab, 2, none⟩ (.bool ai)).heap[aC]? = some (.cells #[.slice (some aj) l0_0.length c0_0] 47 (0, 0))) := ⟨(fa_ (fa_ (fa_ (h_ aa) ae.out) ae.out) ae.out)⟩
        have n2_ : Fc ((((aM.setCell ⟨ab, 0, none⟩ (.int .i64 ah)).setCell ⟨ab, 1, none⟩ (.string ag)).setCell ⟨ab, 2, none⟩ (.bool ai)).heap[ab]? = some (.cells #[.int .i64 ah, .string ag, .bool ai] 72 (0, 0))) := ⟨(pu_ (cs := #[.int .i64 ah, .string ag, .bool false]) (pu_ (cs := #[.int .i64 ah, .string (⟨#[]⟩ : ByteArray), .bool false]) (pu_ (cs := #[.int .i64 0, .string (⟨#[]⟩ : ByteArray), .bool false]) (h_ ad))))⟩
        have aJ : Fc (Below w.heap.size w (((aM.setCell ⟨ab, 0, none⟩ (.int .i64 ah)).setCell ⟨ab, 1, none⟩ (.string ag)).setCell ⟨ab, 2, none⟩ (.bool ai))) := ⟨b_ HB⟩
        (try clear af)
        (try clear aa)
        (try clear ad)
        (try clear HB)
        generalize (((aM.setCell ⟨ab, 0, none⟩ (.int .i64 ah)).setCell ⟨ab, 1, none⟩ (.string ag)).setCell ⟨ab, 2, none⟩ (.bool ai)) = bG at ba bb n2_ aJ ⊢
        have af := ba
        have aa := bb
        have ad := n2_
        have HB := aJ
        clear ba bb n2_ aJ
        replace af := mk0 (Rd_ af.out)
        replace aa := mk0 (bD_ aa.out)
        replace ad := mk0 (bD_ ad.out)
        replace HB := mk0 (b1_ HB.out)
        have aU : 0 ≤ (ac : Int) := od_
        have aV : ac < (l0_0.length : Int) := od_
        obtain ⟨bc, aY, aZ, bm, ap, aq, aG, aH⟩ := at_T99 aI.out ac aU aV
        have ar := aq
        have au := ap
        obtain rfl : aj = bc := (by injection bm)
        replace ap := (bc_ HB ap :)
        replace aq := (bc_ HB aq :)
        have aW := mk0 aH
        have bn := mk0 aG
        clear aH aG
        replace aU := eq_true aU
        replace aV := eq_true aV
        refine start_ (n := 13) (S := fun w' => w'.cell? ⟨aC, 0, none⟩ = some (.slice (some aj) l0_0.length c0_0) ∧ w'.cell? ⟨ab, 0, none⟩ = some (.int .i64 ah) ∧ w'.cell? ⟨ab, 1, none⟩ = some (.string ag) ∧ w'.cell? ⟨ab, 2, none⟩ = some (.bool ai) ∧ w'.cell? (aj.add ((ac).toNat * 2)) = some (.string ((rd_T99 l0_0 ac).f0)) ∧ w'.cell? ⟨(aj.add ((ac).toNat * 2)).block, (aj.add ((ac).toNat * 2)).off + 1, none⟩ = some (.slice aY ((rd_T99 l0_0 ac).f1).length aZ)) (ds := []) (bt 13 0) (by kernel_rfl) rfl rfl ⟨bk_ aa 0, bk_ ad 0, bk_ ad 1, bk_ ad 2, ((bc_ HB au :)), ((bc_ HB ar :))⟩ (fun hHeld => ?_); refine with_tabW quorumref8_Map.tab7 quorumref8_Map.bits7 (fun HT_ HW_ => ?_)
        generalize bG.drew = bM at af aa ad HB aW ap aq hHeld ⊢
        refine pq_ HT_.out 0 27 (bt 13 1) (h := ?_)
        refine pq_ HT_.out 1 28 (bt 13 3) (h := ?_)
        refine pq_ HT_.out 3 30 (bt 13 11) (h := ?_)
        refine pq_ HT_.out 7 34 (bt 13 139) (h := ?_)
        refine tq6_ HT_.out HW_.out 2 29 (bt 13 143) hHeld (h := ?_)
        refine pq_ HT_.out 4 31 (bt 13 159) (h := ?_)
        refine pq_ HT_.out 5 32 (bt 13 191) (h := ?_)
        refine tq6_ HT_.out HW_.out 6 33 (bt 13 255) hHeld (h := ?_)
        refine tq6_ HT_.out HW_.out 8 35 (bt 13 511) hHeld (h := ?_)
        refine pq_ HT_.out 9 36 (bt 13 1023) (h := ?_)
        refine one_ (i := 10) (N := some 37) (bt 13 2047) rfl rfl (one_of HT_.out (by kernel_rfl)) (by decide) (fun K hK => ?_)
        refine value_ (w1 := ?_) (v := ?_) (by rfl) rfl ?_ ?_
        rotate_left 2
        ·go_simp
         constructor
         ·rfl
         ·rfl
        refine hK.out _ _ ⟨(blk_cell (bA_ aa.out _) 0).trans rfl, (blk_cell (bA_ ad.out _) 0).trans rfl, (blk_cell (bA_ ad.out _) 1).trans rfl, (blk_cell (bA_ ad.out _) 2).trans rfl, (World.cell?_alloc_lt _ _ _ (World.block_lt_of_cell? _ _ (((bc_ HB au :))))).trans (((bc_ HB au :))), (World.cell?_alloc_lt _ _ _ (World.block_lt_of_cell? _ _ (((bc_ HB ar :))))).trans (((bc_ HB ar :)))⟩ (fun hHeld => ?_)
        clear hK K
        refine norm_ (a' := ?_) ?_ ?_
        rotate_left
        ·show Act.put _ (some 37) _ = _
         simp only [z_]
         rfl
        refine one_ (i := 11) (N := some 38) (bt 13 4095) rfl rfl (one_of HT_.out (by kernel_rfl)) (by decide) (fun K hK => ?_)
        refine Kd.R_append_step k82 (w0 := w) w.heap.size (by rfl) (.tmp 27) (.tmp 37) 78 82 (.agg #[(.string ⟨#[]⟩), (.string ⟨#[]⟩)]) 32 rfl Try.underlying78 info82 rfl (by decide) (by omega) u5 av (⟨(rd_T99 l0_0 ac).f0, ag⟩ : S82) [.string ((rd_T99 l0_0 ac).f0), .string ag] (fun _ => True) (fun _ => False) rfl rfl ?aP (fun _ hk => hk.elim) ?aF ?aO ?aB ?aS ?aL ?_
        (case aP => exact k82_mkM _ _ _ (⟨(rd_T99 l0_0 ac).f0, ag⟩ : S82))
        (case aB => exact (b_ HB))
        (case aF => exact (fun _ _ => trivial))
        (case aO => exact (r_ af))
        (case aS => exact (bz_ (b_ HB)))
        (case aL => have := LMc8.out; omega)
        intro bK bN ho hb hg hat
        rw [← a7.out] at ho
        replace aa := mk0 (blk_grown (g := aC) (o := .cells #[.slice (some aj) l0_0.length c0_0] 47 (0, 0)) (h_ aa) hg (Kd.R_ne af.out aa.out (by decide)))
        replace ad := mk0 (blk_grown (g := ab) (o := .cells #[.int .i64 ah, .string ag, .bool ai] 72 (0, 0)) (h_ ad) hg (Kd.R_ne af.out ad.out (by decide)))
        replace HB := mk0 (hb)
        have bd := mk0 (ho)
        clear af
        clear ho hb hg hat
        refine hK.out _ _ ⟨bk_ aa 0, bk_ ad 0, bk_ ad 1, bk_ ad 2, ((bc_ HB au :)), ((bc_ HB ar :))⟩ (fun hHeld => ?_)
        clear hK K
        refine norm_ (a' := ?_) ?_ ?_
        rotate_left
        ·show Act.put _ (some 38) _ = _
         simp only [z_]
         rfl
        refine pq_ HT_.out 12 5 (bt 13 8191) (h := ?_)
        refine done_ (done_of HT_.out (by kernel_rfl)) ?_
        try go_wp2
        go_roundg k1
        case measure => have := aX.out; omega
        case rel => exact ⟨(a6), (wrap64 (ac + 1)), sm_, H', ⟨by have := aX.out; omega⟩, ⟨r2_ bd.out⟩, ⟨h_ aa⟩, ⟨b_ HB⟩⟩
       ·rw [if_neg c8] at H
        exact absurd H (by simp)
      ·replace c7 := Bool.eq_false_iff.mpr c7
       subst c7
       rw [if_neg nf_] at H
       have H' := mk0 H
       clear H
       obtain ⟨bo, bp⟩ := c1_ aa
       have ax : 0 ≤ (ac : Int) := od_
       have ay : ac < (l0_0.length : Int) := od_
       obtain ⟨aj, aD, aE, aK, ak, al, am, an⟩ := at_T99 aI.out ac ax ay
       cases aK
       replace ak := (bc_ HB ak :)
       replace al := (bc_ HB al :)
       have az := mk0 an
       have aA := mk0 am
       clear an am
       replace ax := eq_true ax
       replace ay := eq_true ay
       go_wp2_with (first | ((with_reducible refine gate_callee (f := 45) rfl ?_); refine gL_ (some 23) Try.func45 #[.agg #[.string ((rd_T99 l0_0 ac).f0), .slice aD ((rd_T99 l0_0 ac).f1).length aE], .int .i64 a1] (h := ?_); (with_reducible refine (quorumref8_At.calls k1 ((rd_T99 l0_0 ac).f0) _ _ ((rd_T99 l0_0 ac).f1) a1 ah ag ai false _ ?side1 ?side2 A6.out).mono ?_); (case side1 => exact cb_ az HB); (case side2 => exact aA.out); rintro e bO ⟨rfl, hb⟩; refine ⟨_, rfl, ?_⟩; replace af := mk0 (Kd.R_below (r_ af) hb); replace aa := mk0 (u_ aa hb); replace HB := mk0 (bt_ (b_ HB) hb); (try clear hb)) | ((with_reducible refine gate_dst (N := 7) rfl ?_); refine bx_ (N := 7) (cs := #[.int .i64 0, .string (⟨#[]⟩ : ByteArray), .bool false]) (t := 72) (h := ?_); intro ab hg bP hbox hb; have aN := mk0 (gz_ HB hg); have aQ := mk0 (gz_ HB hg); have aR := mk0 (ne1_ aa hg); have aT := mk0 (ne2_ aa hg); replace af := mk0 (Kd.R_below (r_ af) hb); replace aa := mk0 (u_ aa hb); replace HB := mk0 (bt_ (b_ HB) hb); have ad := mk0 (hbox); have a8 := aN; have a9 := aQ; have ae := aR; have ao := aT; clear aN aQ aR aT hb hbox hg; have bH := ao.out; have bI := ae.out; obtain ⟨bq, br, bs, bu, bv, bw⟩ := c3_ ad))
       go_roundg k1
       case measure => have := aX.out; omega
       case rel => exact ⟨(av), (wrap64 (ac + 1)), sm_, H', ⟨by have := aX.out; omega⟩, ⟨by (with_reducible repeat (first | apply Ra_ | apply Rn_ | apply Rd_)); exact Kd.R_mono (Kd.R_far (p := ⟨ab, 2, none⟩) (Kd.R_far (p := ⟨ab, 1, none⟩) (Kd.R_far (p := ⟨ab, 0, none⟩) (Kd.R_types af.out ad.out (by decide)) (fun _ hk => hk.2) (.int .i64 ah)) (fun _ hk => hk.2) (.string ag)) (fun _ hk => hk.2) (.bool ai)) (fun _ hk => trivial)⟩, ⟨(fa_ (fa_ (fa_ (h_ aa) ae.out) ae.out) ae.out)⟩, ⟨b_ HB⟩⟩
     ·rw [if_neg c5] at H
      exact absurd H (by simp)
    ·rw [if_neg c4] at H
     have be := decide_eq_false c4
     clear c4
     obtain rfl := Option.some.inj H
     obtain ⟨bx, bz⟩ := c1_ aa
     go_wp2
     go_ret
     exact ⟨_, sa_, by (with_reducible repeat (first | apply Ra_ | apply Rn_ | apply Rd_)); exact af.out, b_ HB⟩
/-! ### quorumref1_Range: function 81 -/
def quorumref1_Range.j0 : Nat → Bool → ByteArray → ByteArray → Bool → Option (Bool)
 | 0, _, _, _, _ => none
 | k + 1, x12, x336000, x336001, x336002 => if x12 = true then (some false) else (if x336002 = true then (some (x336001.toList == ([] : List UInt8))) else (some (!(Op.bytesLess x336001.toList x336000.toList))))
def quorumref1_Range.f (k : Nat) (a0_0 : ByteArray) (a0_1 : ByteArray) (a0_2 : Bool) : Option (Bool) := if (a0_0.size : Int) > 13 then (quorumref1_Range.j0 k true a0_0 a0_1 a0_2) else (quorumref1_Range.j0 k (decide ((a0_1.size : Int) > 13)) a0_0 a0_1 a0_2)
theorem quorumref1_Range.mono_l : ∀ k, (∀ y0 y1 y2 y3, LeO (quorumref1_Range.j0 k y0 y1 y2 y3) (quorumref1_Range.j0 (k + 1) y0 y1 y2 y3))
 | 0 => fun _ _ _ _ r h => by simp [quorumref1_Range.j0] at h
 | k + 1 => by
  have ih0 := quorumref1_Range.mono_l k
  all_goals (intros; first | unfold quorumref1_Range.j0)
  all_goals (repeat' first | (with_reducible exact ih0 ..) | (with_reducible exact LeO.refl _) | (with_reducible exact LeO.none _) | (with_reducible refine LeO.ite ?_ ?_) | (with_reducible refine LeO.bind ?_ (fun _ => ?_)) | exact LeO.none _ | refine LeO.ite ?_ ?_ | refine LeO.bind ?_ (fun _ => ?_))
theorem quorumref1_Range.mono : ∀ a0 a1 a2 k, LeO (quorumref1_Range.f k a0 a1 a2) (quorumref1_Range.f (k + 1) a0 a1 a2) := by
 intro a0 a1 a2 k
 have ih0 := quorumref1_Range.mono_l k
 unfold quorumref1_Range.f
 repeat' first | (with_reducible exact ih0 ..) | (with_reducible exact LeO.refl _) | (with_reducible exact LeO.none _) | (with_reducible refine LeO.ite ?_ ?_) | (with_reducible refine LeO.bind ?_ (fun _ => ?_)) | exact LeO.none _ | refine LeO.ite ?_ ?_ | refine LeO.bind ?_ (fun _ => ?_)
theorem quorumref1_Range.calls (k : Nat) (a0_0 : ByteArray) (a0_1 : ByteArray) (a0_2 : Bool) (r : Bool) (w : World) (h : quorumref1_Range.f k a0_0 a0_1 a0_2 = some r) :
  Calls Try.prog 81 #[.agg #[.string a0_0, .string a0_1, .bool a0_2]] w fun e w' => e = .returned (.bool r) ∧ Below w.heap.size w w' := by
 have hu74 := Try.underlying74
 have HB := mk0 (Below.refl w.heap.size w)
 have H : (if (a0_0.size : Int) > 13 then (quorumref1_Range.j0 k true a0_0 a0_1 a0_2) else (quorumref1_Range.j0 k (decide ((a0_1.size : Int) > 13)) a0_0 a0_1 a0_2)) = some r := h
 clear h
 have HC2 := mk0 H
 clear H
 go_enter Try.func81, Try.ntmps81
 go_upto_region 1 with (first | ((with_reducible refine gate_dst (N := 1) rfl ?_); (try (refine gate_guard (by rfl) ?_; dsimp only)); refine bx_ (N := 1) (cs := #[.string a0_0, .string a0_1, .bool a0_2]) (t := 74) (h := ?_); intro ad hg w3 hbox hb; have n2_ := mk0 (gz_ HB hg); have ae := mk0 (gz_ HB hg); replace HB := mk0 (bt_ (b_ HB) hb); have aa := mk0 (hbox); have aI := ae; clear n2_ ae; clear hb hbox hg))
 (try simp only [Act.put, List.setIfInBounds_toArray, List.set_cons_zero, List.set_cons_succ])
 go_cut [12] (fun v12 wc => ∃ (kq : Nat) (ab : Bool), v12 = .bool ab ∧ Fc (quorumref1_Range.j0 kq ab a0_0 a0_1 a0_2 = some r) ∧ Fc (kq ≤ k) ∧ Fc (wc.heap[ad]? = some (.cells #[.string a0_0, .string a0_1, .bool a0_2] 74 (0, 0))) ∧ Fc (Below w.heap.size w wc))
 case first =>
  have H := HC2.out
  clear HC2
  by_cases c4 : (a0_0.size : Int) > 13
  ·rw [if_pos c4] at H
   have ac := decide_eq_true c4
   have af : decide (13 < a0_0.size) = true := decide_eq_true (by omega)
   clear c4
   (first | rw [ac] | (simp only [i64_w, i32_w]; rw [ac]) | skip)
   have H' := mk0 H
   clear H
   obtain ⟨am, an, ao, ap, aq, ar⟩ := c3_ aa
   go_wp2
   go_meet
   case rel => exact ⟨_, (true), sm_, H', ⟨by first | omega | exact Nat.le_refl _⟩, ⟨h_ aa⟩, ⟨b_ HB⟩⟩
  ·rw [if_neg c4] at H
   have ac := decide_eq_false c4
   have af : decide (13 < a0_0.size) = false := decide_eq_false (by omega)
   clear c4
   (first | rw [ac] | (simp only [i64_w, i32_w]; rw [ac]) | skip)
   have H' := mk0 H
   clear H
   obtain ⟨au, av, aw, ax, ay, az⟩ := c3_ aa
   go_wp2
   go_meet
   case rel => exact ⟨_, (decide ((a0_1.size : Int) > 13)), sm_, H', ⟨by first | omega | exact Nat.le_refl _⟩, ⟨h_ aa⟩, ⟨b_ HB⟩⟩
 case rest =>
  clear HC2
  obtain ⟨kq, ab, rfl, HA, aJ, aa, HB⟩ := hcut
  cases kq with
  | zero => exact absurd HA.out (by simp [quorumref1_Range.j0])
  | succ aK =>
   have H := HA.out
   clear HA
   simp only [quorumref1_Range.j0] at H
   as_aux_lemma =>
    by_cases c7 : ab = true
    ·subst c7
     rw [if_pos rfl] at H
     obtain rfl := Option.some.inj H
     go_wp2
     go_ret
     exact ⟨sa_, b_ HB⟩
    ·replace c7 := Bool.eq_false_iff.mpr c7
     subst c7
     rw [if_neg nf_] at H
     by_cases c8 : a0_2 = true
     ·subst c8
      rw [if_pos rfl] at H
      obtain rfl := Option.some.inj H
      obtain ⟨aA, aC, aD, aE, aG, aH⟩ := c3_ aa
      go_wp2
      go_ret
      exact ⟨sa_, b_ HB⟩
     ·replace c8 := Bool.eq_false_iff.mpr c8
      subst c8
      rw [if_neg nf_] at H
      obtain rfl := Option.some.inj H
      obtain ⟨ag, ah, ai, aj, ak, al⟩ := c3_ aa
      go_wp2
      go_ret
      exact ⟨sa_, b_ HB⟩
/-! ### quorumref1_Has: function 124 -/
def quorumref1_Has.f (a0_0 : ByteArray) (a0_1 : ByteArray) (a0_2 : Bool) (a1 : ByteArray) : Option (Bool) := if ((Op.bytesLess a1.toList a0_0.toList) = true) then (some false) else (if a0_2 = true then (some true) else (some (Op.bytesLess a1.toList a0_1.toList)))
theorem quorumref1_Has.calls (a0_0 : ByteArray) (a0_1 : ByteArray) (a0_2 : Bool) (a1 : ByteArray) (r : Bool) (w : World) (h : quorumref1_Has.f a0_0 a0_1 a0_2 a1 = some r) :
  Calls Try.prog 124 #[.agg #[.string a0_0, .string a0_1, .bool a0_2], .string a1] w fun e w' => e = .returned (.bool r) ∧ Below w.heap.size w w' := by
 have hu74 := Try.underlying74
 have HB := mk0 (Below.refl w.heap.size w)
 have H : (if ((Op.bytesLess a1.toList a0_0.toList) = true) then (some false) else (if a0_2 = true then (some true) else (some (Op.bytesLess a1.toList a0_1.toList)))) = some r := h
 clear h
 by_cases c3 : ((Op.bytesLess a1.toList a0_0.toList) = true)
 ·rw [if_pos c3] at H
  have af : (Op.bytesLess a1.toList a0_0.toList) = true := c3
  clear c3
  obtain rfl := Option.some.inj H
  go_enter Try.func124, Try.ntmps124
  go_wp2_with (first | ((with_reducible refine gate_dst (N := 2) rfl ?_); refine bx_ (N := 2) (cs := #[.string a0_0, .string a0_1, .bool a0_2]) (t := 74) (h := ?_); intro ac hg w4 hbox hb; have n2_ := mk0 (gz_ HB hg); have ab := mk0 (gz_ HB hg); replace HB := mk0 (bt_ (b_ HB) hb); have aa := mk0 (hbox); have ad := n2_; have ae := ab; clear n2_ ab hb hbox hg; obtain ⟨am, an, ao, ap, aq, ar⟩ := c3_ aa))
  go_ret
  exact ⟨sa_, b_ HB⟩
 ·rw [if_neg c3] at H
  have af : (Op.bytesLess a1.toList a0_0.toList) = false := by simpa using c3
  clear c3
  by_cases c6 : a0_2 = true
  ·subst c6
   rw [if_pos rfl] at H
   obtain rfl := Option.some.inj H
   go_enter Try.func124, Try.ntmps124
   go_wp2_with (first | ((with_reducible refine gate_dst (N := 2) rfl ?_); refine bx_ (N := 2) (cs := #[.string a0_0, .string a0_1, .bool true]) (t := 74) (h := ?_); intro ac hg w7 hbox hb; have n2_ := mk0 (gz_ HB hg); have ab := mk0 (gz_ HB hg); replace HB := mk0 (bt_ (b_ HB) hb); have aa := mk0 (hbox); have ad := n2_; have ae := ab; clear n2_ ab hb hbox hg; obtain ⟨au, av, aw, ax, ay, az⟩ := c3_ aa))
   go_ret
   exact ⟨sa_, b_ HB⟩
  ·replace c6 := Bool.eq_false_iff.mpr c6
   subst c6
   rw [if_neg nf_] at H
   obtain rfl := Option.some.inj H
   go_enter Try.func124, Try.ntmps124
   go_wp2_with (first | ((with_reducible refine gate_dst (N := 2) rfl ?_); refine bx_ (N := 2) (cs := #[.string a0_0, .string a0_1, .bool false]) (t := 74) (h := ?_); intro ac hg w9 hbox hb; have n2_ := mk0 (gz_ HB hg); have ab := mk0 (gz_ HB hg); replace HB := mk0 (bt_ (b_ HB) hb); have aa := mk0 (hbox); have ad := n2_; have ae := ab; clear n2_ ab hb hbox hg; obtain ⟨ag, ah, ai, aj, ak, al⟩ := c3_ aa))
   go_ret
   exact ⟨sa_, b_ HB⟩
/-! ### quorumref6_Rows: function 82 -/
mutual
def quorumref6_Rows.l0 : Nat → List (S82) → Int → Bool → List (S82) → Int → ByteArray → ByteArray → Bool → Option ((List (S82)))
 | 0, _, _, _, _, _, _, _, _ => none
 | k + 1, x0, x2, x3, x9, x10, x338000, x338001, x338002 => if x10 < (x0.length : Int) then (if x3 = true then (quorumref6_Rows.j1 k x0 x2 x3 x9 x10 (wrap64 ((wrap64 ((x0.length : Int) - 1)) - x10)) x338000 x338001 x338002) else (quorumref6_Rows.j1 k x0 x2 x3 x9 x10 x10 x338000 x338001 x338002)) else (some x9)
def quorumref6_Rows.j1 : Nat → List (S82) → Int → Bool → List (S82) → Int → Int → ByteArray → ByteArray → Bool → Option ((List (S82)))
 | 0, _, _, _, _, _, _, _, _, _ => none
 | k + 1, x0, x2, x3, x9, x10, x11, x338000, x338001, x338002 => if (x9.length : Int) < x2 then (if 0 ≤ x11 then (if x11 < (x0.length : Int) then ((quorumref1_Has.f x338000 x338001 x338002 ((rd_T82 x0 x11).f0)).bind fun t339 => (quorumref6_Rows.j2 k x0 x2 x3 x9 x10 x11 t339 x338000 x338001 x338002)) else (none)) else (none)) else (quorumref6_Rows.j2 k x0 x2 x3 x9 x10 x11 false x338000 x338001 x338002)
def quorumref6_Rows.j2 : Nat → List (S82) → Int → Bool → List (S82) → Int → Int → Bool → ByteArray → ByteArray → Bool → Option ((List (S82)))
 | 0, _, _, _, _, _, _, _, _, _, _ => none
 | k + 1, x0, x2, x3, x9, x10, x11, x37, x338000, x338001, x338002 => if x37 = true then (if 0 ≤ x11 then (if x11 < (x0.length : Int) then (if x9.length < 4398046511104 then (quorumref6_Rows.l0 k x0 x2 x3 (x9 ++ [(⟨(rd_T82 x0 x11).f0, (rd_T82 x0 x11).f1⟩ : S82)]) (wrap64 (x10 + 1)) x338000 x338001 x338002) else (none)) else (none)) else (none)) else (quorumref6_Rows.l0 k x0 x2 x3 x9 (wrap64 (x10 + 1)) x338000 x338001 x338002)
end
def quorumref6_Rows.f (k : Nat) (l0 : List (S82)) (a1_0 : ByteArray) (a1_1 : ByteArray) (a1_2 : Bool) (a2 : Int) (a3 : Bool) : Option ((List (S82))) := quorumref6_Rows.l0 k l0 a2 a3 ([] : List (S82)) 0 a1_0 a1_1 a1_2
theorem quorumref6_Rows.mono_l : ∀ k, (∀ y0 y1 y2 y3 y4 y5 y6 y7, LeO (quorumref6_Rows.l0 k y0 y1 y2 y3 y4 y5 y6 y7) (quorumref6_Rows.l0 (k + 1) y0 y1 y2 y3 y4 y5 y6 y7)) ∧ (∀ y0 y1 y2 y3 y4 y5 y6 y7 y8, LeO (quorumref6_Rows.j1 k y0 y1 y2 y3 y4 y5 y6 y7 y8) (quorumref6_Rows.j1 (k + 1) y0 y1 y2 y3 y4 y5 y6 y7 y8)) ∧ (∀ y0 y1 y2 y3 y4 y5 y6 y7 y8 y9, LeO (quorumref6_Rows.j2 k y0 y1 y2 y3 y4 y5 y6 y7 y8 y9) (quorumref6_Rows.j2 (k + 1) y0 y1 y2 y3 y4 y5 y6 y7 y8 y9))
 | 0 => ⟨fun _ _ _ _ _ _ _ _ r h => by simp [quorumref6_Rows.l0] at h, fun _ _ _ _ _ _ _ _ _ r h => by simp [quorumref6_Rows.j1] at h, fun _ _ _ _ _ _ _ _ _ _ r h => by simp [quorumref6_Rows.j2] at h⟩
 | k + 1 => by
  obtain ⟨ih0, ih1, ih2⟩ := quorumref6_Rows.mono_l k
  refine ⟨?_, ?_, ?_⟩
  all_goals (intros; first | unfold quorumref6_Rows.l0 | unfold quorumref6_Rows.j1 | unfold quorumref6_Rows.j2)
  all_goals (repeat' first | (with_reducible exact ih0 ..) | (with_reducible exact ih1 ..) | (with_reducible exact ih2 ..) | (with_reducible exact LeO.refl _) | (with_reducible exact LeO.none _) | (with_reducible refine LeO.ite ?_ ?_) | (with_reducible refine LeO.bind ?_ (fun _ => ?_)) | exact LeO.none _ | refine LeO.ite ?_ ?_ | refine LeO.bind ?_ (fun _ => ?_))
theorem quorumref6_Rows.mono : ∀ a0 a1 a2 a3 a4 a5 k, LeO (quorumref6_Rows.f k a0 a1 a2 a3 a4 a5) (quorumref6_Rows.f (k + 1) a0 a1 a2 a3 a4 a5) := by
 intro a0 a1 a2 a3 a4 a5 k
 obtain ⟨ih0, ih1, ih2⟩ := quorumref6_Rows.mono_l k
 unfold quorumref6_Rows.f
 repeat' first | (with_reducible exact ih0 ..) | (with_reducible exact ih1 ..) | (with_reducible exact ih2 ..) | (with_reducible exact LeO.refl _) | (with_reducible exact LeO.none _) | (with_reducible refine LeO.ite ?_ ?_) | (with_reducible refine LeO.bind ?_ (fun _ => ?_)) | exact LeO.none _ | refine LeO.ite ?_ ?_ | refine LeO.bind ?_ (fun _ => ?_)
def quorumref6_Rows.T8 : Bool × List (List Nat × List Nat) := (true, [([], []), ([0], [0]), ([], []), ([1, 2], [1, 2]), ([3], [3]), ([4], [4]), ([4], [4]), ([4], [4]), ([6, 7, 4], [4, 6, 7]), ([8, 4], [4, 8]), ([9, 4], [4, 9]), ([5, 10, 4, 4], [4, 5, 10]), ([4, 11], [4, 11])])
def quorumref6_Rows.B8 : List Nat := [0, 1, 0, 7, 15, 31, 31, 31, 223, 479, 991, 2047, 4095]
theorem quorumref6_Rows.tab8 : rtab .any (opsOf Try.f82 8) = quorumref6_Rows.T8 := by kernel_rfl
theorem quorumref6_Rows.bits8 : waitsOk quorumref6_Rows.T8.2 quorumref6_Rows.B8 = true := by kernel_rfl
theorem quorumref6_Rows.calls (k : Nat) (A0 : Option Addr) (c0 : Nat) (l0 : List (S82)) (a1_0 : ByteArray) (a1_1 : ByteArray) (a1_2 : Bool) (a2 : Int) (a3 : Bool) (r : List (S82)) (w : World) (hr0 : Kd.C k82 w A0 l0.length l0) (hc0 : l0.length ≤ c0) (h : quorumref6_Rows.f k l0 a1_0 a1_1 a1_2 a2 a3 = some r) :
  Calls Try.prog 82 #[.slice A0 l0.length c0, .agg #[.string a1_0, .string a1_1, .bool a1_2], .int .i64 a2, .bool a3] w fun e w' => ∃ v0_ : Value, e = .returned (v0_) ∧ Kd.R k82 82 w' w.heap.size (fun _ => True) v0_ r ∧ Below w.heap.size w w' := by
 have hu74 := Try.underlying74
 have hu82 := Try.underlying82
 have HR0 := mk0 hr0
 have HC0 := mk0 hc0
 clear hr0 hc0
 have HB := mk0 (Below.refl w.heap.size w)
 have H : (quorumref6_Rows.l0 k l0 a2 a3 ([] : List (S82)) 0 a1_0 a1_1 a1_2) = some r := h
 clear h
 have H' := mk0 H
 clear H
 go_enter Try.func82, Try.ntmps82
 go_wp2_with (first | ((with_reducible refine gate_dst (N := 5) rfl ?_); refine bx_ (N := 5) (cs := #[.string a1_0, .string a1_1, .bool a1_2]) (t := 74) (h := ?_); intro af hg w5 hbox hb; have n2_ := mk0 (gz_ HB hg); have aU := mk0 (gz_ HB hg); replace HB := mk0 (bt_ (b_ HB) hb); have ab := mk0 (hbox); have aX := aU; clear n2_ aU; clear hb hbox hg))
 go_loopg [9, 10] k (fun kq v9 v10 w' => ∃ (ae : List (S82)) (ad : Int), v10 = .int .i64 ad ∧ Fc (quorumref6_Rows.l0 kq l0 a2 a3 ae ad a1_0 a1_1 a1_2 = some r) ∧ Fc (kq ≤ k) ∧ Fc (Kd.R k82 82 w' w.heap.size (fun _ => True) v9 ae) ∧ Fc (w'.heap[af]? = some (.cells #[.string a1_0, .string a1_1, .bool a1_2] 74 (0, 0))) ∧ Fc (Below w.heap.size w w'))
 case atStart => exact ⟨(([] : List (S82))), (0), sm_, H', ⟨Nat.le_refl _⟩, ⟨nl_⟩, ⟨h_ ab⟩, ⟨b_ HB⟩⟩
 case round =>
  clear H'
  obtain ⟨ae, ad, rfl, HA, al, ac, ab, HB⟩ := hrel
  cases gk with
  | zero => exact absurd HA.out (by simp [quorumref6_Rows.l0])
  | succ k1 =>
   have H := HA.out
   clear HA
   simp only [quorumref6_Rows.l0] at H
   as_aux_lemma =>
    by_cases c6 : ad < (l0.length : Int)
    ·rw [if_pos c6] at H
     have av := decide_eq_true c6
     clear c6
     have HC7 := mk0 H
     clear H
     go_upto_if 19 with (fail)
     go_cut [11] (fun v11 wc => ∃ (kq : Nat) (aa : Int), v11 = .int .i64 aa ∧ Fc (quorumref6_Rows.j1 kq l0 a2 a3 ae ad aa a1_0 a1_1 a1_2 = some r) ∧ Fc (kq ≤ k1) ∧ Fc (Kd.R k82 82 wc w.heap.size (fun _ => True) u9 ae) ∧ Fc (wc.heap[af]? = some (.cells #[.string a1_0, .string a1_1, .bool a1_2] 74 (0, 0))) ∧ Fc (Below w.heap.size w wc))
     case first =>
      have H := HC7.out
      clear HC7
      by_cases c8 : a3 = true
      ·subst c8
       rw [if_pos rfl] at H
       have H' := mk0 H
       clear H
       go_wp2
       go_meet
       case rel => exact ⟨_, (wrap64 ((wrap64 ((l0.length : Int) - 1)) - ad)), sm_, H', ⟨by have := al.out; first | omega | exact Nat.le_refl _⟩, ⟨r2_ ac.out⟩, ⟨h_ ab⟩, ⟨b_ HB⟩⟩
      ·replace c8 := Bool.eq_false_iff.mpr c8
       subst c8
       rw [if_neg nf_] at H
       have H' := mk0 H
       clear H
       go_wp2
       go_meet
       case rel => exact ⟨_, (ad), sm_, H', ⟨by have := al.out; first | omega | exact Nat.le_refl _⟩, ⟨r2_ ac.out⟩, ⟨h_ ab⟩, ⟨b_ HB⟩⟩
     case rest =>
      clear HC7
      try clear c6
      try clear av
      obtain ⟨kq, aa, rfl, HA, ar, ac, ab, HB⟩ := hcut
      cases kq with
      | zero => exact absurd HA.out (by simp [quorumref6_Rows.j1])
      | succ aY =>
       have H := HA.out
       clear HA
       simp only [quorumref6_Rows.j1] at H
       as_aux_lemma =>
        have HC9 := mk0 H
        clear H
        go_upto_region 8 with (fail)
        go_cut [37] (fun v37 wc => ∃ (kq : Nat) (ak : Bool), v37 = .bool ak ∧ Fc (quorumref6_Rows.j2 kq l0 a2 a3 ae ad aa ak a1_0 a1_1 a1_2 = some r) ∧ Fc (kq ≤ aY) ∧ Fc (Kd.R k82 82 wc w.heap.size (fun _ => True) u9 ae) ∧ Fc (wc.heap[af]? = some (.cells #[.string a1_0, .string a1_1, .bool a1_2] 74 (0, 0))) ∧ Fc (Below w.heap.size w wc))
        case first =>
         have H := HC9.out
         clear HC9
         by_cases au : (ae.length : Int) < a2
         ·rw [if_pos au] at H
          have ai := decide_eq_true au
          clear au
          (first | rw [ai] | (simp only [i64_w, i32_w]; rw [ai]) | skip)
          by_cases aA : 0 ≤ aa
          ·rw [if_pos aA] at H
           have aZ := decide_eq_true aA
           clear aA
           by_cases aC : aa < (l0.length : Int)
           ·rw [if_pos aC] at H
            have a6 := decide_eq_true aC
            clear aC
            replace H := ob_ H
            obtain ⟨aJ, a7, H⟩ := H
            try dsimp only at H
            have H' := mk0 H
            clear H
            try go_wp2
            replace ac := mk0 (Rd_ ac.out)
            replace ab := mk0 (bD_ ab.out)
            replace HB := mk0 (b1_ HB.out)
            obtain ⟨bb, bc, aK⟩ := Kd.R_slice ac.out
            (first | subst aK | (injection aK with f1_ f2_ f3_; have f4_ := f1_.symm; have f5_ := f3_.symm; clear f1_ f2_ f3_; subst f4_; subst f5_))
            have aw : 0 ≤ (aa : Int) := od_
            have ax : aa < (l0.length : Int) := od_
            obtain ⟨aq, aV, ag, ah⟩ := at_T82 HR0.out aa aw ax
            have am := ah
            have an := ag
            cases aV
            replace ag := (bc_ HB ag :)
            replace ah := (bc_ HB ah :)
            replace aw := eq_true aw
            replace ax := eq_true ax
            refine start_ (n := 13) (S := fun w' => w'.cell? ⟨af, 0, none⟩ = some (.string a1_0) ∧ w'.cell? ⟨af, 1, none⟩ = some (.string a1_1) ∧ w'.cell? ⟨af, 2, none⟩ = some (.bool a1_2) ∧ w'.cell? (aq.add ((aa).toNat * 2)) = some (.string ((rd_T82 l0 aa).f0)) ∧ w'.cell? ⟨(aq.add ((aa).toNat * 2)).block, (aq.add ((aa).toNat * 2)).off + 1, none⟩ = some (.string ((rd_T82 l0 aa).f1))) (ds := []) (bt 13 0) (by kernel_rfl) rfl rfl ⟨bk_ ab 0, bk_ ab 1, bk_ ab 2, ((bc_ HB an :)), ((bc_ HB am :))⟩ (fun hHeld => ?_); refine with_tabW quorumref6_Rows.tab8 quorumref6_Rows.bits8 (fun HT_ HW_ => ?_)
            generalize wc.drew = bg at ac ab HB ag ah hHeld ⊢
            refine pq_ HT_.out 0 25 (bt 13 1) (h := ?_)
            refine pq_ HT_.out 1 26 (bt 13 3) (h := ?_)
            refine pq_ HT_.out 2 27 (bt 13 7) (h := ?_)
            refine pq_ HT_.out 3 28 (bt 13 15) (h := ?_)
            refine pq_ HT_.out 4 29 (bt 13 31) (h := ?_)
            refine pq_ HT_.out 6 31 (bt 13 95) (h := ?_)
            refine pq_ HT_.out 7 32 (bt 13 223) (h := ?_)
            refine pq_ HT_.out 8 33 (bt 13 479) (h := ?_)
            refine pq_ HT_.out 9 34 (bt 13 991) (h := ?_)
            refine tq5_ HT_.out HW_.out 5 30 (bt 13 1023) hHeld (h := ?_)
            refine tq5_ HT_.out HW_.out 10 35 (bt 13 2047) hHeld (h := ?_)
            refine one_ (i := 11) (N := some 36) (bt 13 4095) rfl rfl (one_of HT_.out (by kernel_rfl)) (by decide) (fun K hK => ?_)
            refine goes_ Try.func124 (by kernel_rfl) rfl #[.agg #[.string a1_0, .string a1_1, .bool a1_2], .string ((rd_T82 l0 aa).f0)] (by rfl) rfl rfl gs_ ?_
            with_reducible refine (quorumref1_Has.calls a1_0 a1_1 a1_2 ((rd_T82 l0 aa).f0) aJ _ a7.out).mono ?_
            rintro e bh ⟨rfl, hb⟩
            refine ⟨_, rfl, ?_⟩
            replace ac := mk0 (Kd.R_below (r_ ac) hb)
            replace ab := mk0 (u_ ab hb)
            replace HB := mk0 (bt_ (b_ HB) hb)
            (try clear hb)
            (try clear hk)
            (try clear hi)
            refine hK.out _ _ ⟨bk_ ab 0, bk_ ab 1, bk_ ab 2, ((bc_ HB an :)), ((bc_ HB am :))⟩ (fun hHeld => ?_)
            clear hK K
            refine norm_ (a' := ?_) ?_ ?_
            rotate_left
            ·show Act.put _ (some 36) _ = _
             simp only [z_]
             rfl
            refine pq_ HT_.out 12 37 (bt 13 8191) (h := ?_)
            refine done_ (done_of HT_.out (by kernel_rfl)) ?_
            try go_wp2
            go_meet
            case rel => exact ⟨_, (aJ), sm_, H', ⟨by have := al.out; have := ar.out; first | omega | exact Nat.le_refl _⟩, ⟨r2_ ac.out⟩, ⟨h_ ab⟩, ⟨b_ HB⟩⟩
           ·rw [if_neg aC] at H
            exact absurd H (by simp)
          ·rw [if_neg aA] at H
           exact absurd H (by simp)
         ·rw [if_neg au] at H
          have ai := decide_eq_false au
          clear au
          (first | rw [ai] | (simp only [i64_w, i32_w]; rw [ai]) | skip)
          have H' := mk0 H
          clear H
          try go_wp2
          obtain ⟨bd, be, aM⟩ := Kd.R_slice ac.out
          (first | subst aM | (injection aM with f1_ f2_ f3_; have f4_ := f1_.symm; have f5_ := f3_.symm; clear f1_ f2_ f3_; subst f4_; subst f5_))
          go_quiet (fail)
          generalize hq_ : World.drewN wc _ = bi
          replace ac := mk0 (Kd.R_at hq_ ac.out)
          replace ab := mk0 (blk_at hq_ ab.out)
          replace HB := mk0 (below_at hq_ HB.out)
          clear hq_
          try go_wp2
          go_meet
          case rel => exact ⟨_, (false), sm_, H', ⟨by have := al.out; have := ar.out; first | omega | exact Nat.le_refl _⟩, ⟨r2_ ac.out⟩, ⟨h_ ab⟩, ⟨b_ HB⟩⟩
        case rest =>
         clear HC9
         try clear c6
         try clear av
         obtain ⟨kq, ak, rfl, HA, aD, ac, ab, HB⟩ := hcut
         cases kq with
         | zero => exact absurd HA.out (by simp [quorumref6_Rows.j2])
         | succ aQ =>
          have H := HA.out
          clear HA
          simp only [quorumref6_Rows.j2] at H
          as_aux_lemma =>
           by_cases aE : ak = true
           ·subst aE
            rw [if_pos rfl] at H
            by_cases aG : 0 ≤ aa
            ·rw [if_pos aG] at H
             have a8 := decide_eq_true aG
             clear aG
             by_cases aH : aa < (l0.length : Int)
             ·rw [if_pos aH] at H
              have a9 := decide_eq_true aH
              clear aH
              by_cases aI : ae.length < 4398046511104
              ·rw [if_pos aI] at H
               have LMc22 := mk0 aI
               clear aI
               obtain ⟨aN, aj⟩ : ∃ y_ : List (S82), y_ = (ae ++ [(⟨(rd_T82 l0 aa).f0, (rd_T82 l0 aa).f1⟩ : S82)]) := ⟨_, rfl⟩
               replace H : (quorumref6_Rows.l0 aQ l0 a2 a3 aN (wrap64 (ad + 1)) a1_0 a1_1 a1_2) = some r := by first | (rw [aj]; with_reducible exact H) | (have H2_ := (Option.bind_some _ _).symm.trans H; rw [aj]; with_reducible exact H2_) | (have H2_ := (Option.bind_some _ _).symm.trans H; with_reducible exact H2_) | with_reducible exact H | (rw [aj]; exact H) | exact H
               have aR := mk0 aj
               clear aj
               have H' := mk0 H
               clear H
               have ay : 0 ≤ (aa : Int) := od_
               have az : aa < (l0.length : Int) := od_
               obtain ⟨ba, aW, ao, ap⟩ := at_T82 HR0.out aa ay az
               cases aW
               replace ao := (bc_ HB ao :)
               replace ap := (bc_ HB ap :)
               replace ay := eq_true ay
               replace az := eq_true az
               go_wp2_with (first | ((with_reducible refine gate_builtin (b := .append) (xs := #[.tmp 38, .tmp 43]) rfl ?_); at_builtin; refine Kd.R_append k82 (w0 := w) w.heap.size rfl (.tmp 38) (.tmp 43) 78 82 (.agg #[(.string ⟨#[]⟩), (.string ⟨#[]⟩)]) 32 rfl Try.underlying78 info82 rfl (by decide) (by omega) u9 ae (⟨(rd_T82 l0 aa).f0, (rd_T82 l0 aa).f1⟩ : S82) [.string ((rd_T82 l0 aa).f0), .string ((rd_T82 l0 aa).f1)] (fun _ => True) (fun _ => False) rfl rfl ?aP (fun _ hk => hk.elim) ?aF ?aO ?aB ?aS ?aL ?_; (case aP => exact k82_mkM _ _ _ (⟨(rd_T82 l0 aa).f0, (rd_T82 l0 aa).f1⟩ : S82)); (case aB => exact (b_ HB)); (case aF => exact (fun _ _ => trivial)); (case aO => exact (r_ ac)); (case aS => exact (bz_ (b_ HB))); (case aL => have := LMc22.out; omega); intro bf bj ho hb hg hat; rw [← aR.out] at ho; replace ab := mk0 (blk_grown (g := af) (o := .cells #[.string a1_0, .string a1_1, .bool a1_2] 74 (0, 0)) (h_ ab) hg (Kd.R_ne ac.out ab.out (by decide))); replace HB := mk0 (hb); have aT := mk0 (ho); clear ac; clear ho hb hg hat))
               go_roundg aQ
               case measure => have := al.out; have := ar.out; have := aD.out; omega
               case rel => exact ⟨(aN), (wrap64 (ad + 1)), sm_, H', ⟨by have := al.out; have := ar.out; have := aD.out; omega⟩, ⟨r2_ aT.out⟩, ⟨h_ ab⟩, ⟨b_ HB⟩⟩
              ·rw [if_neg aI] at H
               exact absurd H (by simp)
             ·rw [if_neg aH] at H
              exact absurd H (by simp)
            ·rw [if_neg aG] at H
             exact absurd H (by simp)
           ·replace aE := Bool.eq_false_iff.mpr aE
            subst aE
            rw [if_neg nf_] at H
            have H' := mk0 H
            clear H
            go_wp2
            go_roundg aQ
            case measure => have := al.out; have := ar.out; have := aD.out; omega
            case rel => exact ⟨(ae), (wrap64 (ad + 1)), sm_, H', ⟨by have := al.out; have := ar.out; have := aD.out; omega⟩, ⟨r2_ ac.out⟩, ⟨h_ ab⟩, ⟨b_ HB⟩⟩
    ·rw [if_neg c6] at H
     have av := decide_eq_false c6
     clear c6
     obtain rfl := Option.some.inj H
     go_wp2
     go_ret
     exact ⟨_, sa_, by (with_reducible repeat (first | apply Ra_ | apply Rn_ | apply Rd_)); exact ac.out, b_ HB⟩
end Go.Proofs.Ytbaecdcfefmcgaa.PTbe
