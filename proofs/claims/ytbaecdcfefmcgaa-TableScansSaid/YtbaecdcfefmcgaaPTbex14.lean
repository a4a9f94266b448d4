-- PRINTED by print.py (a twelfth state) out of the translation. Not trusted: Lean checks it.
import Derived.Test.YtbaecdcfefmcgaaPTbex0
import Derived.Test.YtbaecdcfefmcgaaPTbex7
import Derived.Test.YtbaecdcfefmcgaaPTbex8
import Derived.Test.YtbaecdcfefmcgaaPTbex13
import Derived.Test.YtbaecdcfefmcgaaHTabW
namespace Go.Proofs.Ytbaecdcfefmcgaa.PTbe
open Go.RowKit Go.Proofs.YtbaecdcfefmcgaaW.PrintWords Go.Proofs.YtbaecdcfefmcgaaW.PrintLast Go.Proofs.YtbaecdcfefmcgaaW.PrintMore
attribute [local go_sem] max2_int min2_int max_two min_two max_three min_three max_four min_four   -- for this text's walks alone
set_option maxHeartbeats 8000000
set_option maxRecDepth 100000
set_option linter.unusedVariables false
set_option linter.unusedSimpArgs false
/-! ### chain_With: function 170 -/
def chain_With.f (a0_0 : ByteArray) (l0_1 : List (S72)) (a1_0 : Int) (a1_1 : ByteArray) (a1_2 : Bool) : Option (ByteArray × (List (S72))) := (api_Version_194.f l0_1).bind fun t364 => ((api_Version_195.f t364 0 (([(⟨a1_0, a1_1, a1_2⟩ : S72)] : List (S72)))).bind fun t370 => (some (a0_0, t370)))
def chain_With.T1 : Bool × List (List Nat × List Nat) := (true, [([], []), ([0], [0]), ([1], [1]), ([], []), ([3], [3]), ([2, 4, 2], [2, 4]), ([0, 1, 2, 3, 4, 5], []), ([6, 5, 5, 0, 1, 2, 3, 4, 5], [5, 6])])
def chain_With.B1 : List Nat := [0, 1, 3, 0, 8, 31, 63, 127]
theorem chain_With.tab1 : rtab .any (opsOf Try.f170 1) = chain_With.T1 := by kernel_rfl
theorem chain_With.bits1 : waitsOk chain_With.T1.2 chain_With.B1 = true := by kernel_rfl
theorem chain_With.calls (a0_0 : ByteArray) (A0_1 : Option Addr) (c0_1 : Nat) (l0_1 : List (S72)) (a1_0 : Int) (a1_1 : ByteArray) (a1_2 : Bool) (r1 : ByteArray) (r2 : List (S72)) (w : World) (hr0_1 : Kd.C k72 w A0_1 l0_1.length l0_1) (hc0_1 : l0_1.length ≤ c0_1) (h : chain_With.f a0_0 l0_1 a1_0 a1_1 a1_2 = some (r1, r2)) :
  Calls Try.prog 170 #[.agg #[.string a0_0, .slice A0_1 l0_1.length c0_1], .agg #[.int .i64 a1_0, .string a1_1, .bool a1_2]] w fun e w' => ∃ v1_ : Value, e = .returned (.agg #[.string r1, v1_]) ∧ Kd.R k72 72 w' w.heap.size (fun _ => True) v1_ r2 ∧ Below w.heap.size w w' := by
 have hu99 := Try.underlying99
 have hu72 := Try.underlying72
 have aD := mk0 hr0_1
 have aE := mk0 hc0_1
 clear hr0_1 hc0_1
 have HB := mk0 (Below.refl w.heap.size w)
 have H : ((api_Version_194.f l0_1).bind fun ai => ((api_Version_195.f ai 0 (([(⟨a1_0, a1_1, a1_2⟩ : S72)] : List (S72)))).bind fun ak => (some (a0_0, ak)))) = some (r1, r2) := h
 clear h
 replace H := ob_ H
 obtain ⟨ai, A3, H⟩ := H
 try dsimp only at H
 obtain ⟨al, am⟩ : ∃ y_ : List (S72), y_ = (([(⟨a1_0, a1_1, a1_2⟩ : S72)] : List (S72))) := ⟨_, rfl⟩
 replace H : ((api_Version_195.f ai 0 al).bind fun ak => (some (a0_0, ak))) = some (r1, r2) := by first | (rw [am]; with_reducible exact H) | (have H2_ := (Option.bind_some _ _).symm.trans H; rw [am]; with_reducible exact H2_) | (have H2_ := (Option.bind_some _ _).symm.trans H; with_reducible exact H2_) | with_reducible exact H | (rw [am]; exact H) | exact H
 have aw := mk0 am
 clear am
 replace H := ob_ H
 obtain ⟨ak, A4, H⟩ := H
 try dsimp only at H
 simp only [Option.some.injEq, Prod.mk.injEq] at H
 obtain ⟨rfl, rfl⟩ := H
 go_enter Try.func170, Try.ntmps170
 try go_wp2_with (first | ((with_reducible refine gate_dst (N := 2) rfl ?_); refine bx_ (N := 2) (cs := #[.string a0_0, .slice A0_1 l0_1.length c0_1]) (t := 99) (h := ?_); intro ag hg w5 hbox hb; have n2_ := mk0 (gz_ HB hg); have ar := mk0 (gz_ HB hg); replace HB := mk0 (bt_ (b_ HB) hb); have ab := mk0 (hbox); have aQ := ar; clear n2_ ar; clear hb hbox hg) | ((with_reducible refine gate_dst (N := 3) rfl ?_); refine bx_ (N := 3) (cs := #[.int .i64 a1_0, .string a1_1, .bool a1_2]) (t := 72) (h := ?_); intro ad hg w6 hbox hb; have ar := mk0 (gz_ HB hg); have aA := mk0 (gz_ HB hg); have ax := mk0 (ne1_ ab hg); have aF := mk0 (ne2_ ab hg); replace ab := mk0 (u_ ab hb); replace HB := mk0 (bt_ (b_ HB) hb); have aa := mk0 (hbox); have aR := aA; have an := ax; have ao := aF; clear ar aA ax aF; clear hb hbox hg) | ((with_reducible refine gate_dst (N := 4) rfl ?_); refine bx_ (N := 4) (cs := #[.string (⟨#[]⟩ : ByteArray), .slice none 0 0]) (t := 99) (h := ?_); intro ah hg w7 hbox hb; have aA := mk0 (gz_ HB hg); have ax := mk0 (gz_ HB hg); have aF := mk0 (ne1_ ab hg); have aT := mk0 (ne2_ ab hg); have aU := mk0 (ne1_ aa hg); have aV := mk0 (ne2_ aa hg); replace ab := mk0 (u_ ab hb); replace aa := mk0 (u_ aa hb); replace HB := mk0 (bt_ (b_ HB) hb); have ac := mk0 (hbox); have aS := ax; have ap := aF; have aj := aT; have aB := aU; have aC := aV; clear aA ax aF aT aU aV; clear hb hbox hg))
 replace ab := mk0 (bD_ ab.out)
 replace aa := mk0 (bD_ aa.out)
 replace ac := mk0 (bD_ ac.out)
 replace HB := mk0 (b1_ HB.out)
 refine start_ (n := 8) (S := fun w' => w'.cell? ⟨ag, 0, none⟩ = some (.string a0_0) ∧ w'.cell? ⟨ag, 1, none⟩ = some (.slice A0_1 l0_1.length c0_1) ∧ w'.cell? ⟨ad, 0, none⟩ = some (.int .i64 a1_0) ∧ w'.cell? ⟨ad, 1, none⟩ = some (.string a1_1) ∧ w'.cell? ⟨ad, 2, none⟩ = some (.bool a1_2)) (ds := [7]) (bt 8 0) (by kernel_rfl) rfl rfl ⟨bk_ ab 0, bk_ ab 1, bk_ aa 0, bk_ aa 1, bk_ aa 2⟩ (fun hHeld => ?_); refine with_tabW chain_With.tab1 chain_With.bits1 (fun HT_ HW_ => ?_)
 generalize w7.drew = w8 at ab aa ac HB hHeld ⊢
 refine pq_ HT_.out 0 5 (bt 8 1) (h := ?_)
 refine tq5_ HT_.out HW_.out 1 6 (bt 8 3) hHeld (h := ?_)
 refine tq5_ HT_.out HW_.out 3 8 (bt 8 11) hHeld (h := ?_)
 refine join_ (σ := Value × Value) 3 (bt 8 31) (fun s_ => [(7, s_.1), (9, s_.2)]) (fun s_ w' => (w'.cell? ⟨ag, 0, none⟩ = some (.string a0_0) ∧ w'.cell? ⟨ag, 1, none⟩ = some (.slice A0_1 l0_1.length c0_1) ∧ w'.cell? ⟨ad, 0, none⟩ = some (.int .i64 a1_0) ∧ w'.cell? ⟨ad, 1, none⟩ = some (.string a1_1) ∧ w'.cell? ⟨ad, 2, none⟩ = some (.bool a1_2)) ∧ (Kd.R k72 72 w' w.heap.size (fun k_ => some k_ ≠ (s_.2 : Value).ownBlock ∧ k_ ≠ ad) s_.1 ai) ∧ (Kd.R k72 72 w' w.heap.size (fun k_ => some k_ ≠ (s_.1 : Value).ownBlock ∧ k_ ≠ ad) s_.2 al) ∧ (w'.heap[ag]? = some (.cells #[.string a0_0, .slice A0_1 l0_1.length c0_1] 99 (0, 0))) ∧ (w'.heap[ad]? = some (.cells #[.int .i64 a1_0, .string a1_1, .bool a1_2] 72 (0, 0))) ∧ (w'.heap[ah]? = some (.cells #[.string (⟨#[]⟩ : ByteArray), .slice none 0 0] 99 (0, 0))) ∧ (Below w.heap.size w w')) ?_ ?_
 rotate_left
 ·intro hCont
  refine two_ (i := 2) (j := 4) (Ni := some 7) (Nj := some 9) (bt 8 15) (bt 8 27) rfl rfl rfl rfl (two_of HT_.out (by kernel_rfl)) (by decide) (by decide) (fun K hK => ?_) (fun K hK => ?_)
  ·skip
   refine goes_ Try.func194 (by kernel_rfl) rfl #[.slice A0_1 l0_1.length c0_1] (by rfl) rfl rfl gs_ ?_
   with_reducible refine (api_Version_194.calls _ _ l0_1 ai _ ?side1 ?side2 A3.out).mono ?_
   (case side1 => exact cb_ aD HB)
   (case side2 => exact aE.out)
   rintro e w9 ⟨au, rfl, ho0, hb⟩
   refine ⟨_, rfl, ?_⟩
   have ay := mk0 (Kd.R_lower (Kd.R_newB ho0 (g := ad) (o := .cells #[.int .i64 a1_0, .string a1_1, .bool a1_2] 72 (0, 0)) (h_ aa)) (bz_ (b_ HB)))
   replace ab := mk0 (u_ ab hb)
   replace aa := mk0 (u_ aa hb)
   replace ac := mk0 (blk_below (g := ah) (o := .cells #[.string (⟨#[]⟩ : ByteArray), .slice none 0 0] 99 (0, 0)) (h_ ac) hb)
   replace HB := mk0 (bt_ (b_ HB) hb)
   have ae := ay
   clear ay
   (try clear hb)
   (try clear hk)
   (try clear hi)
   (try clear ho0)
   refine hK.out _ _ ⟨bk_ ab 0, bk_ ab 1, bk_ aa 0, bk_ aa 1, bk_ aa 2⟩ (fun hHeld => ?_)
   clear hK K
   refine norm_ (a' := ?_) ?_ ?_
   rotate_left
   ·show Act.put _ (some 7) _ = _
    simp only [z_]
    rfl
   refine one_ (i := 4) (N := some 9) (bt 8 31) rfl rfl (one_of HT_.out (by kernel_rfl)) (by decide) (fun K hK => ?_)
   refine Kd.R_lit_step k72 _ 72 ?hg (N := 9) ?hd (xs := ([(⟨a1_0, a1_1, a1_2⟩ : S72)] : List (S72))) (inner := [.int .i64 a1_0, .string a1_1, .bool a1_2]) (ok := fun _ => True) (okp := fun _ => True) ?hr ?hp (fun _ hk => hk) trivial (Below.refl _ _) (Nat.le_refl _) (by simp) ?_; (case hd => rfl); (case hg => rfl); (case hr => first | (go_simp; done) | (go_simp; rfl)); (case hp => exact (Reps.c3 (show Kd.M k72 _ _ _ (⟨a1_0, a1_1, a1_2⟩ : S72) [.int .i64 a1_0, .string a1_1, .bool a1_2] from (k72_mkM _ _ _ (⟨a1_0, a1_1, a1_2⟩ : S72) )) (Reps.none _ _)))
   intro av bl ho11 hb hg_ hnew_
   clear hg_ hnew_
   (first | rw [← aw.out] at ho11 | (simp only [Int.reduceToNat] at ho11; rw [← aw.out] at ho11))
   have az := mk0 (Kd.R_lower (Kd.R_newB (Kd.R_new' ho11 (Kd.R_lt (r_ ae))) (g := ad) (o := .cells #[.int .i64 a1_0, .string a1_1, .bool a1_2] 72 (0, 0)) (h_ aa)) (bz_ (b_ HB)))
   replace ae := mk0 (Kd.R_elder' (r_ ae) (Kd.R_base ho11) hb)
   replace ab := mk0 (u_ ab hb)
   replace aa := mk0 (u_ aa hb)
   replace ac := mk0 (blk_below (g := ah) (o := .cells #[.string (⟨#[]⟩ : ByteArray), .slice none 0 0] 99 (0, 0)) (h_ ac) hb)
   replace HB := mk0 (bt_ (b_ HB) hb)
   have af := az
   clear az hb ho11
   refine hK.out _ _ ⟨bk_ ab 0, bk_ ab 1, bk_ aa 0, bk_ aa 1, bk_ aa 2⟩ (fun hHeld => ?_)
   clear hK K
   refine norm_ (a' := ?_) ?_ ?_
   rotate_left
   ·show Act.put _ (some 9) _ = _
    simp only [z_]
    rfl
   exact norm_ (by simp only [putAll, Act.put, List.setIfInBounds_toArray, List.set_cons_zero, List.set_cons_succ]) (hCont (au, av) _ ⟨hHeld, (r2_ (Kd.R_mono ae.out (fun _ hk => ⟨hk.2, hk.1.2⟩))), (r2_ (Kd.R_mono af.out (fun _ hk => ⟨hk.1.2, hk.2⟩))), (h_ ab), (h_ aa), (h_ ac), (b_ HB)⟩)
  ·skip
   refine Kd.R_lit_step k72 _ 72 ?hg (N := 9) ?hd (xs := ([(⟨a1_0, a1_1, a1_2⟩ : S72)] : List (S72))) (inner := [.int .i64 a1_0, .string a1_1, .bool a1_2]) (ok := fun _ => True) (okp := fun _ => True) ?hr ?hp (fun _ hk => hk) trivial (Below.refl _ _) (Nat.le_refl _) (by simp) ?_; (case hd => rfl); (case hg => rfl); (case hr => first | (go_simp; done) | (go_simp; rfl)); (case hp => exact (Reps.c3 (show Kd.M k72 _ _ _ (⟨a1_0, a1_1, a1_2⟩ : S72) [.int .i64 a1_0, .string a1_1, .bool a1_2] from (k72_mkM _ _ _ (⟨a1_0, a1_1, a1_2⟩ : S72) )) (Reps.none _ _)))
   intro av w9 ho10 hb hg_ hnew_
   clear hg_ hnew_
   (first | rw [← aw.out] at ho10 | (simp only [Int.reduceToNat] at ho10; rw [← aw.out] at ho10))
   have ay := mk0 (Kd.R_lower (Kd.R_newB ho10 (g := ad) (o := .cells #[.int .i64 a1_0, .string a1_1, .bool a1_2] 72 (0, 0)) (h_ aa)) (bz_ (b_ HB)))
   replace ab := mk0 (u_ ab hb)
   replace aa := mk0 (u_ aa hb)
   replace ac := mk0 (blk_below (g := ah) (o := .cells #[.string (⟨#[]⟩ : ByteArray), .slice none 0 0] 99 (0, 0)) (h_ ac) hb)
   replace HB := mk0 (bt_ (b_ HB) hb)
   have af := ay
   clear ay hb ho10
   refine hK.out _ _ ⟨bk_ ab 0, bk_ ab 1, bk_ aa 0, bk_ aa 1, bk_ aa 2⟩ (fun hHeld => ?_)
   clear hK K
   refine norm_ (a' := ?_) ?_ ?_
   rotate_left
   ·show Act.put _ (some 9) _ = _
    simp only [z_]
    rfl
   refine one_ (i := 2) (N := some 7) (bt 8 31) rfl rfl (one_of HT_.out (by kernel_rfl)) (by decide) (fun K hK => ?_)
   refine goes_ Try.func194 (by kernel_rfl) rfl #[.slice A0_1 l0_1.length c0_1] (by rfl) rfl rfl gs_ ?_
   with_reducible refine (api_Version_194.calls _ _ l0_1 ai _ ?side1 ?side2 A3.out).mono ?_
   (case side1 => exact cb_ aD HB)
   (case side2 => exact aE.out)
   rintro e bm ⟨au, rfl, ho0, hb⟩
   refine ⟨_, rfl, ?_⟩
   have az := mk0 (Kd.R_lower (Kd.R_newB (Kd.R_new' ho0 (Kd.R_lt (r_ af))) (g := ad) (o := .cells #[.int .i64 a1_0, .string a1_1, .bool a1_2] 72 (0, 0)) (h_ aa)) (bz_ (b_ HB)))
   replace af := mk0 (Kd.R_elder' (r_ af) (Kd.R_base ho0) hb)
   replace ab := mk0 (u_ ab hb)
   replace aa := mk0 (u_ aa hb)
   replace ac := mk0 (blk_below (g := ah) (o := .cells #[.string (⟨#[]⟩ : ByteArray), .slice none 0 0] 99 (0, 0)) (h_ ac) hb)
   replace HB := mk0 (bt_ (b_ HB) hb)
   have ae := az
   clear az
   (try clear hb)
   (try clear hk)
   (try clear hi)
   (try clear ho0)
   refine hK.out _ _ ⟨bk_ ab 0, bk_ ab 1, bk_ aa 0, bk_ aa 1, bk_ aa 2⟩ (fun hHeld => ?_)
   clear hK K
   refine norm_ (a' := ?_) ?_ ?_
   rotate_left
   ·show Act.put _ (some 7) _ = _
    simp only [z_]
    rfl
   exact norm_ (by simp only [putAll, Act.put, List.setIfInBounds_toArray, List.set_cons_zero, List.set_cons_succ]) (hCont (au, av) _ ⟨hHeld, (r2_ (Kd.R_mono ae.out (fun _ hk => ⟨hk.1.2, hk.2⟩))), (r2_ (Kd.R_mono af.out (fun _ hk => ⟨hk.2, hk.1.2⟩))), (h_ ab), (h_ aa), (h_ ac), (b_ HB)⟩)
 rintro ⟨au, av⟩ aq ⟨hS_, h0_, h1_, h2_, h3_, h4_, h5_⟩
 have ay : Fc (Kd.R k72 72 aq w.heap.size (fun k_ => some k_ ≠ (av : Value).ownBlock ∧ k_ ≠ ad) au ai) := ⟨h0_⟩
 have az : Fc (Kd.R k72 72 aq w.heap.size (fun k_ => some k_ ≠ (au : Value).ownBlock ∧ k_ ≠ ad) av al) := ⟨h1_⟩
 have n2_ : Fc (aq.heap[ag]? = some (.cells #[.string a0_0, .slice A0_1 l0_1.length c0_1] 99 (0, 0))) := ⟨h2_⟩
 have ar : Fc (aq.heap[ad]? = some (.cells #[.int .i64 a1_0, .string a1_1, .bool a1_2] 72 (0, 0))) := ⟨h3_⟩
 have aA : Fc (aq.heap[ah]? = some (.cells #[.string (⟨#[]⟩ : ByteArray), .slice none 0 0] 99 (0, 0))) := ⟨h4_⟩
 have ax : Fc (Below w.heap.size w aq) := ⟨h5_⟩
 clear ab aa ac HB h0_ h1_ h2_ h3_ h4_ h5_
 have ae := ay
 have af := az
 have ab := n2_
 have aa := ar
 have ac := aA
 have HB := ax
 clear ay az n2_ ar aA ax
 have hHeld : aq.cell? ⟨ag, 0, none⟩ = some (.string a0_0) ∧ aq.cell? ⟨ag, 1, none⟩ = some (.slice A0_1 l0_1.length c0_1) ∧ aq.cell? ⟨ad, 0, none⟩ = some (.int .i64 a1_0) ∧ aq.cell? ⟨ad, 1, none⟩ = some (.string a1_1) ∧ aq.cell? ⟨ad, 2, none⟩ = some (.bool a1_2) := hS_
 obtain ⟨aG, aH, aN⟩ := Kd.R_slice ae.out
 (first | subst aN | (injection aN with f1_ f2_ f3_; have f4_ := f1_.symm; have f5_ := f3_.symm; clear f1_ f2_ f3_; subst f4_; subst f5_))
 obtain ⟨aI, aJ, aO⟩ := Kd.R_slice af.out
 (first | subst aO | (injection aO with f1_ f2_ f3_; have f4_ := f1_.symm; have f5_ := f3_.symm; clear f1_ f2_ f3_; subst f4_; subst f5_))
 refine norm_ (a' := ?_) ?_ ?_
 rotate_left
 ·simp only [putAll, Act.put, List.setIfInBounds_toArray, List.set_cons_zero, List.set_cons_succ]
  rfl
 refine one_ (i := 5) (N := some 10) (bt 8 63) rfl rfl (one_of HT_.out (by kernel_rfl)) (by decide) (fun K hK => ?_)
 refine goes_ Try.func195 (by kernel_rfl) rfl #[.slice aG ai.length aH, .int .i64 0, .slice aI al.length aJ] (by rfl) rfl rfl gs_ ?_
 with_reducible refine (api_Version_195.calls (fun k_ => some k_ = (.slice aG ai.length aH : Value).ownBlock) (.slice aG ai.length aH) ai 0 (fun k_ => some k_ = (.slice aI al.length aJ : Value).ownBlock) (.slice aI al.length aJ) al ak w _ ?side1 ?side2 ?side3 ?side4 ?side5 A4.out).mono ?_
 (case side1 => repeat (first | (with_reducible first | exact HB.out | apply bL_ | apply pN_ | apply b1_ | refine bs_ ?_ aQ.out | refine bs_ ?_ aR.out | refine bs_ ?_ aS.out) | exact HB.out))
 (case side2 => exact Kd.R_tight rfl ae.out)
 (case side3 => exact fun k_ e_ => (ae.out.1 k_ e_.symm).1)
 (case side4 => exact Kd.R_tight rfl af.out)
 (case side5 => exact fun k_ e_ => (af.out.1 k_ e_.symm).1)
 rintro e bd ⟨bk, rfl, ho0, hb, hkp⟩
 refine ⟨_, rfl, ?_⟩
 have ar := mk0 (Kd.R_mono (ok' := fun k_ => k_ ≠ ad) ho0 (fun k_ hk_ => Or.elim hk_ (fun hs_ => Or.elim hs_ (fun hs_ => fun e_ => (Kd.R_away ae.out (fun _ hk => hk.2)) (by rw [← e_]; exact hs_)) (fun hs_ => fun e_ => (Kd.R_away af.out (fun _ hk => hk.2)) (by rw [← e_]; exact hs_))) (fun hn_ => (fb_ aa k_ hn_))))
 replace ab := mk0 (blk_kept (h_ ab) hkp (fun hs_ => Or.elim hs_ (fun e_ => (fun e_ => (Kd.R_ne ae.out ab.out (by decide)) e_) e_) (fun e_ => (fun e_ => (Kd.R_ne af.out ab.out (by decide)) e_) e_)))
 replace aa := mk0 (blk_kept (h_ aa) hkp (fun hs_ => Or.elim hs_ (fun e_ => (fun e_ => (Kd.R_away ae.out (fun _ hk => hk.2)) e_) e_) (fun e_ => (fun e_ => (Kd.R_away af.out (fun _ hk => hk.2)) e_) e_)))
 replace ac := mk0 (blk_kept (h_ ac) hkp (fun hs_ => Or.elim hs_ (fun e_ => (fun e_ => (Kd.R_ne ae.out ac.out (by decide)) e_) e_) (fun e_ => (fun e_ => (Kd.R_ne af.out ac.out (by decide)) e_) e_)))
 replace HB := mk0 (hb)
 clear ae af
 have aK := ar
 clear ar
 (try clear hb)
 (try clear hkp)
 (try clear ho0)
 obtain ⟨aL, aM, aP⟩ := Kd.R_slice aK.out
 (first | subst aP | (injection aP with f1_ f2_ f3_; have f4_ := f1_.symm; have f5_ := f3_.symm; clear f1_ f2_ f3_; subst f4_; subst f5_))
 refine hK.out _ _ ⟨bk_ ab 0, bk_ ab 1, bk_ aa 0, bk_ aa 1, bk_ aa 2⟩ (fun hHeld => ?_)
 clear hK K
 refine norm_ (a' := ?_) ?_ ?_
 rotate_left
 ·show Act.put _ (some 10) _ = _
  simp only [z_]
  rfl
 refine pq_ HT_.out 6 11 (bt 8 127) (h := ?_)
 refine last_ (i := 7) (N := none) (bt 8 255) rfl rfl (one_of HT_.out (by kernel_rfl)) (by decide) (fun K hK => ?_)
 have hs17 : bd.cell? ⟨ag, 1, none⟩ = some (.slice A0_1 l0_1.length c0_1) := bk_ ab 1
 have hfs17 := blk_frozen ab.out 1
 have aW := ao.out
 have aX := aj.out
 have aY := an.out
 have aZ := ap.out
 refine skip_ (w1 := ?_) (by rfl) rfl ?_ ?_
 rotate_left
 ·go_simp
  rfl
 refine hK.out _ _ ?_
 clear hK K
 refine done_ (done_of HT_.out (by kernel_rfl)) ?_
 have be := an.out
 have bf := ao.out
 have bg := ap.out
 have bh := aj.out
 obtain ⟨a5, a6, a7, a8⟩ := c2_ ab
 have bi := aC.out
 have bj := aB.out
 obtain ⟨a9, ba, bb, bc⟩ := c2_ ac
 try go_wp2
 refine bodyPost_ret (results_cell_row rfl _ _ ah 99 #[.string a0_0, .slice aL ak.length aM] (0, 0) _ rfl (pu_ (cs := #[.string a0_0, .slice none 0 0]) (pu_ (cs := #[.string (⟨#[]⟩ : ByteArray), .slice none 0 0]) (fa_ (h_ ac) aj.out))) Try.underlying99 rfl (by kernel_rfl)) rfl ?_
 exact ⟨_, sa_, by (with_reducible repeat (first | apply Ra_ | apply Rn_ | apply Rd_)); exact Kd.R_mono (Kd.R_far (p := ⟨ah, 1, none⟩) (Kd.R_far (p := ⟨ah, 0, none⟩) (Kd.R_far (p := ⟨ag, 1, none⟩) (Kd.R_types (Kd.R_types aK.out ab.out (by decide)) ac.out (by decide)) (fun _ hk => hk.1.2) (.slice aL ak.length aM)) (fun _ hk => hk.2) (.string a0_0)) (fun _ hk => hk.2) (.slice aL ak.length aM)) (fun _ hk => trivial), b_ HB⟩
/-! ### chain_Add: function 127 -/
def chain_Add.j0 : Nat → Bool → ByteArray → List (S72) → Option (ByteArray × (List (S72)) × Int)
 | 0, _, _, _ => none
 | k + 1, x17, x381000, x381001 => if x17 = true then (some ((⟨#[]⟩ : ByteArray), ([] : List (S72)), 1)) else (some (x381000, x381001, 0))
def chain_Add.f (k : Nat) (a0_0 : ByteArray) (l0_1 : List (S72)) (a1_0 : Int) (a1_1 : ByteArray) (a1_2 : Bool) : Option (ByteArray × (List (S72)) × Int) := (chain_With.f a0_0 l0_1 a1_0 a1_1 a1_2).bind fun bt376 => ((chain_May.f k a0_0 l0_1).bind fun t381 => (if t381 = true then ((chain_May.f k bt376.1 bt376.2).bind fun t382 => (chain_Add.j0 k (!t382) bt376.1 bt376.2)) else (chain_Add.j0 k true bt376.1 bt376.2)))
theorem chain_Add.mono_l : ∀ k, (∀ y0 y1 y2, LeO (chain_Add.j0 k y0 y1 y2) (chain_Add.j0 (k + 1) y0 y1 y2))
 | 0 => fun _ _ _ r h => by simp [chain_Add.j0] at h
 | k + 1 => by
  have ih0 := chain_Add.mono_l k
  all_goals (intros; first | unfold chain_Add.j0)
  all_goals (repeat' first | (with_reducible exact ih0 ..) | (with_reducible exact chain_May.mono ..) | (with_reducible exact LeO.refl _) | (with_reducible exact LeO.none _) | (with_reducible refine LeO.ite ?_ ?_) | (with_reducible refine LeO.bind ?_ (fun _ => ?_)) | exact LeO.none _ | refine LeO.ite ?_ ?_ | refine LeO.bind ?_ (fun _ => ?_))
theorem chain_Add.mono : ∀ a0 a1 a2 a3 a4 k, LeO (chain_Add.f k a0 a1 a2 a3 a4) (chain_Add.f (k + 1) a0 a1 a2 a3 a4) := by
 intro a0 a1 a2 a3 a4 k
 have ih0 := chain_Add.mono_l k
 unfold chain_Add.f
 repeat' first | (with_reducible exact ih0 ..) | (with_reducible exact chain_May.mono ..) | (with_reducible exact LeO.refl _) | (with_reducible exact LeO.none _) | (with_reducible refine LeO.ite ?_ ?_) | (with_reducible refine LeO.bind ?_ (fun _ => ?_)) | exact LeO.none _ | refine LeO.ite ?_ ?_ | refine LeO.bind ?_ (fun _ => ?_)
theorem chain_Add.calls (k : Nat) (a0_0 : ByteArray) (A0_1 : Option Addr) (c0_1 : Nat) (l0_1 : List (S72)) (a1_0 : Int) (a1_1 : ByteArray) (a1_2 : Bool) (r1 : ByteArray) (r2 : List (S72)) (r3 : Int) (w : World) (hr0_1 : Kd.C k72 w A0_1 l0_1.length l0_1) (hc0_1 : l0_1.length ≤ c0_1) (h : chain_Add.f k a0_0 l0_1 a1_0 a1_1 a1_2 = some (r1, r2, r3)) :
  Calls Try.prog 127 #[.agg #[.string a0_0, .slice A0_1 l0_1.length c0_1], .agg #[.int .i64 a1_0, .string a1_1, .bool a1_2]] w fun e w' => ∃ v1_ : Value, e = .returned (.tuple #[.agg #[.string r1, v1_], .int .i64 r3]) ∧ Kd.R k72 72 w' w.heap.size (fun _ => True) v1_ r2 ∧ Below w.heap.size w w' := by
 have hu99 := Try.underlying99
 have hu72 := Try.underlying72
 have aB := mk0 hr0_1
 have aC := mk0 hc0_1
 clear hr0_1 hc0_1
 have HB := mk0 (Below.refl w.heap.size w)
 have H : ((chain_With.f a0_0 l0_1 a1_0 a1_1 a1_2).bind fun bt376 => ((chain_May.f k a0_0 l0_1).bind fun aH => (if aH = true then ((chain_May.f k bt376.1 bt376.2).bind fun aG => (chain_Add.j0 k (!aG) bt376.1 bt376.2)) else (chain_Add.j0 k true bt376.1 bt376.2)))) = some (r1, r2, r3) := h
 clear h
 replace H := ob_ H
 obtain ⟨⟨al, ap⟩, A3, H⟩ := H
 try dsimp only at H
 have HC4 := mk0 H
 clear H
 go_enter Try.func127, Try.ntmps127
 go_upto_region 2 with (first | ((with_reducible refine gate_dst (N := 2) rfl ?_); refine bx_ (N := 2) (cs := #[.string a0_0, .slice A0_1 l0_1.length c0_1]) (t := 99) (h := ?_); intro bd hg w5 hbox hb; have n2_ := mk0 (gz_ HB hg); have a5 := mk0 (gz_ HB hg); replace HB := mk0 (bt_ (b_ HB) hb); have aa := mk0 (hbox); have bG := a5; clear n2_ a5; clear hb hbox hg) | ((with_reducible refine gate_dst (N := 3) rfl ?_); refine bx_ (N := 3) (cs := #[.int .i64 a1_0, .string a1_1, .bool a1_2]) (t := 72) (h := ?_); intro aD hg w6 hbox hb; have a5 := mk0 (gz_ HB hg); have a6 := mk0 (gz_ HB hg); have aI := mk0 (ne1_ aa hg); have aE := mk0 (ne2_ aa hg); replace aa := mk0 (u_ aa hb); replace HB := mk0 (bt_ (b_ HB) hb); have ab := mk0 (hbox); have bH := a6; have aq := aI; have ar := aE; clear a5 a6 aI aE; clear hb hbox hg) | ((with_reducible refine gate_dst (N := 4) rfl ?_); refine bx_ (N := 4) (cs := #[.string (⟨#[]⟩ : ByteArray), .slice none 0 0]) (t := 99) (h := ?_); intro ah hg w7 hbox hb; have a6 := mk0 (gz_ HB hg); have aI := mk0 (gz_ HB hg); have aE := mk0 (ne1_ aa hg); have aJ := mk0 (ne2_ aa hg); have aK := mk0 (ne1_ ab hg); have aL := mk0 (ne2_ ab hg); replace aa := mk0 (u_ aa hb); replace ab := mk0 (u_ ab hb); replace HB := mk0 (bt_ (b_ HB) hb); have ac := mk0 (hbox); have bI := aI; have aj := aE; have ak := aJ; have au := aK; have av := aL; clear a6 aI aE aJ aK aL hb hbox hg; have cq := aq.out; have cr := ar.out; have ct := aj.out; have cu := ak.out; obtain ⟨aM, aN, aO, aP⟩ := c2_ aa; have bJ := au.out; have bK := av.out; obtain ⟨aQ, aR, aS, aT, aU, aV⟩ := c3_ ab) | ((with_reducible refine gate_callee (f := 170) rfl ?_); refine gL_ (some 9) Try.func170 #[.agg #[.string a0_0, .slice A0_1 l0_1.length c0_1], .agg #[.int .i64 a1_0, .string a1_1, .bool a1_2]] (h := ?_); (with_reducible refine (chain_With.calls a0_0 _ _ l0_1 a1_0 a1_1 a1_2 al ap _ ?side1 ?side2 A3.out).mono ?_); (case side1 => exact cb_ aB HB); (case side2 => exact aC.out); rintro e cw ⟨cv, rfl, ho0, hb⟩; refine ⟨_, rfl, ?_⟩; have aA := mk0 (Kd.R_lower (Kd.R_newB ho0 (g := aD) (o := .cells #[.int .i64 a1_0, .string a1_1, .bool a1_2] 72 (0, 0)) (h_ ab)) (bz_ (b_ HB))); replace aa := mk0 (u_ aa hb); replace ab := mk0 (u_ ab hb); replace ac := mk0 (blk_below (g := ah) (o := .cells #[.string (⟨#[]⟩ : ByteArray), .slice none 0 0] 99 (0, 0)) (h_ ac) hb); replace HB := mk0 (bt_ (b_ HB) hb); have af := aA; clear aA; (try clear hb); (try clear ho0)) | ((with_reducible refine gate_dst (N := 6) rfl ?_); refine bx_ (N := 6) (cs := #[.string (⟨#[]⟩ : ByteArray), .slice none 0 0]) (t := 99) (h := ?_); intro am hg cx hbox hb; have aE := mk0 (gz_ HB hg); have aJ := mk0 (gz_ HB hg); have aK := mk0 (ne1_ aa hg); have aL := mk0 (ne2_ aa hg); have a9 := mk0 (ne1_ ab hg); have ba := mk0 (ne2_ ab hg); have bb := mk0 ((by rw [hg]; exact Nat.ne_of_lt (blk_lt (g := ah) (o := .cells #[.string (⟨#[]⟩ : ByteArray), .slice none 0 0] 99 (0, 0)) (h_ ac)) : ah ≠ am)); have bc := mk0 ((by rw [hg]; exact Nat.ne_of_gt (blk_lt (g := ah) (o := .cells #[.string (⟨#[]⟩ : ByteArray), .slice none 0 0] 99 (0, 0)) (h_ ac)) : am ≠ ah)); replace af := mk0 (Kd.R_below (r_ af) hb); replace aa := mk0 (u_ aa hb); replace ab := mk0 (u_ ab hb); replace ac := mk0 (blk_below (g := ah) (o := .cells #[.string (⟨#[]⟩ : ByteArray), .slice none 0 0] 99 (0, 0)) (h_ ac) hb); replace HB := mk0 (bt_ (b_ HB) hb); have ai := mk0 (hbox); have bL := aJ; have ad := aK; have an := aL; have ag := a9; have aw := ba; have ae := bb; have ao := bc; clear aE aJ aK aL a9 ba bb bc hb hbox hg; have bM := an.out; have bN := ad.out; have bO := aw.out; have bP := ag.out; have bQ := ao.out; have bR := ae.out; obtain ⟨aW, aX, aY, aZ⟩ := c2_ ai; obtain ⟨ax, ay, be⟩ := Kd.R_slice af.out; subst be))
 (try simp only [Act.put, List.setIfInBounds_toArray, List.set_cons_zero, List.set_cons_succ])
 go_cut [17] (fun v17 wc => ∃ (kq : Nat) (az : Bool), v17 = .bool az ∧ Fc (chain_Add.j0 kq az al ap = some (r1, r2, r3)) ∧ Fc (kq ≤ k) ∧ Fc (Kd.R k72 72 wc w.heap.size (fun k_ => k_ ≠ aD) (.slice ax ap.length ay) ap) ∧ Fc (wc.heap[bd]? = some (.cells #[.string a0_0, (.slice A0_1 l0_1.length c0_1)] 99 (0, 0))) ∧ Fc (wc.heap[aD]? = some (.cells #[.int .i64 a1_0, .string a1_1, .bool a1_2] 72 (0, 0))) ∧ Fc (wc.heap[ah]? = some (.cells #[.string (⟨#[]⟩ : ByteArray), (.slice none 0 0)] 99 (0, 0))) ∧ Fc (wc.heap[am]? = some (.cells #[.string al, (.slice ax ap.length ay)] 99 (0, 0))) ∧ Fc (Below w.heap.size w wc))
 case first =>
  have H := HC4.out
  clear HC4
  replace H := ob_ H
  obtain ⟨aH, bf, H⟩ := H
  try dsimp only at H
  by_cases a7 : aH = true
  ·subst a7
   rw [if_pos rfl] at H
   replace H := ob_ H
   obtain ⟨aG, bS, H⟩ := H
   try dsimp only at H
   have H' := mk0 H
   clear H
   have bT := aq.out
   have bU := ar.out
   have bV := aj.out
   have bW := ak.out
   have bX := ad.out
   have bY := an.out
   obtain ⟨bg, bh, bi, bj⟩ := c2_ aa
   go_wp2_with (first | ((with_reducible refine gate_callee (f := 144) rfl ?_); refine gL_ (some 11) Try.func144 #[.agg #[.string a0_0, .slice A0_1 l0_1.length c0_1]] (h := ?_); (with_reducible refine (chain_May.calls k a0_0 _ _ l0_1 true _ ?side1 ?side2 bf.out).mono ?_); (case side1 => exact Kd.C_below aB.out (b_ HB)); (case side2 => exact aC.out); rintro e cy ⟨rfl, hb⟩; refine ⟨_, rfl, ?_⟩; have aA := mk0 (Kd.R_below (r2_ (Kd.R_mono (Kd.R_far (p := ⟨am, 1, none⟩) (Kd.R_far (p := ⟨am, 0, none⟩) (Kd.R_types af.out ai.out (by decide)) (fun _ hk => hk.2) (.string al)) (fun _ hk => hk.2) (.slice ax ap.length ay)) (fun _ h_ => h_.1))) hb); replace aa := mk0 (blk_below (fa_ (fa_ (h_ aa) ad.out) ad.out) hb); replace ab := mk0 (blk_below (fa_ (fa_ (h_ ab) ag.out) ag.out) hb); replace ac := mk0 (blk_below (g := ah) (o := .cells #[.string (⟨#[]⟩ : ByteArray), .slice none 0 0] 99 (0, 0)) (fa_ (fa_ (h_ ac) ae.out) ae.out) hb); replace ai := mk0 (blk_below (g := am) (o := .cells #[.string al, .slice ax ap.length ay] 99 (0, 0)) (pu_ (cs := #[.string al, .slice none 0 0]) (pu_ (cs := #[.string (⟨#[]⟩ : ByteArray), .slice none 0 0]) (h_ ai))) hb); replace HB := mk0 (bt_ (b_ HB) hb); clear af; have af := aA; clear aA; (try clear hb); have bZ := aw.out; have b0 := ag.out; have b1 := ao.out; have b2 := ae.out; obtain ⟨bk, bl, bm, bn⟩ := c2_ ai) | (go_at_call 144; (with_reducible refine (chain_May.calls k al _ _ ap aG _ ?side1 ?side2 bS.out).mono ?_); (case side1 => exact cr_ af); (case side2 => exact (Kd.R_reads' af.out).2.1); rintro e cz ⟨rfl, hb⟩; replace af := mk0 (Kd.R_below (r_ af) hb); replace aa := mk0 (u_ aa hb); replace ab := mk0 (u_ ab hb); replace ac := mk0 (blk_below (g := ah) (o := .cells #[.string (⟨#[]⟩ : ByteArray), .slice none 0 0] 99 (0, 0)) (h_ ac) hb); replace ai := mk0 (u_ ai hb); replace HB := mk0 (bt_ (b_ HB) hb); (try clear hb)))
   go_meet
   case rel => exact ⟨_, (!aG), sm_, H', ⟨by first | omega | exact Nat.le_refl _⟩, ⟨by (with_reducible repeat (first | apply Ra_ | apply Rn_ | apply Rd_)); exact Kd.R_mono af.out (fun _ hk => hk.2)⟩, ⟨h_ aa⟩, ⟨h_ ab⟩, ⟨h_ ac⟩, ⟨h_ ai⟩, ⟨b_ HB⟩⟩
  ·replace a7 := Bool.eq_false_iff.mpr a7
   subst a7
   rw [if_neg nf_] at H
   have H' := mk0 H
   clear H
   have b3 := aq.out
   have b4 := ar.out
   have b5 := aj.out
   have b6 := ak.out
   have b7 := ad.out
   have b8 := an.out
   obtain ⟨bo, bp, bq, br⟩ := c2_ aa
   go_wp2_with (first | ((with_reducible refine gate_callee (f := 144) rfl ?_); refine gL_ (some 11) Try.func144 #[.agg #[.string a0_0, .slice A0_1 l0_1.length c0_1]] (h := ?_); (with_reducible refine (chain_May.calls k a0_0 _ _ l0_1 false _ ?side1 ?side2 bf.out).mono ?_); (case side1 => exact Kd.C_below aB.out (b_ HB)); (case side2 => exact aC.out); rintro e cA ⟨rfl, hb⟩; refine ⟨_, rfl, ?_⟩; have aA := mk0 (Kd.R_below (r2_ (Kd.R_mono (Kd.R_far (p := ⟨am, 1, none⟩) (Kd.R_far (p := ⟨am, 0, none⟩) (Kd.R_types af.out ai.out (by decide)) (fun _ hk => hk.2) (.string al)) (fun _ hk => hk.2) (.slice ax ap.length ay)) (fun _ h_ => h_.1))) hb); replace aa := mk0 (blk_below (fa_ (fa_ (h_ aa) ad.out) ad.out) hb); replace ab := mk0 (blk_below (fa_ (fa_ (h_ ab) ag.out) ag.out) hb); replace ac := mk0 (blk_below (g := ah) (o := .cells #[.string (⟨#[]⟩ : ByteArray), .slice none 0 0] 99 (0, 0)) (fa_ (fa_ (h_ ac) ae.out) ae.out) hb); replace ai := mk0 (blk_below (g := am) (o := .cells #[.string al, .slice ax ap.length ay] 99 (0, 0)) (pu_ (cs := #[.string al, .slice none 0 0]) (pu_ (cs := #[.string (⟨#[]⟩ : ByteArray), .slice none 0 0]) (h_ ai))) hb); replace HB := mk0 (bt_ (b_ HB) hb); clear af; have af := aA; clear aA; (try clear hb)))
   go_meet
   case rel => exact ⟨_, (true), sm_, H', ⟨by first | omega | exact Nat.le_refl _⟩, ⟨by (with_reducible repeat (first | apply Ra_ | apply Rn_ | apply Rd_)); exact Kd.R_mono af.out (fun _ hk => hk.2)⟩, ⟨h_ aa⟩, ⟨h_ ab⟩, ⟨h_ ac⟩, ⟨h_ ai⟩, ⟨b_ HB⟩⟩
 case rest =>
  clear HC4
  try clear aM
  try clear aN
  try clear aQ
  try clear aR
  try clear aS
  try clear aW
  try clear aX
  try clear aO
  try clear aP
  try clear aT
  try clear aU
  try clear aV
  try clear aY
  try clear aZ
  obtain ⟨kq, az, rfl, HA, cB, aF, aa, ab, ac, ai, HB⟩ := hcut
  cases kq with
  | zero => exact absurd HA.out (by simp [chain_Add.j0])
  | succ cC =>
   have H := HA.out
   clear HA
   simp only [chain_Add.j0] at H
   as_aux_lemma =>
    by_cases a8 : az = true
    ·subst a8
     rw [if_pos rfl] at H
     simp only [Option.some.injEq, Prod.mk.injEq] at H
     obtain ⟨rfl, rfl, rfl⟩ := H
     have b9 := ak.out
     have ca := aj.out
     have cc := av.out
     have cd := au.out
     have ce := ae.out
     have cf := ao.out
     obtain ⟨bs, bu, bv, bw⟩ := c2_ ac
     go_wp2
     refine bodyPost_ret (results_ct rfl _ _ ah 99 #[.string (⟨#[]⟩ : ByteArray), .slice none 0 0] (0, 0) _ rfl (pu_ (cs := #[.string (⟨#[]⟩ : ByteArray), .slice none 0 0]) (pu_ (cs := #[.string (⟨#[]⟩ : ByteArray), .slice none 0 0]) (h_ ac))) Try.underlying99 rfl (by kernel_rfl)) rfl ?_
     exact ⟨_, sa_, nl_, b_ HB⟩
    ·replace a8 := Bool.eq_false_iff.mpr a8
     subst a8
     rw [if_neg nf_] at H
     simp only [Option.some.injEq, Prod.mk.injEq] at H
     obtain ⟨rfl, rfl, rfl⟩ := H
     have cg := an.out
     have ch := ad.out
     have ci := aw.out
     have cj := ag.out
     have ck := ao.out
     have cl := ae.out
     obtain ⟨bx, bz, bA, bB⟩ := c2_ ai
     have cm := ak.out
     have cn := aj.out
     have co := av.out
     have cp := au.out
     obtain ⟨bC, bD, bE, bF⟩ := c2_ ac
     go_wp2
     refine bodyPost_ret (results_ct rfl _ _ ah 99 #[.string al, .slice ax ap.length ay] (0, 0) _ rfl (pu_ (cs := #[.string al, .slice none 0 0]) (pu_ (cs := #[.string (⟨#[]⟩ : ByteArray), .slice none 0 0]) (h_ ac))) Try.underlying99 rfl (by kernel_rfl)) rfl ?_
     exact ⟨_, sa_, by (with_reducible repeat (first | apply Ra_ | apply Rn_ | apply Rd_)); exact Kd.R_mono (Kd.R_far (p := ⟨ah, 1, none⟩) (Kd.R_far (p := ⟨ah, 0, none⟩) (Kd.R_types aF.out ac.out (by decide)) (fun _ hk => hk.2) (.string al)) (fun _ hk => hk.2) (.slice ax ap.length ay)) (fun _ hk => trivial), b_ HB⟩
/-! ### chain_New: function 128 -/
def chain_New.f (k : Nat) (a0 : ByteArray) (a1_0 : Int) (a1_1 : ByteArray) (a1_2 : Bool) : Option (ByteArray × (List (S72)) × Int) := (some (([(⟨a1_0, a1_1, a1_2⟩ : S72)] : List (S72)) : List (S72))).bind fun y385 => ((chain_May.f k a0 y385).bind fun t389 => (if t389 = true then (some (a0, y385, 0)) else (some ((⟨#[]⟩ : ByteArray), ([] : List (S72)), 1))))
theorem chain_New.mono : ∀ a0 a1 a2 a3 k, LeO (chain_New.f k a0 a1 a2 a3) (chain_New.f (k + 1) a0 a1 a2 a3) := by
 intro a0 a1 a2 a3 k
 unfold chain_New.f
 repeat' first | (with_reducible exact chain_May.mono ..) | (with_reducible exact LeO.refl _) | (with_reducible exact LeO.none _) | (with_reducible refine LeO.ite ?_ ?_) | (with_reducible refine LeO.bind ?_ (fun _ => ?_)) | exact LeO.none _ | refine LeO.ite ?_ ?_ | refine LeO.bind ?_ (fun _ => ?_)
theorem chain_New.calls (k : Nat) (a0 : ByteArray) (a1_0 : Int) (a1_1 : ByteArray) (a1_2 : Bool) (r1 : ByteArray) (r2 : List (S72)) (r3 : Int) (w : World) (h : chain_New.f k a0 a1_0 a1_1 a1_2 = some (r1, r2, r3)) :
  Calls Try.prog 128 #[.string a0, .agg #[.int .i64 a1_0, .string a1_1, .bool a1_2]] w fun e w' => ∃ v1_ : Value, e = .returned (.tuple #[.agg #[.string r1, v1_], .int .i64 r3]) ∧ Kd.R k72 72 w' w.heap.size (fun _ => True) v1_ r2 ∧ Below w.heap.size w w' := by
 have hu72 := Try.underlying72
 have hu99 := Try.underlying99
 have HB := mk0 (Below.refl w.heap.size w)
 have H : ((some (([(⟨a1_0, a1_1, a1_2⟩ : S72)] : List (S72)) : List (S72))).bind fun ac => ((chain_May.f k a0 ac).bind fun am => (if am = true then (some (a0, ac, 0)) else (some ((⟨#[]⟩ : ByteArray), ([] : List (S72)), 1))))) = some (r1, r2, r3) := h
 clear h
 obtain ⟨ac, al⟩ : ∃ y_ : List (S72), y_ = (([(⟨a1_0, a1_1, a1_2⟩ : S72)] : List (S72))) := ⟨_, rfl⟩
 replace H : ((chain_May.f k a0 ac).bind fun am => (if am = true then (some (a0, ac, 0)) else (some ((⟨#[]⟩ : ByteArray), ([] : List (S72)), 1)))) = some (r1, r2, r3) := by first | (rw [al]; with_reducible exact H) | (have H2_ := (Option.bind_some _ _).symm.trans H; rw [al]; with_reducible exact H2_) | (have H2_ := (Option.bind_some _ _).symm.trans H; with_reducible exact H2_) | with_reducible exact H | (rw [al]; exact H) | exact H
 have av := mk0 al
 clear al
 replace H := ob_ H
 obtain ⟨am, A3, H⟩ := H
 try dsimp only at H
 by_cases c4 : am = true
 focus
  subst c4
  rw [if_pos rfl] at H
  simp only [Option.some.injEq, Prod.mk.injEq] at H
  obtain ⟨rfl, rfl, rfl⟩ := H
  go_enter Try.func128, Try.ntmps128
 rotate_left 1
 focus
  replace c4 := Bool.eq_false_iff.mpr c4
  subst c4
  rw [if_neg nf_] at H
  simp only [Option.some.injEq, Prod.mk.injEq] at H
  obtain ⟨rfl, rfl, rfl⟩ := H
  go_enter Try.func128, Try.ntmps128
 rotate_right 1
 all_goals go_wp2_with (first | ((with_reducible refine gate_dst (N := 3) rfl ?_); refine bx_ (N := 3) (cs := #[.int .i64 a1_0, .string a1_1, .bool a1_2]) (t := 72) (h := ?_); intro ao hg w5 hbox hb; have n2_ := mk0 (gz_ HB hg); have aB := mk0 (gz_ HB hg); replace HB := mk0 (bt_ (b_ HB) hb); have aa := mk0 (hbox); have a6 := aB; clear n2_ aB; clear hb hbox hg) | ((with_reducible refine gate_dst (N := 4) rfl ?_); refine bx_ (N := 4) (cs := #[.string (⟨#[]⟩ : ByteArray), .slice none 0 0]) (t := 99) (h := ?_); intro ae hg w6 hbox hb; have aB := mk0 (gz_ HB hg); have aE := mk0 (gz_ HB hg); have aC := mk0 (ne1_ aa hg); have aw := mk0 (ne2_ aa hg); replace aa := mk0 (u_ aa hb); replace HB := mk0 (bt_ (b_ HB) hb); have ab := mk0 (hbox); have a7 := aE; have ap := aC; have aq := aw; clear aB aE aC aw hb hbox hg; have bd := ap.out; have be := aq.out; obtain ⟨aV, aW, aX, aY, aZ, a5⟩ := c3_ aa) | ((with_reducible refine gate_dst (N := 9) rfl ?_); refine Kd.R_lit k72 _ 72 ?hg (N := 9) ?hd (xs := ([(⟨a1_0, a1_1, a1_2⟩ : S72)] : List (S72))) (inner := [.int .i64 a1_0, .string a1_1, .bool a1_2]) (ok := fun _ => True) (okp := fun _ => True) ?hr ?hp (fun _ hk => hk) trivial (Below.refl _ _) (Nat.le_refl _) (by simp) ?_; (case hd => rfl); (case hg => rfl); (case hr => first | (go_simp; done) | (go_simp; rfl)); (case hp => exact (Reps.c3 (show Kd.M k72 _ _ _ (⟨a1_0, a1_1, a1_2⟩ : S72) [.int .i64 a1_0, .string a1_1, .bool a1_2] from (k72_mkM _ _ _ (⟨a1_0, a1_1, a1_2⟩ : S72) )) (Reps.none _ _))); intro bf w9 ho10 hb hg_ hnew_; clear hg_ hnew_; (first | rw [← av.out] at ho10 | (simp only [Int.reduceToNat] at ho10; rw [← av.out] at ho10)); have an := mk0 (Kd.R_lower (Kd.R_newB ho10 (g := ao) (o := .cells #[.int .i64 a1_0, .string a1_1, .bool a1_2] 72 (0, 0)) (h_ aa)) (bz_ (b_ HB))); replace aa := mk0 (u_ aa hb); replace ab := mk0 (blk_below (g := ae) (o := .cells #[.string (⟨#[]⟩ : ByteArray), .slice none 0 0] 99 (0, 0)) (h_ ab) hb); replace HB := mk0 (bt_ (b_ HB) hb); have ad := an; clear an hb ho10; obtain ⟨ak, aj, aF⟩ := Kd.R_slice ad.out; subst aF) | ((with_reducible refine gate_dst (N := 6) rfl ?_); refine bx_ (N := 6) (cs := #[.string (⟨#[]⟩ : ByteArray), .slice none 0 0]) (t := 99) (h := ?_); intro af hg bg hbox hb; have aC := mk0 (gz_ HB hg); have aw := mk0 (gz_ HB hg); have aG := mk0 (ne1_ aa hg); have aH := mk0 (ne2_ aa hg); have aI := mk0 ((by rw [hg]; exact Nat.ne_of_lt (blk_lt (g := ae) (o := .cells #[.string (⟨#[]⟩ : ByteArray), .slice none 0 0] 99 (0, 0)) (h_ ab)) : ae ≠ af)); have aD := mk0 ((by rw [hg]; exact Nat.ne_of_gt (blk_lt (g := ae) (o := .cells #[.string (⟨#[]⟩ : ByteArray), .slice none 0 0] 99 (0, 0)) (h_ ab)) : af ≠ ae)); replace ad := mk0 (Kd.R_below (r_ ad) hb); replace aa := mk0 (u_ aa hb); replace ab := mk0 (blk_below (g := ae) (o := .cells #[.string (⟨#[]⟩ : ByteArray), .slice none 0 0] 99 (0, 0)) (h_ ab) hb); replace HB := mk0 (bt_ (b_ HB) hb); have ag := mk0 (hbox); have a8 := aw; have ah := aG; have ar := aH; have ai := aI; have au := aD; clear aC aw aG aH aI aD hb hbox hg; have a9 := ar.out; have ba := ah.out; have bb := au.out; have bc := ai.out; obtain ⟨aJ, aK, aL, aM⟩ := c2_ ag) | ((with_reducible refine gate_callee (f := 144) rfl ?_); refine gL_ (some 12) Try.func144 #[.agg #[.string a0, .slice ak ac.length aj]] (h := ?_); (with_reducible refine (chain_May.calls k a0 _ _ ac true _ ?side1 ?side2 A3.out).mono ?_); (case side1 => refine (Kd.R_reads' (e := 72) (base := w.heap.size) (ok := fun k_ => (True ∧ k_ ≠ ao)) (n := ac.length) (c := aj) ?_).2.2; exact (r2_ (Kd.R_mono (Kd.R_far (p := ⟨af, 1, none⟩) (Kd.R_far (p := ⟨af, 0, none⟩) (Kd.R_types ad.out ag.out (by decide)) (fun _ hk => hk.2) (.string a0)) (fun _ hk => hk.2) (.slice ak ac.length aj)) (fun _ h_ => h_.1)))); (case side2 => exact (Kd.R_reads' ad.out).2.1); rintro e bh ⟨rfl, hb⟩; refine ⟨_, rfl, ?_⟩; have an := mk0 (Kd.R_below (r2_ (Kd.R_mono (Kd.R_far (p := ⟨af, 1, none⟩) (Kd.R_far (p := ⟨af, 0, none⟩) (Kd.R_types ad.out ag.out (by decide)) (fun _ hk => hk.2) (.string a0)) (fun _ hk => hk.2) (.slice ak ac.length aj)) (fun _ h_ => h_.1))) hb); replace aa := mk0 (blk_below (fa_ (fa_ (h_ aa) ah.out) ah.out) hb); replace ab := mk0 (blk_below (g := ae) (o := .cells #[.string (⟨#[]⟩ : ByteArray), .slice none 0 0] 99 (0, 0)) (fa_ (fa_ (h_ ab) ai.out) ai.out) hb); replace ag := mk0 (blk_below (g := af) (o := .cells #[.string a0, .slice ak ac.length aj] 99 (0, 0)) (pu_ (cs := #[.string a0, .slice none 0 0]) (pu_ (cs := #[.string (⟨#[]⟩ : ByteArray), .slice none 0 0]) (h_ ag))) hb); replace HB := mk0 (bt_ (b_ HB) hb); clear ad; have ad := an; clear an; (try clear hb); obtain ⟨ax, ay, az, aA⟩ := c2_ ag; obtain ⟨aN, aO, aP, aQ⟩ := c2_ ab) | ((with_reducible refine gate_callee (f := 144) rfl ?_); refine gL_ (some 12) Try.func144 #[.agg #[.string a0, .slice ak ac.length aj]] (h := ?_); (with_reducible refine (chain_May.calls k a0 _ _ ac false _ ?side1 ?side2 A3.out).mono ?_); (case side1 => refine (Kd.R_reads' (e := 72) (base := w.heap.size) (ok := fun k_ => (True ∧ k_ ≠ ao)) (n := ac.length) (c := aj) ?_).2.2; exact (r2_ (Kd.R_mono (Kd.R_far (p := ⟨af, 1, none⟩) (Kd.R_far (p := ⟨af, 0, none⟩) (Kd.R_types ad.out ag.out (by decide)) (fun _ hk => hk.2) (.string a0)) (fun _ hk => hk.2) (.slice ak ac.length aj)) (fun _ h_ => h_.1)))); (case side2 => exact (Kd.R_reads' ad.out).2.1); rintro e bi ⟨rfl, hb⟩; refine ⟨_, rfl, ?_⟩; have an := mk0 (Kd.R_below (r2_ (Kd.R_mono (Kd.R_far (p := ⟨af, 1, none⟩) (Kd.R_far (p := ⟨af, 0, none⟩) (Kd.R_types ad.out ag.out (by decide)) (fun _ hk => hk.2) (.string a0)) (fun _ hk => hk.2) (.slice ak ac.length aj)) (fun _ h_ => h_.1))) hb); replace aa := mk0 (blk_below (fa_ (fa_ (h_ aa) ah.out) ah.out) hb); replace ab := mk0 (blk_below (g := ae) (o := .cells #[.string (⟨#[]⟩ : ByteArray), .slice none 0 0] 99 (0, 0)) (fa_ (fa_ (h_ ab) ai.out) ai.out) hb); replace ag := mk0 (blk_below (g := af) (o := .cells #[.string a0, .slice ak ac.length aj] 99 (0, 0)) (pu_ (cs := #[.string a0, .slice none 0 0]) (pu_ (cs := #[.string (⟨#[]⟩ : ByteArray), .slice none 0 0]) (h_ ag))) hb); replace HB := mk0 (bt_ (b_ HB) hb); clear ad; have ad := an; clear an; (try clear hb); obtain ⟨aR, aS, aT, aU⟩ := c2_ ab; (try obtain ⟨ax, ay, az, aA⟩ := c2_ ag)))
 ·refine bodyPost_ret (results_ct rfl _ _ ae 99 #[.string a0, .slice ak ac.length aj] (0, 0) _ rfl (pu_ (cs := #[.string a0, .slice none 0 0]) (pu_ (cs := #[.string (⟨#[]⟩ : ByteArray), .slice none 0 0]) (h_ ab))) Try.underlying99 rfl (by kernel_rfl)) rfl ?_
  exact ⟨_, sa_, by (with_reducible repeat (first | apply Ra_ | apply Rn_ | apply Rd_)); exact Kd.R_mono (Kd.R_far (p := ⟨ae, 1, none⟩) (Kd.R_far (p := ⟨ae, 0, none⟩) (Kd.R_types ad.out ab.out (by decide)) (fun _ hk => hk.2) (.string a0)) (fun _ hk => hk.2) (.slice ak ac.length aj)) (fun _ hk => trivial), b_ HB⟩
 ·refine bodyPost_ret (results_ct rfl _ _ ae 99 #[.string (⟨#[]⟩ : ByteArray), .slice none 0 0] (0, 0) _ rfl (pu_ (cs := #[.string (⟨#[]⟩ : ByteArray), .slice none 0 0]) (pu_ (cs := #[.string (⟨#[]⟩ : ByteArray), .slice none 0 0]) (h_ ab))) Try.underlying99 rfl (by kernel_rfl)) rfl ?_
  exact ⟨_, sa_, nl_, b_ HB⟩
-- NOT PRINTED: function 171 (api_Chain_171)
-- NOT PRINTED: function 196 (api_Chain_196)
-- NOT PRINTED: function 172 (api_Chain_172)
/-! ### api_Chain_129: function 129 (by hand) -/
open HCopy in
set_option maxHeartbeats 2000000 in
set_option maxRecDepth 100000 in
/-- There is room, and the place is not the end. -/
theorem api_Chain_129.rroom (g cap n i : Nat) (cur : Array Value) (inner xs : List Value) (g2 c2 : Nat) (cur2 : Array Value) (w : World)
    (hg : w.heap[g]? = some (.cells cur 99 (0, 0))) (hg2 : w.heap[g2]? = some (.cells cur2 99 (0, 0))) (hne : g2 ≠ g) (hi : i < n) (hroom : n + 1 ≤ cap) (hcm : cap ≤ maxLen)
    (hsz : cur.size = cap * 2) (hin : cur.toList.take (n * 2) = inner) (hsz2 : 2 ≤ cur2.size) (hin2 : cur2.toList.take 2 = xs) (h1 : ∀ v ∈ inner, v.oneCell' = true) (h2 : ∀ v ∈ xs, v.oneCell' = true) :
    Calls Try.prog 129 #[.slice (some ⟨g, 0, none⟩) n cap, .int .i64 i, .slice (some ⟨g2, 0, none⟩) 1 c2] w fun e w' =>
      ∃ cur' : Array Value, e = .returned (.slice (some ⟨g, 0, none⟩) (n + 1) cap) ∧ w' = w.drew.setRow g cur' ∧ cur'.size = cap * 2 ∧ cur'.toList.take ((n + 1) * 2) = inner.take (i * 2) ++ xs ++ inner.drop (i * 2) := by
  have hlen : inner.length = n * 2 := by rw [← hin, List.length_take, Array.length_toList, hsz]; omega
  have hxl : xs.length = 2 := by rw [← hin2, List.length_take, Array.length_toList]; omega
  have hmx : cap ≤ 9223372036854775807 := by unfold maxLen at hcm; omega
  have hu := Try.underlying45
  have hs : (Try.prog.info? 99).map (·.size) = some 2 := by
    have h := info99
    cases hq : Try.prog.info? 99 with
    | none => rw [hq] at h; simp at h
    | some i => rw [hq] at h; simp at h; simp [h.2.1]
  have hdl : (inner.drop (i * 2)).length = (n - i) * 2 := by rw [List.length_drop, hlen, Nat.sub_mul]
  -- the first copy
  obtain ⟨cur1, hcur1⟩ : ∃ c : Array Value, c = (cur.toList.take ((i + 1) * 2) ++ inner.drop (i * 2) ++ cur.toList.drop ((i + 1) * 2 + (inner.drop (i * 2)).length)).toArray := ⟨_, rfl⟩
  have hcp1 : ∀ ty dc sc, (Builtin.copy_ #[45, 45] ty #[.slice (some ⟨g, (i + 1) * 2, none⟩) (n - i) dc, .slice (some ⟨g, i * 2, none⟩) (n + 1 - i) sc]).run Try.prog w.drew = .ok (goInt (n - i : Nat)) (w.drew.setRow g cur1) := fun ty dc sc => by
    rw [hcur1]
    refine run_copy_k w.drew 45 45 ty 99 g ((i + 1) * 2) (n - i) dc ⟨g, i * 2, none⟩ (n + 1 - i) sc cur 99 (inner.drop (i * 2)) 2 (n - i) hu hs hg (by show _ = min _ _; omega) hdl (fun j v hj => ?_) (by rw [hdl, hsz]; omega) (fun v hv => h1 v (List.mem_of_mem_drop hv))
    rw [List.getElem?_drop, ← hin] at hj
    have hjl : i * 2 + j < n * 2 := by
      rcases Nat.lt_or_ge (i * 2 + j) (n * 2) with h | h
      · exact h
      · rw [List.getElem?_eq_none (by rw [List.length_take]; omega)] at hj; cases hj
    rw [List.getElem?_take_of_lt hjl] at hj
    rw [Addr.add_lit]
    exact (cell_of_row w g _ cur 99 (0, 0) hg).trans (by rw [← hj]; simp)
  have hsz1 : cur1.size = cap * 2 := by
    rw [hcur1]
    simp only [List.size_toArray, List.length_append, List.length_take, List.length_drop, Array.length_toList, hlen, hsz]
    omega
  have hW1 : (w.drew.setRow g cur1).heap[g]? = some (.cells cur1 99 (0, 0)) := setRow_heap w.drew g cur _ 99 _ hg
  have hW2 : (w.drew.setRow g cur1).heap[g2]? = some (.cells cur2 99 (0, 0)) := (setRow_other w.drew g g2 cur1 hne).trans hg2
  obtain ⟨W1, hW⟩ : ∃ W1, W1 = w.drew.setRow g cur1 := ⟨_, rfl⟩
  obtain ⟨cur', hcur'⟩ : ∃ c : Array Value, c = (cur1.toList.take (i * 2) ++ xs ++ cur1.toList.drop (i * 2 + xs.length)).toArray := ⟨_, rfl⟩
  have hcp2 : ∀ ty dc sc, (Builtin.copy_ #[45, 45] ty #[.slice (some ⟨g, i * 2, none⟩) (n + 1 - i) dc, .slice (some ⟨g2, 0, none⟩) 1 sc]).run Try.prog W1 = .ok (goInt (1 : Nat)) (W1.setRow g cur') := fun ty dc sc => by
    rw [hcur', hW]
    refine run_copy_k _ 45 45 ty 99 g (i * 2) (n + 1 - i) dc ⟨g2, 0, none⟩ 1 sc cur1 99 xs 2 1 hu hs hW1 (by show _ = min _ _; omega) (by rw [hxl]) (fun j v hj => ?_) (by rw [hxl, hsz1]; omega) h2
    rw [← hin2] at hj
    have hjl : j < 2 := by
      rcases Nat.lt_or_ge j 2 with h | h
      · exact h
      · rw [List.getElem?_eq_none (by rw [List.length_take]; omega)] at hj; cases hj
    rw [List.getElem?_take_of_lt hjl] at hj
    rw [Addr.add_lit]
    exact (cell_of_row _ g2 _ cur2 99 (0, 0) hW2).trans (by rw [← hj]; simp)
  have hov : ∀ lb cb, (callFunc 171 #[.slice (some ⟨g2, 0, none⟩) 1 c2, .slice (some ⟨g, (i + 1) * 2, none⟩) lb cb]).run Try.prog w = .ok (.value (.bool false)) w := fun lb cb => by
    rw [run_callFunc_extern Try.func171 (by kernel_rfl) (by kernel_rfl) (by kernel_rfl) (e := Extern.SlicesOverlaps.overlaps #[45, 45] #[4]) (by kernel_rfl),
      Lib.run_overlaps_apart w 45 4 99 hu 2 (fun w => by kernel_rfl) ⟨g2, 0, none⟩ ⟨g, (i + 1) * 2, none⟩ 1 c2 lb cb hne 99 99 cur2.size cur.size (by simp [World.shape?, hg2]) (by simp [World.shape?, hg]) (by omega) (by simp [World.frozen?, hg2]) (by simp [World.frozen?, hg2])]
    rfl
  have hfin : cur'.size = cap * 2 ∧ cur'.toList.take ((n + 1) * 2) = inner.take (i * 2) ++ xs ++ inner.drop (i * 2) := by
    constructor
    · rw [hcur']
      simp only [List.size_toArray, List.length_append, List.length_take, List.length_drop, Array.length_toList, hxl, hsz1]
      omega
    · have e1 : cur1.toList.take (i * 2) = inner.take (i * 2) := by
        rw [hcur1, ← hin]
        simp only [List.append_assoc]
        rw [List.take_append_of_le_length (by rw [List.length_take, Array.length_toList, hsz]; omega), List.take_take, List.take_take]
        congr 1
        omega
      have e2 : (cur1.toList.drop (i * 2 + 2)).take ((n - i) * 2) = inner.drop (i * 2) := by
        have h3 : (cur.toList.take ((i + 1) * 2)).length = i * 2 + 2 := by rw [List.length_take, Array.length_toList, hsz]; omega
        rw [hcur1]
        simp only [List.append_assoc]
        rw [← h3, List.drop_left, ← hdl, List.take_left]
      rw [hcur']
      simp only [List.append_assoc]
      have h4 : (cur1.toList.take (i * 2)).length = i * 2 := by rw [List.length_take, Array.length_toList, hsz1]; omega
      have e3 : (n + 1) * 2 = (cur1.toList.take (i * 2)).length + (xs.length + (n - i) * 2) := by rw [h4, hxl]; omega
      rw [e3, List.take_length_add_append, List.take_length_add_append, hxl, e2, e1]
  have HF := Aside0.mk hfin
  have HE := Aside0.mk (show W1.setRow g cur' = w.drew.setRow g cur' by rw [hW, setRow_setRow])
  rw [← hW] at hcp1
  clear hfin hcur' hW hW1 hW2 hsz1 hcur1 hdl hlen hxl hsz hin hsz2 hin2 h1 h2 hg hg2 hcm
  have hin' : (i : Int) ≤ (n : Int) + 1 := by omega
  have hb1 : ¬ ((i : Int) = (n : Int)) := by omega
  have hb2 : ¬ ((n : Int) + 1 > (cap : Int)) := by omega
  have hb7 : (0 : Int) ≤ (i : Int) + 1 := by omega
  have hb8 : i ≤ n := by omega
  have hb9 : i ≤ n + 1 := by omega
  have hb4 : ¬ (cap = i) := by omega
  have hb5 : ¬ (cap = i + 1) := by omega
  have hw1 : IntKind.i64.wrap ((i : Int) + 1) = (i : Int) + 1 := by rw [IntKind.wrap_i64]; omega
  have htn : ((i : Int) + 1).toNat = i + 1 := by omega
  go_enter Try.func129, Try.ntmps129
  go_wp2_with (simp only [hov])
  go_region_law (refine step_copy_run rfl _ _ 45 45 rfl _ _ (by simp [Act.eval, Act.put]) (by simp [Act.eval, Act.put]) (hcp1 _ _ _) ?_)
  go_wp2_with (at_builtin; refine wpList_copy_run _ rfl _ _ 45 45 rfl _ _ rfl rfl (hcp2 _ _ _) ?_)
  go_ret
  exact ⟨cur', rfl, HE.out, HF.out.1, HF.out.2⟩
open HCopy in
set_option maxHeartbeats 2000000 in
set_option maxRecDepth 100000 in
/-- There is no room, and the place is not the end: a new row. -/
theorem api_Chain_129.rgrow (g cap n i : Nat) (cur : Array Value) (inner xs : List Value) (g2 c2 : Nat) (cur2 : Array Value) (w : World)
    (hg : w.heap[g]? = some (.cells cur 99 (0, 0))) (hg2 : w.heap[g2]? = some (.cells cur2 99 (0, 0))) (hi : i < n) (hnc : n ≤ cap) (hroom : cap < n + 1) (hbig : n + 1 < 3518437208883)
    (hsz : cur.size = cap * 2) (hin : cur.toList.take (n * 2) = inner) (hsz2 : 2 ≤ cur2.size) (hin2 : cur2.toList.take 2 = xs) (h1 : ∀ v ∈ inner, v.oneCell' = true) (h2 : ∀ v ∈ xs, v.oneCell' = true) :
    Calls Try.prog 129 #[.slice (some ⟨g, 0, none⟩) n cap, .int .i64 i, .slice (some ⟨g2, 0, none⟩) 1 c2] w fun e w' =>
      ∃ (cap' : Nat) (cur' : Array Value), e = .returned (.slice (some ⟨w.heap.size, 0, none⟩) (n + 1) cap') ∧ n + 1 ≤ cap' ∧ cap' ≤ maxLen ∧ w'.heap[w.heap.size]? = some (.cells cur' 99 (0, 0)) ∧ Below w.heap.size w w' ∧ cur'.size = cap' * 2 ∧ cur'.toList.take ((n + 1) * 2) = inner.take (i * 2) ++ xs ++ inner.drop (i * 2) := by
  have hlen : inner.length = n * 2 := by rw [← hin, List.length_take, Array.length_toList, hsz]; omega
  have hxl : xs.length = 2 := by rw [← hin2, List.length_take, Array.length_toList]; omega
  have hu := Try.underlying45
  have hs : (Try.prog.info? 99).map (·.size) = some 2 := by
    have h := info99
    cases hq : Try.prog.info? 99 with
    | none => rw [hq] at h; simp at h
    | some i => rw [hq] at h; simp at h; simp [h.2.1]
  have hdl : (inner.drop (i * 2)).length = (n - i) * 2 := by rw [List.length_drop, hlen, Nat.sub_mul]
  have hgl : g < w.heap.size := blk_lt hg
  have hg2l : g2 < w.heap.size := blk_lt hg2
  obtain ⟨i0, hi0, hzz⟩ := Option.map_eq_some_iff.1 info99
  simp only [Prod.mk.injEq] at hzz
  obtain ⟨cap', hc1, hc2, happ⟩ := run_append_zeros_grow (P := Try.prog) w 45 3 45 99 i0 _ 2 40 hu Try.underlying3 hi0 hzz.1 hzz.2.1 hzz.2.2 (by rfl) (by omega) (by omega) g i cap cur hg (by rw [hsz]; omega) .i64 (n + 1 - i) (by omega) (by omega) (by omega)
  rw [show i + (n + 1 - i) = n + 1 by omega] at happ
  obtain ⟨cur0, hcur0⟩ : ∃ c : Array Value, c = ((cur.toList.take (i * 2)).toArray ++ Builtin.zeroCells ((.agg #[(.string ⟨#[]⟩), (.slice none 0 0)]) : Value).cells (n + 1 - i) ++ Builtin.zeroCells ((.agg #[(.string ⟨#[]⟩), (.slice none 0 0)]) : Value).cells (cap' - (i + (n + 1 - i)))) := ⟨_, rfl⟩
  have hsz0 : cur0.size = cap' * 2 := by
    rw [hcur0]
    simp only [Array.size_append, List.size_toArray, List.length_take, Array.length_toList, hsz, size_zeroCells, Value.cells, List.length_cons, List.length_nil]
    omega
  have ht0 : cur0.toList.take (i * 2) = inner.take (i * 2) := by
    rw [hcur0, ← hin]
    simp only [Array.toList_append, List.append_assoc]
    rw [List.take_append_of_le_length (by rw [List.length_take, Array.length_toList, hsz]; omega), List.take_take, List.take_take]
    congr 1
    omega
  rw [show cap' - (n + 1) = cap' - (i + (n + 1 - i)) by omega, ← hcur0] at happ
  obtain ⟨W0, hW0⟩ : ∃ W0, W0 = w.drew.alloc (.cells cur0 99) := ⟨_, rfl⟩
  have hB0 : Below w.heap.size w W0 := by rw [hW0]; exact below_alloc (below_drew (Below.refl _ _)) _
  have hh0 : W0.heap[w.heap.size]? = some (.cells cur0 99 (0, 0)) := by rw [hW0]; exact heap_alloc_new w.drew _
  have hg0 : W0.heap[g]? = some (.cells cur 99 (0, 0)) := (hB0.block g hgl).trans hg
  have hg20 : W0.heap[g2]? = some (.cells cur2 99 (0, 0)) := (hB0.block g2 hg2l).trans hg2
  -- the first copy: v
  obtain ⟨cur1, hcur1⟩ : ∃ c : Array Value, c = (cur0.toList.take (i * 2) ++ xs ++ cur0.toList.drop (i * 2 + xs.length)).toArray := ⟨_, rfl⟩
  have hcp1 : ∀ ty dc sc, (Builtin.copy_ #[45, 45] ty #[.slice (some ⟨w.heap.size, i * 2, none⟩) (n + 1 - i) dc, .slice (some ⟨g2, 0, none⟩) 1 sc]).run Try.prog W0 = .ok (goInt (1 : Nat)) (W0.setRow w.heap.size cur1) := fun ty dc sc => by
    rw [hcur1]
    refine run_copy_k _ 45 45 ty 99 w.heap.size (i * 2) (n + 1 - i) dc ⟨g2, 0, none⟩ 1 sc cur0 99 xs 2 1 hu hs hh0 (by show _ = min _ _; omega) (by rw [hxl]) (fun j v hj => ?_) (by rw [hxl, hsz0]; omega) h2
    rw [← hin2] at hj
    have hjl : j < 2 := by
      rcases Nat.lt_or_ge j 2 with h | h
      · exact h
      · rw [List.getElem?_eq_none (by rw [List.length_take]; omega)] at hj; cases hj
    rw [List.getElem?_take_of_lt hjl] at hj
    rw [Addr.add_lit]
    exact (cell_of_row _ g2 _ cur2 99 (0, 0) hg20).trans (by rw [← hj]; simp)
  have hsz1 : cur1.size = cap' * 2 := by
    rw [hcur1]
    simp only [List.size_toArray, List.length_append, List.length_take, List.length_drop, Array.length_toList, hxl, hsz0]
    omega
  obtain ⟨W1, hW1⟩ : ∃ W1, W1 = W0.setRow w.heap.size cur1 := ⟨_, rfl⟩
  have hB1 : Below w.heap.size w W1 := by rw [hW1]; exact below_setRow hB0 (Nat.le_refl _) _
  have hh1 : W1.heap[w.heap.size]? = some (.cells cur1 99 (0, 0)) := by rw [hW1]; exact setRow_heap W0 _ cur0 _ 99 _ hh0
  have hg1 : W1.heap[g]? = some (.cells cur 99 (0, 0)) := (hB1.block g hgl).trans hg
  rw [← hW1] at hcp1
  -- the second one: what stood from i on
  obtain ⟨cur', hcur'⟩ : ∃ c : Array Value, c = (cur1.toList.take ((i + 1) * 2) ++ inner.drop (i * 2) ++ cur1.toList.drop ((i + 1) * 2 + (inner.drop (i * 2)).length)).toArray := ⟨_, rfl⟩
  have hcp2 : ∀ ty dc sc, (Builtin.copy_ #[45, 45] ty #[.slice (some ⟨w.heap.size, (i + 1) * 2, none⟩) (n - i) dc, .slice (some ⟨g, i * 2, none⟩) (n - i) sc]).run Try.prog W1.drew = .ok (goInt (n - i : Nat)) (W1.drew.setRow w.heap.size cur') := fun ty dc sc => by
    rw [hcur']
    refine run_copy_k W1.drew 45 45 ty 99 w.heap.size ((i + 1) * 2) (n - i) dc ⟨g, i * 2, none⟩ (n - i) sc cur1 99 (inner.drop (i * 2)) 2 (n - i) hu hs hh1 (by show _ = min _ _; omega) hdl (fun j v hj => ?_) (by rw [hdl, hsz1]; omega) (fun v hv => h1 v (List.mem_of_mem_drop hv))
    rw [List.getElem?_drop, ← hin] at hj
    have hjl : i * 2 + j < n * 2 := by
      rcases Nat.lt_or_ge (i * 2 + j) (n * 2) with h | h
      · exact h
      · rw [List.getElem?_eq_none (by rw [List.length_take]; omega)] at hj; cases hj
    rw [List.getElem?_take_of_lt hjl] at hj
    rw [Addr.add_lit]
    exact (cell_of_row W1.drew g _ cur 99 (0, 0) hg1).trans (by rw [← hj]; simp)
  have hsz' : cur'.size = cap' * 2 := by
    rw [hcur']
    simp only [List.size_toArray, List.length_append, List.length_take, List.length_drop, Array.length_toList, hlen, hsz1]
    omega
  have hfin : cur'.toList.take ((n + 1) * 2) = inner.take (i * 2) ++ xs ++ inner.drop (i * 2) := by
    have h4 : (cur1.toList.take ((i + 1) * 2)) = inner.take (i * 2) ++ xs := by
      have h5 : (cur0.toList.take (i * 2)).length = i * 2 := by rw [List.length_take, Array.length_toList, hsz0]; omega
      rw [hcur1]
      simp only [List.append_assoc]
      rw [show (i + 1) * 2 = (cur0.toList.take (i * 2)).length + xs.length by rw [h5, hxl]; omega, List.take_length_add_append, List.take_left, ht0]
    have h6 : (inner.take (i * 2) ++ xs).length = (i + 1) * 2 := by rw [List.length_append, List.length_take, hlen, hxl]; omega
    rw [hcur', h4]
    simp only [List.append_assoc]
    rw [← List.append_assoc, show (n + 1) * 2 = (inner.take (i * 2) ++ xs).length + (inner.drop (i * 2)).length by rw [h6, hdl]; omega, List.take_length_add_append, List.take_left, List.append_assoc]
  obtain ⟨W2, hW2⟩ : ∃ W2, W2 = W1.drew.setRow w.heap.size cur' := ⟨_, rfl⟩
  have HF := Aside0.mk (show W2.heap[w.heap.size]? = some (.cells cur' 99 (0, 0)) ∧ Below w.heap.size w W2 ∧ cur'.size = cap' * 2 ∧ cur'.toList.take ((n + 1) * 2) = inner.take (i * 2) ++ xs ++ inner.drop (i * 2) from
    ⟨by rw [hW2]; exact setRow_heap W1.drew _ cur1 _ 99 _ hh1, by rw [hW2]; exact below_setRow (below_drew hB1) (Nat.le_refl _) _, hsz', hfin⟩)
  have HC := Aside0.mk (And.intro hc1 hc2)
  rw [← hW2] at hcp2
  rw [← hW0] at happ
  have hcx : cap ≤ 9223372036854775807 := by omega
  have hcy : cap' ≤ 9223372036854775807 := by unfold maxLen at hc2; omega
  have hcz : i + 1 ≤ cap' := by omega
  clear hfin hcur' hW0 hW1 hW2 hsz1 hcur1 hdl hlen hxl hsz hin hsz2 hin2 h1 h2 hg hg2 hc2 hB0 hh0 hg0 hg20 hB1 hh1 hg1 hsz' hsz0 ht0 hcur0 hi0 hzz
  have hin' : (i : Int) ≤ (n : Int) + 1 := by omega
  have hb1 : ¬ ((i : Int) = (n : Int)) := by omega
  have hb7 : (0 : Int) ≤ (i : Int) + 1 := by omega
  have hb8 : i ≤ n := by omega
  have hb9 : i ≤ n + 1 := by omega
  have hb4 : ¬ (cap = i) := by omega
  have hz3 : (cap : Int) < (n : Int) + 1 := by omega
  have hic : i ≤ cap := by omega
  have hb5 : ¬ (cap' = i) := by omega
  have hb6 : ¬ (cap' = i + 1) := by omega
  have hsub : (n : Int) + 1 - (i : Int) = ((n + 1 - i : Nat) : Int) := by omega
  have hw1 : IntKind.i64.wrap ((i : Int) + 1) = (i : Int) + 1 := by rw [IntKind.wrap_i64]; omega
  have htn : ((i : Int) + 1).toNat = i + 1 := by omega
  go_enter Try.func129, Try.ntmps129
  go_wp2_with (first
    | (at_builtin; refine wpList_append_run _ rfl _ _ 45 3 rfl _ _ rfl rfl _ _ happ ?_)
    | (at_builtin; refine wpList_copy_run _ rfl _ _ 45 45 rfl _ _ rfl rfl (hcp1 _ _ _) ?_)
    | (at_builtin; refine wpList_copy_run _ rfl _ _ 45 45 rfl _ _ rfl rfl (hcp2 _ _ _) ?_))
  go_region_law (refine step_copy_run rfl _ _ 45 45 rfl _ _ (by simp [Act.eval, Act.put]) (by simp [Act.eval, Act.put]) (hcp2 _ _ _) ?_)
  go_wp2
  go_ret
  exact ⟨cap', cur', rfl, by have := HC.out.1; omega, HC.out.2, HF.out.1, HF.out.2.1, HF.out.2.2.1, HF.out.2.2.2⟩
def api_Chain_129.rf (l0 : List (List Value)) (a1 : Int) (l2 : List (List Value)) : Option (List (List Value)) := if l2.length = 1 ∧ 0 ≤ a1 ∧ a1 ≤ l0.length ∧ l0.length + 1 < 3518437208883 then some (l0.take a1.toNat ++ l2 ++ l0.drop a1.toNat) else none
theorem api_Chain_129.rone {w : World} {base : Nat} {ok : Nat → Prop} {l : List (List Value)} {cs : List Value} (h : Reps ((Kd.raw 2).M w base ok) 2 l cs) : ∀ u ∈ cs, u.oneCell' = true := by
  intro u hu
  obtain ⟨q, hq, rfl⟩ := List.mem_iff_getElem.1 hu
  have hql : q / 2 < l.length := by
    have := h.1
    omega
  have hc := h.2 (q / 2) _ (List.getElem?_eq_getElem hql)
  refine (Kd.raw 2).K_one ((Kd.raw 2).K_of_M hc) _ ?_
  rw [List.mem_iff_getElem?]
  refine ⟨q % 2, ?_⟩
  rw [List.getElem?_take, if_pos (Nat.mod_lt _ (by omega)), List.getElem?_drop, Nat.mul_comm, Nat.div_add_mod, List.getElem?_eq_getElem hq]
open HCopy in
theorem api_Chain_129.rreps {w w' : World} {base base' : Nat} {ok ok' : Nat → Prop} {l l2 : List (List Value)} {cs ds : List Value} (i : Nat) (hi : i ≤ l.length) (h : Reps ((Kd.raw 2).M w base ok) 2 l cs) (h2 : Reps ((Kd.raw 2).M w' base' ok') 2 l2 ds) (hb : base' ≤ base) :
    Reps ((Kd.raw 2).M w' base' (fun _ => True)) 2 (l.take i ++ l2 ++ l.drop i) (cs.take (i * 2) ++ ds ++ cs.drop (i * 2)) :=
  Reps.append (Reps.append ((Reps.take h i hi).imp_ fun _ _ hm => flat_move rfl hb hm) (h2.imp_ fun _ _ hm => flat_move rfl (Nat.le_refl _) hm)) ((Reps.drop h i).imp_ fun _ _ hm => flat_move rfl hb hm)
open HCopy in
set_option maxHeartbeats 2000000 in
set_option maxRecDepth 100000 in
/-- The place is the end. -/
theorem api_Chain_129.rlast (P0_ : Nat → Prop) (u9000_ : Value) (l0 : List (List Value)) (P2_ : Nat → Prop) (u9001_ : Value) (x : (List Value)) (w0 w : World) (hB : Below w0.heap.size w0 w) (ho0 : Kd.R (Kd.raw 2) 99 w w0.heap.size P0_ u9000_ l0) (ho2 : Kd.R (Kd.raw 2) 99 w w0.heap.size P2_ u9001_ [x]) (hlim : l0.length + 1 < 3518437208883) :
    Calls Try.prog 129 #[u9000_, .int .i64 l0.length, u9001_] w fun e w' => ∃ v0_, e = .returned v0_ ∧ Kd.R (Kd.raw 2) 99 w' w0.heap.size (fun k_ => ((P0_ k_ ∨ P2_ k_) ∨ w.heap.size ≤ k_)) v0_ (l0 ++ [x]) ∧ Below w0.heap.size w0 w' ∧ Kept w w' (fun k_ => P0_ k_ ∨ P2_ k_) := by
  obtain ⟨A2, c2, rfl, hc2, hC2⟩ := Kd.R_reads ho2
  obtain ⟨A0, c0, hu0, hc0, hC0⟩ := Kd.R_reads ho0
  obtain ⟨ad2, rfl, _⟩ := hC2.2.2 (by simp)
  have hoK : Kd.R (Kd.raw 2) 99 w w0.heap.size (fun k_ => ((P0_ k_ ∨ P2_ k_) ∨ w.heap.size ≤ k_)) u9000_ l0 := Kd.R_mono ho0 (fun k hk => .inl (.inl hk))
  have hP0 := Aside0.mk ho0.1
  have HO := Aside0.mk hoK
  have HC := Aside0.mk hC2
  have HBB := Aside0.mk hB
  have hlen : l0.length ≤ c0 := hc0
  clear ho0 ho2 hC0 hC2 hoK hB
  subst hu0
  go_enter Try.func129, Try.ntmps129
  go_wp2_with (at_builtin; (refine Kd.R_append_rows (Kd.raw 2) (w0 := w0) w0.heap.size rfl _ _ 45 99 ((.agg #[(.string ⟨#[]⟩), (.slice none 0 0)])) 40 rfl Try.underlying45 info99 rfl (by decide) (by omega) _ l0 [x] _ _ _ (fun k_ => ((P0_ k_ ∨ P2_ k_) ∨ w.heap.size ≤ k_)) (fun _ => False) rfl rfl HO.out HC.out (fun _ _ h => h) (fun _ h => h.elim) (fun k hk => .inr hk) HBB.out HBB.out.size (by show (l0.length + 1) * 40 ≤ 140737488355328; omega) ?_); intro v1 w1 ho hb hg hat)
  all_goals go_ret
  all_goals exact ⟨_, rfl, ho, hb, Kept.of_grown hg (Kept.refl _ _) (fun k hk => .inl (.inl (hP0.out k hk)))⟩
open HCopy in
theorem api_Chain_129.rcalls (P0_ : Nat → Prop) (u9000_ : Value) (l0 : List (List Value)) (a1 : Int) (P2_ : Nat → Prop) (u9001_ : Value) (l2 : List (List Value)) (r : List (List Value)) (w0 w : World) (hB : Below w0.heap.size w0 w) (ho0 : Kd.R (Kd.raw 2) 99 w w0.heap.size P0_ u9000_ l0) (hp0_2 : ∀ k_, P0_ k_ → ¬ P2_ k_) (ho2 : Kd.R (Kd.raw 2) 99 w w0.heap.size P2_ u9001_ l2) (hp2_0 : ∀ k_, P2_ k_ → ¬ P0_ k_) (h : api_Chain_129.rf l0 a1 l2 = some r) :
    Calls Try.prog 129 #[u9000_, .int .i64 a1, u9001_] w fun e w' => ∃ v0_, e = .returned v0_ ∧ Kd.R (Kd.raw 2) 99 w' w0.heap.size (fun k_ => ((P0_ k_ ∨ P2_ k_) ∨ w.heap.size ≤ k_)) v0_ r ∧ Below w0.heap.size w0 w' ∧ Kept w w' (fun k_ => P0_ k_ ∨ P2_ k_) := by
  unfold api_Chain_129.rf at h
  split at h
  case isFalse => cases h
  case isTrue hc =>
    obtain ⟨hl1, hi0, hil, hlim⟩ := hc
    obtain rfl := Option.some.inj h
    obtain ⟨i, rfl⟩ : ∃ i : Nat, a1 = (i : Int) := ⟨a1.toNat, by omega⟩
    obtain ⟨x, rfl⟩ := List.length_eq_one_iff.1 hl1
    clear h
    rw [Int.toNat_natCast]
    by_cases hin : i < l0.length
    · obtain ⟨hok2, inner2, ⟨hlen2, hcase2⟩, hr2⟩ := ho2
      rcases hcase2 with ⟨_, hn⟩ | ⟨g2, c2, cur2, rfl, hbg2, hg2, hnc2, hcm2, hsz2, ht2⟩
      · simp at hn
      obtain ⟨hok, inner, ⟨hlen, hcase⟩, hr⟩ := ho0
      rcases hcase with ⟨_, hn⟩ | ⟨g, cap, cur, rfl, hbg, hg, hnc, hcm, hsz, ht⟩
      · omega
      have hP0 : P0_ g := hok g (by simp [Value.ownBlock])
      have hP2 : P2_ g2 := hok2 g2 (by simp [Value.ownBlock])
      have hne : g2 ≠ g := fun e => hp0_2 g hP0 (e ▸ hP2)
      have hbw := hB.size
      have hR := fun (w' : World) => api_Chain_129.rreps (w' := w') (base' := w0.heap.size) (ok' := fun _ => True) i (by omega) hr (hr2.imp_ fun _ _ hm => flat_move (w1 := w') (base1 := w0.heap.size) (ok1 := fun _ => True) rfl (Nat.le_refl _) hm) (Nat.le_refl _)
      by_cases hroom : l0.length + 1 ≤ cap
      · refine (api_Chain_129.rroom g cap l0.length i cur inner inner2 g2 c2 cur2 w hg hg2 hne hin hroom hcm hsz ht (by show 2 ≤ _; have : (Kd.raw 2).sz = 2 := rfl; rw [this] at hsz2; have : 1 ≤ c2 := hnc2; omega) ht2 (api_Chain_129.rone hr) (api_Chain_129.rone hr2)).mono ?_
        rintro e w' ⟨cur', rfl, rfl, hs', ht'⟩
        refine ⟨_, rfl, ?_, ?_, ?_⟩
        · exact row_R (Kd.raw 2) rfl (Nat.le_refl _) (setRow_heap w.drew g cur _ 99 _ hg) hbg (by simp; omega) hroom hcm hs' ht' (hR w) (.inl (.inl hP0))
        · exact below_setRow (below_drew hB) hbg _
        · exact ⟨by simp [World.setRow], fun k hk hn => setRow_other w.drew g k cur' (fun e => hn (.inl (e ▸ hP0)))⟩
      · refine (api_Chain_129.rgrow g cap l0.length i cur inner inner2 g2 c2 cur2 w hg hg2 hin hnc (by omega) hlim hsz ht (by show 2 ≤ _; have : (Kd.raw 2).sz = 2 := rfl; rw [this] at hsz2; have : 1 ≤ c2 := hnc2; omega) ht2 (api_Chain_129.rone hr) (api_Chain_129.rone hr2)).mono ?_
        rintro e w' ⟨cap', cur', rfl, hc1, hc2', hh, hbb, hs', ht'⟩
        refine ⟨_, rfl, ?_, ?_, ?_⟩
        · exact row_R (Kd.raw 2) rfl (Nat.le_refl _) hh hbw (by simp; omega) hc1 hc2' hs' ht' (hR w) (.inr (Nat.le_refl _))
        · exact hB.trans (hbb.mono hbw)
        · exact Kept.of_below hbb _
    · obtain rfl : i = l0.length := by omega
      rw [List.take_length, List.drop_length, List.append_nil]
      exact api_Chain_129.rlast P0_ u9000_ l0 P2_ u9001_ x w0 w hB ho0 ho2 hlim
def api_Chain_129.f (l0 : List (S99)) (a1 : Int) (l2 : List (S99)) : Option (List (S99)) := if l2.length = 1 ∧ 0 ≤ a1 ∧ a1 ≤ l0.length ∧ l0.length + 1 < 3518437208883 then some (l0.take a1.toNat ++ l2 ++ l0.drop a1.toNat) else none
theorem api_Chain_129.calls (P0_ : Nat → Prop) (u9000_ : Value) (l0 : List (S99)) (a1 : Int) (P2_ : Nat → Prop) (u9001_ : Value) (l2 : List (S99)) (r : List (S99)) (w0 w : World) (hB : Below w0.heap.size w0 w) (ho0 : Kd.N HTabU.kU 99 w w0.heap.size P0_ u9000_ l0) (hp0_2 : ∀ k_, P0_ k_ → some k_ ≠ u9001_.ownBlock) (ho2 : Kd.N HTabU.kU 99 w w0.heap.size P2_ u9001_ l2) (hp2_0 : ∀ k_, P2_ k_ → some k_ ≠ u9000_.ownBlock) (h : api_Chain_129.f l0 a1 l2 = some r) :
    Calls Try.prog 129 #[u9000_, .int .i64 a1, u9001_] w fun e w' => ∃ v0_, e = .returned v0_ ∧ Kd.N HTabU.kU 99 w' w0.heap.size (fun k_ => ((P0_ k_ ∨ P2_ k_) ∨ w.heap.size ≤ k_)) v0_ r ∧ Below w0.heap.size w0 w' ∧ Kept w w' (fun k_ => some k_ = u9000_.ownBlock ∨ some k_ = u9001_.ownBlock) := by
  unfold api_Chain_129.f at h
  split at h
  case isFalse => cases h
  case isTrue hc =>
    obtain ⟨hl1, hi0, hil, hlim⟩ := hc
    obtain rfl := Option.some.inj h
    obtain ⟨h00, rows0, hlen0, hR0, hf0⟩ := ho0
    obtain ⟨h20, rows2, hlen2, hR2, hf2⟩ := ho2
    refine (api_Chain_129.rcalls (fun k => some k = u9000_.ownBlock) u9000_ rows0 a1 (fun k => some k = u9001_.ownBlock) u9001_ rows2 (rows0.take a1.toNat ++ rows2 ++ rows0.drop a1.toNat) w0 w hB hR0 (fun k e => hp0_2 k (h00 k e.symm)) hR2 (fun k e => hp2_0 k (h20 k e.symm)) (by unfold api_Chain_129.rf; rw [if_pos ⟨by omega, hi0, by omega, by omega⟩])).mono ?_
    rintro e w' ⟨v0, rfl, hR, hb, hk⟩
    have hown : ∀ k, k < w.heap.size → some k ≠ u9000_.ownBlock → some k ≠ u9001_.ownBlock → some k ≠ v0.ownBlock := by
      intro k hlt h1 h2 e
      rcases hR.1 k e.symm with (h | h) | h
      · exact h1 h
      · exact h2 h
      · omega
    have move0 : ∀ (j : Nat) (x : (S99)) (c : List Value), l0[j]? = some x → rows0[j]? = some c → Kd.FK HTabU.kU w' (fun k => ((P0_ k ∨ P2_ k) ∨ w.heap.size ≤ k) ∧ some k ≠ v0.ownBlock) x c := by
      intro j x c hx hc
      refine Kd.FK_mono (Kd.FK_step (Kd.FK_bound (hf0 j x c hx hc)) (fun k hk' hlt => hk.2 k hlt (fun h => ?_))) (fun k hk' => ⟨.inl (.inl hk'.1.1), hown k hk'.2 hk'.1.2 (hp0_2 k hk'.1.1)⟩)
      rcases h with h | h
      · exact hk'.1.2 h
      · exact hp0_2 k hk'.1.1 h
    have move2 : ∀ (j : Nat) (x : (S99)) (c : List Value), l2[j]? = some x → rows2[j]? = some c → Kd.FK HTabU.kU w' (fun k => ((P0_ k ∨ P2_ k) ∨ w.heap.size ≤ k) ∧ some k ≠ v0.ownBlock) x c := by
      intro j x c hx hc
      refine Kd.FK_mono (Kd.FK_step (Kd.FK_bound (hf2 j x c hx hc)) (fun k hk' hlt => hk.2 k hlt (fun h => ?_))) (fun k hk' => ⟨.inl (.inr hk'.1.1), hown k hk'.2 (hp2_0 k hk'.1.1) hk'.1.2⟩)
      rcases h with h | h
      · exact hp2_0 k hk'.1.1 h
      · exact hk'.1.2 h
    refine ⟨v0, rfl, ⟨fun k hk' => ?_, rows0.take a1.toNat ++ rows2 ++ rows0.drop a1.toNat, by simp only [List.length_append, List.length_take, List.length_drop, hlen0, hlen2], Kd.raw_tight hR, fun j x c hx hc => ?_⟩, hb, hk⟩
    · rcases hR.1 k hk' with (h | h) | h
      · exact .inl (.inl (h00 k h.symm))
      · exact .inl (.inr (h20 k h.symm))
      · exact .inr h
    · rw [List.append_assoc] at hx hc
      have ht : (rows0.take a1.toNat).length = (l0.take a1.toNat).length := by simp only [List.length_take, hlen0]
      by_cases hj : j < (l0.take a1.toNat).length
      · rw [List.getElem?_append_left hj] at hx
        rw [List.getElem?_append_left (by omega)] at hc
        have hj2 : j < a1.toNat := by rw [List.length_take] at hj; omega
        rw [List.getElem?_take_of_lt hj2] at hx hc
        exact move0 j x c hx hc
      · rw [List.getElem?_append_right (by omega)] at hx hc
        rw [ht] at hc
        generalize j - (l0.take a1.toNat).length = q at hx hc
        by_cases hq : q < l2.length
        · rw [List.getElem?_append_left hq] at hx
          rw [List.getElem?_append_left (by omega)] at hc
          exact move2 q x c hx hc
        · rw [List.getElem?_append_right (by omega)] at hx hc
          rw [hlen2] at hc
          rw [List.getElem?_drop] at hx hc
          exact move0 _ x c hx hc
end Go.Proofs.Ytbaecdcfefmcgaa.PTbe
