import Derived.Test.YtbaecdcfefmcgaaGreatPVrdx0
import Derived.Test.YtbaecdcfefmcgaaGreatPVrdx7
import Derived.Test.YtbaecdcfefmcgaaGreatPVrdx8
import Derived.Test.YtbaecdcfefmcgaaGreatPVrdx9
import Derived.Test.YtbaecdcfefmcgaaGreatPVrdx10
import Derived.Test.YtbaecdcfefmcgaaGreatPVrdx14
import Derived.Test.YtbaecdcfefmcgaaGreatPVrdx15
import Derived.Test.YtbaecdcfefmcgaaGreatPVrdx17
import Derived.Test.YtbaecdcfefmcgaaGreatPVrdx19
import Derived.Test.YtbaecdcfefmcgaaGreatPVrdx24
import Derived.Test.YtbaecdcfefmcgaaGreatPVrdx21
import Derived.Test.YtbaecdcfefmcgaaGreatPVrdx22
namespace Go.Proofs.YtbaecdcfefmcgaaGreat.PVrd
open Go.RowKit Go.Proofs.YtbaecdcfefmcgaaGreatW.PrintWords Go.Proofs.YtbaecdcfefmcgaaGreatW.PrintLast Go.Proofs.YtbaecdcfefmcgaaGreatW.PrintMore
attribute [local go_sem] max2_int min2_int max_two min_two max_three min_three max_four min_four
set_option maxHeartbeats 8000000
set_option maxRecDepth 100000
set_option linter.unusedVariables false
set_option linter.unusedSimpArgs false
theorem Fa.calls (k:Nat) (A0_0:Option Addr) (c0_0:Nat) (aH:List (S43)) (P0_1_:Nat→Prop) (A0_1:Option Addr) (c0_1:Nat) (ax:List (S34)) (A0_2:Option Addr) (c0_2:Nat) (aK:List Int) (A0_3:Option Addr) (c0_3:Nat) (aG:List ByteArray) (A0_4:Option Addr) (c0_4:Nat) (ay:List (S55)) (A0_5:Option Addr) (c0_5:Nat) (aI:List Int) (r:Bool) (w:World) (hr0_0:Kd.C k43 w A0_0 aH.length aH) (hc0_0:aH.length≤c0_0) (kC:Kd.V k34 34 w w.heap.size (fun k_=>P0_1_ k_) (.slice A0_1 ax.length c0_1) ax) (hr0_2:Kd.C (Kd.int .i64) w A0_2 aK.length aK) (hc0_2:aK.length≤c0_2) (hr0_3:Kd.C Kd.string w A0_3 aG.length aG) (hc0_3:aG.length≤c0_3) (hr0_4:Kd.C k55 w A0_4 ay.length ay) (hc0_4:ay.length≤c0_4) (hr0_5:Kd.C (Kd.int .i64) w A0_5 aI.length aI) (hc0_5:aI.length≤c0_5) (h:Fa.f k aH ax aK aG ay aI=some r) :
 Calls Tryz.prog 3 #[.agg #[.slice A0_0 aH.length c0_0,.slice A0_1 ax.length c0_1,.slice A0_2 aK.length c0_2,.slice A0_3 aG.length c0_3,.slice A0_4 ay.length c0_4,.slice A0_5 aI.length c0_5]] w fun e w'=>e = .returned (.bool r)∧Below w.heap.size w w':=by
 have hu28:=Tryz.underlying28
 have hu34:=Tryz.underlying34
 have hu43:=Tryz.underlying43
 have hu55:=Tryz.underlying55
 have gL:=mk0 hr0_0
 have hG:=mk0 hc0_0
 clear hr0_0 hc0_0
 have a3:=mk0 (show Kd.V k34 34 w w.heap.size (fun k_=>(P0_1_ k_∨w.heap.size≤k_)) (.slice A0_1 ax.length c0_1) ax from Kd.V_mono kC (fun k_ hk=>.inl hk))
 have jK:=mk0 hr0_2
 have ki:=mk0 hc0_2
 clear hr0_2 hc0_2
 have hH:=mk0 hr0_3
 have kj:=mk0 hc0_3
 clear hr0_3 hc0_3
 have hI:=mk0 hr0_4
 have kk:=mk0 hc0_4
 clear hr0_4 hc0_4
 have jL:=mk0 hr0_5
 have kl:=mk0 hc0_5
 clear hr0_5 hc0_5
 have HB:=mk0 (Below.refl w.heap.size w)
 have H:((Fg.f k aH ax aK aG ay aI).bind fun kx=>(if kx=true then (some true) else ((FO.f k aH).bind fun aJ=>((Fw.f k aH).bind fun cG=>((some (([(⟨([]:List (S72)),([]:List Int)⟩:S34)]:List (S34)):List (S34))).bind fun ih=>(if ih.length + ax.length<2932031007402 then ((some (([0,1,(-1)]:List Int):List Int)).bind fun fR=>(if fR.length + aK.length<17592186044416 then ((some (([0,3]:List Int):List Int)).bind fun eb=>(if eb.length + aI.length<17592186044416 then (Fa.l0 k aJ cG (ih ++ ax) (fR ++ aK) (eb ++ aI) 0 aH ax aK aG ay aI) else (none))) else (none))) else (none)))))))=some r:=h
 clear h
 replace H:=ob_ H
 obtain ⟨kx,A2,H⟩:=H
 try dsimp only at H
 by_cases c3:kx=true
 ·subst c3
  rw [if_pos rfl] at H
  obtain rfl:=Option.some.inj H
  go_enter Tryz.func3,Tryz.ntmps3
  go_wp2_with (first|((with_reducible refine gate_dst (N:=1) rfl ?_);(try (refine gate_guard (by rfl) ?_;dsimp only));refine bx_ (N:=1) (cs:=#[.slice A0_0 aH.length c0_0,.slice A0_1 ax.length c0_1,.slice A0_2 aK.length c0_2,.slice A0_3 aG.length c0_3,.slice A0_4 ay.length c0_4,.slice A0_5 aI.length c0_5]) (t:=28) (h:=?_);intro ag hg w4 hbox hb;have a9:=mk0 (gz_ HB hg);have d7:=mk0 (gz_ HB hg);replace a3:=mk0 (Kd.V_below (Kd.V_elderB (v_ a3) ag (Nat.le_of_eq hg.symm)) hb);replace HB:=mk0 (bt_ (b_ HB) hb);have ad:=mk0 (hbox);have kD:=a9;have km:=d7;clear a9 d7 hb hbox hg;obtain ⟨cI,cJ,cK,cL,cM,cN,ch,ci,cj,ck,cl,cm⟩:=c6_ ad)|((with_reducible refine gate_callee (f:=4) rfl ?_);refine gL_ (some 29) Tryz.func4 #[.agg #[.slice A0_0 aH.length c0_0,.slice A0_1 ax.length c0_1,.slice A0_2 aK.length c0_2,.slice A0_3 aG.length c0_3,.slice A0_4 ay.length c0_4,.slice A0_5 aI.length c0_5]] (h:=?_);(with_reducible refine (Fg.calls k _ _ aH _ _ ax _ _ aK _ _ aG _ _ ay _ _ aI true _ ?side1 ?side2 ?side3 ?side4 ?side5 ?side6 ?side7 ?side8 ?side9 ?side10 ?side11 ?side12 A2.out).mono ?_);(case side1=>exact cb_ gL HB);(case side2=>exact hG.out);(case side3=>exact cv_ a3);(case side4=>exact (Kd.V_reads' a3.out).2.1);(case side5=>exact cb_ jK HB);(case side6=>exact ki.out);(case side7=>exact cb_ hH HB);(case side8=>exact kj.out);(case side9=>exact cb_ hI HB);(case side10=>exact kk.out);(case side11=>exact cb_ jL HB);(case side12=>exact kl.out);rintro e w6 ⟨rfl,hb⟩;refine ⟨_,rfl,?_⟩;replace a3:=mk0 (Kd.V_below (v_ a3) hb);replace ad:=mk0 (u_ ad hb);replace HB:=mk0 (bt_ (b_ HB) hb);(try clear hb)))
  go_ret
  exact ⟨sa_,b_ HB⟩
 replace c3:=Bool.eq_false_iff.mpr c3
 subst c3
 rw [if_neg nf_] at H
 replace H:=ob_ H
 obtain ⟨aJ,A7,H⟩:=H
 try dsimp only at H
 replace H:=ob_ H
 obtain ⟨cG,A8,H⟩:=H
 try dsimp only at H
 obtain ⟨ih,e3⟩:∃ y_:List (S34),y_=(([(⟨([]:List (S72)),([]:List Int)⟩:S34)]:List (S34))):=⟨_,rfl⟩
 replace H:(if ih.length + ax.length<2932031007402 then ((some (([0,1,(-1)]:List Int):List Int)).bind fun fR=>(if fR.length + aK.length<17592186044416 then ((some (([0,3]:List Int):List Int)).bind fun eb=>(if eb.length + aI.length<17592186044416 then (Fa.l0 k aJ cG (ih ++ ax) (fR ++ aK) (eb ++ aI) 0 aH ax aK aG ay aI) else (none))) else (none))) else (none))=some r:=rp_ H e3
 have m2:=mk0 e3
 clear e3
 by_cases c9:ih.length + ax.length<2932031007402
 rotate_left
 ·rw [if_neg c9] at H
  exact absurd H (by simp)
 rw [if_pos c9] at H
 have LMc9:=mk0 c9
 clear c9
 obtain ⟨am,e4⟩:∃ y_:List (S34),y_=(ih ++ ax):=⟨_,rfl⟩
 replace H:((some (([0,1,(-1)]:List Int):List Int)).bind fun fR=>(if fR.length + aK.length<17592186044416 then ((some (([0,3]:List Int):List Int)).bind fun eb=>(if eb.length + aI.length<17592186044416 then (Fa.l0 k aJ cG am (fR ++ aK) (eb ++ aI) 0 aH ax aK aG ay aI) else (none))) else (none)))=some r:=rp_ H e4
 have od:=mk0 e4
 clear e4
 obtain ⟨fR,e5⟩:∃ y_:List Int,y_=(([0,1,(-1)]:List Int)):=⟨_,rfl⟩
 replace H:(if fR.length + aK.length<17592186044416 then ((some (([0,3]:List Int):List Int)).bind fun eb=>(if eb.length + aI.length<17592186044416 then (Fa.l0 k aJ cG am (fR ++ aK) (eb ++ aI) 0 aH ax aK aG ay aI) else (none))) else (none))=some r:=rp_ H e5
 have m3:=mk0 e5
 clear e5
 by_cases a6:fR.length + aK.length<17592186044416
 rotate_left
 ·rw [if_neg a6] at H
  exact absurd H (by simp)
 rw [if_pos a6] at H
 have LMc10:=mk0 a6
 clear a6
 obtain ⟨ao,e6⟩:∃ y_:List Int,y_=(fR ++ aK):=⟨_,rfl⟩
 replace H:((some (([0,3]:List Int):List Int)).bind fun eb=>(if eb.length + aI.length<17592186044416 then (Fa.l0 k aJ cG am ao (eb ++ aI) 0 aH ax aK aG ay aI) else (none)))=some r:=rp_ H e6
 have oe:=mk0 e6
 clear e6
 obtain ⟨eb,e7⟩:∃ y_:List Int,y_=(([0,3]:List Int)):=⟨_,rfl⟩
 replace H:(if eb.length + aI.length<17592186044416 then (Fa.l0 k aJ cG am ao (eb ++ aI) 0 aH ax aK aG ay aI) else (none))=some r:=rp_ H e7
 have m4:=mk0 e7
 clear e7
 by_cases a7:eb.length + aI.length<17592186044416
 rotate_left
 ·rw [if_neg a7] at H
  exact absurd H (by simp)
 rw [if_pos a7] at H
 have LMc11:=mk0 a7
 clear a7
 obtain ⟨az,e8⟩:∃ y_:List Int,y_=(eb ++ aI):=⟨_,rfl⟩
 replace H:(Fa.l0 k aJ cG am ao az 0 aH ax aK aG ay aI)=some r:=rp_ H e8
 have og:=mk0 e8
 clear e8
 have H':=mk0 H
 clear H
 go_enter Tryz.func3,Tryz.ntmps3
 go_wp2_with (first|((with_reducible refine gate_dst (N:=1) rfl ?_);(try (refine gate_guard (by rfl) ?_;dsimp only));refine bx_ (N:=1) (cs:=#[.slice A0_0 aH.length c0_0,.slice A0_1 ax.length c0_1,.slice A0_2 aK.length c0_2,.slice A0_3 aG.length c0_3,.slice A0_4 ay.length c0_4,.slice A0_5 aI.length c0_5]) (t:=28) (h:=?_);intro ag hg pb hbox hb;have a9:=mk0 (gz_ HB hg);have d7:=mk0 (gz_ HB hg);replace a3:=mk0 (Kd.V_below (Kd.V_elderB (v_ a3) ag (Nat.le_of_eq hg.symm)) hb);replace HB:=mk0 (bt_ (b_ HB) hb);have ad:=mk0 (hbox);have kD:=a9;have km:=d7;clear a9 d7 hb hbox hg;obtain ⟨dC,dD,dE,dF,dG,dH,aX,aY,aZ,ba,bb,bc⟩:=c6_ ad)|((with_reducible refine gate_callee (f:=4) rfl ?_);refine gL_ (some 29) Tryz.func4 #[.agg #[.slice A0_0 aH.length c0_0,.slice A0_1 ax.length c0_1,.slice A0_2 aK.length c0_2,.slice A0_3 aG.length c0_3,.slice A0_4 ay.length c0_4,.slice A0_5 aI.length c0_5]] (h:=?_);(with_reducible refine (Fg.calls k _ _ aH _ _ ax _ _ aK _ _ aG _ _ ay _ _ aI false _ ?side1 ?side2 ?side3 ?side4 ?side5 ?side6 ?side7 ?side8 ?side9 ?side10 ?side11 ?side12 A2.out).mono ?_);(case side1=>exact cb_ gL HB);(case side2=>exact hG.out);(case side3=>exact cv_ a3);(case side4=>exact (Kd.V_reads' a3.out).2.1);(case side5=>exact cb_ jK HB);(case side6=>exact ki.out);(case side7=>exact cb_ hH HB);(case side8=>exact kj.out);(case side9=>exact cb_ hI HB);(case side10=>exact kk.out);(case side11=>exact cb_ jL HB);(case side12=>exact kl.out);rintro e pc ⟨rfl,hb⟩;refine ⟨_,rfl,?_⟩;replace a3:=mk0 (Kd.V_below (v_ a3) hb);replace ad:=mk0 (u_ ad hb);replace HB:=mk0 (bt_ (b_ HB) hb);(try clear hb);obtain ⟨dI,dJ,dK,dL,dM,dN,bd,be,bf,bg,bh,bi⟩:=c6_ ad)|((with_reducible refine gate_callee (f:=5) rfl ?_);refine gL_ (some 32) Tryz.func5 #[.slice A0_0 aH.length c0_0] (h:=?_);(with_reducible refine (FO.calls k _ _ aH aJ _ ?side1 ?side2 A7.out).mono ?_);(case side1=>exact cb_ gL HB);(case side2=>exact hG.out);rintro e pd ⟨a2,rfl,ho0,hb⟩;refine ⟨_,rfl,?_⟩;have oj:=mk0 (Kd.N_lower (Kd.N_mono (ok':=fun k_=>(P0_1_ k_∨w.heap.size≤k_)∧k_≠ag) (Kd.R_N (Kd.R_bound ho0)) (fun k_ hk_=>⟨(.inr (Nat.le_trans (bz_ (b_ HB)) hk_.2.1)),(Kd.freshB (g:=ag) (o:=.cells #[.slice A0_0 aH.length c0_0,.slice A0_1 ax.length c0_1,.slice A0_2 aK.length c0_2,.slice A0_3 aG.length c0_3,.slice A0_4 ay.length c0_4,.slice A0_5 aI.length c0_5] 28 (0,0)) (h_ ad) k_ hk_.2.1)⟩)) (bz_ (b_ HB)));replace a3:=mk0 (Kd.V_elder' (v_ a3) (Kd.N_base (Kd.R_N ho0)) hb);replace ad:=mk0 (u_ ad hb);replace HB:=mk0 (bt_ (b_ HB) hb);have dr:=oj;clear oj;(try clear hb);(try clear ho0);obtain ⟨dO,dP,dQ,dR,dS,dT,bj,bk,bl,bm,bn,bo⟩:=c6_ ad)|((with_reducible refine gate_callee (f:=6) rfl ?_);refine gL_ (some 35) Tryz.func6 #[.slice A0_0 aH.length c0_0] (h:=?_);(with_reducible refine (Fw.calls k _ _ aH cG _ ?side1 ?side2 A8.out).mono ?_);(case side1=>exact cb_ gL HB);(case side2=>exact hG.out);rintro e oI ⟨rfl,hb⟩;refine ⟨_,rfl,?_⟩;replace a3:=mk0 (Kd.V_below (v_ a3) hb);replace dr:=mk0 (Kd.N_below (nn_ dr) hb);replace ad:=mk0 (u_ ad hb);replace HB:=mk0 (bt_ (b_ HB) hb);(try clear hb))|((with_reducible refine gate_dst (N:=37) rfl ?_);(try (refine gate_guard (by rfl) ?_;dsimp only));refine Kd.N_lit k34 _ 34 ?hg (N':=37) ?hd (xs:=([(⟨([]:List (S72)),([]:List Int)⟩:S34)]:List (S34))) (inner:=[.slice none 0 0,.slice none 0 0]) (ok:=(fun k_=>(P0_1_ k_∨w.heap.size≤k_)∧some k_≠(a2:Value).ownBlock∧k_≠ag)) (okp:=(fun k_=>(P0_1_ k_∨w.heap.size≤k_)∧some k_≠(a2:Value).ownBlock∧k_≠ag)) ?hr ?hp (fun _ hk=>hk) ((show ∀ k_,oI.heap.size≤k_→(fun k_=>(P0_1_ k_∨w.heap.size≤k_)∧some k_≠(a2:Value).ownBlock∧k_≠ag) k_ from fun k_ hk=>⟨(.inr (Nat.le_trans (bz_ (b_ HB)) hk)),Kd.fresh' (Kd.N_lt (nn_ dr)) k_ hk,Kd.freshB (g:=ag) (o:=.cells #[.slice A0_0 aH.length c0_0,.slice A0_1 ax.length c0_1,.slice A0_2 aK.length c0_2,.slice A0_3 aG.length c0_3,.slice A0_4 ay.length c0_4,.slice A0_5 aI.length c0_5] 28 (0,0)) (h_ ad) k_ hk⟩) _ (Nat.le_refl _)) (Below.refl _ _) (Nat.le_refl _) (by simp) ?_;(case hd=>rfl);(case hg=>rfl);(case hr=>first|(go_simp;done)|(go_simp;rfl));(case hp=>exact (Reps.c2 (show Kd.FK k34 _ _ (⟨([]:List (S72)),([]:List Int)⟩:S34) [.slice none 0 0,.slice none 0 0] from (k34_mkF _ _ (⟨([]:List (S72)),([]:List Int)⟩:S34) (Nat.le_refl _) (Kd.F_nil _ _ _) (Nat.le_refl _) (Kd.F_nil _ _ _))) (Reps.none _ _)));intro m5 pe ho20 hb hg_ hnew_;clear hg_ hnew_;(first|rw [← m2.out] at ho20|(simp only [Int.reduceToNat] at ho20;rw [← m2.out] at ho20));have ny2_:=mk0 (Kd.N_lower ho20 (bz_ (b_ HB)));replace a3:=mk0 (Kd.V_elder' (v_ a3) (Kd.N_base ho20) hb);replace dr:=mk0 (Kd.N_elder' (nn_ dr) (Kd.N_base ho20) hb);replace ad:=mk0 (u_ ad hb);replace HB:=mk0 (bt_ (b_ HB) hb);have jM:=ny2_;clear ny2_ hb ho20;obtain ⟨bO,bP,bQ,bR,bS,bT,bp,bq,br,bs,bu,bv⟩:=c6_ ad)|((with_reducible refine gate_builtin (b:=.append) (xs:=#[.tmp 37,.tmp 39]) rfl ?_);(try (refine gate_guard (by rfl) ?_;dsimp only));at_builtin;refine Kd.N_append_rows k34 (w0:=w) w.heap.size rfl (.tmp 37) (.tmp 39) 23 34 (.agg #[(.slice none 0 0),(.slice none 0 0)]) 48 rfl Tryz.underlying23 info34 rfl (by decide) (by omega) m5 ih ax _ _ _ (fun k_=>(P0_1_ k_∨w.heap.size≤k_)∧some k_≠(a2:Value).ownBlock∧k_≠ag) (fun k_=>((fun k_=>(P0_1_ k_∨w.heap.size≤k_)∧some k_≠(a2:Value).ownBlock∧k_≠ag)) k_∧some k_≠(m5:Value).ownBlock) rfl rfl ?aO ?aR (fun _ hk=>hk) ?aF ?aB ?aS ?aL ?_;(case aR=>exact (by skip;exact Kd.V_F (Kd.V_mono (ok':=(fun k_=>((fun k_=>(P0_1_ k_∨w.heap.size≤k_)∧some k_≠(a2:Value).ownBlock∧k_≠ag)) k_∧some k_≠(m5:Value).ownBlock)) (a3.out) (fun k_ hk=>⟨⟨hk.1.1.1,⟨hk.1.2,hk.1.1.2⟩⟩,hk.2⟩))));(case aB=>exact (b_ HB));(case aF=>exact (fun k_ hk=>⟨(.inr (Nat.le_trans (bz_ (b_ HB)) hk)),Kd.fresh' (Kd.N_lt (nn_ dr)) k_ hk,Kd.freshB (g:=ag) (o:=.cells #[.slice A0_0 aH.length c0_0,.slice A0_1 ax.length c0_1,.slice A0_2 aK.length c0_2,.slice A0_3 aG.length c0_3,.slice A0_4 ay.length c0_4,.slice A0_5 aI.length c0_5] 28 (0,0)) (h_ ad) k_ hk⟩));(case aO=>exact (nn_ jM));(case aS=>exact (bz_ (b_ HB)));(case aL=>have:=LMc9.out;omega);intro a8 pf ho hb hg hat;rw [← od.out] at ho;replace a3:=mk0 (Kd.V_afterv (ok:=(fun k_=>(P0_1_ k_∨w.heap.size≤k_)∧some k_≠(a2:Value).ownBlock∧k_≠ag)) (v2_ (Kd.V_mono a3.out (fun _ hk=>⟨⟨hk.1.1.1,⟨hk.1.2,hk.1.1.2⟩⟩,hk.2⟩))) hg hat);replace ad:=mk0 (blk_grown (g:=ag) (o:=.cells #[.slice A0_0 aH.length c0_0,.slice A0_1 ax.length c0_1,.slice A0_2 aK.length c0_2,.slice A0_3 aG.length c0_3,.slice A0_4 ay.length c0_4,.slice A0_5 aI.length c0_5] 28 (0,0)) (h_ ad) hg (Kd.N_ne jM.out ad.out (by decide)));replace dr:=mk0 (Kd.N_afterv (ok:=(fun k_=>(P0_1_ k_∨w.heap.size≤k_)∧k_≠ag)) (nn_ dr) hg hat);replace HB:=mk0 (hb);have fS:=mk0 (ho);clear jM;clear ho hb hg hat)|((with_reducible refine gate_dst (N:=41) rfl ?_);(try (refine gate_guard (by rfl) ?_;dsimp only));refine Kd.R_lit (Kd.int .i64) _ 3 ?hg (N:=41) ?hd (xs:=([0,1,(-1)]:List Int)) (inner:=[.int .i64 0,.int .i64 1,.int .i64 (-1)]) (ok:=fun _=>True) (okp:=fun _=>True) ?hr ?hp (fun _ hk=>hk) trivial (Below.refl _ _) (Nat.le_refl _) (by simp) ?_;(case hd=>rfl);(case hg=>rfl);(case hr=>first|(go_simp;done)|(go_simp;rfl));(case hp=>exact (Reps.one (show Kd.M (Kd.int .i64) _ _ _ 0 [.int .i64 0] from rfl) (Reps.one (show Kd.M (Kd.int .i64) _ _ _ 1 [.int .i64 1] from rfl) (Reps.one (show Kd.M (Kd.int .i64) _ _ _ (-1) [.int .i64 (-1)] from rfl) (Reps.none _ _)))));intro ol pg ho24 hb hg_ hnew_;clear hg_ hnew_;(first|rw [← m3.out] at ho24|(simp only [Int.reduceToNat] at ho24;rw [← m3.out] at ho24));have a9:=mk0 (Kd.R_lower (Kd.R_newM (M:=fun k_=>(w.heap.size≤k_)) ho24 (bz_ (b_ HB)) (fun k_ h_=>h_)) (bz_ (b_ HB)));replace a3:=mk0 (Kd.V_elder' (v_ a3) (Kd.R_base ho24) hb);replace dr:=mk0 (Kd.N_elder' (nn_ dr) (Kd.R_base ho24) hb);replace fS:=mk0 (Kd.N_elder' (nn_ fS) (Kd.R_base ho24) hb);replace ad:=mk0 (u_ ad hb);replace HB:=mk0 (bt_ (b_ HB) hb);have jN:=a9;clear a9 hb ho24;obtain ⟨bU,bV,bW,bX,bY,bZ,bw,bx,bz,bA,bB,bC⟩:=c6_ ad)|((with_reducible refine gate_builtin (b:=.append) (xs:=#[.tmp 41,.tmp 43]) rfl ?_);(try (refine gate_guard (by rfl) ?_;dsimp only));at_builtin;refine Kd.R_append_rows (Kd.int .i64) (w0:=w) w.heap.size rfl (.tmp 41) (.tmp 43) 24 3 (.int .i64 0) 8 rfl Tryz.underlying24 info3 rfl (by decide) (by omega) ol fR aK _ _ _ (fun k_=>(w.heap.size≤k_)) (fun _=>False) rfl rfl ?aO ?aR (fun _ _ h=>h) (fun _ h=>h.elim) ?aF ?aB ?aS ?aL ?_;(case aR=>repeat (first|exact (Kd.C_below jK.out HB.out)|(with_reducible refine Kd.C_alloc ?_ _)|(with_reducible refine Kd.C_drewN ?_ _)|(with_reducible refine Kd.C_drew ?_)));(case aB=>exact (b_ HB));(case aF=>exact (fun k_ hk=>(Nat.le_trans (bz_ (b_ HB)) hk)));(case aO=>exact (r2_ (Kd.R_mono jN.out (fun _ hk=>hk.1))));(case aS=>exact (bz_ (b_ HB)));(case aL=>have:=LMc10.out;omega);intro a0 ph ho hb hg hat;rw [← oe.out] at ho;replace a3:=mk0 (Kd.V_afterv (ok:=(fun k_=>(P0_1_ k_∨w.heap.size≤k_)∧some k_≠(a2:Value).ownBlock∧some k_≠(a8:Value).ownBlock∧k_≠ag)) (v2_ (Kd.V_mono a3.out (fun _ hk=>⟨⟨hk.1.1.1,⟨hk.1.1.2.1,⟨hk.1.2,hk.1.1.2.2⟩⟩⟩,hk.2⟩))) hg hat);replace ad:=mk0 (blk_grown (g:=ag) (o:=.cells #[.slice A0_0 aH.length c0_0,.slice A0_1 ax.length c0_1,.slice A0_2 aK.length c0_2,.slice A0_3 aG.length c0_3,.slice A0_4 ay.length c0_4,.slice A0_5 aI.length c0_5] 28 (0,0)) (h_ ad) hg (Kd.R_ne jN.out ad.out (by decide)));replace dr:=mk0 (Kd.N_afterv (ok:=(fun k_=>(P0_1_ k_∨w.heap.size≤k_)∧some k_≠(a8:Value).ownBlock∧k_≠ag)) (n2_ (Kd.N_mono dr.out (fun _ hk=>⟨⟨hk.1.1.1,⟨hk.1.2,hk.1.1.2⟩⟩,hk.2⟩))) hg hat);replace fS:=mk0 (Kd.N_afterv (ok:=(fun k_=>(P0_1_ k_∨w.heap.size≤k_)∧some k_≠(a2:Value).ownBlock∧k_≠ag)) (nn_ fS) hg hat);replace HB:=mk0 (hb);have gM:=mk0 (ho);clear jN;clear ho hb hg hat)|((with_reducible refine gate_dst (N:=45) rfl ?_);(try (refine gate_guard (by rfl) ?_;dsimp only));refine Kd.R_lit (Kd.int .i64) _ 3 ?hg (N:=45) ?hd (xs:=([0,3]:List Int)) (inner:=[.int .i64 0,.int .i64 3]) (ok:=fun _=>True) (okp:=fun _=>True) ?hr ?hp (fun _ hk=>hk) trivial (Below.refl _ _) (Nat.le_refl _) (by simp) ?_;(case hd=>rfl);(case hg=>rfl);(case hr=>first|(go_simp;done)|(go_simp;rfl));(case hp=>exact (Reps.one (show Kd.M (Kd.int .i64) _ _ _ 0 [.int .i64 0] from rfl) (Reps.one (show Kd.M (Kd.int .i64) _ _ _ 3 [.int .i64 3] from rfl) (Reps.none _ _))));intro om pi ho28 hb hg_ hnew_;clear hg_ hnew_;(first|rw [← m4.out] at ho28|(simp only [Int.reduceToNat] at ho28;rw [← m4.out] at ho28));have d7:=mk0 (Kd.R_lower (Kd.R_new' (Kd.R_newM (M:=fun k_=>(w.heap.size≤k_)) ho28 (bz_ (b_ HB)) (fun k_ h_=>h_)) (Kd.R_lt (r_ gM))) (bz_ (b_ HB)));replace a3:=mk0 (Kd.V_elder' (v_ a3) (Kd.R_base ho28) hb);replace dr:=mk0 (Kd.N_elder' (nn_ dr) (Kd.R_base ho28) hb);replace fS:=mk0 (Kd.N_elder' (nn_ fS) (Kd.R_base ho28) hb);replace gM:=mk0 (Kd.R_elder' (r_ gM) (Kd.R_base ho28) hb);replace ad:=mk0 (u_ ad hb);replace HB:=mk0 (bt_ (b_ HB) hb);have jO:=d7;clear d7 hb ho28;obtain ⟨ca,cb,cc,cd,ce,cf,bD,bE,bF,bG,bH,bI⟩:=c6_ ad)|((with_reducible refine gate_builtin (b:=.append) (xs:=#[.tmp 45,.tmp 47]) rfl ?_);(try (refine gate_guard (by rfl) ?_;dsimp only));at_builtin;refine Kd.R_append_rows (Kd.int .i64) (w0:=w) w.heap.size rfl (.tmp 45) (.tmp 47) 24 3 (.int .i64 0) 8 rfl Tryz.underlying24 info3 rfl (by decide) (by omega) om eb aI _ _ _ (fun k_=>(w.heap.size≤k_)∧some k_≠(a0:Value).ownBlock) (fun _=>False) rfl rfl ?aO ?aR (fun _ _ h=>h) (fun _ h=>h.elim) ?aF ?aB ?aS ?aL ?_;(case aR=>repeat (first|exact (Kd.C_below jL.out HB.out)|(with_reducible refine Kd.C_alloc ?_ _)|(with_reducible refine Kd.C_drewN ?_ _)|(with_reducible refine Kd.C_drew ?_)));(case aB=>exact (b_ HB));(case aF=>exact (fun k_ hk=>⟨(Nat.le_trans (bz_ (b_ HB)) hk),Kd.fresh' (Kd.R_lt (r_ gM)) k_ hk⟩));(case aO=>exact (r2_ (Kd.R_mono jO.out (fun _ hk=>⟨hk.1.1,hk.2⟩))));(case aS=>exact (bz_ (b_ HB)));(case aL=>have:=LMc11.out;omega);intro a1 pj ho hb hg hat;rw [← og.out] at ho;replace a3:=mk0 (Kd.V_afterv (ok:=(fun k_=>(P0_1_ k_∨w.heap.size≤k_)∧some k_≠(a2:Value).ownBlock∧some k_≠(a8:Value).ownBlock∧some k_≠(a0:Value).ownBlock∧k_≠ag)) (v2_ (Kd.V_mono a3.out (fun _ hk=>⟨⟨hk.1.1.1,⟨hk.1.1.2.1,⟨hk.1.1.2.2.1,⟨hk.1.2,hk.1.1.2.2.2⟩⟩⟩⟩,hk.2⟩))) hg hat);replace ad:=mk0 (blk_grown (g:=ag) (o:=.cells #[.slice A0_0 aH.length c0_0,.slice A0_1 ax.length c0_1,.slice A0_2 aK.length c0_2,.slice A0_3 aG.length c0_3,.slice A0_4 ay.length c0_4,.slice A0_5 aI.length c0_5] 28 (0,0)) (h_ ad) hg (Kd.R_ne jO.out ad.out (by decide)));replace dr:=mk0 (Kd.N_afterv (ok:=(fun k_=>(P0_1_ k_∨w.heap.size≤k_)∧some k_≠(a8:Value).ownBlock∧some k_≠(a0:Value).ownBlock∧k_≠ag)) (n2_ (Kd.N_mono dr.out (fun _ hk=>⟨⟨hk.1.1.1,⟨hk.1.1.2.1,⟨hk.1.2,hk.1.1.2.2⟩⟩⟩,hk.2⟩))) hg hat);replace fS:=mk0 (Kd.N_afterv (ok:=(fun k_=>(P0_1_ k_∨w.heap.size≤k_)∧some k_≠(a2:Value).ownBlock∧some k_≠(a0:Value).ownBlock∧k_≠ag)) (n2_ (Kd.N_mono fS.out (fun _ hk=>⟨⟨hk.1.1.1,⟨hk.1.1.2.1,⟨hk.1.2,hk.1.1.2.2⟩⟩⟩,hk.2⟩))) hg hat);replace gM:=mk0 (Kd.R_after (ok:=(fun k_=>(w.heap.size≤k_))) (r_ gM) hg hat);replace HB:=mk0 (hb);have kE:=mk0 (ho);clear jO;clear ho hb hg hat))
 go_loopg [8] k (fun kq v8 w'=>∃ (aC:Int),v8 = .int .i64 aC∧Fc (Fa.l0 kq aJ cG am ao az aC aH ax aK aG ay aI=some r)∧Fc (kq≤k)∧Fc (Kd.N k43 43 w' w.heap.size (fun k_=>(P0_1_ k_∨w.heap.size≤k_)∧some k_≠(a8:Value).ownBlock∧some k_≠(a0:Value).ownBlock∧some k_≠(a1:Value).ownBlock∧k_≠ag) a2 aJ)∧Fc (Kd.N k34 34 w' w.heap.size (fun k_=>(P0_1_ k_∨w.heap.size≤k_)∧some k_≠(a2:Value).ownBlock∧some k_≠(a0:Value).ownBlock∧some k_≠(a1:Value).ownBlock∧k_≠ag) a8 am)∧Fc (Kd.R (Kd.int .i64) 3 w' w.heap.size (fun k_=>(w.heap.size≤k_)∧some k_≠(a1:Value).ownBlock) a0 ao)∧Fc (Kd.R (Kd.int .i64) 3 w' w.heap.size (fun k_=>(w.heap.size≤k_)∧some k_≠(a0:Value).ownBlock) a1 az)∧Fc (Kd.V k34 34 w' w.heap.size (fun k_=>(P0_1_ k_∨w.heap.size≤k_)∧some k_≠(a2:Value).ownBlock∧some k_≠(a8:Value).ownBlock∧some k_≠(a0:Value).ownBlock∧some k_≠(a1:Value).ownBlock∧k_≠ag) (.slice A0_1 ax.length c0_1) ax)∧Fc (w'.heap[ag]? = some (.cells #[(.slice A0_0 aH.length c0_0),(.slice A0_1 ax.length c0_1),(.slice A0_2 aK.length c0_2),(.slice A0_3 aG.length c0_3),(.slice A0_4 ay.length c0_4),(.slice A0_5 aI.length c0_5)] 28 (0,0)))∧Fc (Below w.heap.size w w'))
 case atStart=>exact ⟨(0),sm_,H',⟨Nat.le_refl _⟩,⟨n2_ (Kd.N_mono dr.out (fun _ hk=>⟨hk.1.1,⟨hk.1.2.1,⟨hk.1.2.2.1,⟨hk.2,hk.1.2.2.2⟩⟩⟩⟩))⟩,⟨n2_ (Kd.N_mono fS.out (fun _ hk=>⟨hk.1.1,⟨hk.1.2.1,⟨hk.1.2.2.1,⟨hk.2,hk.1.2.2.2⟩⟩⟩⟩))⟩,⟨r2_ gM.out⟩,⟨r2_ kE.out⟩,⟨v2_ (Kd.V_mono a3.out (fun _ hk=>⟨hk.1.1,⟨hk.1.2.1,⟨hk.1.2.2.1,⟨hk.1.2.2.2.1,⟨hk.2,hk.1.2.2.2.2⟩⟩⟩⟩⟩))⟩,⟨h_ ad⟩,⟨b_ HB⟩⟩
 clear H'
 try clear c3
 try clear c9
 try clear a6
 try clear a7
 try clear dC dD dE dF dG dH aX aY aZ ba bb bc
 try clear dI dJ dK dL dM dN bd be bf bg bh bi
 try clear dO dP dQ dR dS dT bj bk bl bm bn bo
 try clear bO bP bQ bR bS bT bp bq br bs bu bv
 try clear bU bV bW bX bY bZ bw bx bz bA bB bC
 try clear ca cb cc cd ce cf bD bE bF bG bH bI
 obtain ⟨aC,rfl,HA,ea,av,ap,au,aw,aa,ad,HB⟩:=hrel
 cases gk with
 | zero=>exact absurd HA.out (by simp [Fa.l0])
 | succ k1=>
 have H:=HA.out
 clear HA
 simp only [Fa.l0] at H
 as_aux_lemma=>
 have HC31:=mk0 H
 clear H
 go_upto_region 9 with (fail)
 go_cut [56] (fun v56 wc=>∃ (kq:Nat) (hU:Bool),v56 = .bool hU∧Fc (Fa.j1 kq aJ cG am ao az aC hU aH ax aK aG ay aI=some r)∧Fc (kq≤k1)∧Fc (Kd.N k43 43 wc w.heap.size (fun k_=>(P0_1_ k_∨w.heap.size≤k_)∧some k_≠(a8:Value).ownBlock∧some k_≠(a0:Value).ownBlock∧some k_≠(a1:Value).ownBlock∧k_≠ag) a2 aJ)∧Fc (Kd.N k34 34 wc w.heap.size (fun k_=>(P0_1_ k_∨w.heap.size≤k_)∧some k_≠(a2:Value).ownBlock∧some k_≠(a0:Value).ownBlock∧some k_≠(a1:Value).ownBlock∧k_≠ag) a8 am)∧Fc (Kd.R (Kd.int .i64) 3 wc w.heap.size (fun k_=>(w.heap.size≤k_)∧some k_≠(a1:Value).ownBlock) a0 ao)∧Fc (Kd.R (Kd.int .i64) 3 wc w.heap.size (fun k_=>(w.heap.size≤k_)∧some k_≠(a0:Value).ownBlock) a1 az)∧Fc (Kd.V k34 34 wc w.heap.size (fun k_=>(P0_1_ k_∨w.heap.size≤k_)∧some k_≠(a2:Value).ownBlock∧some k_≠(a8:Value).ownBlock∧some k_≠(a0:Value).ownBlock∧some k_≠(a1:Value).ownBlock∧k_≠ag) (.slice A0_1 ax.length c0_1) ax)∧Fc (wc.heap[ag]? = some (.cells #[(.slice A0_0 aH.length c0_0),(.slice A0_1 ax.length c0_1),(.slice A0_2 aK.length c0_2),(.slice A0_3 aG.length c0_3),(.slice A0_4 ay.length c0_4),(.slice A0_5 aI.length c0_5)] 28 (0,0)))∧Fc (Below w.heap.size w wc))
 case first=>
  have H:=HC31.out
  clear HC31
  by_cases l9:aC<(am.length:Int)
  ·rw [if_pos l9] at H
   have eM:decide (aC<(am.length:Int))=true:=decide_eq_true l9
   clear l9
   (first|rw [eM]|(simp only [i64_w,i32_w];rw [eM])|skip)
   have H':=mk0 H
   clear H
   obtain ⟨nm,nn,lR⟩:=Kd.N_slice ap.out
   subst lR
   go_wp2
   go_meet
   case rel=>exact ⟨_,(decide (aC<4)),sm_,H',⟨by have:=ea.out;first|omega|exact Nat.le_refl _⟩,⟨n2_ av.out⟩,⟨n2_ ap.out⟩,⟨r2_ au.out⟩,⟨r2_ aw.out⟩,⟨v2_ aa.out⟩,⟨h_ ad⟩,⟨b_ HB⟩⟩
  rw [if_neg l9] at H
  have eM:decide (aC<(am.length:Int))=false:=decide_eq_false l9
  clear l9
  (first|rw [eM]|(simp only [i64_w,i32_w];rw [eM])|skip)
  have H':=mk0 H
  clear H
  obtain ⟨np,nq,lS⟩:=Kd.N_slice ap.out
  subst lS
  go_wp2
  go_meet
  case rel=>exact ⟨_,(false),sm_,H',⟨by have:=ea.out;first|omega|exact Nat.le_refl _⟩,⟨n2_ av.out⟩,⟨n2_ ap.out⟩,⟨r2_ au.out⟩,⟨r2_ aw.out⟩,⟨v2_ aa.out⟩,⟨h_ ad⟩,⟨b_ HB⟩⟩
 clear HC31
 try clear c3
 try clear c9
 try clear a6
 try clear a7
 try clear dC dD dE dF dG dH aX aY aZ ba bb bc
 try clear dI dJ dK dL dM dN bd be bf bg bh bi
 try clear dO dP dQ dR dS dT bj bk bl bm bn bo
 try clear bO bP bQ bR bS bT bp bq br bs bu bv
 try clear bU bV bW bX bY bZ bw bx bz bA bB bC
 try clear ca cb cc cd ce cf bD bE bF bG bH bI
 obtain ⟨kq,hU,rfl,HA,co,av,ap,au,aw,aa,ad,HB⟩:=hcut
 cases kq with
 | zero=>exact absurd HA.out (by simp [Fa.j1])
 | succ d4=>
 have H:=HA.out
 clear HA
 simp only [Fa.j1] at H
 as_aux_lemma=>
 by_cases nI:hU=true
 rotate_left
 ·replace nI:=Bool.eq_false_iff.mpr nI
  subst nI
  rw [if_neg nf_] at H
  replace H:=ob_ H
  obtain ⟨lT,n0,H⟩:=H
  try dsimp only at H
  by_cases g0:lT=true
  rotate_left
  ·replace g0:=Bool.eq_false_iff.mpr g0
   subst g0
   rw [if_neg nf_] at H
   obtain rfl:=Option.some.inj H
   obtain ⟨kF,kG,kH,kI,kJ,kK,kL,kM,kN,kO,kP,kQ⟩:=c6_ ad
   obtain ⟨kR,kS,kT⟩:=Kd.N_slice av.out
   subst kT
   go_wp2_with (first|((with_reducible refine gate_callee (f:=22) rfl ?_);refine gL_ (some 278) Tryz.func22 #[.slice kR aJ.length kS,.slice A0_0 aH.length c0_0] (h:=?_);(with_reducible refine (Fx.calls d4 _ _ aJ _ _ aH false _ ?side1 ?side2 ?side3 ?side4 n0.out).mono ?_);(case side1=>exact cn_ av);(case side2=>exact (Kd.N_reads' av.out).2.1);(case side3=>exact cb_ gL HB);(case side4=>exact hG.out);rintro e oP ⟨rfl,hb⟩;refine ⟨_,rfl,?_⟩;replace av:=mk0 (Kd.N_below (nn_ av) hb);replace ap:=mk0 (Kd.N_below (nn_ ap) hb);replace au:=mk0 (Kd.R_below (r_ au) hb);replace aw:=mk0 (Kd.R_below (r_ aw) hb);replace aa:=mk0 (Kd.V_below (v_ aa) hb);replace ad:=mk0 (u_ ad hb);replace HB:=mk0 (bt_ (b_ HB) hb);(try clear hb)))
   go_ret
   exact ⟨sa_,b_ HB⟩
  subst g0
  rw [if_pos rfl] at H
  replace H:=ob_ H
  obtain ⟨lU,oo,H⟩:=H
  try dsimp only at H
  obtain rfl:=Option.some.inj H
  obtain ⟨kU,kV,kW,kX,kY,kZ,la,lb,lc,ld,lf,lg⟩:=c6_ ad
  obtain ⟨lh,li,lj⟩:=Kd.N_slice av.out
  subst lj
  go_wp2_with (first|((with_reducible refine gate_callee (f:=22) rfl ?_);refine gL_ (some 278) Tryz.func22 #[.slice lh aJ.length li,.slice A0_0 aH.length c0_0] (h:=?_);(with_reducible refine (Fx.calls d4 _ _ aJ _ _ aH true _ ?side1 ?side2 ?side3 ?side4 n0.out).mono ?_);(case side1=>exact cn_ av);(case side2=>exact (Kd.N_reads' av.out).2.1);(case side3=>exact cb_ gL HB);(case side4=>exact hG.out);rintro e oQ ⟨rfl,hb⟩;refine ⟨_,rfl,?_⟩;replace av:=mk0 (Kd.N_below (nn_ av) hb);replace ap:=mk0 (Kd.N_below (nn_ ap) hb);replace au:=mk0 (Kd.R_below (r_ au) hb);replace aw:=mk0 (Kd.R_below (r_ aw) hb);replace aa:=mk0 (Kd.V_below (v_ aa) hb);replace ad:=mk0 (u_ ad hb);replace HB:=mk0 (bt_ (b_ HB) hb);(try clear hb))|(go_at_call 23;(with_reducible refine (Gk.calls d4  lU _ oo.out).mono ?_);rintro e oR ⟨rfl,hb⟩;replace av:=mk0 (Kd.N_below (nn_ av) hb);replace ap:=mk0 (Kd.N_below (nn_ ap) hb);replace au:=mk0 (Kd.R_below (r_ au) hb);replace aw:=mk0 (Kd.R_below (r_ aw) hb);replace aa:=mk0 (Kd.V_below (v_ aa) hb);replace ad:=mk0 (u_ ad hb);replace HB:=mk0 (bt_ (b_ HB) hb);(try clear hb)))
  go_ret
  exact ⟨sa_,b_ HB⟩
 subst nI
 rw [if_pos rfl] at H
 by_cases d1:0≤aC
 rotate_left
 ·rw [if_neg d1] at H
  exact absurd H (by simp)
 rw [if_pos d1] at H
 have hJ:decide (0≤aC)=true:=decide_eq_true d1
 clear d1
 by_cases d2:aC<(am.length:Int)
 rotate_left
 ·rw [if_neg d2] at H
  exact absurd H (by simp)
 rw [if_pos d2] at H
 have hL:decide (aC<(am.length:Int))=true:=decide_eq_true d2
 clear d2
 replace H:=ob_ H
 obtain ⟨⟨ai,af⟩,oJ,H⟩:=H
 try dsimp only at H
 have HC39:=mk0 H
 clear H
 obtain ⟨nr,aN,lV⟩:=Kd.N_slice ap.out
 subst lV
 have dy:0≤(aC:Int):=od_
 have dz:aC<(am.length:Int):=od_
 obtain ⟨aD,g1,nJ,g2,nK,lW,bJ,bK,je,jf,jg,jh⟩:=at_T34 (Kd.N_reads' ap.out).2.2 aC dy dz
 cases lW
 obtain ⟨ce518,hce518,hMe518,hcc518⟩:=Kd.N_get ap.out z34 aC dy (by first|exact dz|exact od_|(have e_:=(Kd.N_reads' ap.out).1;omega))
 obtain ⟨ua518_0,uc518_0,ua518_1,uc518_1,rfl,ul518_0,ge518_0,ul518_1,ge518_1⟩:=k34_openF hMe518
 have hv518_0:=hcc518 0 _ rfl
 rw [Nat.add_zero] at hv518_0
 replace hv518_0:=Option.some.inj (hv518_0.symm.trans bJ)
 injection hv518_0 with hva_ hvn_ hvc_
 rw [hva_] at ge518_0
 rw [hvc_] at ul518_0
 have HL518_0:=mk0 (show Kd.V k72 72 _ w.heap.size _ _ ((rd_T34 am aC).f0) from Kd.V_mk ul518_0 ge518_0)
 clear hva_ hvn_ hvc_ ge518_0 ul518_0
 have hv518_1:=hcc518 1 _ rfl
 rw [add_field _ _ 1 (by omega)] at hv518_1
 replace hv518_1:=Option.some.inj (hv518_1.symm.trans bK)
 injection hv518_1 with hva_ hvn_ hvc_
 rw [hva_] at ge518_1
 rw [hvc_] at ul518_1
 have HL518_1:=mk0 (show Kd.V (Kd.int .i64) 3 _ w.heap.size _ _ ((rd_T34 am aC).f1) from Kd.V_mk ul518_1 ge518_1)
 clear hva_ hvn_ hvc_ ge518_1 ul518_1 hcc518 hce518
 have cQ:=mk0 jf
 have ka:=mk0 je
 clear jf je
 have cR:=mk0 jh
 have kb:=mk0 jg
 clear jh jg
 replace dy:=eq_true dy
 replace dz:=eq_true dz
 go_upto_region 12 with (first|((with_reducible refine gate_callee (f:=7) rfl ?_);refine gL_ (some 63) Tryz.func7 #[.agg #[.slice g1 ((rd_T34 am aC).f0).length nJ,.slice g2 ((rd_T34 am aC).f1).length nK]] (h:=?_);(with_reducible refine (Gn.calls d4 _ _ ((rd_T34 am aC).f0) _ _ ((rd_T34 am aC).f1) ai af _ ?side1 ?side2 ?side3 ?side4 oJ.out).mono ?_);(case side1=>repeat (first|exact (by repeat (first|(with_reducible exact cQ.out)|(with_reducible refine Kd.C_alloc ?_ _)|(with_reducible refine Kd.C_drewN ?_ _)|(with_reducible refine Kd.C_drew ?_)|exact cQ.out))|(with_reducible refine Kd.C_alloc ?_ _)|(with_reducible refine Kd.C_drewN ?_ _)|(with_reducible refine Kd.C_drew ?_)));(case side2=>exact ka.out);(case side3=>repeat (first|exact (by repeat (first|(with_reducible exact cR.out)|(with_reducible refine Kd.C_alloc ?_ _)|(with_reducible refine Kd.C_drewN ?_ _)|(with_reducible refine Kd.C_drew ?_)|exact cR.out))|(with_reducible refine Kd.C_alloc ?_ _)|(with_reducible refine Kd.C_drewN ?_ _)|(with_reducible refine Kd.C_drew ?_)));(case side4=>exact kb.out);rintro e pk ⟨oS,oT,rfl,ho0,ho1,hb⟩;refine ⟨_,rfl,?_⟩;have d8:=mk0 (Kd.R_lower (Kd.R_newM (M:=fun k_=>(w.heap.size≤k_)) ho0 (bz_ (b_ HB)) (fun k_ h_=>h_)) (bz_ (b_ HB)));have b7:=mk0 (Kd.R_lower (Kd.R_new' (Kd.R_new' (Kd.R_newM (M:=fun k_=>(w.heap.size≤k_)) ho1 (bz_ (b_ HB)) (fun k_ h_=>h_)) (Kd.R_lt (r_ au))) (Kd.R_lt (r_ aw))) (bz_ (b_ HB)));replace av:=mk0 (Kd.N_mono (Kd.N_told (Kd.N_told (Kd.N_old (nn_ av) hb) (Kd.R_base ho0)) (Kd.R_base ho1)) (fun _ h_=>h_.1));replace ap:=mk0 (Kd.N_mono (Kd.N_told (Kd.N_told (Kd.N_old (nn_ ap) hb) (Kd.R_base ho0)) (Kd.R_base ho1)) (fun _ h_=>h_.1));replace au:=mk0 (Kd.R_elder' (r_ au) (Kd.R_base ho1) hb);replace aw:=mk0 (Kd.R_elder' (r_ aw) (Kd.R_base ho1) hb);replace aa:=mk0 (Kd.V_mono (Kd.V_told (Kd.V_told (Kd.V_old (v_ aa) hb) (Kd.R_base ho0)) (Kd.R_base ho1)) (fun _ h_=>h_.1));replace HL518_0:=mk0 (Kd.V_mono (Kd.V_told (Kd.V_told (Kd.V_old (v_ HL518_0) hb) (Kd.R_base ho0)) (Kd.R_base ho1)) (fun _ h_=>h_.1));replace HL518_1:=mk0 (Kd.V_mono (Kd.V_told (Kd.V_told (Kd.V_old (v_ HL518_1) hb) (Kd.R_base ho0)) (Kd.R_base ho1)) (fun _ h_=>h_.1));replace ad:=mk0 (u_ ad hb);replace cQ:=mk0 (Kd.C_below (by (with_reducible repeat (first|refine Kd.C_drewN ?_ _|refine Kd.C_drew ?_|refine Kd.C_alloc ?_ _));exact cQ.out) hb);replace cR:=mk0 (Kd.C_below (by (with_reducible repeat (first|refine Kd.C_drewN ?_ _|refine Kd.C_drew ?_|refine Kd.C_alloc ?_ _));exact cR.out) hb);replace HB:=mk0 (bt_ (b_ HB) hb);have gs:=d8;have gu:=b7;clear d8 b7;(try clear hb);(try clear ho0);(try clear ho1))|((with_reducible refine gate_dst (N:=9) rfl ?_);(try (refine gate_guard (by rfl) ?_;dsimp only));refine bx_ (N:=9) (cs:=#[.slice none 0 0,.slice none 0 0]) (t:=34) (h:=?_);intro ae hg pl hbox hb;have n1:=mk0 (gz_ HB hg);have d9:=mk0 (gz_ HB hg);have e0:=mk0 (ne1_ ad hg);have n2:=mk0 (ne2_ ad hg);replace av:=mk0 (Kd.N_below (Kd.N_elderB (nn_ av) ae (Nat.le_of_eq hg.symm)) hb);replace ap:=mk0 (Kd.N_below (Kd.N_elderB (nn_ ap) ae (Nat.le_of_eq hg.symm)) hb);replace au:=mk0 (Kd.R_below (r_ au) hb);replace aw:=mk0 (Kd.R_below (r_ aw) hb);replace aa:=mk0 (Kd.V_below (Kd.V_elderB (v_ aa) ae (Nat.le_of_eq hg.symm)) hb);replace HL518_0:=mk0 (Kd.V_below (Kd.V_elderB (v_ HL518_0) ae (Nat.le_of_eq hg.symm)) hb);replace HL518_1:=mk0 (Kd.V_below (Kd.V_elderB (v_ HL518_1) ae (Nat.le_of_eq hg.symm)) hb);replace gs:=mk0 (Kd.R_below (r_ gs) hb);replace gu:=mk0 (Kd.R_below (r_ gu) hb);replace ad:=mk0 (u_ ad hb);replace cQ:=mk0 (Kd.C_below (by (with_reducible repeat (first|refine Kd.C_drewN ?_ _|refine Kd.C_drew ?_|refine Kd.C_alloc ?_ _));exact cQ.out) hb);replace cR:=mk0 (Kd.C_below (by (with_reducible repeat (first|refine Kd.C_drewN ?_ _|refine Kd.C_drew ?_|refine Kd.C_alloc ?_ _));exact cR.out) hb);replace HB:=mk0 (bt_ (b_ HB) hb);have ah:=mk0 (hbox);have mS:=n1;have lk:=d9;have aU:=e0;have cn:=n2;clear n1 d9 e0 n2 hb hbox hg;obtain ⟨aq,ar,lX⟩:=Kd.R_slice gs.out;subst lX;have mT:=cn.out;have mU:=aU.out;obtain ⟨cp,cq,bL,bM⟩:=c2_ ah;obtain ⟨ak,al,lY⟩:=Kd.R_slice gu.out;subst lY))
 (try simp only [Act.put,List.setIfInBounds_toArray,List.set_cons_zero,List.set_cons_succ])
 go_cut [10] (fun v10 wc=>∃ (kq:Nat) (aV:Bool),v10 = .bool aV∧Fc (Fa.j2 kq aJ cG am ao az aC aV aH ax aK aG ay aI ai af=some r)∧Fc (kq≤d4)∧Fc (Kd.N k43 43 wc w.heap.size (fun k_=>(P0_1_ k_∨w.heap.size≤k_)∧some k_≠((.slice (some aD) am.length aN):Value).ownBlock∧some k_≠(a0:Value).ownBlock∧some k_≠(a1:Value).ownBlock∧some k_≠((.slice aq ai.length ar):Value).ownBlock∧some k_≠((.slice ak af.length al):Value).ownBlock∧k_≠ag∧k_≠ae) a2 aJ)∧Fc (Kd.N k34 34 wc w.heap.size (fun k_=>(P0_1_ k_∨w.heap.size≤k_)∧some k_≠(a2:Value).ownBlock∧some k_≠(a0:Value).ownBlock∧some k_≠(a1:Value).ownBlock∧some k_≠((.slice aq ai.length ar):Value).ownBlock∧some k_≠((.slice ak af.length al):Value).ownBlock∧k_≠ag∧k_≠ae) (.slice (some aD) am.length aN) am)∧Fc (Kd.R (Kd.int .i64) 3 wc w.heap.size (fun k_=>(w.heap.size≤k_)∧some k_≠(a1:Value).ownBlock∧some k_≠((.slice ak af.length al):Value).ownBlock) a0 ao)∧Fc (Kd.R (Kd.int .i64) 3 wc w.heap.size (fun k_=>(w.heap.size≤k_)∧some k_≠(a0:Value).ownBlock∧some k_≠((.slice ak af.length al):Value).ownBlock) a1 az)∧Fc (Kd.V k34 34 wc w.heap.size (fun k_=>(P0_1_ k_∨w.heap.size≤k_)∧some k_≠(a2:Value).ownBlock∧some k_≠((.slice (some aD) am.length aN):Value).ownBlock∧some k_≠(a0:Value).ownBlock∧some k_≠(a1:Value).ownBlock∧some k_≠((.slice aq ai.length ar):Value).ownBlock∧some k_≠((.slice ak af.length al):Value).ownBlock∧k_≠ag∧k_≠ae) (.slice A0_1 ax.length c0_1) ax)∧Fc (Kd.R k72 72 wc w.heap.size (fun k_=>(w.heap.size≤k_)) (.slice aq ai.length ar) ai)∧Fc (Kd.R (Kd.int .i64) 3 wc w.heap.size (fun k_=>(w.heap.size≤k_)∧some k_≠(a0:Value).ownBlock∧some k_≠(a1:Value).ownBlock) (.slice ak af.length al) af)∧Fc (wc.heap[ag]? = some (.cells #[(.slice A0_0 aH.length c0_0),(.slice A0_1 ax.length c0_1),(.slice A0_2 aK.length c0_2),(.slice A0_3 aG.length c0_3),(.slice A0_4 ay.length c0_4),(.slice A0_5 aI.length c0_5)] 28 (0,0)))∧Fc (wc.heap[ae]? = some (.cells #[(.slice aq ai.length ar),(.slice ak af.length al)] 34 (0,0)))∧Fc (Kd.C k72 wc g1 ((rd_T34 am aC).f0).length ((rd_T34 am aC).f0))∧Fc (Kd.C (Kd.int .i64) wc g2 ((rd_T34 am aC).f1).length ((rd_T34 am aC).f1))∧Fc (Below w.heap.size w wc))
 case first=>
  have H:=HC39.out
  clear HC39
  by_cases nL:cG=true
  rotate_left
  ·replace nL:=Bool.eq_false_iff.mpr nL
   subst nL
   rw [if_neg nf_] at H
   have H':=mk0 H
   clear H
   go_wp2
   go_meet
   case rel=>exact ⟨_,(false),sm_,H',⟨by have:=ea.out;have:=co.out;first|omega|exact Nat.le_refl _⟩,⟨by (with_reducible repeat (first|apply Kd.N_alloc|apply Kd.N_drewN|apply Kd.N_drew));exact Kd.N_mono (Kd.N_far (p:=⟨ae,1,none⟩) (Kd.N_far (p:=⟨ae,0,none⟩) (Kd.N_mono av.out (fun k_ hk=>(⟨hk,hk.2⟩:_∧k_≠ae))) (fun _ hk=>hk.2) (.slice aq ai.length ar)) (fun _ hk=>hk.2) (.slice ak af.length al)) (fun _ hk=>⟨hk.1.1.1.1.1,⟨hk.1.1.1.1.2.1,⟨hk.1.1.1.1.2.2.1,⟨hk.1.1.1.1.2.2.2.1,⟨hk.1.1.1.2,⟨hk.1.1.2,⟨hk.1.1.1.1.2.2.2.2,hk.1.2⟩⟩⟩⟩⟩⟩⟩)⟩,⟨by (with_reducible repeat (first|apply Kd.N_alloc|apply Kd.N_drewN|apply Kd.N_drew));exact Kd.N_mono (Kd.N_far (p:=⟨ae,1,none⟩) (Kd.N_far (p:=⟨ae,0,none⟩) (Kd.N_mono ap.out (fun k_ hk=>(⟨hk,hk.2⟩:_∧k_≠ae))) (fun _ hk=>hk.2) (.slice aq ai.length ar)) (fun _ hk=>hk.2) (.slice ak af.length al)) (fun _ hk=>⟨hk.1.1.1.1.1,⟨hk.1.1.1.1.2.1,⟨hk.1.1.1.1.2.2.1,⟨hk.1.1.1.1.2.2.2.1,⟨hk.1.1.1.2,⟨hk.1.1.2,⟨hk.1.1.1.1.2.2.2.2,hk.1.2⟩⟩⟩⟩⟩⟩⟩)⟩,⟨by (with_reducible repeat (first|apply Ra_|apply Rn_|apply Rd_));exact Kd.R_mono (Kd.R_far (p:=⟨ae,1,none⟩) (Kd.R_far (p:=⟨ae,0,none⟩) (Kd.R_types au.out ah.out (by decide)) (fun _ hk=>hk.2) (.slice aq ai.length ar)) (fun _ hk=>hk.2) (.slice ak af.length al)) (fun _ hk=>⟨hk.1.1.1,⟨hk.1.1.2,hk.1.2⟩⟩)⟩,⟨by (with_reducible repeat (first|apply Ra_|apply Rn_|apply Rd_));exact Kd.R_mono (Kd.R_far (p:=⟨ae,1,none⟩) (Kd.R_far (p:=⟨ae,0,none⟩) (Kd.R_types aw.out ah.out (by decide)) (fun _ hk=>hk.2) (.slice aq ai.length ar)) (fun _ hk=>hk.2) (.slice ak af.length al)) (fun _ hk=>⟨hk.1.1.1,⟨hk.1.1.2,hk.1.2⟩⟩)⟩,⟨by (with_reducible repeat (first|apply Kd.V_alloc|apply Kd.V_drewN|apply Kd.V_drew));exact Kd.V_mono (Kd.V_far (p:=⟨ae,1,none⟩) (Kd.V_far (p:=⟨ae,0,none⟩) (Kd.V_mono aa.out (fun k_ hk=>(⟨hk,hk.2⟩:_∧k_≠ae))) (fun _ hk=>hk.2) (.slice aq ai.length ar)) (fun _ hk=>hk.2) (.slice ak af.length al)) (fun _ hk=>⟨hk.1.1.1.1.1,⟨hk.1.1.1.1.2.1,⟨hk.1.1.1.1.2.2.1,⟨hk.1.1.1.1.2.2.2.1,⟨hk.1.1.1.1.2.2.2.2.1,⟨hk.1.1.1.2,⟨hk.1.1.2,⟨hk.1.1.1.1.2.2.2.2.2,hk.1.2⟩⟩⟩⟩⟩⟩⟩⟩)⟩,⟨by (with_reducible repeat (first|apply Ra_|apply Rn_|apply Rd_));exact Kd.R_mono (Kd.R_far (p:=⟨ae,1,none⟩) (Kd.R_far (p:=⟨ae,0,none⟩) (Kd.R_types gs.out ah.out (by decide)) (fun _ hk=>hk.2) (.slice aq ai.length ar)) (fun _ hk=>hk.2) (.slice ak af.length al)) (fun _ hk=>hk.1.1)⟩,⟨by (with_reducible repeat (first|apply Ra_|apply Rn_|apply Rd_));exact Kd.R_mono (Kd.R_far (p:=⟨ae,1,none⟩) (Kd.R_far (p:=⟨ae,0,none⟩) (Kd.R_types gu.out ah.out (by decide)) (fun _ hk=>hk.2) (.slice aq ai.length ar)) (fun _ hk=>hk.2) (.slice ak af.length al)) (fun _ hk=>⟨hk.1.1.1.1,⟨hk.1.1.2,hk.1.2⟩⟩)⟩,⟨(fa_ (fa_ (h_ ad) aU.out) aU.out)⟩,⟨(pu_ (cs:=#[.slice aq ai.length ar,.slice none 0 0]) (pu_ (cs:=#[.slice none 0 0,.slice none 0 0]) (h_ ah)))⟩,⟨(Kd.V_reads' (v2_ (Kd.V_mono (Kd.V_far (p:=⟨ae,1,none⟩) (Kd.V_far (p:=⟨ae,0,none⟩) (Kd.V_mono HL518_0.out (fun k_ hk=>(⟨hk,hk.2⟩:_∧k_≠ae))) (fun _ hk=>hk.2) (.slice aq ai.length ar)) (fun _ hk=>hk.2) (.slice ak af.length al)) (fun _ h_=>h_.1)))).2.2⟩,⟨(Kd.V_reads' (v2_ (Kd.V_mono (Kd.V_far (p:=⟨ae,1,none⟩) (Kd.V_far (p:=⟨ae,0,none⟩) (Kd.V_mono HL518_1.out (fun k_ hk=>(⟨hk,hk.2⟩:_∧k_≠ae))) (fun _ hk=>hk.2) (.slice aq ai.length ar)) (fun _ hk=>hk.2) (.slice ak af.length al)) (fun _ h_=>h_.1)))).2.2⟩,⟨b_ HB⟩⟩
  subst nL
  rw [if_pos rfl] at H
  replace H:=ob_ H
  obtain ⟨ll,oK,H⟩:=H
  try dsimp only at H
  have H':=mk0 H
  clear H
  have dA:0≤(aC:Int):=od_
  have dB:aC<(am.length:Int):=od_
  obtain ⟨lm,oE,oF,oG,oH,lZ,aP,aQ,ji,jj,jk,jl⟩:=at_T34 (Kd.N_reads' ap.out).2.2 aC dA dB
  obtain rfl:aD=lm:=(by injection lZ)
  obtain ⟨ce526,hce526,hMe526,hcc526⟩:=Kd.N_get ap.out z34 aC dA (by first|exact dB|exact od_|(have e_:=(Kd.N_reads' ap.out).1;omega))
  obtain ⟨ua526_0,uc526_0,ua526_1,uc526_1,rfl,ul526_0,ge526_0,ul526_1,ge526_1⟩:=k34_openF hMe526
  have hv526_0:=hcc526 0 _ rfl
  rw [Nat.add_zero] at hv526_0
  replace hv526_0:=Option.some.inj (hv526_0.symm.trans aP)
  injection hv526_0 with hva_ hvn_ hvc_
  rw [hva_] at ge526_0
  rw [hvc_] at ul526_0
  have HL526_0:=mk0 (show Kd.V k72 72 _ w.heap.size _ _ ((rd_T34 am aC).f0) from Kd.V_mk ul526_0 ge526_0)
  clear hva_ hvn_ hvc_ ge526_0 ul526_0
  have hv526_1:=hcc526 1 _ rfl
  rw [add_field _ _ 1 (by omega)] at hv526_1
  replace hv526_1:=Option.some.inj (hv526_1.symm.trans aQ)
  injection hv526_1 with hva_ hvn_ hvc_
  rw [hva_] at ge526_1
  rw [hvc_] at ul526_1
  have HL526_1:=mk0 (show Kd.V (Kd.int .i64) 3 _ w.heap.size _ _ ((rd_T34 am aC).f1) from Kd.V_mk ul526_1 ge526_1)
  clear hva_ hvn_ hvc_ ge526_1 ul526_1 hcc526 hce526
  have es:aD.block≠ae:=(by first|exact Kd.own_blk (Kd.N_ne ap.out ah.out (by decide))|exact (ap.out.1 _ rfl).2|exact (ap.out.1 _ rfl).2.2|exact (ap.out.1 _ rfl).2.2.2)
  have et:aD.block≠ae:=(by first|exact Kd.own_blk (Kd.N_ne ap.out ah.out (by decide))|exact (ap.out.1 _ rfl).2|exact (ap.out.1 _ rfl).2.2|exact (ap.out.1 _ rfl).2.2.2)
  have jm:=mk0 jj
  have kc:=mk0 ji
  clear jj ji
  have jn:=mk0 jl
  have kd:=mk0 jk
  clear jl jk
  replace aP:=(cell_far (p:=⟨ae,0,none⟩) (by first|(rw [add_block];exact es)|(show (Addr.add _ _).block≠_;rw [add_block];exact es)|exact es) (.slice aq ai.length ar)).trans aP
  replace aQ:=(cell_far (p:=⟨ae,0,none⟩) (by first|(rw [add_block];exact es)|(show (Addr.add _ _).block≠_;rw [add_block];exact es)|exact es) (.slice aq ai.length ar)).trans aQ
  replace aP:=(cell_far (p:=⟨ae,1,none⟩) (by first|(rw [add_block];exact et)|(show (Addr.add _ _).block≠_;rw [add_block];exact et)|exact et) (.slice ak af.length al)).trans aP
  replace aQ:=(cell_far (p:=⟨ae,1,none⟩) (by first|(rw [add_block];exact et)|(show (Addr.add _ _).block≠_;rw [add_block];exact et)|exact et) (.slice ak af.length al)).trans aQ
  clear es et
  replace dA:=eq_true dA
  replace dB:=eq_true dB
  go_wp2_with (first|(go_at_call 8;(with_reducible refine (Fd.calls d4 _ _ ((rd_T34 am aC).f0) _ _ ((rd_T34 am aC).f1) ll _ ?side1 ?side2 ?side3 ?side4 oK.out).mono ?_);(case side1=>repeat (first|exact ((Kd.V_reads' (v2_ (Kd.V_mono (Kd.V_far (p:=⟨ae,1,none⟩) (Kd.V_far (p:=⟨ae,0,none⟩) (Kd.V_mono HL526_0.out (fun k_ hk=>(⟨hk,hk.1.2⟩:_∧k_≠ae))) (fun _ hk=>hk.2) (.slice aq ai.length ar)) (fun _ hk=>hk.2) (.slice ak af.length al)) (fun _ h_=>h_.1)))).2.2)|(with_reducible refine Kd.C_alloc ?_ _)|(with_reducible refine Kd.C_drewN ?_ _)|(with_reducible refine Kd.C_drew ?_)));(case side2=>exact kc.out);(case side3=>repeat (first|exact ((Kd.V_reads' (v2_ (Kd.V_mono (Kd.V_far (p:=⟨ae,1,none⟩) (Kd.V_far (p:=⟨ae,0,none⟩) (Kd.V_mono HL526_1.out (fun k_ hk=>(⟨hk,hk.1.2⟩:_∧k_≠ae))) (fun _ hk=>hk.2) (.slice aq ai.length ar)) (fun _ hk=>hk.2) (.slice ak af.length al)) (fun _ h_=>h_.1)))).2.2)|(with_reducible refine Kd.C_alloc ?_ _)|(with_reducible refine Kd.C_drewN ?_ _)|(with_reducible refine Kd.C_drew ?_)));(case side4=>exact kd.out);rintro e pm ⟨rfl,hb⟩;have ny2_:=mk0 (Kd.R_below (r2_ (Kd.R_mono (Kd.R_far (p:=⟨ae,1,none⟩) (Kd.R_far (p:=⟨ae,0,none⟩) (Kd.R_types au.out ah.out (by decide)) (fun _ hk=>hk.2) (.slice aq ai.length ar)) (fun _ hk=>hk.2) (.slice ak af.length al)) (fun _ h_=>h_.1))) hb);have a9:=mk0 (Kd.R_below (r2_ (Kd.R_mono (Kd.R_far (p:=⟨ae,1,none⟩) (Kd.R_far (p:=⟨ae,0,none⟩) (Kd.R_types aw.out ah.out (by decide)) (fun _ hk=>hk.2) (.slice aq ai.length ar)) (fun _ hk=>hk.2) (.slice ak af.length al)) (fun _ h_=>h_.1))) hb);have d8:=mk0 (Kd.R_below (r2_ (Kd.R_mono (Kd.R_far (p:=⟨ae,1,none⟩) (Kd.R_far (p:=⟨ae,0,none⟩) (Kd.R_types gs.out ah.out (by decide)) (fun _ hk=>hk.2) (.slice aq ai.length ar)) (fun _ hk=>hk.2) (.slice ak af.length al)) (fun _ h_=>h_.1))) hb);have b7:=mk0 (Kd.R_below (r2_ (Kd.R_mono (Kd.R_far (p:=⟨ae,1,none⟩) (Kd.R_far (p:=⟨ae,0,none⟩) (Kd.R_types gu.out ah.out (by decide)) (fun _ hk=>hk.2) (.slice aq ai.length ar)) (fun _ hk=>hk.2) (.slice ak af.length al)) (fun _ h_=>h_.1))) hb);have n3:=mk0 (Kd.C_below ((Kd.V_reads' (v2_ (Kd.V_mono (Kd.V_far (p:=⟨ae,1,none⟩) (Kd.V_far (p:=⟨ae,0,none⟩) (Kd.V_mono HL518_0.out (fun k_ hk=>(⟨hk,hk.2⟩:_∧k_≠ae))) (fun _ hk=>hk.2) (.slice aq ai.length ar)) (fun _ hk=>hk.2) (.slice ak af.length al)) (fun _ h_=>h_.1)))).2.2) hb);have n4:=mk0 (Kd.C_below ((Kd.V_reads' (v2_ (Kd.V_mono (Kd.V_far (p:=⟨ae,1,none⟩) (Kd.V_far (p:=⟨ae,0,none⟩) (Kd.V_mono HL518_1.out (fun k_ hk=>(⟨hk,hk.2⟩:_∧k_≠ae))) (fun _ hk=>hk.2) (.slice aq ai.length ar)) (fun _ hk=>hk.2) (.slice ak af.length al)) (fun _ h_=>h_.1)))).2.2) hb);have d9:=mk0 (Kd.C_below ((Kd.V_reads' (v2_ (Kd.V_mono (Kd.V_far (p:=⟨ae,1,none⟩) (Kd.V_far (p:=⟨ae,0,none⟩) (Kd.V_mono HL526_0.out (fun k_ hk=>(⟨hk,hk.1.2⟩:_∧k_≠ae))) (fun _ hk=>hk.2) (.slice aq ai.length ar)) (fun _ hk=>hk.2) (.slice ak af.length al)) (fun _ h_=>h_.1)))).2.2) hb);have e0:=mk0 (Kd.C_below ((Kd.V_reads' (v2_ (Kd.V_mono (Kd.V_far (p:=⟨ae,1,none⟩) (Kd.V_far (p:=⟨ae,0,none⟩) (Kd.V_mono HL526_1.out (fun k_ hk=>(⟨hk,hk.1.2⟩:_∧k_≠ae))) (fun _ hk=>hk.2) (.slice aq ai.length ar)) (fun _ hk=>hk.2) (.slice ak af.length al)) (fun _ h_=>h_.1)))).2.2) hb);replace av:=mk0 (Kd.N_below (n2_ (Kd.N_mono (Kd.N_far (p:=⟨ae,1,none⟩) (Kd.N_far (p:=⟨ae,0,none⟩) (Kd.N_mono av.out (fun k_ hk=>(⟨hk,hk.2⟩:_∧k_≠ae))) (fun _ hk=>hk.2) (.slice aq ai.length ar)) (fun _ hk=>hk.2) (.slice ak af.length al)) (fun _ h_=>h_.1))) hb);replace ap:=mk0 (Kd.N_below (n2_ (Kd.N_mono (Kd.N_far (p:=⟨ae,1,none⟩) (Kd.N_far (p:=⟨ae,0,none⟩) (Kd.N_mono ap.out (fun k_ hk=>(⟨hk,hk.2⟩:_∧k_≠ae))) (fun _ hk=>hk.2) (.slice aq ai.length ar)) (fun _ hk=>hk.2) (.slice ak af.length al)) (fun _ h_=>h_.1))) hb);replace aa:=mk0 (Kd.V_below (v2_ (Kd.V_mono (Kd.V_far (p:=⟨ae,1,none⟩) (Kd.V_far (p:=⟨ae,0,none⟩) (Kd.V_mono aa.out (fun k_ hk=>(⟨hk,hk.2⟩:_∧k_≠ae))) (fun _ hk=>hk.2) (.slice aq ai.length ar)) (fun _ hk=>hk.2) (.slice ak af.length al)) (fun _ h_=>h_.1))) hb);replace HL518_0:=mk0 (Kd.V_below (v2_ (Kd.V_mono (Kd.V_far (p:=⟨ae,1,none⟩) (Kd.V_far (p:=⟨ae,0,none⟩) (Kd.V_mono HL518_0.out (fun k_ hk=>(⟨hk,hk.2⟩:_∧k_≠ae))) (fun _ hk=>hk.2) (.slice aq ai.length ar)) (fun _ hk=>hk.2) (.slice ak af.length al)) (fun _ h_=>h_.1))) hb);replace HL518_1:=mk0 (Kd.V_below (v2_ (Kd.V_mono (Kd.V_far (p:=⟨ae,1,none⟩) (Kd.V_far (p:=⟨ae,0,none⟩) (Kd.V_mono HL518_1.out (fun k_ hk=>(⟨hk,hk.2⟩:_∧k_≠ae))) (fun _ hk=>hk.2) (.slice aq ai.length ar)) (fun _ hk=>hk.2) (.slice ak af.length al)) (fun _ h_=>h_.1))) hb);replace HL526_0:=mk0 (Kd.V_below (v2_ (Kd.V_mono (Kd.V_far (p:=⟨ae,1,none⟩) (Kd.V_far (p:=⟨ae,0,none⟩) (Kd.V_mono HL526_0.out (fun k_ hk=>(⟨hk,hk.1.2⟩:_∧k_≠ae))) (fun _ hk=>hk.2) (.slice aq ai.length ar)) (fun _ hk=>hk.2) (.slice ak af.length al)) (fun _ h_=>h_.1))) hb);replace HL526_1:=mk0 (Kd.V_below (v2_ (Kd.V_mono (Kd.V_far (p:=⟨ae,1,none⟩) (Kd.V_far (p:=⟨ae,0,none⟩) (Kd.V_mono HL526_1.out (fun k_ hk=>(⟨hk,hk.1.2⟩:_∧k_≠ae))) (fun _ hk=>hk.2) (.slice aq ai.length ar)) (fun _ hk=>hk.2) (.slice ak af.length al)) (fun _ h_=>h_.1))) hb);replace ad:=mk0 (blk_below (g:=ag) (o:=.cells #[.slice A0_0 aH.length c0_0,.slice A0_1 ax.length c0_1,.slice A0_2 aK.length c0_2,.slice A0_3 aG.length c0_3,.slice A0_4 ay.length c0_4,.slice A0_5 aI.length c0_5] 28 (0,0)) (fa_ (fa_ (h_ ad) aU.out) aU.out) hb);replace ah:=mk0 (blk_below (g:=ae) (o:=.cells #[.slice aq ai.length ar,.slice ak af.length al] 34 (0,0)) (pu_ (cs:=#[.slice aq ai.length ar,.slice none 0 0]) (pu_ (cs:=#[.slice none 0 0,.slice none 0 0]) (h_ ah))) hb);replace HB:=mk0 (bt_ (b_ HB) hb);clear au aw gs gu cQ cR jm jn;have au:=ny2_;have aw:=a9;have gs:=d8;have gu:=b7;have cQ:=n3;have cR:=n4;have jm:=d9;have jn:=e0;clear ny2_ a9 d8 b7 n3 n4 d9 e0;(try clear hb)))
  go_meet
  case rel=>exact ⟨_,(ll),sm_,H',⟨by have:=ea.out;have:=co.out;first|omega|exact Nat.le_refl _⟩,⟨n2_ (Kd.N_mono av.out (fun _ hk=>⟨hk.1.1.1.1,⟨hk.1.1.1.2.1,⟨hk.1.1.1.2.2.1,⟨hk.1.1.1.2.2.2.1,⟨hk.1.1.2,⟨hk.1.2,⟨hk.1.1.1.2.2.2.2,hk.2⟩⟩⟩⟩⟩⟩⟩))⟩,⟨n2_ (Kd.N_mono ap.out (fun _ hk=>⟨hk.1.1.1.1,⟨hk.1.1.1.2.1,⟨hk.1.1.1.2.2.1,⟨hk.1.1.1.2.2.2.1,⟨hk.1.1.2,⟨hk.1.2,⟨hk.1.1.1.2.2.2.2,hk.2⟩⟩⟩⟩⟩⟩⟩))⟩,⟨r2_ (Kd.R_mono au.out (fun _ hk=>⟨hk.1.1,⟨hk.1.2,hk.2⟩⟩))⟩,⟨r2_ (Kd.R_mono aw.out (fun _ hk=>⟨hk.1.1,⟨hk.1.2,hk.2⟩⟩))⟩,⟨v2_ (Kd.V_mono aa.out (fun _ hk=>⟨hk.1.1.1.1,⟨hk.1.1.1.2.1,⟨hk.1.1.1.2.2.1,⟨hk.1.1.1.2.2.2.1,⟨hk.1.1.1.2.2.2.2.1,⟨hk.1.1.2,⟨hk.1.2,⟨hk.1.1.1.2.2.2.2.2,hk.2⟩⟩⟩⟩⟩⟩⟩⟩))⟩,⟨rM_ gs⟩,⟨r2_ (Kd.R_mono gu.out (fun _ hk=>⟨hk.1.1.1,⟨hk.1.2,hk.2⟩⟩))⟩,⟨h_ ad⟩,⟨h_ ah⟩,⟨by repeat (first|(with_reducible exact cQ.out)|(with_reducible refine Kd.C_alloc ?_ _)|(with_reducible refine Kd.C_drewN ?_ _)|(with_reducible refine Kd.C_drew ?_)|exact cQ.out)⟩,⟨by repeat (first|(with_reducible exact cR.out)|(with_reducible refine Kd.C_alloc ?_ _)|(with_reducible refine Kd.C_drewN ?_ _)|(with_reducible refine Kd.C_drew ?_)|exact cR.out)⟩,⟨b_ HB⟩⟩
 clear HC39
 try clear c3
 try clear c9
 try clear a6
 try clear a7
 try clear d1
 try clear hJ
 try clear d2
 try clear hL
 try clear dC dD dE dF dG dH aX aY aZ ba bb bc
 try clear dI dJ dK dL dM dN bd be bf bg bh bi
 try clear dO dP dQ dR dS dT bj bk bl bm bn bo
 try clear bO bP bQ bR bS bT bp bq br bs bu bv
 try clear bU bV bW bX bY bZ bw bx bz bA bB bC
 try clear ca cb cc cd ce cf bD bE bF bG bH bI
 try clear cp cq bL bM
 try clear bJ bK
 try clear dy
 try clear dz
 obtain ⟨kq,aV,rfl,HA,cw,av,ap,au,aw,aa,ac,ab,ad,ah,cQ,cR,HB⟩:=hcut
 cases kq with
 | zero=>exact absurd HA.out (by simp [Fa.j2])
 | succ n5=>
 have H:=HA.out
 clear HA
 simp only [Fa.j2] at H
 as_aux_lemma=>
 have H':=mk0 H
 clear H
 go_wp2
 go_loopg [11] n5 (fun kq v11 w'=>∃ (an:Int),v11 = .int .i64 an∧Fc (Fa.l1 kq aJ cG am ao az aC aV an aH ax aK aG ay aI ai af=some r)∧Fc (kq≤n5)∧Fc (Kd.N k43 43 w' w.heap.size (fun k_=>(P0_1_ k_∨w.heap.size≤k_)∧some k_≠((.slice (some aD) am.length aN):Value).ownBlock∧some k_≠(a0:Value).ownBlock∧some k_≠(a1:Value).ownBlock∧some k_≠((.slice aq ai.length ar):Value).ownBlock∧some k_≠((.slice ak af.length al):Value).ownBlock∧k_≠ag∧k_≠ae) a2 aJ)∧Fc (Kd.N k34 34 w' w.heap.size (fun k_=>(P0_1_ k_∨w.heap.size≤k_)∧some k_≠(a2:Value).ownBlock∧some k_≠(a0:Value).ownBlock∧some k_≠(a1:Value).ownBlock∧some k_≠((.slice aq ai.length ar):Value).ownBlock∧some k_≠((.slice ak af.length al):Value).ownBlock∧k_≠ag∧k_≠ae) (.slice (some aD) am.length aN) am)∧Fc (Kd.R (Kd.int .i64) 3 w' w.heap.size (fun k_=>(w.heap.size≤k_)∧some k_≠(a1:Value).ownBlock∧some k_≠((.slice ak af.length al):Value).ownBlock) a0 ao)∧Fc (Kd.R (Kd.int .i64) 3 w' w.heap.size (fun k_=>(w.heap.size≤k_)∧some k_≠(a0:Value).ownBlock∧some k_≠((.slice ak af.length al):Value).ownBlock) a1 az)∧Fc (Kd.V k34 34 w' w.heap.size (fun k_=>(P0_1_ k_∨w.heap.size≤k_)∧some k_≠(a2:Value).ownBlock∧some k_≠((.slice (some aD) am.length aN):Value).ownBlock∧some k_≠(a0:Value).ownBlock∧some k_≠(a1:Value).ownBlock∧some k_≠((.slice aq ai.length ar):Value).ownBlock∧some k_≠((.slice ak af.length al):Value).ownBlock∧k_≠ag∧k_≠ae) (.slice A0_1 ax.length c0_1) ax)∧Fc (Kd.R k72 72 w' w.heap.size (fun k_=>(w.heap.size≤k_)) (.slice aq ai.length ar) ai)∧Fc (Kd.R (Kd.int .i64) 3 w' w.heap.size (fun k_=>(w.heap.size≤k_)∧some k_≠(a0:Value).ownBlock∧some k_≠(a1:Value).ownBlock) (.slice ak af.length al) af)∧Fc (w'.heap[ag]? = some (.cells #[(.slice A0_0 aH.length c0_0),(.slice A0_1 ax.length c0_1),(.slice A0_2 aK.length c0_2),(.slice A0_3 aG.length c0_3),(.slice A0_4 ay.length c0_4),(.slice A0_5 aI.length c0_5)] 28 (0,0)))∧Fc (w'.heap[ae]? = some (.cells #[(.slice aq ai.length ar),(.slice ak af.length al)] 34 (0,0)))∧Fc (Below w.heap.size w w'))
 case atStart=>exact ⟨(0),sm_,H',⟨Nat.le_refl _⟩,⟨n2_ av.out⟩,⟨n2_ ap.out⟩,⟨r2_ au.out⟩,⟨r2_ aw.out⟩,⟨v2_ aa.out⟩,⟨r2_ ac.out⟩,⟨r2_ ab.out⟩,⟨h_ ad⟩,⟨h_ ah⟩,⟨b_ HB⟩⟩
 clear H'
 try clear c3
 try clear c9
 try clear a6
 try clear a7
 try clear d1
 try clear hJ
 try clear d2
 try clear hL
 try clear dC dD dE dF dG dH aX aY aZ ba bb bc
 try clear dI dJ dK dL dM dN bd be bf bg bh bi
 try clear dO dP dQ dR dS dT bj bk bl bm bn bo
 try clear bO bP bQ bR bS bT bp bq br bs bu bv
 try clear bU bV bW bX bY bZ bw bx bz bA bB bC
 try clear ca cb cc cd ce cf bD bE bF bG bH bI
 try clear cp cq bL bM
 try clear bJ bK
 try clear dy
 try clear dz
 obtain ⟨an,rfl,HA,eN,av,ap,au,aw,aa,ac,ab,ad,ah,HB⟩:=hrel
 cases gk with
 | zero=>exact absurd HA.out (by simp [Fa.l1])
 | succ k4=>
 have H:=HA.out
 clear HA
 simp only [Fa.l1] at H
 as_aux_lemma=>
 have HC50:=mk0 H
 clear H
 go_upto_region 14 with (fail)
 go_cut [79] (fun v79 wc=>∃ (kq:Nat) (hV:Bool),v79 = .bool hV∧Fc (Fa.j4 kq aJ cG am ao az aC aV an hV aH ax aK aG ay aI ai af=some r)∧Fc (kq≤k4)∧Fc (Kd.N k43 43 wc w.heap.size (fun k_=>(P0_1_ k_∨w.heap.size≤k_)∧some k_≠((.slice (some aD) am.length aN):Value).ownBlock∧some k_≠(a0:Value).ownBlock∧some k_≠(a1:Value).ownBlock∧some k_≠((.slice aq ai.length ar):Value).ownBlock∧some k_≠((.slice ak af.length al):Value).ownBlock∧k_≠ag∧k_≠ae) a2 aJ)∧Fc (Kd.N k34 34 wc w.heap.size (fun k_=>(P0_1_ k_∨w.heap.size≤k_)∧some k_≠(a2:Value).ownBlock∧some k_≠(a0:Value).ownBlock∧some k_≠(a1:Value).ownBlock∧some k_≠((.slice aq ai.length ar):Value).ownBlock∧some k_≠((.slice ak af.length al):Value).ownBlock∧k_≠ag∧k_≠ae) (.slice (some aD) am.length aN) am)∧Fc (Kd.R (Kd.int .i64) 3 wc w.heap.size (fun k_=>(w.heap.size≤k_)∧some k_≠(a1:Value).ownBlock∧some k_≠((.slice ak af.length al):Value).ownBlock) a0 ao)∧Fc (Kd.R (Kd.int .i64) 3 wc w.heap.size (fun k_=>(w.heap.size≤k_)∧some k_≠(a0:Value).ownBlock∧some k_≠((.slice ak af.length al):Value).ownBlock) a1 az)∧Fc (Kd.V k34 34 wc w.heap.size (fun k_=>(P0_1_ k_∨w.heap.size≤k_)∧some k_≠(a2:Value).ownBlock∧some k_≠((.slice (some aD) am.length aN):Value).ownBlock∧some k_≠(a0:Value).ownBlock∧some k_≠(a1:Value).ownBlock∧some k_≠((.slice aq ai.length ar):Value).ownBlock∧some k_≠((.slice ak af.length al):Value).ownBlock∧k_≠ag∧k_≠ae) (.slice A0_1 ax.length c0_1) ax)∧Fc (Kd.R k72 72 wc w.heap.size (fun k_=>(w.heap.size≤k_)) (.slice aq ai.length ar) ai)∧Fc (Kd.R (Kd.int .i64) 3 wc w.heap.size (fun k_=>(w.heap.size≤k_)∧some k_≠(a0:Value).ownBlock∧some k_≠(a1:Value).ownBlock) (.slice ak af.length al) af)∧Fc (wc.heap[ag]? = some (.cells #[(.slice A0_0 aH.length c0_0),(.slice A0_1 ax.length c0_1),(.slice A0_2 aK.length c0_2),(.slice A0_3 aG.length c0_3),(.slice A0_4 ay.length c0_4),(.slice A0_5 aI.length c0_5)] 28 (0,0)))∧Fc (wc.heap[ae]? = some (.cells #[(.slice aq ai.length ar),(.slice ak af.length al)] 34 (0,0)))∧Fc (Below w.heap.size w wc))
 case first=>
  have H:=HC50.out
  clear HC50
  by_cases mp:an<(ao.length:Int)
  ·rw [if_pos mp] at H
   have fT:decide (an<(ao.length:Int))=true:=decide_eq_true mp
   clear mp
   (first|rw [fT]|(simp only [i64_w,i32_w];rw [fT])|skip)
   have H':=mk0 H
   clear H
   obtain ⟨ns,nt,ma⟩:=Kd.R_slice au.out
   subst ma
   go_wp2
   go_meet
   case rel=>exact ⟨_,(decide (an<5)),sm_,H',⟨by have:=ea.out;have:=co.out;have:=cw.out;have:=eN.out;first|omega|exact Nat.le_refl _⟩,⟨n2_ av.out⟩,⟨n2_ ap.out⟩,⟨r2_ au.out⟩,⟨r2_ aw.out⟩,⟨v2_ aa.out⟩,⟨r2_ ac.out⟩,⟨r2_ ab.out⟩,⟨h_ ad⟩,⟨h_ ah⟩,⟨b_ HB⟩⟩
  rw [if_neg mp] at H
  have fT:decide (an<(ao.length:Int))=false:=decide_eq_false mp
  clear mp
  (first|rw [fT]|(simp only [i64_w,i32_w];rw [fT])|skip)
  have H':=mk0 H
  clear H
  obtain ⟨nu,nv,mb⟩:=Kd.R_slice au.out
  subst mb
  go_wp2
  go_meet
  case rel=>exact ⟨_,(false),sm_,H',⟨by have:=ea.out;have:=co.out;have:=cw.out;have:=eN.out;first|omega|exact Nat.le_refl _⟩,⟨n2_ av.out⟩,⟨n2_ ap.out⟩,⟨r2_ au.out⟩,⟨r2_ aw.out⟩,⟨v2_ aa.out⟩,⟨r2_ ac.out⟩,⟨r2_ ab.out⟩,⟨h_ ad⟩,⟨h_ ah⟩,⟨b_ HB⟩⟩
 clear HC50
 try clear c3
 try clear c9
 try clear a6
 try clear a7
 try clear d1
 try clear hJ
 try clear d2
 try clear hL
 try clear dC dD dE dF dG dH aX aY aZ ba bb bc
 try clear dI dJ dK dL dM dN bd be bf bg bh bi
 try clear dO dP dQ dR dS dT bj bk bl bm bn bo
 try clear bO bP bQ bR bS bT bp bq br bs bu bv
 try clear bU bV bW bX bY bZ bw bx bz bA bB bC
 try clear ca cb cc cd ce cf bD bE bF bG bH bI
 try clear cp cq bL bM
 try clear bJ bK
 try clear dy
 try clear dz
 obtain ⟨kq,hV,rfl,HA,cH,av,ap,au,aw,aa,ac,ab,ad,ah,HB⟩:=hcut
 cases kq with
 | zero=>exact absurd HA.out (by simp [Fa.j4])
 | succ e1=>
 have H:=HA.out
 clear HA
 simp only [Fa.j4] at H
 as_aux_lemma=>
 by_cases nM:hV=true
 rotate_left
 ·replace nM:=Bool.eq_false_iff.mpr nM
  subst nM
  rw [if_neg nf_] at H
  by_cases g3:0≤aC
  rotate_left
  ·rw [if_neg g3] at H
   exact absurd H (by simp)
  rw [if_pos g3] at H
  have mc:decide (0≤aC)=true:=decide_eq_true g3
  clear g3
  by_cases g4:aC<(am.length:Int)
  rotate_left
  ·rw [if_neg g4] at H
   exact absurd H (by simp)
  rw [if_pos g4] at H
  have md:decide (aC<(am.length:Int))=true:=decide_eq_true g4
  clear g4
  replace H:=ob_ H
  obtain ⟨me,n6,H⟩:=H
  try dsimp only at H
  by_cases g5:me=true
  rotate_left
  ·replace g5:=Bool.eq_false_iff.mpr g5
   subst g5
   rw [if_neg nf_] at H
   obtain rfl:=Option.some.inj H
   try go_wp2
   replace av:=mk0 (Kd.N_drew av.out)
   replace ap:=mk0 (Kd.N_drew ap.out)
   replace au:=mk0 (Rd_ au.out)
   replace aw:=mk0 (Rd_ aw.out)
   replace aa:=mk0 (Kd.V_drew aa.out)
   replace ac:=mk0 (Rd_ ac.out)
   replace ab:=mk0 (Rd_ ab.out)
   replace ad:=mk0 (bD_ ad.out)
   replace ah:=mk0 (bD_ ah.out)
   replace HB:=mk0 (b1_ HB.out)
   have hW:0≤(aC:Int):=od_
   have hX:aC<(am.length:Int):=od_
   obtain ⟨jP,b0,b1,b2,b3,ky,eu,ev,fU,fV,fW,fX⟩:=at_T34 (Kd.N_reads' ap.out).2.2 aC hW hX
   obtain rfl:aD=jP:=(by injection ky)
   obtain ⟨ce573,hce573,hMe573,hcc573⟩:=Kd.N_get ap.out z34 aC hW (by first|exact hX|exact od_|(have e_:=(Kd.N_reads' ap.out).1;omega))
   obtain ⟨ua573_0,uc573_0,ua573_1,uc573_1,rfl,ul573_0,ge573_0,ul573_1,ge573_1⟩:=k34_openF hMe573
   have hv573_0:=hcc573 0 _ rfl
   rw [Nat.add_zero] at hv573_0
   replace hv573_0:=Option.some.inj (hv573_0.symm.trans eu)
   injection hv573_0 with hva_ hvn_ hvc_
   rw [hva_] at ge573_0
   rw [hvc_] at ul573_0
   have HL573_0:=mk0 (show Kd.V k72 72 _ w.heap.size _ _ ((rd_T34 am aC).f0) from Kd.V_mk ul573_0 ge573_0)
   clear hva_ hvn_ hvc_ ge573_0 ul573_0
   have hv573_1:=hcc573 1 _ rfl
   rw [add_field _ _ 1 (by omega)] at hv573_1
   replace hv573_1:=Option.some.inj (hv573_1.symm.trans ev)
   injection hv573_1 with hva_ hvn_ hvc_
   rw [hva_] at ge573_1
   rw [hvc_] at ul573_1
   have HL573_1:=mk0 (show Kd.V (Kd.int .i64) 3 _ w.heap.size _ _ ((rd_T34 am aC).f1) from Kd.V_mk ul573_1 ge573_1)
   clear hva_ hvn_ hvc_ ge573_1 ul573_1 hcc573 hce573
   have cS:=mk0 fV
   have hY:=mk0 fU
   clear fV fU
   have cT:=mk0 fX
   have hZ:=mk0 fW
   clear fX fW
   replace hW:=eq_true hW
   replace hX:=eq_true hX
   refine start_ (n:=7) (S:=fun w'=>w'.cell? ⟨ae,0,none⟩=some (.slice aq ai.length ar)∧w'.cell? ⟨ae,1,none⟩=some (.slice ak af.length al)∧w'.cell? (aD.add ((aC).toNat * 2))=some (.slice b0 ((rd_T34 am aC).f0).length b1)∧w'.cell? ⟨(aD.add ((aC).toNat * 2)).block,(aD.add ((aC).toNat * 2)).off + 1,none⟩=some (.slice b2 ((rd_T34 am aC).f1).length b3)) (ds:=[]) (bt 7 0) (by kernel_rfl) rfl rfl ⟨bk_ ah 0,bk_ ah 1,eu,ev⟩ (fun hHeld=>?_)
   generalize wc.drew=oU at av ap au aw aa ac ab ad ah HB HL573_0 HL573_1 cS cT eu ev hHeld ⊢
   refine pure_ (i:=1) (N:=some 269) (bt 7 2) rfl rfl (by kernel_rfl) (fun _ _ _ h=>h) (Or.inl ⟨by rfl,by intro w';go_simp;with_reducible rfl⟩) (by simp only [z_];rfl) ?_
   refine pure_ (i:=2) (N:=some 270) (bt 7 6) rfl rfl (by kernel_rfl) (fun _ _ _ h=>h) (Or.inl ⟨by rfl,by intro w';go_simp;with_reducible rfl⟩) (by simp only [z_];rfl) ?_
   refine pure_ (i:=3) (N:=some 271) (bt 7 14) rfl rfl (by kernel_rfl) (fun _ _ _ h=>h) (Or.inl ⟨by rfl,by intro w';go_simp;with_reducible rfl⟩) (by simp only [z_];rfl) ?_
   refine take_ (i:=0) (N:=some 268) (bt 7 15) rfl rfl (by kernel_rfl) (fun _ _ _ h=>h) (Or.inl ⟨by rfl,by rintro w' ⟨s0,s1,s2,s3⟩;go_simp;with_reducible rfl⟩) hHeld (by simp only [z_];rfl) ?_
   refine take_ (i:=4) (N:=some 272) (bt 7 31) rfl rfl (by kernel_rfl) (fun _ _ _ h=>h) (Or.inl ⟨by rfl,by rintro w' ⟨s0,s1,s2,s3⟩;go_simp;with_reducible rfl⟩) hHeld (by simp only [z_];rfl) ?_
   refine one_ (i:=5) (N:=some 273) (bt 7 63) rfl rfl (by kernel_rfl) (by decide) (fun K hK=>?_)
   refine goes_ Tryz.func21 (by kernel_rfl) rfl #[.agg #[.slice aq ai.length ar,.slice ak af.length al],.agg #[.slice b0 ((rd_T34 am aC).f0).length b1,.slice b2 ((rd_T34 am aC).f1).length b3]] (by rfl) rfl rfl gs_ ?_
   with_reducible refine (Gf.calls e1 _ _ ai _ _ af _ _ ((rd_T34 am aC).f0) _ _ ((rd_T34 am aC).f1) false _ ?side1 ?side2 ?side3 ?side4 ?side5 ?side6 ?side7 ?side8 n6.out).mono ?_
   (case side1=>exact cr_ ac)
   (case side2=>exact (Kd.R_reads' ac.out).2.1)
   (case side3=>exact cr_ ab)
   (case side4=>exact (Kd.R_reads' ab.out).2.1)
   (case side5=>repeat (first|exact (by repeat (first|(with_reducible exact cS.out)|(with_reducible refine Kd.C_alloc ?_ _)|(with_reducible refine Kd.C_drewN ?_ _)|(with_reducible refine Kd.C_drew ?_)|exact cS.out))|(with_reducible refine Kd.C_alloc ?_ _)|(with_reducible refine Kd.C_drewN ?_ _)|(with_reducible refine Kd.C_drew ?_)))
   (case side6=>exact hY.out)
   (case side7=>repeat (first|exact (by repeat (first|(with_reducible exact cT.out)|(with_reducible refine Kd.C_alloc ?_ _)|(with_reducible refine Kd.C_drewN ?_ _)|(with_reducible refine Kd.C_drew ?_)|exact cT.out))|(with_reducible refine Kd.C_alloc ?_ _)|(with_reducible refine Kd.C_drewN ?_ _)|(with_reducible refine Kd.C_drew ?_)))
   (case side8=>exact hZ.out)
   rintro e oV ⟨rfl,hb⟩
   have HS2_:=(hb.cell (World.block_lt_of_cell? _ _ hHeld.2.2.1)).trans hHeld.2.2.1
   have HS3_:=(hb.cell (World.block_lt_of_cell? _ _ hHeld.2.2.2)).trans hHeld.2.2.2
   refine ⟨_,rfl,?_⟩
   replace av:=mk0 (Kd.N_below (nn_ av) hb)
   replace ap:=mk0 (Kd.N_below (nn_ ap) hb)
   replace au:=mk0 (Kd.R_below (r_ au) hb)
   replace aw:=mk0 (Kd.R_below (r_ aw) hb)
   replace aa:=mk0 (Kd.V_below (v_ aa) hb)
   replace ac:=mk0 (Kd.R_below (r_ ac) hb)
   replace ab:=mk0 (Kd.R_below (r_ ab) hb)
   replace HL573_0:=mk0 (Kd.V_below (v_ HL573_0) hb)
   replace HL573_1:=mk0 (Kd.V_below (v_ HL573_1) hb)
   replace ad:=mk0 (u_ ad hb)
   replace ah:=mk0 (u_ ah hb)
   replace cS:=mk0 (Kd.C_below (by (with_reducible repeat (first|refine Kd.C_drewN ?_ _|refine Kd.C_drew ?_|refine Kd.C_alloc ?_ _));exact cS.out) hb)
   replace cT:=mk0 (Kd.C_below (by (with_reducible repeat (first|refine Kd.C_drewN ?_ _|refine Kd.C_drew ?_|refine Kd.C_alloc ?_ _));exact cT.out) hb)
   replace HB:=mk0 (bt_ (b_ HB) hb)
   (try clear hb)
   (try clear hk)
   (try clear hi)
   refine hK.out _ _ ⟨bk_ ah 0,bk_ ah 1,HS2_,HS3_⟩ (fun hHeld=>?_)
   clear hK K
   refine norm_ (a':=?_) ?_ ?_
   rotate_left
   ·show Act.put _ (some 273) _=_
    simp only [z_]
    rfl
   refine pure_ (i:=6) (N:=some 274) (bt 7 127) rfl rfl (by kernel_rfl) (fun _ _ _ h=>h) (Or.inl ⟨by rfl,by intro w';go_simp;with_reducible rfl⟩) (by simp only [z_];rfl) ?_
   refine done_ (by kernel_rfl) ?_
   try go_wp2
   go_ret
   exact ⟨sa_,b_ HB⟩
  subst g5
  rw [if_pos rfl] at H
  have H':=mk0 H
  clear H
  try go_wp2
  replace av:=mk0 (Kd.N_drew av.out)
  replace ap:=mk0 (Kd.N_drew ap.out)
  replace au:=mk0 (Rd_ au.out)
  replace aw:=mk0 (Rd_ aw.out)
  replace aa:=mk0 (Kd.V_drew aa.out)
  replace ac:=mk0 (Rd_ ac.out)
  replace ab:=mk0 (Rd_ ab.out)
  replace ad:=mk0 (bD_ ad.out)
  replace ah:=mk0 (bD_ ah.out)
  replace HB:=mk0 (b1_ HB.out)
  have hW:0≤(aC:Int):=od_
  have hX:aC<(am.length:Int):=od_
  obtain ⟨jP,b0,b1,b2,b3,ky,eu,ev,fU,fV,fW,fX⟩:=at_T34 (Kd.N_reads' ap.out).2.2 aC hW hX
  obtain rfl:aD=jP:=(by injection ky)
  obtain ⟨ce573,hce573,hMe573,hcc573⟩:=Kd.N_get ap.out z34 aC hW (by first|exact hX|exact od_|(have e_:=(Kd.N_reads' ap.out).1;omega))
  obtain ⟨ua573_0,uc573_0,ua573_1,uc573_1,rfl,ul573_0,ge573_0,ul573_1,ge573_1⟩:=k34_openF hMe573
  have hv573_0:=hcc573 0 _ rfl
  rw [Nat.add_zero] at hv573_0
  replace hv573_0:=Option.some.inj (hv573_0.symm.trans eu)
  injection hv573_0 with hva_ hvn_ hvc_
  rw [hva_] at ge573_0
  rw [hvc_] at ul573_0
  have HL573_0:=mk0 (show Kd.V k72 72 _ w.heap.size _ _ ((rd_T34 am aC).f0) from Kd.V_mk ul573_0 ge573_0)
  clear hva_ hvn_ hvc_ ge573_0 ul573_0
  have hv573_1:=hcc573 1 _ rfl
  rw [add_field _ _ 1 (by omega)] at hv573_1
  replace hv573_1:=Option.some.inj (hv573_1.symm.trans ev)
  injection hv573_1 with hva_ hvn_ hvc_
  rw [hva_] at ge573_1
  rw [hvc_] at ul573_1
  have HL573_1:=mk0 (show Kd.V (Kd.int .i64) 3 _ w.heap.size _ _ ((rd_T34 am aC).f1) from Kd.V_mk ul573_1 ge573_1)
  clear hva_ hvn_ hvc_ ge573_1 ul573_1 hcc573 hce573
  have cS:=mk0 fV
  have hY:=mk0 fU
  clear fV fU
  have cT:=mk0 fX
  have hZ:=mk0 fW
  clear fX fW
  replace hW:=eq_true hW
  replace hX:=eq_true hX
  refine start_ (n:=7) (S:=fun w'=>w'.cell? ⟨ae,0,none⟩=some (.slice aq ai.length ar)∧w'.cell? ⟨ae,1,none⟩=some (.slice ak af.length al)∧w'.cell? (aD.add ((aC).toNat * 2))=some (.slice b0 ((rd_T34 am aC).f0).length b1)∧w'.cell? ⟨(aD.add ((aC).toNat * 2)).block,(aD.add ((aC).toNat * 2)).off + 1,none⟩=some (.slice b2 ((rd_T34 am aC).f1).length b3)) (ds:=[]) (bt 7 0) (by kernel_rfl) rfl rfl ⟨bk_ ah 0,bk_ ah 1,eu,ev⟩ (fun hHeld=>?_)
  generalize wc.drew=oW at av ap au aw aa ac ab ad ah HB HL573_0 HL573_1 cS cT eu ev hHeld ⊢
  refine pure_ (i:=1) (N:=some 269) (bt 7 2) rfl rfl (by kernel_rfl) (fun _ _ _ h=>h) (Or.inl ⟨by rfl,by intro w';go_simp;with_reducible rfl⟩) (by simp only [z_];rfl) ?_
  refine pure_ (i:=2) (N:=some 270) (bt 7 6) rfl rfl (by kernel_rfl) (fun _ _ _ h=>h) (Or.inl ⟨by rfl,by intro w';go_simp;with_reducible rfl⟩) (by simp only [z_];rfl) ?_
  refine pure_ (i:=3) (N:=some 271) (bt 7 14) rfl rfl (by kernel_rfl) (fun _ _ _ h=>h) (Or.inl ⟨by rfl,by intro w';go_simp;with_reducible rfl⟩) (by simp only [z_];rfl) ?_
  refine take_ (i:=0) (N:=some 268) (bt 7 15) rfl rfl (by kernel_rfl) (fun _ _ _ h=>h) (Or.inl ⟨by rfl,by rintro w' ⟨s0,s1,s2,s3⟩;go_simp;with_reducible rfl⟩) hHeld (by simp only [z_];rfl) ?_
  refine take_ (i:=4) (N:=some 272) (bt 7 31) rfl rfl (by kernel_rfl) (fun _ _ _ h=>h) (Or.inl ⟨by rfl,by rintro w' ⟨s0,s1,s2,s3⟩;go_simp;with_reducible rfl⟩) hHeld (by simp only [z_];rfl) ?_
  refine one_ (i:=5) (N:=some 273) (bt 7 63) rfl rfl (by kernel_rfl) (by decide) (fun K hK=>?_)
  refine goes_ Tryz.func21 (by kernel_rfl) rfl #[.agg #[.slice aq ai.length ar,.slice ak af.length al],.agg #[.slice b0 ((rd_T34 am aC).f0).length b1,.slice b2 ((rd_T34 am aC).f1).length b3]] (by rfl) rfl rfl gs_ ?_
  with_reducible refine (Gf.calls e1 _ _ ai _ _ af _ _ ((rd_T34 am aC).f0) _ _ ((rd_T34 am aC).f1) true _ ?side1 ?side2 ?side3 ?side4 ?side5 ?side6 ?side7 ?side8 n6.out).mono ?_
  (case side1=>exact cr_ ac)
  (case side2=>exact (Kd.R_reads' ac.out).2.1)
  (case side3=>exact cr_ ab)
  (case side4=>exact (Kd.R_reads' ab.out).2.1)
  (case side5=>repeat (first|exact (by repeat (first|(with_reducible exact cS.out)|(with_reducible refine Kd.C_alloc ?_ _)|(with_reducible refine Kd.C_drewN ?_ _)|(with_reducible refine Kd.C_drew ?_)|exact cS.out))|(with_reducible refine Kd.C_alloc ?_ _)|(with_reducible refine Kd.C_drewN ?_ _)|(with_reducible refine Kd.C_drew ?_)))
  (case side6=>exact hY.out)
  (case side7=>repeat (first|exact (by repeat (first|(with_reducible exact cT.out)|(with_reducible refine Kd.C_alloc ?_ _)|(with_reducible refine Kd.C_drewN ?_ _)|(with_reducible refine Kd.C_drew ?_)|exact cT.out))|(with_reducible refine Kd.C_alloc ?_ _)|(with_reducible refine Kd.C_drewN ?_ _)|(with_reducible refine Kd.C_drew ?_)))
  (case side8=>exact hZ.out)
  rintro e oX ⟨rfl,hb⟩
  have HS2_:=(hb.cell (World.block_lt_of_cell? _ _ hHeld.2.2.1)).trans hHeld.2.2.1
  have HS3_:=(hb.cell (World.block_lt_of_cell? _ _ hHeld.2.2.2)).trans hHeld.2.2.2
  refine ⟨_,rfl,?_⟩
  replace av:=mk0 (Kd.N_below (nn_ av) hb)
  replace ap:=mk0 (Kd.N_below (nn_ ap) hb)
  replace au:=mk0 (Kd.R_below (r_ au) hb)
  replace aw:=mk0 (Kd.R_below (r_ aw) hb)
  replace aa:=mk0 (Kd.V_below (v_ aa) hb)
  replace ac:=mk0 (Kd.R_below (r_ ac) hb)
  replace ab:=mk0 (Kd.R_below (r_ ab) hb)
  replace HL573_0:=mk0 (Kd.V_below (v_ HL573_0) hb)
  replace HL573_1:=mk0 (Kd.V_below (v_ HL573_1) hb)
  replace ad:=mk0 (u_ ad hb)
  replace ah:=mk0 (u_ ah hb)
  replace cS:=mk0 (Kd.C_below (by (with_reducible repeat (first|refine Kd.C_drewN ?_ _|refine Kd.C_drew ?_|refine Kd.C_alloc ?_ _));exact cS.out) hb)
  replace cT:=mk0 (Kd.C_below (by (with_reducible repeat (first|refine Kd.C_drewN ?_ _|refine Kd.C_drew ?_|refine Kd.C_alloc ?_ _));exact cT.out) hb)
  replace HB:=mk0 (bt_ (b_ HB) hb)
  (try clear hb)
  (try clear hk)
  (try clear hi)
  refine hK.out _ _ ⟨bk_ ah 0,bk_ ah 1,HS2_,HS3_⟩ (fun hHeld=>?_)
  clear hK K
  refine norm_ (a':=?_) ?_ ?_
  rotate_left
  ·show Act.put _ (some 273) _=_
   simp only [z_]
   rfl
  refine pure_ (i:=6) (N:=some 274) (bt 7 127) rfl rfl (by kernel_rfl) (fun _ _ _ h=>h) (Or.inl ⟨by rfl,by intro w';go_simp;with_reducible rfl⟩) (by simp only [z_];rfl) ?_
  refine done_ (by kernel_rfl) ?_
  try go_wp2
  go_roundg e1
  case measure=>have:=ea.out;have:=co.out;have:=cw.out;have:=eN.out;have:=cH.out;omega
  case rel=>exact ⟨(wrap64 (aC + 1)),sm_,H',⟨by have:=ea.out;have:=co.out;have:=cw.out;have:=eN.out;have:=cH.out;omega⟩,⟨nM_ av⟩,⟨nM_ ap⟩,⟨rM_ au⟩,⟨rM_ aw⟩,⟨vM_ aa⟩,⟨h_ ad⟩,⟨b_ HB⟩⟩
 subst nM
 rw [if_pos rfl] at H
 have H':=mk0 H
 clear H
 go_wp2
 go_loopg [12] e1 (fun kq v12 w'=>∃ (aA:Int),v12 = .int .i64 aA∧Fc (Fa.l2 kq aJ cG am ao az aC aV an aA aH ax aK aG ay aI ai af=some r)∧Fc (kq≤e1)∧Fc (Kd.N k43 43 w' w.heap.size (fun k_=>(P0_1_ k_∨w.heap.size≤k_)∧some k_≠((.slice (some aD) am.length aN):Value).ownBlock∧some k_≠(a0:Value).ownBlock∧some k_≠(a1:Value).ownBlock∧some k_≠((.slice aq ai.length ar):Value).ownBlock∧some k_≠((.slice ak af.length al):Value).ownBlock∧k_≠ag∧k_≠ae) a2 aJ)∧Fc (Kd.N k34 34 w' w.heap.size (fun k_=>(P0_1_ k_∨w.heap.size≤k_)∧some k_≠(a2:Value).ownBlock∧some k_≠(a0:Value).ownBlock∧some k_≠(a1:Value).ownBlock∧some k_≠((.slice aq ai.length ar):Value).ownBlock∧some k_≠((.slice ak af.length al):Value).ownBlock∧k_≠ag∧k_≠ae) (.slice (some aD) am.length aN) am)∧Fc (Kd.R (Kd.int .i64) 3 w' w.heap.size (fun k_=>(w.heap.size≤k_)∧some k_≠(a1:Value).ownBlock∧some k_≠((.slice ak af.length al):Value).ownBlock) a0 ao)∧Fc (Kd.R (Kd.int .i64) 3 w' w.heap.size (fun k_=>(w.heap.size≤k_)∧some k_≠(a0:Value).ownBlock∧some k_≠((.slice ak af.length al):Value).ownBlock) a1 az)∧Fc (Kd.V k34 34 w' w.heap.size (fun k_=>(P0_1_ k_∨w.heap.size≤k_)∧some k_≠(a2:Value).ownBlock∧some k_≠((.slice (some aD) am.length aN):Value).ownBlock∧some k_≠(a0:Value).ownBlock∧some k_≠(a1:Value).ownBlock∧some k_≠((.slice aq ai.length ar):Value).ownBlock∧some k_≠((.slice ak af.length al):Value).ownBlock∧k_≠ag∧k_≠ae) (.slice A0_1 ax.length c0_1) ax)∧Fc (Kd.R k72 72 w' w.heap.size (fun k_=>(w.heap.size≤k_)) (.slice aq ai.length ar) ai)∧Fc (Kd.R (Kd.int .i64) 3 w' w.heap.size (fun k_=>(w.heap.size≤k_)∧some k_≠(a0:Value).ownBlock∧some k_≠(a1:Value).ownBlock) (.slice ak af.length al) af)∧Fc (w'.heap[ag]? = some (.cells #[(.slice A0_0 aH.length c0_0),(.slice A0_1 ax.length c0_1),(.slice A0_2 aK.length c0_2),(.slice A0_3 aG.length c0_3),(.slice A0_4 ay.length c0_4),(.slice A0_5 aI.length c0_5)] 28 (0,0)))∧Fc (w'.heap[ae]? = some (.cells #[(.slice aq ai.length ar),(.slice ak af.length al)] 34 (0,0)))∧Fc (Below w.heap.size w w'))
 case atStart=>exact ⟨(0),sm_,H',⟨Nat.le_refl _⟩,⟨n2_ av.out⟩,⟨n2_ ap.out⟩,⟨r2_ au.out⟩,⟨r2_ aw.out⟩,⟨v2_ aa.out⟩,⟨r2_ ac.out⟩,⟨r2_ ab.out⟩,⟨h_ ad⟩,⟨h_ ah⟩,⟨b_ HB⟩⟩
 clear H'
 try clear c3
 try clear c9
 try clear a6
 try clear a7
 try clear d1
 try clear hJ
 try clear d2
 try clear hL
 try clear dC dD dE dF dG dH aX aY aZ ba bb bc
 try clear dI dJ dK dL dM dN bd be bf bg bh bi
 try clear dO dP dQ dR dS dT bj bk bl bm bn bo
 try clear bO bP bQ bR bS bT bp bq br bs bu bv
 try clear bU bV bW bX bY bZ bw bx bz bA bB bC
 try clear ca cb cc cd ce cf bD bE bF bG bH bI
 try clear cp cq bL bM
 try clear bJ bK
 try clear dy
 try clear dz
 obtain ⟨aA,rfl,HA,fy,av,ap,au,aw,aa,ac,ab,ad,ah,HB⟩:=hrel
 cases gk with
 | zero=>exact absurd HA.out (by simp [Fa.l2])
 | succ k6=>
 have H:=HA.out
 clear HA
 simp only [Fa.l2] at H
 as_aux_lemma=>
 have HC55:=mk0 H
 clear H
 go_upto_region 17 with (fail)
 go_cut [89] (fun v89 wc=>∃ (kq:Nat) (ia:Bool),v89 = .bool ia∧Fc (Fa.j6 kq aJ cG am ao az aC aV an aA ia aH ax aK aG ay aI ai af=some r)∧Fc (kq≤k6)∧Fc (Kd.N k43 43 wc w.heap.size (fun k_=>(P0_1_ k_∨w.heap.size≤k_)∧some k_≠((.slice (some aD) am.length aN):Value).ownBlock∧some k_≠(a0:Value).ownBlock∧some k_≠(a1:Value).ownBlock∧some k_≠((.slice aq ai.length ar):Value).ownBlock∧some k_≠((.slice ak af.length al):Value).ownBlock∧k_≠ag∧k_≠ae) a2 aJ)∧Fc (Kd.N k34 34 wc w.heap.size (fun k_=>(P0_1_ k_∨w.heap.size≤k_)∧some k_≠(a2:Value).ownBlock∧some k_≠(a0:Value).ownBlock∧some k_≠(a1:Value).ownBlock∧some k_≠((.slice aq ai.length ar):Value).ownBlock∧some k_≠((.slice ak af.length al):Value).ownBlock∧k_≠ag∧k_≠ae) (.slice (some aD) am.length aN) am)∧Fc (Kd.R (Kd.int .i64) 3 wc w.heap.size (fun k_=>(w.heap.size≤k_)∧some k_≠(a1:Value).ownBlock∧some k_≠((.slice ak af.length al):Value).ownBlock) a0 ao)∧Fc (Kd.R (Kd.int .i64) 3 wc w.heap.size (fun k_=>(w.heap.size≤k_)∧some k_≠(a0:Value).ownBlock∧some k_≠((.slice ak af.length al):Value).ownBlock) a1 az)∧Fc (Kd.V k34 34 wc w.heap.size (fun k_=>(P0_1_ k_∨w.heap.size≤k_)∧some k_≠(a2:Value).ownBlock∧some k_≠((.slice (some aD) am.length aN):Value).ownBlock∧some k_≠(a0:Value).ownBlock∧some k_≠(a1:Value).ownBlock∧some k_≠((.slice aq ai.length ar):Value).ownBlock∧some k_≠((.slice ak af.length al):Value).ownBlock∧k_≠ag∧k_≠ae) (.slice A0_1 ax.length c0_1) ax)∧Fc (Kd.R k72 72 wc w.heap.size (fun k_=>(w.heap.size≤k_)) (.slice aq ai.length ar) ai)∧Fc (Kd.R (Kd.int .i64) 3 wc w.heap.size (fun k_=>(w.heap.size≤k_)∧some k_≠(a0:Value).ownBlock∧some k_≠(a1:Value).ownBlock) (.slice ak af.length al) af)∧Fc (wc.heap[ag]? = some (.cells #[(.slice A0_0 aH.length c0_0),(.slice A0_1 ax.length c0_1),(.slice A0_2 aK.length c0_2),(.slice A0_3 aG.length c0_3),(.slice A0_4 ay.length c0_4),(.slice A0_5 aI.length c0_5)] 28 (0,0)))∧Fc (wc.heap[ae]? = some (.cells #[(.slice aq ai.length ar),(.slice ak af.length al)] 34 (0,0)))∧Fc (Below w.heap.size w wc))
 case first=>
  have H:=HC55.out
  clear HC55
  by_cases m0:aA<(az.length:Int)
  ·rw [if_pos m0] at H
   have gN:decide (aA<(az.length:Int))=true:=decide_eq_true m0
   clear m0
   (first|rw [gN]|(simp only [i64_w,i32_w];rw [gN])|skip)
   have H':=mk0 H
   clear H
   obtain ⟨nw,nx,mf⟩:=Kd.R_slice aw.out
   subst mf
   go_wp2
   go_meet
   case rel=>exact ⟨_,(decide (aA<4)),sm_,H',⟨by have:=ea.out;have:=co.out;have:=cw.out;have:=eN.out;have:=cH.out;have:=fy.out;first|omega|exact Nat.le_refl _⟩,⟨n2_ av.out⟩,⟨n2_ ap.out⟩,⟨r2_ au.out⟩,⟨r2_ aw.out⟩,⟨v2_ aa.out⟩,⟨r2_ ac.out⟩,⟨r2_ ab.out⟩,⟨h_ ad⟩,⟨h_ ah⟩,⟨b_ HB⟩⟩
  rw [if_neg m0] at H
  have gN:decide (aA<(az.length:Int))=false:=decide_eq_false m0
  clear m0
  (first|rw [gN]|(simp only [i64_w,i32_w];rw [gN])|skip)
  have H':=mk0 H
  clear H
  obtain ⟨ny,nz,mg⟩:=Kd.R_slice aw.out
  subst mg
  go_wp2
  go_meet
  case rel=>exact ⟨_,(false),sm_,H',⟨by have:=ea.out;have:=co.out;have:=cw.out;have:=eN.out;have:=cH.out;have:=fy.out;first|omega|exact Nat.le_refl _⟩,⟨n2_ av.out⟩,⟨n2_ ap.out⟩,⟨r2_ au.out⟩,⟨r2_ aw.out⟩,⟨v2_ aa.out⟩,⟨r2_ ac.out⟩,⟨r2_ ab.out⟩,⟨h_ ad⟩,⟨h_ ah⟩,⟨b_ HB⟩⟩
 clear HC55
 try clear c3
 try clear c9
 try clear a6
 try clear a7
 try clear d1
 try clear hJ
 try clear d2
 try clear hL
 try clear dC dD dE dF dG dH aX aY aZ ba bb bc
 try clear dI dJ dK dL dM dN bd be bf bg bh bi
 try clear dO dP dQ dR dS dT bj bk bl bm bn bo
 try clear bO bP bQ bR bS bT bp bq br bs bu bv
 try clear bU bV bW bX bY bZ bw bx bz bA bB bC
 try clear ca cb cc cd ce cf bD bE bF bG bH bI
 try clear cp cq bL bM
 try clear bJ bK
 try clear dy
 try clear dz
 obtain ⟨kq,ia,rfl,HA,cX,av,ap,au,aw,aa,ac,ab,ad,ah,HB⟩:=hcut
 cases kq with
 | zero=>exact absurd HA.out (by simp [Fa.j6])
 | succ n7=>
 have H:=HA.out
 clear HA
 simp only [Fa.j6] at H
 as_aux_lemma=>
 by_cases nN:ia=true
 rotate_left
 ·replace nN:=Bool.eq_false_iff.mpr nN
  subst nN
  rw [if_neg nf_] at H
  have H':=mk0 H
  clear H
  go_wp2
  go_roundg n7
  case measure=>have:=ea.out;have:=co.out;have:=cw.out;have:=eN.out;have:=cH.out;have:=fy.out;have:=cX.out;omega
  case rel=>exact ⟨(wrap64 (an + 1)),sm_,H',⟨by have:=ea.out;have:=co.out;have:=cw.out;have:=eN.out;have:=cH.out;have:=fy.out;have:=cX.out;omega⟩,⟨n2_ av.out⟩,⟨n2_ ap.out⟩,⟨r2_ au.out⟩,⟨r2_ aw.out⟩,⟨v2_ aa.out⟩,⟨r2_ ac.out⟩,⟨r2_ ab.out⟩,⟨h_ ad⟩,⟨h_ ah⟩,⟨b_ HB⟩⟩
 subst nN
 rw [if_pos rfl] at H
 have HC60:=mk0 H
 clear H
 go_upto_region 19 with (fail)
 go_cut [13] (fun v13 wc=>∃ (kq:Nat) (aW:Bool),v13 = .bool aW∧Fc (Fa.j7 kq aJ cG am ao az aC aV an aA aW aH ax aK aG ay aI ai af=some r)∧Fc (kq≤n7)∧Fc (Kd.N k43 43 wc w.heap.size (fun k_=>(P0_1_ k_∨w.heap.size≤k_)∧some k_≠((.slice (some aD) am.length aN):Value).ownBlock∧some k_≠(a0:Value).ownBlock∧some k_≠(a1:Value).ownBlock∧some k_≠((.slice aq ai.length ar):Value).ownBlock∧some k_≠((.slice ak af.length al):Value).ownBlock∧k_≠ag∧k_≠ae) a2 aJ)∧Fc (Kd.N k34 34 wc w.heap.size (fun k_=>(P0_1_ k_∨w.heap.size≤k_)∧some k_≠(a2:Value).ownBlock∧some k_≠(a0:Value).ownBlock∧some k_≠(a1:Value).ownBlock∧some k_≠((.slice aq ai.length ar):Value).ownBlock∧some k_≠((.slice ak af.length al):Value).ownBlock∧k_≠ag∧k_≠ae) (.slice (some aD) am.length aN) am)∧Fc (Kd.R (Kd.int .i64) 3 wc w.heap.size (fun k_=>(w.heap.size≤k_)∧some k_≠(a1:Value).ownBlock∧some k_≠((.slice ak af.length al):Value).ownBlock) a0 ao)∧Fc (Kd.R (Kd.int .i64) 3 wc w.heap.size (fun k_=>(w.heap.size≤k_)∧some k_≠(a0:Value).ownBlock∧some k_≠((.slice ak af.length al):Value).ownBlock) a1 az)∧Fc (Kd.V k34 34 wc w.heap.size (fun k_=>(P0_1_ k_∨w.heap.size≤k_)∧some k_≠(a2:Value).ownBlock∧some k_≠((.slice (some aD) am.length aN):Value).ownBlock∧some k_≠(a0:Value).ownBlock∧some k_≠(a1:Value).ownBlock∧some k_≠((.slice aq ai.length ar):Value).ownBlock∧some k_≠((.slice ak af.length al):Value).ownBlock∧k_≠ag∧k_≠ae) (.slice A0_1 ax.length c0_1) ax)∧Fc (Kd.R k72 72 wc w.heap.size (fun k_=>(w.heap.size≤k_)) (.slice aq ai.length ar) ai)∧Fc (Kd.R (Kd.int .i64) 3 wc w.heap.size (fun k_=>(w.heap.size≤k_)∧some k_≠(a0:Value).ownBlock∧some k_≠(a1:Value).ownBlock) (.slice ak af.length al) af)∧Fc (wc.heap[ag]? = some (.cells #[(.slice A0_0 aH.length c0_0),(.slice A0_1 ax.length c0_1),(.slice A0_2 aK.length c0_2),(.slice A0_3 aG.length c0_3),(.slice A0_4 ay.length c0_4),(.slice A0_5 aI.length c0_5)] 28 (0,0)))∧Fc (wc.heap[ae]? = some (.cells #[(.slice aq ai.length ar),(.slice ak af.length al)] 34 (0,0)))∧Fc (Below w.heap.size w wc))
 case first=>
  have H:=HC60.out
  clear HC60
  by_cases nO:aV=true
  rotate_left
  ·replace nO:=Bool.eq_false_iff.mpr nO
   subst nO
   rw [if_neg nf_] at H
   have H':=mk0 H
   clear H
   try go_wp2
   go_quiet (fail)
   generalize hq_:World.drewN wc _=pn
   replace av:=mk0 (Kd.N_at hq_ av.out)
   replace ap:=mk0 (Kd.N_at hq_ ap.out)
   replace au:=mk0 (Kd.R_at hq_ au.out)
   replace aw:=mk0 (Kd.R_at hq_ aw.out)
   replace aa:=mk0 (vq_ hq_ aa.out)
   replace ac:=mk0 (Kd.R_at hq_ ac.out)
   replace ab:=mk0 (Kd.R_at hq_ ab.out)
   replace ad:=mk0 (blk_at hq_ ad.out)
   replace ah:=mk0 (blk_at hq_ ah.out)
   replace HB:=mk0 (below_at hq_ HB.out)
   clear hq_
   try go_wp2
   go_meet
   case rel=>exact ⟨_,(false),sm_,H',⟨by have:=ea.out;have:=co.out;have:=cw.out;have:=eN.out;have:=cH.out;have:=fy.out;have:=cX.out;first|omega|exact Nat.le_refl _⟩,⟨n2_ av.out⟩,⟨n2_ ap.out⟩,⟨r2_ au.out⟩,⟨r2_ aw.out⟩,⟨v2_ aa.out⟩,⟨r2_ ac.out⟩,⟨r2_ ab.out⟩,⟨h_ ad⟩,⟨h_ ah⟩,⟨b_ HB⟩⟩
  subst nO
  rw [if_pos rfl] at H
  by_cases nP:0≤an
  rotate_left
  ·rw [if_neg nP] at H
   exact absurd H (by simp)
  rw [if_pos nP] at H
  have jQ:decide (0≤an)=true:=decide_eq_true nP
  clear nP
  (first|rw [jQ]|(simp only [i64_w,i32_w];rw [jQ])|skip)
  by_cases nQ:an<(ao.length:Int)
  rotate_left
  ·rw [if_neg nQ] at H
   exact absurd H (by simp)
  rw [if_pos nQ] at H
  have ln:decide (an<(ao.length:Int))=true:=decide_eq_true nQ
  clear nQ
  replace H:=ob_ H
  obtain ⟨lo,oL,H⟩:=H
  try dsimp only at H
  have H':=mk0 H
  clear H
  try go_wp2
  replace av:=mk0 (Kd.N_drew av.out)
  replace ap:=mk0 (Kd.N_drew ap.out)
  replace au:=mk0 (Rd_ au.out)
  replace aw:=mk0 (Rd_ aw.out)
  replace aa:=mk0 (Kd.V_drew aa.out)
  replace ac:=mk0 (Rd_ ac.out)
  replace ab:=mk0 (Rd_ ab.out)
  replace ad:=mk0 (bD_ ad.out)
  replace ah:=mk0 (bD_ ah.out)
  replace HB:=mk0 (b1_ HB.out)
  obtain ⟨nA,nB,lp⟩:=Kd.R_slice au.out
  (first|subst lp|(injection lp with f1_ f2_ f3_;have f4_:=f1_.symm;have f5_:=f3_.symm;clear f1_ f2_ f3_;subst f4_;subst f5_))
  have fz:0≤(an:Int):=od_
  have fA:an<(ao.length:Int):=od_
  obtain ⟨lq,mh,cr⟩:=Kd.at_int (Kd.R_reads' au.out).2.2 an fz fA
  cases mh
  replace fz:=eq_true fz
  replace fA:=eq_true fA
  refine start_ (n:=13) (S:=fun w'=>w'.cell? ⟨ag,0,none⟩=some (.slice A0_0 aH.length c0_0)∧w'.cell? ⟨ag,1,none⟩=some (.slice A0_1 ax.length c0_1)∧w'.cell? ⟨ag,2,none⟩=some (.slice A0_2 aK.length c0_2)∧w'.cell? ⟨ag,3,none⟩=some (.slice A0_3 aG.length c0_3)∧w'.cell? ⟨ag,4,none⟩=some (.slice A0_4 ay.length c0_4)∧w'.cell? ⟨ag,5,none⟩=some (.slice A0_5 aI.length c0_5)∧w'.cell? (lq.add (an).toNat)=some (.int .i64 (rd ao an))) (ds:=[]) (bt 13 0) (by kernel_rfl) rfl rfl ⟨bk_ ad 0,bk_ ad 1,bk_ ad 2,bk_ ad 3,bk_ ad 4,bk_ ad 5,cr⟩ (fun hHeld=>?_);refine with_tabW Fa.tab19 Fa.bits19 (fun HT_ HW_=>?_)
  generalize wc.drew=po at av ap au aw aa ac ab ad ah HB cr hHeld ⊢
  refine pq_ HT_.out 0 92 (bt 13 1) (h:=?_)
  refine pq_ HT_.out 1 93 (bt 13 3) (h:=?_)
  refine pq_ HT_.out 2 94 (bt 13 7) (h:=?_)
  refine pq_ HT_.out 3 95 (bt 13 15) (h:=?_)
  refine pq_ HT_.out 4 96 (bt 13 31) (h:=?_)
  refine pq_ HT_.out 6 98 (bt 13 95) (h:=?_)
  refine tq7_ HT_.out HW_.out 5 97 (bt 13 127) hHeld (h:=?_)
  refine tq7_ HT_.out HW_.out 7 99 (bt 13 255) hHeld (h:=?_)
  refine pq_ HT_.out 8 100 (bt 13 511) (h:=?_)
  refine pq_ HT_.out 9 101 (bt 13 1023) (h:=?_)
  refine one_ (i:=10) (N:=some 102) (bt 13 2047) rfl rfl (one_of HT_.out (by kernel_rfl)) (by decide) (fun K hK=>?_)
  refine goes_ Tryz.func9 (by kernel_rfl) rfl #[.int .i64 (rd ao an),.int .i64 (wrap64 ((aH.length:Int) - 1))] (by rfl) rfl rfl gs_ ?_
  with_reducible refine (FJ.calls (rd ao an) (wrap64 ((aH.length:Int) - 1)) lo _ oL.out).mono ?_
  rintro e w' ⟨rfl,⟨nd,rfl⟩⟩
  refine ⟨_,rfl,?_⟩
  refine hK.out _ _ ⟨bk_ ad 0,bk_ ad 1,bk_ ad 2,bk_ ad 3,bk_ ad 4,bk_ ad 5,hHeld.2.2.2.2.2.2⟩ (fun hHeld=>?_)
  clear hK K
  refine norm_ (a':=?_) ?_ ?_
  rotate_left
  ·show Act.put _ (some 102) _=_
   simp only [z_]
   rfl
  refine pq_ HT_.out 11 103 (bt 13 4095) (h:=?_)
  refine pq_ HT_.out 12 13 (bt 13 8191) (h:=?_)
  refine done_ (done_of HT_.out (by kernel_rfl)) ?_
  try go_wp2
  go_meet
  case rel=>exact ⟨_,(lo),sm_,H',⟨by have:=ea.out;have:=co.out;have:=cw.out;have:=eN.out;have:=cH.out;have:=fy.out;have:=cX.out;first|omega|exact Nat.le_refl _⟩,⟨n2_ av.out⟩,⟨n2_ ap.out⟩,⟨r2_ au.out⟩,⟨r2_ aw.out⟩,⟨v2_ aa.out⟩,⟨r2_ ac.out⟩,⟨r2_ ab.out⟩,⟨h_ ad⟩,⟨h_ ah⟩,⟨b_ HB⟩⟩
 clear HC60
 try clear c3
 try clear c9
 try clear a6
 try clear a7
 try clear d1
 try clear hJ
 try clear d2
 try clear hL
 try clear dC dD dE dF dG dH aX aY aZ ba bb bc
 try clear dI dJ dK dL dM dN bd be bf bg bh bi
 try clear dO dP dQ dR dS dT bj bk bl bm bn bo
 try clear bO bP bQ bR bS bT bp bq br bs bu bv
 try clear bU bV bW bX bY bZ bw bx bz bA bB bC
 try clear ca cb cc cd ce cf bD bE bF bG bH bI
 try clear cp cq bL bM
 try clear bJ bK
 try clear dy
 try clear dz
 obtain ⟨kq,aW,rfl,HA,db,av,ap,au,aw,aa,ac,ab,ad,ah,HB⟩:=hcut
 cases kq with
 | zero=>exact absurd HA.out (by simp [Fa.j7])
 | succ m6=>
 have H:=HA.out
 clear HA
 simp only [Fa.j7] at H
 as_aux_lemma=>
 have HC68:=mk0 H
 clear H
 go_upto_if 104 with (fail)
 go_cut [14] (fun v14 wc=>∃ (kq:Nat) (aT:List (S50)),Fc (Fa.j8 kq aJ cG am ao az aC aV an aA aW aT aH ax aK aG ay aI ai af=some r)∧Fc (kq≤m6)∧Fc (Kd.N k43 43 wc w.heap.size (fun k_=>(P0_1_ k_∨w.heap.size≤k_)∧some k_≠((.slice (some aD) am.length aN):Value).ownBlock∧some k_≠(a0:Value).ownBlock∧some k_≠(a1:Value).ownBlock∧some k_≠(v14:Value).ownBlock∧some k_≠((.slice aq ai.length ar):Value).ownBlock∧some k_≠((.slice ak af.length al):Value).ownBlock∧k_≠ag∧k_≠ae) a2 aJ)∧Fc (Kd.N k34 34 wc w.heap.size (fun k_=>(P0_1_ k_∨w.heap.size≤k_)∧some k_≠(a2:Value).ownBlock∧some k_≠(a0:Value).ownBlock∧some k_≠(a1:Value).ownBlock∧some k_≠(v14:Value).ownBlock∧some k_≠((.slice aq ai.length ar):Value).ownBlock∧some k_≠((.slice ak af.length al):Value).ownBlock∧k_≠ag∧k_≠ae) (.slice (some aD) am.length aN) am)∧Fc (Kd.R (Kd.int .i64) 3 wc w.heap.size (fun k_=>(w.heap.size≤k_)∧some k_≠(a1:Value).ownBlock∧some k_≠((.slice ak af.length al):Value).ownBlock) a0 ao)∧Fc (Kd.R (Kd.int .i64) 3 wc w.heap.size (fun k_=>(w.heap.size≤k_)∧some k_≠(a0:Value).ownBlock∧some k_≠((.slice ak af.length al):Value).ownBlock) a1 az)∧Fc (Kd.R k50 50 wc w.heap.size (fun k_=>(w.heap.size≤k_)) v14 aT)∧Fc (Kd.V k34 34 wc w.heap.size (fun k_=>(P0_1_ k_∨w.heap.size≤k_)∧some k_≠(a2:Value).ownBlock∧some k_≠((.slice (some aD) am.length aN):Value).ownBlock∧some k_≠(a0:Value).ownBlock∧some k_≠(a1:Value).ownBlock∧some k_≠(v14:Value).ownBlock∧some k_≠((.slice aq ai.length ar):Value).ownBlock∧some k_≠((.slice ak af.length al):Value).ownBlock∧k_≠ag∧k_≠ae) (.slice A0_1 ax.length c0_1) ax)∧Fc (Kd.R k72 72 wc w.heap.size (fun k_=>(w.heap.size≤k_)) (.slice aq ai.length ar) ai)∧Fc (Kd.R (Kd.int .i64) 3 wc w.heap.size (fun k_=>(w.heap.size≤k_)∧some k_≠(a0:Value).ownBlock∧some k_≠(a1:Value).ownBlock) (.slice ak af.length al) af)∧Fc (wc.heap[ag]? = some (.cells #[(.slice A0_0 aH.length c0_0),(.slice A0_1 ax.length c0_1),(.slice A0_2 aK.length c0_2),(.slice A0_3 aG.length c0_3),(.slice A0_4 ay.length c0_4),(.slice A0_5 aI.length c0_5)] 28 (0,0)))∧Fc (wc.heap[ae]? = some (.cells #[(.slice aq ai.length ar),(.slice ak af.length al)] 34 (0,0)))∧Fc (Below w.heap.size w wc))
 case first=>
  have H:=HC68.out
  clear HC68
  by_cases nR:aW=true
  rotate_left
  ·replace nR:=Bool.eq_false_iff.mpr nR
   subst nR
   rw [if_neg nf_] at H
   have H':=mk0 H
   clear H
   go_wp2
   go_meet
   case rel=>exact ⟨_,(([]:List (S50))),H',⟨by have:=ea.out;have:=co.out;have:=cw.out;have:=eN.out;have:=cH.out;have:=fy.out;have:=cX.out;have:=db.out;first|omega|exact Nat.le_refl _⟩,⟨by (with_reducible repeat (first|apply Kd.N_alloc|apply Kd.N_drewN|apply Kd.N_drew));exact Kd.N_mono av.out (fun _ hk=>⟨hk.1,⟨hk.2.1,⟨hk.2.2.1,⟨hk.2.2.2.1,⟨(by simp [Value.ownBlock]),⟨hk.2.2.2.2.1,⟨hk.2.2.2.2.2.1,⟨hk.2.2.2.2.2.2.1,hk.2.2.2.2.2.2.2⟩⟩⟩⟩⟩⟩⟩⟩)⟩,⟨by (with_reducible repeat (first|apply Kd.N_alloc|apply Kd.N_drewN|apply Kd.N_drew));exact Kd.N_mono ap.out (fun _ hk=>⟨hk.1,⟨hk.2.1,⟨hk.2.2.1,⟨hk.2.2.2.1,⟨(by simp [Value.ownBlock]),⟨hk.2.2.2.2.1,⟨hk.2.2.2.2.2.1,⟨hk.2.2.2.2.2.2.1,hk.2.2.2.2.2.2.2⟩⟩⟩⟩⟩⟩⟩⟩)⟩,⟨r2_ au.out⟩,⟨r2_ aw.out⟩,⟨nl_⟩,⟨by (with_reducible repeat (first|apply Kd.V_alloc|apply Kd.V_drewN|apply Kd.V_drew));exact Kd.V_mono aa.out (fun _ hk=>⟨hk.1,⟨hk.2.1,⟨hk.2.2.1,⟨hk.2.2.2.1,⟨hk.2.2.2.2.1,⟨(by simp [Value.ownBlock]),⟨hk.2.2.2.2.2.1,⟨hk.2.2.2.2.2.2.1,⟨hk.2.2.2.2.2.2.2.1,hk.2.2.2.2.2.2.2.2⟩⟩⟩⟩⟩⟩⟩⟩⟩)⟩,⟨r2_ ac.out⟩,⟨r2_ ab.out⟩,⟨h_ ad⟩,⟨h_ ah⟩,⟨b_ HB⟩⟩
  subst nR
  rw [if_pos rfl] at H
  by_cases nS:0≤an
  rotate_left
  ·rw [if_neg nS] at H
   exact absurd H (by simp)
  rw [if_pos nS] at H
  have eT:decide (0≤an)=true:=decide_eq_true nS
  clear nS
  (first|rw [eT]|(simp only [i64_w,i32_w];rw [eT])|skip)
  by_cases nT:an<(ao.length:Int)
  rotate_left
  ·rw [if_neg nT] at H
   exact absurd H (by simp)
  rw [if_pos nT] at H
  have fY:decide (an<(ao.length:Int))=true:=decide_eq_true nT
  clear nT
  by_cases nU:0≤(rd ao an)
  rotate_left
  ·rw [if_neg nU] at H
   exact absurd H (by simp)
  rw [if_pos nU] at H
  have fZ:decide (0≤(rd ao an))=true:=decide_eq_true nU
  clear nU
  by_cases nV:(rd ao an)<(aH.length:Int)
  rotate_left
  ·rw [if_neg nV] at H
   exact absurd H (by simp)
  rw [if_pos nV] at H
  have ga:decide ((rd ao an)<(aH.length:Int))=true:=decide_eq_true nV
  clear nV
  by_cases nW:0≤aA
  rotate_left
  ·rw [if_neg nW] at H
   exact absurd H (by simp)
  rw [if_pos nW] at H
  have gb:decide (0≤aA)=true:=decide_eq_true nW
  clear nW
  by_cases nX:aA<(az.length:Int)
  rotate_left
  ·rw [if_neg nX] at H
   exact absurd H (by simp)
  rw [if_pos nX] at H
  have gc:decide (aA<(az.length:Int))=true:=decide_eq_true nX
  clear nX
  replace H:=ob_ H
  obtain ⟨kz,oM,H⟩:=H
  try dsimp only at H
  by_cases nY:0≤aC
  rotate_left
  ·rw [if_neg nY] at H
   exact absurd H (by simp)
  rw [if_pos nY] at H
  have gd:decide (0≤aC)=true:=decide_eq_true nY
  clear nY
  by_cases nZ:aC<(am.length:Int)
  rotate_left
  ·rw [if_neg nZ] at H
   exact absurd H (by simp)
  rw [if_pos nZ] at H
  have gf:decide (aC<(am.length:Int))=true:=decide_eq_true nZ
  clear nZ
  replace H:=ob_ H
  obtain ⟨lr,oN,H⟩:=H
  try dsimp only at H
  have H':=mk0 H
  clear H
  try go_wp2
  replace av:=mk0 (Kd.N_drew av.out)
  replace ap:=mk0 (Kd.N_drew ap.out)
  replace au:=mk0 (Rd_ au.out)
  replace aw:=mk0 (Rd_ aw.out)
  replace aa:=mk0 (Kd.V_drew aa.out)
  replace ac:=mk0 (Rd_ ac.out)
  replace ab:=mk0 (Rd_ ab.out)
  replace ad:=mk0 (bD_ ad.out)
  replace ah:=mk0 (bD_ ah.out)
  replace HB:=mk0 (b1_ HB.out)
  obtain ⟨nC,nD,ls⟩:=Kd.R_slice au.out
  (first|subst ls|(injection ls with f1_ f2_ f3_;have f4_:=f1_.symm;have f5_:=f3_.symm;clear f1_ f2_ f3_;subst f4_;subst f5_))
  have fE:0≤(an:Int):=od_
  have fF:an<(ao.length:Int):=od_
  obtain ⟨jR,mi,cz⟩:=Kd.at_int (Kd.R_reads' au.out).2.2 an fE fF
  cases mi
  replace fE:=eq_true fE
  replace fF:=eq_true fF
  have fG:0≤((rd ao an):Int):=od_
  have fH:(rd ao an)<(aH.length:Int):=od_
  obtain ⟨kn,g6,g7,mj,cg,jo,jp⟩:=at_T43 gL.out (rd ao an) fG fH
  have ib:=cg
  cases mj
  replace cg:=(bc_ HB cg :)
  have jq:=mk0 jp
  have ke:=mk0 jo
  clear jp jo
  replace fG:=eq_true fG
  replace fH:=eq_true fH
  obtain ⟨nE,nF,lu⟩:=Kd.R_slice aw.out
  (first|subst lu|(injection lu with f1_ f2_ f3_;have f4_:=f1_.symm;have f5_:=f3_.symm;clear f1_ f2_ f3_;subst f4_;subst f5_))
  have fI:0≤(aA:Int):=od_
  have fJ:aA<(az.length:Int):=od_
  obtain ⟨lv,ml,cA⟩:=Kd.at_int (Kd.R_reads' aw.out).2.2 aA fI fJ
  cases ml
  replace fI:=eq_true fI
  replace fJ:=eq_true fJ
  have fB:0≤(aC:Int):=od_
  have fC:aC<(am.length:Int):=od_
  obtain ⟨lw,g8,g9,i0,i1,mm,ct,cu,jr,js,jt,ju⟩:=at_T34 (Kd.N_reads' ap.out).2.2 aC fB fC
  obtain rfl:aD=lw:=(by injection mm)
  obtain ⟨ce536,hce536,hMe536,hcc536⟩:=Kd.N_get ap.out z34 aC fB (by first|exact fC|exact od_|(have e_:=(Kd.N_reads' ap.out).1;omega))
  obtain ⟨ua536_0,uc536_0,ua536_1,uc536_1,rfl,ul536_0,ge536_0,ul536_1,ge536_1⟩:=k34_openF hMe536
  have hv536_0:=hcc536 0 _ rfl
  rw [Nat.add_zero] at hv536_0
  replace hv536_0:=Option.some.inj (hv536_0.symm.trans ct)
  injection hv536_0 with hva_ hvn_ hvc_
  rw [hva_] at ge536_0
  rw [hvc_] at ul536_0
  have HL536_0:=mk0 (show Kd.V k72 72 _ w.heap.size _ _ ((rd_T34 am aC).f0) from Kd.V_mk ul536_0 ge536_0)
  clear hva_ hvn_ hvc_ ge536_0 ul536_0
  have hv536_1:=hcc536 1 _ rfl
  rw [add_field _ _ 1 (by omega)] at hv536_1
  replace hv536_1:=Option.some.inj (hv536_1.symm.trans cu)
  injection hv536_1 with hva_ hvn_ hvc_
  rw [hva_] at ge536_1
  rw [hvc_] at ul536_1
  have HL536_1:=mk0 (show Kd.V (Kd.int .i64) 3 _ w.heap.size _ _ ((rd_T34 am aC).f1) from Kd.V_mk ul536_1 ge536_1)
  clear hva_ hvn_ hvc_ ge536_1 ul536_1 hcc536 hce536
  have dv:=mk0 js
  have kf:=mk0 jr
  clear js jr
  have dw:=mk0 ju
  have kg:=mk0 jt
  clear ju jt
  replace fB:=eq_true fB
  replace fC:=eq_true fC
  have fK:0≤(an:Int):=od_
  have fL:an<(ao.length:Int):=od_
  obtain ⟨lx,mn,cB⟩:=Kd.at_int (Kd.R_reads' au.out).2.2 an fK fL
  obtain rfl:jR=lx:=(by injection mn)
  replace fK:=eq_true fK
  replace fL:=eq_true fL
  refine start_ (n:=23) (S:=fun w'=>w'.cell? ⟨ag,0,none⟩=some (.slice (some kn) aH.length c0_0)∧w'.cell? ⟨ag,1,none⟩=some (.slice A0_1 ax.length c0_1)∧w'.cell? ⟨ag,2,none⟩=some (.slice A0_2 aK.length c0_2)∧w'.cell? ⟨ag,3,none⟩=some (.slice A0_3 aG.length c0_3)∧w'.cell? ⟨ag,4,none⟩=some (.slice A0_4 ay.length c0_4)∧w'.cell? ⟨ag,5,none⟩=some (.slice A0_5 aI.length c0_5)∧w'.cell? (jR.add (an).toNat)=some (.int .i64 (rd ao an))∧w'.cell? (kn.add ((rd ao an)).toNat)=some (.slice g6 ((rd_T43 aH (rd ao an)).f0).length g7)∧w'.cell? (lv.add (aA).toNat)=some (.int .i64 (rd az aA))∧w'.cell? (aD.add ((aC).toNat * 2))=some (.slice g8 ((rd_T34 am aC).f0).length g9)∧w'.cell? ⟨(aD.add ((aC).toNat * 2)).block,(aD.add ((aC).toNat * 2)).off + 1,none⟩=some (.slice i0 ((rd_T34 am aC).f1).length i1)∧w'.cell? (jR.add (an).toNat)=some (.int .i64 (rd ao an))) (ds:=[]) (bt 23 0) (by kernel_rfl) rfl rfl ⟨bk_ ad 0,bk_ ad 1,bk_ ad 2,bk_ ad 3,bk_ ad 4,bk_ ad 5,cz,((bc_ HB ib :)),cA,ct,cu,cB⟩ (fun hHeld=>?_);refine with_tabW Fa.tab22 Fa.bits22 (fun HT_ HW_=>?_)
  generalize wc.drew=pp at av ap au aw aa ac ab ad ah HB HL536_0 HL536_1 jq dv dw cz cg cA ct cu cB hHeld ⊢
  refine pq_ HT_.out 0 105 (bt 23 1) (h:=?_)
  refine pq_ HT_.out 2 107 (bt 23 5) (h:=?_)
  refine pq_ HT_.out 3 108 (bt 23 13) (h:=?_)
  refine pq_ HT_.out 4 109 (bt 23 29) (h:=?_)
  refine pq_ HT_.out 8 113 (bt 23 285) (h:=?_)
  refine pq_ HT_.out 9 114 (bt 23 797) (h:=?_)
  refine pq_ HT_.out 10 115 (bt 23 1821) (h:=?_)
  refine pq_ HT_.out 13 118 (bt 23 10013) (h:=?_)
  refine pq_ HT_.out 14 119 (bt 23 26397) (h:=?_)
  refine pq_ HT_.out 15 120 (bt 23 59165) (h:=?_)
  refine pq_ HT_.out 17 122 (bt 23 190237) (h:=?_)
  refine pq_ HT_.out 18 123 (bt 23 452381) (h:=?_)
  refine pq_ HT_.out 19 124 (bt 23 976669) (h:=?_)
  refine tq12_ HT_.out HW_.out 1 106 (bt 23 976671) hHeld (h:=?_)
  refine tq12_ HT_.out HW_.out 5 110 (bt 23 976703) hHeld (h:=?_)
  refine pq_ HT_.out 6 111 (bt 23 976767) (h:=?_)
  refine tq12_ HT_.out HW_.out 7 112 (bt 23 976895) hHeld (h:=?_)
  refine tq12_ HT_.out HW_.out 11 116 (bt 23 978943) hHeld (h:=?_)
  refine tq12_ HT_.out HW_.out 16 121 (bt 23 1044479) hHeld (h:=?_)
  refine tq12_ HT_.out HW_.out 20 125 (bt 23 2093055) hHeld (h:=?_)
  refine one_ (i:=12) (N:=some 117) (bt 23 2097151) rfl rfl (one_of HT_.out (by kernel_rfl)) (by decide) (fun K hK=>?_)
  refine goes_ Tryz.func11 (by kernel_rfl) rfl #[.agg #[.slice g6 ((rd_T43 aH (rd ao an)).f0).length g7],.int .i64 (rd az aA)] (by rfl) rfl rfl gs_ ?_
  with_reducible refine (Fz.calls m6 _ _ ((rd_T43 aH (rd ao an)).f0) (rd az aA) kz _ ?side1 ?side2 oM.out).mono ?_
  (case side1=>exact cb_ jq HB)
  (case side2=>exact ke.out)
  rintro e pq ⟨oY,rfl,ho0,hb⟩
  have HS6_:=(hb.cell (World.block_lt_of_cell? _ _ hHeld.2.2.2.2.2.2.1)).trans hHeld.2.2.2.2.2.2.1
  have HS8_:=(hb.cell (World.block_lt_of_cell? _ _ hHeld.2.2.2.2.2.2.2.2.1)).trans hHeld.2.2.2.2.2.2.2.2.1
  have HS9_:=(hb.cell (World.block_lt_of_cell? _ _ hHeld.2.2.2.2.2.2.2.2.2.1)).trans hHeld.2.2.2.2.2.2.2.2.2.1
  have HS10_:=(hb.cell (World.block_lt_of_cell? _ _ hHeld.2.2.2.2.2.2.2.2.2.2.1)).trans hHeld.2.2.2.2.2.2.2.2.2.2.1
  have HS11_:=(hb.cell (World.block_lt_of_cell? _ _ hHeld.2.2.2.2.2.2.2.2.2.2.2)).trans hHeld.2.2.2.2.2.2.2.2.2.2.2
  refine ⟨_,rfl,?_⟩
  have e2:=mk0 (Kd.R_lower (Kd.R_newM (M:=fun k_=>(w.heap.size≤k_)) ho0 (bz_ (b_ HB)) (fun k_ h_=>h_)) (bz_ (b_ HB)))
  replace av:=mk0 (Kd.N_elder' (nn_ av) (Kd.R_base ho0) hb)
  replace ap:=mk0 (Kd.N_elder' (nn_ ap) (Kd.R_base ho0) hb)
  replace au:=mk0 (Kd.R_below (r_ au) hb)
  replace aw:=mk0 (Kd.R_below (r_ aw) hb)
  replace aa:=mk0 (Kd.V_elder' (v_ aa) (Kd.R_base ho0) hb)
  replace ac:=mk0 (Kd.R_below (r_ ac) hb)
  replace ab:=mk0 (Kd.R_below (r_ ab) hb)
  replace HL536_0:=mk0 (Kd.V_elder' (v_ HL536_0) (Kd.R_base ho0) hb)
  replace HL536_1:=mk0 (Kd.V_elder' (v_ HL536_1) (Kd.R_base ho0) hb)
  replace ad:=mk0 (u_ ad hb)
  replace ah:=mk0 (u_ ah hb)
  replace dv:=mk0 (Kd.C_below (by (with_reducible repeat (first|refine Kd.C_drewN ?_ _|refine Kd.C_drew ?_|refine Kd.C_alloc ?_ _));exact dv.out) hb)
  replace dw:=mk0 (Kd.C_below (by (with_reducible repeat (first|refine Kd.C_drewN ?_ _|refine Kd.C_drew ?_|refine Kd.C_alloc ?_ _));exact dw.out) hb)
  replace HB:=mk0 (bt_ (b_ HB) hb)
  have hM:=e2
  clear e2
  (try clear hb)
  (try clear hk)
  (try clear hi)
  (try clear ho0)
  obtain ⟨mo,mq,ly⟩:=Kd.R_slice hM.out
  (first|subst ly|(injection ly with f1_ f2_ f3_;have f4_:=f1_.symm;have f5_:=f3_.symm;clear f1_ f2_ f3_;subst f4_;subst f5_))
  refine hK.out _ _ ⟨bk_ ad 0,bk_ ad 1,bk_ ad 2,bk_ ad 3,bk_ ad 4,bk_ ad 5,HS6_,((bc_ HB ib :)),HS8_,HS9_,HS10_,HS11_⟩ (fun hHeld=>?_)
  clear hK K
  refine norm_ (a':=?_) ?_ ?_
  rotate_left
  ·show Act.put _ (some 117) _=_
   simp only [z_]
   rfl
  refine one_ (i:=21) (N:=some 126) (bt 23 4194303) rfl rfl (one_of HT_.out (by kernel_rfl)) (by decide) (fun K hK=>?_)
  refine goes_ Tryz.func10 (by kernel_rfl) rfl #[.slice mo kz.length mq,.agg #[.slice g8 ((rd_T34 am aC).f0).length g9,.slice i0 ((rd_T34 am aC).f1).length i1],.int .i64 (rd ao an)] (by rfl) rfl rfl gs_ ?_
  with_reducible refine (Fr.calls m6 _ _ kz _ _ ((rd_T34 am aC).f0) _ _ ((rd_T34 am aC).f1) (rd ao an) lr _ ?side1 ?side2 ?side3 ?side4 ?side5 ?side6 oN.out).mono ?_
  (case side1=>exact cr_ hM)
  (case side2=>exact (Kd.R_reads' hM.out).2.1)
  (case side3=>repeat (first|exact (by repeat (first|(with_reducible exact dv.out)|(with_reducible refine Kd.C_alloc ?_ _)|(with_reducible refine Kd.C_drewN ?_ _)|(with_reducible refine Kd.C_drew ?_)|exact dv.out))|(with_reducible refine Kd.C_alloc ?_ _)|(with_reducible refine Kd.C_drewN ?_ _)|(with_reducible refine Kd.C_drew ?_)))
  (case side4=>exact kf.out)
  (case side5=>repeat (first|exact (by repeat (first|(with_reducible exact dw.out)|(with_reducible refine Kd.C_alloc ?_ _)|(with_reducible refine Kd.C_drewN ?_ _)|(with_reducible refine Kd.C_drew ?_)|exact dw.out))|(with_reducible refine Kd.C_alloc ?_ _)|(with_reducible refine Kd.C_drewN ?_ _)|(with_reducible refine Kd.C_drew ?_)))
  (case side6=>exact kg.out)
  rintro e pr ⟨oZ,rfl,ho0,hb⟩
  have HS6_:=(hb.cell (World.block_lt_of_cell? _ _ hHeld.2.2.2.2.2.2.1)).trans hHeld.2.2.2.2.2.2.1
  have HS8_:=(hb.cell (World.block_lt_of_cell? _ _ hHeld.2.2.2.2.2.2.2.2.1)).trans hHeld.2.2.2.2.2.2.2.2.1
  have HS9_:=(hb.cell (World.block_lt_of_cell? _ _ hHeld.2.2.2.2.2.2.2.2.2.1)).trans hHeld.2.2.2.2.2.2.2.2.2.1
  have HS10_:=(hb.cell (World.block_lt_of_cell? _ _ hHeld.2.2.2.2.2.2.2.2.2.2.1)).trans hHeld.2.2.2.2.2.2.2.2.2.2.1
  have HS11_:=(hb.cell (World.block_lt_of_cell? _ _ hHeld.2.2.2.2.2.2.2.2.2.2.2)).trans hHeld.2.2.2.2.2.2.2.2.2.2.2
  refine ⟨_,rfl,?_⟩
  have b6:=mk0 (Kd.R_lower (Kd.R_new' (Kd.R_newM (M:=fun k_=>(w.heap.size≤k_)) ho0 (bz_ (b_ HB)) (fun k_ h_=>h_)) (Kd.R_lt (r_ hM))) (bz_ (b_ HB)))
  replace av:=mk0 (Kd.N_elder' (nn_ av) (Kd.R_base ho0) hb)
  replace ap:=mk0 (Kd.N_elder' (nn_ ap) (Kd.R_base ho0) hb)
  replace au:=mk0 (Kd.R_below (r_ au) hb)
  replace aw:=mk0 (Kd.R_below (r_ aw) hb)
  replace aa:=mk0 (Kd.V_elder' (v_ aa) (Kd.R_base ho0) hb)
  replace ac:=mk0 (Kd.R_below (r_ ac) hb)
  replace ab:=mk0 (Kd.R_below (r_ ab) hb)
  replace HL536_0:=mk0 (Kd.V_elder' (v_ HL536_0) (Kd.R_base ho0) hb)
  replace HL536_1:=mk0 (Kd.V_elder' (v_ HL536_1) (Kd.R_base ho0) hb)
  replace hM:=mk0 (Kd.R_elder' (r_ hM) (Kd.R_base ho0) hb)
  replace ad:=mk0 (u_ ad hb)
  replace ah:=mk0 (u_ ah hb)
  replace dv:=mk0 (Kd.C_below (by (with_reducible repeat (first|refine Kd.C_drewN ?_ _|refine Kd.C_drew ?_|refine Kd.C_alloc ?_ _));exact dv.out) hb)
  replace dw:=mk0 (Kd.C_below (by (with_reducible repeat (first|refine Kd.C_drewN ?_ _|refine Kd.C_drew ?_|refine Kd.C_alloc ?_ _));exact dw.out) hb)
  replace HB:=mk0 (bt_ (b_ HB) hb)
  have lz:=b6
  clear b6
  (try clear hb)
  (try clear hk)
  (try clear hi)
  (try clear ho0)
  refine hK.out _ _ ⟨bk_ ad 0,bk_ ad 1,bk_ ad 2,bk_ ad 3,bk_ ad 4,bk_ ad 5,HS6_,((bc_ HB ib :)),HS8_,HS9_,HS10_,HS11_⟩ (fun hHeld=>?_)
  clear hK K
  refine norm_ (a':=?_) ?_ ?_
  rotate_left
  ·show Act.put _ (some 126) _=_
   simp only [z_]
   rfl
  refine pq_ HT_.out 22 14 (bt 23 8388607) (h:=?_)
  refine done_ (done_of HT_.out (by kernel_rfl)) ?_
  try go_wp2
  go_meet
  case rel=>exact ⟨_,(lr),H',⟨by have:=ea.out;have:=co.out;have:=cw.out;have:=eN.out;have:=cH.out;have:=fy.out;have:=cX.out;have:=db.out;first|omega|exact Nat.le_refl _⟩,⟨n2_ (Kd.N_mono av.out (fun _ hk=>⟨hk.1.1.1,⟨hk.1.1.2.1,⟨hk.1.1.2.2.1,⟨hk.1.1.2.2.2.1,⟨hk.2,⟨hk.1.1.2.2.2.2.1,⟨hk.1.1.2.2.2.2.2.1,⟨hk.1.1.2.2.2.2.2.2.1,hk.1.1.2.2.2.2.2.2.2⟩⟩⟩⟩⟩⟩⟩⟩))⟩,⟨n2_ (Kd.N_mono ap.out (fun _ hk=>⟨hk.1.1.1,⟨hk.1.1.2.1,⟨hk.1.1.2.2.1,⟨hk.1.1.2.2.2.1,⟨hk.2,⟨hk.1.1.2.2.2.2.1,⟨hk.1.1.2.2.2.2.2.1,⟨hk.1.1.2.2.2.2.2.2.1,hk.1.1.2.2.2.2.2.2.2⟩⟩⟩⟩⟩⟩⟩⟩))⟩,⟨r2_ au.out⟩,⟨r2_ aw.out⟩,⟨r2_ (Kd.R_mono lz.out (fun _ hk=>hk.1.1))⟩,⟨v2_ (Kd.V_mono aa.out (fun _ hk=>⟨hk.1.1.1,⟨hk.1.1.2.1,⟨hk.1.1.2.2.1,⟨hk.1.1.2.2.2.1,⟨hk.1.1.2.2.2.2.1,⟨hk.2,⟨hk.1.1.2.2.2.2.2.1,⟨hk.1.1.2.2.2.2.2.2.1,⟨hk.1.1.2.2.2.2.2.2.2.1,hk.1.1.2.2.2.2.2.2.2.2⟩⟩⟩⟩⟩⟩⟩⟩⟩))⟩,⟨r2_ ac.out⟩,⟨r2_ ab.out⟩,⟨h_ ad⟩,⟨h_ ah⟩,⟨b_ HB⟩⟩
 clear HC68
 try clear a6
 try clear a7
 try clear bO bP bQ bR bS bT bp bq br bs bu bv
 try clear bU bV bW bX bY bZ bw bx bz bA bB bC
 try clear ca cb cc cd ce cf bD bE bF bG bH bI
 try clear cp cq bL bM
 try clear aX aY aZ ba bb bc
 try clear bd be bf bg bh bi
 try clear bj bk bl bm bn bo
 try clear bJ bK
 try clear dy
 try clear dz
 obtain ⟨kq,aT,HA,dt,av,ap,au,aw,aE,aa,ac,ab,ad,ah,HB⟩:=hcut
 cases kq with
 | zero=>exact absurd HA.out (by simp [Fa.j8])
 | succ n8=>
 have H:=HA.out
 clear HA
 simp only [Fa.j8] at H
 as_aux_lemma=>
 have H':=mk0 H
 clear H
 go_wp2
 go_loopg [15] n8 (fun kq v15 w'=>∃ (aM:Int),v15 = .int .i64 aM∧Fc (Fa.l3 kq aJ cG am ao az aC aV an aA aW aT aM aH ax aK aG ay aI ai af=some r)∧Fc (kq≤n8)∧Fc (Kd.N k43 43 w' w.heap.size (fun k_=>(P0_1_ k_∨w.heap.size≤k_)∧some k_≠((.slice (some aD) am.length aN):Value).ownBlock∧some k_≠(a0:Value).ownBlock∧some k_≠(a1:Value).ownBlock∧some k_≠(u14:Value).ownBlock∧some k_≠((.slice aq ai.length ar):Value).ownBlock∧some k_≠((.slice ak af.length al):Value).ownBlock∧k_≠ag∧k_≠ae) a2 aJ)∧Fc (Kd.N k34 34 w' w.heap.size (fun k_=>(P0_1_ k_∨w.heap.size≤k_)∧some k_≠(a2:Value).ownBlock∧some k_≠(a0:Value).ownBlock∧some k_≠(a1:Value).ownBlock∧some k_≠(u14:Value).ownBlock∧some k_≠((.slice aq ai.length ar):Value).ownBlock∧some k_≠((.slice ak af.length al):Value).ownBlock∧k_≠ag∧k_≠ae) (.slice (some aD) am.length aN) am)∧Fc (Kd.R (Kd.int .i64) 3 w' w.heap.size (fun k_=>(w.heap.size≤k_)∧some k_≠(a1:Value).ownBlock∧some k_≠((.slice ak af.length al):Value).ownBlock) a0 ao)∧Fc (Kd.R (Kd.int .i64) 3 w' w.heap.size (fun k_=>(w.heap.size≤k_)∧some k_≠(a0:Value).ownBlock∧some k_≠((.slice ak af.length al):Value).ownBlock) a1 az)∧Fc (Kd.R k50 50 w' w.heap.size (fun k_=>(w.heap.size≤k_)) u14 aT)∧Fc (Kd.V k34 34 w' w.heap.size (fun k_=>(P0_1_ k_∨w.heap.size≤k_)∧some k_≠(a2:Value).ownBlock∧some k_≠((.slice (some aD) am.length aN):Value).ownBlock∧some k_≠(a0:Value).ownBlock∧some k_≠(a1:Value).ownBlock∧some k_≠(u14:Value).ownBlock∧some k_≠((.slice aq ai.length ar):Value).ownBlock∧some k_≠((.slice ak af.length al):Value).ownBlock∧k_≠ag∧k_≠ae) (.slice A0_1 ax.length c0_1) ax)∧Fc (Kd.R k72 72 w' w.heap.size (fun k_=>(w.heap.size≤k_)) (.slice aq ai.length ar) ai)∧Fc (Kd.R (Kd.int .i64) 3 w' w.heap.size (fun k_=>(w.heap.size≤k_)∧some k_≠(a0:Value).ownBlock∧some k_≠(a1:Value).ownBlock) (.slice ak af.length al) af)∧Fc (w'.heap[ag]? = some (.cells #[(.slice A0_0 aH.length c0_0),(.slice A0_1 ax.length c0_1),(.slice A0_2 aK.length c0_2),(.slice A0_3 aG.length c0_3),(.slice A0_4 ay.length c0_4),(.slice A0_5 aI.length c0_5)] 28 (0,0)))∧Fc (w'.heap[ae]? = some (.cells #[(.slice aq ai.length ar),(.slice ak af.length al)] 34 (0,0)))∧Fc (Below w.heap.size w w'))
 case atStart=>exact ⟨(0),sm_,H',⟨Nat.le_refl _⟩,⟨n2_ av.out⟩,⟨n2_ ap.out⟩,⟨r2_ au.out⟩,⟨r2_ aw.out⟩,⟨r2_ aE.out⟩,⟨v2_ aa.out⟩,⟨r2_ ac.out⟩,⟨r2_ ab.out⟩,⟨h_ ad⟩,⟨h_ ah⟩,⟨b_ HB⟩⟩
 clear H'
 try clear a6
 try clear a7
 try clear bO bP bQ bR bS bT bp bq br bs bu bv
 try clear bU bV bW bX bY bZ bw bx bz bA bB bC
 try clear ca cb cc cd ce cf bD bE bF bG bH bI
 try clear cp cq bL bM
 try clear aX aY aZ ba bb bc
 try clear bd be bf bg bh bi
 try clear bj bk bl bm bn bo
 try clear bJ bK
 try clear dy
 try clear dz
 obtain ⟨aM,rfl,HA,du,av,ap,au,aw,aE,aa,ac,ab,ad,ah,HB⟩:=hrel
 cases gk with
 | zero=>exact absurd HA.out (by simp [Fa.l3])
 | succ k10=>
 have H:=HA.out
 clear HA
 simp only [Fa.l3] at H
 as_aux_lemma=>
 have HC86:=mk0 H
 clear H
 go_upto_region 24 with (fail)
 go_cut [135] (fun op wc=>∃ (kq:Nat) (gE:Bool),op = .bool gE∧Fc (Fa.j10 kq aJ cG am ao az aC aV an aA aW aT aM gE aH ax aK aG ay aI ai af=some r)∧Fc (kq≤k10)∧Fc (Kd.N k43 43 wc w.heap.size (fun k_=>(P0_1_ k_∨w.heap.size≤k_)∧some k_≠((.slice (some aD) am.length aN):Value).ownBlock∧some k_≠(a0:Value).ownBlock∧some k_≠(a1:Value).ownBlock∧some k_≠(u14:Value).ownBlock∧some k_≠((.slice aq ai.length ar):Value).ownBlock∧some k_≠((.slice ak af.length al):Value).ownBlock∧k_≠ag∧k_≠ae) a2 aJ)∧Fc (Kd.N k34 34 wc w.heap.size (fun k_=>(P0_1_ k_∨w.heap.size≤k_)∧some k_≠(a2:Value).ownBlock∧some k_≠(a0:Value).ownBlock∧some k_≠(a1:Value).ownBlock∧some k_≠(u14:Value).ownBlock∧some k_≠((.slice aq ai.length ar):Value).ownBlock∧some k_≠((.slice ak af.length al):Value).ownBlock∧k_≠ag∧k_≠ae) (.slice (some aD) am.length aN) am)∧Fc (Kd.R (Kd.int .i64) 3 wc w.heap.size (fun k_=>(w.heap.size≤k_)∧some k_≠(a1:Value).ownBlock∧some k_≠((.slice ak af.length al):Value).ownBlock) a0 ao)∧Fc (Kd.R (Kd.int .i64) 3 wc w.heap.size (fun k_=>(w.heap.size≤k_)∧some k_≠(a0:Value).ownBlock∧some k_≠((.slice ak af.length al):Value).ownBlock) a1 az)∧Fc (Kd.R k50 50 wc w.heap.size (fun k_=>(w.heap.size≤k_)) u14 aT)∧Fc (Kd.V k34 34 wc w.heap.size (fun k_=>(P0_1_ k_∨w.heap.size≤k_)∧some k_≠(a2:Value).ownBlock∧some k_≠((.slice (some aD) am.length aN):Value).ownBlock∧some k_≠(a0:Value).ownBlock∧some k_≠(a1:Value).ownBlock∧some k_≠(u14:Value).ownBlock∧some k_≠((.slice aq ai.length ar):Value).ownBlock∧some k_≠((.slice ak af.length al):Value).ownBlock∧k_≠ag∧k_≠ae) (.slice A0_1 ax.length c0_1) ax)∧Fc (Kd.R k72 72 wc w.heap.size (fun k_=>(w.heap.size≤k_)) (.slice aq ai.length ar) ai)∧Fc (Kd.R (Kd.int .i64) 3 wc w.heap.size (fun k_=>(w.heap.size≤k_)∧some k_≠(a0:Value).ownBlock∧some k_≠(a1:Value).ownBlock) (.slice ak af.length al) af)∧Fc (wc.heap[ag]? = some (.cells #[(.slice A0_0 aH.length c0_0),(.slice A0_1 ax.length c0_1),(.slice A0_2 aK.length c0_2),(.slice A0_3 aG.length c0_3),(.slice A0_4 ay.length c0_4),(.slice A0_5 aI.length c0_5)] 28 (0,0)))∧Fc (wc.heap[ae]? = some (.cells #[(.slice aq ai.length ar),(.slice ak af.length al)] 34 (0,0)))∧Fc (Below w.heap.size w wc))
 case first=>
  have H:=HC86.out
  clear HC86
  by_cases m1:aM<(aG.length:Int)
  ·rw [if_pos m1] at H
   have eO:decide (aM<(aG.length:Int))=true:=decide_eq_true m1
   clear m1
   (first|rw [eO]|(simp only [i64_w,i32_w];rw [eO])|skip)
   have H':=mk0 H
   clear H
   have mV:=aU.out
   have mW:=cn.out
   obtain ⟨ew,ex,ey,ez,eA,eB,dc,dd,de,df,dg,dh⟩:=c6_ ad
   go_wp2
   go_meet
   case rel=>exact ⟨_,(decide (aM<6)),sm_,H',⟨by have:=ea.out;have:=co.out;have:=cw.out;have:=eN.out;have:=cH.out;have:=fy.out;have:=cX.out;have:=db.out;have:=dt.out;have:=du.out;first|omega|exact Nat.le_refl _⟩,⟨n2_ av.out⟩,⟨n2_ ap.out⟩,⟨r2_ au.out⟩,⟨r2_ aw.out⟩,⟨r2_ aE.out⟩,⟨v2_ aa.out⟩,⟨r2_ ac.out⟩,⟨r2_ ab.out⟩,⟨h_ ad⟩,⟨h_ ah⟩,⟨b_ HB⟩⟩
  rw [if_neg m1] at H
  have eO:decide (aM<(aG.length:Int))=false:=decide_eq_false m1
  clear m1
  (first|rw [eO]|(simp only [i64_w,i32_w];rw [eO])|skip)
  have H':=mk0 H
  clear H
  have mX:=aU.out
  have mY:=cn.out
  obtain ⟨eC,eD,eE,eF,eG,eH,di,dj,dk,dl,dm,dn⟩:=c6_ ad
  go_wp2
  go_meet
  case rel=>exact ⟨_,(false),sm_,H',⟨by have:=ea.out;have:=co.out;have:=cw.out;have:=eN.out;have:=cH.out;have:=fy.out;have:=cX.out;have:=db.out;have:=dt.out;have:=du.out;first|omega|exact Nat.le_refl _⟩,⟨n2_ av.out⟩,⟨n2_ ap.out⟩,⟨r2_ au.out⟩,⟨r2_ aw.out⟩,⟨r2_ aE.out⟩,⟨v2_ aa.out⟩,⟨r2_ ac.out⟩,⟨r2_ ab.out⟩,⟨h_ ad⟩,⟨h_ ah⟩,⟨b_ HB⟩⟩
 clear HC86
 try clear c9
 try clear a6
 try clear a7
 try clear bO bP bQ bR bS bT bp bq br bs bu bv
 try clear bU bV bW bX bY bZ bw bx bz bA bB bC
 try clear ca cb cc cd ce cf bD bE bF bG bH bI
 try clear cp cq bL bM
 try clear aX aY aZ ba bb bc
 try clear bd be bf bg bh bi
 try clear bj bk bl bm bn bo
 try clear bJ bK
 try clear dy
 try clear dz
 obtain ⟨kq,gE,rfl,HA,dx,av,ap,au,aw,aE,aa,ac,ab,ad,ah,HB⟩:=hcut
 cases kq with
 | zero=>exact absurd HA.out (by simp [Fa.j10])
 | succ i2=>
 have H:=HA.out
 clear HA
 simp only [Fa.j10] at H
 as_aux_lemma=>
 by_cases d3:gE=true
 ·subst d3
  rw [if_pos rfl] at H
  by_cases e9:0≤an
  rotate_left
  ·rw [if_neg e9] at H
   exact absurd H (by simp)
  rw [if_pos e9] at H
  have hN:decide (0≤an)=true:=decide_eq_true e9
  clear e9
  by_cases f3:an<(ao.length:Int)
  rotate_left
  ·rw [if_neg f3] at H
   exact absurd H (by simp)
  rw [if_pos f3] at H
  have hO:decide (an<(ao.length:Int))=true:=decide_eq_true f3
  clear f3
  by_cases f4:0≤aM
  rotate_left
  ·rw [if_neg f4] at H
   exact absurd H (by simp)
  rw [if_pos f4] at H
  have hP:decide (0≤aM)=true:=decide_eq_true f4
  clear f4
  by_cases f5:aM<(aG.length:Int)
  rotate_left
  ·rw [if_neg f5] at H
   exact absurd H (by simp)
  rw [if_pos f5] at H
  have hQ:decide (aM<(aG.length:Int))=true:=decide_eq_true f5
  clear f5
  by_cases f6:0≤aA
  rotate_left
  ·rw [if_neg f6] at H
   exact absurd H (by simp)
  rw [if_pos f6] at H
  have hR:decide (0≤aA)=true:=decide_eq_true f6
  clear f6
  by_cases f7:aA<(az.length:Int)
  rotate_left
  ·rw [if_neg f7] at H
   exact absurd H (by simp)
  rw [if_pos f7] at H
  have hS:decide (aA<(az.length:Int))=true:=decide_eq_true f7
  clear f7
  replace H:=ob_ H
  obtain ⟨⟨kh,iR⟩,oO,H⟩:=H
  try dsimp only at H
  have HC100:=mk0 H
  clear H
  try go_wp2
  replace av:=mk0 (Kd.N_drew av.out)
  replace ap:=mk0 (Kd.N_drew ap.out)
  replace au:=mk0 (Rd_ au.out)
  replace aw:=mk0 (Rd_ aw.out)
  replace aE:=mk0 (Rd_ aE.out)
  replace aa:=mk0 (Kd.V_drew aa.out)
  replace ac:=mk0 (Rd_ ac.out)
  replace ab:=mk0 (Rd_ ab.out)
  replace ad:=mk0 (bD_ ad.out)
  replace ah:=mk0 (bD_ ah.out)
  replace HB:=mk0 (b1_ HB.out)
  obtain ⟨mZ,cC,ko⟩:=Kd.R_slice au.out
  (first|subst ko|(injection ko with f1_ f2_ f3_;have f4_:=f1_.symm;have f5_:=f3_.symm;clear f1_ f2_ f3_;subst f4_;subst f5_))
  have gw:0≤(an:Int):=od_
  have gx:an<(ao.length:Int):=od_
  obtain ⟨cx,mr,cY⟩:=Kd.at_int (Kd.R_reads' au.out).2.2 an gw gx
  cases mr
  replace gw:=eq_true gw
  replace gx:=eq_true gx
  have gy:0≤(aM:Int):=od_
  have gz:aM<(aG.length:Int):=od_
  obtain ⟨gg,ms,cU⟩:=Kd.at_string hH.out aM gy gz
  have jv:=cU
  cases ms
  replace cU:=(bc_ HB cU :)
  replace gy:=eq_true gy
  replace gz:=eq_true gz
  obtain ⟨na,cD,kp⟩:=Kd.R_slice aw.out
  (first|subst kp|(injection kp with f1_ f2_ f3_;have f4_:=f1_.symm;have f5_:=f3_.symm;clear f1_ f2_ f3_;subst f4_;subst f5_))
  have gA:0≤(aA:Int):=od_
  have gB:aA<(az.length:Int):=od_
  obtain ⟨cy,mt,cZ⟩:=Kd.at_int (Kd.R_reads' aw.out).2.2 aA gA gB
  cases mt
  replace gA:=eq_true gA
  replace gB:=eq_true gB
  obtain ⟨ec,ed,kr⟩:=Kd.N_slice av.out
  (first|subst kr|(injection kr with f1_ f2_ f3_;have f4_:=f1_.symm;have f5_:=f3_.symm;clear f1_ f2_ f3_;subst f4_;subst f5_))
  refine start_ (n:=21) (S:=fun w'=>w'.cell? ⟨ae,0,none⟩=some (.slice aq ai.length ar)∧w'.cell? ⟨ae,1,none⟩=some (.slice ak af.length al)∧w'.cell? ⟨ag,0,none⟩=some (.slice A0_0 aH.length c0_0)∧w'.cell? ⟨ag,1,none⟩=some (.slice A0_1 ax.length c0_1)∧w'.cell? ⟨ag,2,none⟩=some (.slice A0_2 aK.length c0_2)∧w'.cell? ⟨ag,3,none⟩=some (.slice (some gg) aG.length c0_3)∧w'.cell? ⟨ag,4,none⟩=some (.slice A0_4 ay.length c0_4)∧w'.cell? ⟨ag,5,none⟩=some (.slice A0_5 aI.length c0_5)∧w'.cell? (cx.add (an).toNat)=some (.int .i64 (rd ao an))∧w'.cell? (gg.add (aM).toNat)=some (.string (rdOf ByteArray.empty aG aM))∧w'.cell? (cy.add (aA).toNat)=some (.int .i64 (rd az aA))) (ds:=[]) (bt 21 0) (by kernel_rfl) rfl rfl ⟨bk_ ah 0,bk_ ah 1,bk_ ad 0,bk_ ad 1,bk_ ad 2,bk_ ad 3,bk_ ad 4,bk_ ad 5,cY,((bc_ HB jv :)),cZ⟩ (fun hHeld=>?_);refine with_tabW Fa.tab26 Fa.bits26 (fun HT_ HW_=>?_)
  generalize wc.drew=o0 at av ap au aw aE aa ac ab ad ah HB cY cU cZ hHeld ⊢
  refine pq_ HT_.out 0 139 (bt 21 1) (h:=?_)
  refine pq_ HT_.out 2 141 (bt 21 5) (h:=?_)
  refine pq_ HT_.out 3 142 (bt 21 13) (h:=?_)
  refine pq_ HT_.out 4 143 (bt 21 29) (h:=?_)
  refine pq_ HT_.out 6 145 (bt 21 93) (h:=?_)
  refine pq_ HT_.out 8 147 (bt 21 349) (h:=?_)
  refine pq_ HT_.out 11 150 (bt 21 2397) (h:=?_)
  refine pq_ HT_.out 12 151 (bt 21 6493) (h:=?_)
  refine pq_ HT_.out 13 152 (bt 21 14685) (h:=?_)
  refine tq11_ HT_.out HW_.out 1 140 (bt 21 14687) hHeld (h:=?_)
  refine tq11_ HT_.out HW_.out 5 144 (bt 21 14719) hHeld (h:=?_)
  refine tq11_ HT_.out HW_.out 7 146 (bt 21 14847) hHeld (h:=?_)
  refine pq_ HT_.out 9 148 (bt 21 15359) (h:=?_)
  refine tq11_ HT_.out HW_.out 10 149 (bt 21 16383) hHeld (h:=?_)
  refine tq11_ HT_.out HW_.out 14 153 (bt 21 32767) hHeld (h:=?_)
  refine one_ (i:=15) (N:=some 154) (bt 21 65535) rfl rfl (one_of HT_.out (by kernel_rfl)) (by decide) (fun K hK=>?_)
  refine goes_ Tryz.func12 (by kernel_rfl) rfl #[.slice ec aJ.length ed,.agg #[.slice aq ai.length ar,.slice ak af.length al],.int .i64 (rd ao an),.string (rdOf ByteArray.empty aG aM),.int .i64 (rd az aA)] (by rfl) rfl rfl gs_ ?_
  with_reducible refine (Fq.calls i2 _ _ aJ _ _ ai _ _ af (rd ao an) (rdOf ByteArray.empty aG aM) (rd az aA) kh iR _ ?side1 ?side2 ?side3 ?side4 ?side5 ?side6 oO.out).mono ?_
  (case side1=>exact cn_ av)
  (case side2=>exact (Kd.N_reads' av.out).2.1)
  (case side3=>exact cr_ ac)
  (case side4=>exact (Kd.R_reads' ac.out).2.1)
  (case side5=>exact cr_ ab)
  (case side6=>exact (Kd.R_reads' ab.out).2.1)
  rintro e o1 ⟨rfl,hb⟩
  have HS8_:=(hb.cell (World.block_lt_of_cell? _ _ hHeld.2.2.2.2.2.2.2.2.1)).trans hHeld.2.2.2.2.2.2.2.2.1
  have HS10_:=(hb.cell (World.block_lt_of_cell? _ _ hHeld.2.2.2.2.2.2.2.2.2.2)).trans hHeld.2.2.2.2.2.2.2.2.2.2
  refine ⟨_,rfl,?_⟩
  replace av:=mk0 (Kd.N_below (nn_ av) hb)
  replace ap:=mk0 (Kd.N_below (nn_ ap) hb)
  replace au:=mk0 (Kd.R_below (r_ au) hb)
  replace aw:=mk0 (Kd.R_below (r_ aw) hb)
  replace aE:=mk0 (Kd.R_below (r_ aE) hb)
  replace aa:=mk0 (Kd.V_below (v_ aa) hb)
  replace ac:=mk0 (Kd.R_below (r_ ac) hb)
  replace ab:=mk0 (Kd.R_below (r_ ab) hb)
  replace ad:=mk0 (u_ ad hb)
  replace ah:=mk0 (u_ ah hb)
  replace HB:=mk0 (bt_ (b_ HB) hb)
  (try clear hb)
  (try clear hk)
  (try clear hi)
  refine hK.out _ _ ⟨bk_ ah 0,bk_ ah 1,bk_ ad 0,bk_ ad 1,bk_ ad 2,bk_ ad 3,bk_ ad 4,bk_ ad 5,HS8_,((bc_ HB jv :)),HS10_⟩ (fun hHeld=>?_)
  clear hK K
  refine norm_ (a':=?_) ?_ ?_
  rotate_left
  ·show Act.put _ (some 154) _=_
   simp only [z_]
   rfl
  refine pq_ HT_.out 16 138 (bt 21 131071) (h:=?_)
  refine pq_ HT_.out 17 155 (bt 21 262143) (h:=?_)
  refine pq_ HT_.out 18 156 (bt 21 524287) (h:=?_)
  refine pq_ HT_.out 19 16 (bt 21 1048575) (h:=?_)
  refine pq_ HT_.out 20 17 (bt 21 2097151) (h:=?_)
  refine done_ (done_of HT_.out (by kernel_rfl)) ?_
  go_upto_region 28 with (fail)
  go_cut [165] (fun oq wc=>∃ (kq:Nat) (gF:Bool),oq = .bool gF∧Fc (Fa.j11 kq aJ cG am ao az aC aV an aA aW aT aM kh iR 1 (⟨#[]⟩:ByteArray) gF aH ax aK aG ay aI ai af=some r)∧Fc (kq≤i2)∧Fc (Kd.N k43 43 wc w.heap.size (fun k_=>(P0_1_ k_∨w.heap.size≤k_)∧some k_≠((.slice (some aD) am.length aN):Value).ownBlock∧some k_≠((.slice (some cx) ao.length cC):Value).ownBlock∧some k_≠((.slice (some cy) az.length cD):Value).ownBlock∧some k_≠(u14:Value).ownBlock∧some k_≠((.slice aq ai.length ar):Value).ownBlock∧some k_≠((.slice ak af.length al):Value).ownBlock∧k_≠ag∧k_≠ae) (.slice ec aJ.length ed) aJ)∧Fc (Kd.N k34 34 wc w.heap.size (fun k_=>(P0_1_ k_∨w.heap.size≤k_)∧some k_≠((.slice ec aJ.length ed):Value).ownBlock∧some k_≠((.slice (some cx) ao.length cC):Value).ownBlock∧some k_≠((.slice (some cy) az.length cD):Value).ownBlock∧some k_≠(u14:Value).ownBlock∧some k_≠((.slice aq ai.length ar):Value).ownBlock∧some k_≠((.slice ak af.length al):Value).ownBlock∧k_≠ag∧k_≠ae) (.slice (some aD) am.length aN) am)∧Fc (Kd.R (Kd.int .i64) 3 wc w.heap.size (fun k_=>(w.heap.size≤k_)∧some k_≠((.slice (some cy) az.length cD):Value).ownBlock∧some k_≠((.slice ak af.length al):Value).ownBlock) (.slice (some cx) ao.length cC) ao)∧Fc (Kd.R (Kd.int .i64) 3 wc w.heap.size (fun k_=>(w.heap.size≤k_)∧some k_≠((.slice (some cx) ao.length cC):Value).ownBlock∧some k_≠((.slice ak af.length al):Value).ownBlock) (.slice (some cy) az.length cD) az)∧Fc (Kd.R k50 50 wc w.heap.size (fun k_=>(w.heap.size≤k_)) u14 aT)∧Fc (Kd.V k34 34 wc w.heap.size (fun k_=>(P0_1_ k_∨w.heap.size≤k_)∧some k_≠((.slice ec aJ.length ed):Value).ownBlock∧some k_≠((.slice (some aD) am.length aN):Value).ownBlock∧some k_≠((.slice (some cx) ao.length cC):Value).ownBlock∧some k_≠((.slice (some cy) az.length cD):Value).ownBlock∧some k_≠(u14:Value).ownBlock∧some k_≠((.slice aq ai.length ar):Value).ownBlock∧some k_≠((.slice ak af.length al):Value).ownBlock∧k_≠ag∧k_≠ae) (.slice A0_1 ax.length c0_1) ax)∧Fc (Kd.R k72 72 wc w.heap.size (fun k_=>(w.heap.size≤k_)) (.slice aq ai.length ar) ai)∧Fc (Kd.R (Kd.int .i64) 3 wc w.heap.size (fun k_=>(w.heap.size≤k_)∧some k_≠((.slice (some cx) ao.length cC):Value).ownBlock∧some k_≠((.slice (some cy) az.length cD):Value).ownBlock) (.slice ak af.length al) af)∧Fc (wc.heap[ag]? = some (.cells #[(.slice A0_0 aH.length c0_0),(.slice A0_1 ax.length c0_1),(.slice A0_2 aK.length c0_2),(.slice (some gg) aG.length c0_3),(.slice A0_4 ay.length c0_4),(.slice A0_5 aI.length c0_5)] 28 (0,0)))∧Fc (wc.heap[ae]? = some (.cells #[(.slice aq ai.length ar),(.slice ak af.length al)] 34 (0,0)))∧Fc (Below w.heap.size w wc))
  case first=>
   have H:=HC100.out
   clear HC100
   by_cases i3:aW=true
   rotate_left
   ·replace i3:=Bool.eq_false_iff.mpr i3
    subst i3
    rw [if_neg nf_] at H
    have H':=mk0 H
    clear H
    go_wp2
    go_meet
    case rel=>exact ⟨_,(false),sm_,H',⟨by have:=ea.out;have:=co.out;have:=cw.out;have:=eN.out;have:=cH.out;have:=fy.out;have:=cX.out;have:=db.out;have:=dt.out;have:=du.out;have:=dx.out;first|omega|exact Nat.le_refl _⟩,⟨n2_ av.out⟩,⟨n2_ ap.out⟩,⟨r2_ au.out⟩,⟨r2_ aw.out⟩,⟨r2_ aE.out⟩,⟨v2_ aa.out⟩,⟨r2_ ac.out⟩,⟨r2_ ab.out⟩,⟨h_ ad⟩,⟨h_ ah⟩,⟨b_ HB⟩⟩
   subst i3
   rw [if_pos rfl] at H
   replace H:=ob_ H
   obtain ⟨lA,os,H⟩:=H
   try dsimp only at H
   have H':=mk0 H
   clear H
   have mu:=aU.out
   have mv:=cn.out
   obtain ⟨ee,ef,eg,eh,ei,ej,ek,el,em,en,eo,ep⟩:=c6_ ad
   have gC:0≤(aM:Int):=od_
   have gD:aM<(aG.length:Int):=od_
   obtain ⟨lB,mw,da⟩:=Kd.at_string hH.out aM gC gD
   obtain rfl:gg=lB:=(by injection mw)
   replace da:=(bc_ HB da :)
   replace gC:=eq_true gC
   replace gD:=eq_true gD
   go_wp2_with (first|(go_at_call 13;(with_reducible refine (F9.calls (rdOf ByteArray.empty aG aM) lA _ os.out).mono ?_);rintro e w' ⟨rfl,⟨nd,rfl⟩⟩))
   go_meet
   case rel=>exact ⟨_,(lA),sm_,H',⟨by have:=ea.out;have:=co.out;have:=cw.out;have:=eN.out;have:=cH.out;have:=fy.out;have:=cX.out;have:=db.out;have:=dt.out;have:=du.out;have:=dx.out;first|omega|exact Nat.le_refl _⟩,⟨n2_ av.out⟩,⟨n2_ ap.out⟩,⟨r2_ au.out⟩,⟨r2_ aw.out⟩,⟨r2_ aE.out⟩,⟨v2_ aa.out⟩,⟨r2_ ac.out⟩,⟨r2_ ab.out⟩,⟨h_ ad⟩,⟨h_ ah⟩,⟨b_ HB⟩⟩
  clear HC100
  try clear c9
  try clear a6
  try clear a7
  try clear d3
  try clear e9
  try clear hN
  try clear f3
  try clear hO
  try clear f4
  try clear hP
  try clear f5
  try clear hQ
  try clear f6
  try clear hR
  try clear f7
  try clear hS
  try clear bO bP bQ bR bS bT bp bq br bs bu bv
  try clear bU bV bW bX bY bZ bw bx bz bA bB bC
  try clear ca cb cc cd ce cf bD bE bF bG bH bI
  try clear cp cq bL bM
  try clear aX aY aZ ba bb bc
  try clear bd be bf bg bh bi
  try clear bj bk bl bm bn bo
  try clear bJ bK
  try clear cY
  try clear cU
  try clear cZ
  try clear dy
  try clear gw
  try clear gy
  try clear gA
  try clear dz
  try clear gx
  try clear gz
  try clear gB
  obtain ⟨kq,gF,rfl,HA,iS,av,ap,au,aw,aE,aa,ac,ab,ad,ah,HB⟩:=hcut
  cases kq with
  | zero=>exact absurd HA.out (by simp [Fa.j11])
  | succ m7=>
  have H:=HA.out
  clear HA
  simp only [Fa.j11] at H
  as_aux_lemma=>
  have HC110:=mk0 H
  clear H
  go_upto_if 165 with (fail)
  go_cut [18,19] (fun v18 v19 wc=>∃ (kq:Nat) (dU:Int) (gG:ByteArray),v18 = .int .i64 dU∧v19 = .string gG∧Fc (Fa.j12 kq aJ cG am ao az aC aV an aA aW aT aM kh iR dU gG aH ax aK aG ay aI ai af=some r)∧Fc (kq≤m7)∧Fc (Kd.N k43 43 wc w.heap.size (fun k_=>(P0_1_ k_∨w.heap.size≤k_)∧some k_≠((.slice (some aD) am.length aN):Value).ownBlock∧some k_≠((.slice (some cx) ao.length cC):Value).ownBlock∧some k_≠((.slice (some cy) az.length cD):Value).ownBlock∧some k_≠(u14:Value).ownBlock∧some k_≠((.slice aq ai.length ar):Value).ownBlock∧some k_≠((.slice ak af.length al):Value).ownBlock∧k_≠ag∧k_≠ae) (.slice ec aJ.length ed) aJ)∧Fc (Kd.N k34 34 wc w.heap.size (fun k_=>(P0_1_ k_∨w.heap.size≤k_)∧some k_≠((.slice ec aJ.length ed):Value).ownBlock∧some k_≠((.slice (some cx) ao.length cC):Value).ownBlock∧some k_≠((.slice (some cy) az.length cD):Value).ownBlock∧some k_≠(u14:Value).ownBlock∧some k_≠((.slice aq ai.length ar):Value).ownBlock∧some k_≠((.slice ak af.length al):Value).ownBlock∧k_≠ag∧k_≠ae) (.slice (some aD) am.length aN) am)∧Fc (Kd.R (Kd.int .i64) 3 wc w.heap.size (fun k_=>(w.heap.size≤k_)∧some k_≠((.slice (some cy) az.length cD):Value).ownBlock∧some k_≠((.slice ak af.length al):Value).ownBlock) (.slice (some cx) ao.length cC) ao)∧Fc (Kd.R (Kd.int .i64) 3 wc w.heap.size (fun k_=>(w.heap.size≤k_)∧some k_≠((.slice (some cx) ao.length cC):Value).ownBlock∧some k_≠((.slice ak af.length al):Value).ownBlock) (.slice (some cy) az.length cD) az)∧Fc (Kd.R k50 50 wc w.heap.size (fun k_=>(w.heap.size≤k_)) u14 aT)∧Fc (Kd.V k34 34 wc w.heap.size (fun k_=>(P0_1_ k_∨w.heap.size≤k_)∧some k_≠((.slice ec aJ.length ed):Value).ownBlock∧some k_≠((.slice (some aD) am.length aN):Value).ownBlock∧some k_≠((.slice (some cx) ao.length cC):Value).ownBlock∧some k_≠((.slice (some cy) az.length cD):Value).ownBlock∧some k_≠(u14:Value).ownBlock∧some k_≠((.slice aq ai.length ar):Value).ownBlock∧some k_≠((.slice ak af.length al):Value).ownBlock∧k_≠ag∧k_≠ae) (.slice A0_1 ax.length c0_1) ax)∧Fc (Kd.R k72 72 wc w.heap.size (fun k_=>(w.heap.size≤k_)) (.slice aq ai.length ar) ai)∧Fc (Kd.R (Kd.int .i64) 3 wc w.heap.size (fun k_=>(w.heap.size≤k_)∧some k_≠((.slice (some cx) ao.length cC):Value).ownBlock∧some k_≠((.slice (some cy) az.length cD):Value).ownBlock) (.slice ak af.length al) af)∧Fc (wc.heap[ag]? = some (.cells #[(.slice A0_0 aH.length c0_0),(.slice A0_1 ax.length c0_1),(.slice A0_2 aK.length c0_2),(.slice (some gg) aG.length c0_3),(.slice A0_4 ay.length c0_4),(.slice A0_5 aI.length c0_5)] 28 (0,0)))∧Fc (wc.heap[ae]? = some (.cells #[(.slice aq ai.length ar),(.slice ak af.length al)] 34 (0,0)))∧Fc (Below w.heap.size w wc))
  case first=>
   have H:=HC110.out
   clear HC110
   by_cases i4:gF=true
   rotate_left
   ·replace i4:=Bool.eq_false_iff.mpr i4
    subst i4
    rw [if_neg nf_] at H
    have H':=mk0 H
    clear H
    go_wp2
    go_meet
    case rel=>exact ⟨_,(1),((⟨#[]⟩:ByteArray)),sm_,sm_,H',⟨by have:=ea.out;have:=co.out;have:=cw.out;have:=eN.out;have:=cH.out;have:=fy.out;have:=cX.out;have:=db.out;have:=dt.out;have:=du.out;have:=dx.out;have:=iS.out;first|omega|exact Nat.le_refl _⟩,⟨n2_ av.out⟩,⟨n2_ ap.out⟩,⟨r2_ au.out⟩,⟨r2_ aw.out⟩,⟨r2_ aE.out⟩,⟨v2_ aa.out⟩,⟨r2_ ac.out⟩,⟨r2_ ab.out⟩,⟨h_ ad⟩,⟨h_ ah⟩,⟨b_ HB⟩⟩
   subst i4
   rw [if_pos rfl] at H
   by_cases i5:0≤aM
   rotate_left
   ·rw [if_neg i5] at H
    exact absurd H (by simp)
   rw [if_pos i5] at H
   have fM:decide (0≤aM)=true:=decide_eq_true i5
   clear i5
   (first|rw [fM]|(simp only [i64_w,i32_w];rw [fM])|skip)
   by_cases i6:aM<(aG.length:Int)
   rotate_left
   ·rw [if_neg i6] at H
    exact absurd H (by simp)
   rw [if_pos i6] at H
   have gO:decide (aM<(aG.length:Int))=true:=decide_eq_true i6
   clear i6
   replace H:=ob_ H
   obtain ⟨eS,n9,H⟩:=H
   try dsimp only at H
   by_cases d5:eS≥0
   rotate_left
   ·rw [if_neg d5] at H
    have gp:decide (0≤eS)=false:=decide_eq_false d5
    clear d5
    have H':=mk0 H
    clear H
    have mx:=aU.out
    have my:=cn.out
    obtain ⟨eU,eV,eW,eX,eY,eZ,fa,fb,fc,fd,fe,ff⟩:=c6_ ad
    have fN:0≤(aM:Int):=od_
    have fO:aM<(aG.length:Int):=od_
    obtain ⟨jS,kA,cV⟩:=Kd.at_string hH.out aM fN fO
    obtain rfl:gg=jS:=(by injection kA)
    replace cV:=(bc_ HB cV :)
    replace fN:=eq_true fN
    replace fO:=eq_true fO
    obtain ⟨lC,lD,lE⟩:=Kd.R_slice aE.out
    subst lE
    go_wp2_with (first|((with_reducible refine gate_callee (f:=14) rfl ?_);refine gL_ (some 172) Tryz.func14 #[.slice lC aT.length lD,.string (rdOf ByteArray.empty aG aM)] (h:=?_);(with_reducible refine (Fy.calls m7 _ _ aT (rdOf ByteArray.empty aG aM) eS _ ?side1 ?side2 n9.out).mono ?_);(case side1=>exact cr_ aE);(case side2=>exact (Kd.R_reads' aE.out).2.1);rintro e w' ⟨rfl,⟨nd,rfl⟩⟩;refine ⟨_,rfl,?_⟩))
    go_meet
    case rel=>exact ⟨_,(3),((⟨#[]⟩:ByteArray)),sm_,sm_,H',⟨by have:=ea.out;have:=co.out;have:=cw.out;have:=eN.out;have:=cH.out;have:=fy.out;have:=cX.out;have:=db.out;have:=dt.out;have:=du.out;have:=dx.out;have:=iS.out;first|omega|exact Nat.le_refl _⟩,⟨n2_ av.out⟩,⟨n2_ ap.out⟩,⟨r2_ au.out⟩,⟨r2_ aw.out⟩,⟨r2_ aE.out⟩,⟨v2_ aa.out⟩,⟨r2_ ac.out⟩,⟨r2_ ab.out⟩,⟨h_ ad⟩,⟨h_ ah⟩,⟨b_ HB⟩⟩
   rw [if_pos d5] at H
   have gp:decide (0≤eS)=true:=decide_eq_true d5
   clear d5
   by_cases i7:0≤eS
   rotate_left
   ·rw [if_neg i7] at H
    exact absurd H (by simp)
   rw [if_pos i7] at H
   have gP:decide (0≤eS)=true:=decide_eq_true i7
   clear i7
   by_cases i8:eS<(aT.length:Int)
   rotate_left
   ·rw [if_neg i8] at H
    exact absurd H (by simp)
   rw [if_pos i8] at H
   have gQ:decide (eS<(aT.length:Int))=true:=decide_eq_true i8
   clear i8
   have H':=mk0 H
   clear H
   have mz:=aU.out
   have mA:=cn.out
   obtain ⟨fg,fh,fi,fj,fk,fl,fm,fn,fo,fp,fq,fr⟩:=c6_ ad
   have fN:0≤(aM:Int):=od_
   have fO:aM<(aG.length:Int):=od_
   obtain ⟨jS,kA,cV⟩:=Kd.at_string hH.out aM fN fO
   obtain rfl:gg=jS:=(by injection kA)
   replace cV:=(bc_ HB cV :)
   replace fN:=eq_true fN
   replace fO:=eq_true fO
   obtain ⟨ii,ij,lF⟩:=Kd.R_slice aE.out
   subst lF
   try go_wp2_with (first|((with_reducible refine gate_callee (f:=14) rfl ?_);refine gL_ (some 172) Tryz.func14 #[.slice ii aT.length ij,.string (rdOf ByteArray.empty aG aM)] (h:=?_);(with_reducible refine (Fy.calls m7 _ _ aT (rdOf ByteArray.empty aG aM) eS _ ?side1 ?side2 n9.out).mono ?_);(case side1=>exact cr_ aE);(case side2=>exact (Kd.R_reads' aE.out).2.1);rintro e w' ⟨rfl,⟨nd,rfl⟩⟩;refine ⟨_,rfl,?_⟩))
   (try (rw [drewN_self wc];generalize hq_:World.drewN wc _=wc;have ny0_:Fc (Kd.R k50 50 wc w.heap.size (fun k_=>(w.heap.size≤k_)) (.slice ii aT.length ij) aT):=⟨by rw [← hq_];exact (r_ aE)⟩;have ny1_:Fc (Kd.N k43 43 wc w.heap.size _ (.slice ec aJ.length ed) aJ):=⟨by rw [← hq_];exact (n2_ av.out)⟩;have ny2_:Fc (Kd.V k34 34 wc w.heap.size _ (.slice A0_1 ax.length c0_1) ax):=⟨by rw [← hq_];exact (v2_ aa.out)⟩;have ny3_:Fc (Kd.N k34 34 wc w.heap.size _ (.slice (some aD) am.length aN) am):=⟨by rw [← hq_];exact (n2_ ap.out)⟩;have ny4_:Fc (Kd.R k72 72 wc w.heap.size (fun k_=>(w.heap.size≤k_)) (.slice aq ai.length ar) ai):=⟨by rw [← hq_];exact (r_ ac)⟩;have ny5_:Fc (Kd.R (Kd.int .i64) 3 wc w.heap.size (fun k_=>(w.heap.size≤k_)∧some k_≠(.slice (some cx) ao.length cC:Value).ownBlock∧some k_≠(.slice (some cy) az.length cD:Value).ownBlock) (.slice ak af.length al) af):=⟨by rw [← hq_];exact (r_ ab)⟩;have ny6_:Fc (Kd.R (Kd.int .i64) 3 wc w.heap.size _ (.slice (some cx) ao.length cC) ao):=⟨by rw [← hq_];exact (r2_ au.out)⟩;have ny7_:Fc (Kd.R (Kd.int .i64) 3 wc w.heap.size _ (.slice (some cy) az.length cD) az):=⟨by rw [← hq_];exact (r2_ aw.out)⟩;have ny8_:Fc (wc.heap[ag]? = some (.cells #[.slice A0_0 aH.length c0_0,.slice A0_1 ax.length c0_1,.slice A0_2 aK.length c0_2,.slice (some gg) aG.length c0_3,.slice A0_4 ay.length c0_4,.slice A0_5 aI.length c0_5] 28 (0,0))):=⟨by rw [← hq_];exact (h_ ad)⟩;have ny9_:Fc (wc.heap[ae]? = some (.cells #[.slice aq ai.length ar,.slice ak af.length al] 34 (0,0))):=⟨by rw [← hq_];exact (h_ ah)⟩;have ny10_:Fc (Below w.heap.size w wc):=⟨by rw [← hq_];exact (b_ HB)⟩;clear aE av aa ap ac ab au aw ad ah HB hq_;have aE:=ny0_;have av:=ny1_;have aa:=ny2_;have ap:=ny3_;have ac:=ny4_;have ab:=ny5_;have au:=ny6_;have aw:=ny7_;have ad:=ny8_;have ah:=ny9_;have HB:=ny10_;clear ny0_ ny1_ ny2_ ny3_ ny4_ ny5_ ny6_ ny7_ ny8_ ny9_ ny10_))
   replace av:=mk0 (Kd.N_drew av.out)
   replace ap:=mk0 (Kd.N_drew ap.out)
   replace au:=mk0 (Rd_ au.out)
   replace aw:=mk0 (Rd_ aw.out)
   replace aE:=mk0 (Rd_ aE.out)
   replace aa:=mk0 (Kd.V_drew aa.out)
   replace ac:=mk0 (Rd_ ac.out)
   replace ab:=mk0 (Rd_ ab.out)
   replace ad:=mk0 (bD_ ad.out)
   replace ah:=mk0 (bD_ ah.out)
   replace HB:=mk0 (b1_ HB.out)
   have gR:0≤(eS:Int):=od_
   have gS:eS<(aT.length:Int):=od_
   obtain ⟨jT,mB,dp,dq⟩:=at_T50 (Kd.R_reads' aE.out).2.2 eS gR gS
   cases mB
   replace gR:=eq_true gR
   replace gS:=eq_true gS
   refine start_ (n:=7) (S:=fun w'=>w'.cell? (jT.add ((eS).toNat * 2))=some (.string ((rd_T50 aT eS).f0))∧w'.cell? ⟨(jT.add ((eS).toNat * 2)).block,(jT.add ((eS).toNat * 2)).off + 1,none⟩=some (.string ((rd_T50 aT eS).f1))) (ds:=[]) (bt 7 0) (by kernel_rfl) rfl rfl ⟨dp,dq⟩ (fun hHeld=>?_)
   generalize wc.drew=o2 at av ap au aw aE aa ac ab ad ah HB dp dq hHeld ⊢
   refine pure_ (i:=0) (N:=some 175) (bt 7 1) rfl rfl (by kernel_rfl) (fun _ _ _ h=>h) (Or.inl ⟨by rfl,by intro w';go_simp;with_reducible rfl⟩) (by simp only [z_];rfl) ?_
   refine pure_ (i:=1) (N:=some 176) (bt 7 3) rfl rfl (by kernel_rfl) (fun _ _ _ h=>h) (Or.inl ⟨by rfl,by intro w';go_simp;with_reducible rfl⟩) (by simp only [z_];rfl) ?_
   refine pure_ (i:=2) (N:=some 177) (bt 7 7) rfl rfl (by kernel_rfl) (fun _ _ _ h=>h) (Or.inl ⟨by rfl,by intro w';go_simp;with_reducible rfl⟩) (by simp only [z_];rfl) ?_
   refine pure_ (i:=3) (N:=some 178) (bt 7 15) rfl rfl (by kernel_rfl) (fun _ _ _ h=>h) (Or.inl ⟨by rfl,by intro w';go_simp;with_reducible rfl⟩) (by simp only [z_];rfl) ?_
   refine pure_ (i:=5) (N:=some 18) (bt 7 47) rfl rfl (by kernel_rfl) (fun _ _ _ h=>h) (Or.inl ⟨by rfl,by intro w';go_simp;with_reducible rfl⟩) (by simp only [z_];rfl) ?_
   refine take_ (i:=4) (N:=some 179) (bt 7 63) rfl rfl (by kernel_rfl) (fun _ _ _ h=>h) (Or.inl ⟨by rfl,by rintro w' ⟨s0,s1⟩;go_simp;with_reducible rfl⟩) hHeld (by simp only [z_];rfl) ?_
   refine pure_ (i:=6) (N:=some 19) (bt 7 127) rfl rfl (by kernel_rfl) (fun _ _ _ h=>h) (Or.inl ⟨by rfl,by intro w';go_simp;with_reducible rfl⟩) (by simp only [z_];rfl) ?_
   refine done_ (by kernel_rfl) ?_
   try go_wp2
   go_meet
   case rel=>exact ⟨_,(0),((rd_T50 aT eS).f1),sm_,sm_,H',⟨by have:=ea.out;have:=co.out;have:=cw.out;have:=eN.out;have:=cH.out;have:=fy.out;have:=cX.out;have:=db.out;have:=dt.out;have:=du.out;have:=dx.out;have:=iS.out;first|omega|exact Nat.le_refl _⟩,⟨n2_ av.out⟩,⟨n2_ ap.out⟩,⟨r2_ au.out⟩,⟨r2_ aw.out⟩,⟨r2_ aE.out⟩,⟨v2_ aa.out⟩,⟨r2_ ac.out⟩,⟨r2_ ab.out⟩,⟨h_ ad⟩,⟨h_ ah⟩,⟨b_ HB⟩⟩
  clear HC110
  try clear c9
  try clear a6
  try clear a7
  try clear d3
  try clear e9
  try clear hN
  try clear f3
  try clear hO
  try clear f4
  try clear hP
  try clear f5
  try clear hQ
  try clear f6
  try clear hR
  try clear f7
  try clear hS
  try clear bO bP bQ bR bS bT bp bq br bs bu bv
  try clear bU bV bW bX bY bZ bw bx bz bA bB bC
  try clear ca cb cc cd ce cf bD bE bF bG bH bI
  try clear cp cq bL bM
  try clear aX aY aZ ba bb bc
  try clear bd be bf bg bh bi
  try clear bj bk bl bm bn bo
  try clear bJ bK
  try clear cY
  try clear cU
  try clear cZ
  try clear dy
  try clear gw
  try clear gy
  try clear gA
  try clear dz
  try clear gx
  try clear gz
  try clear gB
  obtain ⟨kq,dU,gG,rfl,rfl,HA,jw,av,ap,au,aw,aE,aa,ac,ab,ad,ah,HB⟩:=hcut
  cases kq with
  | zero=>exact absurd HA.out (by simp [Fa.j12])
  | succ oh=>
  have H:=HA.out
  clear HA
  simp only [Fa.j12] at H
  as_aux_lemma=>
  have HC125:=mk0 H
  clear H
  go_upto_region 33 with (fail)
  go_cut [188] (fun ot wc=>∃ (kq:Nat) (gh:Bool),ot = .bool gh∧Fc (Fa.j13 kq aJ cG am ao az aC aV an aA aW aT aM gh aH ax aK aG ay aI ai af=some r)∧Fc (kq≤oh)∧Fc (Kd.N k43 43 wc w.heap.size (fun k_=>(P0_1_ k_∨w.heap.size≤k_)∧some k_≠((.slice (some aD) am.length aN):Value).ownBlock∧some k_≠((.slice (some cx) ao.length cC):Value).ownBlock∧some k_≠((.slice (some cy) az.length cD):Value).ownBlock∧some k_≠(u14:Value).ownBlock∧some k_≠((.slice aq ai.length ar):Value).ownBlock∧some k_≠((.slice ak af.length al):Value).ownBlock∧k_≠ag∧k_≠ae) (.slice ec aJ.length ed) aJ)∧Fc (Kd.N k34 34 wc w.heap.size (fun k_=>(P0_1_ k_∨w.heap.size≤k_)∧some k_≠((.slice ec aJ.length ed):Value).ownBlock∧some k_≠((.slice (some cx) ao.length cC):Value).ownBlock∧some k_≠((.slice (some cy) az.length cD):Value).ownBlock∧some k_≠(u14:Value).ownBlock∧some k_≠((.slice aq ai.length ar):Value).ownBlock∧some k_≠((.slice ak af.length al):Value).ownBlock∧k_≠ag∧k_≠ae) (.slice (some aD) am.length aN) am)∧Fc (Kd.R (Kd.int .i64) 3 wc w.heap.size (fun k_=>(w.heap.size≤k_)∧some k_≠((.slice (some cy) az.length cD):Value).ownBlock∧some k_≠((.slice ak af.length al):Value).ownBlock) (.slice (some cx) ao.length cC) ao)∧Fc (Kd.R (Kd.int .i64) 3 wc w.heap.size (fun k_=>(w.heap.size≤k_)∧some k_≠((.slice (some cx) ao.length cC):Value).ownBlock∧some k_≠((.slice ak af.length al):Value).ownBlock) (.slice (some cy) az.length cD) az)∧Fc (Kd.R k50 50 wc w.heap.size (fun k_=>(w.heap.size≤k_)) u14 aT)∧Fc (Kd.V k34 34 wc w.heap.size (fun k_=>(P0_1_ k_∨w.heap.size≤k_)∧some k_≠((.slice ec aJ.length ed):Value).ownBlock∧some k_≠((.slice (some aD) am.length aN):Value).ownBlock∧some k_≠((.slice (some cx) ao.length cC):Value).ownBlock∧some k_≠((.slice (some cy) az.length cD):Value).ownBlock∧some k_≠(u14:Value).ownBlock∧some k_≠((.slice aq ai.length ar):Value).ownBlock∧some k_≠((.slice ak af.length al):Value).ownBlock∧k_≠ag∧k_≠ae) (.slice A0_1 ax.length c0_1) ax)∧Fc (Kd.R k72 72 wc w.heap.size (fun k_=>(w.heap.size≤k_)) (.slice aq ai.length ar) ai)∧Fc (Kd.R (Kd.int .i64) 3 wc w.heap.size (fun k_=>(w.heap.size≤k_)∧some k_≠((.slice (some cx) ao.length cC):Value).ownBlock∧some k_≠((.slice (some cy) az.length cD):Value).ownBlock) (.slice ak af.length al) af)∧Fc (wc.heap[ag]? = some (.cells #[(.slice A0_0 aH.length c0_0),(.slice A0_1 ax.length c0_1),(.slice A0_2 aK.length c0_2),(.slice (some gg) aG.length c0_3),(.slice A0_4 ay.length c0_4),(.slice A0_5 aI.length c0_5)] 28 (0,0)))∧Fc (wc.heap[ae]? = some (.cells #[(.slice aq ai.length ar),(.slice ak af.length al)] 34 (0,0)))∧Fc (Below w.heap.size w wc))
  case first=>
   have H:=HC125.out
   clear HC125
   replace H:=ob_ H
   obtain ⟨iT,oa,H⟩:=H
   try dsimp only at H
   by_cases b8:iT=dU
   rotate_left
   ·rw [if_neg b8] at H
    have eI:(iT == dU)=false:=beq_eq_false_iff_ne.mpr b8
    have gT:(iT != dU)=true:=bne_iff_ne.mpr b8
    (first|rw [eI]|(simp only [i64_w,i32_w];rw [eI])|skip)
    have H':=mk0 H
    clear H
    go_wp2_with (first|((with_reducible refine gate_callee (f:=15) rfl ?_);refine gL_ (some 181) Tryz.func15 #[.int .i64 iR] (h:=?_);(with_reducible refine (F0.calls iR iT _ oa.out).mono ?_);rintro e w' ⟨rfl,⟨nd,rfl⟩⟩;refine ⟨_,rfl,?_⟩))
    go_meet
    case rel=>exact ⟨_,(true),sm_,H',⟨by have:=ea.out;have:=co.out;have:=cw.out;have:=eN.out;have:=cH.out;have:=fy.out;have:=cX.out;have:=db.out;have:=dt.out;have:=du.out;have:=dx.out;have:=iS.out;have:=jw.out;first|omega|exact Nat.le_refl _⟩,⟨n2_ av.out⟩,⟨n2_ ap.out⟩,⟨r2_ au.out⟩,⟨r2_ aw.out⟩,⟨r2_ aE.out⟩,⟨v2_ aa.out⟩,⟨r2_ ac.out⟩,⟨r2_ ab.out⟩,⟨h_ ad⟩,⟨h_ ah⟩,⟨b_ HB⟩⟩
   rw [if_pos b8] at H
   have eI:(iT == dU)=true:=beq_iff_eq.mpr b8
   have gT:(iT != dU)=false:=bne_eq_false_iff_eq.mpr b8
   clear b8
   (first|rw [eI]|(simp only [i64_w,i32_w];rw [eI])|skip)
   have H':=mk0 H
   clear H
   go_wp2_with (first|((with_reducible refine gate_callee (f:=15) rfl ?_);refine gL_ (some 181) Tryz.func15 #[.int .i64 iR] (h:=?_);(with_reducible refine (F0.calls iR iT _ oa.out).mono ?_);rintro e w' ⟨rfl,⟨nd,rfl⟩⟩;refine ⟨_,rfl,?_⟩))
   go_meet
   case rel=>exact ⟨_,((kh.toList != gG.toList)),sm_,H',⟨by have:=ea.out;have:=co.out;have:=cw.out;have:=eN.out;have:=cH.out;have:=fy.out;have:=cX.out;have:=db.out;have:=dt.out;have:=du.out;have:=dx.out;have:=iS.out;have:=jw.out;first|omega|exact Nat.le_refl _⟩,⟨n2_ av.out⟩,⟨n2_ ap.out⟩,⟨r2_ au.out⟩,⟨r2_ aw.out⟩,⟨r2_ aE.out⟩,⟨v2_ aa.out⟩,⟨r2_ ac.out⟩,⟨r2_ ab.out⟩,⟨h_ ad⟩,⟨h_ ah⟩,⟨b_ HB⟩⟩
  clear HC125
  try clear c9
  try clear a6
  try clear a7
  try clear d3
  try clear e9
  try clear hN
  try clear f3
  try clear hO
  try clear f4
  try clear hP
  try clear f5
  try clear hQ
  try clear f6
  try clear hR
  try clear f7
  try clear hS
  try clear bO bP bQ bR bS bT bp bq br bs bu bv
  try clear bU bV bW bX bY bZ bw bx bz bA bB bC
  try clear ca cb cc cd ce cf bD bE bF bG bH bI
  try clear cp cq bL bM
  try clear aX aY aZ ba bb bc
  try clear bd be bf bg bh bi
  try clear bj bk bl bm bn bo
  try clear bJ bK
  try clear cY
  try clear cU
  try clear cZ
  try clear dy
  try clear gw
  try clear gy
  try clear gA
  try clear dz
  try clear gx
  try clear gz
  try clear gB
  obtain ⟨kq,gh,rfl,HA,ks,av,ap,au,aw,aE,aa,ac,ab,ad,ah,HB⟩:=hcut
  cases kq with
  | zero=>exact absurd HA.out (by simp [Fa.j13])
  | succ oi=>
  have H:=HA.out
  clear HA
  simp only [Fa.j13] at H
  as_aux_lemma=>
  by_cases i9:gh=true
  ·subst i9
   rw [if_pos rfl] at H
   obtain rfl:=Option.some.inj H
   go_wp2
   go_ret
   exact ⟨sa_,b_ HB⟩
  replace i9:=Bool.eq_false_iff.mpr i9
  subst i9
  rw [if_neg nf_] at H
  have H':=mk0 H
  clear H
  go_wp2
  go_roundg oi
  case measure=>have:=ea.out;have:=co.out;have:=cw.out;have:=eN.out;have:=cH.out;have:=fy.out;have:=cX.out;have:=db.out;have:=dt.out;have:=du.out;have:=dx.out;have:=iS.out;have:=jw.out;have:=ks.out;omega
  case rel=>exact ⟨(wrap64 (aM + 1)),sm_,H',⟨by have:=ea.out;have:=co.out;have:=cw.out;have:=eN.out;have:=cH.out;have:=fy.out;have:=cX.out;have:=db.out;have:=dt.out;have:=du.out;have:=dx.out;have:=iS.out;have:=jw.out;have:=ks.out;omega⟩,⟨n2_ av.out⟩,⟨n2_ ap.out⟩,⟨r2_ au.out⟩,⟨r2_ aw.out⟩,⟨r2_ aE.out⟩,⟨v2_ aa.out⟩,⟨r2_ ac.out⟩,⟨r2_ ab.out⟩,⟨h_ ad⟩,⟨h_ ah⟩,⟨b_ HB⟩⟩
 replace d3:=Bool.eq_false_iff.mpr d3
 subst d3
 rw [if_neg nf_] at H
 have H':=mk0 H
 clear H
 go_wp2
 go_loopg [21] i2 (fun kq v21 w'=>∃ (gq:List (S50)) (aj:Int),v21 = .int .i64 aj∧Fc (Fa.l4 kq aJ cG am ao az aC aV an aA aW gq aj aH ax aK aG ay aI ai af=some r)∧Fc (kq≤i2)∧Fc (Kd.N k43 43 w' w.heap.size (fun k_=>(P0_1_ k_∨w.heap.size≤k_)∧some k_≠((.slice (some aD) am.length aN):Value).ownBlock∧some k_≠(a0:Value).ownBlock∧some k_≠(a1:Value).ownBlock∧some k_≠(u14:Value).ownBlock∧some k_≠((.slice aq ai.length ar):Value).ownBlock∧some k_≠((.slice ak af.length al):Value).ownBlock∧k_≠ag∧k_≠ae) a2 aJ)∧Fc (Kd.N k34 34 w' w.heap.size (fun k_=>(P0_1_ k_∨w.heap.size≤k_)∧some k_≠(a2:Value).ownBlock∧some k_≠(a0:Value).ownBlock∧some k_≠(a1:Value).ownBlock∧some k_≠(u14:Value).ownBlock∧some k_≠((.slice aq ai.length ar):Value).ownBlock∧some k_≠((.slice ak af.length al):Value).ownBlock∧k_≠ag∧k_≠ae) (.slice (some aD) am.length aN) am)∧Fc (Kd.R (Kd.int .i64) 3 w' w.heap.size (fun k_=>(w.heap.size≤k_)∧some k_≠(a1:Value).ownBlock∧some k_≠((.slice ak af.length al):Value).ownBlock) a0 ao)∧Fc (Kd.R (Kd.int .i64) 3 w' w.heap.size (fun k_=>(w.heap.size≤k_)∧some k_≠(a0:Value).ownBlock∧some k_≠((.slice ak af.length al):Value).ownBlock) a1 az)∧Fc (Kd.R k50 50 w' w.heap.size (fun k_=>(w.heap.size≤k_)) u14 gq)∧Fc (Kd.V k34 34 w' w.heap.size (fun k_=>(P0_1_ k_∨w.heap.size≤k_)∧some k_≠(a2:Value).ownBlock∧some k_≠((.slice (some aD) am.length aN):Value).ownBlock∧some k_≠(a0:Value).ownBlock∧some k_≠(a1:Value).ownBlock∧some k_≠(u14:Value).ownBlock∧some k_≠((.slice aq ai.length ar):Value).ownBlock∧some k_≠((.slice ak af.length al):Value).ownBlock∧k_≠ag∧k_≠ae) (.slice A0_1 ax.length c0_1) ax)∧Fc (Kd.R k72 72 w' w.heap.size (fun k_=>(w.heap.size≤k_)) (.slice aq ai.length ar) ai)∧Fc (Kd.R (Kd.int .i64) 3 w' w.heap.size (fun k_=>(w.heap.size≤k_)∧some k_≠(a0:Value).ownBlock∧some k_≠(a1:Value).ownBlock) (.slice ak af.length al) af)∧Fc (w'.heap[ag]? = some (.cells #[(.slice A0_0 aH.length c0_0),(.slice A0_1 ax.length c0_1),(.slice A0_2 aK.length c0_2),(.slice A0_3 aG.length c0_3),(.slice A0_4 ay.length c0_4),(.slice A0_5 aI.length c0_5)] 28 (0,0)))∧Fc (w'.heap[ae]? = some (.cells #[(.slice aq ai.length ar),(.slice ak af.length al)] 34 (0,0)))∧Fc (Below w.heap.size w w'))
 case atStart=>exact ⟨(aT),(0),sm_,H',⟨Nat.le_refl _⟩,⟨n2_ av.out⟩,⟨n2_ ap.out⟩,⟨r2_ au.out⟩,⟨r2_ aw.out⟩,⟨r2_ aE.out⟩,⟨v2_ aa.out⟩,⟨r2_ ac.out⟩,⟨r2_ ab.out⟩,⟨h_ ad⟩,⟨h_ ah⟩,⟨b_ HB⟩⟩
 clear H'
 try clear c9
 try clear a6
 try clear a7
 try clear d3
 try clear bO bP bQ bR bS bT bp bq br bs bu bv
 try clear bU bV bW bX bY bZ bw bx bz bA bB bC
 try clear ca cb cc cd ce cf bD bE bF bG bH bI
 try clear cp cq bL bM
 try clear aX aY aZ ba bb bc
 try clear bd be bf bg bh bi
 try clear bj bk bl bm bn bo
 try clear bJ bK
 try clear dy
 try clear dz
 obtain ⟨gq,aj,rfl,HA,fP,av,ap,au,aw,aE,aa,ac,ab,ad,ah,HB⟩:=hrel
 cases gk with
 | zero=>exact absurd HA.out (by simp [Fa.l4])
 | succ k12=>
 have H:=HA.out
 clear HA
 simp only [Fa.l4] at H
 as_aux_lemma=>
 have HC129:=mk0 H
 clear H
 go_upto_region 36 with (fail)
 go_cut [197] (fun ou wc=>∃ (kq:Nat) (gi:Bool),ou = .bool gi∧Fc (Fa.j15 kq aJ cG am ao az aC aV an aA aW gq aj gi aH ax aK aG ay aI ai af=some r)∧Fc (kq≤k12)∧Fc (Kd.N k43 43 wc w.heap.size (fun k_=>(P0_1_ k_∨w.heap.size≤k_)∧some k_≠((.slice (some aD) am.length aN):Value).ownBlock∧some k_≠(a0:Value).ownBlock∧some k_≠(a1:Value).ownBlock∧some k_≠(u14:Value).ownBlock∧some k_≠((.slice aq ai.length ar):Value).ownBlock∧some k_≠((.slice ak af.length al):Value).ownBlock∧k_≠ag∧k_≠ae) a2 aJ)∧Fc (Kd.N k34 34 wc w.heap.size (fun k_=>(P0_1_ k_∨w.heap.size≤k_)∧some k_≠(a2:Value).ownBlock∧some k_≠(a0:Value).ownBlock∧some k_≠(a1:Value).ownBlock∧some k_≠(u14:Value).ownBlock∧some k_≠((.slice aq ai.length ar):Value).ownBlock∧some k_≠((.slice ak af.length al):Value).ownBlock∧k_≠ag∧k_≠ae) (.slice (some aD) am.length aN) am)∧Fc (Kd.R (Kd.int .i64) 3 wc w.heap.size (fun k_=>(w.heap.size≤k_)∧some k_≠(a1:Value).ownBlock∧some k_≠((.slice ak af.length al):Value).ownBlock) a0 ao)∧Fc (Kd.R (Kd.int .i64) 3 wc w.heap.size (fun k_=>(w.heap.size≤k_)∧some k_≠(a0:Value).ownBlock∧some k_≠((.slice ak af.length al):Value).ownBlock) a1 az)∧Fc (Kd.R k50 50 wc w.heap.size (fun k_=>(w.heap.size≤k_)) u14 gq)∧Fc (Kd.V k34 34 wc w.heap.size (fun k_=>(P0_1_ k_∨w.heap.size≤k_)∧some k_≠(a2:Value).ownBlock∧some k_≠((.slice (some aD) am.length aN):Value).ownBlock∧some k_≠(a0:Value).ownBlock∧some k_≠(a1:Value).ownBlock∧some k_≠(u14:Value).ownBlock∧some k_≠((.slice aq ai.length ar):Value).ownBlock∧some k_≠((.slice ak af.length al):Value).ownBlock∧k_≠ag∧k_≠ae) (.slice A0_1 ax.length c0_1) ax)∧Fc (Kd.R k72 72 wc w.heap.size (fun k_=>(w.heap.size≤k_)) (.slice aq ai.length ar) ai)∧Fc (Kd.R (Kd.int .i64) 3 wc w.heap.size (fun k_=>(w.heap.size≤k_)∧some k_≠(a0:Value).ownBlock∧some k_≠(a1:Value).ownBlock) (.slice ak af.length al) af)∧Fc (wc.heap[ag]? = some (.cells #[(.slice A0_0 aH.length c0_0),(.slice A0_1 ax.length c0_1),(.slice A0_2 aK.length c0_2),(.slice A0_3 aG.length c0_3),(.slice A0_4 ay.length c0_4),(.slice A0_5 aI.length c0_5)] 28 (0,0)))∧Fc (wc.heap[ae]? = some (.cells #[(.slice aq ai.length ar),(.slice ak af.length al)] 34 (0,0)))∧Fc (Below w.heap.size w wc))
 case first=>
  have H:=HC129.out
  clear HC129
  by_cases d6:aj<(ay.length:Int)
  ·rw [if_pos d6] at H
   have fQ:decide (aj<(ay.length:Int))=true:=decide_eq_true d6
   clear d6
   (first|rw [fQ]|(simp only [i64_w,i32_w];rw [fQ])|skip)
   have H':=mk0 H
   clear H
   have mC:=aU.out
   have mD:=cn.out
   obtain ⟨ik,il,im,io,ip,iq,ir,it,iu,iv,iw,ix⟩:=c6_ ad
   go_wp2
   go_meet
   case rel=>exact ⟨_,(decide (aj<4)),sm_,H',⟨by have:=ea.out;have:=co.out;have:=cw.out;have:=eN.out;have:=cH.out;have:=fy.out;have:=cX.out;have:=db.out;have:=dt.out;have:=du.out;have:=dx.out;have:=fP.out;first|omega|exact Nat.le_refl _⟩,⟨n2_ av.out⟩,⟨n2_ ap.out⟩,⟨r2_ au.out⟩,⟨r2_ aw.out⟩,⟨r2_ aE.out⟩,⟨v2_ aa.out⟩,⟨r2_ ac.out⟩,⟨r2_ ab.out⟩,⟨h_ ad⟩,⟨h_ ah⟩,⟨b_ HB⟩⟩
  rw [if_neg d6] at H
  have fQ:decide (aj<(ay.length:Int))=false:=decide_eq_false d6
  clear d6
  (first|rw [fQ]|(simp only [i64_w,i32_w];rw [fQ])|skip)
  have H':=mk0 H
  clear H
  have mE:=aU.out
  have mF:=cn.out
  obtain ⟨iy,iz,iA,iB,iC,iD,iE,fs,ft,fu,fv,fw⟩:=c6_ ad
  go_wp2
  go_meet
  case rel=>exact ⟨_,(false),sm_,H',⟨by have:=ea.out;have:=co.out;have:=cw.out;have:=eN.out;have:=cH.out;have:=fy.out;have:=cX.out;have:=db.out;have:=dt.out;have:=du.out;have:=dx.out;have:=fP.out;first|omega|exact Nat.le_refl _⟩,⟨n2_ av.out⟩,⟨n2_ ap.out⟩,⟨r2_ au.out⟩,⟨r2_ aw.out⟩,⟨r2_ aE.out⟩,⟨v2_ aa.out⟩,⟨r2_ ac.out⟩,⟨r2_ ab.out⟩,⟨h_ ad⟩,⟨h_ ah⟩,⟨b_ HB⟩⟩
 clear HC129
 try clear c9
 try clear a6
 try clear a7
 try clear d3
 try clear bO bP bQ bR bS bT bp bq br bs bu bv
 try clear bU bV bW bX bY bZ bw bx bz bA bB bC
 try clear ca cb cc cd ce cf bD bE bF bG bH bI
 try clear cp cq bL bM
 try clear aX aY aZ ba bb bc
 try clear bd be bf bg bh bi
 try clear bj bk bl bm bn bo
 try clear bJ bK
 try clear dy
 try clear dz
 obtain ⟨kq,gi,rfl,HA,er,av,ap,au,aw,aE,aa,ac,ab,ad,ah,HB⟩:=hcut
 cases kq with
 | zero=>exact absurd HA.out (by simp [Fa.j15])
 | succ f8=>
 have H:=HA.out
 clear HA
 simp only [Fa.j15] at H
 as_aux_lemma=>
 by_cases j0:gi=true
 rotate_left
 ·replace j0:=Bool.eq_false_iff.mpr j0
  subst j0
  rw [if_neg nf_] at H
  have H':=mk0 H
  clear H
  go_wp2
  go_roundg f8
  case measure=>have:=ea.out;have:=co.out;have:=cw.out;have:=eN.out;have:=cH.out;have:=fy.out;have:=cX.out;have:=db.out;have:=dt.out;have:=du.out;have:=dx.out;have:=fP.out;have:=er.out;omega
  case rel=>exact ⟨(wrap64 (aA + 1)),sm_,H',⟨by have:=ea.out;have:=co.out;have:=cw.out;have:=eN.out;have:=cH.out;have:=fy.out;have:=cX.out;have:=db.out;have:=dt.out;have:=du.out;have:=dx.out;have:=fP.out;have:=er.out;omega⟩,⟨nM_ av⟩,⟨nM_ ap⟩,⟨r2_ au.out⟩,⟨r2_ aw.out⟩,⟨vM_ aa⟩,⟨r2_ ac.out⟩,⟨r2_ ab.out⟩,⟨h_ ad⟩,⟨h_ ah⟩,⟨b_ HB⟩⟩
 subst j0
 rw [if_pos rfl] at H
 have H':=mk0 H
 clear H
 go_wp2
 go_loopg [22] f8 (fun kq v22 w'=>∃ (cv:List (S50)) (bN:Int),v22 = .int .i64 bN∧Fc (Fa.l5 kq aJ cG am ao az aC aV an aA aW cv aj bN aH ax aK aG ay aI ai af=some r)∧Fc (kq≤f8)∧Fc (Kd.N k43 43 w' w.heap.size (fun k_=>(P0_1_ k_∨w.heap.size≤k_)∧some k_≠((.slice (some aD) am.length aN):Value).ownBlock∧some k_≠(a0:Value).ownBlock∧some k_≠(a1:Value).ownBlock∧some k_≠(u14:Value).ownBlock∧some k_≠((.slice aq ai.length ar):Value).ownBlock∧some k_≠((.slice ak af.length al):Value).ownBlock∧k_≠ag∧k_≠ae) a2 aJ)∧Fc (Kd.N k34 34 w' w.heap.size (fun k_=>(P0_1_ k_∨w.heap.size≤k_)∧some k_≠(a2:Value).ownBlock∧some k_≠(a0:Value).ownBlock∧some k_≠(a1:Value).ownBlock∧some k_≠(u14:Value).ownBlock∧some k_≠((.slice aq ai.length ar):Value).ownBlock∧some k_≠((.slice ak af.length al):Value).ownBlock∧k_≠ag∧k_≠ae) (.slice (some aD) am.length aN) am)∧Fc (Kd.R (Kd.int .i64) 3 w' w.heap.size (fun k_=>(w.heap.size≤k_)∧some k_≠(a1:Value).ownBlock∧some k_≠((.slice ak af.length al):Value).ownBlock) a0 ao)∧Fc (Kd.R (Kd.int .i64) 3 w' w.heap.size (fun k_=>(w.heap.size≤k_)∧some k_≠(a0:Value).ownBlock∧some k_≠((.slice ak af.length al):Value).ownBlock) a1 az)∧Fc (Kd.R k50 50 w' w.heap.size (fun k_=>(w.heap.size≤k_)) u14 cv)∧Fc (Kd.V k34 34 w' w.heap.size (fun k_=>(P0_1_ k_∨w.heap.size≤k_)∧some k_≠(a2:Value).ownBlock∧some k_≠((.slice (some aD) am.length aN):Value).ownBlock∧some k_≠(a0:Value).ownBlock∧some k_≠(a1:Value).ownBlock∧some k_≠(u14:Value).ownBlock∧some k_≠((.slice aq ai.length ar):Value).ownBlock∧some k_≠((.slice ak af.length al):Value).ownBlock∧k_≠ag∧k_≠ae) (.slice A0_1 ax.length c0_1) ax)∧Fc (Kd.R k72 72 w' w.heap.size (fun k_=>(w.heap.size≤k_)) (.slice aq ai.length ar) ai)∧Fc (Kd.R (Kd.int .i64) 3 w' w.heap.size (fun k_=>(w.heap.size≤k_)∧some k_≠(a0:Value).ownBlock∧some k_≠(a1:Value).ownBlock) (.slice ak af.length al) af)∧Fc (w'.heap[ag]? = some (.cells #[(.slice A0_0 aH.length c0_0),(.slice A0_1 ax.length c0_1),(.slice A0_2 aK.length c0_2),(.slice A0_3 aG.length c0_3),(.slice A0_4 ay.length c0_4),(.slice A0_5 aI.length c0_5)] 28 (0,0)))∧Fc (w'.heap[ae]? = some (.cells #[(.slice aq ai.length ar),(.slice ak af.length al)] 34 (0,0)))∧Fc (Below w.heap.size w w'))
 case atStart=>exact ⟨(gq),(0),sm_,H',⟨Nat.le_refl _⟩,⟨n2_ av.out⟩,⟨n2_ ap.out⟩,⟨r2_ au.out⟩,⟨r2_ aw.out⟩,⟨r2_ aE.out⟩,⟨v2_ aa.out⟩,⟨r2_ ac.out⟩,⟨r2_ ab.out⟩,⟨h_ ad⟩,⟨h_ ah⟩,⟨b_ HB⟩⟩
 clear H'
 try clear c9
 try clear a6
 try clear a7
 try clear d3
 try clear bO bP bQ bR bS bT bp bq br bs bu bv
 try clear bU bV bW bX bY bZ bw bx bz bA bB bC
 try clear ca cb cc cd ce cf bD bE bF bG bH bI
 try clear cp cq bL bM
 try clear aX aY aZ ba bb bc
 try clear bd be bf bg bh bi
 try clear bj bk bl bm bn bo
 try clear bJ bK
 try clear dy
 try clear dz
 obtain ⟨cv,bN,rfl,HA,gU,av,ap,au,aw,aE,aa,ac,ab,ad,ah,HB⟩:=hrel
 cases gk with
 | zero=>exact absurd HA.out (by simp [Fa.l5])
 | succ k14=>
 have H:=HA.out
 clear HA
 simp only [Fa.l5] at H
 as_aux_lemma=>
 by_cases b4:bN<2
 rotate_left
 ·rw [if_neg b4] at H
  have ic:decide (bN<2)=false:=decide_eq_false b4
  clear b4
  have H':=mk0 H
  clear H
  go_wp2
  go_roundg k14
  case measure=>have:=ea.out;have:=co.out;have:=cw.out;have:=eN.out;have:=cH.out;have:=fy.out;have:=cX.out;have:=db.out;have:=dt.out;have:=du.out;have:=dx.out;have:=fP.out;have:=er.out;have:=gU.out;omega
  case rel=>exact ⟨(cv),(wrap64 (aj + 1)),sm_,H',⟨by have:=ea.out;have:=co.out;have:=cw.out;have:=eN.out;have:=cH.out;have:=fy.out;have:=cX.out;have:=db.out;have:=dt.out;have:=du.out;have:=dx.out;have:=fP.out;have:=er.out;have:=gU.out;omega⟩,⟨n2_ av.out⟩,⟨n2_ ap.out⟩,⟨r2_ au.out⟩,⟨r2_ aw.out⟩,⟨r2_ aE.out⟩,⟨v2_ aa.out⟩,⟨r2_ ac.out⟩,⟨r2_ ab.out⟩,⟨h_ ad⟩,⟨h_ ah⟩,⟨b_ HB⟩⟩
 rw [if_pos b4] at H
 have ic:decide (bN<2)=true:=decide_eq_true b4
 clear b4
 obtain ⟨dZ,f9⟩:∃ y_:List Int,y_=(([1073741824,2,(-1)]:List Int)):=⟨_,rfl⟩
 replace H:(if 0≤(Int.tmod (wrap64 (aj + aA)) 3) then (if (Int.tmod (wrap64 (aj + aA)) 3)<(dZ.length:Int) then (if 0≤an then (if an<(ao.length:Int) then (if 0≤aj then (if aj<(ay.length:Int) then (if 0≤aA then (if aA<(az.length:Int) then ((Fs.f k14 aJ ai af (rd ao an) ((rd_T55 ay aj).f0) ((rd_T55 ay aj).f1) ((rd_T55 ay aj).f2) (rd az aA) (rd dZ (Int.tmod (wrap64 (aj + aA)) 3)) (bN == 1)).bind fun bt559=>(if aW=true then ((FH.f k14 ((rd_T55 ay aj).f0) ((rd_T55 ay aj).f1) ((rd_T55 ay aj).f2)).bind fun jU=>(if jU=true then ((FJ.f (rd dZ (Int.tmod (wrap64 (aj + aA)) 3)) 1073741824).bind fun jB=>(Fa.j17 k14 aJ cG am ao az aC aV an aA aW cv aj bN (rd dZ (Int.tmod (wrap64 (aj + aA)) 3)) bt559.1 bt559.2 1 ([]:List (S50)) jB aH ax aK aG ay aI ai af)) else (Fa.j17 k14 aJ cG am ao az aC aV an aA aW cv aj bN (rd dZ (Int.tmod (wrap64 (aj + aA)) 3)) bt559.1 bt559.2 1 ([]:List (S50)) false aH ax aK aG ay aI ai af))) else (Fa.j17 k14 aJ cG am ao az aC aV an aA aW cv aj bN (rd dZ (Int.tmod (wrap64 (aj + aA)) 3)) bt559.1 bt559.2 1 ([]:List (S50)) false aH ax aK aG ay aI ai af))) else (none)) else (none)) else (none)) else (none)) else (none)) else (none)) else (none)) else (none))=some r:=rp_ H f9
 have m8:=mk0 f9
 clear f9
 obtain ⟨a4,b5⟩:∃ j_:Int,(Int.tmod (wrap64 (aj + aA)) 3)=j_:=⟨_,rfl⟩
 replace H:(if 0≤(a4) then (if (a4)<(dZ.length:Int) then (if 0≤an then (if an<(ao.length:Int) then (if 0≤aj then (if aj<(ay.length:Int) then (if 0≤aA then (if aA<(az.length:Int) then ((Fs.f k14 aJ ai af (rd ao an) ((rd_T55 ay aj).f0) ((rd_T55 ay aj).f1) ((rd_T55 ay aj).f2) (rd az aA) (rd dZ (a4)) (bN == 1)).bind fun bt559=>(if aW=true then ((FH.f k14 ((rd_T55 ay aj).f0) ((rd_T55 ay aj).f1) ((rd_T55 ay aj).f2)).bind fun jU=>(if jU=true then ((FJ.f (rd dZ (a4)) 1073741824).bind fun jB=>(Fa.j17 k14 aJ cG am ao az aC aV an aA aW cv aj bN (rd dZ (a4)) bt559.1 bt559.2 1 ([]:List (S50)) jB aH ax aK aG ay aI ai af)) else (Fa.j17 k14 aJ cG am ao az aC aV an aA aW cv aj bN (rd dZ (a4)) bt559.1 bt559.2 1 ([]:List (S50)) false aH ax aK aG ay aI ai af))) else (Fa.j17 k14 aJ cG am ao az aC aV an aA aW cv aj bN (rd dZ (a4)) bt559.1 bt559.2 1 ([]:List (S50)) false aH ax aK aG ay aI ai af))) else (none)) else (none)) else (none)) else (none)) else (none)) else (none)) else (none)) else (none))=some r:=by first|(rw [b5] at H;exact H)|(simp only [b5] at H ⊢; exact H)
 by_cases b9:0≤(a4)
 rotate_left
 ·rw [if_neg b9] at H
  exact absurd H (by simp)
 rw [if_pos b9] at H
 have iU:decide (0≤(a4))=true:=decide_eq_true b9
 clear b9
 by_cases c0:(a4)<(dZ.length:Int)
 rotate_left
 ·rw [if_neg c0] at H
  exact absurd H (by simp)
 rw [if_pos c0] at H
 have iV:decide ((a4)<(dZ.length:Int))=true:=decide_eq_true c0
 clear c0
 by_cases c1:0≤an
 rotate_left
 ·rw [if_neg c1] at H
  exact absurd H (by simp)
 rw [if_pos c1] at H
 have iW:decide (0≤an)=true:=decide_eq_true c1
 clear c1
 by_cases c4:an<(ao.length:Int)
 rotate_left
 ·rw [if_neg c4] at H
  exact absurd H (by simp)
 rw [if_pos c4] at H
 have iX:decide (an<(ao.length:Int))=true:=decide_eq_true c4
 clear c4
 by_cases c5:0≤aj
 rotate_left
 ·rw [if_neg c5] at H
  exact absurd H (by simp)
 rw [if_pos c5] at H
 have iY:decide (0≤aj)=true:=decide_eq_true c5
 clear c5
 by_cases c6:aj<(ay.length:Int)
 rotate_left
 ·rw [if_neg c6] at H
  exact absurd H (by simp)
 rw [if_pos c6] at H
 have iZ:decide (aj<(ay.length:Int))=true:=decide_eq_true c6
 clear c6
 by_cases c7:0≤aA
 rotate_left
 ·rw [if_neg c7] at H
  exact absurd H (by simp)
 rw [if_pos c7] at H
 have ja:decide (0≤aA)=true:=decide_eq_true c7
 clear c7
 by_cases c8:aA<(az.length:Int)
 rotate_left
 ·rw [if_neg c8] at H
  exact absurd H (by simp)
 rw [if_pos c8] at H
 have jb:decide (aA<(az.length:Int))=true:=decide_eq_true c8
 clear c8
 replace H:=ob_ H
 obtain ⟨⟨fD,jc⟩,ov,H⟩:=H
 try dsimp only at H
 have HC147:=mk0 H
 clear H
 try go_wp2_with (first|((with_reducible refine gate_dst (N:=204) rfl ?_);(try (refine gate_guard (by rfl) ?_;dsimp only));refine Kd.R_lit (Kd.int .i64) _ 3 ?hg (N:=204) ?hd (xs:=([1073741824,2,(-1)]:List Int)) (inner:=[.int .i64 1073741824,.int .i64 2,.int .i64 (-1)]) (ok:=fun _=>True) (okp:=fun _=>True) ?hr ?hp (fun _ hk=>hk) trivial (Below.refl _ _) (Nat.le_refl _) (by simp) ?_;(case hd=>rfl);(case hg=>rfl);(case hr=>first|(go_simp;done)|(go_simp;rfl));(case hp=>exact (Reps.one (show Kd.M (Kd.int .i64) _ _ _ 1073741824 [.int .i64 1073741824] from rfl) (Reps.one (show Kd.M (Kd.int .i64) _ _ _ 2 [.int .i64 2] from rfl) (Reps.one (show Kd.M (Kd.int .i64) _ _ _ (-1) [.int .i64 (-1)] from rfl) (Reps.none _ _)))));intro o3 ow ho149 hb hg_ hnew_;clear hg_ hnew_;(first|rw [← m8.out] at ho149|(simp only [Int.reduceToNat] at ho149;rw [← m8.out] at ho149));have b7:=mk0 (Kd.R_lower (Kd.R_new' (Kd.R_new' (Kd.R_new' (Kd.R_newM (M:=fun k_=>(w.heap.size≤k_)) ho149 (bz_ (b_ HB)) (fun k_ h_=>h_)) (Kd.R_lt (r_ au))) (Kd.R_lt (r_ aw))) (Kd.R_lt (r_ ab))) (bz_ (b_ HB)));replace av:=mk0 (Kd.N_elder' (nn_ av) (Kd.R_base ho149) hb);replace ap:=mk0 (Kd.N_elder' (nn_ ap) (Kd.R_base ho149) hb);replace au:=mk0 (Kd.R_elder' (r_ au) (Kd.R_base ho149) hb);replace aw:=mk0 (Kd.R_elder' (r_ aw) (Kd.R_base ho149) hb);replace aE:=mk0 (Kd.R_below (r_ aE) hb);replace aa:=mk0 (Kd.V_elder' (v_ aa) (Kd.R_base ho149) hb);replace ac:=mk0 (Kd.R_below (r_ ac) hb);replace ab:=mk0 (Kd.R_elder' (r_ ab) (Kd.R_base ho149) hb);replace ad:=mk0 (u_ ad hb);replace ah:=mk0 (u_ ah hb);replace HB:=mk0 (bt_ (b_ HB) hb);have fx:=b7;clear b7 hb ho149;obtain ⟨nb,nc,lG⟩:=Kd.R_slice fx.out;subst lG;have jC:0≤((a4):Int):=od_;have jD:(a4)<(dZ.length:Int):=od_;obtain ⟨nf,mG,ie⟩:=Kd.at_int (Kd.R_reads' fx.out).2.2 (a4) jC jD;cases mG;replace jC:=eq_true jC;replace jD:=eq_true jD))
 replace av:=mk0 (Kd.N_drew av.out)
 replace ap:=mk0 (Kd.N_drew ap.out)
 replace au:=mk0 (Rd_ au.out)
 replace aw:=mk0 (Rd_ aw.out)
 replace aE:=mk0 (Rd_ aE.out)
 replace aa:=mk0 (Kd.V_drew aa.out)
 replace ac:=mk0 (Rd_ ac.out)
 replace ab:=mk0 (Rd_ ab.out)
 replace fx:=mk0 (Rd_ fx.out)
 replace ad:=mk0 (bD_ ad.out)
 replace ah:=mk0 (bD_ ah.out)
 replace HB:=mk0 (b1_ HB.out)
 obtain ⟨ng,cO,kt⟩:=Kd.R_slice au.out
 (first|subst kt|(injection kt with f1_ f2_ f3_;have f4_:=f1_.symm;have f5_:=f3_.symm;clear f1_ f2_ f3_;subst f4_;subst f5_))
 have jE:0≤(an:Int):=od_
 have jF:an<(ao.length:Int):=od_
 obtain ⟨cE,mH,gj⟩:=Kd.at_int (Kd.R_reads' au.out).2.2 an jE jF
 cases mH
 replace jE:=eq_true jE
 replace jF:=eq_true jF
 have jG:0≤(aj:Int):=od_
 have jH:aj<(ay.length:Int):=od_
 obtain ⟨eP,mI,eJ,eK,eL⟩:=at_T55 hI.out aj jG jH
 have jx:=eL
 have jy:=eK
 have jz:=eJ
 cases mI
 replace eJ:=(bc_ HB eJ :)
 replace eK:=(bc_ HB eK :)
 replace eL:=(bc_ HB eL :)
 replace jG:=eq_true jG
 replace jH:=eq_true jH
 obtain ⟨nh,cP,ku⟩:=Kd.R_slice aw.out
 (first|subst ku|(injection ku with f1_ f2_ f3_;have f4_:=f1_.symm;have f5_:=f3_.symm;clear f1_ f2_ f3_;subst f4_;subst f5_))
 have jI:0≤(aA:Int):=od_
 have jJ:aA<(az.length:Int):=od_
 obtain ⟨cF,mJ,gl⟩:=Kd.at_int (Kd.R_reads' aw.out).2.2 aA jI jJ
 cases mJ
 replace jI:=eq_true jI
 replace jJ:=eq_true jJ
 obtain ⟨eQ,eR,kv⟩:=Kd.N_slice av.out
 (first|subst kv|(injection kv with f1_ f2_ f3_;have f4_:=f1_.symm;have f5_:=f3_.symm;clear f1_ f2_ f3_;subst f4_;subst f5_))
 refine start_ (n:=24) (S:=fun w'=>w'.cell? ⟨ae,0,none⟩=some (.slice aq ai.length ar)∧w'.cell? ⟨ae,1,none⟩=some (.slice ak af.length al)∧w'.cell? ⟨ag,0,none⟩=some (.slice A0_0 aH.length c0_0)∧w'.cell? ⟨ag,1,none⟩=some (.slice A0_1 ax.length c0_1)∧w'.cell? ⟨ag,2,none⟩=some (.slice A0_2 aK.length c0_2)∧w'.cell? ⟨ag,3,none⟩=some (.slice A0_3 aG.length c0_3)∧w'.cell? ⟨ag,4,none⟩=some (.slice (some eP) ay.length c0_4)∧w'.cell? ⟨ag,5,none⟩=some (.slice A0_5 aI.length c0_5)∧w'.cell? (cE.add (an).toNat)=some (.int .i64 (rd ao an))∧w'.cell? (eP.add ((aj).toNat * 3))=some (.string ((rd_T55 ay aj).f0))∧w'.cell? ⟨(eP.add ((aj).toNat * 3)).block,(eP.add ((aj).toNat * 3)).off + 1,none⟩=some (.string ((rd_T55 ay aj).f1))∧w'.cell? ⟨(eP.add ((aj).toNat * 3)).block,(eP.add ((aj).toNat * 3)).off + 2,none⟩=some (.bool ((rd_T55 ay aj).f2))∧w'.cell? (cF.add (aA).toNat)=some (.int .i64 (rd az aA))) (ds:=[]) (bt 24 0) (by kernel_rfl) rfl rfl ⟨bk_ ah 0,bk_ ah 1,bk_ ad 0,bk_ ad 1,bk_ ad 2,bk_ ad 3,bk_ ad 4,bk_ ad 5,gj,((bc_ HB jz :)),((bc_ HB jy :)),((bc_ HB jx :)),gl⟩ (fun hHeld=>?_);refine with_tabW Fa.tab42 Fa.bits42 (fun HT_ HW_=>?_)
 generalize ow.drew=o4 at av ap au aw aE aa ac ab fx ad ah HB gj eJ eK eL gl hHeld ⊢
 refine pq_ HT_.out 0 212 (bt 24 1) (h:=?_)
 refine pq_ HT_.out 2 214 (bt 24 5) (h:=?_)
 refine pq_ HT_.out 3 215 (bt 24 13) (h:=?_)
 refine pq_ HT_.out 4 216 (bt 24 29) (h:=?_)
 refine pq_ HT_.out 6 218 (bt 24 93) (h:=?_)
 refine pq_ HT_.out 8 220 (bt 24 349) (h:=?_)
 refine pq_ HT_.out 11 223 (bt 24 2397) (h:=?_)
 refine pq_ HT_.out 12 224 (bt 24 6493) (h:=?_)
 refine pq_ HT_.out 13 225 (bt 24 14685) (h:=?_)
 refine pq_ HT_.out 15 227 (bt 24 47453) (h:=?_)
 refine pq_ HT_.out 16 228 (bt 24 112989) (h:=?_)
 refine pq_ HT_.out 17 229 (bt 24 244061) (h:=?_)
 refine tq13_ HT_.out HW_.out 1 213 (bt 24 244063) hHeld (h:=?_)
 refine tq13_ HT_.out HW_.out 5 217 (bt 24 244095) hHeld (h:=?_)
 refine tq13_ HT_.out HW_.out 7 219 (bt 24 244223) hHeld (h:=?_)
 refine pq_ HT_.out 9 221 (bt 24 244735) (h:=?_)
 refine tq13_ HT_.out HW_.out 10 222 (bt 24 245759) hHeld (h:=?_)
 refine tq13_ HT_.out HW_.out 14 226 (bt 24 262143) hHeld (h:=?_)
 refine one_ (i:=18) (N:=some 230) (bt 24 524287) rfl rfl (one_of HT_.out (by kernel_rfl)) (by decide) (fun K hK=>?_)
 refine goes_ Tryz.func16 (by kernel_rfl) rfl #[.slice eQ aJ.length eR,.agg #[.slice aq ai.length ar,.slice ak af.length al],.int .i64 (rd ao an),.agg #[.string ((rd_T55 ay aj).f0),.string ((rd_T55 ay aj).f1),.bool ((rd_T55 ay aj).f2)],.int .i64 (rd az aA),.int .i64 (rd dZ (a4)),.bool (bN == 1)] (by rfl) rfl rfl (by (try simp only [List.map_toArray,List.map_cons,List.map_nil]);first|done|(simp only [b5];rfl)|rfl|(simp only [List.length_drop,List.length_take];rfl)) ?_
 with_reducible refine (Fs.calls k14 _ _ aJ _ _ ai _ _ af (rd ao an) ((rd_T55 ay aj).f0) ((rd_T55 ay aj).f1) ((rd_T55 ay aj).f2) (rd az aA) (rd dZ (a4)) (bN == 1) fD jc _ ?side1 ?side2 ?side3 ?side4 ?side5 ?side6 ov.out).mono ?_
 (case side1=>exact cn_ av)
 (case side2=>exact (Kd.N_reads' av.out).2.1)
 (case side3=>exact cr_ ac)
 (case side4=>exact (Kd.R_reads' ac.out).2.1)
 (case side5=>exact cr_ ab)
 (case side6=>exact (Kd.R_reads' ab.out).2.1)
 rintro e o5 ⟨a5,rfl,ho0,hb⟩
 have HS8_:=(hb.cell (World.block_lt_of_cell? _ _ hHeld.2.2.2.2.2.2.2.2.1)).trans hHeld.2.2.2.2.2.2.2.2.1
 have HS12_:=(hb.cell (World.block_lt_of_cell? _ _ hHeld.2.2.2.2.2.2.2.2.2.2.2.2)).trans hHeld.2.2.2.2.2.2.2.2.2.2.2.2
 refine ⟨_,rfl,?_⟩
 have e2:=mk0 (Kd.R_lower (Kd.R_new' (Kd.R_newM (M:=fun k_=>(w.heap.size≤k_)) ho0 (bz_ (b_ HB)) (fun k_ h_=>h_)) (Kd.R_lt (r_ aE))) (bz_ (b_ HB)))
 replace av:=mk0 (Kd.N_elder' (nn_ av) (Kd.R_base ho0) hb)
 replace ap:=mk0 (Kd.N_elder' (nn_ ap) (Kd.R_base ho0) hb)
 replace au:=mk0 (Kd.R_below (r_ au) hb)
 replace aw:=mk0 (Kd.R_below (r_ aw) hb)
 replace aE:=mk0 (Kd.R_elder' (r_ aE) (Kd.R_base ho0) hb)
 replace aa:=mk0 (Kd.V_elder' (v_ aa) (Kd.R_base ho0) hb)
 replace ac:=mk0 (Kd.R_below (r_ ac) hb)
 replace ab:=mk0 (Kd.R_below (r_ ab) hb)
 replace fx:=mk0 (Kd.R_below (r_ fx) hb)
 replace ad:=mk0 (u_ ad hb)
 replace ah:=mk0 (u_ ah hb)
 replace HB:=mk0 (bt_ (b_ HB) hb)
 have gV:=e2
 clear e2
 (try clear hb)
 (try clear hk)
 (try clear hi)
 (try clear ho0)
 refine hK.out _ _ ⟨bk_ ah 0,bk_ ah 1,bk_ ad 0,bk_ ad 1,bk_ ad 2,bk_ ad 3,bk_ ad 4,bk_ ad 5,HS8_,((bc_ HB jz :)),((bc_ HB jy :)),((bc_ HB jx :)),HS12_⟩ (fun hHeld=>?_)
 clear hK K
 refine norm_ (a':=?_) ?_ ?_
 rotate_left
 ·show Act.put _ (some 230) _=_
  simp only [z_]
  rfl
 refine pq_ HT_.out 19 211 (bt 24 1048575) (h:=?_)
 refine pq_ HT_.out 20 231 (bt 24 2097151) (h:=?_)
 refine pq_ HT_.out 21 232 (bt 24 4194303) (h:=?_)
 refine pq_ HT_.out 22 24 (bt 24 8388607) (h:=?_)
 refine pq_ HT_.out 23 25 (bt 24 16777215) (h:=?_)
 refine done_ (done_of HT_.out (by kernel_rfl)) ?_
 go_upto_region 45 with (fail)
 go_cut [245] (fun ox wc=>∃ (kq:Nat) (gm:Bool),ox = .bool gm∧Fc (Fa.j17 kq aJ cG am ao az aC aV an aA aW cv aj bN (rd dZ (a4)) fD jc 1 ([]:List (S50)) gm aH ax aK aG ay aI ai af=some r)∧Fc (kq≤k14)∧Fc (Kd.N k43 43 wc w.heap.size (fun k_=>(P0_1_ k_∨w.heap.size≤k_)∧some k_≠((.slice (some aD) am.length aN):Value).ownBlock∧some k_≠((.slice (some cE) ao.length cO):Value).ownBlock∧some k_≠((.slice (some cF) az.length cP):Value).ownBlock∧some k_≠(u14:Value).ownBlock∧some k_≠(a5:Value).ownBlock∧some k_≠((.slice none 0 0):Value).ownBlock∧some k_≠((.slice aq ai.length ar):Value).ownBlock∧some k_≠((.slice ak af.length al):Value).ownBlock∧k_≠ag∧k_≠ae) (.slice eQ aJ.length eR) aJ)∧Fc (Kd.N k34 34 wc w.heap.size (fun k_=>(P0_1_ k_∨w.heap.size≤k_)∧some k_≠((.slice eQ aJ.length eR):Value).ownBlock∧some k_≠((.slice (some cE) ao.length cO):Value).ownBlock∧some k_≠((.slice (some cF) az.length cP):Value).ownBlock∧some k_≠(u14:Value).ownBlock∧some k_≠(a5:Value).ownBlock∧some k_≠((.slice none 0 0):Value).ownBlock∧some k_≠((.slice aq ai.length ar):Value).ownBlock∧some k_≠((.slice ak af.length al):Value).ownBlock∧k_≠ag∧k_≠ae) (.slice (some aD) am.length aN) am)∧Fc (Kd.R (Kd.int .i64) 3 wc w.heap.size (fun k_=>(w.heap.size≤k_)∧some k_≠((.slice (some cF) az.length cP):Value).ownBlock∧some k_≠((.slice ak af.length al):Value).ownBlock) (.slice (some cE) ao.length cO) ao)∧Fc (Kd.R (Kd.int .i64) 3 wc w.heap.size (fun k_=>(w.heap.size≤k_)∧some k_≠((.slice (some cE) ao.length cO):Value).ownBlock∧some k_≠((.slice ak af.length al):Value).ownBlock) (.slice (some cF) az.length cP) az)∧Fc (Kd.R k50 50 wc w.heap.size (fun k_=>(w.heap.size≤k_)∧some k_≠(a5:Value).ownBlock∧some k_≠((.slice none 0 0):Value).ownBlock) u14 cv)∧Fc (Kd.R k50 50 wc w.heap.size (fun k_=>(w.heap.size≤k_)∧some k_≠(u14:Value).ownBlock∧some k_≠((.slice none 0 0):Value).ownBlock) a5 fD)∧Fc (Kd.R k50 50 wc w.heap.size (fun k_=>(w.heap.size≤k_)∧some k_≠(u14:Value).ownBlock∧some k_≠(a5:Value).ownBlock) (.slice none 0 0) ([]:List (S50)))∧Fc (Kd.V k34 34 wc w.heap.size (fun k_=>(P0_1_ k_∨w.heap.size≤k_)∧some k_≠((.slice eQ aJ.length eR):Value).ownBlock∧some k_≠((.slice (some aD) am.length aN):Value).ownBlock∧some k_≠((.slice (some cE) ao.length cO):Value).ownBlock∧some k_≠((.slice (some cF) az.length cP):Value).ownBlock∧some k_≠(u14:Value).ownBlock∧some k_≠(a5:Value).ownBlock∧some k_≠((.slice none 0 0):Value).ownBlock∧some k_≠((.slice aq ai.length ar):Value).ownBlock∧some k_≠((.slice ak af.length al):Value).ownBlock∧k_≠ag∧k_≠ae) (.slice A0_1 ax.length c0_1) ax)∧Fc (Kd.R k72 72 wc w.heap.size (fun k_=>(w.heap.size≤k_)) (.slice aq ai.length ar) ai)∧Fc (Kd.R (Kd.int .i64) 3 wc w.heap.size (fun k_=>(w.heap.size≤k_)∧some k_≠((.slice (some cE) ao.length cO):Value).ownBlock∧some k_≠((.slice (some cF) az.length cP):Value).ownBlock) (.slice ak af.length al) af)∧Fc (wc.heap[ag]? = some (.cells #[(.slice A0_0 aH.length c0_0),(.slice A0_1 ax.length c0_1),(.slice A0_2 aK.length c0_2),(.slice A0_3 aG.length c0_3),(.slice (some eP) ay.length c0_4),(.slice A0_5 aI.length c0_5)] 28 (0,0)))∧Fc (wc.heap[ae]? = some (.cells #[(.slice aq ai.length ar),(.slice ak af.length al)] 34 (0,0)))∧Fc (Below w.heap.size w wc))
 case first=>
  have H:=HC147.out
  clear HC147
  by_cases j3:aW=true
  rotate_left
  ·replace j3:=Bool.eq_false_iff.mpr j3
   subst j3
   rw [if_neg nf_] at H
   have H':=mk0 H
   clear H
   go_wp2
   go_meet
   case rel=>exact ⟨_,(false),sm_,H',⟨by have:=ea.out;have:=co.out;have:=cw.out;have:=eN.out;have:=cH.out;have:=fy.out;have:=cX.out;have:=db.out;have:=dt.out;have:=du.out;have:=dx.out;have:=fP.out;have:=er.out;have:=gU.out;first|omega|exact Nat.le_refl _⟩,⟨by (with_reducible repeat (first|apply Kd.N_alloc|apply Kd.N_drewN|apply Kd.N_drew));exact Kd.N_mono av.out (fun _ hk=>⟨hk.1.1.1,⟨hk.1.1.2.1,⟨hk.1.1.2.2.1,⟨hk.1.1.2.2.2.1,⟨hk.1.1.2.2.2.2.1,⟨hk.2,⟨(by simp [Value.ownBlock]),⟨hk.1.1.2.2.2.2.2.1,⟨hk.1.1.2.2.2.2.2.2.1,⟨hk.1.1.2.2.2.2.2.2.2.1,hk.1.1.2.2.2.2.2.2.2.2⟩⟩⟩⟩⟩⟩⟩⟩⟩⟩)⟩,⟨by (with_reducible repeat (first|apply Kd.N_alloc|apply Kd.N_drewN|apply Kd.N_drew));exact Kd.N_mono ap.out (fun _ hk=>⟨hk.1.1.1,⟨hk.1.1.2.1,⟨hk.1.1.2.2.1,⟨hk.1.1.2.2.2.1,⟨hk.1.1.2.2.2.2.1,⟨hk.2,⟨(by simp [Value.ownBlock]),⟨hk.1.1.2.2.2.2.2.1,⟨hk.1.1.2.2.2.2.2.2.1,⟨hk.1.1.2.2.2.2.2.2.2.1,hk.1.1.2.2.2.2.2.2.2.2⟩⟩⟩⟩⟩⟩⟩⟩⟩⟩)⟩,⟨r2_ (Kd.R_mono au.out (fun _ hk=>⟨hk.1.1,⟨hk.1.2.1,hk.1.2.2⟩⟩))⟩,⟨r2_ (Kd.R_mono aw.out (fun _ hk=>⟨hk.1.1,⟨hk.1.2.1,hk.1.2.2⟩⟩))⟩,⟨by (with_reducible repeat (first|apply Ra_|apply Rn_|apply Rd_));exact Kd.R_mono aE.out (fun _ hk=>⟨hk.1,⟨hk.2,(by simp [Value.ownBlock])⟩⟩)⟩,⟨by (with_reducible repeat (first|apply Ra_|apply Rn_|apply Rd_));exact Kd.R_mono gV.out (fun _ hk=>⟨hk.1.1,⟨hk.2,(by simp [Value.ownBlock])⟩⟩)⟩,⟨nl_⟩,⟨by (with_reducible repeat (first|apply Kd.V_alloc|apply Kd.V_drewN|apply Kd.V_drew));exact Kd.V_mono aa.out (fun _ hk=>⟨hk.1.1.1,⟨hk.1.1.2.1,⟨hk.1.1.2.2.1,⟨hk.1.1.2.2.2.1,⟨hk.1.1.2.2.2.2.1,⟨hk.1.1.2.2.2.2.2.1,⟨hk.2,⟨(by simp [Value.ownBlock]),⟨hk.1.1.2.2.2.2.2.2.1,⟨hk.1.1.2.2.2.2.2.2.2.1,⟨hk.1.1.2.2.2.2.2.2.2.2.1,hk.1.1.2.2.2.2.2.2.2.2.2⟩⟩⟩⟩⟩⟩⟩⟩⟩⟩⟩)⟩,⟨r2_ ac.out⟩,⟨r2_ (Kd.R_mono ab.out (fun _ hk=>⟨hk.1.1,⟨hk.1.2.1,hk.1.2.2⟩⟩))⟩,⟨h_ ad⟩,⟨h_ ah⟩,⟨b_ HB⟩⟩
  subst j3
  rw [if_pos rfl] at H
  replace H:=ob_ H
  obtain ⟨jU,ob,H⟩:=H
  try dsimp only at H
  by_cases j5:jU=true
  rotate_left
  ·replace j5:=Bool.eq_false_iff.mpr j5
   subst j5
   rw [if_neg nf_] at H
   have H':=mk0 H
   clear H
   have mK:=aU.out
   have mL:=cn.out
   obtain ⟨gW,gX,gY,gZ,ha,hc,he,hf,hh,hj,hl,hm⟩:=c6_ ad
   have hE:0≤(aj:Int):=od_
   have hF:aj<(ay.length:Int):=od_
   obtain ⟨jV,kB,dV,dW,dX⟩:=at_T55 hI.out aj hE hF
   obtain rfl:eP=jV:=(by injection kB)
   replace dV:=(bc_ HB dV :)
   replace dW:=(bc_ HB dW :)
   replace dX:=(bc_ HB dX :)
   replace hE:=eq_true hE
   replace hF:=eq_true hF
   go_wp2_with (first|(go_at_call 17;(with_reducible refine (FH.calls k14 ((rd_T55 ay aj).f0) ((rd_T55 ay aj).f1) ((rd_T55 ay aj).f2) false _ ob.out).mono ?_);rintro e o6 ⟨rfl,hb⟩;replace av:=mk0 (Kd.N_below (nn_ av) hb);replace ap:=mk0 (Kd.N_below (nn_ ap) hb);replace au:=mk0 (Kd.R_below (r_ au) hb);replace aw:=mk0 (Kd.R_below (r_ aw) hb);replace aE:=mk0 (Kd.R_below (r_ aE) hb);replace aa:=mk0 (Kd.V_below (v_ aa) hb);replace ac:=mk0 (Kd.R_below (r_ ac) hb);replace ab:=mk0 (Kd.R_below (r_ ab) hb);replace fx:=mk0 (Kd.R_below (r_ fx) hb);replace gV:=mk0 (Kd.R_below (r_ gV) hb);replace ad:=mk0 (u_ ad hb);replace ah:=mk0 (u_ ah hb);replace HB:=mk0 (bt_ (b_ HB) hb);(try clear hb)))
   go_meet
   case rel=>exact ⟨_,(false),sm_,H',⟨by have:=ea.out;have:=co.out;have:=cw.out;have:=eN.out;have:=cH.out;have:=fy.out;have:=cX.out;have:=db.out;have:=dt.out;have:=du.out;have:=dx.out;have:=fP.out;have:=er.out;have:=gU.out;first|omega|exact Nat.le_refl _⟩,⟨by (with_reducible repeat (first|apply Kd.N_alloc|apply Kd.N_drewN|apply Kd.N_drew));exact Kd.N_mono av.out (fun _ hk=>⟨hk.1.1.1,⟨hk.1.1.2.1,⟨hk.1.1.2.2.1,⟨hk.1.1.2.2.2.1,⟨hk.1.1.2.2.2.2.1,⟨hk.2,⟨(by simp [Value.ownBlock]),⟨hk.1.1.2.2.2.2.2.1,⟨hk.1.1.2.2.2.2.2.2.1,⟨hk.1.1.2.2.2.2.2.2.2.1,hk.1.1.2.2.2.2.2.2.2.2⟩⟩⟩⟩⟩⟩⟩⟩⟩⟩)⟩,⟨by (with_reducible repeat (first|apply Kd.N_alloc|apply Kd.N_drewN|apply Kd.N_drew));exact Kd.N_mono ap.out (fun _ hk=>⟨hk.1.1.1,⟨hk.1.1.2.1,⟨hk.1.1.2.2.1,⟨hk.1.1.2.2.2.1,⟨hk.1.1.2.2.2.2.1,⟨hk.2,⟨(by simp [Value.ownBlock]),⟨hk.1.1.2.2.2.2.2.1,⟨hk.1.1.2.2.2.2.2.2.1,⟨hk.1.1.2.2.2.2.2.2.2.1,hk.1.1.2.2.2.2.2.2.2.2⟩⟩⟩⟩⟩⟩⟩⟩⟩⟩)⟩,⟨r2_ (Kd.R_mono au.out (fun _ hk=>⟨hk.1.1,⟨hk.1.2.1,hk.1.2.2⟩⟩))⟩,⟨r2_ (Kd.R_mono aw.out (fun _ hk=>⟨hk.1.1,⟨hk.1.2.1,hk.1.2.2⟩⟩))⟩,⟨by (with_reducible repeat (first|apply Ra_|apply Rn_|apply Rd_));exact Kd.R_mono aE.out (fun _ hk=>⟨hk.1,⟨hk.2,(by simp [Value.ownBlock])⟩⟩)⟩,⟨by (with_reducible repeat (first|apply Ra_|apply Rn_|apply Rd_));exact Kd.R_mono gV.out (fun _ hk=>⟨hk.1.1,⟨hk.2,(by simp [Value.ownBlock])⟩⟩)⟩,⟨nl_⟩,⟨by (with_reducible repeat (first|apply Kd.V_alloc|apply Kd.V_drewN|apply Kd.V_drew));exact Kd.V_mono aa.out (fun _ hk=>⟨hk.1.1.1,⟨hk.1.1.2.1,⟨hk.1.1.2.2.1,⟨hk.1.1.2.2.2.1,⟨hk.1.1.2.2.2.2.1,⟨hk.1.1.2.2.2.2.2.1,⟨hk.2,⟨(by simp [Value.ownBlock]),⟨hk.1.1.2.2.2.2.2.2.1,⟨hk.1.1.2.2.2.2.2.2.2.1,⟨hk.1.1.2.2.2.2.2.2.2.2.1,hk.1.1.2.2.2.2.2.2.2.2.2⟩⟩⟩⟩⟩⟩⟩⟩⟩⟩⟩)⟩,⟨r2_ ac.out⟩,⟨r2_ (Kd.R_mono ab.out (fun _ hk=>⟨hk.1.1,⟨hk.1.2.1,hk.1.2.2⟩⟩))⟩,⟨h_ ad⟩,⟨h_ ah⟩,⟨b_ HB⟩⟩
  subst j5
  rw [if_pos rfl] at H
  replace H:=ob_ H
  obtain ⟨jB,oy,H⟩:=H
  try dsimp only at H
  have H':=mk0 H
  clear H
  have mM:=aU.out
  have mN:=cn.out
  obtain ⟨hn,hq,hs,ht,hu,hv,hw,hx,hy,hz,hA,hB⟩:=c6_ ad
  have hE:0≤(aj:Int):=od_
  have hF:aj<(ay.length:Int):=od_
  obtain ⟨jV,kB,dV,dW,dX⟩:=at_T55 hI.out aj hE hF
  obtain rfl:eP=jV:=(by injection kB)
  replace dV:=(bc_ HB dV :)
  replace dW:=(bc_ HB dW :)
  replace dX:=(bc_ HB dX :)
  replace hE:=eq_true hE
  replace hF:=eq_true hF
  go_wp2_with (first|(go_at_call 17;(with_reducible refine (FH.calls k14 ((rd_T55 ay aj).f0) ((rd_T55 ay aj).f1) ((rd_T55 ay aj).f2) true _ ob.out).mono ?_);rintro e o7 ⟨rfl,hb⟩;replace av:=mk0 (Kd.N_below (nn_ av) hb);replace ap:=mk0 (Kd.N_below (nn_ ap) hb);replace au:=mk0 (Kd.R_below (r_ au) hb);replace aw:=mk0 (Kd.R_below (r_ aw) hb);replace aE:=mk0 (Kd.R_below (r_ aE) hb);replace aa:=mk0 (Kd.V_below (v_ aa) hb);replace ac:=mk0 (Kd.R_below (r_ ac) hb);replace ab:=mk0 (Kd.R_below (r_ ab) hb);replace fx:=mk0 (Kd.R_below (r_ fx) hb);replace gV:=mk0 (Kd.R_below (r_ gV) hb);replace ad:=mk0 (u_ ad hb);replace ah:=mk0 (u_ ah hb);replace HB:=mk0 (bt_ (b_ HB) hb);(try clear hb))|(go_at_call 9;(with_reducible refine (FJ.calls (rd dZ (a4)) 1073741824 jB _ oy.out).mono ?_);rintro e w' ⟨rfl,⟨nd,rfl⟩⟩))
  go_meet
  case rel=>exact ⟨_,(jB),sm_,H',⟨by have:=ea.out;have:=co.out;have:=cw.out;have:=eN.out;have:=cH.out;have:=fy.out;have:=cX.out;have:=db.out;have:=dt.out;have:=du.out;have:=dx.out;have:=fP.out;have:=er.out;have:=gU.out;first|omega|exact Nat.le_refl _⟩,⟨by (with_reducible repeat (first|apply Kd.N_alloc|apply Kd.N_drewN|apply Kd.N_drew));exact Kd.N_mono av.out (fun _ hk=>⟨hk.1.1.1,⟨hk.1.1.2.1,⟨hk.1.1.2.2.1,⟨hk.1.1.2.2.2.1,⟨hk.1.1.2.2.2.2.1,⟨hk.2,⟨(by simp [Value.ownBlock]),⟨hk.1.1.2.2.2.2.2.1,⟨hk.1.1.2.2.2.2.2.2.1,⟨hk.1.1.2.2.2.2.2.2.2.1,hk.1.1.2.2.2.2.2.2.2.2⟩⟩⟩⟩⟩⟩⟩⟩⟩⟩)⟩,⟨by (with_reducible repeat (first|apply Kd.N_alloc|apply Kd.N_drewN|apply Kd.N_drew));exact Kd.N_mono ap.out (fun _ hk=>⟨hk.1.1.1,⟨hk.1.1.2.1,⟨hk.1.1.2.2.1,⟨hk.1.1.2.2.2.1,⟨hk.1.1.2.2.2.2.1,⟨hk.2,⟨(by simp [Value.ownBlock]),⟨hk.1.1.2.2.2.2.2.1,⟨hk.1.1.2.2.2.2.2.2.1,⟨hk.1.1.2.2.2.2.2.2.2.1,hk.1.1.2.2.2.2.2.2.2.2⟩⟩⟩⟩⟩⟩⟩⟩⟩⟩)⟩,⟨r2_ (Kd.R_mono au.out (fun _ hk=>⟨hk.1.1,⟨hk.1.2.1,hk.1.2.2⟩⟩))⟩,⟨r2_ (Kd.R_mono aw.out (fun _ hk=>⟨hk.1.1,⟨hk.1.2.1,hk.1.2.2⟩⟩))⟩,⟨by (with_reducible repeat (first|apply Ra_|apply Rn_|apply Rd_));exact Kd.R_mono aE.out (fun _ hk=>⟨hk.1,⟨hk.2,(by simp [Value.ownBlock])⟩⟩)⟩,⟨by (with_reducible repeat (first|apply Ra_|apply Rn_|apply Rd_));exact Kd.R_mono gV.out (fun _ hk=>⟨hk.1.1,⟨hk.2,(by simp [Value.ownBlock])⟩⟩)⟩,⟨nl_⟩,⟨by (with_reducible repeat (first|apply Kd.V_alloc|apply Kd.V_drewN|apply Kd.V_drew));exact Kd.V_mono aa.out (fun _ hk=>⟨hk.1.1.1,⟨hk.1.1.2.1,⟨hk.1.1.2.2.1,⟨hk.1.1.2.2.2.1,⟨hk.1.1.2.2.2.2.1,⟨hk.1.1.2.2.2.2.2.1,⟨hk.2,⟨(by simp [Value.ownBlock]),⟨hk.1.1.2.2.2.2.2.2.1,⟨hk.1.1.2.2.2.2.2.2.2.1,⟨hk.1.1.2.2.2.2.2.2.2.2.1,hk.1.1.2.2.2.2.2.2.2.2.2⟩⟩⟩⟩⟩⟩⟩⟩⟩⟩⟩)⟩,⟨r2_ ac.out⟩,⟨r2_ (Kd.R_mono ab.out (fun _ hk=>⟨hk.1.1,⟨hk.1.2.1,hk.1.2.2⟩⟩))⟩,⟨h_ ad⟩,⟨h_ ah⟩,⟨b_ HB⟩⟩
 clear HC147
 try clear b4
 try clear ic
 try clear b9
 try clear iU
 try clear c0
 try clear iV
 try clear c1
 try clear iW
 try clear c4
 try clear iX
 try clear c5
 try clear iY
 try clear c6
 try clear iZ
 try clear c7
 try clear ja
 try clear c8
 try clear jb
 try clear aX aY aZ ba bb bc
 try clear bd be bf bg bh bi
 try clear bj bk bl bm bn bo
 try clear bp bq br bs bu bv
 try clear bw bx bz bA bB bC
 try clear bD bE bF bG bH bI
 try clear bL bM
 try clear bJ bK
 try clear ie
 try clear gj
 try clear eJ eK eL
 try clear gl
 try clear dy
 try clear jC
 try clear jE
 try clear jG
 try clear jI
 try clear dz
 try clear jD
 try clear jF
 try clear jH
 try clear jJ
 obtain ⟨kq,gm,rfl,HA,hT,av,ap,au,aw,aE,cW,gv,aa,ac,ab,ad,ah,HB⟩:=hcut
 cases kq with
 | zero=>exact absurd HA.out (by simp [Fa.j17])
 | succ m9=>
 have H:=HA.out
 clear HA
 simp only [Fa.j17] at H
 as_aux_lemma=>
 have HC166:=mk0 H
 clear H
 go_upto_if 245 with (fail)
 go_cut [26,27] (fun v26 v27 wc=>∃ (kq:Nat) (dY:Int) (gH:List (S50)),v26 = .int .i64 dY∧Fc (Fa.j18 kq aJ cG am ao az aC aV an aA aW cv aj bN fD jc dY gH aH ax aK aG ay aI ai af=some r)∧Fc (kq≤m9)∧Fc (Kd.N k43 43 wc w.heap.size (fun k_=>(P0_1_ k_∨w.heap.size≤k_)∧some k_≠((.slice (some aD) am.length aN):Value).ownBlock∧some k_≠((.slice (some cE) ao.length cO):Value).ownBlock∧some k_≠((.slice (some cF) az.length cP):Value).ownBlock∧some k_≠(u14:Value).ownBlock∧some k_≠(a5:Value).ownBlock∧some k_≠(v27:Value).ownBlock∧some k_≠((.slice aq ai.length ar):Value).ownBlock∧some k_≠((.slice ak af.length al):Value).ownBlock∧k_≠ag∧k_≠ae) (.slice eQ aJ.length eR) aJ)∧Fc (Kd.N k34 34 wc w.heap.size (fun k_=>(P0_1_ k_∨w.heap.size≤k_)∧some k_≠((.slice eQ aJ.length eR):Value).ownBlock∧some k_≠((.slice (some cE) ao.length cO):Value).ownBlock∧some k_≠((.slice (some cF) az.length cP):Value).ownBlock∧some k_≠(u14:Value).ownBlock∧some k_≠(a5:Value).ownBlock∧some k_≠(v27:Value).ownBlock∧some k_≠((.slice aq ai.length ar):Value).ownBlock∧some k_≠((.slice ak af.length al):Value).ownBlock∧k_≠ag∧k_≠ae) (.slice (some aD) am.length aN) am)∧Fc (Kd.R (Kd.int .i64) 3 wc w.heap.size (fun k_=>(w.heap.size≤k_)∧some k_≠((.slice (some cF) az.length cP):Value).ownBlock∧some k_≠((.slice ak af.length al):Value).ownBlock) (.slice (some cE) ao.length cO) ao)∧Fc (Kd.R (Kd.int .i64) 3 wc w.heap.size (fun k_=>(w.heap.size≤k_)∧some k_≠((.slice (some cE) ao.length cO):Value).ownBlock∧some k_≠((.slice ak af.length al):Value).ownBlock) (.slice (some cF) az.length cP) az)∧Fc (Kd.R k50 50 wc w.heap.size (fun k_=>(w.heap.size≤k_)∧some k_≠(a5:Value).ownBlock∧some k_≠(v27:Value).ownBlock) u14 cv)∧Fc (Kd.R k50 50 wc w.heap.size (fun k_=>(w.heap.size≤k_)∧some k_≠(u14:Value).ownBlock∧some k_≠(v27:Value).ownBlock) a5 fD)∧Fc (Kd.R k50 50 wc w.heap.size (fun k_=>(w.heap.size≤k_)∧some k_≠(u14:Value).ownBlock∧some k_≠(a5:Value).ownBlock) v27 gH)∧Fc (Kd.V k34 34 wc w.heap.size (fun k_=>(P0_1_ k_∨w.heap.size≤k_)∧some k_≠((.slice eQ aJ.length eR):Value).ownBlock∧some k_≠((.slice (some aD) am.length aN):Value).ownBlock∧some k_≠((.slice (some cE) ao.length cO):Value).ownBlock∧some k_≠((.slice (some cF) az.length cP):Value).ownBlock∧some k_≠(u14:Value).ownBlock∧some k_≠(a5:Value).ownBlock∧some k_≠(v27:Value).ownBlock∧some k_≠((.slice aq ai.length ar):Value).ownBlock∧some k_≠((.slice ak af.length al):Value).ownBlock∧k_≠ag∧k_≠ae) (.slice A0_1 ax.length c0_1) ax)∧Fc (Kd.R k72 72 wc w.heap.size (fun k_=>(w.heap.size≤k_)) (.slice aq ai.length ar) ai)∧Fc (Kd.R (Kd.int .i64) 3 wc w.heap.size (fun k_=>(w.heap.size≤k_)∧some k_≠((.slice (some cE) ao.length cO):Value).ownBlock∧some k_≠((.slice (some cF) az.length cP):Value).ownBlock) (.slice ak af.length al) af)∧Fc (wc.heap[ag]? = some (.cells #[(.slice A0_0 aH.length c0_0),(.slice A0_1 ax.length c0_1),(.slice A0_2 aK.length c0_2),(.slice A0_3 aG.length c0_3),(.slice (some eP) ay.length c0_4),(.slice A0_5 aI.length c0_5)] 28 (0,0)))∧Fc (wc.heap[ae]? = some (.cells #[(.slice aq ai.length ar),(.slice ak af.length al)] 34 (0,0)))∧Fc (Below w.heap.size w wc))
 case first=>
  have H:=HC166.out
  clear HC166
  by_cases j9:gm=true
  rotate_left
  ·replace j9:=Bool.eq_false_iff.mpr j9
   subst j9
   rw [if_neg nf_] at H
   have H':=mk0 H
   clear H
   go_wp2
   go_meet
   case rel=>exact ⟨_,(1),(([]:List (S50))),sm_,H',⟨by have:=ea.out;have:=co.out;have:=cw.out;have:=eN.out;have:=cH.out;have:=fy.out;have:=cX.out;have:=db.out;have:=dt.out;have:=du.out;have:=dx.out;have:=fP.out;have:=er.out;have:=gU.out;have:=hT.out;first|omega|exact Nat.le_refl _⟩,⟨n2_ av.out⟩,⟨n2_ ap.out⟩,⟨r2_ au.out⟩,⟨r2_ aw.out⟩,⟨r2_ aE.out⟩,⟨r2_ cW.out⟩,⟨r2_ gv.out⟩,⟨v2_ aa.out⟩,⟨r2_ ac.out⟩,⟨r2_ ab.out⟩,⟨h_ ad⟩,⟨h_ ah⟩,⟨b_ HB⟩⟩
  subst j9
  rw [if_pos rfl] at H
  by_cases l6:0≤aj
  rotate_left
  ·rw [if_neg l6] at H
   exact absurd H (by simp)
  rw [if_pos l6] at H
  have ig:decide (0≤aj)=true:=decide_eq_true l6
  clear l6
  (first|rw [ig]|(simp only [i64_w,i32_w];rw [ig])|skip)
  by_cases l7:aj<(ay.length:Int)
  rotate_left
  ·rw [if_neg l7] at H
   exact absurd H (by simp)
  rw [if_pos l7] at H
  have jW:decide (aj<(ay.length:Int))=true:=decide_eq_true l7
  clear l7
  replace H:=ob_ H
  obtain ⟨lH,oz,H⟩:=H
  try dsimp only at H
  have H':=mk0 H
  clear H
  have mO:=aU.out
  have mP:=cn.out
  obtain ⟨iF,iG,iH,iI,iJ,iK,iL,iM,iN,iO,iP,iQ⟩:=c6_ ad
  have jX:0≤(aj:Int):=od_
  have jY:aj<(ay.length:Int):=od_
  obtain ⟨lI,mQ,gI,gJ,gK⟩:=at_T55 hI.out aj jX jY
  obtain rfl:eP=lI:=(by injection mQ)
  replace gI:=(bc_ HB gI :)
  replace gJ:=(bc_ HB gJ :)
  replace gK:=(bc_ HB gK :)
  replace jX:=eq_true jX
  replace jY:=eq_true jY
  obtain ⟨lJ,lK,lL⟩:=Kd.R_slice aE.out
  subst lL
  go_wp2_with (first|((with_reducible refine gate_callee (f:=18) rfl ?_);refine goesL_ (some 255) rfl rfl Tryz.func18 (by kernel_rfl) rfl #[.slice lJ cv.length lK,.agg #[.string ((rd_T55 ay aj).f0),.string ((rd_T55 ay aj).f1),.bool ((rd_T55 ay aj).f2)],.int .i64 (rd dZ (a4)),.bool (bN == 1)] rfl (by (try simp only [List.map_toArray,List.map_cons,List.map_nil]);first|done|(simp only [b5];rfl)|rfl|(simp only [List.length_drop,List.length_take];rfl)) ?_;(with_reducible refine (Ff.calls m9 _ _ cv ((rd_T55 ay aj).f0) ((rd_T55 ay aj).f1) ((rd_T55 ay aj).f2) (rd dZ (a4)) (bN == 1) lH _ ?side1 ?side2 oz.out).mono ?_);(case side1=>exact cr_ aE);(case side2=>exact (Kd.R_reads' aE.out).2.1);rintro e o8 ⟨o9,rfl,ho0,hb⟩;refine ⟨_,rfl,?_⟩;have b6:=mk0 (Kd.R_lower (Kd.R_new' (Kd.R_new' (Kd.R_new' (Kd.R_newM (M:=fun k_=>(w.heap.size≤k_)) ho0 (bz_ (b_ HB)) (fun k_ h_=>h_)) (Kd.R_lt (r_ aE))) (Kd.R_lt (r_ cW))) (Kd.R_lt (r_ gv))) (bz_ (b_ HB)));replace av:=mk0 (Kd.N_elder' (nn_ av) (Kd.R_base ho0) hb);replace ap:=mk0 (Kd.N_elder' (nn_ ap) (Kd.R_base ho0) hb);replace au:=mk0 (Kd.R_below (r_ au) hb);replace aw:=mk0 (Kd.R_below (r_ aw) hb);replace aE:=mk0 (Kd.R_elder' (r_ aE) (Kd.R_base ho0) hb);replace cW:=mk0 (Kd.R_elder' (r_ cW) (Kd.R_base ho0) hb);replace gv:=mk0 (Kd.R_elder' (r_ gv) (Kd.R_base ho0) hb);replace aa:=mk0 (Kd.V_elder' (v_ aa) (Kd.R_base ho0) hb);replace ac:=mk0 (Kd.R_below (r_ ac) hb);replace ab:=mk0 (Kd.R_below (r_ ab) hb);replace ad:=mk0 (u_ ad hb);replace ah:=mk0 (u_ ah hb);replace HB:=mk0 (bt_ (b_ HB) hb);have lM:=b6;clear b6;(try clear hb);(try clear ho0)))
  go_meet
  case rel=>exact ⟨_,(0),(lH),sm_,H',⟨by have:=ea.out;have:=co.out;have:=cw.out;have:=eN.out;have:=cH.out;have:=fy.out;have:=cX.out;have:=db.out;have:=dt.out;have:=du.out;have:=dx.out;have:=fP.out;have:=er.out;have:=gU.out;have:=hT.out;first|omega|exact Nat.le_refl _⟩,⟨n2_ (Kd.N_mono av.out (fun _ hk=>⟨hk.1.1,⟨hk.1.2.1,⟨hk.1.2.2.1,⟨hk.1.2.2.2.1,⟨hk.1.2.2.2.2.1,⟨hk.1.2.2.2.2.2.1,⟨hk.2,⟨hk.1.2.2.2.2.2.2.2.1,⟨hk.1.2.2.2.2.2.2.2.2.1,⟨hk.1.2.2.2.2.2.2.2.2.2.1,hk.1.2.2.2.2.2.2.2.2.2.2⟩⟩⟩⟩⟩⟩⟩⟩⟩⟩))⟩,⟨n2_ (Kd.N_mono ap.out (fun _ hk=>⟨hk.1.1,⟨hk.1.2.1,⟨hk.1.2.2.1,⟨hk.1.2.2.2.1,⟨hk.1.2.2.2.2.1,⟨hk.1.2.2.2.2.2.1,⟨hk.2,⟨hk.1.2.2.2.2.2.2.2.1,⟨hk.1.2.2.2.2.2.2.2.2.1,⟨hk.1.2.2.2.2.2.2.2.2.2.1,hk.1.2.2.2.2.2.2.2.2.2.2⟩⟩⟩⟩⟩⟩⟩⟩⟩⟩))⟩,⟨r2_ au.out⟩,⟨r2_ aw.out⟩,⟨r2_ (Kd.R_mono aE.out (fun _ hk=>⟨hk.1.1,⟨hk.1.2.1,hk.2⟩⟩))⟩,⟨r2_ (Kd.R_mono cW.out (fun _ hk=>⟨hk.1.1,⟨hk.1.2.1,hk.2⟩⟩))⟩,⟨r2_ (Kd.R_mono lM.out (fun _ hk=>⟨hk.1.1.1.1,⟨hk.1.1.2,hk.1.2⟩⟩))⟩,⟨v2_ (Kd.V_mono aa.out (fun _ hk=>⟨hk.1.1,⟨hk.1.2.1,⟨hk.1.2.2.1,⟨hk.1.2.2.2.1,⟨hk.1.2.2.2.2.1,⟨hk.1.2.2.2.2.2.1,⟨hk.1.2.2.2.2.2.2.1,⟨hk.2,⟨hk.1.2.2.2.2.2.2.2.2.1,⟨hk.1.2.2.2.2.2.2.2.2.2.1,⟨hk.1.2.2.2.2.2.2.2.2.2.2.1,hk.1.2.2.2.2.2.2.2.2.2.2.2⟩⟩⟩⟩⟩⟩⟩⟩⟩⟩⟩))⟩,⟨r2_ ac.out⟩,⟨r2_ ab.out⟩,⟨h_ ad⟩,⟨h_ ah⟩,⟨b_ HB⟩⟩
 clear HC166
 try clear b4
 try clear ic
 try clear b9
 try clear iU
 try clear c0
 try clear iV
 try clear c1
 try clear iW
 try clear c4
 try clear iX
 try clear c5
 try clear iY
 try clear c6
 try clear iZ
 try clear c7
 try clear ja
 try clear c8
 try clear jb
 try clear aX aY aZ ba bb bc
 try clear bd be bf bg bh bi
 try clear bj bk bl bm bn bo
 try clear bp bq br bs bu bv
 try clear bw bx bz bA bB bC
 try clear bD bE bF bG bH bI
 try clear bL bM
 try clear bJ bK
 try clear ie
 try clear gj
 try clear eJ eK eL
 try clear gl
 try clear dy
 try clear jC
 try clear jE
 try clear jG
 try clear jI
 try clear dz
 try clear jD
 try clear jF
 try clear jH
 try clear jJ
 obtain ⟨kq,dY,gH,rfl,HA,jA,av,ap,au,aw,aE,cW,gv,aa,ac,ab,ad,ah,HB⟩:=hcut
 cases kq with
 | zero=>exact absurd HA.out (by simp [Fa.j18])
 | succ nG=>
 have H:=HA.out
 clear HA
 simp only [Fa.j18] at H
 as_aux_lemma=>
 have HC175:=mk0 H
 clear H
 go_upto_region 47 with (fail)
 go_cut [265] (fun oA wc=>∃ (kq:Nat) (gn:Bool),oA = .bool gn∧Fc (Fa.j19 kq aJ cG am ao az aC aV an aA aW cv aj bN fD gn aH ax aK aG ay aI ai af=some r)∧Fc (kq≤nG)∧Fc (Kd.N k43 43 wc w.heap.size (fun k_=>(P0_1_ k_∨w.heap.size≤k_)∧some k_≠((.slice (some aD) am.length aN):Value).ownBlock∧some k_≠((.slice (some cE) ao.length cO):Value).ownBlock∧some k_≠((.slice (some cF) az.length cP):Value).ownBlock∧some k_≠(u14:Value).ownBlock∧some k_≠(a5:Value).ownBlock∧some k_≠((.slice aq ai.length ar):Value).ownBlock∧some k_≠((.slice ak af.length al):Value).ownBlock∧k_≠ag∧k_≠ae) (.slice eQ aJ.length eR) aJ)∧Fc (Kd.N k34 34 wc w.heap.size (fun k_=>(P0_1_ k_∨w.heap.size≤k_)∧some k_≠((.slice eQ aJ.length eR):Value).ownBlock∧some k_≠((.slice (some cE) ao.length cO):Value).ownBlock∧some k_≠((.slice (some cF) az.length cP):Value).ownBlock∧some k_≠(u14:Value).ownBlock∧some k_≠(a5:Value).ownBlock∧some k_≠((.slice aq ai.length ar):Value).ownBlock∧some k_≠((.slice ak af.length al):Value).ownBlock∧k_≠ag∧k_≠ae) (.slice (some aD) am.length aN) am)∧Fc (Kd.R (Kd.int .i64) 3 wc w.heap.size (fun k_=>(w.heap.size≤k_)∧some k_≠((.slice (some cF) az.length cP):Value).ownBlock∧some k_≠((.slice ak af.length al):Value).ownBlock) (.slice (some cE) ao.length cO) ao)∧Fc (Kd.R (Kd.int .i64) 3 wc w.heap.size (fun k_=>(w.heap.size≤k_)∧some k_≠((.slice (some cE) ao.length cO):Value).ownBlock∧some k_≠((.slice ak af.length al):Value).ownBlock) (.slice (some cF) az.length cP) az)∧Fc (Kd.R k50 50 wc w.heap.size (fun k_=>(w.heap.size≤k_)∧some k_≠(a5:Value).ownBlock) u14 cv)∧Fc (Kd.R k50 50 wc w.heap.size (fun k_=>(w.heap.size≤k_)∧some k_≠(u14:Value).ownBlock) a5 fD)∧Fc (Kd.V k34 34 wc w.heap.size (fun k_=>(P0_1_ k_∨w.heap.size≤k_)∧some k_≠((.slice eQ aJ.length eR):Value).ownBlock∧some k_≠((.slice (some aD) am.length aN):Value).ownBlock∧some k_≠((.slice (some cE) ao.length cO):Value).ownBlock∧some k_≠((.slice (some cF) az.length cP):Value).ownBlock∧some k_≠(u14:Value).ownBlock∧some k_≠(a5:Value).ownBlock∧some k_≠((.slice aq ai.length ar):Value).ownBlock∧some k_≠((.slice ak af.length al):Value).ownBlock∧k_≠ag∧k_≠ae) (.slice A0_1 ax.length c0_1) ax)∧Fc (Kd.R k72 72 wc w.heap.size (fun k_=>(w.heap.size≤k_)) (.slice aq ai.length ar) ai)∧Fc (Kd.R (Kd.int .i64) 3 wc w.heap.size (fun k_=>(w.heap.size≤k_)∧some k_≠((.slice (some cE) ao.length cO):Value).ownBlock∧some k_≠((.slice (some cF) az.length cP):Value).ownBlock) (.slice ak af.length al) af)∧Fc (wc.heap[ag]? = some (.cells #[(.slice A0_0 aH.length c0_0),(.slice A0_1 ax.length c0_1),(.slice A0_2 aK.length c0_2),(.slice A0_3 aG.length c0_3),(.slice (some eP) ay.length c0_4),(.slice A0_5 aI.length c0_5)] 28 (0,0)))∧Fc (wc.heap[ae]? = some (.cells #[(.slice aq ai.length ar),(.slice ak af.length al)] 34 (0,0)))∧Fc (Below w.heap.size w wc))
 case first=>
  have H:=HC175.out
  clear HC175
  replace H:=ob_ H
  obtain ⟨jd,oc,H⟩:=H
  try dsimp only at H
  by_cases d0:jd=dY
  rotate_left
  ·rw [if_neg d0] at H
   have gr:(jd == dY)=false:=beq_eq_false_iff_ne.mpr d0
   have jZ:(jd != dY)=true:=bne_iff_ne.mpr d0
   (first|rw [gr]|(simp only [i64_w,i32_w];rw [gr])|skip)
   have H':=mk0 H
   clear H
   go_wp2_with (first|((with_reducible refine gate_callee (f:=15) rfl ?_);refine gL_ (some 257) Tryz.func15 #[.int .i64 jc] (h:=?_);(with_reducible refine (F0.calls jc jd _ oc.out).mono ?_);rintro e w' ⟨rfl,⟨nd,rfl⟩⟩;refine ⟨_,rfl,?_⟩))
   go_meet
   case rel=>exact ⟨_,(true),sm_,H',⟨by have:=ea.out;have:=co.out;have:=cw.out;have:=eN.out;have:=cH.out;have:=fy.out;have:=cX.out;have:=db.out;have:=dt.out;have:=du.out;have:=dx.out;have:=fP.out;have:=er.out;have:=gU.out;have:=hT.out;have:=jA.out;first|omega|exact Nat.le_refl _⟩,⟨nM_ av⟩,⟨nM_ ap⟩,⟨r2_ au.out⟩,⟨r2_ aw.out⟩,⟨rM_ aE⟩,⟨rM_ cW⟩,⟨vM_ aa⟩,⟨r2_ ac.out⟩,⟨r2_ ab.out⟩,⟨h_ ad⟩,⟨h_ ah⟩,⟨b_ HB⟩⟩
  rw [if_pos d0] at H
  have gr:(jd == dY)=true:=beq_iff_eq.mpr d0
  have jZ:(jd != dY)=false:=bne_eq_false_iff_eq.mpr d0
  clear d0
  (first|rw [gr]|(simp only [i64_w,i32_w];rw [gr])|skip)
  replace H:=ob_ H
  obtain ⟨lN,oB,H⟩:=H
  try dsimp only at H
  have H':=mk0 H
  clear H
  go_wp2_with (first|((with_reducible refine gate_callee (f:=15) rfl ?_);refine gL_ (some 257) Tryz.func15 #[.int .i64 jc] (h:=?_);(with_reducible refine (F0.calls jc jd _ oc.out).mono ?_);rintro e w' ⟨rfl,⟨nd,rfl⟩⟩;refine ⟨_,rfl,?_⟩;obtain ⟨ni,nj,lO⟩:=Kd.R_slice cW.out;subst lO;obtain ⟨nk,nl,lP⟩:=Kd.R_slice gv.out;subst lP)|(go_at_call 19;(with_reducible refine (FQ.calls nG _ _ fD _ _ gH lN _ ?side1 ?side2 ?side3 ?side4 oB.out).mono ?_);(case side1=>exact cr_ cW);(case side2=>exact (Kd.R_reads' cW.out).2.1);(case side3=>exact cr_ gv);(case side4=>exact (Kd.R_reads' gv.out).2.1);rintro e w' ⟨rfl,⟨nd,rfl⟩⟩))
  go_meet
  case rel=>exact ⟨_,(!lN),sm_,H',⟨by have:=ea.out;have:=co.out;have:=cw.out;have:=eN.out;have:=cH.out;have:=fy.out;have:=cX.out;have:=db.out;have:=dt.out;have:=du.out;have:=dx.out;have:=fP.out;have:=er.out;have:=gU.out;have:=hT.out;have:=jA.out;first|omega|exact Nat.le_refl _⟩,⟨nM_ av⟩,⟨nM_ ap⟩,⟨r2_ au.out⟩,⟨r2_ aw.out⟩,⟨rM_ aE⟩,⟨rM_ cW⟩,⟨vM_ aa⟩,⟨r2_ ac.out⟩,⟨r2_ ab.out⟩,⟨h_ ad⟩,⟨h_ ah⟩,⟨b_ HB⟩⟩
 clear HC175
 try clear b4
 try clear ic
 try clear b9
 try clear iU
 try clear c0
 try clear iV
 try clear c1
 try clear iW
 try clear c4
 try clear iX
 try clear c5
 try clear iY
 try clear c6
 try clear iZ
 try clear c7
 try clear ja
 try clear c8
 try clear jb
 try clear aX aY aZ ba bb bc
 try clear bd be bf bg bh bi
 try clear bj bk bl bm bn bo
 try clear bp bq br bs bu bv
 try clear bw bx bz bA bB bC
 try clear bD bE bF bG bH bI
 try clear bL bM
 try clear bJ bK
 try clear ie
 try clear gj
 try clear eJ eK eL
 try clear gl
 try clear dy
 try clear jC
 try clear jE
 try clear jG
 try clear jI
 try clear dz
 try clear jD
 try clear jF
 try clear jH
 try clear jJ
 obtain ⟨kq,gn,rfl,HA,kw,av,ap,au,aw,aE,cW,aa,ac,ab,ad,ah,HB⟩:=hcut
 cases kq with
 | zero=>exact absurd HA.out (by simp [Fa.j19])
 | succ nH=>
 have H:=HA.out
 clear HA
 simp only [Fa.j19] at H
 as_aux_lemma=>
 by_cases l8:gn=true
 ·subst l8
  rw [if_pos rfl] at H
  obtain rfl:=Option.some.inj H
  go_wp2
  go_ret
  exact ⟨by first|rfl|(simp [errW_none,errW_some] <;> rfl)|(simp only [← b5];first|rfl|(simp [errW_none,errW_some] <;> rfl))|(simp [*,errW_none,errW_some] <;> rfl),b_ HB⟩
 replace l8:=Bool.eq_false_iff.mpr l8
 subst l8
 rw [if_neg nf_] at H
 replace H:=ob_ H
 obtain ⟨mR,oC,H⟩:=H
 try dsimp only at H
 have H':=mk0 H
 clear H
 obtain ⟨hC,hD,lQ⟩:=Kd.R_slice cW.out
 subst lQ
 go_wp2_with (first|((with_reducible refine gate_callee (f:=20) rfl ?_);refine gL_ (some 267) Tryz.func20 #[.slice hC fD.length hD] (h:=?_);(with_reducible refine (FR.calls nH (fun k_=>some k_=(.slice hC fD.length hD:Value).ownBlock) (.slice hC fD.length hD) fD mR w _ ?side1 ?side2 oC.out).mono ?_);(case side1=>repeat (first|(with_reducible first|exact HB.out|apply bL_|apply pN_|apply b1_|refine bs_ ?_ km.out|refine bs_ ?_ lk.out)|exact HB.out));(case side2=>exact Kd.R_tight rfl cW.out);rintro e pa ⟨rfl,oD,hb,hkp⟩;refine ⟨_,rfl,?_⟩;have ny2_:=mk0 (Kd.R_mono (ok':=fun k_=>(w.heap.size≤k_)∧some k_≠(.slice (some cF) az.length cP:Value).ownBlock∧some k_≠(.slice ak af.length al:Value).ownBlock) (Kd.R_keptB ((Kd.R_apart' au.out (Kd.R_typed cW.out) (by decide))) hkp (fun k_ hk_ hs_=>(hk_.2) hs_)) (fun k_ hk_=>⟨hk_.1.1.1,hk_.1.1.2.1,hk_.1.1.2.2⟩));have a9:=mk0 (Kd.R_mono (ok':=fun k_=>(w.heap.size≤k_)∧some k_≠(.slice (some cE) ao.length cO:Value).ownBlock∧some k_≠(.slice ak af.length al:Value).ownBlock) (Kd.R_keptB ((Kd.R_apart' aw.out (Kd.R_typed cW.out) (by decide))) hkp (fun k_ hk_ hs_=>(hk_.2) hs_)) (fun k_ hk_=>⟨hk_.1.1.1,hk_.1.1.2.1,hk_.1.1.2.2⟩));have d8:=mk0 (Kd.R_mono (ok':=fun k_=>(w.heap.size≤k_)) (Kd.R_keptB ((Kd.R_apart' ac.out (Kd.R_typed cW.out) (by decide))) hkp (fun k_ hk_ hs_=>(hk_.2) hs_)) (fun k_ hk_=>hk_.1.1));have b7:=mk0 (Kd.R_mono (ok':=fun k_=>(w.heap.size≤k_)∧some k_≠(.slice (some cE) ao.length cO:Value).ownBlock∧some k_≠(.slice (some cF) az.length cP:Value).ownBlock) (Kd.R_keptB ((Kd.R_apart' ab.out (Kd.R_typed cW.out) (by decide))) hkp (fun k_ hk_ hs_=>(hk_.2) hs_)) (fun k_ hk_=>⟨hk_.1.1.1,hk_.1.1.2.1,hk_.1.1.2.2⟩));have e2:=mk0 (blk_kept (h_ ad) hkp (fun hs_=>(fun e_=>(Kd.R_ne cW.out ad.out (by decide)) e_) hs_));have b6:=mk0 (blk_kept (h_ ah) hkp (fun hs_=>(fun e_=>(Kd.R_ne cW.out ah.out (by decide)) e_) hs_));replace av:=mk0 (Kd.N_mono (ok':=fun k_=>(P0_1_ k_∨w.heap.size≤k_)∧some k_≠(.slice (some aD) am.length aN:Value).ownBlock∧some k_≠(.slice (some cE) ao.length cO:Value).ownBlock∧some k_≠(.slice (some cF) az.length cP:Value).ownBlock∧some k_≠(u14:Value).ownBlock∧some k_≠(.slice hC fD.length hD:Value).ownBlock∧some k_≠(.slice aq ai.length ar:Value).ownBlock∧some k_≠(.slice ak af.length al:Value).ownBlock∧k_≠ag∧k_≠ae) (Kd.N_keptB (av.out) hkp (fun k_ hk_ hs_=>(hk_.2.2.2.2.2.1) hs_)) (fun k_ hk_=>⟨hk_.1.1,hk_.1.2.1,hk_.1.2.2.1,hk_.1.2.2.2.1,hk_.1.2.2.2.2.1,hk_.1.2.2.2.2.2.1,hk_.1.2.2.2.2.2.2.1,hk_.1.2.2.2.2.2.2.2.1,hk_.1.2.2.2.2.2.2.2.2.1,hk_.1.2.2.2.2.2.2.2.2.2⟩));replace ap:=mk0 (Kd.N_mono (ok':=fun k_=>(P0_1_ k_∨w.heap.size≤k_)∧some k_≠(.slice eQ aJ.length eR:Value).ownBlock∧some k_≠(.slice (some cE) ao.length cO:Value).ownBlock∧some k_≠(.slice (some cF) az.length cP:Value).ownBlock∧some k_≠(u14:Value).ownBlock∧some k_≠(.slice hC fD.length hD:Value).ownBlock∧some k_≠(.slice aq ai.length ar:Value).ownBlock∧some k_≠(.slice ak af.length al:Value).ownBlock∧k_≠ag∧k_≠ae) (Kd.N_keptB (ap.out) hkp (fun k_ hk_ hs_=>(hk_.2.2.2.2.2.1) hs_)) (fun k_ hk_=>⟨hk_.1.1,hk_.1.2.1,hk_.1.2.2.1,hk_.1.2.2.2.1,hk_.1.2.2.2.2.1,hk_.1.2.2.2.2.2.1,hk_.1.2.2.2.2.2.2.1,hk_.1.2.2.2.2.2.2.2.1,hk_.1.2.2.2.2.2.2.2.2.1,hk_.1.2.2.2.2.2.2.2.2.2⟩));replace aE:=mk0 (Kd.R_mono (ok':=fun k_=>(w.heap.size≤k_)∧some k_≠(.slice hC fD.length hD:Value).ownBlock) (Kd.R_keptB (aE.out) hkp (fun k_ hk_ hs_=>(hk_.2) hs_)) (fun k_ hk_=>⟨hk_.1.1,hk_.1.2⟩));replace cW:=mk0 (Kd.R_reok rfl oD (fun k_ e_=>cW.out.1 k_ e_));replace aa:=mk0 (Kd.V_mono (ok':=fun k_=>(P0_1_ k_∨w.heap.size≤k_)∧some k_≠(.slice eQ aJ.length eR:Value).ownBlock∧some k_≠(.slice (some aD) am.length aN:Value).ownBlock∧some k_≠(.slice (some cE) ao.length cO:Value).ownBlock∧some k_≠(.slice (some cF) az.length cP:Value).ownBlock∧some k_≠(u14:Value).ownBlock∧some k_≠(.slice hC fD.length hD:Value).ownBlock∧some k_≠(.slice aq ai.length ar:Value).ownBlock∧some k_≠(.slice ak af.length al:Value).ownBlock∧k_≠ag∧k_≠ae) (Kd.V_keptB (aa.out) hkp (fun k_ hk_ hs_=>(hk_.2.2.2.2.2.2.1) hs_)) (fun k_ hk_=>⟨hk_.1.1,hk_.1.2.1,hk_.1.2.2.1,hk_.1.2.2.2.1,hk_.1.2.2.2.2.1,hk_.1.2.2.2.2.2.1,hk_.1.2.2.2.2.2.2.1,hk_.1.2.2.2.2.2.2.2.1,hk_.1.2.2.2.2.2.2.2.2.1,hk_.1.2.2.2.2.2.2.2.2.2.1,hk_.1.2.2.2.2.2.2.2.2.2.2⟩));replace HB:=mk0 (hb);clear au aw ac ab ad ah;have au:=ny2_;have aw:=a9;have ac:=d8;have ab:=b7;have ad:=e2;have ah:=b6;clear ny2_ a9 d8 b7 e2 b6;(try clear hb);(try clear hkp);(try clear oD)))
 go_roundg nH
 case measure=>have:=ea.out;have:=co.out;have:=cw.out;have:=eN.out;have:=cH.out;have:=fy.out;have:=cX.out;have:=db.out;have:=dt.out;have:=du.out;have:=dx.out;have:=fP.out;have:=er.out;have:=gU.out;have:=hT.out;have:=jA.out;have:=kw.out;omega
 case rel=>exact ⟨(cv),(wrap64 (bN + 1)),sm_,H',⟨by have:=ea.out;have:=co.out;have:=cw.out;have:=eN.out;have:=cH.out;have:=fy.out;have:=cX.out;have:=db.out;have:=dt.out;have:=du.out;have:=dx.out;have:=fP.out;have:=er.out;have:=gU.out;have:=hT.out;have:=jA.out;have:=kw.out;omega⟩,⟨nM_ av⟩,⟨nM_ ap⟩,⟨r2_ au.out⟩,⟨r2_ aw.out⟩,⟨rM_ aE⟩,⟨vM_ aa⟩,⟨r2_ ac.out⟩,⟨r2_ ab.out⟩,⟨h_ ad⟩,⟨h_ ah⟩,⟨b_ HB⟩⟩
end Go.Proofs.YtbaecdcfefmcgaaGreat.PVrd
