import Derived.Shelf.SlSorted.Search
import Derived.Test.YtbaecdcfefmcgaaGreatPVrdx0
import Derived.Test.YtbaecdcfefmcgaaGreatPVrdx16
import Derived.Test.YtbaecdcfefmcgaaGreatPVrdx17
import Derived.Test.YtbaecdcfefmcgaaGreatPVrdx18
namespace Go.Proofs.YtbaecdcfefmcgaaGreat.PVrd
open Go.RowKit Go.Proofs.YtbaecdcfefmcgaaGreatW.PrintWords Go.Proofs.YtbaecdcfefmcgaaGreatW.PrintLast Go.Proofs.YtbaecdcfefmcgaaGreatW.PrintMore
attribute [local go_sem] max2_int min2_int max_two min_two max_three min_three max_four min_four
set_option maxHeartbeats 8000000
set_option maxRecDepth 100000
set_option linter.unusedVariables false
set_option linter.unusedSimpArgs false
def Fs.j0:Nat→List (S43)→Int→Int→Int→Bool→Bool→List (S72)→List Int→ByteArray→ByteArray→Bool→Option ((List (S50))×Int)
 | 0,_,_,_,_,_,_,_,_,_,_,_=>none
 | k + 1,b,a,c,d,e,g,h,i,j,l,m=>if g=true then (some (([]:List (S50)),1)) else (if 0≤a then (if a<(b.length:Int) then ((FM.f k ((rd_T43 b a).f0) c).bind fun n=>((Fo.f k n h i a).bind fun o=>((GB.f o j l m d e).bind fun p=>(some (p,0))))) else (none)) else (none))
def Fs.f (k:Nat) (l0:List (S43)) (l1_0:List (S72)) (l1_1:List Int) (a2:Int) (a3_0:ByteArray) (a3_1:ByteArray) (a3_2:Bool) (a4:Int) (a5:Int) (a6:Bool):Option ((List (S50))×Int):=(F1.f k l0 l1_0 l1_1).bind fun a=>(if a=true then ((Gj.f l0 a2).bind fun b=>(if b=true then ((Ge.f k a3_0 a3_1 a3_2 a5).bind fun c=>(Fs.j0 k l0 a2 a4 a5 a6 (!c) l1_0 l1_1 a3_0 a3_1 a3_2)) else (Fs.j0 k l0 a2 a4 a5 a6 true l1_0 l1_1 a3_0 a3_1 a3_2))) else (Fs.j0 k l0 a2 a4 a5 a6 true l1_0 l1_1 a3_0 a3_1 a3_2))
theorem Fs.mono_l:∀ k,(∀ y0 y1 y2 y3 y4 y5 y6 y7 y8 y9 y10,LeO (Fs.j0 k y0 y1 y2 y3 y4 y5 y6 y7 y8 y9 y10) (Fs.j0 (k + 1) y0 y1 y2 y3 y4 y5 y6 y7 y8 y9 y10))
 | 0=>fun _ _ _ _ _ _ _ _ _ _ _ r h=>by simp [Fs.j0] at h
 | k + 1=>by
  have ih0:=Fs.mono_l k
  have:=@Ge.mono
  have:=@FM.mono
  have:=@F1.mono
  have:=@Fo.mono
  all_goals (intros;first|unfold Fs.j0)
  all_goals exact mz_
theorem Fs.mono:∀ a0 a1 a2 a3 a4 a5 a6 a7 a8 a9 k,LeO (Fs.f k a0 a1 a2 a3 a4 a5 a6 a7 a8 a9) (Fs.f (k + 1) a0 a1 a2 a3 a4 a5 a6 a7 a8 a9):=by
 intro a0 a1 a2 a3 a4 a5 a6 a7 a8 a9 k
 have ih0:=Fs.mono_l k
 have:=@Ge.mono
 have:=@FM.mono
 have:=@F1.mono
 have:=@Fo.mono
 unfold Fs.f
 exact mz_
def Fs.T3:Bool×List (List Nat×List Nat):=(true,[([],[]),([],[]),([0,1],[0,1]),([2],[2]),([],[]),([3,4],[3,4]),([],[]),([],[]),([5,6,7,5],[5,6,7]),([],[]),([],[]),([],[]),([8,9,10,11,8],[8,9,10,11]),([12,12,0,1,2,3,4,5,6,7,8,9,10,11,12],[12]),([13,0,1,2,3,4,5,6,7,8,9,10,11,12,13],[])])
def Fs.B3:List Nat:=[0,0,3,7,0,31,0,0,255,0,0,0,4095,8191,16383]
theorem Fs.tab3:rtab .any (opsOf Tryz.f16 3)=Fs.T3:=by kernel_rfl
theorem Fs.bits3:waitsOk Fs.T3.2 Fs.B3=true:=by kernel_rfl
theorem Fs.calls (k:Nat) (A0:Option Addr) (c0:Nat) (l0:List (S43)) (A1_0:Option Addr) (c1_0:Nat) (l1_0:List (S72)) (A1_1:Option Addr) (c1_1:Nat) (l1_1:List Int) (a2:Int) (a3_0:ByteArray) (a3_1:ByteArray) (a3_2:Bool) (a4:Int) (a5:Int) (a6:Bool) (r1:List (S50)) (r2:Int) (w:World) (hr0:Kd.C k43 w A0 l0.length l0) (hc0:l0.length≤c0) (hr1_0:Kd.C k72 w A1_0 l1_0.length l1_0) (hc1_0:l1_0.length≤c1_0) (hr1_1:Kd.C (Kd.int .i64) w A1_1 l1_1.length l1_1) (hc1_1:l1_1.length≤c1_1) (h:Fs.f k l0 l1_0 l1_1 a2 a3_0 a3_1 a3_2 a4 a5 a6=some (r1,r2)) :
 Calls Tryz.prog 16 #[.slice A0 l0.length c0,.agg #[.slice A1_0 l1_0.length c1_0,.slice A1_1 l1_1.length c1_1],.int .i64 a2,.agg #[.string a3_0,.string a3_1,.bool a3_2],.int .i64 a4,.int .i64 a5,.bool a6] w fun e w'=>∃ v0_:Value,e = .returned (.tuple #[v0_,.int .i64 r2])∧Kd.R k50 50 w' w.heap.size (fun _=>True) v0_ r1∧Below w.heap.size w w':=by
 have hu34:=Tryz.underlying34
 have hu55:=Tryz.underlying55
 have hu43:=Tryz.underlying43
 have HR0:=mk0 hr0
 have HC0:=mk0 hc0
 clear hr0 hc0
 have ai:=mk0 hr1_0
 have aj:=mk0 hc1_0
 clear hr1_0 hc1_0
 have ak:=mk0 hr1_1
 have al:=mk0 hc1_1
 clear hr1_1 hc1_1
 have HB:=mk0 (Below.refl w.heap.size w)
 have H:((F1.f k l0 l1_0 l1_1).bind fun ax=>(if ax=true then ((Gj.f l0 a2).bind fun ay=>(if ay=true then ((Ge.f k a3_0 a3_1 a3_2 a5).bind fun au=>(Fs.j0 k l0 a2 a4 a5 a6 (!au) l1_0 l1_1 a3_0 a3_1 a3_2)) else (Fs.j0 k l0 a2 a4 a5 a6 true l1_0 l1_1 a3_0 a3_1 a3_2))) else (Fs.j0 k l0 a2 a4 a5 a6 true l1_0 l1_1 a3_0 a3_1 a3_2)))=some (r1,r2):=h
 clear h
 have HC8:=mk0 H
 clear H
 go_enter Tryz.func16,Tryz.ntmps16
 go_upto_region 1 with (first|((with_reducible refine gate_dst (N:=8) rfl ?_);refine bx_ (N:=8) (cs:=#[.slice A1_0 l1_0.length c1_0,.slice A1_1 l1_1.length c1_1]) (t:=34) (h:=?_);intro ar hg w9 hbox hb;have ny2_:=mk0 (gz_ HB hg);have aG:=mk0 (gz_ HB hg);replace HB:=mk0 (bt_ (b_ HB) hb);have aa:=mk0 (hbox);have bC:=ny2_;have bD:=aG;clear ny2_ aG;clear hb hbox hg)|((with_reducible refine gate_dst (N:=10) rfl ?_);refine bx_ (N:=10) (cs:=#[.string a3_0,.string a3_1,.bool a3_2]) (t:=55) (h:=?_);intro am hg bU hbox hb;have aG:=mk0 (gz_ HB hg);have aV:=mk0 (gz_ HB hg);have aW:=mk0 (ne1_ aa hg);have aX:=mk0 (ne2_ aa hg);replace aa:=mk0 (u_ aa hb);replace HB:=mk0 (bt_ (b_ HB) hb);have ab:=mk0 (hbox);have bE:=aV;have ad:=aW;have ae:=aX;clear aG aV aW aX;clear hb hbox hg))
 (try simp only [Act.put,List.setIfInBounds_toArray,List.set_cons_zero,List.set_cons_succ])
 go_cut [31] (fun v31 wc=>∃ (kq:Nat) (an:Bool),v31 = .bool an∧Fc (Fs.j0 kq l0 a2 a4 a5 a6 an l1_0 l1_1 a3_0 a3_1 a3_2=some (r1,r2))∧Fc (kq≤k)∧Fc (wc.heap[ar]? = some (.cells #[(.slice A1_0 l1_0.length c1_0),(.slice A1_1 l1_1.length c1_1)] 34 (0,0)))∧Fc (wc.heap[am]? = some (.cells #[.string a3_0,.string a3_1,.bool a3_2] 55 (0,0)))∧Fc (Below w.heap.size w wc))
 case first=>
  have H:=HC8.out
  clear HC8
  replace H:=ob_ H
  obtain ⟨ax,aR,H⟩:=H
  try dsimp only at H
  by_cases aH:ax=true
  ·subst aH
   rw [if_pos rfl] at H
   replace H:=ob_ H
   obtain ⟨ay,aY,H⟩:=H
   try dsimp only at H
   by_cases aI:ay=true
   ·subst aI
    rw [if_pos rfl] at H
    replace H:=ob_ H
    obtain ⟨au,bF,H⟩:=H
    try dsimp only at H
    have H':=mk0 H
    clear H
    have bG:=ad.out
    have bH:=ae.out
    obtain ⟨aZ,ba,bb,bc⟩:=c2_ aa
    go_wp2_with (first|((with_reducible refine gate_callee (f:=37) rfl ?_);refine gL_ (some 18) Tryz.func37 #[.slice A0 l0.length c0,.agg #[.slice A1_0 l1_0.length c1_0,.slice A1_1 l1_1.length c1_1]] (h:=?_);(with_reducible refine (F1.calls k _ _ l0 _ _ l1_0 _ _ l1_1 true _ ?side1 ?side2 ?side3 ?side4 ?side5 ?side6 aR.out).mono ?_);(case side1=>exact cb_ HR0 HB);(case side2=>exact HC0.out);(case side3=>exact cb_ ai HB);(case side4=>exact aj.out);(case side5=>exact cb_ ak HB);(case side6=>exact al.out);rintro e bV ⟨rfl,hb⟩;refine ⟨_,rfl,?_⟩;replace aa:=mk0 (u_ aa hb);replace ab:=mk0 (u_ ab hb);replace HB:=mk0 (bt_ (b_ HB) hb);(try clear hb))|(go_at_call 38;(with_reducible refine (Gj.calls _ _ l0 a2 true _ ?side1 ?side2 aY.out).mono ?_);(case side1=>exact cb_ HR0 HB);(case side2=>exact HC0.out);rintro e w' ⟨rfl,⟨nd,rfl⟩⟩;obtain ⟨bd,be,bf,bg,bh,bi⟩:=c3_ ab)|(go_at_call 42;(with_reducible refine (Ge.calls k a3_0 a3_1 a3_2 a5 au _ bF.out).mono ?_);rintro e bW ⟨rfl,hb⟩;replace aa:=mk0 (u_ aa hb);replace ab:=mk0 (u_ ab hb);replace HB:=mk0 (bt_ (b_ HB) hb);(try clear hb)))
    go_meet
    case rel=>exact ⟨_,(!au),sm_,H',⟨by first|omega|exact Nat.le_refl _⟩,⟨h_ aa⟩,⟨h_ ab⟩,⟨b_ HB⟩⟩
   ·replace aI:=Bool.eq_false_iff.mpr aI
    subst aI
    rw [if_neg nf_] at H
    have H':=mk0 H
    clear H
    have bI:=ad.out
    have bJ:=ae.out
    obtain ⟨bj,bk,bl,bm⟩:=c2_ aa
    go_wp2_with (first|((with_reducible refine gate_callee (f:=37) rfl ?_);refine gL_ (some 18) Tryz.func37 #[.slice A0 l0.length c0,.agg #[.slice A1_0 l1_0.length c1_0,.slice A1_1 l1_1.length c1_1]] (h:=?_);(with_reducible refine (F1.calls k _ _ l0 _ _ l1_0 _ _ l1_1 true _ ?side1 ?side2 ?side3 ?side4 ?side5 ?side6 aR.out).mono ?_);(case side1=>exact cb_ HR0 HB);(case side2=>exact HC0.out);(case side3=>exact cb_ ai HB);(case side4=>exact aj.out);(case side5=>exact cb_ ak HB);(case side6=>exact al.out);rintro e bX ⟨rfl,hb⟩;refine ⟨_,rfl,?_⟩;replace aa:=mk0 (u_ aa hb);replace ab:=mk0 (u_ ab hb);replace HB:=mk0 (bt_ (b_ HB) hb);(try clear hb))|(go_at_call 38;(with_reducible refine (Gj.calls _ _ l0 a2 false _ ?side1 ?side2 aY.out).mono ?_);(case side1=>exact cb_ HR0 HB);(case side2=>exact HC0.out);rintro e w' ⟨rfl,⟨nd,rfl⟩⟩))
    go_meet
    case rel=>exact ⟨_,(true),sm_,H',⟨by first|omega|exact Nat.le_refl _⟩,⟨h_ aa⟩,⟨h_ ab⟩,⟨b_ HB⟩⟩
  ·replace aH:=Bool.eq_false_iff.mpr aH
   subst aH
   rw [if_neg nf_] at H
   have H':=mk0 H
   clear H
   have bK:=ad.out
   have bL:=ae.out
   obtain ⟨bn,bo,bp,bq⟩:=c2_ aa
   go_wp2_with (first|((with_reducible refine gate_callee (f:=37) rfl ?_);refine gL_ (some 18) Tryz.func37 #[.slice A0 l0.length c0,.agg #[.slice A1_0 l1_0.length c1_0,.slice A1_1 l1_1.length c1_1]] (h:=?_);(with_reducible refine (F1.calls k _ _ l0 _ _ l1_0 _ _ l1_1 false _ ?side1 ?side2 ?side3 ?side4 ?side5 ?side6 aR.out).mono ?_);(case side1=>exact cb_ HR0 HB);(case side2=>exact HC0.out);(case side3=>exact cb_ ai HB);(case side4=>exact aj.out);(case side5=>exact cb_ ak HB);(case side6=>exact al.out);rintro e bY ⟨rfl,hb⟩;refine ⟨_,rfl,?_⟩;replace aa:=mk0 (u_ aa hb);replace ab:=mk0 (u_ ab hb);replace HB:=mk0 (bt_ (b_ HB) hb);(try clear hb)))
   go_meet
   case rel=>exact ⟨_,(true),sm_,H',⟨by first|omega|exact Nat.le_refl _⟩,⟨h_ aa⟩,⟨h_ ab⟩,⟨b_ HB⟩⟩
 case rest=>
  clear HC8
  obtain ⟨kq,an,rfl,HA,bZ,aa,ab,HB⟩:=hcut
  cases kq with
  | zero=>exact absurd HA.out (by simp [Fs.j0])
  | succ br=>
   have H:=HA.out
   clear HA
   simp only [Fs.j0] at H
   as_aux_lemma=>
    by_cases aJ:an=true
    ·subst aJ
     rw [if_pos rfl] at H
     simp only [Option.some.injEq,Prod.mk.injEq] at H
     obtain ⟨rfl,rfl⟩:=H
     go_wp2
     go_ret2
     exact ⟨_,sa_,nl_,b_ HB⟩
    ·replace aJ:=Bool.eq_false_iff.mpr aJ
     subst aJ
     rw [if_neg nf_] at H
     by_cases aK:0≤a2
     ·rw [if_pos aK] at H
      have bM:=decide_eq_true aK
      clear aK
      by_cases aM:a2<(l0.length:Int)
      ·rw [if_pos aM] at H
       have bN:=decide_eq_true aM
       clear aM
       replace H:=ob_ H
       obtain ⟨az,bO,H⟩:=H
       try dsimp only at H
       replace H:=ob_ H
       obtain ⟨aA,bP,H⟩:=H
       try dsimp only at H
       replace H:=ob_ H
       obtain ⟨bs,bQ,H⟩:=H
       try dsimp only at H
       simp only [Option.some.injEq,Prod.mk.injEq] at H
       obtain ⟨rfl,rfl⟩:=H
       try go_wp2
       replace aa:=mk0 (bD_ aa.out)
       replace ab:=mk0 (bD_ ab.out)
       replace HB:=mk0 (b1_ HB.out)
       have aC:0≤(a2:Int):=od_
       have aD:a2<(l0.length:Int):=od_
       obtain ⟨aT,av,aw,bu,af,ao,ap⟩:=at_T43 HR0.out a2 aC aD
       have ag:=af
       cases bu
       replace af:=(bc_ HB af :)
       have aq:=mk0 ap
       have aE:=mk0 ao
       clear ap ao
       replace aC:=eq_true aC
       replace aD:=eq_true aD
       refine start_ (n:=15) (S:=fun w'=>w'.cell? ⟨ar,0,none⟩=some (.slice A1_0 l1_0.length c1_0)∧w'.cell? ⟨ar,1,none⟩=some (.slice A1_1 l1_1.length c1_1)∧w'.cell? ⟨am,0,none⟩=some (.string a3_0)∧w'.cell? ⟨am,1,none⟩=some (.string a3_1)∧w'.cell? ⟨am,2,none⟩=some (.bool a3_2)∧w'.cell? (aT.add (a2).toNat)=some (.slice av ((rd_T43 l0 a2).f0).length aw)) (ds:=[]) (bt 15 0) (by kernel_rfl) rfl rfl ⟨bk_ aa 0,bk_ aa 1,bk_ ab 0,bk_ ab 1,bk_ ab 2,((bc_ HB ag :))⟩ (fun hHeld=>?_);refine with_tabW Fs.tab3 Fs.bits3 (fun HT_ HW_=>?_)
       generalize wc.drew=b0 at aa ab HB aq af hHeld ⊢
       refine pq_ HT_.out 0 32 (bt 15 1) (h:=?_)
       refine pq_ HT_.out 1 33 (bt 15 3) (h:=?_)
       refine pq_ HT_.out 2 34 (bt 15 7) (h:=?_)
       refine pq_ HT_.out 4 36 (bt 15 23) (h:=?_)
       refine pq_ HT_.out 7 39 (bt 15 151) (h:=?_)
       refine pq_ HT_.out 10 42 (bt 15 1175) (h:=?_)
       refine pq_ HT_.out 11 43 (bt 15 3223) (h:=?_)
       refine tq6_ HT_.out HW_.out 3 35 (bt 15 3231) hHeld (h:=?_)
       refine tq6_ HT_.out HW_.out 6 38 (bt 15 3295) hHeld (h:=?_)
       refine tq6_ HT_.out HW_.out 9 41 (bt 15 3807) hHeld (h:=?_)
       refine one_ (i:=5) (N:=some 37) (bt 15 3839) rfl rfl (one_of HT_.out (by kernel_rfl)) (by decide) (fun K hK=>?_)
       refine goes_ Tryz.func45 (by kernel_rfl) rfl #[.agg #[.slice av ((rd_T43 l0 a2).f0).length aw],.int .i64 a4] (by rfl) rfl rfl gs_ ?_
       with_reducible refine (FM.calls br _ _ ((rd_T43 l0 a2).f0) a4 az _ ?side1 ?side2 bO.out).mono ?_
       (case side1=>exact cb_ aq HB)
       (case side2=>exact aE.out)
       rintro e b1 ⟨bR,rfl,ho0,hb⟩
       refine ⟨_,rfl,?_⟩
       have bv:=mk0 (Kd.R_lower ho0 (bz_ (b_ HB)))
       replace aa:=mk0 (u_ aa hb)
       replace ab:=mk0 (u_ ab hb)
       replace HB:=mk0 (bt_ (b_ HB) hb)
       have ac:=bv
       clear bv
       (try clear hb)
       (try clear hk)
       (try clear hi)
       (try clear ho0)
       obtain ⟨bw,bx,aN⟩:=Kd.R_slice ac.out
       (first|subst aN|(injection aN with f1_ f2_ f3_;have f4_:=f1_.symm;have f5_:=f3_.symm;clear f1_ f2_ f3_;subst f4_;subst f5_))
       refine hK.out _ _ ⟨bk_ aa 0,bk_ aa 1,bk_ ab 0,bk_ ab 1,bk_ ab 2,((bc_ HB ag :))⟩ (fun hHeld=>?_)
       clear hK K
       refine norm_ (a':=?_) ?_ ?_
       rotate_left
       ·show Act.put _ (some 37) _=_
        simp only [z_]
        rfl
       refine one_ (i:=8) (N:=some 40) (bt 15 4095) rfl rfl (one_of HT_.out (by kernel_rfl)) (by decide) (fun K hK=>?_)
       refine goes_ Tryz.func44 (by kernel_rfl) rfl #[.slice bw az.length bx,.agg #[.slice A1_0 l1_0.length c1_0,.slice A1_1 l1_1.length c1_1],.int .i64 a2] (by rfl) rfl rfl gs_ ?_
       with_reducible refine (Fo.calls br _ _ az _ _ l1_0 _ _ l1_1 a2 aA _ ?side1 ?side2 ?side3 ?side4 ?side5 ?side6 bP.out).mono ?_
       (case side1=>exact cr_ ac)
       (case side2=>exact (Kd.R_reads' ac.out).2.1)
       (case side3=>exact cb_ ai HB)
       (case side4=>exact aj.out)
       (case side5=>exact cb_ ak HB)
       (case side6=>exact al.out)
       rintro e b2 ⟨bS,rfl,ho0,hb⟩
       refine ⟨_,rfl,?_⟩
       have bz:=mk0 (Kd.R_lower (Kd.R_new' ho0 (Kd.R_lt (r_ ac))) (bz_ (b_ HB)))
       replace ac:=mk0 (Kd.R_elder' (r_ ac) (Kd.R_base ho0) hb)
       replace aa:=mk0 (u_ aa hb)
       replace ab:=mk0 (u_ ab hb)
       replace HB:=mk0 (bt_ (b_ HB) hb)
       have ah:=bz
       clear bz
       (try clear hb)
       (try clear hk)
       (try clear hi)
       (try clear ho0)
       obtain ⟨bA,bB,aQ⟩:=Kd.R_slice ah.out
       (first|subst aQ|(injection aQ with f1_ f2_ f3_;have f4_:=f1_.symm;have f5_:=f3_.symm;clear f1_ f2_ f3_;subst f4_;subst f5_))
       refine hK.out _ _ ⟨bk_ aa 0,bk_ aa 1,bk_ ab 0,bk_ ab 1,bk_ ab 2,((bc_ HB ag :))⟩ (fun hHeld=>?_)
       clear hK K
       refine norm_ (a':=?_) ?_ ?_
       rotate_left
       ·show Act.put _ (some 40) _=_
        simp only [z_]
        rfl
       refine one_ (i:=12) (N:=some 44) (bt 15 8191) rfl rfl (one_of HT_.out (by kernel_rfl)) (by decide) (fun K hK=>?_)
       refine goes_ Tryz.func43 (by kernel_rfl) rfl #[.slice bA aA.length bB,.agg #[.string a3_0,.string a3_1,.bool a3_2],.int .i64 a5,.bool a6] (by rfl) rfl rfl gs_ ?_
       with_reducible refine (GB.calls _ _ aA a3_0 a3_1 a3_2 a5 a6 bs _ ?side1 ?side2 bQ.out).mono ?_
       (case side1=>exact cr_ ah)
       (case side2=>exact (Kd.R_reads' ah.out).2.1)
       rintro e b3 ⟨bT,rfl,ho0,hb⟩
       refine ⟨_,rfl,?_⟩
       have ny2_:=mk0 (Kd.R_lower (Kd.R_new' (Kd.R_new' ho0 (Kd.R_lt (r_ ac))) (Kd.R_lt (r_ ah))) (bz_ (b_ HB)))
       replace ac:=mk0 (Kd.R_elder' (r_ ac) (Kd.R_base ho0) hb)
       replace ah:=mk0 (Kd.R_elder' (r_ ah) (Kd.R_base ho0) hb)
       replace aa:=mk0 (u_ aa hb)
       replace ab:=mk0 (u_ ab hb)
       replace HB:=mk0 (bt_ (b_ HB) hb)
       have aU:=ny2_
       clear ny2_
       (try clear hb)
       (try clear hk)
       (try clear hi)
       (try clear ho0)
       refine hK.out _ _ ⟨bk_ aa 0,bk_ aa 1,bk_ ab 0,bk_ ab 1,bk_ ab 2,((bc_ HB ag :))⟩ (fun hHeld=>?_)
       clear hK K
       refine norm_ (a':=?_) ?_ ?_
       rotate_left
       ·show Act.put _ (some 44) _=_
        simp only [z_]
        rfl
       refine pq_ HT_.out 13 14 (bt 15 16383) (h:=?_)
       refine pq_ HT_.out 14 15 (bt 15 32767) (h:=?_)
       refine done_ (done_of HT_.out (by kernel_rfl)) ?_
       try go_wp2
       go_ret2
       exact ⟨_,sa_,by (with_reducible repeat (first|apply Ra_|apply Rn_|apply Rd_));exact Kd.R_mono aU.out (fun _ hk=>trivial),b_ HB⟩
      ·rw [if_neg aM] at H
       exact absurd H (by simp)
     ·rw [if_neg aK] at H
      exact absurd H (by simp)
def FH.j0:Nat→Bool→ByteArray→ByteArray→Bool→Option (Bool)
 | 0,_,_,_,_=>none
 | k + 1,b,c,a,d=>if b=true then (some false) else (if d=true then (some (a.toList == ([]:List UInt8))) else (some (!(Op.bytesLess a.toList c.toList))))
def FH.f (k:Nat) (a0_0:ByteArray) (a0_1:ByteArray) (a0_2:Bool):Option (Bool):=if (a0_0.size:Int) > 13 then (FH.j0 k true a0_0 a0_1 a0_2) else (FH.j0 k (decide ((a0_1.size:Int) > 13)) a0_0 a0_1 a0_2)
theorem FH.mono_l:∀ k,(∀ y0 y1 y2 y3,LeO (FH.j0 k y0 y1 y2 y3) (FH.j0 (k + 1) y0 y1 y2 y3))
 | 0=>fun _ _ _ _ r h=>by simp [FH.j0] at h
 | k + 1=>by
  have ih0:=FH.mono_l k
  all_goals (intros;first|unfold FH.j0)
  all_goals exact mz_
theorem FH.mono:∀ a0 a1 a2 k,LeO (FH.f k a0 a1 a2) (FH.f (k + 1) a0 a1 a2):=by
 intro a0 a1 a2 k
 have ih0:=FH.mono_l k
 unfold FH.f
 exact mz_
theorem FH.calls (k:Nat) (a0_0:ByteArray) (a0_1:ByteArray) (a0_2:Bool) (r:Bool) (w:World) (h:FH.f k a0_0 a0_1 a0_2=some r) :
 Calls Tryz.prog 17 #[.agg #[.string a0_0,.string a0_1,.bool a0_2]] w fun e w'=>e = .returned (.bool r)∧Below w.heap.size w w':=by
 have hu55:=Tryz.underlying55
 have HB:=mk0 (Below.refl w.heap.size w)
 have H:(if (a0_0.size:Int) > 13 then (FH.j0 k true a0_0 a0_1 a0_2) else (FH.j0 k (decide ((a0_1.size:Int) > 13)) a0_0 a0_1 a0_2))=some r:=h
 clear h
 have HC2:=mk0 H
 clear H
 go_enter Tryz.func17,Tryz.ntmps17
 go_upto_region 1 with (first|((with_reducible refine gate_dst (N:=1) rfl ?_);(try (refine gate_guard (by rfl) ?_;dsimp only));refine bx_ (N:=1) (cs:=#[.string a0_0,.string a0_1,.bool a0_2]) (t:=55) (h:=?_);intro ad hg w3 hbox hb;have ny2_:=mk0 (gz_ HB hg);have ae:=mk0 (gz_ HB hg);replace HB:=mk0 (bt_ (b_ HB) hb);have aa:=mk0 (hbox);have aI:=ny2_;have aJ:=ae;clear ny2_ ae;clear hb hbox hg))
 (try simp only [Act.put,List.setIfInBounds_toArray,List.set_cons_zero,List.set_cons_succ])
 go_cut [12] (fun v12 wc=>∃ (kq:Nat) (ab:Bool),v12 = .bool ab∧Fc (FH.j0 kq ab a0_0 a0_1 a0_2=some r)∧Fc (kq≤k)∧Fc (wc.heap[ad]? = some (.cells #[.string a0_0,.string a0_1,.bool a0_2] 55 (0,0)))∧Fc (Below w.heap.size w wc))
 case first=>
  have H:=HC2.out
  clear HC2
  by_cases c4:(a0_0.size:Int) > 13
  ·rw [if_pos c4] at H
   have ac:=decide_eq_true c4
   have af:decide (13<a0_0.size)=true:=decide_eq_true (by omega)
   clear c4
   (first|rw [ac]|(simp only [i64_w,i32_w];rw [ac])|skip)
   have H':=mk0 H
   clear H
   obtain ⟨am,an,ao,ap,aq,ar⟩:=c3_ aa
   go_wp2
   go_meet
   case rel=>exact ⟨_,(true),sm_,H',⟨by first|omega|exact Nat.le_refl _⟩,⟨h_ aa⟩,⟨b_ HB⟩⟩
  ·rw [if_neg c4] at H
   have ac:=decide_eq_false c4
   have af:decide (13<a0_0.size)=false:=decide_eq_false (by omega)
   clear c4
   (first|rw [ac]|(simp only [i64_w,i32_w];rw [ac])|skip)
   have H':=mk0 H
   clear H
   obtain ⟨au,av,aw,ax,ay,az⟩:=c3_ aa
   go_wp2
   go_meet
   case rel=>exact ⟨_,(decide ((a0_1.size:Int) > 13)),sm_,H',⟨by first|omega|exact Nat.le_refl _⟩,⟨h_ aa⟩,⟨b_ HB⟩⟩
 case rest=>
  clear HC2
  obtain ⟨kq,ab,rfl,HA,aK,aa,HB⟩:=hcut
  cases kq with
  | zero=>exact absurd HA.out (by simp [FH.j0])
  | succ aM=>
   have H:=HA.out
   clear HA
   simp only [FH.j0] at H
   as_aux_lemma=>
    by_cases c7:ab=true
    ·subst c7
     rw [if_pos rfl] at H
     obtain rfl:=Option.some.inj H
     go_wp2
     go_ret
     exact ⟨sa_,b_ HB⟩
    ·replace c7:=Bool.eq_false_iff.mpr c7
     subst c7
     rw [if_neg nf_] at H
     by_cases c8:a0_2=true
     ·subst c8
      rw [if_pos rfl] at H
      obtain rfl:=Option.some.inj H
      obtain ⟨aA,aC,aD,aE,aG,aH⟩:=c3_ aa
      go_wp2
      go_ret
      exact ⟨sa_,b_ HB⟩
     ·replace c8:=Bool.eq_false_iff.mpr c8
      subst c8
      rw [if_neg nf_] at H
      obtain rfl:=Option.some.inj H
      obtain ⟨ag,ah,ai,aj,ak,al⟩:=c3_ aa
      go_wp2
      go_ret
      exact ⟨sa_,b_ HB⟩
def Gz.f (a0_0:ByteArray) (a0_1:ByteArray) (a0_2:Bool) (a1:ByteArray):Option (Bool):=if ((Op.bytesLess a1.toList a0_0.toList)=true) then (some false) else (if a0_2=true then (some true) else (some (Op.bytesLess a1.toList a0_1.toList)))
theorem Gz.calls (a0_0:ByteArray) (a0_1:ByteArray) (a0_2:Bool) (a1:ByteArray) (r:Bool) (w:World) (h:Gz.f a0_0 a0_1 a0_2 a1=some r) :
 Calls Tryz.prog 46 #[.agg #[.string a0_0,.string a0_1,.bool a0_2],.string a1] w fun e w'=>e = .returned (.bool r)∧Below w.heap.size w w':=by
 have hu55:=Tryz.underlying55
 have HB:=mk0 (Below.refl w.heap.size w)
 have H:(if ((Op.bytesLess a1.toList a0_0.toList)=true) then (some false) else (if a0_2=true then (some true) else (some (Op.bytesLess a1.toList a0_1.toList))))=some r:=h
 clear h
 by_cases c3:((Op.bytesLess a1.toList a0_0.toList)=true)
 ·rw [if_pos c3] at H
  have af:(Op.bytesLess a1.toList a0_0.toList)=true:=c3
  clear c3
  obtain rfl:=Option.some.inj H
  go_enter Tryz.func46,Tryz.ntmps46
  go_wp2_with (first|((with_reducible refine gate_dst (N:=2) rfl ?_);refine bx_ (N:=2) (cs:=#[.string a0_0,.string a0_1,.bool a0_2]) (t:=55) (h:=?_);intro ac hg w4 hbox hb;have ny2_:=mk0 (gz_ HB hg);have ab:=mk0 (gz_ HB hg);replace HB:=mk0 (bt_ (b_ HB) hb);have aa:=mk0 (hbox);have ad:=ny2_;have ae:=ab;clear ny2_ ab hb hbox hg;obtain ⟨am,an,ao,ap,aq,ar⟩:=c3_ aa))
  go_ret
  exact ⟨sa_,b_ HB⟩
 ·rw [if_neg c3] at H
  have af:(Op.bytesLess a1.toList a0_0.toList)=false:=by simpa using c3
  clear c3
  by_cases c6:a0_2=true
  ·subst c6
   rw [if_pos rfl] at H
   obtain rfl:=Option.some.inj H
   go_enter Tryz.func46,Tryz.ntmps46
   go_wp2_with (first|((with_reducible refine gate_dst (N:=2) rfl ?_);refine bx_ (N:=2) (cs:=#[.string a0_0,.string a0_1,.bool true]) (t:=55) (h:=?_);intro ac hg w7 hbox hb;have ny2_:=mk0 (gz_ HB hg);have ab:=mk0 (gz_ HB hg);replace HB:=mk0 (bt_ (b_ HB) hb);have aa:=mk0 (hbox);have ad:=ny2_;have ae:=ab;clear ny2_ ab hb hbox hg;obtain ⟨au,av,aw,ax,ay,az⟩:=c3_ aa))
   go_ret
   exact ⟨sa_,b_ HB⟩
  ·replace c6:=Bool.eq_false_iff.mpr c6
   subst c6
   rw [if_neg nf_] at H
   obtain rfl:=Option.some.inj H
   go_enter Tryz.func46,Tryz.ntmps46
   go_wp2_with (first|((with_reducible refine gate_dst (N:=2) rfl ?_);refine bx_ (N:=2) (cs:=#[.string a0_0,.string a0_1,.bool false]) (t:=55) (h:=?_);intro ac hg w9 hbox hb;have ny2_:=mk0 (gz_ HB hg);have ab:=mk0 (gz_ HB hg);replace HB:=mk0 (bt_ (b_ HB) hb);have aa:=mk0 (hbox);have ad:=ny2_;have ae:=ab;clear ny2_ ab hb hbox hg;obtain ⟨ag,ah,ai,aj,ak,al⟩:=c3_ aa))
   go_ret
   exact ⟨sa_,b_ HB⟩
mutual
def Ff.l0:Nat→List (S50)→Int→Bool→List (S50)→Int→ByteArray→ByteArray→Bool→Option ((List (S50)))
 | 0,_,_,_,_,_,_,_,_=>none
 | k + 1,b,e,c,d,a,f,g,h=>if a<(b.length:Int) then (if c=true then (Ff.j1 k b e c d a (wrap64 ((wrap64 ((b.length:Int) - 1)) - a)) f g h) else (Ff.j1 k b e c d a a f g h)) else (some d)
def Ff.j1:Nat→List (S50)→Int→Bool→List (S50)→Int→Int→ByteArray→ByteArray→Bool→Option ((List (S50)))
 | 0,_,_,_,_,_,_,_,_,_=>none
 | k + 1,b,c,i,d,j,a,e,g,h=>if (d.length:Int)<c then (if 0≤a then (if a<(b.length:Int) then ((Gz.f e g h ((rd_T50 b a).f0)).bind fun l=>(Ff.j2 k b c i d j a l e g h)) else (none)) else (none)) else (Ff.j2 k b c i d j a false e g h)
def Ff.j2:Nat→List (S50)→Int→Bool→List (S50)→Int→Int→Bool→ByteArray→ByteArray→Bool→Option ((List (S50)))
 | 0,_,_,_,_,_,_,_,_,_,_=>none
 | k + 1,a,d,e,c,f,b,j,g,h,i=>if j=true then (if 0≤b then (if b<(a.length:Int) then (if c.length<4398046511104 then (Ff.l0 k a d e (c ++ [(⟨(rd_T50 a b).f0,(rd_T50 a b).f1⟩:S50)]) (wrap64 (f + 1)) g h i) else (none)) else (none)) else (none)) else (Ff.l0 k a d e c (wrap64 (f + 1)) g h i)
end
def Ff.f (k:Nat) (l0:List (S50)) (a1_0:ByteArray) (a1_1:ByteArray) (a1_2:Bool) (a2:Int) (a3:Bool):Option ((List (S50))):=Ff.l0 k l0 a2 a3 ([]:List (S50)) 0 a1_0 a1_1 a1_2
theorem Ff.mono_l:∀ k,(∀ y0 y1 y2 y3 y4 y5 y6 y7,LeO (Ff.l0 k y0 y1 y2 y3 y4 y5 y6 y7) (Ff.l0 (k + 1) y0 y1 y2 y3 y4 y5 y6 y7))∧(∀ y0 y1 y2 y3 y4 y5 y6 y7 y8,LeO (Ff.j1 k y0 y1 y2 y3 y4 y5 y6 y7 y8) (Ff.j1 (k + 1) y0 y1 y2 y3 y4 y5 y6 y7 y8))∧(∀ y0 y1 y2 y3 y4 y5 y6 y7 y8 y9,LeO (Ff.j2 k y0 y1 y2 y3 y4 y5 y6 y7 y8 y9) (Ff.j2 (k + 1) y0 y1 y2 y3 y4 y5 y6 y7 y8 y9))
 | 0=>⟨fun _ _ _ _ _ _ _ _ r h=>by simp [Ff.l0] at h,fun _ _ _ _ _ _ _ _ _ r h=>by simp [Ff.j1] at h,fun _ _ _ _ _ _ _ _ _ _ r h=>by simp [Ff.j2] at h⟩
 | k + 1=>by
  obtain ⟨ih0,ih1,ih2⟩:=Ff.mono_l k
  refine ⟨?_,?_,?_⟩
  all_goals (intros;first|unfold Ff.l0|unfold Ff.j1|unfold Ff.j2)
  all_goals exact mz_
theorem Ff.mono:∀ a0 a1 a2 a3 a4 a5 k,LeO (Ff.f k a0 a1 a2 a3 a4 a5) (Ff.f (k + 1) a0 a1 a2 a3 a4 a5):=by
 intro a0 a1 a2 a3 a4 a5 k
 obtain ⟨ih0,ih1,ih2⟩:=Ff.mono_l k
 unfold Ff.f
 exact mz_
def Ff.T8:Bool×List (List Nat×List Nat):=(true,[([],[]),([0],[0]),([],[]),([1,2],[1,2]),([3],[3]),([4],[4]),([4],[4]),([4],[4]),([6,7,4],[4,6,7]),([8,4],[4,8]),([9,4],[4,9]),([5,10,4,4],[4,5,10]),([4,11],[4,11])])
def Ff.B8:List Nat:=[0,1,0,7,15,31,31,31,223,479,991,2047,4095]
theorem Ff.tab8:rtab .any (opsOf Tryz.f18 8)=Ff.T8:=by kernel_rfl
theorem Ff.bits8:waitsOk Ff.T8.2 Ff.B8=true:=by kernel_rfl
theorem Ff.calls (k:Nat) (A0:Option Addr) (c0:Nat) (l0:List (S50)) (a1_0:ByteArray) (a1_1:ByteArray) (a1_2:Bool) (a2:Int) (a3:Bool) (r:List (S50)) (w:World) (hr0:Kd.C k50 w A0 l0.length l0) (hc0:l0.length≤c0) (h:Ff.f k l0 a1_0 a1_1 a1_2 a2 a3=some r) :
 Calls Tryz.prog 18 #[.slice A0 l0.length c0,.agg #[.string a1_0,.string a1_1,.bool a1_2],.int .i64 a2,.bool a3] w fun e w'=>∃ v0_:Value,e = .returned (v0_)∧Kd.R k50 50 w' w.heap.size (fun _=>True) v0_ r∧Below w.heap.size w w':=by
 have hu55:=Tryz.underlying55
 have hu50:=Tryz.underlying50
 have HR0:=mk0 hr0
 have HC0:=mk0 hc0
 clear hr0 hc0
 have HB:=mk0 (Below.refl w.heap.size w)
 have H:(Ff.l0 k l0 a2 a3 ([]:List (S50)) 0 a1_0 a1_1 a1_2)=some r:=h
 clear h
 have H':=mk0 H
 clear H
 go_enter Tryz.func18,Tryz.ntmps18
 go_wp2_with (first|((with_reducible refine gate_dst (N:=5) rfl ?_);refine bx_ (N:=5) (cs:=#[.string a1_0,.string a1_1,.bool a1_2]) (t:=55) (h:=?_);intro af hg w5 hbox hb;have ny2_:=mk0 (gz_ HB hg);have aU:=mk0 (gz_ HB hg);replace HB:=mk0 (bt_ (b_ HB) hb);have ab:=mk0 (hbox);have aX:=ny2_;have aY:=aU;clear ny2_ aU;clear hb hbox hg))
 go_loopg [9,10] k (fun kq v9 v10 w'=>∃ (ae:List (S50)) (ad:Int),v10 = .int .i64 ad∧Fc (Ff.l0 kq l0 a2 a3 ae ad a1_0 a1_1 a1_2=some r)∧Fc (kq≤k)∧Fc (Kd.R k50 50 w' w.heap.size (fun _=>True) v9 ae)∧Fc (w'.heap[af]? = some (.cells #[.string a1_0,.string a1_1,.bool a1_2] 55 (0,0)))∧Fc (Below w.heap.size w w'))
 case atStart=>exact ⟨(([]:List (S50))),(0),sm_,H',⟨Nat.le_refl _⟩,⟨nl_⟩,⟨h_ ab⟩,⟨b_ HB⟩⟩
 case round=>
  clear H'
  obtain ⟨ae,ad,rfl,HA,ak,ac,ab,HB⟩:=hrel
  cases gk with
  | zero=>exact absurd HA.out (by simp [Ff.l0])
  | succ k1=>
   have H:=HA.out
   clear HA
   simp only [Ff.l0] at H
   as_aux_lemma=>
    by_cases c6:ad<(l0.length:Int)
    ·rw [if_pos c6] at H
     have av:=decide_eq_true c6
     clear c6
     have HC7:=mk0 H
     clear H
     go_upto_if 19 with (fail)
     go_cut [11] (fun v11 wc=>∃ (kq:Nat) (aa:Int),v11 = .int .i64 aa∧Fc (Ff.j1 kq l0 a2 a3 ae ad aa a1_0 a1_1 a1_2=some r)∧Fc (kq≤k1)∧Fc (Kd.R k50 50 wc w.heap.size (fun _=>True) u9 ae)∧Fc (wc.heap[af]? = some (.cells #[.string a1_0,.string a1_1,.bool a1_2] 55 (0,0)))∧Fc (Below w.heap.size w wc))
     case first=>
      have H:=HC7.out
      clear HC7
      by_cases c8:a3=true
      ·subst c8
       rw [if_pos rfl] at H
       have H':=mk0 H
       clear H
       go_wp2
       go_meet
       case rel=>exact ⟨_,(wrap64 ((wrap64 ((l0.length:Int) - 1)) - ad)),sm_,H',⟨by have:=ak.out;first|omega|exact Nat.le_refl _⟩,⟨r2_ ac.out⟩,⟨h_ ab⟩,⟨b_ HB⟩⟩
      ·replace c8:=Bool.eq_false_iff.mpr c8
       subst c8
       rw [if_neg nf_] at H
       have H':=mk0 H
       clear H
       go_wp2
       go_meet
       case rel=>exact ⟨_,(ad),sm_,H',⟨by have:=ak.out;first|omega|exact Nat.le_refl _⟩,⟨r2_ ac.out⟩,⟨h_ ab⟩,⟨b_ HB⟩⟩
     case rest=>
      clear HC7
      try clear c6
      try clear av
      obtain ⟨kq,aa,rfl,HA,ar,ac,ab,HB⟩:=hcut
      cases kq with
      | zero=>exact absurd HA.out (by simp [Ff.j1])
      | succ aZ=>
       have H:=HA.out
       clear HA
       simp only [Ff.j1] at H
       as_aux_lemma=>
        have HC9:=mk0 H
        clear H
        go_upto_region 8 with (fail)
        go_cut [37] (fun v37 wc=>∃ (kq:Nat) (aj:Bool),v37 = .bool aj∧Fc (Ff.j2 kq l0 a2 a3 ae ad aa aj a1_0 a1_1 a1_2=some r)∧Fc (kq≤aZ)∧Fc (Kd.R k50 50 wc w.heap.size (fun _=>True) u9 ae)∧Fc (wc.heap[af]? = some (.cells #[.string a1_0,.string a1_1,.bool a1_2] 55 (0,0)))∧Fc (Below w.heap.size w wc))
        case first=>
         have H:=HC9.out
         clear HC9
         by_cases au:(ae.length:Int)<a2
         ·rw [if_pos au] at H
          have ai:=decide_eq_true au
          clear au
          (first|rw [ai]|(simp only [i64_w,i32_w];rw [ai])|skip)
          by_cases aA:0≤aa
          ·rw [if_pos aA] at H
           have ba:=decide_eq_true aA
           clear aA
           by_cases aC:aa<(l0.length:Int)
           ·rw [if_pos aC] at H
            have bb:=decide_eq_true aC
            clear aC
            replace H:=ob_ H
            obtain ⟨aJ,bc,H⟩:=H
            try dsimp only at H
            have H':=mk0 H
            clear H
            try go_wp2
            replace ac:=mk0 (Rd_ ac.out)
            replace ab:=mk0 (bD_ ab.out)
            replace HB:=mk0 (b1_ HB.out)
            obtain ⟨bg,bh,aK⟩:=Kd.R_slice ac.out
            (first|subst aK|(injection aK with f1_ f2_ f3_;have f4_:=f1_.symm;have f5_:=f3_.symm;clear f1_ f2_ f3_;subst f4_;subst f5_))
            have aw:0≤(aa:Int):=od_
            have ax:aa<(l0.length:Int):=od_
            obtain ⟨ap,aV,ag,ah⟩:=at_T50 HR0.out aa aw ax
            have al:=ah
            have am:=ag
            cases aV
            replace ag:=(bc_ HB ag :)
            replace ah:=(bc_ HB ah :)
            replace aw:=eq_true aw
            replace ax:=eq_true ax
            refine start_ (n:=13) (S:=fun w'=>w'.cell? ⟨af,0,none⟩=some (.string a1_0)∧w'.cell? ⟨af,1,none⟩=some (.string a1_1)∧w'.cell? ⟨af,2,none⟩=some (.bool a1_2)∧w'.cell? (ap.add ((aa).toNat * 2))=some (.string ((rd_T50 l0 aa).f0))∧w'.cell? ⟨(ap.add ((aa).toNat * 2)).block,(ap.add ((aa).toNat * 2)).off + 1,none⟩=some (.string ((rd_T50 l0 aa).f1))) (ds:=[]) (bt 13 0) (by kernel_rfl) rfl rfl ⟨bk_ ab 0,bk_ ab 1,bk_ ab 2,((bc_ HB am :)),((bc_ HB al :))⟩ (fun hHeld=>?_);refine with_tabW Ff.tab8 Ff.bits8 (fun HT_ HW_=>?_)
            generalize wc.drew=bl at ac ab HB ag ah hHeld ⊢
            refine pq_ HT_.out 0 25 (bt 13 1) (h:=?_)
            refine pq_ HT_.out 1 26 (bt 13 3) (h:=?_)
            refine pq_ HT_.out 2 27 (bt 13 7) (h:=?_)
            refine pq_ HT_.out 3 28 (bt 13 15) (h:=?_)
            refine pq_ HT_.out 4 29 (bt 13 31) (h:=?_)
            refine pq_ HT_.out 6 31 (bt 13 95) (h:=?_)
            refine pq_ HT_.out 7 32 (bt 13 223) (h:=?_)
            refine pq_ HT_.out 8 33 (bt 13 479) (h:=?_)
            refine pq_ HT_.out 9 34 (bt 13 991) (h:=?_)
            refine tq5_ HT_.out HW_.out 5 30 (bt 13 1023) hHeld (h:=?_)
            refine tq5_ HT_.out HW_.out 10 35 (bt 13 2047) hHeld (h:=?_)
            refine one_ (i:=11) (N:=some 36) (bt 13 4095) rfl rfl (one_of HT_.out (by kernel_rfl)) (by decide) (fun K hK=>?_)
            refine goes_ Tryz.func46 (by kernel_rfl) rfl #[.agg #[.string a1_0,.string a1_1,.bool a1_2],.string ((rd_T50 l0 aa).f0)] (by rfl) rfl rfl gs_ ?_
            with_reducible refine (Gz.calls a1_0 a1_1 a1_2 ((rd_T50 l0 aa).f0) aJ _ bc.out).mono ?_
            rintro e bm ⟨rfl,hb⟩
            refine ⟨_,rfl,?_⟩
            replace ac:=mk0 (Kd.R_below (r_ ac) hb)
            replace ab:=mk0 (u_ ab hb)
            replace HB:=mk0 (bt_ (b_ HB) hb)
            (try clear hb)
            (try clear hk)
            (try clear hi)
            refine hK.out _ _ ⟨bk_ ab 0,bk_ ab 1,bk_ ab 2,((bc_ HB am :)),((bc_ HB al :))⟩ (fun hHeld=>?_)
            clear hK K
            refine norm_ (a':=?_) ?_ ?_
            rotate_left
            ·show Act.put _ (some 36) _=_
             simp only [z_]
             rfl
            refine pq_ HT_.out 12 37 (bt 13 8191) (h:=?_)
            refine done_ (done_of HT_.out (by kernel_rfl)) ?_
            try go_wp2
            go_meet
            case rel=>exact ⟨_,(aJ),sm_,H',⟨by have:=ak.out;have:=ar.out;first|omega|exact Nat.le_refl _⟩,⟨r2_ ac.out⟩,⟨h_ ab⟩,⟨b_ HB⟩⟩
           ·rw [if_neg aC] at H
            exact absurd H (by simp)
          ·rw [if_neg aA] at H
           exact absurd H (by simp)
         ·rw [if_neg au] at H
          have ai:=decide_eq_false au
          clear au
          (first|rw [ai]|(simp only [i64_w,i32_w];rw [ai])|skip)
          have H':=mk0 H
          clear H
          try go_wp2
          obtain ⟨bi,bj,aM⟩:=Kd.R_slice ac.out
          (first|subst aM|(injection aM with f1_ f2_ f3_;have f4_:=f1_.symm;have f5_:=f3_.symm;clear f1_ f2_ f3_;subst f4_;subst f5_))
          go_quiet (fail)
          generalize hq_:World.drewN wc _=bn
          replace ac:=mk0 (Kd.R_at hq_ ac.out)
          replace ab:=mk0 (blk_at hq_ ab.out)
          replace HB:=mk0 (below_at hq_ HB.out)
          clear hq_
          try go_wp2
          go_meet
          case rel=>exact ⟨_,(false),sm_,H',⟨by have:=ak.out;have:=ar.out;first|omega|exact Nat.le_refl _⟩,⟨r2_ ac.out⟩,⟨h_ ab⟩,⟨b_ HB⟩⟩
        case rest=>
         clear HC9
         try clear c6
         try clear av
         obtain ⟨kq,aj,rfl,HA,aD,ac,ab,HB⟩:=hcut
         cases kq with
         | zero=>exact absurd HA.out (by simp [Ff.j2])
         | succ aQ=>
          have H:=HA.out
          clear HA
          simp only [Ff.j2] at H
          as_aux_lemma=>
           by_cases aE:aj=true
           ·subst aE
            rw [if_pos rfl] at H
            by_cases aG:0≤aa
            ·rw [if_pos aG] at H
             have bd:=decide_eq_true aG
             clear aG
             by_cases aH:aa<(l0.length:Int)
             ·rw [if_pos aH] at H
              have be:=decide_eq_true aH
              clear aH
              by_cases aI:ae.length<4398046511104
              ·rw [if_pos aI] at H
               have LMc22:=mk0 aI
               clear aI
               obtain ⟨aN,aq⟩:∃ y_:List (S50),y_=(ae ++ [(⟨(rd_T50 l0 aa).f0,(rd_T50 l0 aa).f1⟩:S50)]):=⟨_,rfl⟩
               replace H:(Ff.l0 aQ l0 a2 a3 aN (wrap64 (ad + 1)) a1_0 a1_1 a1_2)=some r:=rp_ H aq
               have aR:=mk0 aq
               clear aq
               have H':=mk0 H
               clear H
               have ay:0≤(aa:Int):=od_
               have az:aa<(l0.length:Int):=od_
               obtain ⟨bf,aW,an,ao⟩:=at_T50 HR0.out aa ay az
               cases aW
               replace an:=(bc_ HB an :)
               replace ao:=(bc_ HB ao :)
               replace ay:=eq_true ay
               replace az:=eq_true az
               go_wp2_with (first|((with_reducible refine gate_builtin (b:=.append) (xs:=#[.tmp 38,.tmp 43]) rfl ?_);at_builtin;refine Kd.R_append k50 (w0:=w) w.heap.size rfl (.tmp 38) (.tmp 43) 38 50 (.agg #[(.string ⟨#[]⟩),(.string ⟨#[]⟩)]) 32 rfl Tryz.underlying38 info50 rfl (by decide) (by omega) u9 ae (⟨(rd_T50 l0 aa).f0,(rd_T50 l0 aa).f1⟩:S50) [.string ((rd_T50 l0 aa).f0),.string ((rd_T50 l0 aa).f1)] (fun _=>True) (fun _=>False) rfl rfl ?aP (fun _ hk=>hk.elim) ?aF ?aO ?aB ?aS ?aL ?_;(case aP=>exact k50_mkM _ _ _ (⟨(rd_T50 l0 aa).f0,(rd_T50 l0 aa).f1⟩:S50));(case aB=>exact (b_ HB));(case aF=>exact (fun _ _=>trivial));(case aO=>exact (r_ ac));(case aS=>exact (bz_ (b_ HB)));(case aL=>have:=LMc22.out;omega);intro bk bo ho hb hg hat;rw [← aR.out] at ho;replace ab:=mk0 (blk_grown (g:=af) (o:=.cells #[.string a1_0,.string a1_1,.bool a1_2] 55 (0,0)) (h_ ab) hg (Kd.R_ne ac.out ab.out (by decide)));replace HB:=mk0 (hb);have aT:=mk0 (ho);clear ac;clear ho hb hg hat))
               go_roundg aQ
               case measure=>have:=ak.out;have:=ar.out;have:=aD.out;omega
               case rel=>exact ⟨(aN),(wrap64 (ad + 1)),sm_,H',⟨by have:=ak.out;have:=ar.out;have:=aD.out;omega⟩,⟨r2_ aT.out⟩,⟨h_ ab⟩,⟨b_ HB⟩⟩
              ·rw [if_neg aI] at H
               exact absurd H (by simp)
             ·rw [if_neg aH] at H
              exact absurd H (by simp)
            ·rw [if_neg aG] at H
             exact absurd H (by simp)
           ·replace aE:=Bool.eq_false_iff.mpr aE
            subst aE
            rw [if_neg nf_] at H
            have H':=mk0 H
            clear H
            go_wp2
            go_roundg aQ
            case measure=>have:=ak.out;have:=ar.out;have:=aD.out;omega
            case rel=>exact ⟨(ae),(wrap64 (ad + 1)),sm_,H',⟨by have:=ak.out;have:=ar.out;have:=aD.out;omega⟩,⟨r2_ ac.out⟩,⟨h_ ab⟩,⟨b_ HB⟩⟩
    ·rw [if_neg c6] at H
     have av:=decide_eq_false c6
     clear c6
     obtain rfl:=Option.some.inj H
     go_wp2
     go_ret
     exact ⟨_,sa_,by (with_reducible repeat (first|apply Ra_|apply Rn_|apply Rd_));exact ac.out,b_ HB⟩
end Go.Proofs.YtbaecdcfefmcgaaGreat.PVrd
