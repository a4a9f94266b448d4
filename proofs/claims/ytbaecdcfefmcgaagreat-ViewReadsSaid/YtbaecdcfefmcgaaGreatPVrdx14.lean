import Derived.Test.YtbaecdcfefmcgaaGreatPVrdx0
import Derived.Test.YtbaecdcfefmcgaaGreatPVrdx10
import Derived.Test.YtbaecdcfefmcgaaGreatPVrdx12
import Derived.Test.YtbaecdcfefmcgaaGreatPVrdx13
namespace Go.Proofs.YtbaecdcfefmcgaaGreat.PVrd
open Go.RowKit Go.Proofs.YtbaecdcfefmcgaaGreatW.PrintWords Go.Proofs.YtbaecdcfefmcgaaGreatW.PrintLast Go.Proofs.YtbaecdcfefmcgaaGreatW.PrintMore
attribute [local go_sem] max2_int min2_int max_two min_two max_three min_three max_four min_four
set_option maxHeartbeats 8000000
set_option maxRecDepth 100000
set_option linter.unusedVariables false
set_option linter.unusedSimpArgs false
mutual
def Fr.l0:Nat→Int→List (S72)→List (S50)→Int→Option ((List (S50)))
 | 0,_,_,_,_=>none
 | k + 1,d,b,c,a=>if a<(b.length:Int) then (if 0≤a then (if ((rd_T72 b a).f0)=d then ((Fy.f k c ((rd_T72 b a).f1)).bind fun e=>(if e≥0 then ((F5.f k c ((rd_T72 b a).f1)).bind fun g=>(Fr.j1 k d b g a)) else (Fr.j1 k d b c a))) else (Fr.l0 k d b c (wrap64 (a + 1)))) else (none)) else (some c)
def Fr.j1:Nat→Int→List (S72)→List (S50)→Int→Option ((List (S50)))
 | 0,_,_,_,_=>none
 | k + 1,c,b,d,a=>if 0≤a then (if a<(b.length:Int) then (if ((rd_T72 b a).f3=true) then (Fr.l0 k c b d (wrap64 (a + 1))) else ((Fm.f k d ((rd_T72 b a).f1) ((rd_T72 b a).f2)).bind fun e=>(Fr.l0 k c b e (wrap64 (a + 1))))) else (none)) else (none)
end
def Fr.f (k:Nat) (l0:List (S50)) (l1_0:List (S72)) (l1_1:List Int) (a2:Int):Option ((List (S50))):=(Fb.f k l1_0 l1_1).bind fun a=>((FC.f k l0).bind fun b=>(Fr.l0 k a2 a b 0))
theorem Fr.mono_l:∀ k,(∀ y0 y1 y2 y3,LeO (Fr.l0 k y0 y1 y2 y3) (Fr.l0 (k + 1) y0 y1 y2 y3))∧(∀ y0 y1 y2 y3,LeO (Fr.j1 k y0 y1 y2 y3) (Fr.j1 (k + 1) y0 y1 y2 y3))
 | 0=>⟨fun _ _ _ _ r h=>by simp [Fr.l0] at h,fun _ _ _ _ r h=>by simp [Fr.j1] at h⟩
 | k + 1=>by
  obtain ⟨ih0,ih1⟩:=Fr.mono_l k
  have:=@FC.mono
  have:=@Fy.mono
  have:=@Fm.mono
  have:=@F5.mono
  have:=@Fb.mono
  refine ⟨?_,?_⟩
  all_goals (intros;first|unfold Fr.l0|unfold Fr.j1)
  all_goals exact mz_
theorem Fr.mono:∀ a0 a1 a2 a3 k,LeO (Fr.f k a0 a1 a2 a3) (Fr.f (k + 1) a0 a1 a2 a3):=by
 intro a0 a1 a2 a3 k
 obtain ⟨ih0,ih1⟩:=Fr.mono_l k
 have:=@FC.mono
 have:=@Fy.mono
 have:=@Fm.mono
 have:=@F5.mono
 have:=@Fb.mono
 unfold Fr.f
 exact mz_
def Fr.T10:Bool×List (List Nat×List Nat):=(true,[([],[]),([],[]),([],[]),([1,2],[1,2]),([3],[3]),([4],[4]),([],[]),([],[]),([6,7],[6,7]),([8],[8]),([9],[9]),([5,10],[5,10]),([0,11],[0,11]),([12,12,0,1,2,3,4,5,6,7,8,9,10,11,12],[0,12])])
def Fr.B10:List Nat:=[0,0,0,6,14,30,0,0,192,448,960,2046,4095,8191]
theorem Fr.tab10:rtab .any (opsOf Tryz.f10 10)=Fr.T10:=by kernel_rfl
theorem Fr.bits10:waitsOk Fr.T10.2 Fr.B10=true:=by kernel_rfl
theorem Fr.calls (k:Nat) (A0:Option Addr) (c0:Nat) (l0:List (S50)) (A1_0:Option Addr) (c1_0:Nat) (l1_0:List (S72)) (A1_1:Option Addr) (c1_1:Nat) (l1_1:List Int) (a2:Int) (r:List (S50)) (w:World) (hr0:Kd.C k50 w A0 l0.length l0) (hc0:l0.length≤c0) (hr1_0:Kd.C k72 w A1_0 l1_0.length l1_0) (hc1_0:l1_0.length≤c1_0) (hr1_1:Kd.C (Kd.int .i64) w A1_1 l1_1.length l1_1) (hc1_1:l1_1.length≤c1_1) (h:Fr.f k l0 l1_0 l1_1 a2=some r) :
 Calls Tryz.prog 10 #[.slice A0 l0.length c0,.agg #[.slice A1_0 l1_0.length c1_0,.slice A1_1 l1_1.length c1_1],.int .i64 a2] w fun e w'=>∃ v0_:Value,e = .returned (v0_)∧Kd.R k50 50 w' w.heap.size (fun _=>True) v0_ r∧Below w.heap.size w w':=by
 have hu34:=Tryz.underlying34
 have hu50:=Tryz.underlying50
 have HR0:=mk0 hr0
 have HC0:=mk0 hc0
 clear hr0 hc0
 have bq:=mk0 hr1_0
 have br:=mk0 hc1_0
 clear hr1_0 hc1_0
 have bs:=mk0 hr1_1
 have bu:=mk0 hc1_1
 clear hr1_1 hc1_1
 have HB:=mk0 (Below.refl w.heap.size w)
 have H:((Fb.f k l1_0 l1_1).bind fun ab=>((FC.f k l0).bind fun aJ=>(Fr.l0 k a2 ab aJ 0)))=some r:=h
 clear h
 replace H:=ob_ H
 obtain ⟨ab,A4,H⟩:=H
 try dsimp only at H
 replace H:=ob_ H
 obtain ⟨aJ,A5,H⟩:=H
 try dsimp only at H
 have H':=mk0 H
 clear H
 go_enter Tryz.func10,Tryz.ntmps10
 go_wp2_with (first|((with_reducible refine gate_dst (N:=4) rfl ?_);refine bx_ (N:=4) (cs:=#[.slice A1_0 l1_0.length c1_0,.slice A1_1 l1_1.length c1_1]) (t:=34) (h:=?_);intro aT hg w6 hbox hb;have ny2_:=mk0 (gz_ HB hg);have bE:=mk0 (gz_ HB hg);replace HB:=mk0 (bt_ (b_ HB) hb);have ad:=mk0 (hbox);have bX:=ny2_;have bY:=bE;clear ny2_ bE hb hbox hg;obtain ⟨aK,aL,aM,aN⟩:=c2_ ad)|((with_reducible refine gate_callee (f:=32) rfl ?_);refine gL_ (some 11) Tryz.func32 #[.agg #[.slice A1_0 l1_0.length c1_0,.slice A1_1 l1_1.length c1_1]] (h:=?_);(with_reducible refine (Fb.calls k _ _ l1_0 _ _ l1_1 ab _ ?side1 ?side2 ?side3 ?side4 A4.out).mono ?_);(case side1=>exact cb_ bq HB);(case side2=>exact br.out);(case side3=>exact cb_ bs HB);(case side4=>exact bu.out);rintro e w8 ⟨bF,rfl,ho0,hb⟩;refine ⟨_,rfl,?_⟩;have bG:=mk0 (Kd.R_lower ho0 (bz_ (b_ HB)));replace ad:=mk0 (u_ ad hb);replace HB:=mk0 (bt_ (b_ HB) hb);have aF:=bG;clear bG;(try clear hb);(try clear ho0))|((with_reducible refine gate_callee (f:=33) rfl ?_);refine gL_ (some 13) Tryz.func33 #[.slice A0 l0.length c0] (h:=?_);(with_reducible refine (FC.calls k _ _ l0 aJ _ ?side1 ?side2 A5.out).mono ?_);(case side1=>exact cb_ HR0 HB);(case side2=>exact HC0.out);rintro e w9 ⟨b4,rfl,ho0,hb⟩;refine ⟨_,rfl,?_⟩;have bH:=mk0 (Kd.R_lower ho0 (bz_ (b_ HB)));replace aF:=mk0 (Kd.R_below (r_ aF) hb);replace ad:=mk0 (u_ ad hb);replace HB:=mk0 (bt_ (b_ HB) hb);have bv:=bH;clear bH;(try clear hb);(try clear ho0)))
 go_loopg [8,9] k (fun kq v8 v9 w'=>∃ (ah:List (S50)) (aa:Int),v9 = .int .i64 aa∧Fc (Fr.l0 kq a2 ab ah aa=some r)∧Fc (kq≤k)∧Fc (Kd.R k72 72 w' w.heap.size (fun _=>True) bF ab)∧Fc (Kd.R k50 50 w' w.heap.size (fun _=>True) v8 ah)∧Fc (w'.heap[aT]? = some (.cells #[(.slice A1_0 l1_0.length c1_0),(.slice A1_1 l1_1.length c1_1)] 34 (0,0)))∧Fc (Below w.heap.size w w'))
 case atStart=>exact ⟨(aJ),(0),sm_,H',⟨Nat.le_refl _⟩,⟨r2_ aF.out⟩,⟨r2_ bv.out⟩,⟨h_ ad⟩,⟨b_ HB⟩⟩
 case round=>
  clear H'
  try clear aK
  try clear aL
  try clear aM
  try clear aN
  obtain ⟨ah,aa,rfl,HA,ar,ae,af,ad,HB⟩:=hrel
  cases gk with
  | zero=>exact absurd HA.out (by simp [Fr.l0])
  | succ k1=>
   have H:=HA.out
   clear HA
   simp only [Fr.l0] at H
   as_aux_lemma=>
    by_cases aG:aa<(ab.length:Int)
    ·rw [if_pos aG] at H
     have aU:=decide_eq_true aG
     clear aG
     by_cases aV:0≤aa
     ·rw [if_pos aV] at H
      have bw:=decide_eq_true aV
      clear aV
      by_cases au:((rd_T72 ab aa).f0)=a2
      ·rw [if_pos au] at H
       have aW:=beq_iff_eq.mpr au
       have aX:=bne_eq_false_iff_eq.mpr au
       clear au
       replace H:=ob_ H
       obtain ⟨bk,bZ,H⟩:=H
       try dsimp only at H
       have HC14:=mk0 H
       clear H
       obtain ⟨b5,bI,bJ⟩:=Kd.R_slice ae.out
       subst bJ
       have ai:0≤(aa:Int):=od_
       have aj:aa<(ab.length:Int):=od_
       obtain ⟨ac,aY,av,aw,ax,ay⟩:=at_T72 (Kd.R_reads' ae.out).2.2 aa ai aj
       cases aY
       replace ai:=eq_true ai
       replace aj:=eq_true aj
       have aO:0≤(aa:Int):=od_
       have aP:aa<(ab.length:Int):=od_
       obtain ⟨bx,bK,aZ,a4,a5,a6⟩:=at_T72 (Kd.R_reads' ae.out).2.2 aa aO aP
       obtain rfl:ac=bx:=(by injection bK)
       replace aO:=eq_true aO
       replace aP:=eq_true aP
       obtain ⟨bl,bm,bL⟩:=Kd.R_slice af.out
       subst bL
       go_upto_if 34 with (first|((with_reducible refine gate_callee (f:=14) rfl ?_);refine gL_ (some 33) Tryz.func14 #[.slice bl ah.length bm,.string ((rd_T72 ab aa).f1)] (h:=?_);(with_reducible refine (Fy.calls k1 _ _ ah ((rd_T72 ab aa).f1) bk _ ?side1 ?side2 bZ.out).mono ?_);(case side1=>exact cr_ af);(case side2=>exact (Kd.R_reads' af.out).2.1);rintro e w' ⟨rfl,⟨nd,rfl⟩⟩;refine ⟨_,rfl,?_⟩))
       (try simp only [Act.put,List.setIfInBounds_toArray,List.set_cons_zero,List.set_cons_succ])
       go_cut [8] (fun v8 wc=>∃ (kq:Nat) (ag:List (S50)),Fc (Fr.j1 kq a2 ab ag aa=some r)∧Fc (kq≤k1)∧Fc (Kd.R k72 72 wc w.heap.size (fun _=>True) (.slice (some ac) ab.length bI) ab)∧Fc (Kd.R k50 50 wc w.heap.size (fun _=>True) v8 ag)∧Fc (wc.heap[aT]? = some (.cells #[(.slice A1_0 l1_0.length c1_0),(.slice A1_1 l1_1.length c1_1)] 34 (0,0)))∧Fc (Below w.heap.size w wc))
       case first=>
        have H:=HC14.out
        clear HC14
        by_cases aS:bk≥0
        ·rw [if_pos aS] at H
         have ak:=decide_eq_true aS
         clear aS
         (first|rw [ak]|(simp only [i64_w,i32_w];rw [ak])|skip)
         replace H:=ob_ H
         obtain ⟨bn,b0,H⟩:=H
         try dsimp only at H
         have H':=mk0 H
         clear H
         have a7:0≤(aa:Int):=od_
         have a8:aa<(ab.length:Int):=od_
         obtain ⟨bz,bM,bN,bO,bP,bQ⟩:=at_T72 (Kd.R_reads' ae.out).2.2 aa a7 a8
         obtain rfl:ac=bz:=(by injection bM)
         replace a7:=eq_true a7
         replace a8:=eq_true a8
         go_wp2_with (first|((with_reducible refine gate_callee (f:=34) rfl ?_);refine gL_ (some 41) Tryz.func34 #[.slice bl ah.length bm,.string ((rd_T72 ab aa).f1)] (h:=?_);(with_reducible refine (F5.calls k1 _ _ ah ((rd_T72 ab aa).f1) bn _ ?side1 ?side2 b0.out).mono ?_);(case side1=>exact cr_ af);(case side2=>exact (Kd.R_reads' af.out).2.1);rintro e cc ⟨b6,rfl,ho0,hb⟩;refine ⟨_,rfl,?_⟩;have ny2_:=mk0 (Kd.R_lower (Kd.R_new' ho0 (Kd.R_lt (r_ af))) (bz_ (b_ HB)));replace ae:=mk0 (Kd.R_below (r_ ae) hb);replace af:=mk0 (Kd.R_elder' (r_ af) (Kd.R_base ho0) hb);replace ad:=mk0 (u_ ad hb);replace HB:=mk0 (bt_ (b_ HB) hb);have bA:=ny2_;clear ny2_;(try clear hb);(try clear ho0)))
         go_meet
         case rel=>exact ⟨_,(bn),H',⟨by have:=ar.out;first|omega|exact Nat.le_refl _⟩,⟨r2_ ae.out⟩,⟨rM_ bA⟩,⟨h_ ad⟩,⟨b_ HB⟩⟩
        ·rw [if_neg aS] at H
         have ak:=decide_eq_false aS
         clear aS
         (first|rw [ak]|(simp only [i64_w,i32_w];rw [ak])|skip)
         have H':=mk0 H
         clear H
         go_wp2
         go_meet
         case rel=>exact ⟨_,(ah),H',⟨by have:=ar.out;first|omega|exact Nat.le_refl _⟩,⟨r2_ ae.out⟩,⟨r2_ af.out⟩,⟨h_ ad⟩,⟨b_ HB⟩⟩
       case rest=>
        clear HC14
        try clear aG
        try clear aU
        try clear aV
        try clear bw
        try clear au
        try clear aW
        try clear aX
        try clear aK
        try clear aL
        try clear aM
        try clear aN
        try clear av
        try clear aw
        try clear ax
        try clear ay
        try clear aZ
        try clear a4
        try clear a5
        try clear a6
        try clear ai
        try clear aO
        try clear aj
        try clear aP
        obtain ⟨kq,ag,HA,aQ,ae,af,ad,HB⟩:=hcut
        cases kq with
        | zero=>exact absurd HA.out (by simp [Fr.j1])
        | succ aq=>
         have H:=HA.out
         clear HA
         simp only [Fr.j1] at H
         as_aux_lemma=>
          by_cases bh:0≤aa
          ·rw [if_pos bh] at H
           have b1:=decide_eq_true bh
           clear bh
           by_cases bi:aa<(ab.length:Int)
           ·rw [if_pos bi] at H
            have b2:=decide_eq_true bi
            clear bi
            obtain ⟨bo,aH⟩:∃ b_:Bool,b_=((rd_T72 ab aa).f3):=⟨_,rfl⟩
            replace H:(if (bo=true) then (Fr.l0 aq a2 ab ag (wrap64 (aa + 1))) else ((Fm.f aq ag ((rd_T72 ab aa).f1) ((rd_T72 ab aa).f2)).bind fun aR=>(Fr.l0 aq a2 ab aR (wrap64 (aa + 1)))))=some r:=by rw [← aH] at H;exact H
            have Nbq22:=mk0 aH
            clear aH
            by_cases bj:(bo=true)
            ·subst bj
             rw [if_pos rfl] at H
             have H':=mk0 H
             clear H
             have al:0≤(aa:Int):=od_
             have am:aa<(ab.length:Int):=od_
             obtain ⟨aI,a9,ba,bb,bc,an⟩:=at_T72 (Kd.R_reads' ae.out).2.2 aa al am
             (try rw [← Nbq22.out] at an)
             obtain rfl:ac=aI:=(by injection a9)
             replace al:=eq_true al
             replace am:=eq_true am
             go_wp2
             go_roundg aq
             case measure=>have:=ar.out;have:=aQ.out;omega
             case rel=>exact ⟨(ag),(wrap64 (aa + 1)),sm_,H',⟨by have:=ar.out;have:=aQ.out;omega⟩,⟨r2_ ae.out⟩,⟨r2_ af.out⟩,⟨h_ ad⟩,⟨b_ HB⟩⟩
            ·replace bj:=Bool.eq_false_iff.mpr bj
             subst bj
             rw [if_neg nf_] at H
             replace H:=ob_ H
             obtain ⟨aR,b3,H⟩:=H
             try dsimp only at H
             have H':=mk0 H
             clear H
             have al:0≤(aa:Int):=od_
             have am:aa<(ab.length:Int):=od_
             obtain ⟨aI,a9,ba,bb,bc,an⟩:=at_T72 (Kd.R_reads' ae.out).2.2 aa al am
             (try rw [← Nbq22.out] at an)
             obtain rfl:ac=aI:=(by injection a9)
             replace al:=eq_true al
             replace am:=eq_true am
             try go_wp2
             replace ae:=mk0 (Rd_ ae.out)
             replace af:=mk0 (Rd_ af.out)
             replace ad:=mk0 (bD_ ad.out)
             replace HB:=mk0 (b1_ HB.out)
             have bd:0≤(aa:Int):=od_
             have be:aa<(ab.length:Int):=od_
             obtain ⟨bB,bR,az,aA,aB,ao⟩:=at_T72 (Kd.R_reads' ae.out).2.2 aa bd be
             (try rw [← Nbq22.out] at ao)
             obtain rfl:ac=bB:=(by injection bR)
             replace bd:=eq_true bd
             replace be:=eq_true be
             have bf:0≤(aa:Int):=od_
             have bg:aa<(ab.length:Int):=od_
             obtain ⟨bC,bS,aC,aD,aE,ap⟩:=at_T72 (Kd.R_reads' ae.out).2.2 aa bf bg
             (try rw [← Nbq22.out] at ap)
             obtain rfl:ac=bC:=(by injection bS)
             replace bf:=eq_true bf
             replace bg:=eq_true bg
             obtain ⟨bT,bU,bp⟩:=Kd.R_slice af.out
             (first|subst bp|(injection bp with f1_ f2_ f3_;have f4_:=f1_.symm;have f5_:=f3_.symm;clear f1_ f2_ f3_;subst f4_;subst f5_))
             refine start_ (n:=14) (S:=fun w'=>w'.cell? (ac.add ((aa).toNat * 4))=some (.int .i64 ((rd_T72 ab aa).f0))∧w'.cell? ⟨(ac.add ((aa).toNat * 4)).block,(ac.add ((aa).toNat * 4)).off + 1,none⟩=some (.string ((rd_T72 ab aa).f1))∧w'.cell? ⟨(ac.add ((aa).toNat * 4)).block,(ac.add ((aa).toNat * 4)).off + 2,none⟩=some (.string ((rd_T72 ab aa).f2))∧w'.cell? ⟨(ac.add ((aa).toNat * 4)).block,(ac.add ((aa).toNat * 4)).off + 3,none⟩=some (.bool (false))∧w'.cell? (ac.add ((aa).toNat * 4))=some (.int .i64 ((rd_T72 ab aa).f0))∧w'.cell? ⟨(ac.add ((aa).toNat * 4)).block,(ac.add ((aa).toNat * 4)).off + 1,none⟩=some (.string ((rd_T72 ab aa).f1))∧w'.cell? ⟨(ac.add ((aa).toNat * 4)).block,(ac.add ((aa).toNat * 4)).off + 2,none⟩=some (.string ((rd_T72 ab aa).f2))∧w'.cell? ⟨(ac.add ((aa).toNat * 4)).block,(ac.add ((aa).toNat * 4)).off + 3,none⟩=some (.bool (false))) (ds:=[]) (bt 14 0) (by kernel_rfl) rfl rfl ⟨az,aA,aB,ao,aC,aD,aE,ap⟩ (fun hHeld=>?_);refine with_tabW Fr.tab10 Fr.bits10 (fun HT_ HW_=>?_)
             generalize wc.drew=cd at ae af ad HB az aA aB ao aC aD aE ap hHeld ⊢
             refine pq_ HT_.out 0 48 (bt 14 1) (h:=?_)
             refine pq_ HT_.out 1 49 (bt 14 3) (h:=?_)
             refine pq_ HT_.out 2 50 (bt 14 7) (h:=?_)
             refine pq_ HT_.out 3 51 (bt 14 15) (h:=?_)
             refine pq_ HT_.out 4 52 (bt 14 31) (h:=?_)
             refine pq_ HT_.out 6 54 (bt 14 95) (h:=?_)
             refine pq_ HT_.out 7 55 (bt 14 223) (h:=?_)
             refine pq_ HT_.out 8 56 (bt 14 479) (h:=?_)
             refine pq_ HT_.out 9 57 (bt 14 991) (h:=?_)
             refine tq8_ HT_.out HW_.out 5 53 (bt 14 1023) hHeld (h:=?_)
             refine tq8_ HT_.out HW_.out 10 58 (bt 14 2047) hHeld (h:=?_)
             refine pq_ HT_.out 11 59 (bt 14 4095) (h:=?_)
             refine one_ (i:=12) (N:=some 60) (bt 14 8191) rfl rfl (one_of HT_.out (by kernel_rfl)) (by decide) (fun K hK=>?_)
             refine goes_ Tryz.func35 (by kernel_rfl) rfl #[.slice bT ag.length bU,.agg #[.string ((rd_T72 ab aa).f1),.string ((rd_T72 ab aa).f2)]] (by rfl) rfl rfl gs_ ?_
             with_reducible refine (Fm.calls aq _ _ ag ((rd_T72 ab aa).f1) ((rd_T72 ab aa).f2) aR _ ?side1 ?side2 b3.out).mono ?_
             (case side1=>exact cr_ af)
             (case side2=>exact (Kd.R_reads' af.out).2.1)
             rintro e ce ⟨b7,rfl,ho0,hb⟩
             have HS0_:=(hb.cell (World.block_lt_of_cell? _ _ hHeld.1)).trans hHeld.1
             have HS1_:=(hb.cell (World.block_lt_of_cell? _ _ hHeld.2.1)).trans hHeld.2.1
             have HS2_:=(hb.cell (World.block_lt_of_cell? _ _ hHeld.2.2.1)).trans hHeld.2.2.1
             have HS3_:=(hb.cell (World.block_lt_of_cell? _ _ hHeld.2.2.2.1)).trans hHeld.2.2.2.1
             have HS4_:=(hb.cell (World.block_lt_of_cell? _ _ hHeld.2.2.2.2.1)).trans hHeld.2.2.2.2.1
             have HS5_:=(hb.cell (World.block_lt_of_cell? _ _ hHeld.2.2.2.2.2.1)).trans hHeld.2.2.2.2.2.1
             have HS6_:=(hb.cell (World.block_lt_of_cell? _ _ hHeld.2.2.2.2.2.2.1)).trans hHeld.2.2.2.2.2.2.1
             have HS7_:=(hb.cell (World.block_lt_of_cell? _ _ hHeld.2.2.2.2.2.2.2)).trans hHeld.2.2.2.2.2.2.2
             refine ⟨_,rfl,?_⟩
             have ny2_:=mk0 (Kd.R_lower (Kd.R_new' ho0 (Kd.R_lt (r_ af))) (bz_ (b_ HB)))
             replace ae:=mk0 (Kd.R_below (r_ ae) hb)
             replace af:=mk0 (Kd.R_elder' (r_ af) (Kd.R_base ho0) hb)
             replace ad:=mk0 (u_ ad hb)
             replace HB:=mk0 (bt_ (b_ HB) hb)
             have bD:=ny2_
             clear ny2_
             (try clear hb)
             (try clear hk)
             (try clear hi)
             (try clear ho0)
             refine hK.out _ _ ⟨HS0_,HS1_,HS2_,HS3_,HS4_,HS5_,HS6_,HS7_⟩ (fun hHeld=>?_)
             clear hK K
             refine norm_ (a':=?_) ?_ ?_
             rotate_left
             ·show Act.put _ (some 60) _=_
              simp only [z_]
              rfl
             refine pq_ HT_.out 13 8 (bt 14 16383) (h:=?_)
             refine done_ (done_of HT_.out (by kernel_rfl)) ?_
             try go_wp2
             go_roundg aq
             case measure=>have:=ar.out;have:=aQ.out;omega
             case rel=>exact ⟨(aR),(wrap64 (aa + 1)),sm_,H',⟨by have:=ar.out;have:=aQ.out;omega⟩,⟨r2_ ae.out⟩,⟨rM_ bD⟩,⟨h_ ad⟩,⟨b_ HB⟩⟩
           ·rw [if_neg bi] at H
            exact absurd H (by simp)
          ·rw [if_neg bh] at H
           exact absurd H (by simp)
      ·rw [if_neg au] at H
       have aW:=beq_eq_false_iff_ne.mpr au
       have aX:=bne_iff_ne.mpr au
       have H':=mk0 H
       clear H
       obtain ⟨b8,b9,bV⟩:=Kd.R_slice ae.out
       subst bV
       have ai:0≤(aa:Int):=od_
       have aj:aa<(ab.length:Int):=od_
       obtain ⟨ac,aY,av,aw,ax,ay⟩:=at_T72 (Kd.R_reads' ae.out).2.2 aa ai aj
       cases aY
       replace ai:=eq_true ai
       replace aj:=eq_true aj
       go_wp2
       go_roundg k1
       case measure=>have:=ar.out;omega
       case rel=>exact ⟨(ah),(wrap64 (aa + 1)),sm_,H',⟨by have:=ar.out;omega⟩,⟨r2_ ae.out⟩,⟨r2_ af.out⟩,⟨h_ ad⟩,⟨b_ HB⟩⟩
     ·rw [if_neg aV] at H
      exact absurd H (by simp)
    ·rw [if_neg aG] at H
     have aU:=decide_eq_false aG
     clear aG
     obtain rfl:=Option.some.inj H
     obtain ⟨ca,cb,bW⟩:=Kd.R_slice ae.out
     subst bW
     go_wp2
     go_ret
     exact ⟨_,sa_,by (with_reducible repeat (first|apply Ra_|apply Rn_|apply Rd_));exact af.out,b_ HB⟩
def FP.l0:Nat→Int→Int→ByteArray→List (S78)→Option (Int)
 | 0,_,_,_,_=>none
 | k + 1,c,a,d,b=>if a<(b.length:Int) then (if 0≤a then (if ((rd_T78 b a).f0)≤c then (some a) else (FP.l0 k c (wrap64 (a + 1)) d b)) else (none)) else (some (-1))
def FP.f (k:Nat) (a0_0:ByteArray) (l0_1:List (S78)) (a1:Int):Option (Int):=FP.l0 k a1 0 a0_0 l0_1
theorem FP.mono_l:∀ k,(∀ y0 y1 y2 y3,LeO (FP.l0 k y0 y1 y2 y3) (FP.l0 (k + 1) y0 y1 y2 y3))
 | 0=>fun _ _ _ _ r h=>by simp [FP.l0] at h
 | k + 1=>by
  have ih0:=FP.mono_l k
  all_goals (intros;first|unfold FP.l0)
  all_goals exact mz_
theorem FP.mono:∀ a0 a1 a2 k,LeO (FP.f k a0 a1 a2) (FP.f (k + 1) a0 a1 a2):=by
 intro a0 a1 a2 k
 have ih0:=FP.mono_l k
 unfold FP.f
 exact mz_
theorem FP.calls (k:Nat) (a0_0:ByteArray) (A0_1:Option Addr) (c0_1:Nat) (l0_1:List (S78)) (a1:Int) (r:Int) (w:World) (hr0_1:Kd.C k78 w A0_1 l0_1.length l0_1) (hc0_1:l0_1.length≤c0_1) (h:FP.f k a0_0 l0_1 a1=some r) :
 Calls Tryz.prog 56 #[.agg #[.string a0_0,.slice A0_1 l0_1.length c0_1],.int .i64 a1] w fun e w'=>e = .returned (.int .i64 r)∧Below w.heap.size w w':=by
 have hu83:=Tryz.underlying83
 have ah:=mk0 hr0_1
 have aD:=mk0 hc0_1
 clear hr0_1 hc0_1
 have HB:=mk0 (Below.refl w.heap.size w)
 have H:(FP.l0 k a1 0 a0_0 l0_1)=some r:=h
 clear h
 have H':=mk0 H
 clear H
 go_enter Tryz.func56,Tryz.ntmps56
 go_wp2_with (first|((with_reducible refine gate_dst (N:=2) rfl ?_);refine bx_ (N:=2) (cs:=#[.string a0_0,.slice A0_1 l0_1.length c0_1]) (t:=83) (h:=?_);intro aj hg w3 hbox hb;have ny2_:=mk0 (gz_ HB hg);have al:=mk0 (gz_ HB hg);replace HB:=mk0 (bt_ (b_ HB) hb);have ae:=mk0 (hbox);have aE:=ny2_;have aF:=al;clear ny2_ al;clear hb hbox hg))
 go_loopg [5] k (fun kq v5 w'=>∃ (aa:Int),v5 = .int .i64 aa∧Fc (FP.l0 kq a1 aa a0_0 l0_1=some r)∧Fc (kq≤k)∧Fc (w'.heap[aj]? = some (.cells #[.string a0_0,(.slice A0_1 l0_1.length c0_1)] 83 (0,0)))∧Fc (Below w.heap.size w w'))
 case atStart=>exact ⟨(0),sm_,H',⟨Nat.le_refl _⟩,⟨h_ ae⟩,⟨b_ HB⟩⟩
 case round=>
  clear H'
  obtain ⟨aa,rfl,HA,am,ae,HB⟩:=hrel
  cases gk with
  | zero=>exact absurd HA.out (by simp [FP.l0])
  | succ k1=>
   have H:=HA.out
   clear HA
   simp only [FP.l0] at H
   as_aux_lemma=>
    by_cases c4:aa<(l0_1.length:Int)
    ·rw [if_pos c4] at H
     have an:=decide_eq_true c4
     clear c4
     by_cases c5:0≤aa
     ·rw [if_pos c5] at H
      have aG:=decide_eq_true c5
      clear c5
      by_cases c6:((rd_T78 l0_1 aa).f0)≤a1
      ·rw [if_pos c6] at H
       have ao:=decide_eq_true c6
       clear c6
       obtain rfl:=Option.some.inj H
       obtain ⟨ap,aq,ar,au⟩:=c2_ ae
       have af:0≤(aa:Int):=od_
       have ag:aa<(l0_1.length:Int):=od_
       obtain ⟨ak,ai,ab,ac,ad⟩:=at_T78 ah.out aa af ag
       cases ai
       replace ab:=(bc_ HB ab :)
       replace ac:=(bc_ HB ac :)
       replace ad:=(bc_ HB ad :)
       replace af:=eq_true af
       replace ag:=eq_true ag
       go_wp2
       go_ret
       exact ⟨sa_,b_ HB⟩
      ·rw [if_neg c6] at H
       have ao:=decide_eq_false c6
       clear c6
       have H':=mk0 H
       clear H
       obtain ⟨av,aw,ax,ay⟩:=c2_ ae
       have af:0≤(aa:Int):=od_
       have ag:aa<(l0_1.length:Int):=od_
       obtain ⟨ak,ai,ab,ac,ad⟩:=at_T78 ah.out aa af ag
       cases ai
       replace ab:=(bc_ HB ab :)
       replace ac:=(bc_ HB ac :)
       replace ad:=(bc_ HB ad :)
       replace af:=eq_true af
       replace ag:=eq_true ag
       go_wp2
       go_roundg k1
       case measure=>have:=am.out;omega
       case rel=>exact ⟨(wrap64 (aa + 1)),sm_,H',⟨by have:=am.out;omega⟩,⟨h_ ae⟩,⟨b_ HB⟩⟩
     ·rw [if_neg c5] at H
      exact absurd H (by simp)
    ·rw [if_neg c4] at H
     have an:=decide_eq_false c4
     clear c4
     obtain rfl:=Option.some.inj H
     obtain ⟨az,aA,aB,aC⟩:=c2_ ae
     go_wp2
     go_ret
     exact ⟨sa_,b_ HB⟩
def FL.j0:Nat→Int→Bool→ByteArray→List (S78)→Option (Int×ByteArray×Bool×Bool)
 | 0,_,_,_,_=>none
 | k + 1,a,c,d,b=>if c=true then (some (0,(⟨#[]⟩:ByteArray),false,false)) else (if 0≤a then (if a<(b.length:Int) then (some ((rd_T78 b a).f0,(rd_T78 b a).f1,(rd_T78 b a).f2,true)) else (none)) else (none))
def FL.f (k:Nat) (a0_0:ByteArray) (l0_1:List (S78)) (a1:Int):Option (Int×ByteArray×Bool×Bool):=(FP.f k a0_0 l0_1 a1).bind fun a=>(if a<0 then (FL.j0 k a true a0_0 l0_1) else (if 0≤a then (if a<(l0_1.length:Int) then (FL.j0 k a ((rd_T78 l0_1 a).f2) a0_0 l0_1) else (none)) else (none)))
theorem FL.mono_l:∀ k,(∀ y0 y1 y2 y3,LeO (FL.j0 k y0 y1 y2 y3) (FL.j0 (k + 1) y0 y1 y2 y3))
 | 0=>fun _ _ _ _ r h=>by simp [FL.j0] at h
 | k + 1=>by
  have ih0:=FL.mono_l k
  have:=@FP.mono
  all_goals (intros;first|unfold FL.j0)
  all_goals exact mz_
theorem FL.mono:∀ a0 a1 a2 k,LeO (FL.f k a0 a1 a2) (FL.f (k + 1) a0 a1 a2):=by
 intro a0 a1 a2 k
 have ih0:=FL.mono_l k
 have:=@FP.mono
 unfold FL.f
 exact mz_
theorem FL.calls (k:Nat) (a0_0:ByteArray) (A0_1:Option Addr) (c0_1:Nat) (l0_1:List (S78)) (a1:Int) (r1:Int) (r2:ByteArray) (r3:Bool) (r4:Bool) (w:World) (hr0_1:Kd.C k78 w A0_1 l0_1.length l0_1) (hc0_1:l0_1.length≤c0_1) (h:FL.f k a0_0 l0_1 a1=some (r1,r2,r3,r4)) :
 Calls Tryz.prog 36 #[.agg #[.string a0_0,.slice A0_1 l0_1.length c0_1],.int .i64 a1] w fun e w'=>e = .returned (.tuple #[.agg #[.int .i64 r1,.string r2,.bool r3],.bool r4])∧Below w.heap.size w w':=by
 have hu83:=Tryz.underlying83
 have hu78:=Tryz.underlying78
 have ao:=mk0 hr0_1
 have aG:=mk0 hc0_1
 clear hr0_1 hc0_1
 have HB:=mk0 (Below.refl w.heap.size w)
 have H:((FP.f k a0_0 l0_1 a1).bind fun aa=>(if aa<0 then (FL.j0 k aa true a0_0 l0_1) else (if 0≤aa then (if aa<(l0_1.length:Int) then (FL.j0 k aa ((rd_T78 l0_1 aa).f2) a0_0 l0_1) else (none)) else (none))))=some (r1,r2,r3,r4):=h
 clear h
 replace H:=ob_ H
 obtain ⟨aa,A3,H⟩:=H
 try dsimp only at H
 have HC4:=mk0 H
 clear H
 go_enter Tryz.func36,Tryz.ntmps36
 go_upto_region 2 with (first|((with_reducible refine gate_dst (N:=2) rfl ?_);refine bx_ (N:=2) (cs:=#[.string a0_0,.slice A0_1 l0_1.length c0_1]) (t:=83) (h:=?_);intro aH hg w5 hbox hb;have ny2_:=mk0 (gz_ HB hg);have aw:=mk0 (gz_ HB hg);replace HB:=mk0 (bt_ (b_ HB) hb);have ab:=mk0 (hbox);have bb:=ny2_;have bc:=aw;clear ny2_ aw;clear hb hbox hg)|((with_reducible refine gate_dst (N:=4) rfl ?_);refine bx_ (N:=4) (cs:=#[.int .i64 0,.string (⟨#[]⟩:ByteArray),.bool false]) (t:=78) (h:=?_);intro ag hg w6 hbox hb;have aw:=mk0 (gz_ HB hg);have aI:=mk0 (gz_ HB hg);have aJ:=mk0 (ne1_ ab hg);have aK:=mk0 (ne2_ ab hg);replace ab:=mk0 (u_ ab hb);replace HB:=mk0 (bt_ (b_ HB) hb);have ac:=mk0 (hbox);have bd:=aI;have ad:=aJ;have ae:=aK;clear aw aI aJ aK hb hbox hg;have bq:=ad.out;have br:=ae.out;obtain ⟨ax,ay,az,aA⟩:=c2_ ab)|((with_reducible refine gate_callee (f:=56) rfl ?_);refine gL_ (some 9) Tryz.func56 #[.agg #[.string a0_0,.slice A0_1 l0_1.length c0_1],.int .i64 a1] (h:=?_);(with_reducible refine (FP.calls k a0_0 _ _ l0_1 a1 aa _ ?side1 ?side2 A3.out).mono ?_);(case side1=>exact cb_ ao HB);(case side2=>exact aG.out);rintro e w9 ⟨rfl,hb⟩;refine ⟨_,rfl,?_⟩;replace ab:=mk0 (u_ ab hb);replace ac:=mk0 (blk_below (g:=ag) (o:=.cells #[.int .i64 0,.string (⟨#[]⟩:ByteArray),.bool false] 78 (0,0)) (h_ ac) hb);replace HB:=mk0 (bt_ (b_ HB) hb);(try clear hb)))
 (try simp only [Act.put,List.setIfInBounds_toArray,List.set_cons_zero,List.set_cons_succ])
 go_cut [19] (fun v19 wc=>∃ (kq:Nat) (ah:Bool),v19 = .bool ah∧Fc (FL.j0 kq aa ah a0_0 l0_1=some (r1,r2,r3,r4))∧Fc (kq≤k)∧Fc (wc.heap[aH]? = some (.cells #[.string a0_0,(.slice A0_1 l0_1.length c0_1)] 83 (0,0)))∧Fc (wc.heap[ag]? = some (.cells #[.int .i64 0,.string (⟨#[]⟩:ByteArray),.bool false] 78 (0,0)))∧Fc (Below w.heap.size w wc))
 case first=>
  have H:=HC4.out
  clear HC4
  by_cases ap:aa<0
  ·rw [if_pos ap] at H
   have af:=decide_eq_true ap
   clear ap
   (first|rw [af]|(simp only [i64_w,i32_w];rw [af])|skip)
   have H':=mk0 H
   clear H
   go_wp2
   go_meet
   case rel=>exact ⟨_,(true),sm_,H',⟨by first|omega|exact Nat.le_refl _⟩,⟨h_ ab⟩,⟨h_ ac⟩,⟨b_ HB⟩⟩
  ·rw [if_neg ap] at H
   have af:=decide_eq_false ap
   clear ap
   (first|rw [af]|(simp only [i64_w,i32_w];rw [af])|skip)
   by_cases aB:0≤aa
   ·rw [if_pos aB] at H
    have be:=decide_eq_true aB
    clear aB
    by_cases aC:aa<(l0_1.length:Int)
    ·rw [if_pos aC] at H
     have bf:=decide_eq_true aC
     clear aC
     have H':=mk0 H
     clear H
     have bg:=ad.out
     have bh:=ae.out
     obtain ⟨aL,aM,aN,aO⟩:=c2_ ab
     have aq:0≤(aa:Int):=od_
     have ar:aa<(l0_1.length:Int):=od_
     obtain ⟨bi,aP,ai,aj,ak⟩:=at_T78 ao.out aa aq ar
     cases aP
     replace ai:=(bc_ HB ai :)
     replace aj:=(bc_ HB aj :)
     replace ak:=(bc_ HB ak :)
     replace aq:=eq_true aq
     replace ar:=eq_true ar
     go_wp2
     go_meet
     case rel=>exact ⟨_,((rd_T78 l0_1 aa).f2),sm_,H',⟨by first|omega|exact Nat.le_refl _⟩,⟨h_ ab⟩,⟨h_ ac⟩,⟨b_ HB⟩⟩
    ·rw [if_neg aC] at H
     exact absurd H (by simp)
   ·rw [if_neg aB] at H
    exact absurd H (by simp)
 case rest=>
  clear HC4
  try clear ax
  try clear ay
  try clear az
  try clear aA
  obtain ⟨kq,ah,rfl,HA,bs,ab,ac,HB⟩:=hcut
  cases kq with
  | zero=>exact absurd HA.out (by simp [FL.j0])
  | succ bu=>
   have H:=HA.out
   clear HA
   simp only [FL.j0] at H
   as_aux_lemma=>
    by_cases aD:ah=true
    ·subst aD
     rw [if_pos rfl] at H
     simp only [Option.some.injEq,Prod.mk.injEq] at H
     obtain ⟨rfl,rfl,rfl,rfl⟩:=H
     have bj:=ae.out
     have bk:=ad.out
     obtain ⟨aQ,aR,aS,aT,aU,aV⟩:=c3_ ac
     go_wp2
     refine bodyPost_ret (results_ct rfl _ _ ag 78 #[.int .i64 0,.string (⟨#[]⟩:ByteArray),.bool false] (0,0) _ rfl (pu_ (cs:=#[.int .i64 0,.string (⟨#[]⟩:ByteArray),.bool false]) (pu_ (cs:=#[.int .i64 0,.string (⟨#[]⟩:ByteArray),.bool false]) (pu_ (cs:=#[.int .i64 0,.string (⟨#[]⟩:ByteArray),.bool false]) (h_ ac)))) Tryz.underlying78 rfl (by kernel_rfl)) rfl ?_
     exact ⟨sa_,b_ HB⟩
    ·replace aD:=Bool.eq_false_iff.mpr aD
     subst aD
     rw [if_neg nf_] at H
     by_cases aE:0≤aa
     ·rw [if_pos aE] at H
      have bl:=decide_eq_true aE
      clear aE
      by_cases aF:aa<(l0_1.length:Int)
      ·rw [if_pos aF] at H
       have bm:=decide_eq_true aF
       clear aF
       simp only [Option.some.injEq,Prod.mk.injEq] at H
       obtain ⟨rfl,rfl,rfl,rfl⟩:=H
       have bn:=ad.out
       have bo:=ae.out
       obtain ⟨aW,aX,aY,aZ⟩:=c2_ ab
       have au:0≤(aa:Int):=od_
       have av:aa<(l0_1.length:Int):=od_
       obtain ⟨bp,a4,al,am,an⟩:=at_T78 ao.out aa au av
       cases a4
       replace al:=(bc_ HB al :)
       replace am:=(bc_ HB am :)
       replace an:=(bc_ HB an :)
       replace au:=eq_true au
       replace av:=eq_true av
       obtain ⟨a5,a6,a7,a8,a9,ba⟩:=c3_ ac
       go_wp2
       refine bodyPost_ret (results_ct rfl _ _ ag 78 #[.int .i64 ((rd_T78 l0_1 aa).f0),.string ((rd_T78 l0_1 aa).f1),.bool ((rd_T78 l0_1 aa).f2)] (0,0) _ rfl (pu_ (cs:=#[.int .i64 ((rd_T78 l0_1 aa).f0),.string ((rd_T78 l0_1 aa).f1),.bool false]) (pu_ (cs:=#[.int .i64 ((rd_T78 l0_1 aa).f0),.string (⟨#[]⟩:ByteArray),.bool false]) (pu_ (cs:=#[.int .i64 0,.string (⟨#[]⟩:ByteArray),.bool false]) (h_ ac)))) Tryz.underlying78 rfl (by kernel_rfl)) rfl ?_
       exact ⟨sa_,b_ HB⟩
      ·rw [if_neg aF] at H
       exact absurd H (by simp)
     ·rw [if_neg aE] at H
      exact absurd H (by simp)
end Go.Proofs.YtbaecdcfefmcgaaGreat.PVrd
