import Derived.Shelf.SlSorted.Search
import Derived.Test.YtbaecdcfefmcgaaGreatPVrdx0
import Derived.Test.YtbaecdcfefmcgaaGreatPVrdx8
namespace Go.Proofs.YtbaecdcfefmcgaaGreat.PVrd
open Go.RowKit Go.Proofs.YtbaecdcfefmcgaaGreatW.PrintWords Go.Proofs.YtbaecdcfefmcgaaGreatW.PrintLast Go.Proofs.YtbaecdcfefmcgaaGreatW.PrintMore
attribute [local go_sem] max2_int min2_int max_two min_two max_three min_three max_four min_four
set_option maxHeartbeats 8000000
set_option maxRecDepth 100000
set_option linter.unusedVariables false
set_option linter.unusedSimpArgs false
mutual
def Fl.l0:Nat→Int→List (S83)→Option (Bool)
 | 0,_,_=>none
 | k + 1,a,b=>if a<(b.length:Int) then (if 0≤a then ((Fj.f k ((rd_T83 b a).f0) ((rd_T83 b a).f1)).bind fun c=>(if c=true then (if a > 0 then (if 0≤(wrap64 (a - 1)) then (if (wrap64 (a - 1))<(b.length:Int) then (Fl.j1 k a (!(Op.bytesLess (((rd_T83 b (wrap64 (a - 1))).f0).toList) (((rd_T83 b a).f0).toList))) b) else (none)) else (none)) else (Fl.j1 k a false b)) else (Fl.j1 k a true b))) else (none)) else ((FY.f k b).bind fun d=>(some (decide (d≤64))))
def Fl.j1:Nat→Int→Bool→List (S83)→Option (Bool)
 | 0,_,_,_=>none
 | k + 1,a,b,c=>if b=true then (some false) else (Fl.l0 k (wrap64 (a + 1)) c)
end
def Fl.f (k:Nat) (l0_0:List (S83)):Option (Bool):=Fl.l0 k 0 l0_0
theorem Fl.mono_l:∀ k,(∀ y0 y1,LeO (Fl.l0 k y0 y1) (Fl.l0 (k + 1) y0 y1))∧(∀ y0 y1 y2,LeO (Fl.j1 k y0 y1 y2) (Fl.j1 (k + 1) y0 y1 y2))
 | 0=>⟨fun _ _ r h=>by simp [Fl.l0] at h,fun _ _ _ r h=>by simp [Fl.j1] at h⟩
 | k + 1=>by
  obtain ⟨ih0,ih1⟩:=Fl.mono_l k
  have:=@Fj.mono
  have:=@FY.mono
  refine ⟨?_,?_⟩
  all_goals (intros;first|unfold Fl.l0|unfold Fl.j1)
  all_goals exact mz_
theorem Fl.mono:∀ a0 k,LeO (Fl.f k a0) (Fl.f (k + 1) a0):=by
 intro a0 k
 obtain ⟨ih0,ih1⟩:=Fl.mono_l k
 have:=@Fj.mono
 have:=@FY.mono
 unfold Fl.f
 exact mz_
def Fl.T4:Bool×List (List Nat×List Nat):=(true,[([],[]),([0],[0]),([],[]),([1,2],[1,2]),([3],[3]),([4],[4]),([5],[5]),([6,5],[6]),([7],[7]),([8,7],[7,8]),([9,7,7],[7,9]),([10],[10]),([11,10],[10,11]),([10],[10]),([13,10],[10,13]),([12,14,10],[10,12,14]),([15,10],[10,15]),([16,10],[10,16]),([10],[10]),([18,10],[10,18]),([10],[10]),([19,20,10],[10,19,20]),([21,10],[10,21]),([22,10],[10,22]),([17,23,10],[10,17,23]),([10,24,7],[7,10,24]),([7,25],[7,25])])
def Fl.B4:List Nat:=[0,1,0,7,15,31,63,127,255,511,1023,2047,4095,2047,10239,32767,65535,131071,2047,264191,2047,1837055,3934207,8128511,16777215,33554431,67108863]
theorem Fl.tab4:rtab .any (opsOf Tryz.f28 4)=Fl.T4:=by kernel_rfl
theorem Fl.bits4:waitsOk Fl.T4.2 Fl.B4=true:=by kernel_rfl
theorem Fl.calls (k:Nat) (A0_0:Option Addr) (c0_0:Nat) (l0_0:List (S83)) (r:Bool) (w:World) (hr0_0:Kd.C k83 w A0_0 l0_0.length l0_0) (hc0_0:l0_0.length≤c0_0) (h:Fl.f k l0_0=some r) :
 Calls Tryz.prog 28 #[.agg #[.slice A0_0 l0_0.length c0_0]] w fun e w'=>e = .returned (.bool r)∧Below w.heap.size w w':=by
 have hu43:=Tryz.underlying43
 have hu83:=Tryz.underlying83
 have aw:=mk0 hr0_0
 have a6:=mk0 hc0_0
 clear hr0_0 hc0_0
 have HB:=mk0 (Below.refl w.heap.size w)
 have H:(Fl.l0 k 0 l0_0)=some r:=h
 clear h
 have H':=mk0 H
 clear H
 go_enter Tryz.func28,Tryz.ntmps28
 go_wp2_with (first|((with_reducible refine gate_dst (N:=1) rfl ?_);refine bx_ (N:=1) (cs:=#[.slice A0_0 l0_0.length c0_0]) (t:=43) (h:=?_);intro ax hg w2 hbox hb;have ny2_:=mk0 (gz_ HB hg);have a9:=mk0 (gz_ HB hg);replace HB:=mk0 (bt_ (b_ HB) hb);have ab:=mk0 (hbox);have bn:=ny2_;have bo:=a9;clear ny2_ a9;clear hb hbox hg))
 go_loopg [3] k (fun kq v3 w'=>∃ (aa:Int),v3 = .int .i64 aa∧Fc (Fl.l0 kq aa l0_0=some r)∧Fc (kq≤k)∧Fc (w'.heap[ax]? = some (.cells #[(.slice A0_0 l0_0.length c0_0)] 43 (0,0)))∧Fc (Below w.heap.size w w'))
 case atStart=>exact ⟨(0),sm_,H',⟨Nat.le_refl _⟩,⟨h_ ab⟩,⟨b_ HB⟩⟩
 case round=>
  clear H'
  obtain ⟨aa,rfl,HA,aM,ab,HB⟩:=hrel
  cases gk with
  | zero=>exact absurd HA.out (by simp [Fl.l0])
  | succ k1=>
   have H:=HA.out
   clear HA
   simp only [Fl.l0] at H
   as_aux_lemma=>
    by_cases c3:aa<(l0_0.length:Int)
    ·rw [if_pos c3] at H
     have ba:=decide_eq_true c3
     clear c3
     have HC4:=mk0 H
     clear H
     obtain ⟨bl,bm⟩:=c1_ ab
     go_upto_region 4 with (fail)
     go_cut [37] (fun v37 wc=>∃ (kq:Nat) (az:Bool),v37 = .bool az∧Fc (Fl.j1 kq aa az l0_0=some r)∧Fc (kq≤k1)∧Fc (wc.heap[ax]? = some (.cells #[(.slice A0_0 l0_0.length c0_0)] 43 (0,0)))∧Fc (Below w.heap.size w wc))
     case first=>
      have H:=HC4.out
      clear HC4
      by_cases c6:0≤aa
      ·rw [if_pos c6] at H
       have a5:=decide_eq_true c6
       clear c6
       (first|rw [a5]|(simp only [i64_w,i32_w];rw [a5])|skip)
       replace H:=ob_ H
       obtain ⟨bb,A7,H⟩:=H
       try dsimp only at H
       by_cases c8:bb=true
       ·subst c8
        rw [if_pos rfl] at H
        by_cases c9:aa > 0
        ·rw [if_pos c9] at H
         have bc:=decide_eq_true c9
         clear c9
         obtain ⟨ak,ay⟩:∃ j_:Int,(wrap64 (aa - 1))=j_:=⟨_,rfl⟩
         replace H:(if 0≤(ak) then (if (ak)<(l0_0.length:Int) then (Fl.j1 k1 aa (!(Op.bytesLess (((rd_T83 l0_0 (ak)).f0).toList) (((rd_T83 l0_0 aa).f0).toList))) l0_0) else (none)) else (none))=some r:=by first|(rw [ay] at H;exact H)|(simp only [ay] at H ⊢; exact H)
         (try rw [ay] at A7)
         have hji10w:(IntKind.i64.wrap (aa - 1))=ak:=(i64_w _).trans ay
         by_cases aW:0≤(ak)
         ·rw [if_pos aW] at H
          have bp:=decide_eq_true aW
          clear aW
          by_cases aX:(ak)<(l0_0.length:Int)
          ·rw [if_pos aX] at H
           have bq:=decide_eq_true aX
           clear aX
           have H':=mk0 H
           clear H
           try go_wp2
           replace ab:=mk0 (bD_ ab.out)
           replace HB:=mk0 (b1_ HB.out)
           have an:0≤(aa:Int):=od_
           have ao:aa<(l0_0.length:Int):=od_
           obtain ⟨ac,al,am,aA,ad,ae,af,ag⟩:=at_T83 aw.out aa an ao
           have ah:=ae
           have ai:=ad
           cases aA
           replace ad:=(bc_ HB ad :)
           replace ae:=(bc_ HB ae :)
           have aj:=mk0 ag
           have ap:=mk0 af
           clear ag af
           replace an:=eq_true an
           replace ao:=eq_true ao
           have aN:0≤((ak):Int):=od_
           have aQ:(ak)<(l0_0.length:Int):=od_
           obtain ⟨a7,aY,aZ,bd,aq,ar,aC,aD⟩:=at_T83 aw.out (ak) aN aQ
           have aE:=ar
           have aG:=aq
           obtain rfl:ac=a7:=(by injection bd)
           replace aq:=(bc_ HB aq :)
           replace ar:=(bc_ HB ar :)
           have aR:=mk0 aD
           have be:=mk0 aC
           clear aD aC
           replace aN:=eq_true aN
           replace aQ:=eq_true aQ
           have aT:0≤(aa:Int):=od_
           have aU:aa<(l0_0.length:Int):=od_
           obtain ⟨a8,a2,a3,bf,au,av,aH,aI⟩:=at_T83 aw.out aa aT aU
           have aJ:=av
           have aK:=au
           obtain rfl:ac=a8:=(by injection bf)
           replace au:=(bc_ HB au :)
           replace av:=(bc_ HB av :)
           have aV:=mk0 aI
           have bg:=mk0 aH
           clear aI aH
           replace aT:=eq_true aT
           replace aU:=eq_true aU
           refine start_ (n:=27) (S:=fun w'=>w'.cell? ⟨ax,0,none⟩=some (.slice (some ac) l0_0.length c0_0)∧w'.cell? (ac.add ((aa).toNat * 2))=some (.string ((rd_T83 l0_0 aa).f0))∧w'.cell? ⟨(ac.add ((aa).toNat * 2)).block,(ac.add ((aa).toNat * 2)).off + 1,none⟩=some (.slice al ((rd_T83 l0_0 aa).f1).length am)∧w'.cell? (ac.add (((ak)).toNat * 2))=some (.string ((rd_T83 l0_0 (ak)).f0))∧w'.cell? ⟨(ac.add (((ak)).toNat * 2)).block,(ac.add (((ak)).toNat * 2)).off + 1,none⟩=some (.slice aY ((rd_T83 l0_0 (ak)).f1).length aZ)∧w'.cell? (ac.add ((aa).toNat * 2))=some (.string ((rd_T83 l0_0 aa).f0))∧w'.cell? ⟨(ac.add ((aa).toNat * 2)).block,(ac.add ((aa).toNat * 2)).off + 1,none⟩=some (.slice a2 ((rd_T83 l0_0 aa).f1).length a3)) (ds:=[]) (bt 27 0) (by kernel_rfl) rfl rfl ⟨bk_ ab 0,((bc_ HB ai :)),((bc_ HB ah :)),((bc_ HB aG :)),((bc_ HB aE :)),((bc_ HB aK :)),((bc_ HB aJ :))⟩ (fun hHeld=>?_);refine with_tabW Fl.tab4 Fl.bits4 (fun HT_ HW_=>?_)
           generalize wr.drew=bu at ab HB aj aR aV ad ae aq ar au av hHeld ⊢
           refine pq_ HT_.out 0 11 (bt 27 1) (h:=?_)
           refine pq_ HT_.out 2 13 (bt 27 5) (h:=?_)
           refine tq7_ HT_.out HW_.out 1 12 (bt 27 7) hHeld (h:=?_)
           refine pq_ HT_.out 3 14 (bt 27 15) (h:=?_)
           refine tq7_ HT_.out HW_.out 4 15 (bt 27 31) hHeld (h:=?_)
           refine one_ (i:=5) (N:=some 16) (bt 27 63) rfl rfl (one_of HT_.out (by kernel_rfl)) (by decide) (fun K hK=>?_)
           refine goes_ Tryz.func52 (by kernel_rfl) rfl #[.agg #[.string ((rd_T83 l0_0 aa).f0),.slice al ((rd_T83 l0_0 aa).f1).length am]] (by rfl) rfl rfl gs_ ?_
           with_reducible refine (Fj.calls k1 ((rd_T83 l0_0 aa).f0) _ _ ((rd_T83 l0_0 aa).f1) true _ ?side1 ?side2 A7.out).mono ?_
           (case side1=>exact cb_ aj HB)
           (case side2=>exact ap.out)
           rintro e bv ⟨rfl,hb⟩
           refine ⟨_,rfl,?_⟩
           replace ab:=mk0 (u_ ab hb)
           replace HB:=mk0 (bt_ (b_ HB) hb)
           (try clear hb)
           (try clear hk)
           (try clear hi)
           refine hK.out _ _ ⟨bk_ ab 0,((bc_ HB ai :)),((bc_ HB ah :)),((bc_ HB aG :)),((bc_ HB aE :)),((bc_ HB aK :)),((bc_ HB aJ :))⟩ (fun hHeld=>?_)
           clear hK K
           refine norm_ (a':=?_) ?_ ?_
           rotate_left
           ·show Act.put _ (some 16) _=_
            simp only [z_]
            rfl
           refine pq_ HT_.out 6 17 (bt 27 127) (h:=?_)
           refine pq_ HT_.out 7 18 (bt 27 255) (h:=?_)
           refine pq_ HT_.out 8 19 (bt 27 511) (h:=?_)
           refine pq_ HT_.out 9 20 (bt 27 1023) (h:=?_)
           refine pq_ HT_.out 10 21 (bt 27 2047) (h:=?_)
           refine pq_ HT_.out 11 22 (bt 27 4095) (h:=?_)
           refine pq_ HT_.out 13 24 (bt 27 12287) (h:=?_)
           refine pq_ HT_.out 14 25 (bt 27 28671) (h:=?_)
           refine pq_ HT_.out 18 29 (bt 27 290815) (h:=?_)
           refine pq_ HT_.out 20 31 (bt 27 1339391) (h:=?_)
           refine tq7_ HT_.out HW_.out 12 23 (bt 27 1343487) hHeld (h:=?_)
           refine pq_ HT_.out 15 26 (bt 27 1376255) (h:=?_)
           refine pq_ HT_.out 16 27 (bt 27 1441791) (h:=?_)
           refine tq7_ HT_.out HW_.out 17 28 (bt 27 1572863) hHeld (h:=?_)
           refine tq7_ HT_.out HW_.out 19 30 (bt 27 2097151) hHeld (h:=?_)
           refine pq_ HT_.out 21 32 (bt 27 4194303) (h:=?_)
           refine pq_ HT_.out 22 33 (bt 27 8388607) (h:=?_)
           refine tq7_ HT_.out HW_.out 23 34 (bt 27 16777215) hHeld (h:=?_)
           refine pq_ HT_.out 24 35 (bt 27 33554431) (h:=?_)
           refine pq_ HT_.out 25 36 (bt 27 67108863) (h:=?_)
           refine pq_ HT_.out 26 37 (bt 27 134217727) (h:=?_)
           refine done_ (done_of HT_.out (by kernel_rfl)) ?_
           try go_wp2
           go_meet
           case rel=>exact ⟨_,(!(Op.bytesLess (((rd_T83 l0_0 (ak)).f0).toList) (((rd_T83 l0_0 aa).f0).toList))),(by first|rfl|(simp;done)|(simp only [← ay] <;> (first|rfl|(simp [leq_];done)|(simp;done)))|(simp [*];done)),H',⟨by have:=aM.out;first|omega|exact Nat.le_refl _⟩,⟨h_ ab⟩,⟨b_ HB⟩⟩
          ·rw [if_neg aX] at H
           exact absurd H (by simp)
         ·rw [if_neg aW] at H
          exact absurd H (by simp)
        ·rw [if_neg c9] at H
         have bc:=decide_eq_false c9
         clear c9
         have H':=mk0 H
         clear H
         try go_wp2
         replace ab:=mk0 (bD_ ab.out)
         replace HB:=mk0 (b1_ HB.out)
         have an:0≤(aa:Int):=od_
         have ao:aa<(l0_0.length:Int):=od_
         obtain ⟨ac,al,am,aA,ad,ae,af,ag⟩:=at_T83 aw.out aa an ao
         have ah:=ae
         have ai:=ad
         cases aA
         replace ad:=(bc_ HB ad :)
         replace ae:=(bc_ HB ae :)
         have aj:=mk0 ag
         have ap:=mk0 af
         clear ag af
         replace an:=eq_true an
         replace ao:=eq_true ao
         refine start_ (n:=27) (S:=fun w'=>w'.cell? ⟨ax,0,none⟩=some (.slice (some ac) l0_0.length c0_0)∧w'.cell? (ac.add ((aa).toNat * 2))=some (.string ((rd_T83 l0_0 aa).f0))∧w'.cell? ⟨(ac.add ((aa).toNat * 2)).block,(ac.add ((aa).toNat * 2)).off + 1,none⟩=some (.slice al ((rd_T83 l0_0 aa).f1).length am)) (ds:=[]) (bt 27 0) (by kernel_rfl) rfl rfl ⟨bk_ ab 0,((bc_ HB ai :)),((bc_ HB ah :))⟩ (fun hHeld=>?_);refine with_tabW Fl.tab4 Fl.bits4 (fun HT_ HW_=>?_)
         generalize wr.drew=bw at ab HB aj ad ae hHeld ⊢
         refine pq_ HT_.out 0 11 (bt 27 1) (h:=?_)
         refine pq_ HT_.out 2 13 (bt 27 5) (h:=?_)
         refine tq3_ HT_.out HW_.out 1 12 (bt 27 7) hHeld (h:=?_)
         refine pq_ HT_.out 3 14 (bt 27 15) (h:=?_)
         refine tq3_ HT_.out HW_.out 4 15 (bt 27 31) hHeld (h:=?_)
         refine one_ (i:=5) (N:=some 16) (bt 27 63) rfl rfl (one_of HT_.out (by kernel_rfl)) (by decide) (fun K hK=>?_)
         refine goes_ Tryz.func52 (by kernel_rfl) rfl #[.agg #[.string ((rd_T83 l0_0 aa).f0),.slice al ((rd_T83 l0_0 aa).f1).length am]] (by rfl) rfl rfl gs_ ?_
         with_reducible refine (Fj.calls k1 ((rd_T83 l0_0 aa).f0) _ _ ((rd_T83 l0_0 aa).f1) true _ ?side1 ?side2 A7.out).mono ?_
         (case side1=>exact cb_ aj HB)
         (case side2=>exact ap.out)
         rintro e bx ⟨rfl,hb⟩
         refine ⟨_,rfl,?_⟩
         replace ab:=mk0 (u_ ab hb)
         replace HB:=mk0 (bt_ (b_ HB) hb)
         (try clear hb)
         (try clear hk)
         (try clear hi)
         refine hK.out _ _ ⟨bk_ ab 0,((bc_ HB ai :)),((bc_ HB ah :))⟩ (fun hHeld=>?_)
         clear hK K
         refine norm_ (a':=?_) ?_ ?_
         rotate_left
         ·show Act.put _ (some 16) _=_
          simp only [z_]
          rfl
         refine pq_ HT_.out 6 17 (bt 27 127) (h:=?_)
         refine pq_ HT_.out 7 18 (bt 27 255) (h:=?_)
         refine pq_ HT_.out 8 19 (bt 27 511) (h:=?_)
         refine pq_ HT_.out 9 20 (bt 27 1023) (h:=?_)
         refine pq_ HT_.out 10 21 (bt 27 2047) (h:=?_)
         refine uq_ HT_.out 11 22 (bt 27 4095) (h:=?_)
         refine uq_ HT_.out 12 23 (bt 27 8191) (h:=?_)
         refine uq_ HT_.out 13 24 (bt 27 16383) (h:=?_)
         refine uq_ HT_.out 14 25 (bt 27 32767) (h:=?_)
         refine uq_ HT_.out 15 26 (bt 27 65535) (h:=?_)
         refine uq_ HT_.out 16 27 (bt 27 131071) (h:=?_)
         refine uq_ HT_.out 17 28 (bt 27 262143) (h:=?_)
         refine uq_ HT_.out 18 29 (bt 27 524287) (h:=?_)
         refine uq_ HT_.out 19 30 (bt 27 1048575) (h:=?_)
         refine uq_ HT_.out 20 31 (bt 27 2097151) (h:=?_)
         refine uq_ HT_.out 21 32 (bt 27 4194303) (h:=?_)
         refine uq_ HT_.out 22 33 (bt 27 8388607) (h:=?_)
         refine uq_ HT_.out 23 34 (bt 27 16777215) (h:=?_)
         refine uq_ HT_.out 24 35 (bt 27 33554431) (h:=?_)
         refine pq_ HT_.out 25 36 (bt 27 67108863) (h:=?_)
         refine pq_ HT_.out 26 37 (bt 27 134217727) (h:=?_)
         refine done_ (done_of HT_.out (by kernel_rfl)) ?_
         try go_wp2
         go_meet
         case rel=>exact ⟨_,(false),sm_,H',⟨by have:=aM.out;first|omega|exact Nat.le_refl _⟩,⟨h_ ab⟩,⟨b_ HB⟩⟩
       ·replace c8:=Bool.eq_false_iff.mpr c8
        subst c8
        rw [if_neg nf_] at H
        have H':=mk0 H
        clear H
        try go_wp2
        replace ab:=mk0 (bD_ ab.out)
        replace HB:=mk0 (b1_ HB.out)
        have an:0≤(aa:Int):=od_
        have ao:aa<(l0_0.length:Int):=od_
        obtain ⟨ac,al,am,aA,ad,ae,af,ag⟩:=at_T83 aw.out aa an ao
        have ah:=ae
        have ai:=ad
        cases aA
        replace ad:=(bc_ HB ad :)
        replace ae:=(bc_ HB ae :)
        have aj:=mk0 ag
        have ap:=mk0 af
        clear ag af
        replace an:=eq_true an
        replace ao:=eq_true ao
        refine start_ (n:=27) (S:=fun w'=>w'.cell? ⟨ax,0,none⟩=some (.slice (some ac) l0_0.length c0_0)∧w'.cell? (ac.add ((aa).toNat * 2))=some (.string ((rd_T83 l0_0 aa).f0))∧w'.cell? ⟨(ac.add ((aa).toNat * 2)).block,(ac.add ((aa).toNat * 2)).off + 1,none⟩=some (.slice al ((rd_T83 l0_0 aa).f1).length am)) (ds:=[]) (bt 27 0) (by kernel_rfl) rfl rfl ⟨bk_ ab 0,((bc_ HB ai :)),((bc_ HB ah :))⟩ (fun hHeld=>?_);refine with_tabW Fl.tab4 Fl.bits4 (fun HT_ HW_=>?_)
        generalize wr.drew=bz at ab HB aj ad ae hHeld ⊢
        refine pq_ HT_.out 0 11 (bt 27 1) (h:=?_)
        refine pq_ HT_.out 2 13 (bt 27 5) (h:=?_)
        refine tq3_ HT_.out HW_.out 1 12 (bt 27 7) hHeld (h:=?_)
        refine pq_ HT_.out 3 14 (bt 27 15) (h:=?_)
        refine tq3_ HT_.out HW_.out 4 15 (bt 27 31) hHeld (h:=?_)
        refine one_ (i:=5) (N:=some 16) (bt 27 63) rfl rfl (one_of HT_.out (by kernel_rfl)) (by decide) (fun K hK=>?_)
        refine goes_ Tryz.func52 (by kernel_rfl) rfl #[.agg #[.string ((rd_T83 l0_0 aa).f0),.slice al ((rd_T83 l0_0 aa).f1).length am]] (by rfl) rfl rfl gs_ ?_
        with_reducible refine (Fj.calls k1 ((rd_T83 l0_0 aa).f0) _ _ ((rd_T83 l0_0 aa).f1) false _ ?side1 ?side2 A7.out).mono ?_
        (case side1=>exact cb_ aj HB)
        (case side2=>exact ap.out)
        rintro e bA ⟨rfl,hb⟩
        refine ⟨_,rfl,?_⟩
        replace ab:=mk0 (u_ ab hb)
        replace HB:=mk0 (bt_ (b_ HB) hb)
        (try clear hb)
        (try clear hk)
        (try clear hi)
        refine hK.out _ _ ⟨bk_ ab 0,((bc_ HB ai :)),((bc_ HB ah :))⟩ (fun hHeld=>?_)
        clear hK K
        refine norm_ (a':=?_) ?_ ?_
        rotate_left
        ·show Act.put _ (some 16) _=_
         simp only [z_]
         rfl
        refine pq_ HT_.out 6 17 (bt 27 127) (h:=?_)
        refine pq_ HT_.out 7 18 (bt 27 255) (h:=?_)
        refine uq_ HT_.out 8 19 (bt 27 511) (h:=?_)
        refine uq_ HT_.out 9 20 (bt 27 1023) (h:=?_)
        refine uq_ HT_.out 10 21 (bt 27 2047) (h:=?_)
        refine uq_ HT_.out 11 22 (bt 27 4095) (h:=?_)
        refine uq_ HT_.out 12 23 (bt 27 8191) (h:=?_)
        refine uq_ HT_.out 13 24 (bt 27 16383) (h:=?_)
        refine uq_ HT_.out 14 25 (bt 27 32767) (h:=?_)
        refine uq_ HT_.out 15 26 (bt 27 65535) (h:=?_)
        refine uq_ HT_.out 16 27 (bt 27 131071) (h:=?_)
        refine uq_ HT_.out 17 28 (bt 27 262143) (h:=?_)
        refine uq_ HT_.out 18 29 (bt 27 524287) (h:=?_)
        refine uq_ HT_.out 19 30 (bt 27 1048575) (h:=?_)
        refine uq_ HT_.out 20 31 (bt 27 2097151) (h:=?_)
        refine uq_ HT_.out 21 32 (bt 27 4194303) (h:=?_)
        refine uq_ HT_.out 22 33 (bt 27 8388607) (h:=?_)
        refine uq_ HT_.out 23 34 (bt 27 16777215) (h:=?_)
        refine uq_ HT_.out 24 35 (bt 27 33554431) (h:=?_)
        refine uq_ HT_.out 25 36 (bt 27 67108863) (h:=?_)
        refine pq_ HT_.out 26 37 (bt 27 134217727) (h:=?_)
        refine done_ (done_of HT_.out (by kernel_rfl)) ?_
        try go_wp2
        go_meet
        case rel=>exact ⟨_,(true),sm_,H',⟨by have:=aM.out;first|omega|exact Nat.le_refl _⟩,⟨h_ ab⟩,⟨b_ HB⟩⟩
      ·rw [if_neg c6] at H
       exact absurd H (by simp)
     case rest=>
      clear HC4
      obtain ⟨kq,az,rfl,HA,bh,ab,HB⟩:=hcut
      cases kq with
      | zero=>exact absurd HA.out (by simp [Fl.j1])
      | succ br=>
       have H:=HA.out
       clear HA
       simp only [Fl.j1] at H
       as_aux_lemma=>
        by_cases a4:az=true
        ·subst a4
         rw [if_pos rfl] at H
         obtain rfl:=Option.some.inj H
         go_wp2
         go_ret
         exact ⟨sa_,b_ HB⟩
        ·replace a4:=Bool.eq_false_iff.mpr a4
         subst a4
         rw [if_neg nf_] at H
         have H':=mk0 H
         clear H
         go_wp2
         go_roundg br
         case measure=>have:=aM.out;have:=bh.out;omega
         case rel=>exact ⟨(wrap64 (aa + 1)),sm_,H',⟨by have:=aM.out;have:=bh.out;omega⟩,⟨h_ ab⟩,⟨b_ HB⟩⟩
    ·rw [if_neg c3] at H
     have ba:=decide_eq_false c3
     clear c3
     replace H:=ob_ H
     obtain ⟨bi,bs,H⟩:=H
     try dsimp only at H
     obtain rfl:=Option.some.inj H
     obtain ⟨bj,bk⟩:=c1_ ab
     go_wp2_with (first|((with_reducible refine gate_callee (f:=53) rfl ?_);refine gL_ (some 39) Tryz.func53 #[.agg #[.slice A0_0 l0_0.length c0_0]] (h:=?_);(with_reducible refine (FY.calls k1 _ _ l0_0 bi _ ?side1 ?side2 bs.out).mono ?_);(case side1=>exact cb_ aw HB);(case side2=>exact a6.out);rintro e bB ⟨rfl,hb⟩;refine ⟨_,rfl,?_⟩;replace ab:=mk0 (u_ ab hb);replace HB:=mk0 (bt_ (b_ HB) hb);(try clear hb)))
     go_ret
     exact ⟨sa_,b_ HB⟩
mutual
def Fw.l0:Nat→List (S43)→Int→Option (Bool)
 | 0,_,_=>none
 | k + 1,b,a=>if a<(b.length:Int) then (Fw.j1 k b a (decide (a≤3))) else (Fw.j1 k b a false)
def Fw.j1:Nat→List (S43)→Int→Bool→Option (Bool)
 | 0,_,_,_=>none
 | k + 1,a,b,c=>if c=true then (if 0≤b then (if b<(a.length:Int) then ((Fl.f k ((rd_T43 a b).f0)).bind fun d=>(if d=true then (Fw.l0 k a (wrap64 (b + 1))) else (some false))) else (none)) else (none)) else (some (decide ((a.length:Int)≤3)))
end
def Fw.f (k:Nat) (l0:List (S43)):Option (Bool):=Fw.l0 k l0 0
theorem Fw.mono_l:∀ k,(∀ y0 y1,LeO (Fw.l0 k y0 y1) (Fw.l0 (k + 1) y0 y1))∧(∀ y0 y1 y2,LeO (Fw.j1 k y0 y1 y2) (Fw.j1 (k + 1) y0 y1 y2))
 | 0=>⟨fun _ _ r h=>by simp [Fw.l0] at h,fun _ _ _ r h=>by simp [Fw.j1] at h⟩
 | k + 1=>by
  obtain ⟨ih0,ih1⟩:=Fw.mono_l k
  have:=@Fl.mono
  refine ⟨?_,?_⟩
  all_goals (intros;first|unfold Fw.l0|unfold Fw.j1)
  all_goals exact mz_
theorem Fw.mono:∀ a0 k,LeO (Fw.f k a0) (Fw.f (k + 1) a0):=by
 intro a0 k
 obtain ⟨ih0,ih1⟩:=Fw.mono_l k
 have:=@Fl.mono
 unfold Fw.f
 exact mz_
theorem Fw.calls (k:Nat) (A0:Option Addr) (c0:Nat) (l0:List (S43)) (r:Bool) (w:World) (hr0:Kd.C k43 w A0 l0.length l0) (hc0:l0.length≤c0) (h:Fw.f k l0=some r) :
 Calls Tryz.prog 6 #[.slice A0 l0.length c0] w fun e w'=>e = .returned (.bool r)∧Below w.heap.size w w':=by
 have hu43:=Tryz.underlying43
 have HR0:=mk0 hr0
 have HC0:=mk0 hc0
 clear hr0 hc0
 have HB:=mk0 (Below.refl w.heap.size w)
 have H:(Fw.l0 k l0 0)=some r:=h
 clear h
 have H':=mk0 H
 clear H
 go_enter Tryz.func6,Tryz.ntmps6
 go_wp2
 go_loopg [3] k (fun kq v3 w'=>∃ (aa:Int),v3 = .int .i64 aa∧Fc (Fw.l0 kq l0 aa=some r)∧Fc (kq≤k)∧Fc (Below w.heap.size w w'))
 case atStart=>exact ⟨(0),sm_,H',⟨Nat.le_refl _⟩,⟨b_ HB⟩⟩
 case round=>
  clear H'
  obtain ⟨aa,rfl,HA,an,HB⟩:=hrel
  cases gk with
  | zero=>exact absurd HA.out (by simp [Fw.l0])
  | succ k1=>
   have H:=HA.out
   clear HA
   simp only [Fw.l0] at H
   as_aux_lemma=>
    have HC2:=mk0 H
    clear H
    go_upto_region 2 with (fail)
    go_cut [11] (fun v11 wc=>∃ (kq:Nat) (ai:Bool),v11 = .bool ai∧Fc (Fw.j1 kq l0 aa ai=some r)∧Fc (kq≤k1)∧Fc (Below w.heap.size w wc))
    case first=>
     have H:=HC2.out
     clear HC2
     by_cases c3:aa<(l0.length:Int)
     ·rw [if_pos c3] at H
      have al:=decide_eq_true c3
      clear c3
      (first|rw [al]|(simp only [i64_w,i32_w];rw [al])|skip)
      have H':=mk0 H
      clear H
      go_wp2
      go_meet
      case rel=>exact ⟨_,(decide (aa≤3)),sm_,H',⟨by have:=an.out;first|omega|exact Nat.le_refl _⟩,⟨b_ HB⟩⟩
     ·rw [if_neg c3] at H
      have al:=decide_eq_false c3
      clear c3
      (first|rw [al]|(simp only [i64_w,i32_w];rw [al])|skip)
      have H':=mk0 H
      clear H
      go_wp2
      go_meet
      case rel=>exact ⟨_,(false),sm_,H',⟨by have:=an.out;first|omega|exact Nat.le_refl _⟩,⟨b_ HB⟩⟩
    case rest=>
     clear HC2
     obtain ⟨kq,ai,rfl,HA,aq,HB⟩:=hcut
     cases kq with
     | zero=>exact absurd HA.out (by simp [Fw.j1])
     | succ ao=>
      have H:=HA.out
      clear HA
      simp only [Fw.j1] at H
      as_aux_lemma=>
       by_cases c4:ai=true
       ·subst c4
        rw [if_pos rfl] at H
        by_cases c5:0≤aa
        ·rw [if_pos c5] at H
         have au:=decide_eq_true c5
         clear c5
         by_cases c6:aa<(l0.length:Int)
         ·rw [if_pos c6] at H
          have av:=decide_eq_true c6
          clear c6
          replace H:=ob_ H
          obtain ⟨ar,A7,H⟩:=H
          try dsimp only at H
          by_cases c8:ar=true
          ·subst c8
           rw [if_pos rfl] at H
           have H':=mk0 H
           clear H
           have ae:0≤(aa:Int):=od_
           have af:aa<(l0.length:Int):=od_
           obtain ⟨ap,aj,ak,am,ab,ac,ad⟩:=at_T43 HR0.out aa ae af
           cases am
           replace ab:=(bc_ HB ab :)
           have ag:=mk0 ad
           have ah:=mk0 ac
           clear ad ac
           replace ae:=eq_true ae
           replace af:=eq_true af
           go_wp2_with (first|((with_reducible refine gate_callee (f:=28) rfl ?_);refine gL_ (some 18) Tryz.func28 #[.agg #[.slice aj ((rd_T43 l0 aa).f0).length ak]] (h:=?_);(with_reducible refine (Fl.calls ao _ _ ((rd_T43 l0 aa).f0) true _ ?side1 ?side2 A7.out).mono ?_);(case side1=>exact cb_ ag HB);(case side2=>exact ah.out);rintro e w9 ⟨rfl,hb⟩;refine ⟨_,rfl,?_⟩;replace HB:=mk0 (bt_ (b_ HB) hb);(try clear hb)))
           go_roundg ao
           case measure=>have:=an.out;have:=aq.out;omega
           case rel=>exact ⟨(wrap64 (aa + 1)),sm_,H',⟨by have:=an.out;have:=aq.out;omega⟩,⟨b_ HB⟩⟩
          ·replace c8:=Bool.eq_false_iff.mpr c8
           subst c8
           rw [if_neg nf_] at H
           obtain rfl:=Option.some.inj H
           have ae:0≤(aa:Int):=od_
           have af:aa<(l0.length:Int):=od_
           obtain ⟨ap,aj,ak,am,ab,ac,ad⟩:=at_T43 HR0.out aa ae af
           cases am
           replace ab:=(bc_ HB ab :)
           have ag:=mk0 ad
           have ah:=mk0 ac
           clear ad ac
           replace ae:=eq_true ae
           replace af:=eq_true af
           go_wp2_with (first|((with_reducible refine gate_callee (f:=28) rfl ?_);refine gL_ (some 18) Tryz.func28 #[.agg #[.slice aj ((rd_T43 l0 aa).f0).length ak]] (h:=?_);(with_reducible refine (Fl.calls ao _ _ ((rd_T43 l0 aa).f0) false _ ?side1 ?side2 A7.out).mono ?_);(case side1=>exact cb_ ag HB);(case side2=>exact ah.out);rintro e aw ⟨rfl,hb⟩;refine ⟨_,rfl,?_⟩;replace HB:=mk0 (bt_ (b_ HB) hb);(try clear hb)))
           go_ret
           exact ⟨sa_,b_ HB⟩
         ·rw [if_neg c6] at H
          exact absurd H (by simp)
        ·rw [if_neg c5] at H
         exact absurd H (by simp)
       ·replace c4:=Bool.eq_false_iff.mpr c4
        subst c4
        rw [if_neg nf_] at H
        obtain rfl:=Option.some.inj H
        go_wp2
        go_ret
        exact ⟨sa_,b_ HB⟩
def FA.l0:Nat→List (S72)→List (S72)→Int→Option ((List (S72)))
 | 0,_,_,_=>none
 | k + 1,b,c,a=>if a<(b.length:Int) then (if 0≤a then (if c.length<2932031007402 then (FA.l0 k b (c ++ [(⟨(rd_T72 b a).f0,(rd_T72 b a).f1,(rd_T72 b a).f2,(rd_T72 b a).f3⟩:S72)]) (wrap64 (a + 1))) else (none)) else (none)) else (some c)
def FA.f (k:Nat) (l0:List (S72)):Option ((List (S72))):=FA.l0 k l0 ([]:List (S72)) 0
theorem FA.mono_l:∀ k,(∀ y0 y1 y2,LeO (FA.l0 k y0 y1 y2) (FA.l0 (k + 1) y0 y1 y2))
 | 0=>fun _ _ _ r h=>by simp [FA.l0] at h
 | k + 1=>by
  have ih0:=FA.mono_l k
  all_goals (intros;first|unfold FA.l0)
  all_goals exact mz_
theorem FA.mono:∀ a0 k,LeO (FA.f k a0) (FA.f (k + 1) a0):=by
 intro a0 k
 have ih0:=FA.mono_l k
 unfold FA.f
 exact mz_
theorem FA.calls (k:Nat) (A0:Option Addr) (c0:Nat) (l0:List (S72)) (r:List (S72)) (w:World) (hr0:Kd.C k72 w A0 l0.length l0) (hc0:l0.length≤c0) (h:FA.f k l0=some r) :
 Calls Tryz.prog 29 #[.slice A0 l0.length c0] w fun e w'=>∃ v0_:Value,e = .returned (v0_)∧Kd.R k72 72 w' w.heap.size (fun _=>True) v0_ r∧Below w.heap.size w w':=by
 have hu72:=Tryz.underlying72
 have HR0:=mk0 hr0
 have HC0:=mk0 hc0
 clear hr0 hc0
 have HB:=mk0 (Below.refl w.heap.size w)
 have H:(FA.l0 k l0 ([]:List (S72)) 0)=some r:=h
 clear h
 have H':=mk0 H
 clear H
 go_enter Tryz.func29,Tryz.ntmps29
 go_wp2
 go_loopg [3,4] k (fun kq v3 v4 w'=>∃ (ab:List (S72)) (aa:Int),v4 = .int .i64 aa∧Fc (FA.l0 kq l0 ab aa=some r)∧Fc (kq≤k)∧Fc (Kd.R k72 72 w' w.heap.size (fun _=>True) v3 ab)∧Fc (Below w.heap.size w w'))
 case atStart=>exact ⟨(([]:List (S72))),(0),sm_,H',⟨Nat.le_refl _⟩,⟨nl_⟩,⟨b_ HB⟩⟩
 case round=>
  clear H'
  obtain ⟨ab,aa,rfl,HA,an,ah,HB⟩:=hrel
  cases gk with
  | zero=>exact absurd HA.out (by simp [FA.l0])
  | succ k1=>
   have H:=HA.out
   clear HA
   simp only [FA.l0] at H
   as_aux_lemma=>
    by_cases c2:aa<(l0.length:Int)
    ·rw [if_pos c2] at H
     have ao:=decide_eq_true c2
     clear c2
     by_cases c3:0≤aa
     ·rw [if_pos c3] at H
      have ar:=decide_eq_true c3
      clear c3
      by_cases c4:ab.length<2932031007402
      ·rw [if_pos c4] at H
       have LMc4:=mk0 c4
       clear c4
       obtain ⟨ak,ag⟩:∃ y_:List (S72),y_=(ab ++ [(⟨(rd_T72 l0 aa).f0,(rd_T72 l0 aa).f1,(rd_T72 l0 aa).f2,(rd_T72 l0 aa).f3⟩:S72)]):=⟨_,rfl⟩
       replace H:(FA.l0 k1 l0 ak (wrap64 (aa + 1)))=some r:=rp_ H ag
       have al:=mk0 ag
       clear ag
       have H':=mk0 H
       clear H
       have ai:0≤(aa:Int):=od_
       have aj:aa<(l0.length:Int):=od_
       obtain ⟨aq,ap,ac,ad,ae,af⟩:=at_T72 HR0.out aa ai aj
       cases ap
       replace ac:=(bc_ HB ac :)
       replace ad:=(bc_ HB ad :)
       replace ae:=(bc_ HB ae :)
       replace af:=(bc_ HB af :)
       replace ai:=eq_true ai
       replace aj:=eq_true aj
       go_wp2_with (first|((with_reducible refine gate_builtin (b:=.append) (xs:=#[.tmp 11,.tmp 16]) rfl ?_);at_builtin;refine Kd.R_append k72 (w0:=w) w.heap.size rfl (.tmp 11) (.tmp 16) 32 72 (.agg #[(.int .i64 0),(.string ⟨#[]⟩),(.string ⟨#[]⟩),(.bool false)]) 48 rfl Tryz.underlying32 info72 rfl (by decide) (by omega) u3 ab (⟨(rd_T72 l0 aa).f0,(rd_T72 l0 aa).f1,(rd_T72 l0 aa).f2,(rd_T72 l0 aa).f3⟩:S72) [.int .i64 ((rd_T72 l0 aa).f0),.string ((rd_T72 l0 aa).f1),.string ((rd_T72 l0 aa).f2),.bool ((rd_T72 l0 aa).f3)] (fun _=>True) (fun _=>False) rfl rfl ?aP (fun _ hk=>hk.elim) ?aF ?aO ?aB ?aS ?aL ?_;(case aP=>exact k72_mkM _ _ _ (⟨(rd_T72 l0 aa).f0,(rd_T72 l0 aa).f1,(rd_T72 l0 aa).f2,(rd_T72 l0 aa).f3⟩:S72));(case aB=>exact (b_ HB));(case aF=>exact (fun _ _=>trivial));(case aO=>exact (r_ ah));(case aS=>exact (bz_ (b_ HB)));(case aL=>have:=LMc4.out;omega);intro au w5 ho hb hg hat;rw [← al.out] at ho;replace HB:=mk0 (hb);have am:=mk0 (ho);clear ah;clear ho hb hg hat))
       go_roundg k1
       case measure=>have:=an.out;omega
       case rel=>exact ⟨(ak),(wrap64 (aa + 1)),sm_,H',⟨by have:=an.out;omega⟩,⟨r2_ am.out⟩,⟨b_ HB⟩⟩
      ·rw [if_neg c4] at H
       exact absurd H (by simp)
     ·rw [if_neg c3] at H
      exact absurd H (by simp)
    ·rw [if_neg c2] at H
     have ao:=decide_eq_false c2
     clear c2
     obtain rfl:=Option.some.inj H
     go_wp2
     go_ret
     exact ⟨_,sa_,by (with_reducible repeat (first|apply Ra_|apply Rn_|apply Rd_));exact ah.out,b_ HB⟩
def FV.l0:Nat→List Int→List Int→Int→Option (List Int)
 | 0,_,_,_=>none
 | k + 1,b,c,a=>if a<(b.length:Int) then (if 0≤a then (if c.length<17592186044416 then (FV.l0 k b (c ++ [rd b a]) (wrap64 (a + 1))) else (none)) else (none)) else (some c)
def FV.f (k:Nat) (l0:List Int):Option (List Int):=FV.l0 k l0 ([]:List Int) 0
theorem FV.mono_l:∀ k,(∀ y0 y1 y2,LeO (FV.l0 k y0 y1 y2) (FV.l0 (k + 1) y0 y1 y2))
 | 0=>fun _ _ _ r h=>by simp [FV.l0] at h
 | k + 1=>by
  have ih0:=FV.mono_l k
  all_goals (intros;first|unfold FV.l0)
  all_goals exact mz_
theorem FV.mono:∀ a0 k,LeO (FV.f k a0) (FV.f (k + 1) a0):=by
 intro a0 k
 have ih0:=FV.mono_l k
 unfold FV.f
 exact mz_
theorem FV.calls (k:Nat) (A0:Option Addr) (c0:Nat) (l0:List Int) (r:List Int) (w:World) (hr0:Kd.C (Kd.int .i64) w A0 l0.length l0) (hc0:l0.length≤c0) (h:FV.f k l0=some r) :
 Calls Tryz.prog 30 #[.slice A0 l0.length c0] w fun e w'=>∃ v0_:Value,e = .returned (v0_)∧Kd.R (Kd.int .i64) 3 w' w.heap.size (fun _=>True) v0_ r∧Below w.heap.size w w':=by
 have HR0:=mk0 hr0
 have HC0:=mk0 hc0
 clear hr0 hc0
 have HB:=mk0 (Below.refl w.heap.size w)
 have H:(FV.l0 k l0 ([]:List Int) 0)=some r:=h
 clear h
 have H':=mk0 H
 clear H
 go_enter Tryz.func30,Tryz.ntmps30
 go_wp2
 go_loopg [3,4] k (fun kq v3 v4 w'=>∃ (ab:List Int) (aa:Int),v4 = .int .i64 aa∧Fc (FV.l0 kq l0 ab aa=some r)∧Fc (kq≤k)∧Fc (Kd.R (Kd.int .i64) 3 w' w.heap.size (fun _=>True) v3 ab)∧Fc (Below w.heap.size w w'))
 case atStart=>exact ⟨(([]:List Int)),(0),sm_,H',⟨Nat.le_refl _⟩,⟨nl_⟩,⟨b_ HB⟩⟩
 case round=>
  clear H'
  obtain ⟨ab,aa,rfl,HA,ak,ae,HB⟩:=hrel
  cases gk with
  | zero=>exact absurd HA.out (by simp [FV.l0])
  | succ k1=>
   have H:=HA.out
   clear HA
   simp only [FV.l0] at H
   as_aux_lemma=>
    by_cases c2:aa<(l0.length:Int)
    ·rw [if_pos c2] at H
     have al:=decide_eq_true c2
     clear c2
     by_cases c3:0≤aa
     ·rw [if_pos c3] at H
      have ao:=decide_eq_true c3
      clear c3
      by_cases c4:ab.length<17592186044416
      ·rw [if_pos c4] at H
       have LMc4:=mk0 c4
       clear c4
       obtain ⟨ah,ad⟩:∃ y_:List Int,y_=(ab ++ [rd l0 aa]):=⟨_,rfl⟩
       replace H:(FV.l0 k1 l0 ah (wrap64 (aa + 1)))=some r:=rp_ H ad
       have ai:=mk0 ad
       clear ad
       have H':=mk0 H
       clear H
       have af:0≤(aa:Int):=od_
       have ag:aa<(l0.length:Int):=od_
       obtain ⟨an,am,ac⟩:=Kd.at_int HR0.out aa af ag
       cases am
       replace ac:=(bc_ HB ac :)
       replace af:=eq_true af
       replace ag:=eq_true ag
       go_wp2_with (first|((with_reducible refine gate_builtin (b:=.append) (xs:=#[.tmp 11,.tmp 16]) rfl ?_);at_builtin;refine Kd.R_append (Kd.int .i64) (w0:=w) w.heap.size rfl (.tmp 11) (.tmp 16) 24 3 (.int .i64 0) 8 rfl Tryz.underlying24 info3 rfl (by decide) (by omega) u3 ab (rd l0 aa) [.int .i64 (rd l0 aa)] (fun _=>True) (fun _=>False) rfl rfl ?aP (fun _ hk=>hk.elim) ?aF ?aO ?aB ?aS ?aL ?_;(case aP=>exact rfl);(case aB=>exact (b_ HB));(case aF=>exact (fun _ _=>trivial));(case aO=>exact (r_ ae));(case aS=>exact (bz_ (b_ HB)));(case aL=>have:=LMc4.out;omega);intro ap w5 ho hb hg hat;rw [← ai.out] at ho;replace HB:=mk0 (hb);have aj:=mk0 (ho);clear ae;clear ho hb hg hat))
       go_roundg k1
       case measure=>have:=ak.out;omega
       case rel=>exact ⟨(ah),(wrap64 (aa + 1)),sm_,H',⟨by have:=ak.out;omega⟩,⟨r2_ aj.out⟩,⟨b_ HB⟩⟩
      ·rw [if_neg c4] at H
       exact absurd H (by simp)
     ·rw [if_neg c3] at H
      exact absurd H (by simp)
    ·rw [if_neg c2] at H
     have al:=decide_eq_false c2
     clear c2
     obtain rfl:=Option.some.inj H
     go_wp2
     go_ret
     exact ⟨_,sa_,by (with_reducible repeat (first|apply Ra_|apply Rn_|apply Rd_));exact ae.out,b_ HB⟩
def Gn.f (k:Nat) (l0_0:List (S72)) (l0_1:List Int):Option ((List (S72))×List Int):=(FA.f k l0_0).bind fun a=>((FV.f k l0_1).bind fun b=>(some (a,b)))
theorem Gn.mono:∀ a0 a1 k,LeO (Gn.f k a0 a1) (Gn.f (k + 1) a0 a1):=by
 intro a0 a1 k
 have:=@FV.mono
 have:=@FA.mono
 unfold Gn.f
 exact mz_
theorem Gn.calls (k:Nat) (A0_0:Option Addr) (c0_0:Nat) (l0_0:List (S72)) (A0_1:Option Addr) (c0_1:Nat) (l0_1:List Int) (r1:List (S72)) (r2:List Int) (w:World) (hr0_0:Kd.C k72 w A0_0 l0_0.length l0_0) (hc0_0:l0_0.length≤c0_0) (hr0_1:Kd.C (Kd.int .i64) w A0_1 l0_1.length l0_1) (hc0_1:l0_1.length≤c0_1) (h:Gn.f k l0_0 l0_1=some (r1,r2)) :
 Calls Tryz.prog 7 #[.agg #[.slice A0_0 l0_0.length c0_0,.slice A0_1 l0_1.length c0_1]] w fun e w'=>∃ v0_ v1_:Value,e = .returned (.agg #[v0_,v1_])∧Kd.R k72 72 w' w.heap.size (fun _=>True) v0_ r1∧Kd.R (Kd.int .i64) 3 w' w.heap.size (fun _=>True) v1_ r2∧Below w.heap.size w w':=by
 have hu34:=Tryz.underlying34
 have aA:=mk0 hr0_0
 have aC:=mk0 hc0_0
 clear hr0_0 hc0_0
 have aD:=mk0 hr0_1
 have aE:=mk0 hc0_1
 clear hr0_1 hc0_1
 have HB:=mk0 (Below.refl w.heap.size w)
 have H:((FA.f k l0_0).bind fun af=>((FV.f k l0_1).bind fun ag=>(some (af,ag))))=some (r1,r2):=h
 clear h
 replace H:=ob_ H
 obtain ⟨af,A2,H⟩:=H
 try dsimp only at H
 replace H:=ob_ H
 obtain ⟨ag,A3,H⟩:=H
 try dsimp only at H
 simp only [Option.some.injEq,Prod.mk.injEq] at H
 obtain ⟨rfl,rfl⟩:=H
 go_enter Tryz.func7,Tryz.ntmps7
 go_wp2_with (first|((with_reducible refine gate_dst (N:=1) rfl ?_);refine bx_ (N:=1) (cs:=#[.slice A0_0 l0_0.length c0_0,.slice A0_1 l0_1.length c0_1]) (t:=34) (h:=?_);intro bk hg w4 hbox hb;have ny2_:=mk0 (gz_ HB hg);have ay:=mk0 (gz_ HB hg);replace HB:=mk0 (bt_ (b_ HB) hb);have aa:=mk0 (hbox);have bl:=ny2_;have bm:=ay;clear ny2_ ay;clear hb hbox hg)|((with_reducible refine gate_dst (N:=2) rfl ?_);refine bx_ (N:=2) (cs:=#[.slice none 0 0,.slice none 0 0]) (t:=34) (h:=?_);intro ah hg w5 hbox hb;have ay:=mk0 (gz_ HB hg);have az:=mk0 (gz_ HB hg);have au:=mk0 (ne1_ aa hg);have av:=mk0 (ne2_ aa hg);replace aa:=mk0 (u_ aa hb);replace HB:=mk0 (bt_ (b_ HB) hb);have ab:=mk0 (hbox);have bn:=az;have ao:=au;have ap:=av;clear ay az au av hb hbox hg;have br:=ao.out;have bs:=ap.out;obtain ⟨bg,bh,bi,bj⟩:=c2_ aa)|((with_reducible refine gate_dst (N:=3) rfl ?_);refine bx_ (N:=3) (cs:=#[.slice none 0 0,.slice none 0 0]) (t:=34) (h:=?_);intro ai hg w8 hbox hb;have az:=mk0 (gz_ HB hg);have au:=mk0 (gz_ HB hg);have av:=mk0 (ne1_ aa hg);have aG:=mk0 (ne2_ aa hg);have aH:=mk0 (ne1_ ab hg);have aI:=mk0 (ne2_ ab hg);replace aa:=mk0 (u_ aa hb);replace ab:=mk0 (u_ ab hb);replace HB:=mk0 (bt_ (b_ HB) hb);have ad:=mk0 (hbox);have bo:=au;have ae:=av;have aq:=aG;have ac:=aH;have ar:=aI;clear az au av aG aH aI hb hbox hg;have bu:=aq.out;have bv:=ae.out;have bp:=ar.out;have bq:=ac.out;obtain ⟨aJ,aK,aM,aN⟩:=c2_ ad;obtain ⟨aQ,aR,aT,aU⟩:=c2_ aa)|((with_reducible refine gate_callee (f:=29) rfl ?_);refine gL_ (some 7) Tryz.func29 #[.slice A0_0 l0_0.length c0_0] (h:=?_);(with_reducible refine (FA.calls k _ _ l0_0 af _ ?side1 ?side2 A2.out).mono ?_);(case side1=>exact Kd.C_below aA.out (b_ HB));(case side2=>exact aC.out);rintro e bz ⟨bw,rfl,ho0,hb⟩;refine ⟨_,rfl,?_⟩;have aw:=mk0 (Kd.R_lower ho0 (bz_ (b_ HB)));replace aa:=mk0 (blk_below (fa_ (fa_ (h_ aa) ae.out) ae.out) hb);replace ab:=mk0 (blk_below (fa_ (fa_ (h_ ab) ac.out) ac.out) hb);replace ad:=mk0 (blk_below (g:=ai) (o:=.cells #[.slice A0_0 l0_0.length c0_0,.slice A0_1 l0_1.length c0_1] 34 (0,0)) (pu_ (cs:=#[.slice A0_0 l0_0.length c0_0,.slice none 0 0]) (pu_ (cs:=#[.slice none 0 0,.slice none 0 0]) (h_ ad))) hb);replace HB:=mk0 (bt_ (b_ HB) hb);have aj:=aw;clear aw;(try clear hb);(try clear ho0);obtain ⟨ak,al,aV⟩:=Kd.R_slice aj.out;subst aV;obtain ⟨aW,aX,aY,aZ⟩:=c2_ ad;obtain ⟨a2,a3,a4,a5⟩:=c2_ aa)|((with_reducible refine gate_callee (f:=30) rfl ?_);refine gL_ (some 11) Tryz.func30 #[.slice A0_1 l0_1.length c0_1] (h:=?_);(with_reducible refine (FV.calls k _ _ l0_1 ag _ ?side1 ?side2 A3.out).mono ?_);(case side1=>exact Kd.C_below aD.out (b_ HB));(case side2=>exact aE.out);rintro e bA ⟨bx,rfl,ho0,hb⟩;refine ⟨_,rfl,?_⟩;have aw:=mk0 (Kd.R_below (r2_ (Kd.R_mono (Kd.R_far (p:=⟨ai,0,none⟩) (Kd.R_types aj.out ad.out (by decide)) (fun _ hk=>hk.2) (.slice ak af.length al)) (fun _ h_=>h_.1))) hb);have a6:=mk0 (Kd.R_lower ho0 (bz_ (b_ HB)));replace aa:=mk0 (blk_below (fa_ (h_ aa) ae.out) hb);replace ab:=mk0 (blk_below (fa_ (h_ ab) ac.out) hb);replace ad:=mk0 (blk_below (g:=ai) (o:=.cells #[.slice ak af.length al,.slice A0_1 l0_1.length c0_1] 34 (0,0)) (pu_ (cs:=#[.slice A0_0 l0_0.length c0_0,.slice A0_1 l0_1.length c0_1]) (h_ ad)) hb);replace HB:=mk0 (bt_ (b_ HB) hb);clear aj;have aj:=aw;have ax:=a6;clear aw a6;(try clear hb);(try clear ho0);obtain ⟨am,an,a7⟩:=Kd.R_slice ax.out;subst a7;obtain ⟨a8,a9,ba,bb⟩:=c2_ ad;obtain ⟨bc,bd,be,bf⟩:=c2_ ab))
 refine bodyPost_ret (results_cell_row rfl _ _ ah 34 #[.slice ak af.length al,.slice am ag.length an] (0,0) _ rfl (pu_ (cs:=#[.slice ak af.length al,.slice none 0 0]) (pu_ (cs:=#[.slice none 0 0,.slice none 0 0]) (fa_ (h_ ab) ac.out))) Tryz.underlying34 rfl (by kernel_rfl)) rfl ?_
 exact ⟨_,_,sa_,by (with_reducible repeat (first|apply Ra_|apply Rn_|apply Rd_));exact Kd.R_mono (Kd.R_far (p:=⟨ah,1,none⟩) (Kd.R_far (p:=⟨ah,0,none⟩) (Kd.R_far (p:=⟨ai,1,none⟩) (Kd.R_types (Kd.R_types aj.out ad.out (by decide)) ab.out (by decide)) (fun _ hk=>hk.1.2) (.slice am ag.length an)) (fun _ hk=>hk.2) (.slice ak af.length al)) (fun _ hk=>hk.2) (.slice am ag.length an)) (fun _ hk=>trivial),by (with_reducible repeat (first|apply Ra_|apply Rn_|apply Rd_));exact Kd.R_mono (Kd.R_far (p:=⟨ah,1,none⟩) (Kd.R_far (p:=⟨ah,0,none⟩) (Kd.R_far (p:=⟨ai,1,none⟩) (Kd.R_types (Kd.R_types ax.out ad.out (by decide)) ab.out (by decide)) (fun _ hk=>hk.1.2) (.slice am ag.length an)) (fun _ hk=>hk.2) (.slice ak af.length al)) (fun _ hk=>hk.2) (.slice am ag.length an)) (fun _ hk=>trivial),b_ HB⟩
end Go.Proofs.YtbaecdcfefmcgaaGreat.PVrd
