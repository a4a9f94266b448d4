import Derived.Shelf.SlSorted.Search
import Derived.Test.YtbaecdcfefmcgaaGreatPVrdx0
import Derived.Test.YtbaecdcfefmcgaaGreatPVrdx4
namespace Go.Proofs.YtbaecdcfefmcgaaGreat.PVrd
open Go.RowKit Go.Proofs.YtbaecdcfefmcgaaGreatW.PrintWords Go.Proofs.YtbaecdcfefmcgaaGreatW.PrintLast Go.Proofs.YtbaecdcfefmcgaaGreatW.PrintMore
attribute [local go_sem] max2_int min2_int max_two min_two max_three min_three max_four min_four
set_option maxHeartbeats 8000000
set_option maxRecDepth 100000
set_option linter.unusedVariables false
set_option linter.unusedSimpArgs false
mutual
def Fk.l0:Nat→List (S83)→Int→Int→List (S83)→Option (Bool)
 | 0,_,_,_,_=>none
 | k + 1,b,d,a,c=>if a<d then (if 0≤a then (if a<(b.length:Int) then ((Fi.f k ((rd_T83 b a).f0) ((rd_T83 b a).f1)).bind fun e=>(if e=true then (if a > 0 then (if 0≤(wrap64 (a - 1)) then (if (wrap64 (a - 1))<(c.length:Int) then (Fk.j1 k b d a (!(Op.bytesLess (((rd_T83 c (wrap64 (a - 1))).f0).toList) (((rd_T83 b a).f0).toList))) c) else (none)) else (none)) else (Fk.j1 k b d a false c)) else (Fk.j1 k b d a true c))) else (none)) else (none)) else ((FX.f k c).bind fun g=>(some (decide (g≤64))))
def Fk.j1:Nat→List (S83)→Int→Int→Bool→List (S83)→Option (Bool)
 | 0,_,_,_,_,_=>none
 | k + 1,a,b,c,d,e=>if d=true then (some false) else (Fk.l0 k a b (wrap64 (c + 1)) e)
end
def Fk.f (k:Nat) (l0_0:List (S83)):Option (Bool):=Fk.l0 k l0_0 (l0_0.length:Int) 0 l0_0
theorem Fk.mono_l:∀ k,(∀ y0 y1 y2 y3,LeO (Fk.l0 k y0 y1 y2 y3) (Fk.l0 (k + 1) y0 y1 y2 y3))∧(∀ y0 y1 y2 y3 y4,LeO (Fk.j1 k y0 y1 y2 y3 y4) (Fk.j1 (k + 1) y0 y1 y2 y3 y4))
 | 0=>⟨fun _ _ _ _ r h=>by simp [Fk.l0] at h,fun _ _ _ _ _ r h=>by simp [Fk.j1] at h⟩
 | k + 1=>by
  obtain ⟨ih0,ih1⟩:=Fk.mono_l k
  have:=@Fi.mono
  have:=@FX.mono
  refine ⟨?_,?_⟩
  all_goals (intros;first|unfold Fk.l0|unfold Fk.j1)
  all_goals exact mz_
theorem Fk.mono:∀ a0 k,LeO (Fk.f k a0) (Fk.f (k + 1) a0):=by
 intro a0 k
 obtain ⟨ih0,ih1⟩:=Fk.mono_l k
 have:=@Fi.mono
 have:=@FX.mono
 unfold Fk.f
 exact mz_
def Fk.T4:Bool×List (List Nat×List Nat):=(true,[([],[]),([0],[0]),([1],[1]),([2,1],[2]),([3],[3]),([4,3],[3,4]),([5,3,3],[3,5]),([6],[6]),([7,6],[6,7]),([6],[6]),([9,6],[6,9]),([6],[6]),([11,6],[6,11]),([10,12,6],[6,10,12]),([13,6],[6,13]),([14,6],[6,14]),([8,15,6],[6,8,15]),([6,16,3],[3,6,16]),([3,17],[3,17])])
def Fk.B4:List Nat:=[0,1,3,7,15,31,63,127,255,127,639,127,2175,7807,15999,32383,65535,131071,262143]
theorem Fk.tab4:rtab .any (opsOf Tryz.f58 4)=Fk.T4:=by kernel_rfl
theorem Fk.bits4:waitsOk Fk.T4.2 Fk.B4=true:=by kernel_rfl
theorem Fk.calls (k:Nat) (A0_0:Option Addr) (c0_0:Nat) (l0_0:List (S83)) (r:Bool) (w:World) (hr0_0:Kd.C k83 w A0_0 l0_0.length l0_0) (hc0_0:l0_0.length≤c0_0) (h:Fk.f k l0_0=some r) :
 Calls Tryz.prog 58 #[.agg #[.slice A0_0 l0_0.length c0_0]] w fun e w'=>e = .returned (.bool r)∧Below w.heap.size w w':=by
 have hu43:=Tryz.underlying43
 have hu83:=Tryz.underlying83
 have aD:=mk0 hr0_0
 have a2:=mk0 hc0_0
 clear hr0_0 hc0_0
 have HB:=mk0 (Below.refl w.heap.size w)
 have H:(Fk.l0 k l0_0 (l0_0.length:Int) 0 l0_0)=some r:=h
 clear h
 have H':=mk0 H
 clear H
 go_enter Tryz.func58,Tryz.ntmps58
 go_wp2_with (first|((with_reducible refine gate_dst (N:=1) rfl ?_);refine bx_ (N:=1) (cs:=#[.slice A0_0 l0_0.length c0_0]) (t:=43) (h:=?_);intro al hg w2 hbox hb;have ny2_:=mk0 (gz_ HB hg);have aQ:=mk0 (gz_ HB hg);replace HB:=mk0 (bt_ (b_ HB) hb);have ab:=mk0 (hbox);have bh:=ny2_;have bi:=aQ;clear ny2_ aQ hb hbox hg;obtain ⟨aR,aS⟩:=c1_ ab))
 go_loopg [8] k (fun kq v8 w'=>∃ (aa:Int),v8 = .int .i64 aa∧Fc (Fk.l0 kq l0_0 (l0_0.length:Int) aa l0_0=some r)∧Fc (kq≤k)∧Fc (w'.heap[al]? = some (.cells #[(.slice A0_0 l0_0.length c0_0)] 43 (0,0)))∧Fc (Below w.heap.size w w'))
 case atStart=>exact ⟨(0),sm_,H',⟨Nat.le_refl _⟩,⟨h_ ab⟩,⟨b_ HB⟩⟩
 case round=>
  clear H'
  try clear aR
  try clear aS
  obtain ⟨aa,rfl,HA,aI,ab,HB⟩:=hrel
  cases gk with
  | zero=>exact absurd HA.out (by simp [Fk.l0])
  | succ k1=>
   have H:=HA.out
   clear HA
   simp only [Fk.l0] at H
   as_aux_lemma=>
    by_cases c4:aa<(l0_0.length:Int)
    ·rw [if_pos c4] at H
     have a1:=decide_eq_true c4
     clear c4
     by_cases c5:0≤aa
     ·rw [if_pos c5] at H
      have a4:=decide_eq_true c5
      clear c5
      by_cases c6:aa<(l0_0.length:Int)
      ·rw [if_pos c6] at H
       have a5:=decide_eq_true c6
       clear c6
       have HC7:=mk0 H
       clear H
       have aF:0≤(aa:Int):=od_
       have aG:aa<(l0_0.length:Int):=od_
       obtain ⟨ai,ae,af,a6,am,an,ax,ay⟩:=at_T83 aD.out aa aF aG
       cases a6
       replace am:=(bc_ HB am :)
       replace an:=(bc_ HB an :)
       have ao:=mk0 ay
       have ap:=mk0 ax
       clear ay ax
       replace aF:=eq_true aF
       replace aG:=eq_true aG
       go_upto_region 4 with (first|((with_reducible refine gate_dst (N:=4) rfl ?_);refine bx_ (N:=4) (cs:=#[.string (⟨#[]⟩:ByteArray),.slice none 0 0]) (t:=83) (h:=?_);intro ad hg w8 hbox hb;have aQ:=mk0 (gz_ HB hg);have a7:=mk0 (gz_ HB hg);have a8:=mk0 (ne1_ ab hg);have a9:=mk0 (ne2_ ab hg);replace ab:=mk0 (u_ ab hb);replace HB:=mk0 (bt_ (b_ HB) hb);have ac:=mk0 (hbox);have bj:=a7;have ag:=a8;have aE:=a9;clear aQ a7 a8 a9 hb hbox hg;have br:=aE.out;have bs:=ag.out;obtain ⟨aJ,aK,aL,aM⟩:=c2_ ac))
       (try simp only [Act.put,List.setIfInBounds_toArray,List.set_cons_zero,List.set_cons_succ])
       go_cut [31] (fun v31 wc=>∃ (kq:Nat) (aw:Bool),v31 = .bool aw∧Fc (Fk.j1 kq l0_0 (l0_0.length:Int) aa aw l0_0=some r)∧Fc (kq≤k1)∧Fc (wc.heap[al]? = some (.cells #[(.slice (some ai) l0_0.length c0_0)] 43 (0,0)))∧Fc (wc.heap[ad]? = some (.cells #[.string ((rd_T83 l0_0 aa).f0),(.slice ae ((rd_T83 l0_0 aa).f1).length af)] 83 (0,0)))∧Fc (Below w.heap.size w wc))
       case first=>
        have H:=HC7.out
        clear HC7
        replace H:=ob_ H
        obtain ⟨ba,aT,H⟩:=H
        try dsimp only at H
        by_cases aU:ba=true
        ·subst aU
         rw [if_pos rfl] at H
         by_cases aH:aa > 0
         ·rw [if_pos aH] at H
          have aq:=decide_eq_true aH
          clear aH
          (first|rw [aq]|(simp only [i64_w,i32_w];rw [aq])|skip)
          obtain ⟨ah,ar⟩:∃ j_:Int,(wrap64 (aa - 1))=j_:=⟨_,rfl⟩
          replace H:(if 0≤(ah) then (if (ah)<(l0_0.length:Int) then (Fk.j1 k1 l0_0 (l0_0.length:Int) aa (!(Op.bytesLess (((rd_T83 l0_0 (ah)).f0).toList) (((rd_T83 l0_0 aa).f0).toList))) l0_0) else (none)) else (none))=some r:=by first|(rw [ar] at H;exact H)|(simp only [ar] at H ⊢; exact H)
          (try rw [ar] at aT)
          have hji14w:(IntKind.i64.wrap (aa - 1))=ah:=(i64_w _).trans ar
          by_cases aV:0≤(ah)
          ·rw [if_pos aV] at H
           have bk:=decide_eq_true aV
           clear aV
           by_cases aW:(ah)<(l0_0.length:Int)
           ·rw [if_pos aW] at H
            have bl:=decide_eq_true aW
            clear aW
            have H':=mk0 H
            clear H
            try go_wp2
            have au:Fc (((w8.setCell ⟨ad,0,none⟩ (.string ((rd_T83 l0_0 aa).f0))).setCell ⟨ad,1,none⟩ (.slice ae ((rd_T83 l0_0 aa).f1).length af)).heap[al]? = some (.cells #[.slice (some ai) l0_0.length c0_0] 43 (0,0))):=⟨(fa_ (fa_ (h_ ab) ag.out) ag.out)⟩
            have av:Fc (((w8.setCell ⟨ad,0,none⟩ (.string ((rd_T83 l0_0 aa).f0))).setCell ⟨ad,1,none⟩ (.slice ae ((rd_T83 l0_0 aa).f1).length af)).heap[ad]? = some (.cells #[.string ((rd_T83 l0_0 aa).f0),.slice ae ((rd_T83 l0_0 aa).f1).length af] 83 (0,0))):=⟨(pu_ (cs:=#[.string ((rd_T83 l0_0 aa).f0),.slice none 0 0]) (pu_ (cs:=#[.string (⟨#[]⟩:ByteArray),.slice none 0 0]) (h_ ac)))⟩
            have ny2_:Fc (Below w.heap.size w ((w8.setCell ⟨ad,0,none⟩ (.string ((rd_T83 l0_0 aa).f0))).setCell ⟨ad,1,none⟩ (.slice ae ((rd_T83 l0_0 aa).f1).length af))):=⟨b_ HB⟩
            (try clear ab)
            (try clear ac)
            (try clear HB)
            generalize ((w8.setCell ⟨ad,0,none⟩ (.string ((rd_T83 l0_0 aa).f0))).setCell ⟨ad,1,none⟩ (.slice ae ((rd_T83 l0_0 aa).f1).length af))=bm at au av ny2_ ⊢
            have ab:=au
            have ac:=av
            have HB:=ny2_
            clear au av ny2_
            replace ab:=mk0 (bD_ ab.out)
            replace ac:=mk0 (bD_ ac.out)
            replace HB:=mk0 (b1_ HB.out)
            have aN:0≤((ah):Int):=od_
            have aO:(ah)<(l0_0.length:Int):=od_
            obtain ⟨a3,aX,aY,bb,aj,ak,az,aA⟩:=at_T83 aD.out (ah) aN aO
            have aB:=ak
            have aC:=aj
            obtain rfl:ai=a3:=(by injection bb)
            replace aj:=(bc_ HB aj :)
            replace ak:=(bc_ HB ak :)
            have aP:=mk0 aA
            have bc:=mk0 az
            clear aA az
            replace aN:=eq_true aN
            replace aO:=eq_true aO
            refine start_ (n:=19) (S:=fun w'=>w'.cell? ⟨ad,0,none⟩=some (.string ((rd_T83 l0_0 aa).f0))∧w'.cell? ⟨ad,1,none⟩=some (.slice ae ((rd_T83 l0_0 aa).f1).length af)∧w'.cell? ⟨al,0,none⟩=some (.slice (some ai) l0_0.length c0_0)∧w'.cell? (ai.add (((ah)).toNat * 2))=some (.string ((rd_T83 l0_0 (ah)).f0))∧w'.cell? ⟨(ai.add (((ah)).toNat * 2)).block,(ai.add (((ah)).toNat * 2)).off + 1,none⟩=some (.slice aX ((rd_T83 l0_0 (ah)).f1).length aY)) (ds:=[]) (bt 19 0) (by kernel_rfl) rfl rfl ⟨bk_ ac 0,bk_ ac 1,bk_ ab 0,((bc_ HB aC :)),((bc_ HB aB :))⟩ (fun hHeld=>?_);refine with_tabW Fk.tab4 Fk.bits4 (fun HT_ HW_=>?_)
            generalize bm.drew=bu at ab ac HB aP aj ak hHeld ⊢
            refine tq5_ HT_.out HW_.out 0 13 (bt 19 1) hHeld (h:=?_)
            refine one_ (i:=1) (N:=some 14) (bt 19 3) rfl rfl (one_of HT_.out (by kernel_rfl)) (by decide) (fun K hK=>?_)
            refine goes_ Tryz.func79 (by kernel_rfl) rfl #[.agg #[.string ((rd_T83 l0_0 aa).f0),.slice ae ((rd_T83 l0_0 aa).f1).length af]] (by rfl) rfl rfl gs_ ?_
            with_reducible refine (Fi.calls k1 ((rd_T83 l0_0 aa).f0) _ _ ((rd_T83 l0_0 aa).f1) true _ ?side1 ?side2 aT.out).mono ?_
            (case side1=>exact cb_ ao HB)
            (case side2=>exact ap.out)
            rintro e bv ⟨rfl,hb⟩
            refine ⟨_,rfl,?_⟩
            replace ab:=mk0 (u_ ab hb)
            replace ac:=mk0 (u_ ac hb)
            replace HB:=mk0 (bt_ (b_ HB) hb)
            (try clear hb)
            (try clear hk)
            (try clear hi)
            refine hK.out _ _ ⟨bk_ ac 0,bk_ ac 1,bk_ ab 0,((bc_ HB aC :)),((bc_ HB aB :))⟩ (fun hHeld=>?_)
            clear hK K
            refine norm_ (a':=?_) ?_ ?_
            rotate_left
            ·show Act.put _ (some 14) _=_
             simp only [z_]
             rfl
            refine pq_ HT_.out 2 15 (bt 19 7) (h:=?_)
            refine pq_ HT_.out 3 16 (bt 19 15) (h:=?_)
            refine pq_ HT_.out 4 17 (bt 19 31) (h:=?_)
            refine pq_ HT_.out 5 18 (bt 19 63) (h:=?_)
            refine pq_ HT_.out 6 19 (bt 19 127) (h:=?_)
            refine pq_ HT_.out 7 20 (bt 19 255) (h:=?_)
            refine pq_ HT_.out 9 22 (bt 19 767) (h:=?_)
            refine pq_ HT_.out 11 24 (bt 19 2815) (h:=?_)
            refine pq_ HT_.out 12 25 (bt 19 6911) (h:=?_)
            refine tq5_ HT_.out HW_.out 8 21 (bt 19 7167) hHeld (h:=?_)
            refine tq5_ HT_.out HW_.out 10 23 (bt 19 8191) hHeld (h:=?_)
            refine pq_ HT_.out 13 26 (bt 19 16383) (h:=?_)
            refine pq_ HT_.out 14 27 (bt 19 32767) (h:=?_)
            refine tq5_ HT_.out HW_.out 15 28 (bt 19 65535) hHeld (h:=?_)
            refine pq_ HT_.out 16 29 (bt 19 131071) (h:=?_)
            refine pq_ HT_.out 17 30 (bt 19 262143) (h:=?_)
            refine pq_ HT_.out 18 31 (bt 19 524287) (h:=?_)
            refine done_ (done_of HT_.out (by kernel_rfl)) ?_
            try go_wp2
            go_meet
            case rel=>exact ⟨_,(!(Op.bytesLess (((rd_T83 l0_0 (ah)).f0).toList) (((rd_T83 l0_0 aa).f0).toList))),(by first|rfl|(simp;done)|(simp only [← ar] <;> (first|rfl|(simp [leq_];done)|(simp;done)))|(simp [*];done)),H',⟨by have:=aI.out;first|omega|exact Nat.le_refl _⟩,⟨h_ ab⟩,⟨h_ ac⟩,⟨b_ HB⟩⟩
           ·rw [if_neg aW] at H
            exact absurd H (by simp)
          ·rw [if_neg aV] at H
           exact absurd H (by simp)
         ·rw [if_neg aH] at H
          have aq:=decide_eq_false aH
          clear aH
          (first|rw [aq]|(simp only [i64_w,i32_w];rw [aq])|skip)
          have H':=mk0 H
          clear H
          try go_wp2
          have au:Fc (((w8.setCell ⟨ad,0,none⟩ (.string ((rd_T83 l0_0 aa).f0))).setCell ⟨ad,1,none⟩ (.slice ae ((rd_T83 l0_0 aa).f1).length af)).heap[al]? = some (.cells #[.slice (some ai) l0_0.length c0_0] 43 (0,0))):=⟨(fa_ (fa_ (h_ ab) ag.out) ag.out)⟩
          have av:Fc (((w8.setCell ⟨ad,0,none⟩ (.string ((rd_T83 l0_0 aa).f0))).setCell ⟨ad,1,none⟩ (.slice ae ((rd_T83 l0_0 aa).f1).length af)).heap[ad]? = some (.cells #[.string ((rd_T83 l0_0 aa).f0),.slice ae ((rd_T83 l0_0 aa).f1).length af] 83 (0,0))):=⟨(pu_ (cs:=#[.string ((rd_T83 l0_0 aa).f0),.slice none 0 0]) (pu_ (cs:=#[.string (⟨#[]⟩:ByteArray),.slice none 0 0]) (h_ ac)))⟩
          have ny2_:Fc (Below w.heap.size w ((w8.setCell ⟨ad,0,none⟩ (.string ((rd_T83 l0_0 aa).f0))).setCell ⟨ad,1,none⟩ (.slice ae ((rd_T83 l0_0 aa).f1).length af))):=⟨b_ HB⟩
          (try clear ab)
          (try clear ac)
          (try clear HB)
          generalize ((w8.setCell ⟨ad,0,none⟩ (.string ((rd_T83 l0_0 aa).f0))).setCell ⟨ad,1,none⟩ (.slice ae ((rd_T83 l0_0 aa).f1).length af))=bn at au av ny2_ ⊢
          have ab:=au
          have ac:=av
          have HB:=ny2_
          clear au av ny2_
          replace ab:=mk0 (bD_ ab.out)
          replace ac:=mk0 (bD_ ac.out)
          replace HB:=mk0 (b1_ HB.out)
          refine start_ (n:=19) (S:=fun w'=>w'.cell? ⟨ad,0,none⟩=some (.string ((rd_T83 l0_0 aa).f0))∧w'.cell? ⟨ad,1,none⟩=some (.slice ae ((rd_T83 l0_0 aa).f1).length af)) (ds:=[]) (bt 19 0) (by kernel_rfl) rfl rfl ⟨bk_ ac 0,bk_ ac 1⟩ (fun hHeld=>?_);refine with_tabW Fk.tab4 Fk.bits4 (fun HT_ HW_=>?_)
          generalize bn.drew=bw at ab ac HB hHeld ⊢
          refine tq2_ HT_.out HW_.out 0 13 (bt 19 1) hHeld (h:=?_)
          refine one_ (i:=1) (N:=some 14) (bt 19 3) rfl rfl (one_of HT_.out (by kernel_rfl)) (by decide) (fun K hK=>?_)
          refine goes_ Tryz.func79 (by kernel_rfl) rfl #[.agg #[.string ((rd_T83 l0_0 aa).f0),.slice ae ((rd_T83 l0_0 aa).f1).length af]] (by rfl) rfl rfl gs_ ?_
          with_reducible refine (Fi.calls k1 ((rd_T83 l0_0 aa).f0) _ _ ((rd_T83 l0_0 aa).f1) true _ ?side1 ?side2 aT.out).mono ?_
          (case side1=>exact cb_ ao HB)
          (case side2=>exact ap.out)
          rintro e bx ⟨rfl,hb⟩
          refine ⟨_,rfl,?_⟩
          replace ab:=mk0 (u_ ab hb)
          replace ac:=mk0 (u_ ac hb)
          replace HB:=mk0 (bt_ (b_ HB) hb)
          (try clear hb)
          (try clear hk)
          (try clear hi)
          refine hK.out _ _ ⟨bk_ ac 0,bk_ ac 1⟩ (fun hHeld=>?_)
          clear hK K
          refine norm_ (a':=?_) ?_ ?_
          rotate_left
          ·show Act.put _ (some 14) _=_
           simp only [z_]
           rfl
          refine pq_ HT_.out 2 15 (bt 19 7) (h:=?_)
          refine pq_ HT_.out 3 16 (bt 19 15) (h:=?_)
          refine pq_ HT_.out 4 17 (bt 19 31) (h:=?_)
          refine pq_ HT_.out 5 18 (bt 19 63) (h:=?_)
          refine pq_ HT_.out 6 19 (bt 19 127) (h:=?_)
          refine uq_ HT_.out 7 20 (bt 19 255) (h:=?_)
          refine uq_ HT_.out 8 21 (bt 19 511) (h:=?_)
          refine uq_ HT_.out 9 22 (bt 19 1023) (h:=?_)
          refine uq_ HT_.out 10 23 (bt 19 2047) (h:=?_)
          refine uq_ HT_.out 11 24 (bt 19 4095) (h:=?_)
          refine uq_ HT_.out 12 25 (bt 19 8191) (h:=?_)
          refine uq_ HT_.out 13 26 (bt 19 16383) (h:=?_)
          refine uq_ HT_.out 14 27 (bt 19 32767) (h:=?_)
          refine uq_ HT_.out 15 28 (bt 19 65535) (h:=?_)
          refine uq_ HT_.out 16 29 (bt 19 131071) (h:=?_)
          refine pq_ HT_.out 17 30 (bt 19 262143) (h:=?_)
          refine pq_ HT_.out 18 31 (bt 19 524287) (h:=?_)
          refine done_ (done_of HT_.out (by kernel_rfl)) ?_
          try go_wp2
          go_meet
          case rel=>exact ⟨_,(false),sm_,H',⟨by have:=aI.out;first|omega|exact Nat.le_refl _⟩,⟨h_ ab⟩,⟨h_ ac⟩,⟨b_ HB⟩⟩
        ·replace aU:=Bool.eq_false_iff.mpr aU
         subst aU
         rw [if_neg nf_] at H
         have H':=mk0 H
         clear H
         try go_wp2
         have au:Fc (((w8.setCell ⟨ad,0,none⟩ (.string ((rd_T83 l0_0 aa).f0))).setCell ⟨ad,1,none⟩ (.slice ae ((rd_T83 l0_0 aa).f1).length af)).heap[al]? = some (.cells #[.slice (some ai) l0_0.length c0_0] 43 (0,0))):=⟨(fa_ (fa_ (h_ ab) ag.out) ag.out)⟩
         have av:Fc (((w8.setCell ⟨ad,0,none⟩ (.string ((rd_T83 l0_0 aa).f0))).setCell ⟨ad,1,none⟩ (.slice ae ((rd_T83 l0_0 aa).f1).length af)).heap[ad]? = some (.cells #[.string ((rd_T83 l0_0 aa).f0),.slice ae ((rd_T83 l0_0 aa).f1).length af] 83 (0,0))):=⟨(pu_ (cs:=#[.string ((rd_T83 l0_0 aa).f0),.slice none 0 0]) (pu_ (cs:=#[.string (⟨#[]⟩:ByteArray),.slice none 0 0]) (h_ ac)))⟩
         have ny2_:Fc (Below w.heap.size w ((w8.setCell ⟨ad,0,none⟩ (.string ((rd_T83 l0_0 aa).f0))).setCell ⟨ad,1,none⟩ (.slice ae ((rd_T83 l0_0 aa).f1).length af))):=⟨b_ HB⟩
         (try clear ab)
         (try clear ac)
         (try clear HB)
         generalize ((w8.setCell ⟨ad,0,none⟩ (.string ((rd_T83 l0_0 aa).f0))).setCell ⟨ad,1,none⟩ (.slice ae ((rd_T83 l0_0 aa).f1).length af))=bo at au av ny2_ ⊢
         have ab:=au
         have ac:=av
         have HB:=ny2_
         clear au av ny2_
         replace ab:=mk0 (bD_ ab.out)
         replace ac:=mk0 (bD_ ac.out)
         replace HB:=mk0 (b1_ HB.out)
         refine start_ (n:=19) (S:=fun w'=>w'.cell? ⟨ad,0,none⟩=some (.string ((rd_T83 l0_0 aa).f0))∧w'.cell? ⟨ad,1,none⟩=some (.slice ae ((rd_T83 l0_0 aa).f1).length af)) (ds:=[]) (bt 19 0) (by kernel_rfl) rfl rfl ⟨bk_ ac 0,bk_ ac 1⟩ (fun hHeld=>?_);refine with_tabW Fk.tab4 Fk.bits4 (fun HT_ HW_=>?_)
         generalize bo.drew=bz at ab ac HB hHeld ⊢
         refine tq2_ HT_.out HW_.out 0 13 (bt 19 1) hHeld (h:=?_)
         refine one_ (i:=1) (N:=some 14) (bt 19 3) rfl rfl (one_of HT_.out (by kernel_rfl)) (by decide) (fun K hK=>?_)
         refine goes_ Tryz.func79 (by kernel_rfl) rfl #[.agg #[.string ((rd_T83 l0_0 aa).f0),.slice ae ((rd_T83 l0_0 aa).f1).length af]] (by rfl) rfl rfl gs_ ?_
         with_reducible refine (Fi.calls k1 ((rd_T83 l0_0 aa).f0) _ _ ((rd_T83 l0_0 aa).f1) false _ ?side1 ?side2 aT.out).mono ?_
         (case side1=>exact cb_ ao HB)
         (case side2=>exact ap.out)
         rintro e bA ⟨rfl,hb⟩
         refine ⟨_,rfl,?_⟩
         replace ab:=mk0 (u_ ab hb)
         replace ac:=mk0 (u_ ac hb)
         replace HB:=mk0 (bt_ (b_ HB) hb)
         (try clear hb)
         (try clear hk)
         (try clear hi)
         refine hK.out _ _ ⟨bk_ ac 0,bk_ ac 1⟩ (fun hHeld=>?_)
         clear hK K
         refine norm_ (a':=?_) ?_ ?_
         rotate_left
         ·show Act.put _ (some 14) _=_
          simp only [z_]
          rfl
         refine pq_ HT_.out 2 15 (bt 19 7) (h:=?_)
         refine pq_ HT_.out 3 16 (bt 19 15) (h:=?_)
         refine uq_ HT_.out 4 17 (bt 19 31) (h:=?_)
         refine uq_ HT_.out 5 18 (bt 19 63) (h:=?_)
         refine uq_ HT_.out 6 19 (bt 19 127) (h:=?_)
         refine uq_ HT_.out 7 20 (bt 19 255) (h:=?_)
         refine uq_ HT_.out 8 21 (bt 19 511) (h:=?_)
         refine uq_ HT_.out 9 22 (bt 19 1023) (h:=?_)
         refine uq_ HT_.out 10 23 (bt 19 2047) (h:=?_)
         refine uq_ HT_.out 11 24 (bt 19 4095) (h:=?_)
         refine uq_ HT_.out 12 25 (bt 19 8191) (h:=?_)
         refine uq_ HT_.out 13 26 (bt 19 16383) (h:=?_)
         refine uq_ HT_.out 14 27 (bt 19 32767) (h:=?_)
         refine uq_ HT_.out 15 28 (bt 19 65535) (h:=?_)
         refine uq_ HT_.out 16 29 (bt 19 131071) (h:=?_)
         refine uq_ HT_.out 17 30 (bt 19 262143) (h:=?_)
         refine pq_ HT_.out 18 31 (bt 19 524287) (h:=?_)
         refine done_ (done_of HT_.out (by kernel_rfl)) ?_
         try go_wp2
         go_meet
         case rel=>exact ⟨_,(true),sm_,H',⟨by have:=aI.out;first|omega|exact Nat.le_refl _⟩,⟨h_ ab⟩,⟨h_ ac⟩,⟨b_ HB⟩⟩
       case rest=>
        clear HC7
        try clear c4
        try clear a1
        try clear c5
        try clear a4
        try clear c6
        try clear a5
        try clear aJ
        try clear aK
        try clear aL
        try clear aM
        try clear am
        try clear an
        try clear aF
        try clear aG
        obtain ⟨kq,aw,rfl,HA,bd,ab,ac,HB⟩:=hcut
        cases kq with
        | zero=>exact absurd HA.out (by simp [Fk.j1])
        | succ bp=>
         have H:=HA.out
         clear HA
         simp only [Fk.j1] at H
         as_aux_lemma=>
          by_cases aZ:aw=true
          ·subst aZ
           rw [if_pos rfl] at H
           obtain rfl:=Option.some.inj H
           go_wp2
           go_ret
           exact ⟨sa_,b_ HB⟩
          ·replace aZ:=Bool.eq_false_iff.mpr aZ
           subst aZ
           rw [if_neg nf_] at H
           have H':=mk0 H
           clear H
           go_wp2
           go_roundg bp
           case measure=>have:=aI.out;have:=bd.out;omega
           case rel=>exact ⟨(wrap64 (aa + 1)),sm_,H',⟨by have:=aI.out;have:=bd.out;omega⟩,⟨h_ ab⟩,⟨b_ HB⟩⟩
      ·rw [if_neg c6] at H
       exact absurd H (by simp)
     ·rw [if_neg c5] at H
      exact absurd H (by simp)
    ·rw [if_neg c4] at H
     have a1:=decide_eq_false c4
     clear c4
     replace H:=ob_ H
     obtain ⟨be,bq,H⟩:=H
     try dsimp only at H
     obtain rfl:=Option.some.inj H
     obtain ⟨bf,bg⟩:=c1_ ab
     go_wp2_with (first|((with_reducible refine gate_callee (f:=80) rfl ?_);refine gL_ (some 34) Tryz.func80 #[.agg #[.slice A0_0 l0_0.length c0_0]] (h:=?_);(with_reducible refine (FX.calls k1 _ _ l0_0 be _ ?side1 ?side2 bq.out).mono ?_);(case side1=>exact cb_ aD HB);(case side2=>exact a2.out);rintro e bB ⟨rfl,hb⟩;refine ⟨_,rfl,?_⟩;replace ab:=mk0 (u_ ab hb);replace HB:=mk0 (bt_ (b_ HB) hb);(try clear hb)))
     go_ret
     exact ⟨sa_,b_ HB⟩
def Gb.f (k:Nat) (l0_0:List (S83)):Option (Bool):=(Fk.f k l0_0).bind fun a=>(some (!a))
theorem Gb.mono:∀ a0 k,LeO (Gb.f k a0) (Gb.f (k + 1) a0):=by
 intro a0 k
 have:=@Fk.mono
 unfold Gb.f
 exact mz_
theorem Gb.calls (k:Nat) (A0_0:Option Addr) (c0_0:Nat) (l0_0:List (S83)) (r:Bool) (w:World) (hr0_0:Kd.C k83 w A0_0 l0_0.length l0_0) (hc0_0:l0_0.length≤c0_0) (h:Gb.f k l0_0=some r) :
 Calls Tryz.prog 57 #[.agg #[.slice A0_0 l0_0.length c0_0]] w fun e w'=>e = .returned (.bool r)∧Below w.heap.size w w':=by
 have hu43:=Tryz.underlying43
 have ac:=mk0 hr0_0
 have ad:=mk0 hc0_0
 clear hr0_0 hc0_0
 have HB:=mk0 (Below.refl w.heap.size w)
 have H:((Fk.f k l0_0).bind fun ab=>(some (!ab)))=some r:=h
 clear h
 replace H:=ob_ H
 obtain ⟨ab,A2,H⟩:=H
 try dsimp only at H
 obtain rfl:=Option.some.inj H
 go_enter Tryz.func57,Tryz.ntmps57
 go_wp2_with (first|((with_reducible refine gate_dst (N:=1) rfl ?_);refine bx_ (N:=1) (cs:=#[.slice A0_0 l0_0.length c0_0]) (t:=43) (h:=?_);intro ah hg w3 hbox hb;have ny2_:=mk0 (gz_ HB hg);have ae:=mk0 (gz_ HB hg);replace HB:=mk0 (bt_ (b_ HB) hb);have aa:=mk0 (hbox);have ai:=ny2_;have aj:=ae;clear ny2_ ae hb hbox hg;obtain ⟨af,ag⟩:=c1_ aa)|((with_reducible refine gate_callee (f:=58) rfl ?_);refine gL_ (some 4) Tryz.func58 #[.agg #[.slice A0_0 l0_0.length c0_0]] (h:=?_);(with_reducible refine (Fk.calls k _ _ l0_0 ab _ ?side1 ?side2 A2.out).mono ?_);(case side1=>exact cb_ ac HB);(case side2=>exact ad.out);rintro e w5 ⟨rfl,hb⟩;refine ⟨_,rfl,?_⟩;replace aa:=mk0 (u_ aa hb);replace HB:=mk0 (bt_ (b_ HB) hb);(try clear hb)))
 go_ret
 exact ⟨sa_,b_ HB⟩
end Go.Proofs.YtbaecdcfefmcgaaGreat.PVrd
