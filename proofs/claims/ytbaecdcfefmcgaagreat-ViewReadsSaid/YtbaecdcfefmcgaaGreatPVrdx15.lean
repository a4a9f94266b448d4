import Derived.Test.YtbaecdcfefmcgaaGreatPVrdx0
import Derived.Test.YtbaecdcfefmcgaaGreatPVrdx4
import Derived.Test.YtbaecdcfefmcgaaGreatPVrdx5
import Derived.Test.YtbaecdcfefmcgaaGreatPVrdx14
namespace Go.Proofs.YtbaecdcfefmcgaaGreat.PVrd
open Go.RowKit Go.Proofs.YtbaecdcfefmcgaaGreatW.PrintWords Go.Proofs.YtbaecdcfefmcgaaGreatW.PrintLast Go.Proofs.YtbaecdcfefmcgaaGreatW.PrintMore
attribute [local go_sem] max2_int min2_int max_two min_two max_three min_three max_four min_four
set_option maxHeartbeats 8000000
set_option maxRecDepth 100000
set_option linter.unusedVariables false
set_option linter.unusedSimpArgs false
def Fz.l0:Nat→Int→List (S50)→Int→List (S83)→Option ((List (S50)))
 | 0,_,_,_,_=>none
 | k + 1,d,c,a,b=>if a<(b.length:Int) then (if 0≤a then ((FL.f k ((rd_T83 b a).f0) ((rd_T83 b a).f1) d).bind fun e=>(if e.2.2.2=true then (if c.length<4398046511104 then (Fz.l0 k d (c ++ [(⟨(rd_T83 b a).f0,e.2.1⟩:S50)]) (wrap64 (a + 1)) b) else (none)) else (Fz.l0 k d c (wrap64 (a + 1)) b))) else (none)) else (some c)
def Fz.f (k:Nat) (l0_0:List (S83)) (a1:Int):Option ((List (S50))):=Fz.l0 k a1 ([]:List (S50)) 0 l0_0
theorem Fz.mono_l:∀ k,(∀ y0 y1 y2 y3,LeO (Fz.l0 k y0 y1 y2 y3) (Fz.l0 (k + 1) y0 y1 y2 y3))
 | 0=>fun _ _ _ _ r h=>by simp [Fz.l0] at h
 | k + 1=>by
  have ih0:=Fz.mono_l k
  have:=@FL.mono
  all_goals (intros;first|unfold Fz.l0)
  all_goals exact mz_
theorem Fz.mono:∀ a0 a1 k,LeO (Fz.f k a0 a1) (Fz.f (k + 1) a0 a1):=by
 intro a0 a1 k
 have ih0:=Fz.mono_l k
 have:=@FL.mono
 unfold Fz.f
 exact mz_
def Fz.T7:Bool×List (List Nat×List Nat):=(true,[([],[]),([],[]),([1],[1]),([],[]),([2,3],[2,3]),([4],[4]),([5],[5]),([],[]),([7],[7]),([6,8],[6,8]),([9],[9]),([0,10],[0,10]),([11,11,0,1,2,3,4,5,6,7,8,9,10,11],[0,11])])
def Fz.B7:List Nat:=[0,0,2,0,14,30,62,0,128,510,1022,2047,4095]
theorem Fz.tab7:rtab .any (opsOf Tryz.f11 7)=Fz.T7:=by kernel_rfl
theorem Fz.bits7:waitsOk Fz.T7.2 Fz.B7=true:=by kernel_rfl
theorem Fz.calls (k:Nat) (A0_0:Option Addr) (c0_0:Nat) (l0_0:List (S83)) (a1:Int) (r:List (S50)) (w:World) (hr0_0:Kd.C k83 w A0_0 l0_0.length l0_0) (hc0_0:l0_0.length≤c0_0) (h:Fz.f k l0_0 a1=some r) :
 Calls Tryz.prog 11 #[.agg #[.slice A0_0 l0_0.length c0_0],.int .i64 a1] w fun e w'=>∃ v0_:Value,e = .returned (v0_)∧Kd.R k50 50 w' w.heap.size (fun _=>True) v0_ r∧Below w.heap.size w w':=by
 have hu43:=Tryz.underlying43
 have hu83:=Tryz.underlying83
 have hu78:=Tryz.underlying78
 have hu50:=Tryz.underlying50
 have aH:=mk0 hr0_0
 have bx:=mk0 hc0_0
 clear hr0_0 hc0_0
 have HB:=mk0 (Below.refl w.heap.size w)
 have H:(Fz.l0 k a1 ([]:List (S50)) 0 l0_0)=some r:=h
 clear h
 have H':=mk0 H
 clear H
 go_enter Tryz.func11,Tryz.ntmps11
 go_wp2_with (first|((with_reducible refine gate_dst (N:=2) rfl ?_);refine bx_ (N:=2) (cs:=#[.slice A0_0 l0_0.length c0_0]) (t:=43) (h:=?_);intro aA hg w3 hbox hb;have ny2_:=mk0 (gz_ HB hg);have aJ:=mk0 (gz_ HB hg);replace HB:=mk0 (bt_ (b_ HB) hb);have aa:=mk0 (hbox);have bz:=ny2_;have bA:=aJ;clear ny2_ aJ;clear hb hbox hg))
 go_loopg [5,6] k (fun kq v5 v6 w'=>∃ (av:List (S50)) (ac:Int),v6 = .int .i64 ac∧Fc (Fz.l0 kq a1 av ac l0_0=some r)∧Fc (kq≤k)∧Fc (Kd.R k50 50 w' w.heap.size (fun _=>True) v5 av)∧Fc (w'.heap[aA]? = some (.cells #[(.slice A0_0 l0_0.length c0_0)] 43 (0,0)))∧Fc (Below w.heap.size w w'))
 case atStart=>exact ⟨(([]:List (S50))),(0),sm_,H',⟨Nat.le_refl _⟩,⟨nl_⟩,⟨h_ aa⟩,⟨b_ HB⟩⟩
 case round=>
  clear H'
  obtain ⟨av,ac,rfl,HA,aX,af,aa,HB⟩:=hrel
  cases gk with
  | zero=>exact absurd HA.out (by simp [Fz.l0])
  | succ k1=>
   have H:=HA.out
   clear HA
   simp only [Fz.l0] at H
   as_aux_lemma=>
    by_cases c4:ac<(l0_0.length:Int)
    ·rw [if_pos c4] at H
     have ba:=decide_eq_true c4
     clear c4
     by_cases c5:0≤ac
     ·rw [if_pos c5] at H
      have bG:=decide_eq_true c5
      clear c5
      replace H:=ob_ H
      obtain ⟨⟨ah,ag,ai,bb⟩,A6,H⟩:=H
      try dsimp only at H
      by_cases c7:bb=true
      ·subst c7
       rw [if_pos rfl] at H
       by_cases c8:av.length<4398046511104
       ·rw [if_pos c8] at H
        have LMc8:=mk0 c8
        clear c8
        obtain ⟨a2,aI⟩:∃ y_:List (S50),y_=(av ++ [(⟨(rd_T83 l0_0 ac).f0,ag⟩:S50)]):=⟨_,rfl⟩
        replace H:(Fz.l0 k1 a1 a2 (wrap64 (ac + 1)) l0_0)=some r:=rp_ H aI
        have a3:=mk0 aI
        clear aI
        have H':=mk0 H
        clear H
        obtain ⟨bv,bw⟩:=c1_ aa
        have aw:0≤(ac:Int):=od_
        have ax:ac<(l0_0.length:Int):=od_
        obtain ⟨aj,aC,aD,aK,ak,al,am,an⟩:=at_T83 aH.out ac aw ax
        cases aK
        replace ak:=(bc_ HB ak :)
        replace al:=(bc_ HB al :)
        have ay:=mk0 an
        have az:=mk0 am
        clear an am
        replace aw:=eq_true aw
        replace ax:=eq_true ax
        try go_wp2_with (first|((with_reducible refine gate_callee (f:=36) rfl ?_);refine gL_ (some 23) Tryz.func36 #[.agg #[.string ((rd_T83 l0_0 ac).f0),.slice aC ((rd_T83 l0_0 ac).f1).length aD],.int .i64 a1] (h:=?_);(with_reducible refine (FL.calls k1 ((rd_T83 l0_0 ac).f0) _ _ ((rd_T83 l0_0 ac).f1) a1 ah ag ai true _ ?side1 ?side2 A6.out).mono ?_);(case side1=>exact cb_ ay HB);(case side2=>exact az.out);rintro e bI ⟨rfl,hb⟩;refine ⟨_,rfl,?_⟩;replace af:=mk0 (Kd.R_below (r_ af) hb);replace aa:=mk0 (u_ aa hb);replace HB:=mk0 (bt_ (b_ HB) hb);(try clear hb))|((with_reducible refine gate_dst (N:=7) rfl ?_);refine bx_ (N:=7) (cs:=#[.int .i64 0,.string (⟨#[]⟩:ByteArray),.bool false]) (t:=78) (h:=?_);intro ab hg aM hbox hb;have aN:=mk0 (gz_ HB hg);have aQ:=mk0 (gz_ HB hg);have aR:=mk0 (ne1_ aa hg);have aT:=mk0 (ne2_ aa hg);replace af:=mk0 (Kd.R_below (r_ af) hb);replace aa:=mk0 (u_ aa hb);replace HB:=mk0 (bt_ (b_ HB) hb);have ad:=mk0 (hbox);have a4:=aN;have a5:=aQ;have ae:=aR;have ao:=aT;clear aN aQ aR aT hb hbox hg;have bB:=ao.out;have bC:=ae.out;obtain ⟨bc,bd,be,bf,bg,bh⟩:=c3_ ad))
        have a6:Fc (Kd.R k50 50 (((aM.setCell ⟨ab,0,none⟩ (.int .i64 ah)).setCell ⟨ab,1,none⟩ (.string ag)).setCell ⟨ab,2,none⟩ (.bool ai)) w.heap.size (fun _=>True) u5 av):=⟨by (with_reducible repeat (first|apply Ra_|apply Rn_|apply Rd_));exact Kd.R_mono (Kd.R_far (p:=⟨ab,2,none⟩) (Kd.R_far (p:=⟨ab,1,none⟩) (Kd.R_far (p:=⟨ab,0,none⟩) (Kd.R_types af.out ad.out (by decide)) (fun _ hk=>hk.2) (.int .i64 ah)) (fun _ hk=>hk.2) (.string ag)) (fun _ hk=>hk.2) (.bool ai)) (fun _ hk=>trivial)⟩
        have a7:Fc ((((aM.setCell ⟨ab,0,none⟩ (.int .i64 ah)).setCell ⟨ab,1,none⟩ (.string ag)).setCell ⟨ab,2,none⟩ (.bool ai)).heap[aA]? = some (.cells #[.slice (some aj) l0_0.length c0_0] 43 (0,0))):=⟨(fa_ (fa_ (fa_ (h_ aa) ae.out) ae.out) ae.out)⟩
        have ny2_:Fc ((((aM.setCell ⟨ab,0,none⟩ (.int .i64 ah)).setCell ⟨ab,1,none⟩ (.string ag)).setCell ⟨ab,2,none⟩ (.bool ai)).heap[ab]? = some (.cells #[.int .i64 ah,.string ag,.bool ai] 78 (0,0))):=⟨(pu_ (cs:=#[.int .i64 ah,.string ag,.bool false]) (pu_ (cs:=#[.int .i64 ah,.string (⟨#[]⟩:ByteArray),.bool false]) (pu_ (cs:=#[.int .i64 0,.string (⟨#[]⟩:ByteArray),.bool false]) (h_ ad))))⟩
        have aJ:Fc (Below w.heap.size w (((aM.setCell ⟨ab,0,none⟩ (.int .i64 ah)).setCell ⟨ab,1,none⟩ (.string ag)).setCell ⟨ab,2,none⟩ (.bool ai))):=⟨b_ HB⟩
        (try clear af)
        (try clear aa)
        (try clear ad)
        (try clear HB)
        generalize (((aM.setCell ⟨ab,0,none⟩ (.int .i64 ah)).setCell ⟨ab,1,none⟩ (.string ag)).setCell ⟨ab,2,none⟩ (.bool ai))=bD at a6 a7 ny2_ aJ ⊢
        have af:=a6
        have aa:=a7
        have ad:=ny2_
        have HB:=aJ
        clear a6 a7 ny2_ aJ
        replace af:=mk0 (Rd_ af.out)
        replace aa:=mk0 (bD_ aa.out)
        replace ad:=mk0 (bD_ ad.out)
        replace HB:=mk0 (b1_ HB.out)
        have aU:0≤(ac:Int):=od_
        have aV:ac<(l0_0.length:Int):=od_
        obtain ⟨a8,aY,aZ,bi,ap,aq,aE,aG⟩:=at_T83 aH.out ac aU aV
        have ar:=aq
        have au:=ap
        obtain rfl:aj=a8:=(by injection bi)
        replace ap:=(bc_ HB ap :)
        replace aq:=(bc_ HB aq :)
        have aW:=mk0 aG
        have bj:=mk0 aE
        clear aG aE
        replace aU:=eq_true aU
        replace aV:=eq_true aV
        refine start_ (n:=13) (S:=fun w'=>w'.cell? ⟨aA,0,none⟩=some (.slice (some aj) l0_0.length c0_0)∧w'.cell? ⟨ab,0,none⟩=some (.int .i64 ah)∧w'.cell? ⟨ab,1,none⟩=some (.string ag)∧w'.cell? ⟨ab,2,none⟩=some (.bool ai)∧w'.cell? (aj.add ((ac).toNat * 2))=some (.string ((rd_T83 l0_0 ac).f0))∧w'.cell? ⟨(aj.add ((ac).toNat * 2)).block,(aj.add ((ac).toNat * 2)).off + 1,none⟩=some (.slice aY ((rd_T83 l0_0 ac).f1).length aZ)) (ds:=[]) (bt 13 0) (by kernel_rfl) rfl rfl ⟨bk_ aa 0,bk_ ad 0,bk_ ad 1,bk_ ad 2,((bc_ HB au :)),((bc_ HB ar :))⟩ (fun hHeld=>?_);refine with_tabW Fz.tab7 Fz.bits7 (fun HT_ HW_=>?_)
        generalize bD.drew=bJ at af aa ad HB aW ap aq hHeld ⊢
        refine pq_ HT_.out 0 27 (bt 13 1) (h:=?_)
        refine pq_ HT_.out 1 28 (bt 13 3) (h:=?_)
        refine pq_ HT_.out 3 30 (bt 13 11) (h:=?_)
        refine pq_ HT_.out 7 34 (bt 13 139) (h:=?_)
        refine tq6_ HT_.out HW_.out 2 29 (bt 13 143) hHeld (h:=?_)
        refine pq_ HT_.out 4 31 (bt 13 159) (h:=?_)
        refine pq_ HT_.out 5 32 (bt 13 191) (h:=?_)
        refine tq6_ HT_.out HW_.out 6 33 (bt 13 255) hHeld (h:=?_)
        refine tq6_ HT_.out HW_.out 8 35 (bt 13 511) hHeld (h:=?_)
        refine pq_ HT_.out 9 36 (bt 13 1023) (h:=?_)
        refine one_ (i:=10) (N:=some 37) (bt 13 2047) rfl rfl (one_of HT_.out (by kernel_rfl)) (by decide) (fun K hK=>?_)
        refine value_ (w1:=?_) (v:=?_) (by rfl) rfl ?_ ?_
        rotate_left 2
        ·go_simp
         constructor
         ·rfl
         ·rfl
        refine hK.out _ _ ⟨(blk_cell (bA_ aa.out _) 0).trans rfl,(blk_cell (bA_ ad.out _) 0).trans rfl,(blk_cell (bA_ ad.out _) 1).trans rfl,(blk_cell (bA_ ad.out _) 2).trans rfl,(World.cell?_alloc_lt _ _ _ (World.block_lt_of_cell? _ _ (((bc_ HB au :))))).trans (((bc_ HB au :))),(World.cell?_alloc_lt _ _ _ (World.block_lt_of_cell? _ _ (((bc_ HB ar :))))).trans (((bc_ HB ar :)))⟩ (fun hHeld=>?_)
        clear hK K
        refine norm_ (a':=?_) ?_ ?_
        rotate_left
        ·show Act.put _ (some 37) _=_
         simp only [z_]
         rfl
        refine one_ (i:=11) (N:=some 38) (bt 13 4095) rfl rfl (one_of HT_.out (by kernel_rfl)) (by decide) (fun K hK=>?_)
        refine Kd.R_append_step k50 (w0:=w) w.heap.size (by rfl) (.tmp 27) (.tmp 37) 38 50 (.agg #[(.string ⟨#[]⟩),(.string ⟨#[]⟩)]) 32 rfl Tryz.underlying38 info50 rfl (by decide) (by omega) u5 av (⟨(rd_T83 l0_0 ac).f0,ag⟩:S50) [.string ((rd_T83 l0_0 ac).f0),.string ag] (fun _=>True) (fun _=>False) rfl rfl ?aP (fun _ hk=>hk.elim) ?aF ?aO ?aB ?aS ?aL ?_
        (case aP=>exact k50_mkM _ _ _ (⟨(rd_T83 l0_0 ac).f0,ag⟩:S50))
        (case aB=>exact (b_ HB))
        (case aF=>exact (fun _ _=>trivial))
        (case aO=>exact (r_ af))
        (case aS=>exact (bz_ (b_ HB)))
        (case aL=>have:=LMc8.out;omega)
        intro bH bK ho hb hg hat
        rw [← a3.out] at ho
        replace aa:=mk0 (blk_grown (g:=aA) (o:=.cells #[.slice (some aj) l0_0.length c0_0] 43 (0,0)) (h_ aa) hg (Kd.R_ne af.out aa.out (by decide)))
        replace ad:=mk0 (blk_grown (g:=ab) (o:=.cells #[.int .i64 ah,.string ag,.bool ai] 78 (0,0)) (h_ ad) hg (Kd.R_ne af.out ad.out (by decide)))
        replace HB:=mk0 (hb)
        have a9:=mk0 (ho)
        clear af
        clear ho hb hg hat
        refine hK.out _ _ ⟨bk_ aa 0,bk_ ad 0,bk_ ad 1,bk_ ad 2,((bc_ HB au :)),((bc_ HB ar :))⟩ (fun hHeld=>?_)
        clear hK K
        refine norm_ (a':=?_) ?_ ?_
        rotate_left
        ·show Act.put _ (some 38) _=_
         simp only [z_]
         rfl
        refine pq_ HT_.out 12 5 (bt 13 8191) (h:=?_)
        refine done_ (done_of HT_.out (by kernel_rfl)) ?_
        try go_wp2
        go_roundg k1
        case measure=>have:=aX.out;omega
        case rel=>exact ⟨(a2),(wrap64 (ac + 1)),sm_,H',⟨by have:=aX.out;omega⟩,⟨r2_ a9.out⟩,⟨h_ aa⟩,⟨b_ HB⟩⟩
       ·rw [if_neg c8] at H
        exact absurd H (by simp)
      ·replace c7:=Bool.eq_false_iff.mpr c7
       subst c7
       rw [if_neg nf_] at H
       have H':=mk0 H
       clear H
       obtain ⟨bk,bl⟩:=c1_ aa
       have aw:0≤(ac:Int):=od_
       have ax:ac<(l0_0.length:Int):=od_
       obtain ⟨aj,aC,aD,aK,ak,al,am,an⟩:=at_T83 aH.out ac aw ax
       cases aK
       replace ak:=(bc_ HB ak :)
       replace al:=(bc_ HB al :)
       have ay:=mk0 an
       have az:=mk0 am
       clear an am
       replace aw:=eq_true aw
       replace ax:=eq_true ax
       go_wp2_with (first|((with_reducible refine gate_callee (f:=36) rfl ?_);refine gL_ (some 23) Tryz.func36 #[.agg #[.string ((rd_T83 l0_0 ac).f0),.slice aC ((rd_T83 l0_0 ac).f1).length aD],.int .i64 a1] (h:=?_);(with_reducible refine (FL.calls k1 ((rd_T83 l0_0 ac).f0) _ _ ((rd_T83 l0_0 ac).f1) a1 ah ag ai false _ ?side1 ?side2 A6.out).mono ?_);(case side1=>exact cb_ ay HB);(case side2=>exact az.out);rintro e bL ⟨rfl,hb⟩;refine ⟨_,rfl,?_⟩;replace af:=mk0 (Kd.R_below (r_ af) hb);replace aa:=mk0 (u_ aa hb);replace HB:=mk0 (bt_ (b_ HB) hb);(try clear hb))|((with_reducible refine gate_dst (N:=7) rfl ?_);refine bx_ (N:=7) (cs:=#[.int .i64 0,.string (⟨#[]⟩:ByteArray),.bool false]) (t:=78) (h:=?_);intro ab hg bM hbox hb;have aN:=mk0 (gz_ HB hg);have aQ:=mk0 (gz_ HB hg);have aR:=mk0 (ne1_ aa hg);have aT:=mk0 (ne2_ aa hg);replace af:=mk0 (Kd.R_below (r_ af) hb);replace aa:=mk0 (u_ aa hb);replace HB:=mk0 (bt_ (b_ HB) hb);have ad:=mk0 (hbox);have a4:=aN;have a5:=aQ;have ae:=aR;have ao:=aT;clear aN aQ aR aT hb hbox hg;have bE:=ao.out;have bF:=ae.out;obtain ⟨bm,bn,bo,bp,bq,br⟩:=c3_ ad))
       go_roundg k1
       case measure=>have:=aX.out;omega
       case rel=>exact ⟨(av),(wrap64 (ac + 1)),sm_,H',⟨by have:=aX.out;omega⟩,⟨by (with_reducible repeat (first|apply Ra_|apply Rn_|apply Rd_));exact Kd.R_mono (Kd.R_far (p:=⟨ab,2,none⟩) (Kd.R_far (p:=⟨ab,1,none⟩) (Kd.R_far (p:=⟨ab,0,none⟩) (Kd.R_types af.out ad.out (by decide)) (fun _ hk=>hk.2) (.int .i64 ah)) (fun _ hk=>hk.2) (.string ag)) (fun _ hk=>hk.2) (.bool ai)) (fun _ hk=>trivial)⟩,⟨(fa_ (fa_ (fa_ (h_ aa) ae.out) ae.out) ae.out)⟩,⟨b_ HB⟩⟩
     ·rw [if_neg c5] at H
      exact absurd H (by simp)
    ·rw [if_neg c4] at H
     have ba:=decide_eq_false c4
     clear c4
     obtain rfl:=Option.some.inj H
     obtain ⟨bs,bu⟩:=c1_ aa
     go_wp2
     go_ret
     exact ⟨_,sa_,by (with_reducible repeat (first|apply Ra_|apply Rn_|apply Rd_));exact af.out,b_ HB⟩
-- NOT PRINTED: function 81 (api_Table_81)
set_option maxHeartbeats 800000 in
set_option maxRecDepth 100000 in
theorem idx_ct.calls_ (pred:S43→Bool) (F:Nat) (A0:Option Addr) (c0:Nat) (l0:List S43) (w:World) (hr0:Kd.C k43 w A0 l0.length l0) (hc0:l0.length≤c0)
 (eg:∀ args w,(callFunc F args).run Tryz.prog w = .ok (.enter F args) w)
 (HP:∀ i:Nat,i<l0.length→(∀ j:Nat,j<i→pred (rd_T43 l0 j)=false)→∀ (W:World),Below w.heap.size w W→∀ A1 c1,(rd_T43 l0 i).f0.length≤c1→Kd.C k83 W A1 (rd_T43 l0 i).f0.length (rd_T43 l0 i).f0 →
  Calls Tryz.prog F #[.agg #[.slice A1 (rd_T43 l0 i).f0.length c1]] W fun e W'=>e = .returned (.bool (pred (rd_T43 l0 i)))∧Below w.heap.size w W') :
 Calls Tryz.prog 81 #[.slice A0 l0.length c0,.func (Fn.func F) #[] #[]] w fun e w'=>∃ q:Int,e = .returned (.int .i64 q)∧decide ((0:Int)≤q)=l0.any pred∧Below w.heap.size w w':=by
 have HR0:=Aside0.mk hr0
 have HC0:=Aside0.mk hc0
 have hlen:=hr0.2.1
 have hrd:∀ i:Nat,∀ h:i<l0.length,rd_T43 l0 (i:Int)=l0[i]:=fun i h=>by simp [rd_T43,h]
 have HY:=Aside0.mk (show ∀ i:Nat,i<l0.length→pred (rd_T43 l0 i)=true→true=l0.any pred from fun i h hp=>by rw [hrd i h] at hp;exact (List.any_eq_true.2 ⟨_,List.getElem_mem h,hp⟩).symm)
 have HZ:=Aside0.mk (show (∀ i:Nat,i<l0.length→pred (rd_T43 l0 i)=false)→false=l0.any pred from fun h=>by
  symm
  rw [List.any_eq_false]
  intro x hx
  obtain ⟨j,hj,rfl⟩:=List.mem_iff_getElem.1 hx
  have:=h j hj
  rw [hrd j hj] at this
  simp [this])
 clear hr0 hc0 hrd
 have HPA:=Aside0.mk HP
 clear HP
 have HB:=Aside0.mk (Below.refl w.heap.size w)
 go_enter Tryz.func81,Tryz.ntmps81
 go_wp2
 go_loopg [5,8] l0.length (fun kq _ v8 w'=>∃ (i:Nat),v8 = .int .i64 i∧Aside0 (kq + i=l0.length)∧Aside0 (∀ j:Nat,j<i→pred (rd_T43 l0 j)=false)∧Aside0 (Below w.heap.size w w'))
 case atStart=>exact ⟨0,rfl,⟨by omega⟩,⟨fun j h=>by omega⟩,HB⟩
 case round=>
  clear HB
  obtain ⟨i,rfl,HK,HN,HB⟩:=hrel
  by_cases hi:i<l0.length
  ·have p200:(0:Int)≤(i:Int):=by omega
   have q200:(i:Int)<(l0.length:Int):=by omega
   obtain ⟨ad200,A200,c200,e200,hx200_0,hl200,hC200⟩:=at_T43 HR0.out (i:Int) p200 q200
   cases e200
   replace hx200_0:=(HB.out.cell (World.block_lt_of_cell? w _ hx200_0)).trans hx200_0
   simp only [Int.toNat_natCast] at hx200_0
   have hcall:=HPA.out i hi HN.out wr HB.out A200 c200 hl200 (Kd.C_below hC200 HB.out)
   clear hl200 hC200
   cases hq:pred (rd_T43 l0 i) with
   | true=>
    rw [hq] at hcall
    have HQ:=Aside0.mk hq
    clear hq
    go_wp2_with ((with_reducible refine hcall.mono ?_);rintro e w' ⟨rfl,hb'⟩)
    go_ret
    exact ⟨_,rfl,by rw [← HY.out i hi HQ.out,decide_eq_true_eq];omega,hb'⟩
   | false=>
    rw [hq] at hcall
    have HQ:=Aside0.mk hq
    clear hq
    go_wp2_with ((with_reducible refine hcall.mono ?_);rintro e w' ⟨rfl,hb'⟩)
    go_roundg (gk - 1)
    case measure=>have:=HK.out;omega
    case rel=>
     refine ⟨i + 1,by go_num,⟨by have:=HK.out;omega⟩,⟨fun j h=>?_⟩,⟨hb'⟩⟩
     rcases Nat.lt_or_ge j i with hj|hj
     ·exact HN.out j hj
     ·obtain rfl:j=i:=by omega
      exact HQ.out
  ·have hltz:¬ (i:Int)<(l0.length:Int):=by omega
   go_wp2
   go_ret
   refine ⟨_,rfl,?_,HB.out⟩
   rw [← HZ.out (fun j hj=>HN.out j (by omega))]
   decide
def FG.l0 (k:Nat):List S43→Option Bool
 | []=>some false
 | t :: ts=>(Gb.f k t.f0).bind fun b=>if b=true then some true else FG.l0 k ts
def FG.f (k:Nat) (l0:List S43):Option Bool:=FG.l0 k l0
theorem FG.mono:∀ a0 k,LeO (FG.f k a0) (FG.f (k + 1) a0):=by
 intro a0 k
 unfold FG.f
 induction a0 with
 | nil=>exact LeO.refl _
 | cons t ts ih=>
  simp only [FG.l0]
  exact LeO.bind (Gb.mono _ _) (fun b=>LeO.ite (LeO.refl _) ih)
def FG.p (k:Nat) (x:S43):Bool:=(Gb.f k x.f0).getD false
theorem FG.any_ (k:Nat):∀ (l:List S43) (r:Bool),FG.l0 k l=some r→r=l.any (FG.p k)∧∀ i (h:i<l.length),(∀ j (h2:j<l.length),j<i→FG.p k l[j]=false)→Gb.f k (l[i]).f0=some (FG.p k l[i])
 | [],r,h=>by
  obtain rfl:=Option.some.inj h
  exact ⟨rfl,fun i h=>absurd h (by simp)⟩
 | t :: ts,r,h=>by
  simp only [FG.l0] at h
  obtain ⟨b,hb,h⟩:=Option.bind_eq_some_iff.1 h
  have hp:FG.p k t=b:=by unfold FG.p;rw [hb];rfl
  cases b with
  | true=>
   rw [if_pos rfl] at h
   obtain rfl:=Option.some.inj h
   refine ⟨by simp [hp],fun i hi hj=>?_⟩
   cases i with
   | zero=>show _=some (FG.p k t);rw [hp];exact hb
   | succ i=>have:=hj 0 (by simp) (by omega);rw [List.getElem_cons_zero,hp] at this;cases this
  | false=>
   rw [if_neg (by simp)] at h
   obtain ⟨h1,h2⟩:=FG.any_ k ts r h
   refine ⟨by rw [List.any_cons,hp,Bool.false_or];exact h1,fun i hi hj=>?_⟩
   cases i with
   | zero=>show _=some (FG.p k t);rw [hp];exact hb
   | succ i=>exact h2 i (by simpa using hi) (fun j h3 h4=>by have:=hj (j + 1) (by simpa using h3) (by omega);simpa using this)
set_option maxHeartbeats 800000 in
set_option maxRecDepth 100000 in
theorem FG.calls (k:Nat) (A0:Option Addr) (c0:Nat) (l0:List S43) (r:Bool) (w:World) (hr0:Kd.C k43 w A0 l0.length l0) (hc0:l0.length≤c0) (h:FG.f k l0=some r) :
 Calls Tryz.prog 59 #[.slice A0 l0.length c0,.func (Fn.func 57) #[] #[]] w fun e w'=>e = .returned (.bool r)∧Below w.heap.size w w':=by
 have eg:∀ args w,(callFunc 57 args).run Tryz.prog w = .ok (.enter 57 args) w:=enters_of Tryz.func57 (by kernel_rfl) rfl
 obtain ⟨hany,hat⟩:=FG.any_ k l0 r h
 have hrd:∀ i:Nat,∀ h:i<l0.length,rd_T43 l0 (i:Int)=l0[i]:=fun i h=>by simp [rd_T43,h]
 have hcon:=idx_ct.calls_ (FG.p k) 57 A0 c0 l0 w hr0 hc0 eg (fun i hi hn W hb A1 c1 hl1 hC1=>(Gb.calls k A1 c1 (rd_T43 l0 i).f0 (FG.p k (rd_T43 l0 i)) W hC1 hl1 (by
  rw [hrd i hi]
  exact hat i hi (fun j h2 h3=>by have:=hn j h3;rwa [hrd j h2] at this))).mono fun e W' h=>⟨h.1,hb.trans (h.2.mono hb.size)⟩)
 subst hany
 clear hr0 hc0 eg h hat hrd
 generalize l0.any (FG.p k)=r at hcon ⊢
 go_enter Tryz.func59,Tryz.ntmps59
 go_wp2_with ((with_reducible refine hcon.mono ?_);rintro e w' ⟨q,rfl,hq,hb'⟩;subst hq)
 go_ret
 exact ⟨rfl,hb'⟩
def Gi.f (a0:Int):Option (Bool):=if a0≥0 then (some (decide (a0<3))) else (some false)
theorem Gi.calls (a0:Int) (r:Bool) (w:World) (h:Gi.f a0=some r) :
 Calls Tryz.prog 103 #[.int .i64 a0] w fun e w'=>e = .returned (.bool r)∧Drawn0 w w':=by
 have H:(if a0≥0 then (some (decide (a0<3))) else (some false))=some r:=h
 clear h
 by_cases c2:a0≥0
 ·rw [if_pos c2] at H
  have c2b0:=decide_eq_true c2
  clear c2
  obtain rfl:=Option.some.inj H
  go_enter Tryz.func103,Tryz.ntmps103
  go_wp2
  go_ret
  exact ⟨by first|rfl|(simp;done)|(simp [*];done),by repeat (first|exact Drawn0.refl _|apply Drawn0.step)⟩
 ·rw [if_neg c2] at H
  have c2b0:=decide_eq_false c2
  clear c2
  obtain rfl:=Option.some.inj H
  go_enter Tryz.func103,Tryz.ntmps103
  go_wp2
  go_ret
  exact ⟨by first|rfl|(simp;done)|(simp [*];done),by repeat (first|exact Drawn0.refl _|apply Drawn0.step)⟩
def Gq.f (a0_0:Int) (a0_1:ByteArray) (a0_2:ByteArray) (a0_3:Bool):Option (Bool):=(Gi.f a0_0).bind fun a=>(if a=true then ((F4.f a0_1).bind fun b=>(if b=true then ((F8.f a0_2).bind fun c=>(if c=true then (if a0_3=true then (some (a0_2.toList == ([]:List UInt8))) else (some true)) else (some false))) else (some false))) else (some false))
theorem Gq.calls (a0_0:Int) (a0_1:ByteArray) (a0_2:ByteArray) (a0_3:Bool) (r:Bool) (w:World) (h:Gq.f a0_0 a0_1 a0_2 a0_3=some r) :
 Calls Tryz.prog 84 #[.agg #[.int .i64 a0_0,.string a0_1,.string a0_2,.bool a0_3]] w fun e w'=>e = .returned (.bool r)∧Below w.heap.size w w':=by
 have hu72:=Tryz.underlying72
 have HB:=mk0 (Below.refl w.heap.size w)
 have H:((Gi.f a0_0).bind fun af=>(if af=true then ((F4.f a0_1).bind fun ag=>(if ag=true then ((F8.f a0_2).bind fun ah=>(if ah=true then (if a0_3=true then (some (a0_2.toList == ([]:List UInt8))) else (some true)) else (some false))) else (some false))) else (some false)))=some r:=h
 clear h
 replace H:=ob_ H
 obtain ⟨af,A2,H⟩:=H
 try dsimp only at H
 by_cases c3:af=true
 ·subst c3
  rw [if_pos rfl] at H
  replace H:=ob_ H
  obtain ⟨ag,A4,H⟩:=H
  try dsimp only at H
  by_cases c5:ag=true
  ·subst c5
   rw [if_pos rfl] at H
   replace H:=ob_ H
   obtain ⟨ah,A6,H⟩:=H
   try dsimp only at H
   by_cases c7:ah=true
   ·subst c7
    rw [if_pos rfl] at H
    by_cases c8:a0_3=true
    ·subst c8
     rw [if_pos rfl] at H
     obtain rfl:=Option.some.inj H
     go_enter Tryz.func84,Tryz.ntmps84
     go_wp2_with (first|((with_reducible refine gate_dst (N:=1) rfl ?_);refine bx_ (N:=1) (cs:=#[.int .i64 a0_0,.string a0_1,.string a0_2,.bool true]) (t:=72) (h:=?_);intro ac hg w9 hbox hb;have ny2_:=mk0 (gz_ HB hg);have ab:=mk0 (gz_ HB hg);replace HB:=mk0 (bt_ (b_ HB) hb);have aa:=mk0 (hbox);have ad:=ny2_;have ae:=ab;clear ny2_ ab hb hbox hg;obtain ⟨ai,aj,ak,al,am,an,ao,ap⟩:=c4_ aa)|((with_reducible refine gate_callee (f:=103) rfl ?_);refine gL_ (some 5) Tryz.func103 #[.int .i64 a0_0] (h:=?_);(with_reducible refine (Gi.calls a0_0 true _ A2.out).mono ?_);rintro e w' ⟨rfl,⟨nd,rfl⟩⟩;refine ⟨_,rfl,?_⟩)|(go_at_call 39;(with_reducible refine (F4.calls a0_1 true _ A4.out).mono ?_);rintro e w' ⟨rfl,⟨nd,rfl⟩⟩)|(go_at_call 104;(with_reducible refine (F8.calls a0_2 true _ A6.out).mono ?_);rintro e w' ⟨rfl,⟨nd,rfl⟩⟩))
     go_ret
     exact ⟨sa_,b_ HB⟩
    ·replace c8:=Bool.eq_false_iff.mpr c8
     subst c8
     rw [if_neg nf_] at H
     obtain rfl:=Option.some.inj H
     go_enter Tryz.func84,Tryz.ntmps84
     go_wp2_with (first|((with_reducible refine gate_dst (N:=1) rfl ?_);refine bx_ (N:=1) (cs:=#[.int .i64 a0_0,.string a0_1,.string a0_2,.bool false]) (t:=72) (h:=?_);intro ac hg a6 hbox hb;have ny2_:=mk0 (gz_ HB hg);have ab:=mk0 (gz_ HB hg);replace HB:=mk0 (bt_ (b_ HB) hb);have aa:=mk0 (hbox);have ad:=ny2_;have ae:=ab;clear ny2_ ab hb hbox hg;obtain ⟨aq,ar,au,av,aw,ax,ay,az⟩:=c4_ aa)|((with_reducible refine gate_callee (f:=103) rfl ?_);refine gL_ (some 5) Tryz.func103 #[.int .i64 a0_0] (h:=?_);(with_reducible refine (Gi.calls a0_0 true _ A2.out).mono ?_);rintro e w' ⟨rfl,⟨nd,rfl⟩⟩;refine ⟨_,rfl,?_⟩)|(go_at_call 39;(with_reducible refine (F4.calls a0_1 true _ A4.out).mono ?_);rintro e w' ⟨rfl,⟨nd,rfl⟩⟩)|(go_at_call 104;(with_reducible refine (F8.calls a0_2 true _ A6.out).mono ?_);rintro e w' ⟨rfl,⟨nd,rfl⟩⟩))
     go_ret
     exact ⟨sa_,b_ HB⟩
   ·replace c7:=Bool.eq_false_iff.mpr c7
    subst c7
    rw [if_neg nf_] at H
    obtain rfl:=Option.some.inj H
    go_enter Tryz.func84,Tryz.ntmps84
    go_wp2_with (first|((with_reducible refine gate_dst (N:=1) rfl ?_);refine bx_ (N:=1) (cs:=#[.int .i64 a0_0,.string a0_1,.string a0_2,.bool a0_3]) (t:=72) (h:=?_);intro ac hg a7 hbox hb;have ny2_:=mk0 (gz_ HB hg);have ab:=mk0 (gz_ HB hg);replace HB:=mk0 (bt_ (b_ HB) hb);have aa:=mk0 (hbox);have ad:=ny2_;have ae:=ab;clear ny2_ ab hb hbox hg;obtain ⟨aA,aC,aD,aE,aG,aH,aI,aJ⟩:=c4_ aa)|((with_reducible refine gate_callee (f:=103) rfl ?_);refine gL_ (some 5) Tryz.func103 #[.int .i64 a0_0] (h:=?_);(with_reducible refine (Gi.calls a0_0 true _ A2.out).mono ?_);rintro e w' ⟨rfl,⟨nd,rfl⟩⟩;refine ⟨_,rfl,?_⟩)|(go_at_call 39;(with_reducible refine (F4.calls a0_1 true _ A4.out).mono ?_);rintro e w' ⟨rfl,⟨nd,rfl⟩⟩)|(go_at_call 104;(with_reducible refine (F8.calls a0_2 false _ A6.out).mono ?_);rintro e w' ⟨rfl,⟨nd,rfl⟩⟩))
    go_ret
    exact ⟨sa_,b_ HB⟩
  ·replace c5:=Bool.eq_false_iff.mpr c5
   subst c5
   rw [if_neg nf_] at H
   obtain rfl:=Option.some.inj H
   go_enter Tryz.func84,Tryz.ntmps84
   go_wp2_with (first|((with_reducible refine gate_dst (N:=1) rfl ?_);refine bx_ (N:=1) (cs:=#[.int .i64 a0_0,.string a0_1,.string a0_2,.bool a0_3]) (t:=72) (h:=?_);intro ac hg a8 hbox hb;have ny2_:=mk0 (gz_ HB hg);have ab:=mk0 (gz_ HB hg);replace HB:=mk0 (bt_ (b_ HB) hb);have aa:=mk0 (hbox);have ad:=ny2_;have ae:=ab;clear ny2_ ab hb hbox hg;obtain ⟨aK,aM,aN,aQ,aR,aT,aU,aV⟩:=c4_ aa)|((with_reducible refine gate_callee (f:=103) rfl ?_);refine gL_ (some 5) Tryz.func103 #[.int .i64 a0_0] (h:=?_);(with_reducible refine (Gi.calls a0_0 true _ A2.out).mono ?_);rintro e w' ⟨rfl,⟨nd,rfl⟩⟩;refine ⟨_,rfl,?_⟩)|(go_at_call 39;(with_reducible refine (F4.calls a0_1 false _ A4.out).mono ?_);rintro e w' ⟨rfl,⟨nd,rfl⟩⟩))
   go_ret
   exact ⟨sa_,b_ HB⟩
 ·replace c3:=Bool.eq_false_iff.mpr c3
  subst c3
  rw [if_neg nf_] at H
  obtain rfl:=Option.some.inj H
  go_enter Tryz.func84,Tryz.ntmps84
  go_wp2_with (first|((with_reducible refine gate_dst (N:=1) rfl ?_);refine bx_ (N:=1) (cs:=#[.int .i64 a0_0,.string a0_1,.string a0_2,.bool a0_3]) (t:=72) (h:=?_);intro ac hg a9 hbox hb;have ny2_:=mk0 (gz_ HB hg);have ab:=mk0 (gz_ HB hg);replace HB:=mk0 (bt_ (b_ HB) hb);have aa:=mk0 (hbox);have ad:=ny2_;have ae:=ab;clear ny2_ ab hb hbox hg;obtain ⟨aW,aX,aY,aZ,a2,a3,a4,a5⟩:=c4_ aa)|((with_reducible refine gate_callee (f:=103) rfl ?_);refine gL_ (some 5) Tryz.func103 #[.int .i64 a0_0] (h:=?_);(with_reducible refine (Gi.calls a0_0 false _ A2.out).mono ?_);rintro e w' ⟨rfl,⟨nd,rfl⟩⟩;refine ⟨_,rfl,?_⟩))
  go_ret
  exact ⟨sa_,b_ HB⟩
def Gr.f (a0_0:Int) (a0_1:ByteArray) (a0_2:ByteArray) (a0_3:Bool):Option (Bool):=(Gq.f a0_0 a0_1 a0_2 a0_3).bind fun a=>(some (!a))
theorem Gr.calls (a0_0:Int) (a0_1:ByteArray) (a0_2:ByteArray) (a0_3:Bool) (r:Bool) (w:World) (h:Gr.f a0_0 a0_1 a0_2 a0_3=some r) :
 Calls Tryz.prog 83 #[.agg #[.int .i64 a0_0,.string a0_1,.string a0_2,.bool a0_3]] w fun e w'=>e = .returned (.bool r)∧Below w.heap.size w w':=by
 have hu72:=Tryz.underlying72
 have HB:=mk0 (Below.refl w.heap.size w)
 have H:((Gq.f a0_0 a0_1 a0_2 a0_3).bind fun ab=>(some (!ab)))=some r:=h
 clear h
 replace H:=ob_ H
 obtain ⟨ab,A2,H⟩:=H
 try dsimp only at H
 obtain rfl:=Option.some.inj H
 go_enter Tryz.func83,Tryz.ntmps83
 go_wp2_with (first|((with_reducible refine gate_dst (N:=1) rfl ?_);refine bx_ (N:=1) (cs:=#[.int .i64 a0_0,.string a0_1,.string a0_2,.bool a0_3]) (t:=72) (h:=?_);intro al hg w3 hbox hb;have ny2_:=mk0 (gz_ HB hg);have ac:=mk0 (gz_ HB hg);replace HB:=mk0 (bt_ (b_ HB) hb);have aa:=mk0 (hbox);have am:=ny2_;have an:=ac;clear ny2_ ac hb hbox hg;obtain ⟨ad,ae,af,ag,ah,ai,aj,ak⟩:=c4_ aa)|((with_reducible refine gate_callee (f:=84) rfl ?_);refine gL_ (some 4) Tryz.func84 #[.agg #[.int .i64 a0_0,.string a0_1,.string a0_2,.bool a0_3]] (h:=?_);(with_reducible refine (Gq.calls a0_0 a0_1 a0_2 a0_3 ab _ A2.out).mono ?_);rintro e w5 ⟨rfl,hb⟩;refine ⟨_,rfl,?_⟩;replace aa:=mk0 (u_ aa hb);replace HB:=mk0 (bt_ (b_ HB) hb);(try clear hb)))
 go_ret
 exact ⟨sa_,b_ HB⟩
-- NOT PRINTED: function 102 (api_Write_102)
def idxRes_cw {α:Type} (pred:α→Bool) (l:List α):Int:=if l.findIdx pred<l.length then (l.findIdx pred:Int) else -1
set_option maxHeartbeats 800000 in
set_option maxRecDepth 100000 in
theorem idx_cw.calls_ (pred:S72→Bool) (F:Nat) (A0:Option Addr) (c0:Nat) (l0:List S72) (w:World) (hr0:Kd.C k72 w A0 l0.length l0) (hc0:l0.length≤c0)
 (eg:∀ args w,(callFunc F args).run Tryz.prog w = .ok (.enter F args) w)
 (HP:∀ (x:S72) (W:World),Below w.heap.size w W→Calls Tryz.prog F #[.agg #[.int .i64 x.f0,.string x.f1,.string x.f2,.bool x.f3]] W fun e W'=>e = .returned (.bool (pred x))∧Below w.heap.size w W') :
 Calls Tryz.prog 102 #[.slice A0 l0.length c0,.func (Fn.func F) #[] #[]] w fun e w'=>e = .returned (.int .i64 (idxRes_cw pred l0))∧Below w.heap.size w w':=by
 have HR0:=Aside0.mk hr0
 have HC0:=Aside0.mk hc0
 have hlen:=hr0.2.1
 clear hr0 hc0
 have HPA:=Aside0.mk HP
 clear HP
 have HB:=Aside0.mk (Below.refl w.heap.size w)
 go_enter Tryz.func102,Tryz.ntmps102
 go_wp2
 go_loopg [5,8] l0.length (fun kq _ v8 w'=>∃ (i:Nat),v8 = .int .i64 i∧Aside0 (kq + i=l0.length)∧Aside0 (∀ j (h2:j<l0.length) (h:j<i),pred (l0[j])=false)∧Aside0 (Below w.heap.size w w'))
 case atStart=>exact ⟨0,rfl,⟨by omega⟩,⟨fun j _ h=>by omega⟩,HB⟩
 case round=>
  clear HB
  obtain ⟨i,rfl,HK,HN,HB⟩:=hrel
  by_cases hi:i<l0.length
  ·have p200:(0:Int)≤(i:Int):=by omega
   have q200:(i:Int)<(l0.length:Int):=by omega
   obtain ⟨ad200,e200,hx200_0,hx200_1,hx200_2,hx200_3⟩:=at_T72 HR0.out (i:Int) p200 q200
   cases e200
   replace hx200_0:=(HB.out.cell (World.block_lt_of_cell? w _ hx200_0)).trans hx200_0
   replace hx200_1:=(HB.out.cell (World.block_lt_of_cell? w _ hx200_1)).trans hx200_1
   replace hx200_2:=(HB.out.cell (World.block_lt_of_cell? w _ hx200_2)).trans hx200_2
   replace hx200_3:=(HB.out.cell (World.block_lt_of_cell? w _ hx200_3)).trans hx200_3
   simp only [Int.toNat_natCast] at hx200_0 hx200_1 hx200_2 hx200_3
   have hcall:=HPA.out (rd_T72 l0 i) wr HB.out
   have hrd:rd_T72 l0 i=l0[i]:=by simp [rd_T72,hi]
   have HRD:=Aside0.mk hrd
   clear hrd
   cases hq:pred (rd_T72 l0 i) with
   | true=>
    rw [hq] at hcall
    have HQ:=Aside0.mk hq
    clear hq
    go_wp2_with ((with_reducible refine hcall.mono ?_);rintro e w' ⟨rfl,hb'⟩)
    go_ret
    have e1:l0.findIdx pred=i:=(List.findIdx_eq hi).2 ⟨by rw [← HRD.out];exact HQ.out,fun j hj=>HN.out j (by omega) hj⟩
    exact ⟨by unfold idxRes_cw;rw [e1,if_pos hi];rfl,hb'⟩
   | false=>
    rw [hq] at hcall
    have HQ:=Aside0.mk hq
    clear hq
    go_wp2_with ((with_reducible refine hcall.mono ?_);rintro e w' ⟨rfl,hb'⟩)
    go_roundg (gk - 1)
    case measure=>have:=HK.out;omega
    case rel=>
     refine ⟨i + 1,by go_num,⟨by have:=HK.out;omega⟩,⟨fun j h2 h=>?_⟩,⟨hb'⟩⟩
     rcases Nat.lt_or_ge j i with hj|hj
     ·exact HN.out j h2 hj
     ·obtain rfl:j=i:=by omega
      rw [← HRD.out];exact HQ.out
  ·have hltz:¬ (i:Int)<(l0.length:Int):=by omega
   go_wp2
   go_ret
   have hil:i=l0.length:=by have:=HK.out;omega
   have e1:l0.findIdx pred=l0.length:=List.findIdx_eq_length.2 (fun x hx=>by
    obtain ⟨j,hj,rfl⟩:=List.mem_iff_getElem.1 hx
    exact HN.out j hj (by omega))
   exact ⟨by unfold idxRes_cw;rw [e1,if_neg (Nat.lt_irrefl _)];rfl,HB.out⟩
def F6.p (x:S72):Bool:=(Gr.f x.f0 x.f1 x.f2 x.f3).getD true
theorem F6.tot (x:S72):Gr.f x.f0 x.f1 x.f2 x.f3=some (F6.p x):=by
 unfold F6.p
 have:∃ b,Gr.f x.f0 x.f1 x.f2 x.f3=some b:=by
  obtain ⟨b1,h1⟩:∃ b,Gi.f x.f0=some b:=by unfold Gi.f;split <;> exact ⟨_,rfl⟩
  obtain ⟨b2,h2⟩:∃ b,F4.f x.f1=some b:=by unfold F4.f;split <;> exact ⟨_,rfl⟩
  obtain ⟨b3,h3⟩:∃ b,F8.f x.f2=some b:=⟨_,rfl⟩
  unfold Gr.f Gq.f
  rw [h1,h2,h3]
  simp only [Option.bind_some]
  cases b1 <;> cases b2 <;> cases b3 <;> cases x.f3 <;> exact ⟨_,rfl⟩
 obtain ⟨b,hb⟩:=this
 rw [hb];rfl
def F6.f (l0:List S72):Option Bool:=some (l0.any F6.p)
theorem F6.any_idx {α:Type} (p:α→Bool) (l:List α):decide ((0:Int)≤idxRes_cw p l)=l.any p:=by
 unfold idxRes_cw
 by_cases h:l.findIdx p<l.length
 ·rw [if_pos h]
  have h1:=List.findIdx_getElem (p:=p) (xs:=l) (w:=h)
  have h2:l.any p=true:=List.any_eq_true.2 ⟨_,List.getElem_mem h,h1⟩
  rw [h2];simp
 ·rw [if_neg h]
  have h1:l.findIdx p=l.length:=Nat.le_antisymm List.findIdx_le_length (by omega)
  have h2:l.any p=false:=by
   rw [List.any_eq_false]
   intro x hx
   have:=List.findIdx_eq_length.1 h1 x hx
   simp [this]
  rw [h2];simp
set_option maxHeartbeats 800000 in
set_option maxRecDepth 100000 in
theorem F6.calls (A0:Option Addr) (c0:Nat) (l0:List S72) (r:Bool) (w:World) (hr0:Kd.C k72 w A0 l0.length l0) (hc0:l0.length≤c0) (h:F6.f l0=some r) :
 Calls Tryz.prog 82 #[.slice A0 l0.length c0,.func (Fn.func 83) #[] #[]] w fun e w'=>e = .returned (.bool r)∧Below w.heap.size w w':=by
 have eg:∀ args w,(callFunc 83 args).run Tryz.prog w = .ok (.enter 83 args) w:=enters_of Tryz.func83 (by kernel_rfl) rfl
 have hcon:=idx_cw.calls_ F6.p 83 A0 c0 l0 w hr0 hc0 eg (fun x W hb=>((Gr.calls x.f0 x.f1 x.f2 x.f3 _ W (F6.tot x)).mono fun e W' h=>⟨h.1,hb.trans (h.2.mono hb.size)⟩))
 have hr:decide ((0:Int)≤idxRes_cw F6.p l0)=r:=by rw [F6.any_idx];exact Option.some.inj h
 clear hr0 hc0 eg h
 generalize idxRes_cw F6.p l0=q at hcon hr
 subst hr
 go_enter Tryz.func82,Tryz.ntmps82
 go_wp2_with ((with_reducible refine hcon.mono ?_);rintro e w' ⟨rfl,hb'⟩)
 go_ret
 exact ⟨rfl,hb'⟩
end Go.Proofs.YtbaecdcfefmcgaaGreat.PVrd
