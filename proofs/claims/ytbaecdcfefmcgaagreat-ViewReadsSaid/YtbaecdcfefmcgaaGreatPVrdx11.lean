import Derived.Test.YtbaecdcfefmcgaaGreatPVrdx0
namespace Go.Proofs.YtbaecdcfefmcgaaGreat.PVrd
open Go.RowKit Go.Proofs.YtbaecdcfefmcgaaGreatW.PrintWords Go.Proofs.YtbaecdcfefmcgaaGreatW.PrintLast Go.Proofs.YtbaecdcfefmcgaaGreatW.PrintMore
attribute [local go_sem] max2_int min2_int max_two min_two max_three min_three max_four min_four
set_option maxHeartbeats 8000000
set_option maxRecDepth 100000
set_option linter.unusedVariables false
set_option linter.unusedSimpArgs false
mutual
def Ft.l0:Nat→Int→ByteArray→Int→List (S72)→List Int→Option (Int×ByteArray×ByteArray×Bool×Bool)
 | 0,_,_,_,_,_=>none
 | k + 1,c,d,a,b,e=>if a≥0 then (if 0≤a then (if a<(b.length:Int) then (if ((rd_T72 b a).f0)=c then (Ft.j1 k c d a (((rd_T72 b a).f1).toList == d.toList) b e) else (Ft.j1 k c d a false b e)) else (none)) else (none)) else (some (0,(⟨#[]⟩:ByteArray),(⟨#[]⟩:ByteArray),false,false))
def Ft.j1:Nat→Int→ByteArray→Int→Bool→List (S72)→List Int→Option (Int×ByteArray×ByteArray×Bool×Bool)
 | 0,_,_,_,_,_,_=>none
 | k + 1,c,d,a,e,b,f=>if e=true then (if 0≤a then (if a<(b.length:Int) then (some ((rd_T72 b a).f0,(rd_T72 b a).f1,(rd_T72 b a).f2,(rd_T72 b a).f3,true)) else (none)) else (none)) else (Ft.l0 k c d (wrap64 (a - 1)) b f)
end
def Ft.f (k:Nat) (l0_0:List (S72)) (l0_1:List Int) (a1:Int) (a2:ByteArray):Option (Int×ByteArray×ByteArray×Bool×Bool):=Ft.l0 k a1 a2 (wrap64 ((l0_0.length:Int) - 1)) l0_0 l0_1
theorem Ft.mono_l:∀ k,(∀ y0 y1 y2 y3 y4,LeO (Ft.l0 k y0 y1 y2 y3 y4) (Ft.l0 (k + 1) y0 y1 y2 y3 y4))∧(∀ y0 y1 y2 y3 y4 y5,LeO (Ft.j1 k y0 y1 y2 y3 y4 y5) (Ft.j1 (k + 1) y0 y1 y2 y3 y4 y5))
 | 0=>⟨fun _ _ _ _ _ r h=>by simp [Ft.l0] at h,fun _ _ _ _ _ _ r h=>by simp [Ft.j1] at h⟩
 | k + 1=>by
  obtain ⟨ih0,ih1⟩:=Ft.mono_l k
  refine ⟨?_,?_⟩
  all_goals (intros;first|unfold Ft.l0|unfold Ft.j1)
  all_goals exact mz_
theorem Ft.mono:∀ a0 a1 a2 a3 k,LeO (Ft.f k a0 a1 a2 a3) (Ft.f (k + 1) a0 a1 a2 a3):=by
 intro a0 a1 a2 a3 k
 obtain ⟨ih0,ih1⟩:=Ft.mono_l k
 unfold Ft.f
 exact mz_
theorem Ft.calls (k:Nat) (A0_0:Option Addr) (c0_0:Nat) (l0_0:List (S72)) (A0_1:Option Addr) (c0_1:Nat) (l0_1:List Int) (a1:Int) (a2:ByteArray) (r1:Int) (r2:ByteArray) (r3:ByteArray) (r4:Bool) (r5:Bool) (w:World) (hr0_0:Kd.C k72 w A0_0 l0_0.length l0_0) (hc0_0:l0_0.length≤c0_0) (hr0_1:Kd.C (Kd.int .i64) w A0_1 l0_1.length l0_1) (hc0_1:l0_1.length≤c0_1) (h:Ft.f k l0_0 l0_1 a1 a2=some (r1,r2,r3,r4,r5)) :
 Calls Tryz.prog 55 #[.agg #[.slice A0_0 l0_0.length c0_0,.slice A0_1 l0_1.length c0_1],.int .i64 a1,.string a2] w fun e w'=>e = .returned (.tuple #[.agg #[.int .i64 r1,.string r2,.string r3,.bool r4],.bool r5])∧Below w.heap.size w w':=by
 have hu34:=Tryz.underlying34
 have hu72:=Tryz.underlying72
 have ap:=mk0 hr0_0
 have bD:=mk0 hc0_0
 clear hr0_0 hc0_0
 have bE:=mk0 hr0_1
 have bF:=mk0 hc0_1
 clear hr0_1 hc0_1
 have HB:=mk0 (Below.refl w.heap.size w)
 have H:(Ft.l0 k a1 a2 (wrap64 ((l0_0.length:Int) - 1)) l0_0 l0_1)=some (r1,r2,r3,r4,r5):=h
 clear h
 have H':=mk0 H
 clear H
 go_enter Tryz.func55,Tryz.ntmps55
 go_wp2_with (first|((with_reducible refine gate_dst (N:=3) rfl ?_);refine bx_ (N:=3) (cs:=#[.slice A0_0 l0_0.length c0_0,.slice A0_1 l0_1.length c0_1]) (t:=34) (h:=?_);intro aH hg w4 hbox hb;have ny2_:=mk0 (gz_ HB hg);have aP:=mk0 (gz_ HB hg);replace HB:=mk0 (bt_ (b_ HB) hb);have ae:=mk0 (hbox);have bG:=ny2_;have bH:=aP;clear ny2_ aP;clear hb hbox hg)|((with_reducible refine gate_dst (N:=6) rfl ?_);refine bx_ (N:=6) (cs:=#[.int .i64 0,.string (⟨#[]⟩:ByteArray),.string (⟨#[]⟩:ByteArray),.bool false]) (t:=72) (h:=?_);intro aq hg w5 hbox hb;have aP:=mk0 (gz_ HB hg);have a4:=mk0 (gz_ HB hg);have a5:=mk0 (ne1_ ae hg);have a6:=mk0 (ne2_ ae hg);replace ae:=mk0 (u_ ae hb);replace HB:=mk0 (bt_ (b_ HB) hb);have ai:=mk0 (hbox);have bI:=a4;have ag:=a5;have ah:=a6;clear aP a4 a5 a6 hb hbox hg;have bW:=ag.out;have bX:=ah.out;obtain ⟨aD,aE,aF,aG⟩:=c2_ ae))
 go_loopg [8] k (fun kq v8 w'=>∃ (aa:Int) (af:Int) (ad:ByteArray) (ac:ByteArray) (ab:Bool),v8 = .int .i64 aa∧Fc (Ft.l0 kq a1 a2 aa l0_0 l0_1=some (r1,r2,r3,r4,r5))∧Fc (kq≤k)∧Fc (w'.heap[aH]? = some (.cells #[(.slice A0_0 l0_0.length c0_0),(.slice A0_1 l0_1.length c0_1)] 34 (0,0)))∧Fc (w'.heap[aq]? = some (.cells #[.int .i64 af,.string ad,.string ac,.bool ab] 72 (0,0)))∧Fc (Below w.heap.size w w'))
 case atStart=>exact ⟨(wrap64 ((l0_0.length:Int) - 1)),(0),((⟨#[]⟩:ByteArray)),((⟨#[]⟩:ByteArray)),(false),sm_,H',⟨Nat.le_refl _⟩,⟨h_ ae⟩,⟨h_ ai⟩,⟨b_ HB⟩⟩
 case round=>
  clear H'
  try clear aD
  try clear aE
  try clear aF
  try clear aG
  obtain ⟨aa,af,ad,ac,ab,rfl,HA,aQ,ae,ai,HB⟩:=hrel
  cases gk with
  | zero=>exact absurd HA.out (by simp [Ft.l0])
  | succ k1=>
   have H:=HA.out
   clear HA
   simp only [Ft.l0] at H
   as_aux_lemma=>
    by_cases c8:aa≥0
    ·rw [if_pos c8] at H
     have aW:=decide_eq_true c8
     clear c8
     have HC9:=mk0 H
     clear H
     go_upto_region 4 with (fail)
     go_cut [34] (fun v34 wc=>∃ (kq:Nat) (ar:Bool),v34 = .bool ar∧Fc (Ft.j1 kq a1 a2 aa ar l0_0 l0_1=some (r1,r2,r3,r4,r5))∧Fc (kq≤k1)∧Fc (wc.heap[aH]? = some (.cells #[(.slice A0_0 l0_0.length c0_0),(.slice A0_1 l0_1.length c0_1)] 34 (0,0)))∧Fc (wc.heap[aq]? = some (.cells #[.int .i64 af,.string ad,.string ac,.bool ab] 72 (0,0)))∧Fc (Below w.heap.size w wc))
     case first=>
      have H:=HC9.out
      clear HC9
      by_cases aR:0≤aa
      ·rw [if_pos aR] at H
       have aI:=decide_eq_true aR
       clear aR
       (first|rw [aI]|(simp only [i64_w,i32_w];rw [aI])|skip)
       by_cases aS:aa<(l0_0.length:Int)
       ·rw [if_pos aS] at H
        have bJ:=decide_eq_true aS
        clear aS
        by_cases aC:((rd_T72 l0_0 aa).f0)=a1
        ·rw [if_pos aC] at H
         have aX:=beq_iff_eq.mpr aC
         have aY:=bne_eq_false_iff_eq.mpr aC
         clear aC
         have H':=mk0 H
         clear H
         have bK:=ag.out
         have bL:=ah.out
         obtain ⟨a7,a8,a9,ba⟩:=c2_ ae
         have an:0≤(aa:Int):=od_
         have ao:aa<(l0_0.length:Int):=od_
         obtain ⟨aJ,aK,aj,ak,al,am⟩:=at_T72 ap.out aa an ao
         cases aK
         replace aj:=(bc_ HB aj :)
         replace ak:=(bc_ HB ak :)
         replace al:=(bc_ HB al :)
         replace am:=(bc_ HB am :)
         replace an:=eq_true an
         replace ao:=eq_true ao
         have aL:0≤(aa:Int):=od_
         have aM:aa<(l0_0.length:Int):=od_
         obtain ⟨aZ,bb,au,av,aw,ax⟩:=at_T72 ap.out aa aL aM
         obtain rfl:aJ=aZ:=(by injection bb)
         replace au:=(bc_ HB au :)
         replace av:=(bc_ HB av :)
         replace aw:=(bc_ HB aw :)
         replace ax:=(bc_ HB ax :)
         replace aL:=eq_true aL
         replace aM:=eq_true aM
         go_wp2
         go_meet
         case rel=>exact ⟨_,((((rd_T72 l0_0 aa).f1).toList == a2.toList)),sm_,H',⟨by have:=aQ.out;first|omega|exact Nat.le_refl _⟩,⟨h_ ae⟩,⟨h_ ai⟩,⟨b_ HB⟩⟩
        ·rw [if_neg aC] at H
         have aX:=beq_eq_false_iff_ne.mpr aC
         have aY:=bne_iff_ne.mpr aC
         have H':=mk0 H
         clear H
         have bM:=ag.out
         have bN:=ah.out
         obtain ⟨bc,bd,be,bf⟩:=c2_ ae
         have an:0≤(aa:Int):=od_
         have ao:aa<(l0_0.length:Int):=od_
         obtain ⟨aJ,aK,aj,ak,al,am⟩:=at_T72 ap.out aa an ao
         cases aK
         replace aj:=(bc_ HB aj :)
         replace ak:=(bc_ HB ak :)
         replace al:=(bc_ HB al :)
         replace am:=(bc_ HB am :)
         replace an:=eq_true an
         replace ao:=eq_true ao
         go_wp2
         go_meet
         case rel=>exact ⟨_,(false),sm_,H',⟨by have:=aQ.out;first|omega|exact Nat.le_refl _⟩,⟨h_ ae⟩,⟨h_ ai⟩,⟨b_ HB⟩⟩
       ·rw [if_neg aS] at H
        exact absurd H (by simp)
      ·rw [if_neg aR] at H
       exact absurd H (by simp)
     case rest=>
      clear HC9
      try clear c8
      try clear aW
      try clear aD
      try clear aE
      try clear aF
      try clear aG
      obtain ⟨kq,ar,rfl,HA,bg,ae,ai,HB⟩:=hcut
      cases kq with
      | zero=>exact absurd HA.out (by simp [Ft.j1])
      | succ bO=>
       have H:=HA.out
       clear HA
       simp only [Ft.j1] at H
       as_aux_lemma=>
        by_cases aT:ar=true
        ·subst aT
         rw [if_pos rfl] at H
         by_cases aU:0≤aa
         ·rw [if_pos aU] at H
          have bP:=decide_eq_true aU
          clear aU
          by_cases aV:aa<(l0_0.length:Int)
          ·rw [if_pos aV] at H
           have bQ:=decide_eq_true aV
           clear aV
           simp only [Option.some.injEq,Prod.mk.injEq] at H
           obtain ⟨rfl,rfl,rfl,rfl,rfl⟩:=H
           have bR:=ag.out
           have bS:=ah.out
           obtain ⟨bh,bi,bj,bk⟩:=c2_ ae
           have aN:0≤(aa:Int):=od_
           have aO:aa<(l0_0.length:Int):=od_
           obtain ⟨bT,bl,ay,az,aA,aB⟩:=at_T72 ap.out aa aN aO
           cases bl
           replace ay:=(bc_ HB ay :)
           replace az:=(bc_ HB az :)
           replace aA:=(bc_ HB aA :)
           replace aB:=(bc_ HB aB :)
           replace aN:=eq_true aN
           replace aO:=eq_true aO
           obtain ⟨bm,bn,bo,bp,bq,br,bs,bt⟩:=c4_ ai
           go_wp2
           refine bodyPost_ret (results_ct rfl _ _ aq 72 #[.int .i64 ((rd_T72 l0_0 aa).f0),.string ((rd_T72 l0_0 aa).f1),.string ((rd_T72 l0_0 aa).f2),.bool ((rd_T72 l0_0 aa).f3)] (0,0) _ rfl (pu_ (cs:=#[.int .i64 ((rd_T72 l0_0 aa).f0),.string ((rd_T72 l0_0 aa).f1),.string ((rd_T72 l0_0 aa).f2),.bool ab]) (pu_ (cs:=#[.int .i64 ((rd_T72 l0_0 aa).f0),.string ((rd_T72 l0_0 aa).f1),.string ac,.bool ab]) (pu_ (cs:=#[.int .i64 ((rd_T72 l0_0 aa).f0),.string ad,.string ac,.bool ab]) (pu_ (cs:=#[.int .i64 af,.string ad,.string ac,.bool ab]) (h_ ai))))) Tryz.underlying72 rfl (by kernel_rfl)) rfl ?_
           exact ⟨sa_,b_ HB⟩
          ·rw [if_neg aV] at H
           exact absurd H (by simp)
         ·rw [if_neg aU] at H
          exact absurd H (by simp)
        ·replace aT:=Bool.eq_false_iff.mpr aT
         subst aT
         rw [if_neg nf_] at H
         have H':=mk0 H
         clear H
         go_wp2
         go_roundg bO
         case measure=>have:=aQ.out;have:=bg.out;omega
         case rel=>exact ⟨(wrap64 (aa - 1)),(af),(ad),(ac),(ab),sm_,H',⟨by have:=aQ.out;have:=bg.out;omega⟩,⟨h_ ae⟩,⟨h_ ai⟩,⟨b_ HB⟩⟩
    ·rw [if_neg c8] at H
     have aW:=decide_eq_false c8
     clear c8
     simp only [Option.some.injEq,Prod.mk.injEq] at H
     obtain ⟨rfl,rfl,rfl,rfl,rfl⟩:=H
     have bU:=ah.out
     have bV:=ag.out
     obtain ⟨bu,bv,bw,bx,bz,bA,bB,bC⟩:=c4_ ai
     go_wp2
     refine bodyPost_ret (results_ct rfl _ _ aq 72 #[.int .i64 0,.string (⟨#[]⟩:ByteArray),.string (⟨#[]⟩:ByteArray),.bool false] (0,0) _ rfl (pu_ (cs:=#[.int .i64 0,.string (⟨#[]⟩:ByteArray),.string (⟨#[]⟩:ByteArray),.bool ab]) (pu_ (cs:=#[.int .i64 0,.string (⟨#[]⟩:ByteArray),.string ac,.bool ab]) (pu_ (cs:=#[.int .i64 0,.string ad,.string ac,.bool ab]) (pu_ (cs:=#[.int .i64 af,.string ad,.string ac,.bool ab]) (h_ ai))))) Tryz.underlying72 rfl (by kernel_rfl)) rfl ?_
     exact ⟨sa_,b_ HB⟩
end Go.Proofs.YtbaecdcfefmcgaaGreat.PVrd
