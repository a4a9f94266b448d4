import Derived.Test.YtbaecdcfefmcgaaGreatPVrdx0
namespace Go.Proofs.YtbaecdcfefmcgaaGreat.PVrd
open Go.RowKit Go.Proofs.YtbaecdcfefmcgaaGreatW.PrintWords Go.Proofs.YtbaecdcfefmcgaaGreatW.PrintLast Go.Proofs.YtbaecdcfefmcgaaGreatW.PrintMore
attribute [local go_sem] max2_int min2_int max_two min_two max_three min_three max_four min_four
set_option maxHeartbeats 8000000
set_option maxRecDepth 100000
set_option linter.unusedVariables false
set_option linter.unusedSimpArgs false
mutual
def Fe.l0:Nat→Int→Int→List (S83)→Option (Int)
 | 0,_,_,_=>none
 | k + 1,a,b,c=>if b<(c.length:Int) then (Fe.j1 k a b (decide (a<1048576)) c) else (Fe.j1 k a b false c)
def Fe.j1:Nat→Int→Int→Bool→List (S83)→Option (Int)
 | 0,_,_,_,_=>none
 | k + 1,c,a,d,b=>if d=true then (if 0≤a then (if a<(b.length:Int) then (Fe.l1 k (wrap64 ((wrap64 (c + (((rd_T83 b a).f1).length:Int))) + (wrap64 ((((rd_T83 b a).f0).size:Int) / 8)))) a 0 b) else (none)) else (none)) else (some c)
def Fe.l1:Nat→Int→Int→Int→List (S83)→Option (Int)
 | 0,_,_,_,_=>none
 | k + 1,c,a,d,b=>if 0≤a then (if a<(b.length:Int) then (if d<(((rd_T83 b a).f1).length:Int) then (Fe.j3 k c a d (decide (c<1048576)) b) else (Fe.j3 k c a d false b)) else (none)) else (none)
def Fe.j3:Nat→Int→Int→Int→Bool→List (S83)→Option (Int)
 | 0,_,_,_,_,_=>none
 | k + 1,d,a,c,e,b=>if e=true then (if 0≤a then (if a<(b.length:Int) then (if 0≤c then (if c<(((rd_T83 b a).f1).length:Int) then (Fe.l1 k (wrap64 (d + (wrap64 ((((rd_T78 ((rd_T83 b a).f1) c).f1).size:Int) / 8)))) a (wrap64 (c + 1)) b) else (none)) else (none)) else (none)) else (none)) else (Fe.l0 k d (wrap64 (a + 1)) b)
end
def Fe.f (k:Nat) (l0_0:List (S83)):Option (Int):=Fe.l0 k (l0_0.length:Int) 0 l0_0
theorem Fe.mono_l:∀ k,(∀ y0 y1 y2,LeO (Fe.l0 k y0 y1 y2) (Fe.l0 (k + 1) y0 y1 y2))∧(∀ y0 y1 y2 y3,LeO (Fe.j1 k y0 y1 y2 y3) (Fe.j1 (k + 1) y0 y1 y2 y3))∧(∀ y0 y1 y2 y3,LeO (Fe.l1 k y0 y1 y2 y3) (Fe.l1 (k + 1) y0 y1 y2 y3))∧(∀ y0 y1 y2 y3 y4,LeO (Fe.j3 k y0 y1 y2 y3 y4) (Fe.j3 (k + 1) y0 y1 y2 y3 y4))
 | 0=>⟨fun _ _ _ r h=>by simp [Fe.l0] at h,fun _ _ _ _ r h=>by simp [Fe.j1] at h,fun _ _ _ _ r h=>by simp [Fe.l1] at h,fun _ _ _ _ _ r h=>by simp [Fe.j3] at h⟩
 | k + 1=>by
  obtain ⟨ih0,ih1,ih2,ih3⟩:=Fe.mono_l k
  refine ⟨?_,?_,?_,?_⟩
  all_goals (intros;first|unfold Fe.l0|unfold Fe.j1|unfold Fe.l1|unfold Fe.j3)
  all_goals exact mz_
theorem Fe.mono:∀ a0 k,LeO (Fe.f k a0) (Fe.f (k + 1) a0):=by
 intro a0 k
 obtain ⟨ih0,ih1,ih2,ih3⟩:=Fe.mono_l k
 unfold Fe.f
 exact mz_
theorem Fe.calls (k:Nat) (A0_0:Option Addr) (c0_0:Nat) (l0_0:List (S83)) (r:Int) (w:World) (hr0_0:Kd.C k83 w A0_0 l0_0.length l0_0) (hc0_0:l0_0.length≤c0_0) (h:Fe.f k l0_0=some r) :
 Calls Tryz.prog 50 #[.agg #[.slice A0_0 l0_0.length c0_0]] w fun e w'=>e = .returned (.int .i64 r)∧Below w.heap.size w w':=by
 have hu43:=Tryz.underlying43
 have aq:=mk0 hr0_0
 have bQ:=mk0 hc0_0
 clear hr0_0 hc0_0
 have HB:=mk0 (Below.refl w.heap.size w)
 have H:(Fe.l0 k (l0_0.length:Int) 0 l0_0)=some r:=h
 clear h
 have H':=mk0 H
 clear H
 go_enter Tryz.func50,Tryz.ntmps50
 go_wp2_with (first|((with_reducible refine gate_dst (N:=1) rfl ?_);refine bx_ (N:=1) (cs:=#[.slice A0_0 l0_0.length c0_0]) (t:=43) (h:=?_);intro an hg w2 hbox hb;have ny2_:=mk0 (gz_ HB hg);have ay:=mk0 (gz_ HB hg);replace HB:=mk0 (bt_ (b_ HB) hb);have ab:=mk0 (hbox);have aY:=ny2_;have aZ:=ay;clear ny2_ ay hb hbox hg;obtain ⟨aj,ak⟩:=c1_ ab))
 repeat (go_quiet (first|((with_reducible refine gate_dst (N:=1) rfl ?_);refine bx_ (N:=1) (cs:=#[.slice A0_0 l0_0.length c0_0]) (t:=43) (h:=?_);intro an hg w2 hbox hb;have ny2_:=mk0 (gz_ HB hg);have ay:=mk0 (gz_ HB hg);replace HB:=mk0 (bt_ (b_ HB) hb);have ab:=mk0 (hbox);have aY:=ny2_;have aZ:=ay;clear ny2_ ay hb hbox hg;obtain ⟨aj,ak⟩:=c1_ ab));try go_wp2_with (first|((with_reducible refine gate_dst (N:=1) rfl ?_);refine bx_ (N:=1) (cs:=#[.slice A0_0 l0_0.length c0_0]) (t:=43) (h:=?_);intro an hg w2 hbox hb;have ny2_:=mk0 (gz_ HB hg);have ay:=mk0 (gz_ HB hg);replace HB:=mk0 (bt_ (b_ HB) hb);have ab:=mk0 (hbox);have aY:=ny2_;have aZ:=ay;clear ny2_ ay hb hbox hg;obtain ⟨aj,ak⟩:=c1_ ab)))
 go_loopg [3,4] k (fun kq v3 v4 w'=>∃ (aw:Int) (aa:Int),v3 = .int .i64 aw∧v4 = .int .i64 aa∧Fc (Fe.l0 kq aw aa l0_0=some r)∧Fc (kq≤k)∧Fc (w'.heap[an]? = some (.cells #[(.slice A0_0 l0_0.length c0_0)] 43 (0,0)))∧Fc (Below w.heap.size w w'))
 case atStart=>exact ⟨((l0_0.length:Int)),(0),sm_,sm_,H',⟨Nat.le_refl _⟩,⟨h_ ab⟩,⟨b_ HB⟩⟩
 case round=>
  clear H'
  try clear aj
  try clear ak
  obtain ⟨aw,aa,rfl,rfl,HA,az,ab,HB⟩:=hrel
  cases gk with
  | zero=>exact absurd HA.out (by simp [Fe.l0])
  | succ k1=>
   have H:=HA.out
   clear HA
   simp only [Fe.l0] at H
   as_aux_lemma=>
    have HC4:=mk0 H
    clear H
    go_upto_region 3 with (fail)
    repeat (go_quiet (fail);go_upto_region 3 with (fail))
    go_cut [17] (fun v17 wc=>∃ (kq:Nat) (ax:Bool),v17 = .bool ax∧Fc (Fe.j1 kq aw aa ax l0_0=some r)∧Fc (kq≤k1)∧Fc (wc.heap[an]? = some (.cells #[(.slice A0_0 l0_0.length c0_0)] 43 (0,0)))∧Fc (Below w.heap.size w wc))
    case first=>
     have H:=HC4.out
     clear HC4
     by_cases c5:aa<(l0_0.length:Int)
     ·rw [if_pos c5] at H
      have aA:=decide_eq_true c5
      clear c5
      (first|rw [aA]|(simp only [i64_w,i32_w];rw [aA])|skip)
      have H':=mk0 H
      clear H
      obtain ⟨bG,bH⟩:=c1_ ab
      go_wp2
      repeat (go_quiet (fail);try go_wp2)
      go_meet
      case rel=>exact ⟨_,(decide (aw<1048576)),sm_,H',⟨by have:=az.out;first|omega|exact Nat.le_refl _⟩,⟨h_ ab⟩,⟨b_ HB⟩⟩
     ·rw [if_neg c5] at H
      have aA:=decide_eq_false c5
      clear c5
      (first|rw [aA]|(simp only [i64_w,i32_w];rw [aA])|skip)
      have H':=mk0 H
      clear H
      obtain ⟨bI,bJ⟩:=c1_ ab
      go_wp2
      repeat (go_quiet (fail);try go_wp2)
      go_meet
      case rel=>exact ⟨_,(false),sm_,H',⟨by have:=az.out;first|omega|exact Nat.le_refl _⟩,⟨h_ ab⟩,⟨b_ HB⟩⟩
    case rest=>
     clear HC4
     try clear aj
     try clear ak
     obtain ⟨kq,ax,rfl,HA,aU,ab,HB⟩:=hcut
     cases kq with
     | zero=>exact absurd HA.out (by simp [Fe.j1])
     | succ bp=>
      have H:=HA.out
      clear HA
      simp only [Fe.j1] at H
      as_aux_lemma=>
       by_cases c8:ax=true
       ·subst c8
        rw [if_pos rfl] at H
        by_cases c9:0≤aa
        ·rw [if_pos c9] at H
         have bk:=decide_eq_true c9
         clear c9
         by_cases aV:aa<(l0_0.length:Int)
         ·rw [if_pos aV] at H
          have a1:=decide_eq_true aV
          clear aV
          have H':=mk0 H
          clear H
          obtain ⟨aB,aC⟩:=c1_ ab
          have aD:0≤(aa:Int):=od_
          have aE:aa<(l0_0.length:Int):=od_
          obtain ⟨ao,bK,bL,bq,al,ad,aF,aG⟩:=at_T83 aq.out aa aD aE
          cases bq
          replace al:=(bc_ HB al :)
          replace ad:=(bc_ HB ad :)
          have br:=mk0 aG
          have bs:=mk0 aF
          clear aG aF
          replace aD:=eq_true aD
          replace aE:=eq_true aE
          have aH:0≤(aa:Int):=od_
          have aI:aa<(l0_0.length:Int):=od_
          obtain ⟨bm,bM,bN,bt,am,ae,aJ,aK⟩:=at_T83 aq.out aa aH aI
          obtain rfl:ao=bm:=(by injection bt)
          replace am:=(bc_ HB am :)
          replace ae:=(bc_ HB ae :)
          have bu:=mk0 aK
          have bv:=mk0 aJ
          clear aK aJ
          replace aH:=eq_true aH
          replace aI:=eq_true aI
          have ea_:=Option.some.inj (ad.symm.trans ae)
          injection ea_ with ea_ en_ ec_
          subst ea_
          subst ec_
          clear en_
          go_wp2
          repeat (go_quiet (fail);try go_wp2)
          go_loopg [3,5] bp (fun kq v3 v5 w'=>∃ (ar:Int) (ac:Int),v3 = .int .i64 ar∧v5 = .int .i64 ac∧Fc (Fe.l1 kq ar aa ac l0_0=some r)∧Fc (kq≤bp)∧Fc (w'.heap[an]? = some (.cells #[(.slice (some ao) l0_0.length c0_0)] 43 (0,0)))∧Fc (Below w.heap.size w w'))
          case atStart=>exact ⟨(wrap64 ((wrap64 (aw + (((rd_T83 l0_0 aa).f1).length:Int))) + (wrap64 ((((rd_T83 l0_0 aa).f0).size:Int) / 8)))),(0),sm_,sm_,H',⟨Nat.le_refl _⟩,⟨h_ ab⟩,⟨b_ HB⟩⟩
          case round=>
           clear H'
           try clear c8
           try clear c9
           try clear bk
           try clear aV
           try clear a1
           try clear aB
           try clear aj
           try clear aC
           try clear ak
           try clear al
           try clear ad
           try clear am
           try clear ae
           try clear aD
           try clear aH
           try clear aE
           try clear aI
           obtain ⟨ar,ac,rfl,rfl,HA,aW,ab,HB⟩:=hrel
           cases gk with
           | zero=>exact absurd HA.out (by simp [Fe.l1])
           | succ k3=>
            have H:=HA.out
            clear HA
            simp only [Fe.l1] at H
            as_aux_lemma=>
             have HC12:=mk0 H
             clear H
             go_upto_region 7 with (fail)
             repeat (go_quiet (fail);go_upto_region 7 with (fail))
             go_cut [50] (fun v50 wc=>∃ (kq:Nat) (ap:Bool),v50 = .bool ap∧Fc (Fe.j3 kq ar aa ac ap l0_0=some r)∧Fc (kq≤k3)∧Fc (wc.heap[an]? = some (.cells #[(.slice (some ao) l0_0.length c0_0)] 43 (0,0)))∧Fc (Below w.heap.size w wc))
             case first=>
              have H:=HC12.out
              clear HC12
              by_cases bb:0≤aa
              ·rw [if_pos bb] at H
               have a2:=decide_eq_true bb
               clear bb
               (first|rw [a2]|(simp only [i64_w,i32_w];rw [a2])|skip)
               by_cases bc:aa<(l0_0.length:Int)
               ·rw [if_pos bc] at H
                have bR:=decide_eq_true bc
                clear bc
                by_cases aX:ac<(((rd_T83 l0_0 aa).f1).length:Int)
                ·rw [if_pos aX] at H
                 have bn:=decide_eq_true aX
                 clear aX
                 have H':=mk0 H
                 clear H
                 obtain ⟨bw,bx⟩:=c1_ ab
                 have au:0≤(aa:Int):=od_
                 have av:aa<(l0_0.length:Int):=od_
                 obtain ⟨aS,bd,be,a3,af,ag,ah,ai⟩:=at_T83 aq.out aa au av
                 obtain rfl:ao=aS:=(by injection a3)
                 replace af:=(bc_ HB af :)
                 replace ag:=(bc_ HB ag :)
                 have a4:=mk0 ai
                 have a5:=mk0 ah
                 clear ai ah
                 replace au:=eq_true au
                 replace av:=eq_true av
                 go_wp2
                 repeat (go_quiet (fail);try go_wp2)
                 go_meet
                 case rel=>exact ⟨_,(decide (ar<1048576)),sm_,H',⟨by have:=az.out;have:=aU.out;have:=aW.out;first|omega|exact Nat.le_refl _⟩,⟨h_ ab⟩,⟨b_ HB⟩⟩
                ·rw [if_neg aX] at H
                 have bn:=decide_eq_false aX
                 clear aX
                 have H':=mk0 H
                 clear H
                 obtain ⟨bz,bA⟩:=c1_ ab
                 have au:0≤(aa:Int):=od_
                 have av:aa<(l0_0.length:Int):=od_
                 obtain ⟨aS,bd,be,a3,af,ag,ah,ai⟩:=at_T83 aq.out aa au av
                 obtain rfl:ao=aS:=(by injection a3)
                 replace af:=(bc_ HB af :)
                 replace ag:=(bc_ HB ag :)
                 have a4:=mk0 ai
                 have a5:=mk0 ah
                 clear ai ah
                 replace au:=eq_true au
                 replace av:=eq_true av
                 go_wp2
                 repeat (go_quiet (fail);try go_wp2)
                 go_meet
                 case rel=>exact ⟨_,(false),sm_,H',⟨by have:=az.out;have:=aU.out;have:=aW.out;first|omega|exact Nat.le_refl _⟩,⟨h_ ab⟩,⟨b_ HB⟩⟩
               ·rw [if_neg bc] at H
                exact absurd H (by simp)
              ·rw [if_neg bb] at H
               exact absurd H (by simp)
             case rest=>
              clear HC12
              try clear c8
              try clear c9
              try clear bk
              try clear aV
              try clear a1
              try clear aB
              try clear aj
              try clear aC
              try clear ak
              try clear al
              try clear ad
              try clear am
              try clear ae
              try clear aD
              try clear aH
              try clear aE
              try clear aI
              obtain ⟨kq,ap,rfl,HA,aT,ab,HB⟩:=hcut
              cases kq with
              | zero=>exact absurd HA.out (by simp [Fe.j3])
              | succ bl=>
               have H:=HA.out
               clear HA
               simp only [Fe.j3] at H
               as_aux_lemma=>
                by_cases bf:ap=true
                ·subst bf
                 rw [if_pos rfl] at H
                 by_cases bg:0≤aa
                 ·rw [if_pos bg] at H
                  have bS:=decide_eq_true bg
                  clear bg
                  by_cases bh:aa<(l0_0.length:Int)
                  ·rw [if_pos bh] at H
                   have bT:=decide_eq_true bh
                   clear bh
                   by_cases bi:0≤ac
                   ·rw [if_pos bi] at H
                    have bU:=decide_eq_true bi
                    clear bi
                    by_cases bj:ac<(((rd_T83 l0_0 aa).f1).length:Int)
                    ·rw [if_pos bj] at H
                     have bV:=decide_eq_true bj
                     clear bj
                     have H':=mk0 H
                     clear H
                     obtain ⟨bB,bC⟩:=c1_ ab
                     have a6:0≤(aa:Int):=od_
                     have a7:aa<(l0_0.length:Int):=od_
                     obtain ⟨bo,bO,bP,bD,aL,aM,aN,aO⟩:=at_T83 aq.out aa a6 a7
                     obtain rfl:ao=bo:=(by injection bD)
                     replace aL:=(bc_ HB aL :)
                     replace aM:=(bc_ HB aM :)
                     have a8:=mk0 aO
                     have bE:=mk0 aN
                     clear aO aN
                     replace a6:=eq_true a6
                     replace a7:=eq_true a7
                     have a9:0≤(ac:Int):=od_
                     have ba:ac<(((rd_T83 l0_0 aa).f1).length:Int):=od_
                     obtain ⟨bW,bF,aP,aQ,aR⟩:=at_T78 a8.out ac a9 ba
                     cases bF
                     replace aP:=(bc_ HB aP :)
                     replace aQ:=(bc_ HB aQ :)
                     replace aR:=(bc_ HB aR :)
                     replace a9:=eq_true a9
                     replace ba:=eq_true ba
                     go_wp2
                     repeat (go_quiet (fail);try go_wp2)
                     go_roundg bl
                     case measure=>have:=az.out;have:=aU.out;have:=aW.out;have:=aT.out;omega
                     case rel=>exact ⟨(wrap64 (ar + (wrap64 ((((rd_T78 ((rd_T83 l0_0 aa).f1) ac).f1).size:Int) / 8)))),(wrap64 (ac + 1)),sm_,sm_,H',⟨by have:=az.out;have:=aU.out;have:=aW.out;have:=aT.out;omega⟩,⟨h_ ab⟩,⟨b_ HB⟩⟩
                    ·rw [if_neg bj] at H
                     exact absurd H (by simp)
                   ·rw [if_neg bi] at H
                    exact absurd H (by simp)
                  ·rw [if_neg bh] at H
                   exact absurd H (by simp)
                 ·rw [if_neg bg] at H
                  exact absurd H (by simp)
                ·replace bf:=Bool.eq_false_iff.mpr bf
                 subst bf
                 rw [if_neg nf_] at H
                 have H':=mk0 H
                 clear H
                 go_wp2
                 repeat (go_quiet (fail);try go_wp2)
                 go_roundg bl
                 case measure=>have:=az.out;have:=aU.out;have:=aW.out;have:=aT.out;omega
                 case rel=>exact ⟨(ar),(wrap64 (aa + 1)),sm_,sm_,H',⟨by have:=az.out;have:=aU.out;have:=aW.out;have:=aT.out;omega⟩,⟨h_ ab⟩,⟨b_ HB⟩⟩
         ·rw [if_neg aV] at H
          exact absurd H (by simp)
        ·rw [if_neg c9] at H
         exact absurd H (by simp)
       ·replace c8:=Bool.eq_false_iff.mpr c8
        subst c8
        rw [if_neg nf_] at H
        obtain rfl:=Option.some.inj H
        go_wp2
        repeat (go_quiet (fail);try go_wp2)
        go_ret
        exact ⟨sa_,b_ HB⟩
mutual
def Fu.l0:Nat→List (S43)→Int→Int→Option (Int)
 | 0,_,_,_=>none
 | k + 1,a,b,c=>if c<(a.length:Int) then (Fu.j1 k a b c (decide (b<1048576))) else (Fu.j1 k a b c false)
def Fu.j1:Nat→List (S43)→Int→Int→Bool→Option (Int)
 | 0,_,_,_,_=>none
 | k + 1,b,c,a,d=>if d=true then (if 0≤a then (if a<(b.length:Int) then ((Fe.f k ((rd_T43 b a).f0)).bind fun e=>(Fu.l0 k b (wrap64 (c + e)) (wrap64 (a + 1)))) else (none)) else (none)) else (some c)
end
def Fu.f (k:Nat) (l0:List (S43)):Option (Int):=Fu.l0 k l0 (l0.length:Int) 0
theorem Fu.mono_l:∀ k,(∀ y0 y1 y2,LeO (Fu.l0 k y0 y1 y2) (Fu.l0 (k + 1) y0 y1 y2))∧(∀ y0 y1 y2 y3,LeO (Fu.j1 k y0 y1 y2 y3) (Fu.j1 (k + 1) y0 y1 y2 y3))
 | 0=>⟨fun _ _ _ r h=>by simp [Fu.l0] at h,fun _ _ _ _ r h=>by simp [Fu.j1] at h⟩
 | k + 1=>by
  obtain ⟨ih0,ih1⟩:=Fu.mono_l k
  have:=@Fe.mono
  refine ⟨?_,?_⟩
  all_goals (intros;first|unfold Fu.l0|unfold Fu.j1)
  all_goals exact mz_
theorem Fu.mono:∀ a0 k,LeO (Fu.f k a0) (Fu.f (k + 1) a0):=by
 intro a0 k
 obtain ⟨ih0,ih1⟩:=Fu.mono_l k
 have:=@Fe.mono
 unfold Fu.f
 exact mz_
theorem Fu.calls (k:Nat) (A0:Option Addr) (c0:Nat) (l0:List (S43)) (r:Int) (w:World) (hr0:Kd.C k43 w A0 l0.length l0) (hc0:l0.length≤c0) (h:Fu.f k l0=some r) :
 Calls Tryz.prog 24 #[.slice A0 l0.length c0] w fun e w'=>e = .returned (.int .i64 r)∧Below w.heap.size w w':=by
 have hu43:=Tryz.underlying43
 have HR0:=mk0 hr0
 have HC0:=mk0 hc0
 clear hr0 hc0
 have HB:=mk0 (Below.refl w.heap.size w)
 have H:(Fu.l0 k l0 (l0.length:Int) 0)=some r:=h
 clear h
 have H':=mk0 H
 clear H
 go_enter Tryz.func24,Tryz.ntmps24
 go_wp2
 go_loopg [3,4] k (fun kq v3 v4 w'=>∃ (ab:Int) (aa:Int),v3 = .int .i64 ab∧v4 = .int .i64 aa∧Fc (Fu.l0 kq l0 ab aa=some r)∧Fc (kq≤k)∧Fc (Below w.heap.size w w'))
 case atStart=>exact ⟨((l0.length:Int)),(0),sm_,sm_,H',⟨Nat.le_refl _⟩,⟨b_ HB⟩⟩
 case round=>
  clear H'
  obtain ⟨ab,aa,rfl,rfl,HA,al,HB⟩:=hrel
  cases gk with
  | zero=>exact absurd HA.out (by simp [Fu.l0])
  | succ k1=>
   have H:=HA.out
   clear HA
   simp only [Fu.l0] at H
   as_aux_lemma=>
    have HC2:=mk0 H
    clear H
    go_upto_region 3 with (fail)
    go_cut [14] (fun v14 wc=>∃ (kq:Nat) (ac:Bool),v14 = .bool ac∧Fc (Fu.j1 kq l0 ab aa ac=some r)∧Fc (kq≤k1)∧Fc (Below w.heap.size w wc))
    case first=>
     have H:=HC2.out
     clear HC2
     by_cases c3:aa<(l0.length:Int)
     ·rw [if_pos c3] at H
      have ad:=decide_eq_true c3
      clear c3
      (first|rw [ad]|(simp only [i64_w,i32_w];rw [ad])|skip)
      have H':=mk0 H
      clear H
      go_wp2
      go_meet
      case rel=>exact ⟨_,(decide (ab<1048576)),sm_,H',⟨by have:=al.out;first|omega|exact Nat.le_refl _⟩,⟨b_ HB⟩⟩
     ·rw [if_neg c3] at H
      have ad:=decide_eq_false c3
      clear c3
      (first|rw [ad]|(simp only [i64_w,i32_w];rw [ad])|skip)
      have H':=mk0 H
      clear H
      go_wp2
      go_meet
      case rel=>exact ⟨_,(false),sm_,H',⟨by have:=al.out;first|omega|exact Nat.le_refl _⟩,⟨b_ HB⟩⟩
    case rest=>
     clear HC2
     obtain ⟨kq,ac,rfl,HA,ap,HB⟩:=hcut
     cases kq with
     | zero=>exact absurd HA.out (by simp [Fu.j1])
     | succ aq=>
      have H:=HA.out
      clear HA
      simp only [Fu.j1] at H
      as_aux_lemma=>
       by_cases c4:ac=true
       ·subst c4
        rw [if_pos rfl] at H
        by_cases c5:0≤aa
        ·rw [if_pos c5] at H
         have av:=decide_eq_true c5
         clear c5
         by_cases c6:aa<(l0.length:Int)
         ·rw [if_pos c6] at H
          have aw:=decide_eq_true c6
          clear c6
          replace H:=ob_ H
          obtain ⟨ao,A7,H⟩:=H
          try dsimp only at H
          have H':=mk0 H
          clear H
          have ah:0≤(aa:Int):=od_
          have ai:aa<(l0.length:Int):=od_
          obtain ⟨au,am,an,ar,ae,af,ag⟩:=at_T43 HR0.out aa ah ai
          cases ar
          replace ae:=(bc_ HB ae :)
          have aj:=mk0 ag
          have ak:=mk0 af
          clear ag af
          replace ah:=eq_true ah
          replace ai:=eq_true ai
          go_wp2_with (first|((with_reducible refine gate_callee (f:=50) rfl ?_);refine gL_ (some 22) Tryz.func50 #[.agg #[.slice am ((rd_T43 l0 aa).f0).length an]] (h:=?_);(with_reducible refine (Fe.calls aq _ _ ((rd_T43 l0 aa).f0) ao _ ?side1 ?side2 A7.out).mono ?_);(case side1=>exact cb_ aj HB);(case side2=>exact ak.out);rintro e w8 ⟨rfl,hb⟩;refine ⟨_,rfl,?_⟩;replace HB:=mk0 (bt_ (b_ HB) hb);(try clear hb)))
          go_roundg aq
          case measure=>have:=al.out;have:=ap.out;omega
          case rel=>exact ⟨(wrap64 (ab + ao)),(wrap64 (aa + 1)),sm_,sm_,H',⟨by have:=al.out;have:=ap.out;omega⟩,⟨b_ HB⟩⟩
         ·rw [if_neg c6] at H
          exact absurd H (by simp)
        ·rw [if_neg c5] at H
         exact absurd H (by simp)
       ·replace c4:=Bool.eq_false_iff.mpr c4
        subst c4
        rw [if_neg nf_] at H
        obtain rfl:=Option.some.inj H
        go_wp2
        go_ret
        exact ⟨sa_,b_ HB⟩
mutual
def Fv.l0:Nat→List ByteArray→Int→Int→Option (Int)
 | 0,_,_,_=>none
 | k + 1,a,b,c=>if c<(a.length:Int) then (Fv.j1 k a b c (decide (b<1048576))) else (Fv.j1 k a b c false)
def Fv.j1:Nat→List ByteArray→Int→Int→Bool→Option (Int)
 | 0,_,_,_,_=>none
 | k + 1,b,c,a,d=>if d=true then (if 0≤a then (if a<(b.length:Int) then (Fv.l0 k b (wrap64 (c + ((rdOf ByteArray.empty b a).size:Int))) (wrap64 (a + 1))) else (none)) else (none)) else (some c)
end
def Fv.f (k:Nat) (l0:List ByteArray):Option (Int):=Fv.l0 k l0 (l0.length:Int) 0
theorem Fv.mono_l:∀ k,(∀ y0 y1 y2,LeO (Fv.l0 k y0 y1 y2) (Fv.l0 (k + 1) y0 y1 y2))∧(∀ y0 y1 y2 y3,LeO (Fv.j1 k y0 y1 y2 y3) (Fv.j1 (k + 1) y0 y1 y2 y3))
 | 0=>⟨fun _ _ _ r h=>by simp [Fv.l0] at h,fun _ _ _ _ r h=>by simp [Fv.j1] at h⟩
 | k + 1=>by
  obtain ⟨ih0,ih1⟩:=Fv.mono_l k
  refine ⟨?_,?_⟩
  all_goals (intros;first|unfold Fv.l0|unfold Fv.j1)
  all_goals exact mz_
theorem Fv.mono:∀ a0 k,LeO (Fv.f k a0) (Fv.f (k + 1) a0):=by
 intro a0 k
 obtain ⟨ih0,ih1⟩:=Fv.mono_l k
 unfold Fv.f
 exact mz_
theorem Fv.calls (k:Nat) (A0:Option Addr) (c0:Nat) (l0:List ByteArray) (r:Int) (w:World) (hr0:Kd.C Kd.string w A0 l0.length l0) (hc0:l0.length≤c0) (h:Fv.f k l0=some r) :
 Calls Tryz.prog 25 #[.slice A0 l0.length c0] w fun e w'=>e = .returned (.int .i64 r)∧Drawn0 w w':=by
 have HR0:=mk0 hr0
 have HC0:=mk0 hc0
 clear hr0 hc0
 have H:(Fv.l0 k l0 (l0.length:Int) 0)=some r:=h
 clear h
 have H':=mk0 H
 clear H
 go_enter Tryz.func25,Tryz.ntmps25
 go_wp2
 go_loopg [3,4] k (fun kq v3 v4 w'=>∃ (ab:Int) (aa:Int),v3 = .int .i64 ab∧v4 = .int .i64 aa∧Fc (Fv.l0 kq l0 ab aa=some r)∧Fc (kq≤k)∧Drawn0 w w')
 case atStart=>exact ⟨((l0.length:Int)),(0),sm_,sm_,H',⟨Nat.le_refl _⟩,by repeat (first|exact Drawn0.refl _|apply Drawn0.step)⟩
 case round=>
  clear H'
  obtain ⟨ab,aa,rfl,rfl,HA,ag,⟨m1,rfl⟩⟩:=hrel
  cases gk with
  | zero=>exact absurd HA.out (by simp [Fv.l0])
  | succ k1=>
   have H:=HA.out
   clear HA
   simp only [Fv.l0] at H
   as_aux_lemma=>
    have HC2:=mk0 H
    clear H
    go_upto_region 3 with (fail)
    go_cut [14] (fun v14 wc=>∃ (kq:Nat) (ac:Bool),v14 = .bool ac∧Fc (Fv.j1 kq l0 ab aa ac=some r)∧Fc (kq≤k1)∧Drawn0 w wc)
    case first=>
     have H:=HC2.out
     clear HC2
     by_cases c3:aa<(l0.length:Int)
     ·rw [if_pos c3] at H
      have ad:=decide_eq_true c3
      clear c3
      (first|rw [ad]|(simp only [i64_w,i32_w];rw [ad])|skip)
      have H':=mk0 H
      clear H
      go_wp2
      go_meet
      case rel=>exact ⟨_,(decide (ab<1048576)),sm_,H',⟨by have:=ag.out;first|omega|exact Nat.le_refl _⟩,by repeat (first|exact Drawn0.refl _|apply Drawn0.step)⟩
     ·rw [if_neg c3] at H
      have ad:=decide_eq_false c3
      clear c3
      (first|rw [ad]|(simp only [i64_w,i32_w];rw [ad])|skip)
      have H':=mk0 H
      clear H
      go_wp2
      go_meet
      case rel=>exact ⟨_,(false),sm_,H',⟨by have:=ag.out;first|omega|exact Nat.le_refl _⟩,by repeat (first|exact Drawn0.refl _|apply Drawn0.step)⟩
    case rest=>
     clear HC2
     obtain ⟨kq,ac,rfl,HA,ah,⟨mc1,rfl⟩⟩:=hcut
     cases kq with
     | zero=>exact absurd HA.out (by simp [Fv.j1])
     | succ ak=>
      have H:=HA.out
      clear HA
      simp only [Fv.j1] at H
      as_aux_lemma=>
       by_cases c4:ac=true
       ·subst c4
        rw [if_pos rfl] at H
        by_cases c5:0≤aa
        ·rw [if_pos c5] at H
         have am:=decide_eq_true c5
         clear c5
         by_cases c6:aa<(l0.length:Int)
         ·rw [if_pos c6] at H
          have an:=decide_eq_true c6
          clear c6
          have H':=mk0 H
          clear H
          have ae:0≤(aa:Int):=od_
          have af:aa<(l0.length:Int):=od_
          obtain ⟨al,ai,aj⟩:=Kd.at_string HR0.out aa ae af
          cases ai
          replace ae:=eq_true ae
          replace af:=eq_true af
          go_wp2
          go_roundg ak
          case measure=>have:=ag.out;have:=ah.out;omega
          case rel=>exact ⟨(wrap64 (ab + ((rdOf ByteArray.empty l0 aa).size:Int))),(wrap64 (aa + 1)),sm_,sm_,H',⟨by have:=ag.out;have:=ah.out;omega⟩,by repeat (first|exact Drawn0.refl _|apply Drawn0.step)⟩
         ·rw [if_neg c6] at H
          exact absurd H (by simp)
        ·rw [if_neg c5] at H
         exact absurd H (by simp)
       ·replace c4:=Bool.eq_false_iff.mpr c4
        subst c4
        rw [if_neg nf_] at H
        obtain rfl:=Option.some.inj H
        go_wp2
        go_ret
        exact ⟨by first|rfl|(simp;done)|(simp [*];done),by repeat (first|exact Drawn0.refl _|apply Drawn0.step)⟩
end Go.Proofs.YtbaecdcfefmcgaaGreat.PVrd
