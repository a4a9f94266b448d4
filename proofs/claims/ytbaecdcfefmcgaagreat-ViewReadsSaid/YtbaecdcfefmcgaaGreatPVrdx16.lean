import Derived.Test.YtbaecdcfefmcgaaGreatPVrdx0
import Derived.Test.YtbaecdcfefmcgaaGreatPVrdx15
import Derived.Test.YtbaecdcfefmcgaaGreatHLk
namespace Go.Proofs.YtbaecdcfefmcgaaGreat.PVrd
open Go.RowKit Go.Proofs.YtbaecdcfefmcgaaGreatW.PrintWords Go.Proofs.YtbaecdcfefmcgaaGreatW.PrintLast Go.Proofs.YtbaecdcfefmcgaaGreatW.PrintMore
attribute [local go_sem] max2_int min2_int max_two min_two max_three min_three max_four min_four
set_option maxHeartbeats 8000000
set_option maxRecDepth 100000
set_option linter.unusedVariables false
set_option linter.unusedSimpArgs false
mutual
def Fh.j0:Nat→Bool→List (S72)→List Int→Option (Bool)
 | 0,_,_,_=>none
 | k + 1,b,c,a=>if b=true then (some false) else (Fh.l0 k a (a.length:Int) 0 c a)
def Fh.l0:Nat→List Int→Int→Int→List (S72)→List Int→Option (Bool)
 | 0,_,_,_,_,_=>none
 | k + 1,b,d,a,e,c=>if a<d then (if 0≤a then (if a<(b.length:Int) then (if (rd b a)<0 then (Fh.j2 k b d a true e c) else (if (rd b a) > (e.length:Int) then (Fh.j2 k b d a true e c) else (if a > 0 then (if 0≤(wrap64 (a - 1)) then (if (wrap64 (a - 1))<(c.length:Int) then (Fh.j2 k b d a (decide ((rd b a)<(rd c (wrap64 (a - 1))))) e c) else (none)) else (none)) else (Fh.j2 k b d a false e c)))) else (none)) else (none)) else (some true)
def Fh.j2:Nat→List Int→Int→Int→Bool→List (S72)→List Int→Option (Bool)
 | 0,_,_,_,_,_,_=>none
 | k + 1,a,b,c,d,e,f=>if d=true then (some false) else (Fh.l0 k a b (wrap64 (c + 1)) e f)
end
def Fh.f (k:Nat) (l0_0:List (S72)) (l0_1:List Int):Option (Bool):=if (l0_0.length:Int) > 12 then (Fh.j0 k true l0_0 l0_1) else (if (l0_1.length:Int) > 6 then (Fh.j0 k true l0_0 l0_1) else ((F6.f l0_0).bind fun a=>(Fh.j0 k a l0_0 l0_1)))
theorem Fh.mono_l:∀ k,(∀ y0 y1 y2,LeO (Fh.j0 k y0 y1 y2) (Fh.j0 (k + 1) y0 y1 y2))∧(∀ y0 y1 y2 y3 y4,LeO (Fh.l0 k y0 y1 y2 y3 y4) (Fh.l0 (k + 1) y0 y1 y2 y3 y4))∧(∀ y0 y1 y2 y3 y4 y5,LeO (Fh.j2 k y0 y1 y2 y3 y4 y5) (Fh.j2 (k + 1) y0 y1 y2 y3 y4 y5))
 | 0=>⟨fun _ _ _ r h=>by simp [Fh.j0] at h,fun _ _ _ _ _ r h=>by simp [Fh.l0] at h,fun _ _ _ _ _ _ r h=>by simp [Fh.j2] at h⟩
 | k + 1=>by
  obtain ⟨ih0,ih1,ih2⟩:=Fh.mono_l k
  refine ⟨?_,?_,?_⟩
  all_goals (intros;first|unfold Fh.j0|unfold Fh.l0|unfold Fh.j2)
  all_goals exact mz_
theorem Fh.mono:∀ a0 a1 k,LeO (Fh.f k a0 a1) (Fh.f (k + 1) a0 a1):=by
 intro a0 a1 k
 obtain ⟨ih0,ih1,ih2⟩:=Fh.mono_l k
 unfold Fh.f
 exact mz_
theorem Fh.calls (k:Nat) (A0_0:Option Addr) (c0_0:Nat) (l0_0:List (S72)) (A0_1:Option Addr) (c0_1:Nat) (l0_1:List Int) (r:Bool) (w:World) (hr0_0:Kd.C k72 w A0_0 l0_0.length l0_0) (hc0_0:l0_0.length≤c0_0) (hr0_1:Kd.C (Kd.int .i64) w A0_1 l0_1.length l0_1) (hc0_1:l0_1.length≤c0_1) (h:Fh.f k l0_0 l0_1=some r) :
 Calls Tryz.prog 60 #[.agg #[.slice A0_0 l0_0.length c0_0,.slice A0_1 l0_1.length c0_1]] w fun e w'=>e = .returned (.bool r)∧Below w.heap.size w w':=by
 have hu34:=Tryz.underlying34
 have aM:=mk0 hr0_0
 have aN:=mk0 hc0_0
 clear hr0_0 hc0_0
 have aB:=mk0 hr0_1
 have bs:=mk0 hc0_1
 clear hr0_1 hc0_1
 have HB:=mk0 (Below.refl w.heap.size w)
 have H:(if (l0_0.length:Int) > 12 then (Fh.j0 k true l0_0 l0_1) else (if (l0_1.length:Int) > 6 then (Fh.j0 k true l0_0 l0_1) else ((F6.f l0_0).bind fun aq=>(Fh.j0 k aq l0_0 l0_1))))=some r:=h
 clear h
 have HC2:=mk0 H
 clear H
 go_enter Tryz.func60,Tryz.ntmps60
 go_upto_region 1 with (first|((with_reducible refine gate_dst (N:=1) rfl ?_);(try (refine gate_guard (by rfl) ?_;dsimp only));refine bx_ (N:=1) (cs:=#[.slice A0_0 l0_0.length c0_0,.slice A0_1 l0_1.length c0_1]) (t:=34) (h:=?_);intro ao hg w3 hbox hb;have ny2_:=mk0 (gz_ HB hg);have aT:=mk0 (gz_ HB hg);replace HB:=mk0 (bt_ (b_ HB) hb);have aa:=mk0 (hbox);have bt:=ny2_;have bu:=aT;clear ny2_ aT;clear hb hbox hg))
 (try simp only [Act.put,List.setIfInBounds_toArray,List.set_cons_zero,List.set_cons_succ])
 go_cut [19] (fun v19 wc=>∃ (kq:Nat) (ag:Bool),v19 = .bool ag∧Fc (Fh.j0 kq ag l0_0 l0_1=some r)∧Fc (kq≤k)∧Fc (wc.heap[ao]? = some (.cells #[(.slice A0_0 l0_0.length c0_0),(.slice A0_1 l0_1.length c0_1)] 34 (0,0)))∧Fc (Below w.heap.size w wc))
 case first=>
  have H:=HC2.out
  clear HC2
  by_cases c4:(l0_0.length:Int) > 12
  ·rw [if_pos c4] at H
   have ai:=decide_eq_true c4
   have aU:decide (12<l0_0.length)=true:=decide_eq_true (by omega)
   clear c4
   (first|rw [ai]|(simp only [i64_w,i32_w];rw [ai])|skip)
   have H':=mk0 H
   clear H
   obtain ⟨bg,bh,bi,bj⟩:=c2_ aa
   go_wp2
   go_meet
   case rel=>exact ⟨_,(true),sm_,H',⟨by first|omega|exact Nat.le_refl _⟩,⟨h_ aa⟩,⟨b_ HB⟩⟩
  ·rw [if_neg c4] at H
   have ai:=decide_eq_false c4
   have aU:decide (12<l0_0.length)=false:=decide_eq_false (by omega)
   clear c4
   (first|rw [ai]|(simp only [i64_w,i32_w];rw [ai])|skip)
   by_cases c6:(l0_1.length:Int) > 6
   ·rw [if_pos c6] at H
    have aV:=decide_eq_true c6
    have aW:decide (6<l0_1.length)=true:=decide_eq_true (by omega)
    clear c6
    have H':=mk0 H
    clear H
    obtain ⟨bk,bl,bm,bn⟩:=c2_ aa
    go_wp2
    go_meet
    case rel=>exact ⟨_,(true),sm_,H',⟨by first|omega|exact Nat.le_refl _⟩,⟨h_ aa⟩,⟨b_ HB⟩⟩
   ·rw [if_neg c6] at H
    have aV:=decide_eq_false c6
    have aW:decide (6<l0_1.length)=false:=decide_eq_false (by omega)
    clear c6
    replace H:=ob_ H
    obtain ⟨aq,A8,H⟩:=H
    try dsimp only at H
    have H':=mk0 H
    clear H
    obtain ⟨bo,bp,bq,br⟩:=c2_ aa
    go_wp2_with (first|(go_at_call 82;(with_reducible refine (F6.calls _ _ l0_0  aq _ ?side1 ?side2 A8.out).mono ?_);(case side1=>exact cb_ aM HB);(case side2=>exact aN.out);rintro e bx ⟨rfl,hb⟩;replace aa:=mk0 (u_ aa hb);replace HB:=mk0 (bt_ (b_ HB) hb);(try clear hb)))
    go_meet
    case rel=>exact ⟨_,(aq),sm_,H',⟨by first|omega|exact Nat.le_refl _⟩,⟨h_ aa⟩,⟨b_ HB⟩⟩
 case rest=>
  clear HC2
  obtain ⟨kq,ag,rfl,HA,av,aa,HB⟩:=hcut
  cases kq with
  | zero=>exact absurd HA.out (by simp [Fh.j0])
  | succ aX=>
   have H:=HA.out
   clear HA
   simp only [Fh.j0] at H
   as_aux_lemma=>
    by_cases aw:ag=true
    ·subst aw
     rw [if_pos rfl] at H
     obtain rfl:=Option.some.inj H
     go_wp2
     go_ret
     exact ⟨sa_,b_ HB⟩
    ·replace aw:=Bool.eq_false_iff.mpr aw
     subst aw
     rw [if_neg nf_] at H
     have H':=mk0 H
     clear H
     obtain ⟨aj,ak,al,am⟩:=c2_ aa
     go_wp2
     go_loopg [23] aX (fun kq v23 w'=>∃ (ab:Int),v23 = .int .i64 ab∧Fc (Fh.l0 kq l0_1 (l0_1.length:Int) ab l0_0 l0_1=some r)∧Fc (kq≤aX)∧Fc (w'.heap[ao]? = some (.cells #[(.slice A0_0 l0_0.length c0_0),(.slice A0_1 l0_1.length c0_1)] 34 (0,0)))∧Fc (Below w.heap.size w w'))
     case atStart=>exact ⟨(0),sm_,H',⟨Nat.le_refl _⟩,⟨h_ aa⟩,⟨b_ HB⟩⟩
     case round=>
      clear H'
      try clear aw
      try clear aj
      try clear ak
      try clear al
      try clear am
      obtain ⟨ab,rfl,HA,ax,aa,HB⟩:=hrel
      cases gk with
      | zero=>exact absurd HA.out (by simp [Fh.l0])
      | succ k2=>
       have H:=HA.out
       clear HA
       simp only [Fh.l0] at H
       as_aux_lemma=>
        by_cases ap:ab<(l0_1.length:Int)
        ·rw [if_pos ap] at H
         have aC:=decide_eq_true ap
         clear ap
         by_cases aD:0≤ab
         ·rw [if_pos aD] at H
          have aO:=decide_eq_true aD
          clear aD
          by_cases aE:ab<(l0_1.length:Int)
          ·rw [if_pos aE] at H
           have aP:=decide_eq_true aE
           clear aE
           have HC16:=mk0 H
           clear H
           have ar:0≤(ab:Int):=od_
           have au:ab<(l0_1.length:Int):=od_
           obtain ⟨aF,aY,ae⟩:=Kd.at_int aB.out ab ar au
           cases aY
           replace ae:=(bc_ HB ae :)
           replace ar:=eq_true ar
           replace au:=eq_true au
           go_upto_region 6 with (fail)
           go_cut [50] (fun v50 wc=>∃ (kq:Nat) (ad:Bool),v50 = .bool ad∧Fc (Fh.j2 kq l0_1 (l0_1.length:Int) ab ad l0_0 l0_1=some r)∧Fc (kq≤k2)∧Fc (wc.heap[ao]? = some (.cells #[(.slice A0_0 l0_0.length c0_0),(.slice (some aF) l0_1.length c0_1)] 34 (0,0)))∧Fc (Below w.heap.size w wc))
           case first=>
            have H:=HC16.out
            clear HC16
            by_cases ay:(rd l0_1 ab)<0
            ·rw [if_pos ay] at H
             have af:=decide_eq_true ay
             clear ay
             (first|rw [af]|(simp only [i64_w,i32_w];rw [af])|skip)
             have H':=mk0 H
             clear H
             go_wp2
             go_meet
             case rel=>exact ⟨_,(true),sm_,H',⟨by have:=av.out;have:=ax.out;first|omega|exact Nat.le_refl _⟩,⟨h_ aa⟩,⟨b_ HB⟩⟩
            ·rw [if_neg ay] at H
             have af:=decide_eq_false ay
             clear ay
             (first|rw [af]|(simp only [i64_w,i32_w];rw [af])|skip)
             by_cases az:(rd l0_1 ab) > (l0_0.length:Int)
             ·rw [if_pos az] at H
              have aQ:=decide_eq_true az
              clear az
              have H':=mk0 H
              clear H
              obtain ⟨aZ,a3,a4,a5⟩:=c2_ aa
              go_wp2
              go_meet
              case rel=>exact ⟨_,(true),sm_,H',⟨by have:=av.out;have:=ax.out;first|omega|exact Nat.le_refl _⟩,⟨h_ aa⟩,⟨b_ HB⟩⟩
             ·rw [if_neg az] at H
              have aQ:=decide_eq_false az
              clear az
              by_cases aA:ab > 0
              ·rw [if_pos aA] at H
               have aR:=decide_eq_true aA
               clear aA
               obtain ⟨ac,ah⟩:∃ j_:Int,(wrap64 (ab - 1))=j_:=⟨_,rfl⟩
               replace H:(if 0≤(ac) then (if (ac)<(l0_1.length:Int) then (Fh.j2 k2 l0_1 (l0_1.length:Int) ab (decide ((rd l0_1 ab)<(rd l0_1 (ac)))) l0_0 l0_1) else (none)) else (none))=some r:=by first|(rw [ah] at H;exact H)|(simp only [ah] at H ⊢; exact H)
               have hji21w:(IntKind.i64.wrap (ab - 1))=ac:=(i64_w _).trans ah
               by_cases aI:0≤(ac)
               ·rw [if_pos aI] at H
                have bv:=decide_eq_true aI
                clear aI
                by_cases aJ:(ac)<(l0_1.length:Int)
                ·rw [if_pos aJ] at H
                 have bw:=decide_eq_true aJ
                 clear aJ
                 have H':=mk0 H
                 clear H
                 obtain ⟨a6,a7,a8,a9⟩:=c2_ aa
                 have aG:0≤((ac):Int):=od_
                 have aH:(ac)<(l0_1.length:Int):=od_
                 obtain ⟨aS,ba,an⟩:=Kd.at_int aB.out (ac) aG aH
                 obtain rfl:aF=aS:=(by injection ba)
                 replace an:=(bc_ HB an :)
                 replace aG:=eq_true aG
                 replace aH:=eq_true aH
                 go_wp2
                 go_meet
                 case rel=>exact ⟨_,(decide ((rd l0_1 ab)<(rd l0_1 (ac)))),(by first|rfl|(simp;done)|(simp only [← ah] <;> (first|rfl|(simp [leq_];done)|(simp;done)))|(simp [*];done)),H',⟨by have:=av.out;have:=ax.out;first|omega|exact Nat.le_refl _⟩,⟨h_ aa⟩,⟨b_ HB⟩⟩
                ·rw [if_neg aJ] at H
                 exact absurd H (by simp)
               ·rw [if_neg aI] at H
                exact absurd H (by simp)
              ·rw [if_neg aA] at H
               have aR:=decide_eq_false aA
               clear aA
               have H':=mk0 H
               clear H
               obtain ⟨bb,bc,bd,be⟩:=c2_ aa
               go_wp2
               go_meet
               case rel=>exact ⟨_,(false),sm_,H',⟨by have:=av.out;have:=ax.out;first|omega|exact Nat.le_refl _⟩,⟨h_ aa⟩,⟨b_ HB⟩⟩
           case rest=>
            clear HC16
            try clear aw
            try clear ap
            try clear aC
            try clear aD
            try clear aO
            try clear aE
            try clear aP
            try clear aj
            try clear ak
            try clear al
            try clear am
            try clear ae
            try clear ar
            try clear au
            obtain ⟨kq,ad,rfl,HA,aL,aa,HB⟩:=hcut
            cases kq with
            | zero=>exact absurd HA.out (by simp [Fh.j2])
            | succ bf=>
             have H:=HA.out
             clear HA
             simp only [Fh.j2] at H
             as_aux_lemma=>
              by_cases aK:ad=true
              ·subst aK
               rw [if_pos rfl] at H
               obtain rfl:=Option.some.inj H
               go_wp2
               go_ret
               exact ⟨sa_,b_ HB⟩
              ·replace aK:=Bool.eq_false_iff.mpr aK
               subst aK
               rw [if_neg nf_] at H
               have H':=mk0 H
               clear H
               go_wp2
               go_roundg bf
               case measure=>have:=av.out;have:=ax.out;have:=aL.out;omega
               case rel=>exact ⟨(wrap64 (ab + 1)),sm_,H',⟨by have:=av.out;have:=ax.out;have:=aL.out;omega⟩,⟨h_ aa⟩,⟨b_ HB⟩⟩
          ·rw [if_neg aE] at H
           exact absurd H (by simp)
         ·rw [if_neg aD] at H
          exact absurd H (by simp)
        ·rw [if_neg ap] at H
         have aC:=decide_eq_false ap
         clear ap
         obtain rfl:=Option.some.inj H
         go_wp2
         go_ret
         exact ⟨sa_,b_ HB⟩
def F1.f (k:Nat) (l0:List (S43)) (l1_0:List (S72)) (l1_1:List Int):Option (Bool):=if (l0.length:Int)≤3 then ((FG.f k l0).bind fun a=>(if a=true then (some false) else ((Fh.f k l1_0 l1_1).bind fun b=>(some b)))) else (some false)
theorem F1.mono:∀ a0 a1 a2 k,LeO (F1.f k a0 a1 a2) (F1.f (k + 1) a0 a1 a2):=by
 intro a0 a1 a2 k
 have:=@FG.mono
 have:=@Fh.mono
 unfold F1.f
 exact mz_
theorem F1.calls (k:Nat) (A0:Option Addr) (c0:Nat) (l0:List (S43)) (A1_0:Option Addr) (c1_0:Nat) (l1_0:List (S72)) (A1_1:Option Addr) (c1_1:Nat) (l1_1:List Int) (r:Bool) (w:World) (hr0:Kd.C k43 w A0 l0.length l0) (hc0:l0.length≤c0) (hr1_0:Kd.C k72 w A1_0 l1_0.length l1_0) (hc1_0:l1_0.length≤c1_0) (hr1_1:Kd.C (Kd.int .i64) w A1_1 l1_1.length l1_1) (hc1_1:l1_1.length≤c1_1) (h:F1.f k l0 l1_0 l1_1=some r) :
 Calls Tryz.prog 37 #[.slice A0 l0.length c0,.agg #[.slice A1_0 l1_0.length c1_0,.slice A1_1 l1_1.length c1_1]] w fun e w'=>e = .returned (.bool r)∧Below w.heap.size w w':=by
 have hu34:=Tryz.underlying34
 have HR0:=mk0 hr0
 have HC0:=mk0 hc0
 clear hr0 hc0
 have ah:=mk0 hr1_0
 have ai:=mk0 hc1_0
 clear hr1_0 hc1_0
 have aj:=mk0 hr1_1
 have ak:=mk0 hc1_1
 clear hr1_1 hc1_1
 have HB:=mk0 (Below.refl w.heap.size w)
 have H:(if (l0.length:Int)≤3 then ((FG.f k l0).bind fun ac=>(if ac=true then (some false) else ((Fh.f k l1_0 l1_1).bind fun ad=>(some ad)))) else (some false))=some r:=h
 clear h
 by_cases c3:(l0.length:Int)≤3
 ·rw [if_pos c3] at H
  have al:=decide_eq_true c3
  have am:decide (l0.length≤3)=true:=decide_eq_true (by omega)
  clear c3
  replace H:=ob_ H
  obtain ⟨ac,A4,H⟩:=H
  try dsimp only at H
  by_cases c5:ac=true
  ·subst c5
   rw [if_pos rfl] at H
   obtain rfl:=Option.some.inj H
   go_enter Tryz.func37,Tryz.ntmps37
   go_wp2_with (first|((with_reducible refine gate_dst (N:=3) rfl ?_);refine bx_ (N:=3) (cs:=#[.slice A1_0 l1_0.length c1_0,.slice A1_1 l1_1.length c1_1]) (t:=34) (h:=?_);intro ae hg w6 hbox hb;have ny2_:=mk0 (gz_ HB hg);have ab:=mk0 (gz_ HB hg);replace HB:=mk0 (bt_ (b_ HB) hb);have aa:=mk0 (hbox);have af:=ny2_;have ag:=ab;clear ny2_ ab;clear hb hbox hg)|(go_at_call 59;(with_reducible refine (FG.calls k _ _ l0  true _ ?side1 ?side2 A4.out).mono ?_);(case side1=>exact cb_ HR0 HB);(case side2=>exact HC0.out);rintro e w7 ⟨rfl,hb⟩;replace aa:=mk0 (u_ aa hb);replace HB:=mk0 (bt_ (b_ HB) hb);(try clear hb)))
   go_ret
   exact ⟨sa_,b_ HB⟩
  ·replace c5:=Bool.eq_false_iff.mpr c5
   subst c5
   rw [if_neg nf_] at H
   replace H:=ob_ H
   obtain ⟨ad,A8,H⟩:=H
   try dsimp only at H
   obtain rfl:=Option.some.inj H
   go_enter Tryz.func37,Tryz.ntmps37
   go_wp2_with (first|((with_reducible refine gate_dst (N:=3) rfl ?_);refine bx_ (N:=3) (cs:=#[.slice A1_0 l1_0.length c1_0,.slice A1_1 l1_1.length c1_1]) (t:=34) (h:=?_);intro ae hg w9 hbox hb;have ny2_:=mk0 (gz_ HB hg);have ab:=mk0 (gz_ HB hg);replace HB:=mk0 (bt_ (b_ HB) hb);have aa:=mk0 (hbox);have af:=ny2_;have ag:=ab;clear ny2_ ab;clear hb hbox hg)|(go_at_call 59;(with_reducible refine (FG.calls k _ _ l0  false _ ?side1 ?side2 A4.out).mono ?_);(case side1=>exact cb_ HR0 HB);(case side2=>exact HC0.out);rintro e ar ⟨rfl,hb⟩;replace aa:=mk0 (u_ aa hb);replace HB:=mk0 (bt_ (b_ HB) hb);(try clear hb);obtain ⟨an,ao,ap,aq⟩:=c2_ aa)|(go_at_call 60;(with_reducible refine (Fh.calls k _ _ l1_0 _ _ l1_1 ad _ ?side1 ?side2 ?side3 ?side4 A8.out).mono ?_);(case side1=>exact cb_ ah HB);(case side2=>exact ai.out);(case side3=>exact cb_ aj HB);(case side4=>exact ak.out);rintro e au ⟨rfl,hb⟩;replace aa:=mk0 (u_ aa hb);replace HB:=mk0 (bt_ (b_ HB) hb);(try clear hb)))
   go_ret
   exact ⟨sa_,b_ HB⟩
 ·rw [if_neg c3] at H
  have al:=decide_eq_false c3
  have am:decide (l0.length≤3)=false:=decide_eq_false (by omega)
  clear c3
  obtain rfl:=Option.some.inj H
  go_enter Tryz.func37,Tryz.ntmps37
  go_wp2_with (first|((with_reducible refine gate_dst (N:=3) rfl ?_);refine bx_ (N:=3) (cs:=#[.slice A1_0 l1_0.length c1_0,.slice A1_1 l1_1.length c1_1]) (t:=34) (h:=?_);intro ae hg av hbox hb;have ny2_:=mk0 (gz_ HB hg);have ab:=mk0 (gz_ HB hg);replace HB:=mk0 (bt_ (b_ HB) hb);have aa:=mk0 (hbox);have af:=ny2_;have ag:=ab;clear ny2_ ab;clear hb hbox hg))
  go_ret
  exact ⟨sa_,b_ HB⟩
def Gj.f (l0:List (S43)) (a1:Int):Option (Bool):=if a1≥0 then (some (decide (a1<(l0.length:Int)))) else (some false)
theorem Gj.calls (A0:Option Addr) (c0:Nat) (l0:List (S43)) (a1:Int) (r:Bool) (w:World) (hr0:Kd.C k43 w A0 l0.length l0) (hc0:l0.length≤c0) (h:Gj.f l0 a1=some r) :
 Calls Tryz.prog 38 #[.slice A0 l0.length c0,.int .i64 a1] w fun e w'=>e = .returned (.bool r)∧Drawn0 w w':=by
 have HR0:=mk0 hr0
 have HC0:=mk0 hc0
 clear hr0 hc0
 have H:(if a1≥0 then (some (decide (a1<(l0.length:Int)))) else (some false))=some r:=h
 clear h
 by_cases c3:a1≥0
 ·rw [if_pos c3] at H
  have c3b0:=decide_eq_true c3
  clear c3
  obtain rfl:=Option.some.inj H
  go_enter Tryz.func38,Tryz.ntmps38
  go_wp2
  go_ret
  exact ⟨by first|rfl|(simp;done)|(simp [*];done),by repeat (first|exact Drawn0.refl _|apply Drawn0.step)⟩
 ·rw [if_neg c3] at H
  have c3b0:=decide_eq_false c3
  clear c3
  obtain rfl:=Option.some.inj H
  go_enter Tryz.func38,Tryz.ntmps38
  go_wp2
  go_ret
  exact ⟨by first|rfl|(simp;done)|(simp [*];done),by repeat (first|exact Drawn0.refl _|apply Drawn0.step)⟩
def FZ.last (l:List (S72)) (t:Int) (k:ByteArray):Option (S72):=l.reverse.find? (fun x=>(x.f0 == t) && (x.f1.toList == k.toList))
def FZ.out:Option (S72)→(Int×ByteArray×ByteArray×Bool×Bool)
 | some x=>(x.f0,x.f1,x.f2,x.f3,true)
 | none=>(0,⟨#[]⟩,⟨#[]⟩,false,false)
def FZ.f (l0_0:List (S72)) (l0_1:List Int) (a1:Int) (a2:ByteArray):Option (Int×ByteArray×ByteArray×Bool×Bool):=if l0_0.length≤12 then some (FZ.out (FZ.last l0_0 a1 a2)) else none
theorem FZ.row (A0:Option Addr) (c0:Nat) (l0:List (S72)) (w:World) (hr0:Kd.C k72 w A0 l0.length l0) :
 HBack.Row w.heap.size w (.slice A0 l0.length c0) l0.length (fun j=>((rd_T72 l0 j).f0,(rd_T72 l0 j).f1,(rd_T72 l0 j).f2,(rd_T72 l0 j).f3)):=by
 rcases Nat.eq_zero_or_pos l0.length with h0|h0
 ·exact .inl ⟨A0,c0,by rw [h0],h0⟩
 ·obtain ⟨⟨b,off,sp⟩,e1,x0,x1,x2,x3⟩:=at_T72 hr0 0 (by omega) (by omega)
  have x0':w.cell? ⟨b,off,sp⟩=some (.int .i64 (rd_T72 l0 0).f0):=x0
  have hb:=World.block_lt_of_cell? w _ x0'
  obtain rfl:sp=none:=by
   cases sp with
   | none=>rfl
   | some s=>simp only [World.cell?] at x0';split at x0' <;> simp at x0'
  have ad_:∀ n,(⟨b,off,none⟩:Addr).add n=⟨b,off + n,none⟩:=fun n=>by unfold Addr.add;split <;> simp_all
  refine .inr ⟨b,off,c0,by rw [e1],hb,fun j hj=>?_⟩
  obtain ⟨ad2,e2,y0,y1,y2,y3⟩:=at_T72 hr0 (j:Int) (by omega) (by omega)
  rw [e1] at e2
  cases e2
  rw [Int.toNat_natCast,ad_] at y0 y1 y2 y3
  exact ⟨y0,y1,y2,y3⟩
set_option maxHeartbeats 1000000 in
theorem FZ.calls (A0_0:Option Addr) (c0_0:Nat) (l0_0:List (S72)) (A0_1:Option Addr) (c0_1:Nat) (l0_1:List Int) (a1:Int) (a2:ByteArray) (r1:Int) (r2:ByteArray) (r3:ByteArray) (r4:Bool) (r5:Bool) (w:World) (hr0_0:Kd.C k72 w A0_0 l0_0.length l0_0) (hc0_0:l0_0.length≤c0_0) (hr0_1:Kd.C (Kd.int .i64) w A0_1 l0_1.length l0_1) (hc0_1:l0_1.length≤c0_1) (h:FZ.f l0_0 l0_1 a1 a2=some (r1,r2,r3,r4,r5)) :
 Calls Tryz.prog 61 #[.agg #[.slice A0_0 l0_0.length c0_0,.slice A0_1 l0_1.length c0_1],.int .i64 a1,.string a2] w fun e w'=>e = .returned (.tuple #[.agg #[.int .i64 r1,.string r2,.string r3,.bool r4],.bool r5])∧Below w.heap.size w w':=by
 unfold FZ.f at h
 split at h
 ·rename_i h12
  have h2:=Option.some.inj h
  have hrd:∀ k,k<l0_0.length→∀ h3:k<l0_0.reverse.length,l0_0.reverse[k]=rd_T72 l0_0 ((l0_0.length - 1 - k:Nat):Int):=fun k hk h3=>by
   rw [List.getElem_reverse]
   simp [rd_T72,List.getD_eq_getElem?_getD,List.getElem?_eq_getElem (show l0_0.length - 1 - k<l0_0.length by omega)]
  refine (callsIn_wide (n:=3)).1 ((HBack.look_in Fence.wide 3 trivial trivial trivial rfl (Nat.le_refl _) A0_0 l0_0.length c0_0 (.slice A0_1 l0_1.length c0_1) a1 a2 _ (by omega) w (FZ.row A0_0 c0_0 l0_0 w hr0_0)).mono ?_)
  rintro r w' ⟨hB,⟨k,hk,hx,hp,rfl⟩|⟨hn,rfl⟩⟩
  ·have e:FZ.last l0_0 a1 a2=some (rd_T72 l0_0 ((l0_0.length - 1 - k:Nat):Int)):=by
    unfold FZ.last
    rw [List.find?_eq_some_iff_getElem]
    refine ⟨by simpa [HBack.hit] using hx,k,by simpa using hk,hrd k hk (by simpa using hk),fun j hj=>?_⟩
    rw [hrd j (by omega) (by simp;omega)]
    have h3:=hp j hj
    simp only [HBack.hit] at h3
    simp only [h3,Bool.not_false]
   rw [e] at h2
   simp only [FZ.out,Prod.mk.injEq] at h2
   obtain ⟨rfl,rfl,rfl,rfl,rfl⟩:=h2
   exact ⟨rfl,hB⟩
  ·have e:FZ.last l0_0 a1 a2=none:=by
    unfold FZ.last
    rw [List.find?_eq_none]
    intro x hx
    obtain ⟨j,hj,rfl⟩:=List.mem_iff_getElem.1 hx
    have hj2:j<l0_0.length:=by simpa using hj
    rw [hrd j hj2 hj]
    simpa [HBack.hit] using hn j hj2
   rw [e] at h2
   simp only [FZ.out,Prod.mk.injEq] at h2
   obtain ⟨rfl,rfl,rfl,rfl,rfl⟩:=h2
   exact ⟨rfl,hB⟩
 ·cases h
-- NOT PRINTED: function 112 (api_Version)
def idxRes_v {α:Type} (pred:α→Bool) (l:List α):Int:=if l.findIdx pred<l.length then (l.findIdx pred:Int) else -1
set_option maxHeartbeats 800000 in
set_option maxRecDepth 100000 in
theorem idx_v.calls_ (pred:S78→Bool) (F:Nat) (cap:Value) (A0:Option Addr) (c0:Nat) (l0:List S78) (w:World) (hr0:Kd.C k78 w A0 l0.length l0) (hc0:l0.length≤c0)
 (eg:∀ args w,(callFunc F args).run Tryz.prog w = .ok (.enter F args) w)
 (HP:∀ (x:S78) (W:World),Below w.heap.size w W→Calls Tryz.prog F #[.agg #[.int .i64 x.f0,.string x.f1,.bool x.f2],cap] W fun e W'=>e = .returned (.bool (pred x))∧Below w.heap.size w W') :
 Calls Tryz.prog 112 #[.slice A0 l0.length c0,.func (Fn.func F) #[] #[cap]] w fun e w'=>e = .returned (.int .i64 (idxRes_v pred l0))∧Below w.heap.size w w':=by
 have HR0:=Aside0.mk hr0
 have HC0:=Aside0.mk hc0
 have hlen:=hr0.2.1
 clear hr0 hc0
 have HPA:=Aside0.mk HP
 clear HP
 have HB:=Aside0.mk (Below.refl w.heap.size w)
 go_enter Tryz.func112,Tryz.ntmps112
 go_wp2
 go_loopg [5,8] l0.length (fun kq _ v8 w'=>∃ (i:Nat),v8 = .int .i64 i∧Aside0 (kq + i=l0.length)∧Aside0 (∀ j (h2:j<l0.length) (h:j<i),pred (l0[j])=false)∧Aside0 (Below w.heap.size w w'))
 case atStart=>exact ⟨0,rfl,⟨by omega⟩,⟨fun j _ h=>by omega⟩,HB⟩
 case round=>
  clear HB
  obtain ⟨i,rfl,HK,HN,HB⟩:=hrel
  by_cases hi:i<l0.length
  ·have p200:(0:Int)≤(i:Int):=by omega
   have q200:(i:Int)<(l0.length:Int):=by omega
   obtain ⟨ad200,e200,hx200_0,hx200_1,hx200_2⟩:=at_T78 HR0.out (i:Int) p200 q200
   cases e200
   replace hx200_0:=(HB.out.cell (World.block_lt_of_cell? w _ hx200_0)).trans hx200_0
   replace hx200_1:=(HB.out.cell (World.block_lt_of_cell? w _ hx200_1)).trans hx200_1
   replace hx200_2:=(HB.out.cell (World.block_lt_of_cell? w _ hx200_2)).trans hx200_2
   simp only [Int.toNat_natCast] at hx200_0 hx200_1 hx200_2
   have hcall:=HPA.out (rd_T78 l0 i) wr HB.out
   have hrd:rd_T78 l0 i=l0[i]:=by simp [rd_T78,hi]
   have HRD:=Aside0.mk hrd
   clear hrd
   cases hq:pred (rd_T78 l0 i) with
   | true=>
    rw [hq] at hcall
    have HQ:=Aside0.mk hq
    clear hq
    go_wp2_with ((with_reducible refine hcall.mono ?_);rintro e w' ⟨rfl,hb'⟩)
    go_ret
    have e1:l0.findIdx pred=i:=(List.findIdx_eq hi).2 ⟨by rw [← HRD.out];exact HQ.out,fun j hj=>HN.out j (by omega) hj⟩
    exact ⟨by unfold idxRes_v;rw [e1,if_pos hi];rfl,hb'⟩
   | false=>
    rw [hq] at hcall
    have HQ:=Aside0.mk hq
    clear hq
    go_wp2_with ((with_reducible refine hcall.mono ?_);rintro e w' ⟨rfl,hb'⟩)
    go_roundg (gk - 1)
    case measure=>have:=HK.out;omega
    case rel=>
     refine ⟨i + 1,by go_num,⟨by have:=HK.out;omega⟩,⟨fun j h2 h=>?_⟩,⟨hb'⟩⟩
     rcases Nat.lt_or_ge j i with hj|hj
     ·exact HN.out j h2 hj
     ·obtain rfl:j=i:=by omega
      rw [← HRD.out];exact HQ.out
  ·have hltz:¬ (i:Int)<(l0.length:Int):=by omega
   go_wp2
   go_ret
   have hil:i=l0.length:=by have:=HK.out;omega
   have e1:l0.findIdx pred=l0.length:=List.findIdx_eq_length.2 (fun x hx=>by
    obtain ⟨j,hj,rfl⟩:=List.mem_iff_getElem.1 hx
    exact HN.out j hj (by omega))
   exact ⟨by unfold idxRes_v;rw [e1,if_neg (Nat.lt_irrefl _)];rfl,HB.out⟩
set_option maxHeartbeats 400000 in
theorem Gs.clo (n:Int) (B:Nat) (w:World) (hB:B<w.heap.size) (hcell:w.cell? ⟨B,0,none⟩=some (.int .i64 n)) (x:S78) (W:World) (hb:Below w.heap.size w W) :
 Calls Tryz.prog 113 #[.agg #[.int .i64 x.f0,.string x.f1,.bool x.f2],.pointer (some ⟨B,0,none⟩)] W fun e W'=>e = .returned (.bool (decide (x.f0≤n)))∧Below w.heap.size w W':=by
 have hc:W.cell? ⟨B,0,none⟩=some (.int .i64 n):=(hb.cell (p:=⟨B,0,none⟩) hB).trans hcell
 have hBW:B<W.heap.size:=Nat.lt_of_lt_of_le hB hb.size
 have hne:B≠W.heap.size:=by omega
 go_enter Tryz.func113,Tryz.ntmps113
 go_wp2
 all_goals (go_ret;exact ⟨by simp_all,hb.alloc hb.size _⟩)
def Gs.f (a0_0:ByteArray) (l0_1:List S78) (a1:Int):Option Int:=some (l0_1.findIdx (fun v=>decide (v.f0≤a1)):Int)
set_option maxHeartbeats 800000 in
set_option maxRecDepth 100000 in
theorem Gs.calls (a0_0:ByteArray) (A0_1:Option Addr) (c0_1:Nat) (l0_1:List S78) (a1:Int) (r:Int) (w:World) (hr0_1:Kd.C k78 w A0_1 l0_1.length l0_1) (hc0_1:l0_1.length≤c0_1) (h:Gs.f a0_0 l0_1 a1=some r) :
 Calls Tryz.prog 98 #[.agg #[.string a0_0,.slice A0_1 l0_1.length c0_1],.int .i64 a1] w fun e w'=>e = .returned (.int .i64 r)∧Below w.heap.size w w':=by
 have hu31:=Tryz.underlying83
 have eg:∀ args w,(callFunc 113 args).run Tryz.prog w = .ok (.enter 113 args) w:=enters_of Tryz.func113 (by kernel_rfl) rfl
 have hmf:∀ (fn:Fn) (first cap:Array Value) (w:World),(Instr.makeFunc fn first cap).run Tryz.prog w = .ok (.func fn first cap) w:=fun _ _ _ _=>rfl
 have hw2:Below w.heap.size w ((w.alloc (.cells #[.string a0_0,.slice A0_1 l0_1.length c0_1] 83)).alloc (.cells #[.int .i64 a1] 3)):=below_alloc (below_alloc (Below.refl _ _) _) _
 have hcon:=idx_v.calls_ (fun v=>decide (v.f0≤a1)) 113 (.pointer (some ⟨w.heap.size + 1,0,none⟩)) A0_1 c0_1 l0_1 ((w.alloc (.cells #[.string a0_0,.slice A0_1 l0_1.length c0_1] 83)).alloc (.cells #[.int .i64 a1] 3))
  (Kd.C_below hr0_1 hw2) hc0_1 eg (Gs.clo a1 (w.heap.size + 1) _ (by simp) (by rw [World.cell?_alloc_at _ _ _ _ (by simp)];rfl))
 have HW2:=Aside0.mk hw2
 have hlen:=hr0_1.2.1
 clear hr0_1 hc0_1 hw2 eg
 have hr:((l0_1.findIdx (fun v=>decide (v.f0≤a1)):Nat):Int)=r:=Option.some.inj h
 clear h
 have hle:l0_1.findIdx (fun v=>decide (v.f0≤a1))≤l0_1.length:=List.findIdx_le_length
 by_cases hlt:l0_1.findIdx (fun v=>decide (v.f0≤a1))<l0_1.length
 ·have e1:idxRes_v (fun v:S78=>decide (v.f0≤a1)) l0_1=r:=by unfold idxRes_v;rw [if_pos hlt];exact hr
  rw [e1] at hcon
  have h0:¬ r<0:=by omega
  clear hr hlt hle e1
  go_enter Tryz.func98,Tryz.ntmps98
  go_wp2_with ((with_reducible refine hcon.mono ?_);rintro e w' ⟨rfl,hb'⟩)
  go_ret
  exact ⟨rfl,HW2.out.trans (hb'.mono (by simp;omega))⟩
 ·have e1:idxRes_v (fun v:S78=>decide (v.f0≤a1)) l0_1 = -1:=by unfold idxRes_v;rw [if_neg hlt]
  rw [e1] at hcon
  have hr2:=Aside0.mk (show r=l0_1.length by omega)
  clear hr hlt hle e1
  have hcb:∀ w',Below ((w.alloc (.cells #[.string a0_0,.slice A0_1 l0_1.length c0_1] 83)).alloc (.cells #[.int .i64 a1] 3)).heap.size ((w.alloc (.cells #[.string a0_0,.slice A0_1 l0_1.length c0_1] 83)).alloc (.cells #[.int .i64 a1] 3)) w'→w'.cell? ⟨w.heap.size,1,none⟩=some (.slice A0_1 l0_1.length c0_1):=fun w' hb=>by
   rw [hb.cell (p:=⟨w.heap.size,1,none⟩) (by simp;omega),World.cell?_alloc_past _ _ _ (by simp),World.cell?_alloc_at _ _ _ _ rfl];rfl
  have HCB:=Aside0.mk hcb
  clear hcb
  go_enter Tryz.func98,Tryz.ntmps98
  go_wp2_with ((with_reducible refine hcon.mono ?_);rintro e w' ⟨rfl,hb'⟩;have hc1:=HCB.out _ hb')
  go_ret
  exact ⟨by rw [hr2.out];rfl,HW2.out.trans (hb'.mono (by simp;omega))⟩
def FD.j0:Nat→Int→Bool→ByteArray→List (S78)→Option (Int×ByteArray×Bool×Bool)
 | 0,_,_,_,_=>none
 | k + 1,a,c,d,b=>if c=true then (some (0,(⟨#[]⟩:ByteArray),false,false)) else (if 0≤a then (if a<(b.length:Int) then (some ((rd_T78 b a).f0,(rd_T78 b a).f1,(rd_T78 b a).f2,true)) else (none)) else (none))
def FD.f (k:Nat) (a0_0:ByteArray) (l0_1:List (S78)) (a1:Int):Option (Int×ByteArray×Bool×Bool):=(Gs.f a0_0 l0_1 a1).bind fun a=>(if a=(l0_1.length:Int) then (FD.j0 k a true a0_0 l0_1) else (if 0≤a then (if a<(l0_1.length:Int) then (FD.j0 k a ((rd_T78 l0_1 a).f2) a0_0 l0_1) else (none)) else (none)))
theorem FD.mono_l:∀ k,(∀ y0 y1 y2 y3,LeO (FD.j0 k y0 y1 y2 y3) (FD.j0 (k + 1) y0 y1 y2 y3))
 | 0=>fun _ _ _ _ r h=>by simp [FD.j0] at h
 | k + 1=>by
  have ih0:=FD.mono_l k
  all_goals (intros;first|unfold FD.j0)
  all_goals exact mz_
theorem FD.mono:∀ a0 a1 a2 k,LeO (FD.f k a0 a1 a2) (FD.f (k + 1) a0 a1 a2):=by
 intro a0 a1 a2 k
 have ih0:=FD.mono_l k
 unfold FD.f
 exact mz_
theorem FD.calls (k:Nat) (a0_0:ByteArray) (A0_1:Option Addr) (c0_1:Nat) (l0_1:List (S78)) (a1:Int) (r1:Int) (r2:ByteArray) (r3:Bool) (r4:Bool) (w:World) (hr0_1:Kd.C k78 w A0_1 l0_1.length l0_1) (hc0_1:l0_1.length≤c0_1) (h:FD.f k a0_0 l0_1 a1=some (r1,r2,r3,r4)) :
 Calls Tryz.prog 75 #[.agg #[.string a0_0,.slice A0_1 l0_1.length c0_1],.int .i64 a1] w fun e w'=>e = .returned (.tuple #[.agg #[.int .i64 r1,.string r2,.bool r3],.bool r4])∧Below w.heap.size w w':=by
 have hu83:=Tryz.underlying83
 have hu78:=Tryz.underlying78
 have ao:=mk0 hr0_1
 have aG:=mk0 hc0_1
 clear hr0_1 hc0_1
 have HB:=mk0 (Below.refl w.heap.size w)
 have H:((Gs.f a0_0 l0_1 a1).bind fun aa=>(if aa=(l0_1.length:Int) then (FD.j0 k aa true a0_0 l0_1) else (if 0≤aa then (if aa<(l0_1.length:Int) then (FD.j0 k aa ((rd_T78 l0_1 aa).f2) a0_0 l0_1) else (none)) else (none))))=some (r1,r2,r3,r4):=h
 clear h
 replace H:=ob_ H
 obtain ⟨aa,A3,H⟩:=H
 try dsimp only at H
 have HC4:=mk0 H
 clear H
 go_enter Tryz.func75,Tryz.ntmps75
 go_upto_region 2 with (first|((with_reducible refine gate_dst (N:=2) rfl ?_);refine bx_ (N:=2) (cs:=#[.string a0_0,.slice A0_1 l0_1.length c0_1]) (t:=83) (h:=?_);intro aH hg w5 hbox hb;have ny2_:=mk0 (gz_ HB hg);have aw:=mk0 (gz_ HB hg);replace HB:=mk0 (bt_ (b_ HB) hb);have ab:=mk0 (hbox);have bf:=ny2_;have bg:=aw;clear ny2_ aw;clear hb hbox hg)|((with_reducible refine gate_dst (N:=4) rfl ?_);refine bx_ (N:=4) (cs:=#[.int .i64 0,.string (⟨#[]⟩:ByteArray),.bool false]) (t:=78) (h:=?_);intro ag hg w6 hbox hb;have aw:=mk0 (gz_ HB hg);have aJ:=mk0 (gz_ HB hg);have aK:=mk0 (ne1_ ab hg);have aL:=mk0 (ne2_ ab hg);replace ab:=mk0 (u_ ab hb);replace HB:=mk0 (bt_ (b_ HB) hb);have ae:=mk0 (hbox);have bh:=aJ;have ac:=aK;have ad:=aL;clear aw aJ aK aL hb hbox hg;have bw:=ac.out;have bx:=ad.out;obtain ⟨ax,ay,az,aA⟩:=c2_ ab)|((with_reducible refine gate_callee (f:=98) rfl ?_);refine gL_ (some 9) Tryz.func98 #[.agg #[.string a0_0,.slice A0_1 l0_1.length c0_1],.int .i64 a1] (h:=?_);(with_reducible refine (Gs.calls a0_0 _ _ l0_1 a1 aa _ ?side1 ?side2 A3.out).mono ?_);(case side1=>exact cb_ ao HB);(case side2=>exact aG.out);rintro e w9 ⟨rfl,hb⟩;refine ⟨_,rfl,?_⟩;replace ab:=mk0 (u_ ab hb);replace ae:=mk0 (blk_below (g:=ag) (o:=.cells #[.int .i64 0,.string (⟨#[]⟩:ByteArray),.bool false] 78 (0,0)) (h_ ae) hb);replace HB:=mk0 (bt_ (b_ HB) hb);(try clear hb)))
 (try simp only [Act.put,List.setIfInBounds_toArray,List.set_cons_zero,List.set_cons_succ])
 go_cut [22] (fun v22 wc=>∃ (kq:Nat) (ah:Bool),v22 = .bool ah∧Fc (FD.j0 kq aa ah a0_0 l0_1=some (r1,r2,r3,r4))∧Fc (kq≤k)∧Fc (wc.heap[aH]? = some (.cells #[.string a0_0,(.slice A0_1 l0_1.length c0_1)] 83 (0,0)))∧Fc (wc.heap[ag]? = some (.cells #[.int .i64 0,.string (⟨#[]⟩:ByteArray),.bool false] 78 (0,0)))∧Fc (Below w.heap.size w wc))
 case first=>
  have H:=HC4.out
  clear HC4
  by_cases ap:aa=(l0_1.length:Int)
  ·rw [if_pos ap] at H
   have af:=beq_iff_eq.mpr ap
   have aI:=bne_eq_false_iff_eq.mpr ap
   clear ap
   (first|rw [af]|(simp only [i64_w,i32_w];rw [af])|skip)
   have H':=mk0 H
   clear H
   have bi:=ac.out
   have bj:=ad.out
   obtain ⟨aM,aN,aO,aP⟩:=c2_ ab
   go_wp2
   go_meet
   case rel=>exact ⟨_,(true),sm_,H',⟨by first|omega|exact Nat.le_refl _⟩,⟨h_ ab⟩,⟨h_ ae⟩,⟨b_ HB⟩⟩
  ·rw [if_neg ap] at H
   have af:=beq_eq_false_iff_ne.mpr ap
   have aI:=bne_iff_ne.mpr ap
   (first|rw [af]|(simp only [i64_w,i32_w];rw [af])|skip)
   by_cases aB:0≤aa
   ·rw [if_pos aB] at H
    have bk:=decide_eq_true aB
    clear aB
    by_cases aC:aa<(l0_1.length:Int)
    ·rw [if_pos aC] at H
     have bl:=decide_eq_true aC
     clear aC
     have H':=mk0 H
     clear H
     have bm:=ac.out
     have bn:=ad.out
     obtain ⟨aQ,aR,aS,aT⟩:=c2_ ab
     have aq:0≤(aa:Int):=od_
     have ar:aa<(l0_1.length:Int):=od_
     obtain ⟨bo,aU,ai,aj,ak⟩:=at_T78 ao.out aa aq ar
     cases aU
     replace ai:=(bc_ HB ai :)
     replace aj:=(bc_ HB aj :)
     replace ak:=(bc_ HB ak :)
     replace aq:=eq_true aq
     replace ar:=eq_true ar
     go_wp2
     go_meet
     case rel=>exact ⟨_,((rd_T78 l0_1 aa).f2),sm_,H',⟨by first|omega|exact Nat.le_refl _⟩,⟨h_ ab⟩,⟨h_ ae⟩,⟨b_ HB⟩⟩
    ·rw [if_neg aC] at H
     exact absurd H (by simp)
   ·rw [if_neg aB] at H
    exact absurd H (by simp)
 case rest=>
  clear HC4
  try clear ax
  try clear ay
  try clear az
  try clear aA
  obtain ⟨kq,ah,rfl,HA,bz,ab,ae,HB⟩:=hcut
  cases kq with
  | zero=>exact absurd HA.out (by simp [FD.j0])
  | succ bA=>
   have H:=HA.out
   clear HA
   simp only [FD.j0] at H
   as_aux_lemma=>
    by_cases aD:ah=true
    ·subst aD
     rw [if_pos rfl] at H
     simp only [Option.some.injEq,Prod.mk.injEq] at H
     obtain ⟨rfl,rfl,rfl,rfl⟩:=H
     have bp:=ad.out
     have bq:=ac.out
     obtain ⟨aV,aW,aX,aY,aZ,a3⟩:=c3_ ae
     go_wp2
     refine bodyPost_ret (results_ct rfl _ _ ag 78 #[.int .i64 0,.string (⟨#[]⟩:ByteArray),.bool false] (0,0) _ rfl (pu_ (cs:=#[.int .i64 0,.string (⟨#[]⟩:ByteArray),.bool false]) (pu_ (cs:=#[.int .i64 0,.string (⟨#[]⟩:ByteArray),.bool false]) (pu_ (cs:=#[.int .i64 0,.string (⟨#[]⟩:ByteArray),.bool false]) (h_ ae)))) Tryz.underlying78 rfl (by kernel_rfl)) rfl ?_
     exact ⟨sa_,b_ HB⟩
    ·replace aD:=Bool.eq_false_iff.mpr aD
     subst aD
     rw [if_neg nf_] at H
     by_cases aE:0≤aa
     ·rw [if_pos aE] at H
      have br:=decide_eq_true aE
      clear aE
      by_cases aF:aa<(l0_1.length:Int)
      ·rw [if_pos aF] at H
       have bs:=decide_eq_true aF
       clear aF
       simp only [Option.some.injEq,Prod.mk.injEq] at H
       obtain ⟨rfl,rfl,rfl,rfl⟩:=H
       have bt:=ac.out
       have bu:=ad.out
       obtain ⟨a4,a5,a6,a7⟩:=c2_ ab
       have au:0≤(aa:Int):=od_
       have av:aa<(l0_1.length:Int):=od_
       obtain ⟨bv,a8,al,am,an⟩:=at_T78 ao.out aa au av
       cases a8
       replace al:=(bc_ HB al :)
       replace am:=(bc_ HB am :)
       replace an:=(bc_ HB an :)
       replace au:=eq_true au
       replace av:=eq_true av
       obtain ⟨a9,ba,bb,bc,bd,be⟩:=c3_ ae
       go_wp2
       refine bodyPost_ret (results_ct rfl _ _ ag 78 #[.int .i64 ((rd_T78 l0_1 aa).f0),.string ((rd_T78 l0_1 aa).f1),.bool ((rd_T78 l0_1 aa).f2)] (0,0) _ rfl (pu_ (cs:=#[.int .i64 ((rd_T78 l0_1 aa).f0),.string ((rd_T78 l0_1 aa).f1),.bool false]) (pu_ (cs:=#[.int .i64 ((rd_T78 l0_1 aa).f0),.string (⟨#[]⟩:ByteArray),.bool false]) (pu_ (cs:=#[.int .i64 0,.string (⟨#[]⟩:ByteArray),.bool false]) (h_ ae)))) Tryz.underlying78 rfl (by kernel_rfl)) rfl ?_
       exact ⟨sa_,b_ HB⟩
      ·rw [if_neg aF] at H
       exact absurd H (by simp)
     ·rw [if_neg aE] at H
      exact absurd H (by simp)
-- NOT PRINTED: function 110 (bytealg_abigen_runtime_cmpstring)
-- NOT PRINTED: function 95 (bytealg_CompareString)
-- NOT PRINTED: function 72 (strings_Compare)
-- NOT PRINTED: function 107 (table_seek_1)
end Go.Proofs.YtbaecdcfefmcgaaGreat.PVrd
