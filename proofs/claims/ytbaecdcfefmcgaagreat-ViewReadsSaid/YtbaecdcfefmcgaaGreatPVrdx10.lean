import Derived.Test.YtbaecdcfefmcgaaGreatPVrdx0
import Derived.Test.YtbaecdcfefmcgaaGreatPVrdx8
namespace Go.Proofs.YtbaecdcfefmcgaaGreat.PVrd
open Go.RowKit Go.Proofs.YtbaecdcfefmcgaaGreatW.PrintWords Go.Proofs.YtbaecdcfefmcgaaGreatW.PrintLast Go.Proofs.YtbaecdcfefmcgaaGreatW.PrintMore
attribute [local go_sem] max2_int min2_int max_two min_two max_three min_three max_four min_four
set_option maxHeartbeats 8000000
set_option maxRecDepth 100000
set_option linter.unusedVariables false
set_option linter.unusedSimpArgs false
def FJ.f (a0:Int) (a1:Int):Option (Bool):=if a0≥0 then (some (decide (a0≤a1))) else (some false)
theorem FJ.calls (a0:Int) (a1:Int) (r:Bool) (w:World) (h:FJ.f a0 a1=some r) :
 Calls Tryz.prog 9 #[.int .i64 a0,.int .i64 a1] w fun e w'=>e = .returned (.bool r)∧Drawn0 w w':=by
 have H:(if a0≥0 then (some (decide (a0≤a1))) else (some false))=some r:=h
 clear h
 by_cases c3:a0≥0
 ·rw [if_pos c3] at H
  have c3b0:=decide_eq_true c3
  clear c3
  obtain rfl:=Option.some.inj H
  go_enter Tryz.func9,Tryz.ntmps9
  go_wp2
  go_ret
  exact ⟨by first|rfl|(simp;done)|(simp [*];done),by repeat (first|exact Drawn0.refl _|apply Drawn0.step)⟩
 ·rw [if_neg c3] at H
  have c3b0:=decide_eq_false c3
  clear c3
  obtain rfl:=Option.some.inj H
  go_enter Tryz.func9,Tryz.ntmps9
  go_wp2
  go_ret
  exact ⟨by first|rfl|(simp;done)|(simp [*];done),by repeat (first|exact Drawn0.refl _|apply Drawn0.step)⟩
def Gp.f (a0_0:Int) (a0_1:ByteArray) (a0_2:ByteArray) (a0_3:Bool):Option (Bool):=(FJ.f a0_0 2).bind fun a=>(if a=true then ((F9.f a0_1).bind fun b=>(if b=true then ((Gd.f a0_2).bind fun c=>(if c=true then (if a0_3=true then (some (a0_2.toList == ([]:List UInt8))) else (some true)) else (some false))) else (some false))) else (some false))
theorem Gp.calls (a0_0:Int) (a0_1:ByteArray) (a0_2:ByteArray) (a0_3:Bool) (r:Bool) (w:World) (h:Gp.f a0_0 a0_1 a0_2 a0_3=some r) :
 Calls Tryz.prog 31 #[.agg #[.int .i64 a0_0,.string a0_1,.string a0_2,.bool a0_3]] w fun e w'=>e = .returned (.bool r)∧Below w.heap.size w w':=by
 have hu72:=Tryz.underlying72
 have HB:=mk0 (Below.refl w.heap.size w)
 have H:((FJ.f a0_0 2).bind fun af=>(if af=true then ((F9.f a0_1).bind fun ag=>(if ag=true then ((Gd.f a0_2).bind fun ah=>(if ah=true then (if a0_3=true then (some (a0_2.toList == ([]:List UInt8))) else (some true)) else (some false))) else (some false))) else (some false)))=some r:=h
 clear h
 replace H:=ob_ H
 obtain ⟨af,A2,H⟩:=H
 try dsimp only at H
 by_cases c3:af=true
 ·subst c3
  rw [if_pos rfl] at H
  replace H:=ob_ H
  obtain ⟨ag,A4,H⟩:=H
  try dsimp only at H
  by_cases c5:ag=true
  ·subst c5
   rw [if_pos rfl] at H
   replace H:=ob_ H
   obtain ⟨ah,A6,H⟩:=H
   try dsimp only at H
   by_cases c7:ah=true
   ·subst c7
    rw [if_pos rfl] at H
    by_cases c8:a0_3=true
    ·subst c8
     rw [if_pos rfl] at H
     obtain rfl:=Option.some.inj H
     go_enter Tryz.func31,Tryz.ntmps31
     go_wp2_with (first|((with_reducible refine gate_dst (N:=1) rfl ?_);refine bx_ (N:=1) (cs:=#[.int .i64 a0_0,.string a0_1,.string a0_2,.bool true]) (t:=72) (h:=?_);intro ac hg w9 hbox hb;have ny2_:=mk0 (gz_ HB hg);have ab:=mk0 (gz_ HB hg);replace HB:=mk0 (bt_ (b_ HB) hb);have aa:=mk0 (hbox);have ad:=ny2_;have ae:=ab;clear ny2_ ab hb hbox hg;obtain ⟨ai,aj,ak,al,am,an,ao,ap⟩:=c4_ aa)|((with_reducible refine gate_callee (f:=9) rfl ?_);refine gL_ (some 5) Tryz.func9 #[.int .i64 a0_0,.int .i64 2] (h:=?_);(with_reducible refine (FJ.calls a0_0 2 true _ A2.out).mono ?_);rintro e w' ⟨rfl,⟨nd,rfl⟩⟩;refine ⟨_,rfl,?_⟩)|(go_at_call 13;(with_reducible refine (F9.calls a0_1 true _ A4.out).mono ?_);rintro e w' ⟨rfl,⟨nd,rfl⟩⟩)|(go_at_call 54;(with_reducible refine (Gd.calls a0_2 true _ A6.out).mono ?_);rintro e w' ⟨rfl,⟨nd,rfl⟩⟩))
     go_ret
     exact ⟨sa_,b_ HB⟩
    ·replace c8:=Bool.eq_false_iff.mpr c8
     subst c8
     rw [if_neg nf_] at H
     obtain rfl:=Option.some.inj H
     go_enter Tryz.func31,Tryz.ntmps31
     go_wp2_with (first|((with_reducible refine gate_dst (N:=1) rfl ?_);refine bx_ (N:=1) (cs:=#[.int .i64 a0_0,.string a0_1,.string a0_2,.bool false]) (t:=72) (h:=?_);intro ac hg aY hbox hb;have ny2_:=mk0 (gz_ HB hg);have ab:=mk0 (gz_ HB hg);replace HB:=mk0 (bt_ (b_ HB) hb);have aa:=mk0 (hbox);have ad:=ny2_;have ae:=ab;clear ny2_ ab hb hbox hg;obtain ⟨aq,ar,au,av,aw,ax,ay,az⟩:=c4_ aa)|((with_reducible refine gate_callee (f:=9) rfl ?_);refine gL_ (some 5) Tryz.func9 #[.int .i64 a0_0,.int .i64 2] (h:=?_);(with_reducible refine (FJ.calls a0_0 2 true _ A2.out).mono ?_);rintro e w' ⟨rfl,⟨nd,rfl⟩⟩;refine ⟨_,rfl,?_⟩)|(go_at_call 13;(with_reducible refine (F9.calls a0_1 true _ A4.out).mono ?_);rintro e w' ⟨rfl,⟨nd,rfl⟩⟩)|(go_at_call 54;(with_reducible refine (Gd.calls a0_2 true _ A6.out).mono ?_);rintro e w' ⟨rfl,⟨nd,rfl⟩⟩))
     go_ret
     exact ⟨sa_,b_ HB⟩
   ·replace c7:=Bool.eq_false_iff.mpr c7
    subst c7
    rw [if_neg nf_] at H
    obtain rfl:=Option.some.inj H
    go_enter Tryz.func31,Tryz.ntmps31
    go_wp2_with (first|((with_reducible refine gate_dst (N:=1) rfl ?_);refine bx_ (N:=1) (cs:=#[.int .i64 a0_0,.string a0_1,.string a0_2,.bool a0_3]) (t:=72) (h:=?_);intro ac hg aZ hbox hb;have ny2_:=mk0 (gz_ HB hg);have ab:=mk0 (gz_ HB hg);replace HB:=mk0 (bt_ (b_ HB) hb);have aa:=mk0 (hbox);have ad:=ny2_;have ae:=ab;clear ny2_ ab hb hbox hg;obtain ⟨aA,aB,aC,aD,aE,aF,aG,aH⟩:=c4_ aa)|((with_reducible refine gate_callee (f:=9) rfl ?_);refine gL_ (some 5) Tryz.func9 #[.int .i64 a0_0,.int .i64 2] (h:=?_);(with_reducible refine (FJ.calls a0_0 2 true _ A2.out).mono ?_);rintro e w' ⟨rfl,⟨nd,rfl⟩⟩;refine ⟨_,rfl,?_⟩)|(go_at_call 13;(with_reducible refine (F9.calls a0_1 true _ A4.out).mono ?_);rintro e w' ⟨rfl,⟨nd,rfl⟩⟩)|(go_at_call 54;(with_reducible refine (Gd.calls a0_2 false _ A6.out).mono ?_);rintro e w' ⟨rfl,⟨nd,rfl⟩⟩))
    go_ret
    exact ⟨sa_,b_ HB⟩
  ·replace c5:=Bool.eq_false_iff.mpr c5
   subst c5
   rw [if_neg nf_] at H
   obtain rfl:=Option.some.inj H
   go_enter Tryz.func31,Tryz.ntmps31
   go_wp2_with (first|((with_reducible refine gate_dst (N:=1) rfl ?_);refine bx_ (N:=1) (cs:=#[.int .i64 a0_0,.string a0_1,.string a0_2,.bool a0_3]) (t:=72) (h:=?_);intro ac hg a2 hbox hb;have ny2_:=mk0 (gz_ HB hg);have ab:=mk0 (gz_ HB hg);replace HB:=mk0 (bt_ (b_ HB) hb);have aa:=mk0 (hbox);have ad:=ny2_;have ae:=ab;clear ny2_ ab hb hbox hg;obtain ⟨aI,aJ,aK,aL,aM,aN,aO,aP⟩:=c4_ aa)|((with_reducible refine gate_callee (f:=9) rfl ?_);refine gL_ (some 5) Tryz.func9 #[.int .i64 a0_0,.int .i64 2] (h:=?_);(with_reducible refine (FJ.calls a0_0 2 true _ A2.out).mono ?_);rintro e w' ⟨rfl,⟨nd,rfl⟩⟩;refine ⟨_,rfl,?_⟩)|(go_at_call 13;(with_reducible refine (F9.calls a0_1 false _ A4.out).mono ?_);rintro e w' ⟨rfl,⟨nd,rfl⟩⟩))
   go_ret
   exact ⟨sa_,b_ HB⟩
 ·replace c3:=Bool.eq_false_iff.mpr c3
  subst c3
  rw [if_neg nf_] at H
  obtain rfl:=Option.some.inj H
  go_enter Tryz.func31,Tryz.ntmps31
  go_wp2_with (first|((with_reducible refine gate_dst (N:=1) rfl ?_);refine bx_ (N:=1) (cs:=#[.int .i64 a0_0,.string a0_1,.string a0_2,.bool a0_3]) (t:=72) (h:=?_);intro ac hg a3 hbox hb;have ny2_:=mk0 (gz_ HB hg);have ab:=mk0 (gz_ HB hg);replace HB:=mk0 (bt_ (b_ HB) hb);have aa:=mk0 (hbox);have ad:=ny2_;have ae:=ab;clear ny2_ ab hb hbox hg;obtain ⟨aQ,aR,aS,aT,aU,aV,aW,aX⟩:=c4_ aa)|((with_reducible refine gate_callee (f:=9) rfl ?_);refine gL_ (some 5) Tryz.func9 #[.int .i64 a0_0,.int .i64 2] (h:=?_);(with_reducible refine (FJ.calls a0_0 2 false _ A2.out).mono ?_);rintro e w' ⟨rfl,⟨nd,rfl⟩⟩;refine ⟨_,rfl,?_⟩))
  go_ret
  exact ⟨sa_,b_ HB⟩
mutual
def Fd.j0:Nat→Bool→List (S72)→List Int→Option (Bool)
 | 0,_,_,_=>none
 | k + 1,a,b,c=>if a=true then (some false) else (Fd.l0 k 0 b c)
def Fd.l0:Nat→Int→List (S72)→List Int→Option (Bool)
 | 0,_,_,_=>none
 | k + 1,a,b,c=>if a<(b.length:Int) then (if 0≤a then ((Gp.f ((rd_T72 b a).f0) ((rd_T72 b a).f1) ((rd_T72 b a).f2) ((rd_T72 b a).f3)).bind fun d=>(if d=true then (Fd.l0 k (wrap64 (a + 1)) b c) else (some false))) else (none)) else (Fd.l1 k 0 b c)
def Fd.l1:Nat→Int→List (S72)→List Int→Option (Bool)
 | 0,_,_,_=>none
 | k + 1,a,c,b=>if a<(b.length:Int) then (if 0≤a then ((FJ.f (rd b a) (c.length:Int)).bind fun d=>(if d=true then (if a > 0 then (if 0≤(wrap64 (a - 1)) then (if (wrap64 (a - 1))<(b.length:Int) then (Fd.j3 k a (decide ((rd b (wrap64 (a - 1))) > (rd b a))) c b) else (none)) else (none)) else (Fd.j3 k a false c b)) else (Fd.j3 k a true c b))) else (none)) else (some true)
def Fd.j3:Nat→Int→Bool→List (S72)→List Int→Option (Bool)
 | 0,_,_,_,_=>none
 | k + 1,a,b,c,d=>if b=true then (some false) else (Fd.l1 k (wrap64 (a + 1)) c d)
end
def Fd.f (k:Nat) (l0_0:List (S72)) (l0_1:List Int):Option (Bool):=if (l0_0.length:Int) > 12 then (Fd.j0 k true l0_0 l0_1) else (Fd.j0 k (decide ((l0_1.length:Int) > 6)) l0_0 l0_1)
theorem Fd.mono_l:∀ k,(∀ y0 y1 y2,LeO (Fd.j0 k y0 y1 y2) (Fd.j0 (k + 1) y0 y1 y2))∧(∀ y0 y1 y2,LeO (Fd.l0 k y0 y1 y2) (Fd.l0 (k + 1) y0 y1 y2))∧(∀ y0 y1 y2,LeO (Fd.l1 k y0 y1 y2) (Fd.l1 (k + 1) y0 y1 y2))∧(∀ y0 y1 y2 y3,LeO (Fd.j3 k y0 y1 y2 y3) (Fd.j3 (k + 1) y0 y1 y2 y3))
 | 0=>⟨fun _ _ _ r h=>by simp [Fd.j0] at h,fun _ _ _ r h=>by simp [Fd.l0] at h,fun _ _ _ r h=>by simp [Fd.l1] at h,fun _ _ _ _ r h=>by simp [Fd.j3] at h⟩
 | k + 1=>by
  obtain ⟨ih0,ih1,ih2,ih3⟩:=Fd.mono_l k
  refine ⟨?_,?_,?_,?_⟩
  all_goals (intros;first|unfold Fd.j0|unfold Fd.l0|unfold Fd.l1|unfold Fd.j3)
  all_goals exact mz_
theorem Fd.mono:∀ a0 a1 k,LeO (Fd.f k a0 a1) (Fd.f (k + 1) a0 a1):=by
 intro a0 a1 k
 obtain ⟨ih0,ih1,ih2,ih3⟩:=Fd.mono_l k
 unfold Fd.f
 exact mz_
theorem Fd.calls (k:Nat) (A0_0:Option Addr) (c0_0:Nat) (l0_0:List (S72)) (A0_1:Option Addr) (c0_1:Nat) (l0_1:List Int) (r:Bool) (w:World) (hr0_0:Kd.C k72 w A0_0 l0_0.length l0_0) (hc0_0:l0_0.length≤c0_0) (hr0_1:Kd.C (Kd.int .i64) w A0_1 l0_1.length l0_1) (hc0_1:l0_1.length≤c0_1) (h:Fd.f k l0_0 l0_1=some r) :
 Calls Tryz.prog 8 #[.agg #[.slice A0_0 l0_0.length c0_0,.slice A0_1 l0_1.length c0_1]] w fun e w'=>e = .returned (.bool r)∧Below w.heap.size w w':=by
 have hu34:=Tryz.underlying34
 have hu72:=Tryz.underlying72
 have aS:=mk0 hr0_0
 have bT:=mk0 hc0_0
 clear hr0_0 hc0_0
 have ah:=mk0 hr0_1
 have bU:=mk0 hc0_1
 clear hr0_1 hc0_1
 have HB:=mk0 (Below.refl w.heap.size w)
 have H:(if (l0_0.length:Int) > 12 then (Fd.j0 k true l0_0 l0_1) else (Fd.j0 k (decide ((l0_1.length:Int) > 6)) l0_0 l0_1))=some r:=h
 clear h
 have HC2:=mk0 H
 clear H
 go_enter Tryz.func8,Tryz.ntmps8
 go_upto_region 1 with (first|((with_reducible refine gate_dst (N:=1) rfl ?_);(try (refine gate_guard (by rfl) ?_;dsimp only));refine bx_ (N:=1) (cs:=#[.slice A0_0 l0_0.length c0_0,.slice A0_1 l0_1.length c0_1]) (t:=34) (h:=?_);intro av hg w3 hbox hb;have ny2_:=mk0 (gz_ HB hg);have aE:=mk0 (gz_ HB hg);replace HB:=mk0 (bt_ (b_ HB) hb);have aa:=mk0 (hbox);have aT:=ny2_;have aU:=aE;clear ny2_ aE;clear hb hbox hg))
 repeat (go_quiet (first|((with_reducible refine gate_dst (N:=1) rfl ?_);(try (refine gate_guard (by rfl) ?_;dsimp only));refine bx_ (N:=1) (cs:=#[.slice A0_0 l0_0.length c0_0,.slice A0_1 l0_1.length c0_1]) (t:=34) (h:=?_);intro av hg w3 hbox hb;have ny2_:=mk0 (gz_ HB hg);have aE:=mk0 (gz_ HB hg);replace HB:=mk0 (bt_ (b_ HB) hb);have aa:=mk0 (hbox);have aT:=ny2_;have aU:=aE;clear ny2_ aE;clear hb hbox hg));go_upto_region 1 with (first|((with_reducible refine gate_dst (N:=1) rfl ?_);(try (refine gate_guard (by rfl) ?_;dsimp only));refine bx_ (N:=1) (cs:=#[.slice A0_0 l0_0.length c0_0,.slice A0_1 l0_1.length c0_1]) (t:=34) (h:=?_);intro av hg w3 hbox hb;have ny2_:=mk0 (gz_ HB hg);have aE:=mk0 (gz_ HB hg);replace HB:=mk0 (bt_ (b_ HB) hb);have aa:=mk0 (hbox);have aT:=ny2_;have aU:=aE;clear ny2_ aE;clear hb hbox hg)))
 (try simp only [Act.put,List.setIfInBounds_toArray,List.set_cons_zero,List.set_cons_succ])
 go_cut [14] (fun v14 wc=>∃ (kq:Nat) (aD:Bool),v14 = .bool aD∧Fc (Fd.j0 kq aD l0_0 l0_1=some r)∧Fc (kq≤k)∧Fc (wc.heap[av]? = some (.cells #[(.slice A0_0 l0_0.length c0_0),(.slice A0_1 l0_1.length c0_1)] 34 (0,0)))∧Fc (Below w.heap.size w wc))
 case first=>
  have H:=HC2.out
  clear HC2
  by_cases c4:(l0_0.length:Int) > 12
  ·rw [if_pos c4] at H
   have aF:=decide_eq_true c4
   have bf:decide (12<l0_0.length)=true:=decide_eq_true (by omega)
   clear c4
   (first|rw [aF]|(simp only [i64_w,i32_w];rw [aF])|skip)
   have H':=mk0 H
   clear H
   obtain ⟨bL,bM,bN,bO⟩:=c2_ aa
   go_wp2
   repeat (go_quiet (fail);try go_wp2)
   go_meet
   case rel=>exact ⟨_,(true),sm_,H',⟨by first|omega|exact Nat.le_refl _⟩,⟨h_ aa⟩,⟨b_ HB⟩⟩
  ·rw [if_neg c4] at H
   have aF:=decide_eq_false c4
   have bf:decide (12<l0_0.length)=false:=decide_eq_false (by omega)
   clear c4
   (first|rw [aF]|(simp only [i64_w,i32_w];rw [aF])|skip)
   have H':=mk0 H
   clear H
   obtain ⟨bP,bQ,bR,bS⟩:=c2_ aa
   go_wp2
   repeat (go_quiet (fail);try go_wp2)
   go_meet
   case rel=>exact ⟨_,(decide ((l0_1.length:Int) > 6)),sm_,H',⟨by first|omega|exact Nat.le_refl _⟩,⟨h_ aa⟩,⟨b_ HB⟩⟩
 case rest=>
  clear HC2
  obtain ⟨kq,aD,rfl,HA,aN,aa,HB⟩:=hcut
  cases kq with
  | zero=>exact absurd HA.out (by simp [Fd.j0])
  | succ bg=>
   have H:=HA.out
   clear HA
   simp only [Fd.j0] at H
   as_aux_lemma=>
    by_cases c7:aD=true
    ·subst c7
     rw [if_pos rfl] at H
     obtain rfl:=Option.some.inj H
     go_wp2
     repeat (go_quiet (fail);try go_wp2)
     go_ret
     exact ⟨sa_,b_ HB⟩
    ·replace c7:=Bool.eq_false_iff.mpr c7
     subst c7
     rw [if_neg nf_] at H
     have H':=mk0 H
     clear H
     go_wp2
     repeat (go_quiet (fail);try go_wp2)
     go_loopg [3] bg (fun kq v3 w'=>∃ (ac:Int),v3 = .int .i64 ac∧Fc (Fd.l0 kq ac l0_0 l0_1=some r)∧Fc (kq≤bg)∧Fc (w'.heap[av]? = some (.cells #[(.slice A0_0 l0_0.length c0_0),(.slice A0_1 l0_1.length c0_1)] 34 (0,0)))∧Fc (Below w.heap.size w w'))
     case atStart=>exact ⟨(0),sm_,H',⟨Nat.le_refl _⟩,⟨h_ aa⟩,⟨b_ HB⟩⟩
     case round=>
      clear H'
      try clear c7
      obtain ⟨ac,rfl,HA,aO,aa,HB⟩:=hrel
      cases gk with
      | zero=>exact absurd HA.out (by simp [Fd.l0])
      | succ k2=>
       have H:=HA.out
       clear HA
       simp only [Fd.l0] at H
       as_aux_lemma=>
        by_cases c8:ac<(l0_0.length:Int)
        ·rw [if_pos c8] at H
         have aV:=decide_eq_true c8
         clear c8
         by_cases c9:0≤ac
         ·rw [if_pos c9] at H
          have bX:=decide_eq_true c9
          clear c9
          replace H:=ob_ H
          obtain ⟨bh,aQ,H⟩:=H
          try dsimp only at H
          by_cases a6:bh=true
          ·subst a6
           rw [if_pos rfl] at H
           have H':=mk0 H
           clear H
           obtain ⟨bi,bj,bk,bl⟩:=c2_ aa
           have ax:0≤(ac:Int):=od_
           have ay:ac<(l0_0.length:Int):=od_
           obtain ⟨bd,aW,ai,aj,ak,al⟩:=at_T72 aS.out ac ax ay
           cases aW
           replace ai:=(bc_ HB ai :)
           replace aj:=(bc_ HB aj :)
           replace ak:=(bc_ HB ak :)
           replace al:=(bc_ HB al :)
           replace ax:=eq_true ax
           replace ay:=eq_true ay
           go_wp2_with (first|(go_at_call 31;(with_reducible refine (Gp.calls ((rd_T72 l0_0 ac).f0) ((rd_T72 l0_0 ac).f1) ((rd_T72 l0_0 ac).f2) ((rd_T72 l0_0 ac).f3) true _ aQ.out).mono ?_);rintro e bm ⟨rfl,hb⟩;replace aa:=mk0 (u_ aa hb);replace HB:=mk0 (bt_ (b_ HB) hb);(try clear hb)))
           repeat (go_quiet (first|(go_at_call 31;(with_reducible refine (Gp.calls ((rd_T72 l0_0 ac).f0) ((rd_T72 l0_0 ac).f1) ((rd_T72 l0_0 ac).f2) ((rd_T72 l0_0 ac).f3) true _ aQ.out).mono ?_);rintro e bm ⟨rfl,hb⟩;replace aa:=mk0 (u_ aa hb);replace HB:=mk0 (bt_ (b_ HB) hb);(try clear hb)));try go_wp2_with (first|(go_at_call 31;(with_reducible refine (Gp.calls ((rd_T72 l0_0 ac).f0) ((rd_T72 l0_0 ac).f1) ((rd_T72 l0_0 ac).f2) ((rd_T72 l0_0 ac).f3) true _ aQ.out).mono ?_);rintro e bm ⟨rfl,hb⟩;replace aa:=mk0 (u_ aa hb);replace HB:=mk0 (bt_ (b_ HB) hb);(try clear hb))))
           go_roundg k2
           case measure=>have:=aN.out;have:=aO.out;omega
           case rel=>exact ⟨(wrap64 (ac + 1)),sm_,H',⟨by have:=aN.out;have:=aO.out;omega⟩,⟨h_ aa⟩,⟨b_ HB⟩⟩
          ·replace a6:=Bool.eq_false_iff.mpr a6
           subst a6
           rw [if_neg nf_] at H
           obtain rfl:=Option.some.inj H
           obtain ⟨bn,bo,bp,bq⟩:=c2_ aa
           have ax:0≤(ac:Int):=od_
           have ay:ac<(l0_0.length:Int):=od_
           obtain ⟨bd,aW,ai,aj,ak,al⟩:=at_T72 aS.out ac ax ay
           cases aW
           replace ai:=(bc_ HB ai :)
           replace aj:=(bc_ HB aj :)
           replace ak:=(bc_ HB ak :)
           replace al:=(bc_ HB al :)
           replace ax:=eq_true ax
           replace ay:=eq_true ay
           go_wp2_with (first|(go_at_call 31;(with_reducible refine (Gp.calls ((rd_T72 l0_0 ac).f0) ((rd_T72 l0_0 ac).f1) ((rd_T72 l0_0 ac).f2) ((rd_T72 l0_0 ac).f3) false _ aQ.out).mono ?_);rintro e br ⟨rfl,hb⟩;replace aa:=mk0 (u_ aa hb);replace HB:=mk0 (bt_ (b_ HB) hb);(try clear hb)))
           repeat (go_quiet (first|(go_at_call 31;(with_reducible refine (Gp.calls ((rd_T72 l0_0 ac).f0) ((rd_T72 l0_0 ac).f1) ((rd_T72 l0_0 ac).f2) ((rd_T72 l0_0 ac).f3) false _ aQ.out).mono ?_);rintro e br ⟨rfl,hb⟩;replace aa:=mk0 (u_ aa hb);replace HB:=mk0 (bt_ (b_ HB) hb);(try clear hb)));try go_wp2_with (first|(go_at_call 31;(with_reducible refine (Gp.calls ((rd_T72 l0_0 ac).f0) ((rd_T72 l0_0 ac).f1) ((rd_T72 l0_0 ac).f2) ((rd_T72 l0_0 ac).f3) false _ aQ.out).mono ?_);rintro e br ⟨rfl,hb⟩;replace aa:=mk0 (u_ aa hb);replace HB:=mk0 (bt_ (b_ HB) hb);(try clear hb))))
           go_ret
           exact ⟨sa_,b_ HB⟩
         ·rw [if_neg c9] at H
          exact absurd H (by simp)
        ·rw [if_neg c8] at H
         have aV:=decide_eq_false c8
         clear c8
         have H':=mk0 H
         clear H
         obtain ⟨aG,aH,aI,aJ⟩:=c2_ aa
         go_wp2
         repeat (go_quiet (fail);try go_wp2)
         go_loopg [4] k2 (fun kq v4 w'=>∃ (ab:Int),v4 = .int .i64 ab∧Fc (Fd.l1 kq ab l0_0 l0_1=some r)∧Fc (kq≤k2)∧Fc (w'.heap[av]? = some (.cells #[(.slice A0_0 l0_0.length c0_0),(.slice A0_1 l0_1.length c0_1)] 34 (0,0)))∧Fc (Below w.heap.size w w'))
         case atStart=>exact ⟨(0),sm_,H',⟨Nat.le_refl _⟩,⟨h_ aa⟩,⟨b_ HB⟩⟩
         case round=>
          clear H'
          try clear c7
          try clear c8
          try clear aV
          try clear aG
          try clear aH
          try clear aI
          try clear aJ
          obtain ⟨ab,rfl,HA,aX,aa,HB⟩:=hrel
          cases gk with
          | zero=>exact absurd HA.out (by simp [Fd.l1])
          | succ k3=>
           have H:=HA.out
           clear HA
           simp only [Fd.l1] at H
           as_aux_lemma=>
            by_cases aP:ab<(l0_1.length:Int)
            ·rw [if_pos aP] at H
             have aY:=decide_eq_true aP
             clear aP
             have HC18:=mk0 H
             clear H
             obtain ⟨aZ,a2,a3,a4⟩:=c2_ aa
             go_upto_region 11 with (fail)
             repeat (go_quiet (fail);go_upto_region 11 with (fail))
             go_cut [63] (fun v63 wc=>∃ (kq:Nat) (aw:Bool),v63 = .bool aw∧Fc (Fd.j3 kq ab aw l0_0 l0_1=some r)∧Fc (kq≤k3)∧Fc (wc.heap[av]? = some (.cells #[(.slice A0_0 l0_0.length c0_0),(.slice A0_1 l0_1.length c0_1)] 34 (0,0)))∧Fc (Below w.heap.size w wc))
             case first=>
              have H:=HC18.out
              clear HC18
              by_cases a7:0≤ab
              ·rw [if_pos a7] at H
               have a5:=decide_eq_true a7
               clear a7
               (first|rw [a5]|(simp only [i64_w,i32_w];rw [a5])|skip)
               replace H:=ob_ H
               obtain ⟨bs,aC,H⟩:=H
               try dsimp only at H
               by_cases a8:bs=true
               ·subst a8
                rw [if_pos rfl] at H
                by_cases aR:ab > 0
                ·rw [if_pos aR] at H
                 have be:=decide_eq_true aR
                 clear aR
                 obtain ⟨ag,az⟩:∃ j_:Int,(wrap64 (ab - 1))=j_:=⟨_,rfl⟩
                 replace H:(if 0≤(ag) then (if (ag)<(l0_1.length:Int) then (Fd.j3 k3 ab (decide ((rd l0_1 (ag)) > (rd l0_1 ab))) l0_0 l0_1) else (none)) else (none))=some r:=by first|(rw [az] at H;exact H)|(simp only [az] at H ⊢; exact H)
                 (try rw [az] at aC)
                 have hji24w:(IntKind.i64.wrap (ab - 1))=ag:=(i64_w _).trans az
                 by_cases a9:0≤(ag)
                 ·rw [if_pos a9] at H
                  have bV:=decide_eq_true a9
                  clear a9
                  by_cases ba:(ag)<(l0_1.length:Int)
                  ·rw [if_pos ba] at H
                   have bW:=decide_eq_true ba
                   clear ba
                   have H':=mk0 H
                   clear H
                   obtain ⟨bt,bu,bv,bw⟩:=c2_ aa
                   have am:0≤(ab:Int):=od_
                   have an:ab<(l0_1.length:Int):=od_
                   obtain ⟨ao,aK,ad⟩:=Kd.at_int ah.out ab am an
                   cases aK
                   replace ad:=(bc_ HB ad :)
                   replace am:=eq_true am
                   replace an:=eq_true an
                   go_wp2_with (first|(go_at_call 9;(with_reducible refine (FJ.calls (rd l0_1 ab) (l0_0.length:Int) true _ aC.out).mono ?_);rintro e w' ⟨rfl,⟨nd,rfl⟩⟩;(try first|exact ⟨rfl,_,World.drewN_drewN _ _ _⟩|exact ⟨rfl,_,Eq.trans (World.drewN_drewN _ _ _) (congrArg (World.drewN _) (Nat.add_assoc _ _ _))⟩);have ap:0≤((ag):Int):=od_;have aq:(ag)<(l0_1.length:Int):=od_;obtain ⟨aA,aL,ae⟩:=Kd.at_int ah.out (ag) ap aq;obtain rfl:ao=aA:=(by injection aL);replace ae:=(bc_ HB ae :);replace ap:=eq_true ap;replace aq:=eq_true aq;have ar:0≤(ab:Int):=od_;have au:ab<(l0_1.length:Int):=od_;obtain ⟨aB,aM,af⟩:=Kd.at_int ah.out ab ar au;obtain rfl:ao=aB:=(by injection aM);replace af:=(bc_ HB af :);replace ar:=eq_true ar;replace au:=eq_true au))
                   repeat (go_quiet (first|(go_at_call 9;(with_reducible refine (FJ.calls (rd l0_1 ab) (l0_0.length:Int) true _ aC.out).mono ?_);rintro e w' ⟨rfl,⟨nd,rfl⟩⟩;(try first|exact ⟨rfl,_,World.drewN_drewN _ _ _⟩|exact ⟨rfl,_,Eq.trans (World.drewN_drewN _ _ _) (congrArg (World.drewN _) (Nat.add_assoc _ _ _))⟩);have ap:0≤((ag):Int):=od_;have aq:(ag)<(l0_1.length:Int):=od_;obtain ⟨aA,aL,ae⟩:=Kd.at_int ah.out (ag) ap aq;obtain rfl:ao=aA:=(by injection aL);replace ae:=(bc_ HB ae :);replace ap:=eq_true ap;replace aq:=eq_true aq;have ar:0≤(ab:Int):=od_;have au:ab<(l0_1.length:Int):=od_;obtain ⟨aB,aM,af⟩:=Kd.at_int ah.out ab ar au;obtain rfl:ao=aB:=(by injection aM);replace af:=(bc_ HB af :);replace ar:=eq_true ar;replace au:=eq_true au));try go_wp2_with (first|(go_at_call 9;(with_reducible refine (FJ.calls (rd l0_1 ab) (l0_0.length:Int) true _ aC.out).mono ?_);rintro e w' ⟨rfl,⟨nd,rfl⟩⟩;(try first|exact ⟨rfl,_,World.drewN_drewN _ _ _⟩|exact ⟨rfl,_,Eq.trans (World.drewN_drewN _ _ _) (congrArg (World.drewN _) (Nat.add_assoc _ _ _))⟩);have ap:0≤((ag):Int):=od_;have aq:(ag)<(l0_1.length:Int):=od_;obtain ⟨aA,aL,ae⟩:=Kd.at_int ah.out (ag) ap aq;obtain rfl:ao=aA:=(by injection aL);replace ae:=(bc_ HB ae :);replace ap:=eq_true ap;replace aq:=eq_true aq;have ar:0≤(ab:Int):=od_;have au:ab<(l0_1.length:Int):=od_;obtain ⟨aB,aM,af⟩:=Kd.at_int ah.out ab ar au;obtain rfl:ao=aB:=(by injection aM);replace af:=(bc_ HB af :);replace ar:=eq_true ar;replace au:=eq_true au)))
                   go_meet
                   case rel=>exact ⟨_,(decide ((rd l0_1 (ag)) > (rd l0_1 ab))),(by first|rfl|(simp;done)|(simp only [← az] <;> (first|rfl|(simp [leq_];done)|(simp;done)))|(simp [*];done)),H',⟨by have:=aN.out;have:=aO.out;have:=aX.out;first|omega|exact Nat.le_refl _⟩,⟨h_ aa⟩,⟨b_ HB⟩⟩
                  ·rw [if_neg ba] at H
                   exact absurd H (by simp)
                 ·rw [if_neg a9] at H
                  exact absurd H (by simp)
                ·rw [if_neg aR] at H
                 have be:=decide_eq_false aR
                 clear aR
                 have H':=mk0 H
                 clear H
                 obtain ⟨bx,bz,bA,bB⟩:=c2_ aa
                 have am:0≤(ab:Int):=od_
                 have an:ab<(l0_1.length:Int):=od_
                 obtain ⟨ao,aK,ad⟩:=Kd.at_int ah.out ab am an
                 cases aK
                 replace ad:=(bc_ HB ad :)
                 replace am:=eq_true am
                 replace an:=eq_true an
                 go_wp2_with (first|(go_at_call 9;(with_reducible refine (FJ.calls (rd l0_1 ab) (l0_0.length:Int) true _ aC.out).mono ?_);rintro e w' ⟨rfl,⟨nd,rfl⟩⟩;(try first|exact ⟨rfl,_,World.drewN_drewN _ _ _⟩|exact ⟨rfl,_,Eq.trans (World.drewN_drewN _ _ _) (congrArg (World.drewN _) (Nat.add_assoc _ _ _))⟩)))
                 repeat (go_quiet (first|(go_at_call 9;(with_reducible refine (FJ.calls (rd l0_1 ab) (l0_0.length:Int) true _ aC.out).mono ?_);rintro e w' ⟨rfl,⟨nd,rfl⟩⟩;(try first|exact ⟨rfl,_,World.drewN_drewN _ _ _⟩|exact ⟨rfl,_,Eq.trans (World.drewN_drewN _ _ _) (congrArg (World.drewN _) (Nat.add_assoc _ _ _))⟩)));try go_wp2_with (first|(go_at_call 9;(with_reducible refine (FJ.calls (rd l0_1 ab) (l0_0.length:Int) true _ aC.out).mono ?_);rintro e w' ⟨rfl,⟨nd,rfl⟩⟩;(try first|exact ⟨rfl,_,World.drewN_drewN _ _ _⟩|exact ⟨rfl,_,Eq.trans (World.drewN_drewN _ _ _) (congrArg (World.drewN _) (Nat.add_assoc _ _ _))⟩))))
                 go_meet
                 case rel=>exact ⟨_,(false),sm_,H',⟨by have:=aN.out;have:=aO.out;have:=aX.out;first|omega|exact Nat.le_refl _⟩,⟨h_ aa⟩,⟨b_ HB⟩⟩
               ·replace a8:=Bool.eq_false_iff.mpr a8
                subst a8
                rw [if_neg nf_] at H
                have H':=mk0 H
                clear H
                obtain ⟨bC,bD,bE,bF⟩:=c2_ aa
                have am:0≤(ab:Int):=od_
                have an:ab<(l0_1.length:Int):=od_
                obtain ⟨ao,aK,ad⟩:=Kd.at_int ah.out ab am an
                cases aK
                replace ad:=(bc_ HB ad :)
                replace am:=eq_true am
                replace an:=eq_true an
                go_wp2_with (first|(go_at_call 9;(with_reducible refine (FJ.calls (rd l0_1 ab) (l0_0.length:Int) false _ aC.out).mono ?_);rintro e w' ⟨rfl,⟨nd,rfl⟩⟩;(try first|exact ⟨rfl,_,World.drewN_drewN _ _ _⟩|exact ⟨rfl,_,Eq.trans (World.drewN_drewN _ _ _) (congrArg (World.drewN _) (Nat.add_assoc _ _ _))⟩)))
                repeat (go_quiet (first|(go_at_call 9;(with_reducible refine (FJ.calls (rd l0_1 ab) (l0_0.length:Int) false _ aC.out).mono ?_);rintro e w' ⟨rfl,⟨nd,rfl⟩⟩;(try first|exact ⟨rfl,_,World.drewN_drewN _ _ _⟩|exact ⟨rfl,_,Eq.trans (World.drewN_drewN _ _ _) (congrArg (World.drewN _) (Nat.add_assoc _ _ _))⟩)));try go_wp2_with (first|(go_at_call 9;(with_reducible refine (FJ.calls (rd l0_1 ab) (l0_0.length:Int) false _ aC.out).mono ?_);rintro e w' ⟨rfl,⟨nd,rfl⟩⟩;(try first|exact ⟨rfl,_,World.drewN_drewN _ _ _⟩|exact ⟨rfl,_,Eq.trans (World.drewN_drewN _ _ _) (congrArg (World.drewN _) (Nat.add_assoc _ _ _))⟩))))
                go_meet
                case rel=>exact ⟨_,(true),sm_,H',⟨by have:=aN.out;have:=aO.out;have:=aX.out;first|omega|exact Nat.le_refl _⟩,⟨h_ aa⟩,⟨b_ HB⟩⟩
              ·rw [if_neg a7] at H
               exact absurd H (by simp)
             case rest=>
              clear HC18
              try clear c7
              try clear c8
              try clear aV
              try clear aP
              try clear aY
              try clear aG
              try clear aH
              try clear aZ
              try clear a2
              try clear aI
              try clear aJ
              try clear a3
              try clear a4
              obtain ⟨kq,aw,rfl,HA,bc,aa,HB⟩:=hcut
              cases kq with
              | zero=>exact absurd HA.out (by simp [Fd.j3])
              | succ bG=>
               have H:=HA.out
               clear HA
               simp only [Fd.j3] at H
               as_aux_lemma=>
                by_cases bb:aw=true
                ·subst bb
                 rw [if_pos rfl] at H
                 obtain rfl:=Option.some.inj H
                 go_wp2
                 repeat (go_quiet (fail);try go_wp2)
                 go_ret
                 exact ⟨sa_,b_ HB⟩
                ·replace bb:=Bool.eq_false_iff.mpr bb
                 subst bb
                 rw [if_neg nf_] at H
                 have H':=mk0 H
                 clear H
                 go_wp2
                 repeat (go_quiet (fail);try go_wp2)
                 go_roundg bG
                 case measure=>have:=aN.out;have:=aO.out;have:=aX.out;have:=bc.out;omega
                 case rel=>exact ⟨(wrap64 (ab + 1)),sm_,H',⟨by have:=aN.out;have:=aO.out;have:=aX.out;have:=bc.out;omega⟩,⟨h_ aa⟩,⟨b_ HB⟩⟩
            ·rw [if_neg aP] at H
             have aY:=decide_eq_false aP
             clear aP
             obtain rfl:=Option.some.inj H
             obtain ⟨bH,bI,bJ,bK⟩:=c2_ aa
             go_wp2
             repeat (go_quiet (fail);try go_wp2)
             go_ret
             exact ⟨sa_,b_ HB⟩
def Fy.l0:Nat→List (S50)→ByteArray→Int→Option (Int)
 | 0,_,_,_=>none
 | k + 1,b,c,a=>if a<(b.length:Int) then (if 0≤a then (if ((rd_T50 b a).f0).toList=c.toList then (some a) else (Fy.l0 k b c (wrap64 (a + 1)))) else (none)) else (some (-1))
def Fy.f (k:Nat) (l0:List (S50)) (a1:ByteArray):Option (Int):=Fy.l0 k l0 a1 0
theorem Fy.mono_l:∀ k,(∀ y0 y1 y2,LeO (Fy.l0 k y0 y1 y2) (Fy.l0 (k + 1) y0 y1 y2))
 | 0=>fun _ _ _ r h=>by simp [Fy.l0] at h
 | k + 1=>by
  have ih0:=Fy.mono_l k
  all_goals (intros;first|unfold Fy.l0)
  all_goals exact mz_
theorem Fy.mono:∀ a0 a1 k,LeO (Fy.f k a0 a1) (Fy.f (k + 1) a0 a1):=by
 intro a0 a1 k
 have ih0:=Fy.mono_l k
 unfold Fy.f
 exact mz_
theorem Fy.calls (k:Nat) (A0:Option Addr) (c0:Nat) (l0:List (S50)) (a1:ByteArray) (r:Int) (w:World) (hr0:Kd.C k50 w A0 l0.length l0) (hc0:l0.length≤c0) (h:Fy.f k l0 a1=some r) :
 Calls Tryz.prog 14 #[.slice A0 l0.length c0,.string a1] w fun e w'=>e = .returned (.int .i64 r)∧Drawn0 w w':=by
 have HR0:=mk0 hr0
 have HC0:=mk0 hc0
 clear hr0 hc0
 have H:(Fy.l0 k l0 a1 0)=some r:=h
 clear h
 have H':=mk0 H
 clear H
 go_enter Tryz.func14,Tryz.ntmps14
 go_wp2
 go_loopg [5] k (fun kq v5 w'=>∃ (aa:Int),v5 = .int .i64 aa∧Fc (Fy.l0 kq l0 a1 aa=some r)∧Fc (kq≤k)∧Drawn0 w w')
 case atStart=>exact ⟨(0),sm_,H',⟨Nat.le_refl _⟩,by repeat (first|exact Drawn0.refl _|apply Drawn0.step)⟩
 case round=>
  clear H'
  obtain ⟨aa,rfl,HA,ah,⟨m1,rfl⟩⟩:=hrel
  cases gk with
  | zero=>exact absurd HA.out (by simp [Fy.l0])
  | succ k1=>
   have H:=HA.out
   clear HA
   simp only [Fy.l0] at H
   as_aux_lemma=>
    by_cases c3:aa<(l0.length:Int)
    ·rw [if_pos c3] at H
     have ai:=decide_eq_true c3
     clear c3
     by_cases c4:0≤aa
     ·rw [if_pos c4] at H
      have al:=decide_eq_true c4
      clear c4
      by_cases c5:((rd_T50 l0 aa).f0).toList=a1.toList
      ·rw [if_pos c5] at H
       have aj:=beq_iff_eq.mpr c5
       have ak:=bne_eq_false_iff_eq.mpr c5
       clear c5
       obtain rfl:=Option.some.inj H
       have ab:0≤(aa:Int):=od_
       have ac:aa<(l0.length:Int):=od_
       obtain ⟨ag,ad,ae,af⟩:=at_T50 HR0.out aa ab ac
       cases ad
       replace ab:=eq_true ab
       replace ac:=eq_true ac
       go_wp2
       go_ret
       exact ⟨by first|rfl|(simp;done)|(simp [*];done),by repeat (first|exact Drawn0.refl _|apply Drawn0.step)⟩
      ·rw [if_neg c5] at H
       have aj:=beq_eq_false_iff_ne.mpr c5
       have ak:=bne_iff_ne.mpr c5
       have H':=mk0 H
       clear H
       have ab:0≤(aa:Int):=od_
       have ac:aa<(l0.length:Int):=od_
       obtain ⟨ag,ad,ae,af⟩:=at_T50 HR0.out aa ab ac
       cases ad
       replace ab:=eq_true ab
       replace ac:=eq_true ac
       go_wp2
       go_roundg k1
       case measure=>have:=ah.out;omega
       case rel=>exact ⟨(wrap64 (aa + 1)),sm_,H',⟨by have:=ah.out;omega⟩,by repeat (first|exact Drawn0.refl _|apply Drawn0.step)⟩
     ·rw [if_neg c4] at H
      exact absurd H (by simp)
    ·rw [if_neg c3] at H
     have ai:=decide_eq_false c3
     clear c3
     obtain rfl:=Option.some.inj H
     go_wp2
     go_ret
     exact ⟨by first|rfl|(simp;done)|(simp [*];done),by repeat (first|exact Drawn0.refl _|apply Drawn0.step)⟩
end Go.Proofs.YtbaecdcfefmcgaaGreat.PVrd
