import Derived.Test.YtbaecdcfefmcgaaGreatPVrdx0
import Derived.Test.YtbaecdcfefmcgaaGreatPVrdx7
namespace Go.Proofs.YtbaecdcfefmcgaaGreat.PVrd
open Go.RowKit Go.Proofs.YtbaecdcfefmcgaaGreatW.PrintWords Go.Proofs.YtbaecdcfefmcgaaGreatW.PrintLast Go.Proofs.YtbaecdcfefmcgaaGreatW.PrintMore
attribute [local go_sem] max2_int min2_int max_two min_two max_three min_three max_four min_four
set_option maxHeartbeats 8000000
set_option maxRecDepth 100000
set_option linter.unusedVariables false
set_option linter.unusedSimpArgs false
def FO.l0:Nat→List (S43)→List (S43)→Int→Option ((List (S43)))
 | 0,_,_,_=>none
 | k + 1,b,c,a=>if a<(b.length:Int) then (if 0≤a then ((Gm.f k ((rd_T43 b a).f0)).bind fun d=>(if c.length<5864062014805 then (FO.l0 k b (c ++ [(⟨d⟩:S43)]) (wrap64 (a + 1))) else (none))) else (none)) else (some c)
def FO.f (k:Nat) (l0:List (S43)):Option ((List (S43))):=FO.l0 k l0 ([]:List (S43)) 0
theorem FO.mono_l:∀ k,(∀ y0 y1 y2,LeO (FO.l0 k y0 y1 y2) (FO.l0 (k + 1) y0 y1 y2))
 | 0=>fun _ _ _ r h=>by simp [FO.l0] at h
 | k + 1=>by
  have ih0:=FO.mono_l k
  have:=@Gm.mono
  all_goals (intros;first|unfold FO.l0)
  all_goals exact mz_
theorem FO.mono:∀ a0 k,LeO (FO.f k a0) (FO.f (k + 1) a0):=by
 intro a0 k
 have ih0:=FO.mono_l k
 have:=@Gm.mono
 unfold FO.f
 exact mz_
theorem FO.calls (k:Nat) (A0:Option Addr) (c0:Nat) (l0:List (S43)) (r:List (S43)) (w:World) (hr0:Kd.C k43 w A0 l0.length l0) (hc0:l0.length≤c0) (h:FO.f k l0=some r) :
 Calls Tryz.prog 5 #[.slice A0 l0.length c0] w fun e w'=>∃ v0_:Value,e = .returned (v0_)∧Kd.R k43 43 w' w.heap.size (fun _=>True) v0_ r∧Below w.heap.size w w':=by
 have hu43:=Tryz.underlying43
 have HR0:=mk0 hr0
 have HC0:=mk0 hc0
 clear hr0 hc0
 have HB:=mk0 (Below.refl w.heap.size w)
 have H:(FO.l0 k l0 ([]:List (S43)) 0)=some r:=h
 clear h
 have H':=mk0 H
 clear H
 go_enter Tryz.func5,Tryz.ntmps5
 go_wp2
 go_loopg [3,4] k (fun kq v3 v4 w'=>∃ (ab:List (S43)) (aa:Int),v4 = .int .i64 aa∧Fc (FO.l0 kq l0 ab aa=some r)∧Fc (kq≤k)∧Fc (Kd.R k43 43 w' w.heap.size (fun _=>True) v3 ab)∧Fc (Below w.heap.size w w'))
 case atStart=>exact ⟨(([]:List (S43))),(0),sm_,H',⟨Nat.le_refl _⟩,⟨nl_⟩,⟨b_ HB⟩⟩
 case round=>
  clear H'
  obtain ⟨ab,aa,rfl,HA,au,ac,HB⟩:=hrel
  cases gk with
  | zero=>exact absurd HA.out (by simp [FO.l0])
  | succ k1=>
   have H:=HA.out
   clear HA
   simp only [FO.l0] at H
   as_aux_lemma=>
    by_cases c2:aa<(l0.length:Int)
    ·rw [if_pos c2] at H
     have av:=decide_eq_true c2
     clear c2
     by_cases c3:0≤aa
     ·rw [if_pos c3] at H
      have aD:=decide_eq_true c3
      clear c3
      replace H:=ob_ H
      obtain ⟨ad,A4,H⟩:=H
      try dsimp only at H
      by_cases c5:ab.length<5864062014805
      ·rw [if_pos c5] at H
       have LMc5:=mk0 c5
       clear c5
       obtain ⟨ap,ah⟩:∃ y_:List (S43),y_=(ab ++ [(⟨ad⟩:S43)]):=⟨_,rfl⟩
       replace H:(FO.l0 k1 l0 ap (wrap64 (aa + 1)))=some r:=rp_ H ah
       have aq:=mk0 ah
       clear ah
       have H':=mk0 H
       clear H
       have aj:0≤(aa:Int):=od_
       have ak:aa<(l0.length:Int):=od_
       obtain ⟨ay,an,ao,aw,ae,af,ag⟩:=at_T43 HR0.out aa aj ak
       cases aw
       replace ae:=(bc_ HB ae :)
       have al:=mk0 ag
       have am:=mk0 af
       clear ag af
       replace aj:=eq_true aj
       replace ak:=eq_true ak
       go_wp2_with (first|((with_reducible refine gate_callee (f:=27) rfl ?_);refine gL_ (some 16) Tryz.func27 #[.agg #[.slice an ((rd_T43 l0 aa).f0).length ao]] (h:=?_);(with_reducible refine (Gm.calls k1 _ _ ((rd_T43 l0 aa).f0) ad _ ?side1 ?side2 A4.out).mono ?_);(case side1=>exact cb_ al HB);(case side2=>exact am.out);rintro e w6 ⟨aE,rfl,ho0,hb⟩;refine ⟨_,rfl,?_⟩;have ax:=mk0 (Kd.S_lower ho0 (bz_ (b_ HB)));replace ac:=mk0 (Kd.R_elder' (r_ ac) (Kd.S_base ho0) hb);replace HB:=mk0 (bt_ (b_ HB) hb);have ai:=ax;clear ax;(try clear hb);(try clear ho0);obtain ⟨az,aA,aC⟩:=Kd.S_slice ai.out;subst aC)|((with_reducible refine gate_builtin (b:=.append) (xs:=#[.tmp 11,.tmp 17]) rfl ?_);at_builtin;refine Kd.R_append k43 (w0:=w) w.heap.size rfl (.tmp 11) (.tmp 17) 22 43 (.agg #[(.slice none 0 0)]) 24 rfl Tryz.underlying22 info43 rfl (by decide) (by omega) u3 ab (⟨ad⟩:S43) [.slice az ad.length aA] (fun _=>True) (fun k_=>((fun _=>True)) k_∧some k_≠(u3:Value).ownBlock) rfl rfl ?aP (fun _ hk=>hk) ?aF ?aO ?aB ?aS ?aL ?_;(case aP=>exact k43_mkM _ _ _ (⟨ad⟩:S43) (Kd.R_mono (Kd.R_apart' ((Kd.S_R ai.out)) (Kd.R_typed ac.out) (by decide)) (fun k_ hk=>⟨trivial,hk.2⟩)));(case aB=>exact (b_ HB));(case aF=>exact (fun _ _=>trivial));(case aO=>exact (r2_ (Kd.R_mono ac.out (fun _ hk=>trivial))));(case aS=>exact (bz_ (b_ HB)));(case aL=>have:=LMc5.out;omega);intro aG w7 ho hb hg hat;rw [← aq.out] at ho;replace HB:=mk0 (hb);have ar:=mk0 (ho);clear ac ai;clear ho hb hg hat))
       go_roundg k1
       case measure=>have:=au.out;omega
       case rel=>exact ⟨(ap),(wrap64 (aa + 1)),sm_,H',⟨by have:=au.out;omega⟩,⟨r2_ ar.out⟩,⟨b_ HB⟩⟩
      ·rw [if_neg c5] at H
       exact absurd H (by simp)
     ·rw [if_neg c3] at H
      exact absurd H (by simp)
    ·rw [if_neg c2] at H
     have av:=decide_eq_false c2
     clear c2
     obtain rfl:=Option.some.inj H
     go_wp2
     go_ret
     exact ⟨_,sa_,by (with_reducible repeat (first|apply Ra_|apply Rn_|apply Rd_));exact ac.out,b_ HB⟩
def Gc.f (a0:Int) (a1:Int) (a2:Int):Option (Bool):=if a0≥a1 then (some (decide (a0≤a2))) else (some false)
theorem Gc.calls (a0:Int) (a1:Int) (a2:Int) (r:Bool) (w:World) (h:Gc.f a0 a1 a2=some r) :
 Calls Tryz.prog 41 #[.int .i64 a0,.int .i64 a1,.int .i64 a2] w fun e w'=>e = .returned (.bool r)∧Drawn0 w w':=by
 have H:(if a0≥a1 then (some (decide (a0≤a2))) else (some false))=some r:=h
 clear h
 by_cases c4:a0≥a1
 ·rw [if_pos c4] at H
  have c4b0:=decide_eq_true c4
  clear c4
  obtain rfl:=Option.some.inj H
  go_enter Tryz.func41,Tryz.ntmps41
  go_wp2
  go_ret
  exact ⟨by first|rfl|(simp;done)|(simp [*];done),by repeat (first|exact Drawn0.refl _|apply Drawn0.step)⟩
 ·rw [if_neg c4] at H
  have c4b0:=decide_eq_false c4
  clear c4
  obtain rfl:=Option.some.inj H
  go_enter Tryz.func41,Tryz.ntmps41
  go_wp2
  go_ret
  exact ⟨by first|rfl|(simp;done)|(simp [*];done),by repeat (first|exact Drawn0.refl _|apply Drawn0.step)⟩
def F9.f (a0:ByteArray):Option (Bool):=(Gc.f (a0.size:Int) 1 12).bind fun a=>(some a)
theorem F9.calls (a0:ByteArray) (r:Bool) (w:World) (h:F9.f a0=some r) :
 Calls Tryz.prog 13 #[.string a0] w fun e w'=>e = .returned (.bool r)∧Drawn0 w w':=by
 have H:((Gc.f (a0.size:Int) 1 12).bind fun t171=>(some t171))=some r:=h
 clear h
 replace H:=ob_ H
 obtain ⟨t171,A2,H⟩:=H
 try dsimp only at H
 obtain rfl:=Option.some.inj H
 go_enter Tryz.func13,Tryz.ntmps13
 go_wp2_with (first|((with_reducible refine gate_callee (f:=41) rfl ?_);refine gL_ (some 5) Tryz.func41 #[.int .i64 (a0.size:Int),.int .i64 1,.int .i64 12] (h:=?_);(with_reducible refine (Gc.calls (a0.size:Int) 1 12 t171 _ A2.out).mono ?_);rintro e w' ⟨rfl,⟨nd,rfl⟩⟩;refine ⟨_,rfl,?_⟩))
 go_ret
 exact ⟨by first|rfl|(simp;done)|(simp [*];done),by repeat (first|exact Drawn0.refl _|apply Drawn0.step)⟩
def Gd.f (a0:ByteArray):Option (Bool):=some (decide ((a0.size:Int)≤20))
theorem Gd.calls (a0:ByteArray) (r:Bool) (w:World) (h:Gd.f a0=some r) :
 Calls Tryz.prog 54 #[.string a0] w fun e w'=>e = .returned (.bool r)∧Drawn0 w w':=by
 have H:(some (decide ((a0.size:Int)≤20)))=some r:=h
 clear h
 obtain rfl:=Option.some.inj H
 go_enter Tryz.func54,Tryz.ntmps54
 go_wp2
 go_ret
 exact ⟨by first|rfl|(simp;done)|(simp [*];done),by repeat (first|exact Drawn0.refl _|apply Drawn0.step)⟩
def Gv.f (a0_0:Int) (a0_1:ByteArray) (a0_2:Bool):Option (Bool):=(Gc.f a0_0 1 1073741824).bind fun a=>(if a=true then ((Gd.f a0_1).bind fun b=>(if b=true then (if a0_2=true then (some (a0_1.toList == ([]:List UInt8))) else (some true)) else (some false))) else (some false))
theorem Gv.calls (a0_0:Int) (a0_1:ByteArray) (a0_2:Bool) (r:Bool) (w:World) (h:Gv.f a0_0 a0_1 a0_2=some r) :
 Calls Tryz.prog 78 #[.agg #[.int .i64 a0_0,.string a0_1,.bool a0_2]] w fun e w'=>e = .returned (.bool r)∧Below w.heap.size w w':=by
 have hu78:=Tryz.underlying78
 have HB:=mk0 (Below.refl w.heap.size w)
 have H:((Gc.f a0_0 1 1073741824).bind fun af=>(if af=true then ((Gd.f a0_1).bind fun ag=>(if ag=true then (if a0_2=true then (some (a0_1.toList == ([]:List UInt8))) else (some true)) else (some false))) else (some false)))=some r:=h
 clear h
 replace H:=ob_ H
 obtain ⟨af,A2,H⟩:=H
 try dsimp only at H
 by_cases c3:af=true
 ·subst c3
  rw [if_pos rfl] at H
  replace H:=ob_ H
  obtain ⟨ag,A4,H⟩:=H
  try dsimp only at H
  by_cases c5:ag=true
  ·subst c5
   rw [if_pos rfl] at H
   by_cases c6:a0_2=true
   ·subst c6
    rw [if_pos rfl] at H
    obtain rfl:=Option.some.inj H
    go_enter Tryz.func78,Tryz.ntmps78
    go_wp2_with (first|((with_reducible refine gate_dst (N:=1) rfl ?_);refine bx_ (N:=1) (cs:=#[.int .i64 a0_0,.string a0_1,.bool true]) (t:=78) (h:=?_);intro ac hg w7 hbox hb;have ny2_:=mk0 (gz_ HB hg);have ab:=mk0 (gz_ HB hg);replace HB:=mk0 (bt_ (b_ HB) hb);have aa:=mk0 (hbox);have ad:=ny2_;have ae:=ab;clear ny2_ ab hb hbox hg;obtain ⟨aC,aD,aE,aG,aH,aI⟩:=c3_ aa)|((with_reducible refine gate_callee (f:=41) rfl ?_);refine gL_ (some 5) Tryz.func41 #[.int .i64 a0_0,.int .i64 1,.int .i64 1073741824] (h:=?_);(with_reducible refine (Gc.calls a0_0 1 1073741824 true _ A2.out).mono ?_);rintro e w' ⟨rfl,⟨nd,rfl⟩⟩;refine ⟨_,rfl,?_⟩)|(go_at_call 54;(with_reducible refine (Gd.calls a0_1 true _ A4.out).mono ?_);rintro e w' ⟨rfl,⟨nd,rfl⟩⟩))
    go_ret
    exact ⟨sa_,b_ HB⟩
   ·replace c6:=Bool.eq_false_iff.mpr c6
    subst c6
    rw [if_neg nf_] at H
    obtain rfl:=Option.some.inj H
    go_enter Tryz.func78,Tryz.ntmps78
    go_wp2_with (first|((with_reducible refine gate_dst (N:=1) rfl ?_);refine bx_ (N:=1) (cs:=#[.int .i64 a0_0,.string a0_1,.bool false]) (t:=78) (h:=?_);intro ac hg w9 hbox hb;have ny2_:=mk0 (gz_ HB hg);have ab:=mk0 (gz_ HB hg);replace HB:=mk0 (bt_ (b_ HB) hb);have aa:=mk0 (hbox);have ad:=ny2_;have ae:=ab;clear ny2_ ab hb hbox hg;obtain ⟨ah,ai,aj,ak,al,am⟩:=c3_ aa)|((with_reducible refine gate_callee (f:=41) rfl ?_);refine gL_ (some 5) Tryz.func41 #[.int .i64 a0_0,.int .i64 1,.int .i64 1073741824] (h:=?_);(with_reducible refine (Gc.calls a0_0 1 1073741824 true _ A2.out).mono ?_);rintro e w' ⟨rfl,⟨nd,rfl⟩⟩;refine ⟨_,rfl,?_⟩)|(go_at_call 54;(with_reducible refine (Gd.calls a0_1 true _ A4.out).mono ?_);rintro e w' ⟨rfl,⟨nd,rfl⟩⟩))
    go_ret
    exact ⟨sa_,b_ HB⟩
  ·replace c5:=Bool.eq_false_iff.mpr c5
   subst c5
   rw [if_neg nf_] at H
   obtain rfl:=Option.some.inj H
   go_enter Tryz.func78,Tryz.ntmps78
   go_wp2_with (first|((with_reducible refine gate_dst (N:=1) rfl ?_);refine bx_ (N:=1) (cs:=#[.int .i64 a0_0,.string a0_1,.bool a0_2]) (t:=78) (h:=?_);intro ac hg aJ hbox hb;have ny2_:=mk0 (gz_ HB hg);have ab:=mk0 (gz_ HB hg);replace HB:=mk0 (bt_ (b_ HB) hb);have aa:=mk0 (hbox);have ad:=ny2_;have ae:=ab;clear ny2_ ab hb hbox hg;obtain ⟨an,ao,ap,aq,ar,au⟩:=c3_ aa)|((with_reducible refine gate_callee (f:=41) rfl ?_);refine gL_ (some 5) Tryz.func41 #[.int .i64 a0_0,.int .i64 1,.int .i64 1073741824] (h:=?_);(with_reducible refine (Gc.calls a0_0 1 1073741824 true _ A2.out).mono ?_);rintro e w' ⟨rfl,⟨nd,rfl⟩⟩;refine ⟨_,rfl,?_⟩)|(go_at_call 54;(with_reducible refine (Gd.calls a0_1 false _ A4.out).mono ?_);rintro e w' ⟨rfl,⟨nd,rfl⟩⟩))
   go_ret
   exact ⟨sa_,b_ HB⟩
 ·replace c3:=Bool.eq_false_iff.mpr c3
  subst c3
  rw [if_neg nf_] at H
  obtain rfl:=Option.some.inj H
  go_enter Tryz.func78,Tryz.ntmps78
  go_wp2_with (first|((with_reducible refine gate_dst (N:=1) rfl ?_);refine bx_ (N:=1) (cs:=#[.int .i64 a0_0,.string a0_1,.bool a0_2]) (t:=78) (h:=?_);intro ac hg aK hbox hb;have ny2_:=mk0 (gz_ HB hg);have ab:=mk0 (gz_ HB hg);replace HB:=mk0 (bt_ (b_ HB) hb);have aa:=mk0 (hbox);have ad:=ny2_;have ae:=ab;clear ny2_ ab hb hbox hg;obtain ⟨av,aw,ax,ay,az,aA⟩:=c3_ aa)|((with_reducible refine gate_callee (f:=41) rfl ?_);refine gL_ (some 5) Tryz.func41 #[.int .i64 a0_0,.int .i64 1,.int .i64 1073741824] (h:=?_);(with_reducible refine (Gc.calls a0_0 1 1073741824 false _ A2.out).mono ?_);rintro e w' ⟨rfl,⟨nd,rfl⟩⟩;refine ⟨_,rfl,?_⟩))
  go_ret
  exact ⟨sa_,b_ HB⟩
mutual
def Fj.l0:Nat→Int→ByteArray→List (S78)→Option (Bool)
 | 0,_,_,_=>none
 | k + 1,a,c,b=>if a<(b.length:Int) then (if 0≤a then ((Gv.f ((rd_T78 b a).f0) ((rd_T78 b a).f1) ((rd_T78 b a).f2)).bind fun d=>(if d=true then (if a > 0 then (if 0≤(wrap64 (a - 1)) then (if (wrap64 (a - 1))<(b.length:Int) then (Fj.j1 k a (decide (((rd_T78 b (wrap64 (a - 1))).f0)≤((rd_T78 b a).f0))) c b) else (none)) else (none)) else (Fj.j1 k a false c b)) else (Fj.j1 k a true c b))) else (none)) else ((F9.f c).bind fun e=>(if e=true then (some (decide ((b.length:Int) > 0))) else (some false)))
def Fj.j1:Nat→Int→Bool→ByteArray→List (S78)→Option (Bool)
 | 0,_,_,_,_=>none
 | k + 1,a,b,c,d=>if b=true then (some false) else (Fj.l0 k (wrap64 (a + 1)) c d)
end
def Fj.f (k:Nat) (a0_0:ByteArray) (l0_1:List (S78)):Option (Bool):=Fj.l0 k 0 a0_0 l0_1
theorem Fj.mono_l:∀ k,(∀ y0 y1 y2,LeO (Fj.l0 k y0 y1 y2) (Fj.l0 (k + 1) y0 y1 y2))∧(∀ y0 y1 y2 y3,LeO (Fj.j1 k y0 y1 y2 y3) (Fj.j1 (k + 1) y0 y1 y2 y3))
 | 0=>⟨fun _ _ _ r h=>by simp [Fj.l0] at h,fun _ _ _ _ r h=>by simp [Fj.j1] at h⟩
 | k + 1=>by
  obtain ⟨ih0,ih1⟩:=Fj.mono_l k
  refine ⟨?_,?_⟩
  all_goals (intros;first|unfold Fj.l0|unfold Fj.j1)
  all_goals exact mz_
theorem Fj.mono:∀ a0 a1 k,LeO (Fj.f k a0 a1) (Fj.f (k + 1) a0 a1):=by
 intro a0 a1 k
 obtain ⟨ih0,ih1⟩:=Fj.mono_l k
 unfold Fj.f
 exact mz_
def Fj.T4:Bool×List (List Nat×List Nat):=(true,[([],[]),([0],[0]),([],[]),([1,2],[1,2]),([3],[3]),([4],[4]),([5],[5]),([6,5],[6]),([7],[7]),([8,7],[7,8]),([9,7,7],[7,9]),([10],[10]),([11,10],[10,11]),([10],[10]),([13,10],[10,13]),([12,14,10],[10,12,14]),([15,10],[10,15]),([16,10],[10,16]),([10],[10]),([18,10],[10,18]),([10],[10]),([19,20,10],[10,19,20]),([21,10],[10,21]),([22,10],[10,22]),([17,23,10],[10,17,23]),([10,24,7],[7,10,24]),([7,25],[7,25])])
def Fj.B4:List Nat:=[0,1,0,7,15,31,63,127,255,511,1023,2047,4095,2047,10239,32767,65535,131071,2047,264191,2047,1837055,3934207,8128511,16777215,33554431,67108863]
theorem Fj.tab4:rtab .any (opsOf Tryz.f52 4)=Fj.T4:=by kernel_rfl
theorem Fj.bits4:waitsOk Fj.T4.2 Fj.B4=true:=by kernel_rfl
theorem Fj.calls (k:Nat) (a0_0:ByteArray) (A0_1:Option Addr) (c0_1:Nat) (l0_1:List (S78)) (r:Bool) (w:World) (hr0_1:Kd.C k78 w A0_1 l0_1.length l0_1) (hc0_1:l0_1.length≤c0_1) (h:Fj.f k a0_0 l0_1=some r) :
 Calls Tryz.prog 52 #[.agg #[.string a0_0,.slice A0_1 l0_1.length c0_1]] w fun e w'=>e = .returned (.bool r)∧Below w.heap.size w w':=by
 have hu83:=Tryz.underlying83
 have hu78:=Tryz.underlying78
 have av:=mk0 hr0_1
 have bl:=mk0 hc0_1
 clear hr0_1 hc0_1
 have HB:=mk0 (Below.refl w.heap.size w)
 have H:(Fj.l0 k 0 a0_0 l0_1)=some r:=h
 clear h
 have H':=mk0 H
 clear H
 go_enter Tryz.func52,Tryz.ntmps52
 go_wp2_with (first|((with_reducible refine gate_dst (N:=1) rfl ?_);(try (refine gate_guard (by rfl) ?_;dsimp only));refine bx_ (N:=1) (cs:=#[.string a0_0,.slice A0_1 l0_1.length c0_1]) (t:=83) (h:=?_);intro ak hg w2 hbox hb;have ny2_:=mk0 (gz_ HB hg);have aX:=mk0 (gz_ HB hg);replace HB:=mk0 (bt_ (b_ HB) hb);have ab:=mk0 (hbox);have bm:=ny2_;have bn:=aX;clear ny2_ aX;clear hb hbox hg))
 go_loopg [3] k (fun kq v3 w'=>∃ (aa:Int),v3 = .int .i64 aa∧Fc (Fj.l0 kq aa a0_0 l0_1=some r)∧Fc (kq≤k)∧Fc (w'.heap[ak]? = some (.cells #[.string a0_0,(.slice A0_1 l0_1.length c0_1)] 83 (0,0)))∧Fc (Below w.heap.size w w'))
 case atStart=>exact ⟨(0),sm_,H',⟨Nat.le_refl _⟩,⟨h_ ab⟩,⟨b_ HB⟩⟩
 case round=>
  clear H'
  obtain ⟨aa,rfl,HA,aH,ab,HB⟩:=hrel
  cases gk with
  | zero=>exact absurd HA.out (by simp [Fj.l0])
  | succ k1=>
   have H:=HA.out
   clear HA
   simp only [Fj.l0] at H
   as_aux_lemma=>
    by_cases c3:aa<(l0_1.length:Int)
    ·rw [if_pos c3] at H
     have aY:=decide_eq_true c3
     clear c3
     have HC4:=mk0 H
     clear H
     obtain ⟨bh,bi,bj,bk⟩:=c2_ ab
     go_upto_region 4 with (fail)
     go_cut [37] (fun v37 wc=>∃ (kq:Nat) (ax:Bool),v37 = .bool ax∧Fc (Fj.j1 kq aa ax a0_0 l0_1=some r)∧Fc (kq≤k1)∧Fc (wc.heap[ak]? = some (.cells #[.string a0_0,(.slice A0_1 l0_1.length c0_1)] 83 (0,0)))∧Fc (Below w.heap.size w wc))
     case first=>
      have H:=HC4.out
      clear HC4
      by_cases c6:0≤aa
      ·rw [if_pos c6] at H
       have aU:=decide_eq_true c6
       clear c6
       (first|rw [aU]|(simp only [i64_w,i32_w];rw [aU])|skip)
       replace H:=ob_ H
       obtain ⟨aZ,A7,H⟩:=H
       try dsimp only at H
       by_cases c8:aZ=true
       ·subst c8
        rw [if_pos rfl] at H
        by_cases c9:aa > 0
        ·rw [if_pos c9] at H
         have a3:=decide_eq_true c9
         clear c9
         obtain ⟨ag,aw⟩:∃ j_:Int,(wrap64 (aa - 1))=j_:=⟨_,rfl⟩
         replace H:(if 0≤(ag) then (if (ag)<(l0_1.length:Int) then (Fj.j1 k1 aa (decide (((rd_T78 l0_1 (ag)).f0)≤((rd_T78 l0_1 aa).f0))) a0_0 l0_1) else (none)) else (none))=some r:=by first|(rw [aw] at H;exact H)|(simp only [aw] at H ⊢; exact H)
         (try rw [aw] at A7)
         have hji10w:(IntKind.i64.wrap (aa - 1))=ag:=(i64_w _).trans aw
         by_cases aN:0≤(ag)
         ·rw [if_pos aN] at H
          have bo:=decide_eq_true aN
          clear aN
          by_cases aQ:(ag)<(l0_1.length:Int)
          ·rw [if_pos aQ] at H
           have bp:=decide_eq_true aQ
           clear aQ
           have H':=mk0 H
           clear H
           try go_wp2
           replace ab:=mk0 (bD_ ab.out)
           replace HB:=mk0 (b1_ HB.out)
           have al:0≤(aa:Int):=od_
           have am:aa<(l0_1.length:Int):=od_
           obtain ⟨ac,ay,ad,ae,af⟩:=at_T78 av.out aa al am
           have ah:=af
           have ai:=ae
           have aj:=ad
           cases ay
           replace ad:=(bc_ HB ad :)
           replace ae:=(bc_ HB ae :)
           replace af:=(bc_ HB af :)
           replace al:=eq_true al
           replace am:=eq_true am
           have aI:0≤((ag):Int):=od_
           have aJ:(ag)<(l0_1.length:Int):=od_
           obtain ⟨aV,a4,an,ao,ap⟩:=at_T78 av.out (ag) aI aJ
           have az:=ap
           have aA:=ao
           have aC:=an
           obtain rfl:ac=aV:=(by injection a4)
           replace an:=(bc_ HB an :)
           replace ao:=(bc_ HB ao :)
           replace ap:=(bc_ HB ap :)
           replace aI:=eq_true aI
           replace aJ:=eq_true aJ
           have aK:0≤(aa:Int):=od_
           have aM:aa<(l0_1.length:Int):=od_
           obtain ⟨aW,a5,aq,ar,au⟩:=at_T78 av.out aa aK aM
           have aD:=au
           have aE:=ar
           have aG:=aq
           obtain rfl:ac=aW:=(by injection a5)
           replace aq:=(bc_ HB aq :)
           replace ar:=(bc_ HB ar :)
           replace au:=(bc_ HB au :)
           replace aK:=eq_true aK
           replace aM:=eq_true aM
           refine start_ (n:=27) (S:=fun w'=>w'.cell? ⟨ak,0,none⟩=some (.string a0_0)∧w'.cell? ⟨ak,1,none⟩=some (.slice (some ac) l0_1.length c0_1)∧w'.cell? (ac.add ((aa).toNat * 3))=some (.int .i64 ((rd_T78 l0_1 aa).f0))∧w'.cell? ⟨(ac.add ((aa).toNat * 3)).block,(ac.add ((aa).toNat * 3)).off + 1,none⟩=some (.string ((rd_T78 l0_1 aa).f1))∧w'.cell? ⟨(ac.add ((aa).toNat * 3)).block,(ac.add ((aa).toNat * 3)).off + 2,none⟩=some (.bool ((rd_T78 l0_1 aa).f2))∧w'.cell? (ac.add (((ag)).toNat * 3))=some (.int .i64 ((rd_T78 l0_1 (ag)).f0))∧w'.cell? ⟨(ac.add (((ag)).toNat * 3)).block,(ac.add (((ag)).toNat * 3)).off + 1,none⟩=some (.string ((rd_T78 l0_1 (ag)).f1))∧w'.cell? ⟨(ac.add (((ag)).toNat * 3)).block,(ac.add (((ag)).toNat * 3)).off + 2,none⟩=some (.bool ((rd_T78 l0_1 (ag)).f2))∧w'.cell? (ac.add ((aa).toNat * 3))=some (.int .i64 ((rd_T78 l0_1 aa).f0))∧w'.cell? ⟨(ac.add ((aa).toNat * 3)).block,(ac.add ((aa).toNat * 3)).off + 1,none⟩=some (.string ((rd_T78 l0_1 aa).f1))∧w'.cell? ⟨(ac.add ((aa).toNat * 3)).block,(ac.add ((aa).toNat * 3)).off + 2,none⟩=some (.bool ((rd_T78 l0_1 aa).f2))) (ds:=[]) (bt 27 0) (by kernel_rfl) rfl rfl ⟨bk_ ab 0,bk_ ab 1,((bc_ HB aj :)),((bc_ HB ai :)),((bc_ HB ah :)),((bc_ HB aC :)),((bc_ HB aA :)),((bc_ HB az :)),((bc_ HB aG :)),((bc_ HB aE :)),((bc_ HB aD :))⟩ (fun hHeld=>?_);refine with_tabW Fj.tab4 Fj.bits4 (fun HT_ HW_=>?_)
           generalize wr.drew=br at ab HB ad ae af an ao ap aq ar au hHeld ⊢
           refine pq_ HT_.out 0 11 (bt 27 1) (h:=?_)
           refine pq_ HT_.out 2 13 (bt 27 5) (h:=?_)
           refine tq11_ HT_.out HW_.out 1 12 (bt 27 7) hHeld (h:=?_)
           refine pq_ HT_.out 3 14 (bt 27 15) (h:=?_)
           refine tq11_ HT_.out HW_.out 4 15 (bt 27 31) hHeld (h:=?_)
           refine one_ (i:=5) (N:=some 16) (bt 27 63) rfl rfl (one_of HT_.out (by kernel_rfl)) (by decide) (fun K hK=>?_)
           refine goes_ Tryz.func78 (by kernel_rfl) rfl #[.agg #[.int .i64 ((rd_T78 l0_1 aa).f0),.string ((rd_T78 l0_1 aa).f1),.bool ((rd_T78 l0_1 aa).f2)]] (by rfl) rfl rfl gs_ ?_
           with_reducible refine (Gv.calls ((rd_T78 l0_1 aa).f0) ((rd_T78 l0_1 aa).f1) ((rd_T78 l0_1 aa).f2) true _ A7.out).mono ?_
           rintro e bs ⟨rfl,hb⟩
           refine ⟨_,rfl,?_⟩
           replace ab:=mk0 (u_ ab hb)
           replace HB:=mk0 (bt_ (b_ HB) hb)
           (try clear hb)
           (try clear hk)
           (try clear hi)
           refine hK.out _ _ ⟨bk_ ab 0,bk_ ab 1,((bc_ HB aj :)),((bc_ HB ai :)),((bc_ HB ah :)),((bc_ HB aC :)),((bc_ HB aA :)),((bc_ HB az :)),((bc_ HB aG :)),((bc_ HB aE :)),((bc_ HB aD :))⟩ (fun hHeld=>?_)
           clear hK K
           refine norm_ (a':=?_) ?_ ?_
           rotate_left
           ·show Act.put _ (some 16) _=_
            simp only [z_]
            rfl
           refine pq_ HT_.out 6 17 (bt 27 127) (h:=?_)
           refine pq_ HT_.out 7 18 (bt 27 255) (h:=?_)
           refine pq_ HT_.out 8 19 (bt 27 511) (h:=?_)
           refine pq_ HT_.out 9 20 (bt 27 1023) (h:=?_)
           refine pq_ HT_.out 10 21 (bt 27 2047) (h:=?_)
           refine pq_ HT_.out 11 22 (bt 27 4095) (h:=?_)
           refine pq_ HT_.out 13 24 (bt 27 12287) (h:=?_)
           refine pq_ HT_.out 14 25 (bt 27 28671) (h:=?_)
           refine pq_ HT_.out 18 29 (bt 27 290815) (h:=?_)
           refine pq_ HT_.out 20 31 (bt 27 1339391) (h:=?_)
           refine tq11_ HT_.out HW_.out 12 23 (bt 27 1343487) hHeld (h:=?_)
           refine pq_ HT_.out 15 26 (bt 27 1376255) (h:=?_)
           refine pq_ HT_.out 16 27 (bt 27 1441791) (h:=?_)
           refine tq11_ HT_.out HW_.out 17 28 (bt 27 1572863) hHeld (h:=?_)
           refine tq11_ HT_.out HW_.out 19 30 (bt 27 2097151) hHeld (h:=?_)
           refine pq_ HT_.out 21 32 (bt 27 4194303) (h:=?_)
           refine pq_ HT_.out 22 33 (bt 27 8388607) (h:=?_)
           refine tq11_ HT_.out HW_.out 23 34 (bt 27 16777215) hHeld (h:=?_)
           refine pq_ HT_.out 24 35 (bt 27 33554431) (h:=?_)
           refine pq_ HT_.out 25 36 (bt 27 67108863) (h:=?_)
           refine pq_ HT_.out 26 37 (bt 27 134217727) (h:=?_)
           refine done_ (done_of HT_.out (by kernel_rfl)) ?_
           try go_wp2
           go_meet
           case rel=>exact ⟨_,(decide (((rd_T78 l0_1 (ag)).f0)≤((rd_T78 l0_1 aa).f0))),(by first|rfl|(simp;done)|(simp only [← aw] <;> (first|rfl|(simp [leq_];done)|(simp;done)))|(simp [*];done)),H',⟨by have:=aH.out;first|omega|exact Nat.le_refl _⟩,⟨h_ ab⟩,⟨b_ HB⟩⟩
          ·rw [if_neg aQ] at H
           exact absurd H (by simp)
         ·rw [if_neg aN] at H
          exact absurd H (by simp)
        ·rw [if_neg c9] at H
         have a3:=decide_eq_false c9
         clear c9
         have H':=mk0 H
         clear H
         try go_wp2
         replace ab:=mk0 (bD_ ab.out)
         replace HB:=mk0 (b1_ HB.out)
         have al:0≤(aa:Int):=od_
         have am:aa<(l0_1.length:Int):=od_
         obtain ⟨ac,ay,ad,ae,af⟩:=at_T78 av.out aa al am
         have ah:=af
         have ai:=ae
         have aj:=ad
         cases ay
         replace ad:=(bc_ HB ad :)
         replace ae:=(bc_ HB ae :)
         replace af:=(bc_ HB af :)
         replace al:=eq_true al
         replace am:=eq_true am
         refine start_ (n:=27) (S:=fun w'=>w'.cell? ⟨ak,0,none⟩=some (.string a0_0)∧w'.cell? ⟨ak,1,none⟩=some (.slice (some ac) l0_1.length c0_1)∧w'.cell? (ac.add ((aa).toNat * 3))=some (.int .i64 ((rd_T78 l0_1 aa).f0))∧w'.cell? ⟨(ac.add ((aa).toNat * 3)).block,(ac.add ((aa).toNat * 3)).off + 1,none⟩=some (.string ((rd_T78 l0_1 aa).f1))∧w'.cell? ⟨(ac.add ((aa).toNat * 3)).block,(ac.add ((aa).toNat * 3)).off + 2,none⟩=some (.bool ((rd_T78 l0_1 aa).f2))) (ds:=[]) (bt 27 0) (by kernel_rfl) rfl rfl ⟨bk_ ab 0,bk_ ab 1,((bc_ HB aj :)),((bc_ HB ai :)),((bc_ HB ah :))⟩ (fun hHeld=>?_);refine with_tabW Fj.tab4 Fj.bits4 (fun HT_ HW_=>?_)
         generalize wr.drew=bu at ab HB ad ae af hHeld ⊢
         refine pq_ HT_.out 0 11 (bt 27 1) (h:=?_)
         refine pq_ HT_.out 2 13 (bt 27 5) (h:=?_)
         refine tq5_ HT_.out HW_.out 1 12 (bt 27 7) hHeld (h:=?_)
         refine pq_ HT_.out 3 14 (bt 27 15) (h:=?_)
         refine tq5_ HT_.out HW_.out 4 15 (bt 27 31) hHeld (h:=?_)
         refine one_ (i:=5) (N:=some 16) (bt 27 63) rfl rfl (one_of HT_.out (by kernel_rfl)) (by decide) (fun K hK=>?_)
         refine goes_ Tryz.func78 (by kernel_rfl) rfl #[.agg #[.int .i64 ((rd_T78 l0_1 aa).f0),.string ((rd_T78 l0_1 aa).f1),.bool ((rd_T78 l0_1 aa).f2)]] (by rfl) rfl rfl gs_ ?_
         with_reducible refine (Gv.calls ((rd_T78 l0_1 aa).f0) ((rd_T78 l0_1 aa).f1) ((rd_T78 l0_1 aa).f2) true _ A7.out).mono ?_
         rintro e bv ⟨rfl,hb⟩
         refine ⟨_,rfl,?_⟩
         replace ab:=mk0 (u_ ab hb)
         replace HB:=mk0 (bt_ (b_ HB) hb)
         (try clear hb)
         (try clear hk)
         (try clear hi)
         refine hK.out _ _ ⟨bk_ ab 0,bk_ ab 1,((bc_ HB aj :)),((bc_ HB ai :)),((bc_ HB ah :))⟩ (fun hHeld=>?_)
         clear hK K
         refine norm_ (a':=?_) ?_ ?_
         rotate_left
         ·show Act.put _ (some 16) _=_
          simp only [z_]
          rfl
         refine pq_ HT_.out 6 17 (bt 27 127) (h:=?_)
         refine pq_ HT_.out 7 18 (bt 27 255) (h:=?_)
         refine pq_ HT_.out 8 19 (bt 27 511) (h:=?_)
         refine pq_ HT_.out 9 20 (bt 27 1023) (h:=?_)
         refine pq_ HT_.out 10 21 (bt 27 2047) (h:=?_)
         refine uq_ HT_.out 11 22 (bt 27 4095) (h:=?_)
         refine uq_ HT_.out 12 23 (bt 27 8191) (h:=?_)
         refine uq_ HT_.out 13 24 (bt 27 16383) (h:=?_)
         refine uq_ HT_.out 14 25 (bt 27 32767) (h:=?_)
         refine uq_ HT_.out 15 26 (bt 27 65535) (h:=?_)
         refine uq_ HT_.out 16 27 (bt 27 131071) (h:=?_)
         refine uq_ HT_.out 17 28 (bt 27 262143) (h:=?_)
         refine uq_ HT_.out 18 29 (bt 27 524287) (h:=?_)
         refine uq_ HT_.out 19 30 (bt 27 1048575) (h:=?_)
         refine uq_ HT_.out 20 31 (bt 27 2097151) (h:=?_)
         refine uq_ HT_.out 21 32 (bt 27 4194303) (h:=?_)
         refine uq_ HT_.out 22 33 (bt 27 8388607) (h:=?_)
         refine uq_ HT_.out 23 34 (bt 27 16777215) (h:=?_)
         refine uq_ HT_.out 24 35 (bt 27 33554431) (h:=?_)
         refine pq_ HT_.out 25 36 (bt 27 67108863) (h:=?_)
         refine pq_ HT_.out 26 37 (bt 27 134217727) (h:=?_)
         refine done_ (done_of HT_.out (by kernel_rfl)) ?_
         try go_wp2
         go_meet
         case rel=>exact ⟨_,(false),sm_,H',⟨by have:=aH.out;first|omega|exact Nat.le_refl _⟩,⟨h_ ab⟩,⟨b_ HB⟩⟩
       ·replace c8:=Bool.eq_false_iff.mpr c8
        subst c8
        rw [if_neg nf_] at H
        have H':=mk0 H
        clear H
        try go_wp2
        replace ab:=mk0 (bD_ ab.out)
        replace HB:=mk0 (b1_ HB.out)
        have al:0≤(aa:Int):=od_
        have am:aa<(l0_1.length:Int):=od_
        obtain ⟨ac,ay,ad,ae,af⟩:=at_T78 av.out aa al am
        have ah:=af
        have ai:=ae
        have aj:=ad
        cases ay
        replace ad:=(bc_ HB ad :)
        replace ae:=(bc_ HB ae :)
        replace af:=(bc_ HB af :)
        replace al:=eq_true al
        replace am:=eq_true am
        refine start_ (n:=27) (S:=fun w'=>w'.cell? ⟨ak,0,none⟩=some (.string a0_0)∧w'.cell? ⟨ak,1,none⟩=some (.slice (some ac) l0_1.length c0_1)∧w'.cell? (ac.add ((aa).toNat * 3))=some (.int .i64 ((rd_T78 l0_1 aa).f0))∧w'.cell? ⟨(ac.add ((aa).toNat * 3)).block,(ac.add ((aa).toNat * 3)).off + 1,none⟩=some (.string ((rd_T78 l0_1 aa).f1))∧w'.cell? ⟨(ac.add ((aa).toNat * 3)).block,(ac.add ((aa).toNat * 3)).off + 2,none⟩=some (.bool ((rd_T78 l0_1 aa).f2))) (ds:=[]) (bt 27 0) (by kernel_rfl) rfl rfl ⟨bk_ ab 0,bk_ ab 1,((bc_ HB aj :)),((bc_ HB ai :)),((bc_ HB ah :))⟩ (fun hHeld=>?_);refine with_tabW Fj.tab4 Fj.bits4 (fun HT_ HW_=>?_)
        generalize wr.drew=bw at ab HB ad ae af hHeld ⊢
        refine pq_ HT_.out 0 11 (bt 27 1) (h:=?_)
        refine pq_ HT_.out 2 13 (bt 27 5) (h:=?_)
        refine tq5_ HT_.out HW_.out 1 12 (bt 27 7) hHeld (h:=?_)
        refine pq_ HT_.out 3 14 (bt 27 15) (h:=?_)
        refine tq5_ HT_.out HW_.out 4 15 (bt 27 31) hHeld (h:=?_)
        refine one_ (i:=5) (N:=some 16) (bt 27 63) rfl rfl (one_of HT_.out (by kernel_rfl)) (by decide) (fun K hK=>?_)
        refine goes_ Tryz.func78 (by kernel_rfl) rfl #[.agg #[.int .i64 ((rd_T78 l0_1 aa).f0),.string ((rd_T78 l0_1 aa).f1),.bool ((rd_T78 l0_1 aa).f2)]] (by rfl) rfl rfl gs_ ?_
        with_reducible refine (Gv.calls ((rd_T78 l0_1 aa).f0) ((rd_T78 l0_1 aa).f1) ((rd_T78 l0_1 aa).f2) false _ A7.out).mono ?_
        rintro e bx ⟨rfl,hb⟩
        refine ⟨_,rfl,?_⟩
        replace ab:=mk0 (u_ ab hb)
        replace HB:=mk0 (bt_ (b_ HB) hb)
        (try clear hb)
        (try clear hk)
        (try clear hi)
        refine hK.out _ _ ⟨bk_ ab 0,bk_ ab 1,((bc_ HB aj :)),((bc_ HB ai :)),((bc_ HB ah :))⟩ (fun hHeld=>?_)
        clear hK K
        refine norm_ (a':=?_) ?_ ?_
        rotate_left
        ·show Act.put _ (some 16) _=_
         simp only [z_]
         rfl
        refine pq_ HT_.out 6 17 (bt 27 127) (h:=?_)
        refine pq_ HT_.out 7 18 (bt 27 255) (h:=?_)
        refine uq_ HT_.out 8 19 (bt 27 511) (h:=?_)
        refine uq_ HT_.out 9 20 (bt 27 1023) (h:=?_)
        refine uq_ HT_.out 10 21 (bt 27 2047) (h:=?_)
        refine uq_ HT_.out 11 22 (bt 27 4095) (h:=?_)
        refine uq_ HT_.out 12 23 (bt 27 8191) (h:=?_)
        refine uq_ HT_.out 13 24 (bt 27 16383) (h:=?_)
        refine uq_ HT_.out 14 25 (bt 27 32767) (h:=?_)
        refine uq_ HT_.out 15 26 (bt 27 65535) (h:=?_)
        refine uq_ HT_.out 16 27 (bt 27 131071) (h:=?_)
        refine uq_ HT_.out 17 28 (bt 27 262143) (h:=?_)
        refine uq_ HT_.out 18 29 (bt 27 524287) (h:=?_)
        refine uq_ HT_.out 19 30 (bt 27 1048575) (h:=?_)
        refine uq_ HT_.out 20 31 (bt 27 2097151) (h:=?_)
        refine uq_ HT_.out 21 32 (bt 27 4194303) (h:=?_)
        refine uq_ HT_.out 22 33 (bt 27 8388607) (h:=?_)
        refine uq_ HT_.out 23 34 (bt 27 16777215) (h:=?_)
        refine uq_ HT_.out 24 35 (bt 27 33554431) (h:=?_)
        refine uq_ HT_.out 25 36 (bt 27 67108863) (h:=?_)
        refine pq_ HT_.out 26 37 (bt 27 134217727) (h:=?_)
        refine done_ (done_of HT_.out (by kernel_rfl)) ?_
        try go_wp2
        go_meet
        case rel=>exact ⟨_,(true),sm_,H',⟨by have:=aH.out;first|omega|exact Nat.le_refl _⟩,⟨h_ ab⟩,⟨b_ HB⟩⟩
      ·rw [if_neg c6] at H
       exact absurd H (by simp)
     case rest=>
      clear HC4
      obtain ⟨kq,ax,rfl,HA,a6,ab,HB⟩:=hcut
      cases kq with
      | zero=>exact absurd HA.out (by simp [Fj.j1])
      | succ bq=>
       have H:=HA.out
       clear HA
       simp only [Fj.j1] at H
       as_aux_lemma=>
        by_cases aR:ax=true
        ·subst aR
         rw [if_pos rfl] at H
         obtain rfl:=Option.some.inj H
         go_wp2
         go_ret
         exact ⟨sa_,b_ HB⟩
        ·replace aR:=Bool.eq_false_iff.mpr aR
         subst aR
         rw [if_neg nf_] at H
         have H':=mk0 H
         clear H
         go_wp2
         go_roundg bq
         case measure=>have:=aH.out;have:=a6.out;omega
         case rel=>exact ⟨(wrap64 (aa + 1)),sm_,H',⟨by have:=aH.out;have:=a6.out;omega⟩,⟨h_ ab⟩,⟨b_ HB⟩⟩
    ·rw [if_neg c3] at H
     have aY:=decide_eq_false c3
     clear c3
     replace H:=ob_ H
     obtain ⟨a7,a8,H⟩:=H
     try dsimp only at H
     by_cases aT:a7=true
     ·subst aT
      rw [if_pos rfl] at H
      obtain rfl:=Option.some.inj H
      obtain ⟨a9,ba,bb,bc⟩:=c2_ ab
      go_wp2_with (first|((with_reducible refine gate_callee (f:=13) rfl ?_);refine gL_ (some 40) Tryz.func13 #[.string a0_0] (h:=?_);(with_reducible refine (F9.calls a0_0 true _ a8.out).mono ?_);rintro e w' ⟨rfl,⟨nd,rfl⟩⟩;refine ⟨_,rfl,?_⟩))
      go_ret
      exact ⟨sa_,b_ HB⟩
     ·replace aT:=Bool.eq_false_iff.mpr aT
      subst aT
      rw [if_neg nf_] at H
      obtain rfl:=Option.some.inj H
      obtain ⟨bd,be,bf,bg⟩:=c2_ ab
      go_wp2_with (first|((with_reducible refine gate_callee (f:=13) rfl ?_);refine gL_ (some 40) Tryz.func13 #[.string a0_0] (h:=?_);(with_reducible refine (F9.calls a0_0 false _ a8.out).mono ?_);rintro e w' ⟨rfl,⟨nd,rfl⟩⟩;refine ⟨_,rfl,?_⟩))
      go_ret
      exact ⟨sa_,b_ HB⟩
def FY.l0:Nat→Int→Int→List (S83)→Option (Int)
 | 0,_,_,_=>none
 | k + 1,c,a,b=>if a<(b.length:Int) then (if 0≤a then (FY.l0 k (wrap64 (c + (((rd_T83 b a).f1).length:Int))) (wrap64 (a + 1)) b) else (none)) else (some c)
def FY.f (k:Nat) (l0_0:List (S83)):Option (Int):=FY.l0 k 0 0 l0_0
theorem FY.mono_l:∀ k,(∀ y0 y1 y2,LeO (FY.l0 k y0 y1 y2) (FY.l0 (k + 1) y0 y1 y2))
 | 0=>fun _ _ _ r h=>by simp [FY.l0] at h
 | k + 1=>by
  have ih0:=FY.mono_l k
  all_goals (intros;first|unfold FY.l0)
  all_goals exact mz_
theorem FY.mono:∀ a0 k,LeO (FY.f k a0) (FY.f (k + 1) a0):=by
 intro a0 k
 have ih0:=FY.mono_l k
 unfold FY.f
 exact mz_
theorem FY.calls (k:Nat) (A0_0:Option Addr) (c0_0:Nat) (l0_0:List (S83)) (r:Int) (w:World) (hr0_0:Kd.C k83 w A0_0 l0_0.length l0_0) (hc0_0:l0_0.length≤c0_0) (h:FY.f k l0_0=some r) :
 Calls Tryz.prog 53 #[.agg #[.slice A0_0 l0_0.length c0_0]] w fun e w'=>e = .returned (.int .i64 r)∧Below w.heap.size w w':=by
 have hu43:=Tryz.underlying43
 have aj:=mk0 hr0_0
 have az:=mk0 hc0_0
 clear hr0_0 hc0_0
 have HB:=mk0 (Below.refl w.heap.size w)
 have H:(FY.l0 k 0 0 l0_0)=some r:=h
 clear h
 have H':=mk0 H
 clear H
 go_enter Tryz.func53,Tryz.ntmps53
 go_wp2_with (first|((with_reducible refine gate_dst (N:=1) rfl ?_);refine bx_ (N:=1) (cs:=#[.slice A0_0 l0_0.length c0_0]) (t:=43) (h:=?_);intro ak hg w2 hbox hb;have ny2_:=mk0 (gz_ HB hg);have al:=mk0 (gz_ HB hg);replace HB:=mk0 (bt_ (b_ HB) hb);have ab:=mk0 (hbox);have aA:=ny2_;have aC:=al;clear ny2_ al;clear hb hbox hg))
 go_loopg [3,4] k (fun kq v3 v4 w'=>∃ (ag:Int) (aa:Int),v3 = .int .i64 ag∧v4 = .int .i64 aa∧Fc (FY.l0 kq ag aa l0_0=some r)∧Fc (kq≤k)∧Fc (w'.heap[ak]? = some (.cells #[(.slice A0_0 l0_0.length c0_0)] 43 (0,0)))∧Fc (Below w.heap.size w w'))
 case atStart=>exact ⟨(0),(0),sm_,sm_,H',⟨Nat.le_refl _⟩,⟨h_ ab⟩,⟨b_ HB⟩⟩
 case round=>
  clear H'
  obtain ⟨ag,aa,rfl,rfl,HA,am,ab,HB⟩:=hrel
  cases gk with
  | zero=>exact absurd HA.out (by simp [FY.l0])
  | succ k1=>
   have H:=HA.out
   clear HA
   simp only [FY.l0] at H
   as_aux_lemma=>
    by_cases c3:aa<(l0_0.length:Int)
    ·rw [if_pos c3] at H
     have an:=decide_eq_true c3
     clear c3
     by_cases c4:0≤aa
     ·rw [if_pos c4] at H
      have aE:=decide_eq_true c4
      clear c4
      have H':=mk0 H
      clear H
      obtain ⟨ar,au⟩:=c1_ ab
      have ah:0≤(aa:Int):=od_
      have ai:aa<(l0_0.length:Int):=od_
      obtain ⟨aD,av,aw,ao,ac,ad,ae,af⟩:=at_T83 aj.out aa ah ai
      cases ao
      replace ac:=(bc_ HB ac :)
      replace ad:=(bc_ HB ad :)
      have ap:=mk0 af
      have aq:=mk0 ae
      clear af ae
      replace ah:=eq_true ah
      replace ai:=eq_true ai
      go_wp2
      go_roundg k1
      case measure=>have:=am.out;omega
      case rel=>exact ⟨(wrap64 (ag + (((rd_T83 l0_0 aa).f1).length:Int))),(wrap64 (aa + 1)),sm_,sm_,H',⟨by have:=am.out;omega⟩,⟨h_ ab⟩,⟨b_ HB⟩⟩
     ·rw [if_neg c4] at H
      exact absurd H (by simp)
    ·rw [if_neg c3] at H
     have an:=decide_eq_false c3
     clear c3
     obtain rfl:=Option.some.inj H
     obtain ⟨ax,ay⟩:=c1_ ab
     go_wp2
     go_ret
     exact ⟨sa_,b_ HB⟩
end Go.Proofs.YtbaecdcfefmcgaaGreat.PVrd
