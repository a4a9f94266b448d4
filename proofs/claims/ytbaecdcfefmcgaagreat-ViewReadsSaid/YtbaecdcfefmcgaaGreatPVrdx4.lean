import Derived.Shelf.SlSorted.Search
import Derived.Test.YtbaecdcfefmcgaaGreatPVrdx0
namespace Go.Proofs.YtbaecdcfefmcgaaGreat.PVrd
open Go.RowKit Go.Proofs.YtbaecdcfefmcgaaGreatW.PrintWords Go.Proofs.YtbaecdcfefmcgaaGreatW.PrintLast Go.Proofs.YtbaecdcfefmcgaaGreatW.PrintMore
attribute [local go_sem] max2_int min2_int max_two min_two max_three min_three max_four min_four
set_option maxHeartbeats 8000000
set_option maxRecDepth 100000
set_option linter.unusedVariables false
set_option linter.unusedSimpArgs false
def GA.f (a0:ByteArray) (a1_0:ByteArray) (a1_1:ByteArray) (a1_2:Bool):Option (Bool):=if a1_2=true then (some true) else (some (Op.bytesLess a0.toList a1_1.toList))
theorem GA.calls (a0:ByteArray) (a1_0:ByteArray) (a1_1:ByteArray) (a1_2:Bool) (r:Bool) (w:World) (h:GA.f a0 a1_0 a1_1 a1_2=some r) :
 Calls Tryz.prog 88 #[.string a0,.agg #[.string a1_0,.string a1_1,.bool a1_2]] w fun e w'=>e = .returned (.bool r)∧Below w.heap.size w w':=by
 have hu55:=Tryz.underlying55
 have HB:=mk0 (Below.refl w.heap.size w)
 have H:(if a1_2=true then (some true) else (some (Op.bytesLess a0.toList a1_1.toList)))=some r:=h
 clear h
 by_cases c3:a1_2=true
 ·subst c3
  rw [if_pos rfl] at H
  obtain rfl:=Option.some.inj H
  go_enter Tryz.func88,Tryz.ntmps88
  go_wp2_with (first|((with_reducible refine gate_dst (N:=3) rfl ?_);refine bx_ (N:=3) (cs:=#[.string a1_0,.string a1_1,.bool true]) (t:=55) (h:=?_);intro ac hg w4 hbox hb;have ny2_:=mk0 (gz_ HB hg);have ab:=mk0 (gz_ HB hg);replace HB:=mk0 (bt_ (b_ HB) hb);have aa:=mk0 (hbox);have ad:=ny2_;have ae:=ab;clear ny2_ ab hb hbox hg;obtain ⟨af,ag,ah,ai,aj,ak⟩:=c3_ aa))
  go_ret
  exact ⟨sa_,b_ HB⟩
 ·replace c3:=Bool.eq_false_iff.mpr c3
  subst c3
  rw [if_neg nf_] at H
  obtain rfl:=Option.some.inj H
  go_enter Tryz.func88,Tryz.ntmps88
  go_wp2_with (first|((with_reducible refine gate_dst (N:=3) rfl ?_);refine bx_ (N:=3) (cs:=#[.string a1_0,.string a1_1,.bool false]) (t:=55) (h:=?_);intro ac hg w6 hbox hb;have ny2_:=mk0 (gz_ HB hg);have ab:=mk0 (gz_ HB hg);replace HB:=mk0 (bt_ (b_ HB) hb);have aa:=mk0 (hbox);have ad:=ny2_;have ae:=ab;clear ny2_ ab hb hbox hg;obtain ⟨al,am,an,ao,ap,aq⟩:=c3_ aa))
  go_ret
  exact ⟨sa_,b_ HB⟩
def GC.f (a0_0:ByteArray) (a0_1:ByteArray) (a0_2:Bool) (a1:ByteArray):Option (Bool):=if ((Op.bytesLess a1.toList a0_0.toList)=true) then (some false) else ((GA.f a1 a0_0 a0_1 a0_2).bind fun a=>(some a))
theorem GC.calls (a0_0:ByteArray) (a0_1:ByteArray) (a0_2:Bool) (a1:ByteArray) (r:Bool) (w:World) (h:GC.f a0_0 a0_1 a0_2 a1=some r) :
 Calls Tryz.prog 67 #[.agg #[.string a0_0,.string a0_1,.bool a0_2],.string a1] w fun e w'=>e = .returned (.bool r)∧Below w.heap.size w w':=by
 have hu55:=Tryz.underlying55
 have HB:=mk0 (Below.refl w.heap.size w)
 have H:(if ((Op.bytesLess a1.toList a0_0.toList)=true) then (some false) else ((GA.f a1 a0_0 a0_1 a0_2).bind fun ab=>(some ab)))=some r:=h
 clear h
 by_cases c3:((Op.bytesLess a1.toList a0_0.toList)=true)
 ·rw [if_pos c3] at H
  have ag:(Op.bytesLess a1.toList a0_0.toList)=true:=c3
  clear c3
  obtain rfl:=Option.some.inj H
  go_enter Tryz.func67,Tryz.ntmps67
  go_wp2_with (first|((with_reducible refine gate_dst (N:=2) rfl ?_);refine bx_ (N:=2) (cs:=#[.string a0_0,.string a0_1,.bool a0_2]) (t:=55) (h:=?_);intro ad hg w4 hbox hb;have ny2_:=mk0 (gz_ HB hg);have ac:=mk0 (gz_ HB hg);replace HB:=mk0 (bt_ (b_ HB) hb);have aa:=mk0 (hbox);have ae:=ny2_;have af:=ac;clear ny2_ ac hb hbox hg;obtain ⟨ah,ai,aj,ak,al,am⟩:=c3_ aa))
  go_ret
  exact ⟨sa_,b_ HB⟩
 ·rw [if_neg c3] at H
  have ag:(Op.bytesLess a1.toList a0_0.toList)=false:=by simpa using c3
  clear c3
  replace H:=ob_ H
  obtain ⟨ab,A6,H⟩:=H
  try dsimp only at H
  obtain rfl:=Option.some.inj H
  go_enter Tryz.func67,Tryz.ntmps67
  go_wp2_with (first|((with_reducible refine gate_dst (N:=2) rfl ?_);refine bx_ (N:=2) (cs:=#[.string a0_0,.string a0_1,.bool a0_2]) (t:=55) (h:=?_);intro ad hg w7 hbox hb;have ny2_:=mk0 (gz_ HB hg);have ac:=mk0 (gz_ HB hg);replace HB:=mk0 (bt_ (b_ HB) hb);have aa:=mk0 (hbox);have ae:=ny2_;have af:=ac;clear ny2_ ac hb hbox hg;obtain ⟨an,ao,ap,aq,ar,au⟩:=c3_ aa)|(go_at_call 88;(with_reducible refine (GA.calls a1 a0_0 a0_1 a0_2 ab _ A6.out).mono ?_);rintro e w9 ⟨rfl,hb⟩;replace aa:=mk0 (u_ aa hb);replace HB:=mk0 (bt_ (b_ HB) hb);(try clear hb)))
  go_ret
  exact ⟨sa_,b_ HB⟩
def F4.f (a0:ByteArray):Option (Bool):=if a0.toList=([]:List UInt8) then (some false) else (some (decide ((a0.size:Int)≤12)))
theorem F4.calls (a0:ByteArray) (r:Bool) (w:World) (h:F4.f a0=some r) :
 Calls Tryz.prog 39 #[.string a0] w fun e w'=>e = .returned (.bool r)∧Drawn0 w w':=by
 have H:(if a0.toList=([]:List UInt8) then (some false) else (some (decide ((a0.size:Int)≤12))))=some r:=h
 clear h
 by_cases c2:a0.toList=([]:List UInt8)
 ·rw [if_pos c2] at H
  have c2b0:=beq_iff_eq.mpr c2
  have c2b1:=bne_eq_false_iff_eq.mpr c2
  clear c2
  obtain rfl:=Option.some.inj H
  go_enter Tryz.func39,Tryz.ntmps39
  go_wp2
  go_ret
  exact ⟨by first|rfl|(simp;done)|(simp [*];done),by repeat (first|exact Drawn0.refl _|apply Drawn0.step)⟩
 ·rw [if_neg c2] at H
  have c2b0:=beq_eq_false_iff_ne.mpr c2
  have c2b1:=bne_iff_ne.mpr c2
  obtain rfl:=Option.some.inj H
  go_enter Tryz.func39,Tryz.ntmps39
  go_wp2
  go_ret
  exact ⟨by first|rfl|(simp;done)|(simp [*];done),by repeat (first|exact Drawn0.refl _|apply Drawn0.step)⟩
def F8.f (a0:ByteArray):Option (Bool):=some (decide ((a0.size:Int)≤20))
theorem F8.calls (a0:ByteArray) (r:Bool) (w:World) (h:F8.f a0=some r) :
 Calls Tryz.prog 104 #[.string a0] w fun e w'=>e = .returned (.bool r)∧Drawn0 w w':=by
 have H:(some (decide ((a0.size:Int)≤20)))=some r:=h
 clear h
 obtain rfl:=Option.some.inj H
 go_enter Tryz.func104,Tryz.ntmps104
 go_wp2
 go_ret
 exact ⟨by first|rfl|(simp;done)|(simp [*];done),by repeat (first|exact Drawn0.refl _|apply Drawn0.step)⟩
def Gu.f (a0_0:Int) (a0_1:ByteArray) (a0_2:Bool):Option (Bool):=if a0_0≥1 then (if a0_0≤1073741824 then ((F8.f a0_1).bind fun a=>(if a=true then (if a0_2=true then (some (a0_1.toList == ([]:List UInt8))) else (some true)) else (some false))) else (some false)) else (some false)
theorem Gu.calls (a0_0:Int) (a0_1:ByteArray) (a0_2:Bool) (r:Bool) (w:World) (h:Gu.f a0_0 a0_1 a0_2=some r) :
 Calls Tryz.prog 101 #[.agg #[.int .i64 a0_0,.string a0_1,.bool a0_2]] w fun e w'=>e = .returned (.bool r)∧Below w.heap.size w w':=by
 have hu78:=Tryz.underlying78
 have HB:=mk0 (Below.refl w.heap.size w)
 have H:(if a0_0≥1 then (if a0_0≤1073741824 then ((F8.f a0_1).bind fun af=>(if af=true then (if a0_2=true then (some (a0_1.toList == ([]:List UInt8))) else (some true)) else (some false))) else (some false)) else (some false))=some r:=h
 clear h
 by_cases c2:a0_0≥1
 ·rw [if_pos c2] at H
  have ag:=decide_eq_true c2
  clear c2
  by_cases c3:a0_0≤1073741824
  ·rw [if_pos c3] at H
   have ah:=decide_eq_true c3
   clear c3
   replace H:=ob_ H
   obtain ⟨af,A4,H⟩:=H
   try dsimp only at H
   by_cases c5:af=true
   ·subst c5
    rw [if_pos rfl] at H
    by_cases c6:a0_2=true
    ·subst c6
     rw [if_pos rfl] at H
     obtain rfl:=Option.some.inj H
     go_enter Tryz.func101,Tryz.ntmps101
     go_wp2_with (first|((with_reducible refine gate_dst (N:=1) rfl ?_);refine bx_ (N:=1) (cs:=#[.int .i64 a0_0,.string a0_1,.bool true]) (t:=78) (h:=?_);intro ac hg w7 hbox hb;have ny2_:=mk0 (gz_ HB hg);have ab:=mk0 (gz_ HB hg);replace HB:=mk0 (bt_ (b_ HB) hb);have aa:=mk0 (hbox);have ad:=ny2_;have ae:=ab;clear ny2_ ab hb hbox hg;obtain ⟨aI,aJ,aK,aL,aM,aN⟩:=c3_ aa)|(go_at_call 104;(with_reducible refine (F8.calls a0_1 true _ A4.out).mono ?_);rintro e w' ⟨rfl,⟨nd,rfl⟩⟩))
     go_ret
     exact ⟨sa_,b_ HB⟩
    ·replace c6:=Bool.eq_false_iff.mpr c6
     subst c6
     rw [if_neg nf_] at H
     obtain rfl:=Option.some.inj H
     go_enter Tryz.func101,Tryz.ntmps101
     go_wp2_with (first|((with_reducible refine gate_dst (N:=1) rfl ?_);refine bx_ (N:=1) (cs:=#[.int .i64 a0_0,.string a0_1,.bool false]) (t:=78) (h:=?_);intro ac hg w9 hbox hb;have ny2_:=mk0 (gz_ HB hg);have ab:=mk0 (gz_ HB hg);replace HB:=mk0 (bt_ (b_ HB) hb);have aa:=mk0 (hbox);have ad:=ny2_;have ae:=ab;clear ny2_ ab hb hbox hg;obtain ⟨ai,aj,ak,al,am,an⟩:=c3_ aa)|(go_at_call 104;(with_reducible refine (F8.calls a0_1 true _ A4.out).mono ?_);rintro e w' ⟨rfl,⟨nd,rfl⟩⟩))
     go_ret
     exact ⟨sa_,b_ HB⟩
   ·replace c5:=Bool.eq_false_iff.mpr c5
    subst c5
    rw [if_neg nf_] at H
    obtain rfl:=Option.some.inj H
    go_enter Tryz.func101,Tryz.ntmps101
    go_wp2_with (first|((with_reducible refine gate_dst (N:=1) rfl ?_);refine bx_ (N:=1) (cs:=#[.int .i64 a0_0,.string a0_1,.bool a0_2]) (t:=78) (h:=?_);intro ac hg aO hbox hb;have ny2_:=mk0 (gz_ HB hg);have ab:=mk0 (gz_ HB hg);replace HB:=mk0 (bt_ (b_ HB) hb);have aa:=mk0 (hbox);have ad:=ny2_;have ae:=ab;clear ny2_ ab hb hbox hg;obtain ⟨ao,ap,aq,ar,au,av⟩:=c3_ aa)|(go_at_call 104;(with_reducible refine (F8.calls a0_1 false _ A4.out).mono ?_);rintro e w' ⟨rfl,⟨nd,rfl⟩⟩))
    go_ret
    exact ⟨sa_,b_ HB⟩
  ·rw [if_neg c3] at H
   have ah:=decide_eq_false c3
   clear c3
   obtain rfl:=Option.some.inj H
   go_enter Tryz.func101,Tryz.ntmps101
   go_wp2_with (first|((with_reducible refine gate_dst (N:=1) rfl ?_);refine bx_ (N:=1) (cs:=#[.int .i64 a0_0,.string a0_1,.bool a0_2]) (t:=78) (h:=?_);intro ac hg aP hbox hb;have ny2_:=mk0 (gz_ HB hg);have ab:=mk0 (gz_ HB hg);replace HB:=mk0 (bt_ (b_ HB) hb);have aa:=mk0 (hbox);have ad:=ny2_;have ae:=ab;clear ny2_ ab hb hbox hg;obtain ⟨aw,ax,ay,az,aA,aB⟩:=c3_ aa))
   go_ret
   exact ⟨sa_,b_ HB⟩
 ·rw [if_neg c2] at H
  have ag:=decide_eq_false c2
  clear c2
  obtain rfl:=Option.some.inj H
  go_enter Tryz.func101,Tryz.ntmps101
  go_wp2_with (first|((with_reducible refine gate_dst (N:=1) rfl ?_);refine bx_ (N:=1) (cs:=#[.int .i64 a0_0,.string a0_1,.bool a0_2]) (t:=78) (h:=?_);intro ac hg aQ hbox hb;have ny2_:=mk0 (gz_ HB hg);have ab:=mk0 (gz_ HB hg);replace HB:=mk0 (bt_ (b_ HB) hb);have aa:=mk0 (hbox);have ad:=ny2_;have ae:=ab;clear ny2_ ab hb hbox hg;obtain ⟨aC,aD,aE,aF,aG,aH⟩:=c3_ aa))
  go_ret
  exact ⟨sa_,b_ HB⟩
mutual
def Fi.l0:Nat→List (S78)→Int→Int→ByteArray→List (S78)→Option (Bool)
 | 0,_,_,_,_,_=>none
 | k + 1,b,d,a,e,c=>if a<d then (if 0≤a then (if a<(b.length:Int) then ((Gu.f ((rd_T78 b a).f0) ((rd_T78 b a).f1) ((rd_T78 b a).f2)).bind fun g=>(if g=true then (if a > 0 then (if 0≤(wrap64 (a - 1)) then (if (wrap64 (a - 1))<(c.length:Int) then (Fi.j1 k b d a (decide (((rd_T78 b a).f0)≥((rd_T78 c (wrap64 (a - 1))).f0))) e c) else (none)) else (none)) else (Fi.j1 k b d a false e c)) else (Fi.j1 k b d a true e c))) else (none)) else (none)) else ((F4.f e).bind fun h=>(if h=true then (some (decide ((c.length:Int) > 0))) else (some false)))
def Fi.j1:Nat→List (S78)→Int→Int→Bool→ByteArray→List (S78)→Option (Bool)
 | 0,_,_,_,_,_,_=>none
 | k + 1,a,b,c,d,e,f=>if d=true then (some false) else (Fi.l0 k a b (wrap64 (c + 1)) e f)
end
def Fi.f (k:Nat) (a0_0:ByteArray) (l0_1:List (S78)):Option (Bool):=Fi.l0 k l0_1 (l0_1.length:Int) 0 a0_0 l0_1
theorem Fi.mono_l:∀ k,(∀ y0 y1 y2 y3 y4,LeO (Fi.l0 k y0 y1 y2 y3 y4) (Fi.l0 (k + 1) y0 y1 y2 y3 y4))∧(∀ y0 y1 y2 y3 y4 y5,LeO (Fi.j1 k y0 y1 y2 y3 y4 y5) (Fi.j1 (k + 1) y0 y1 y2 y3 y4 y5))
 | 0=>⟨fun _ _ _ _ _ r h=>by simp [Fi.l0] at h,fun _ _ _ _ _ _ r h=>by simp [Fi.j1] at h⟩
 | k + 1=>by
  obtain ⟨ih0,ih1⟩:=Fi.mono_l k
  refine ⟨?_,?_⟩
  all_goals (intros;first|unfold Fi.l0|unfold Fi.j1)
  all_goals exact mz_
theorem Fi.mono:∀ a0 a1 k,LeO (Fi.f k a0 a1) (Fi.f (k + 1) a0 a1):=by
 intro a0 a1 k
 obtain ⟨ih0,ih1⟩:=Fi.mono_l k
 unfold Fi.f
 exact mz_
def Fi.T4:Bool×List (List Nat×List Nat):=(true,[([],[]),([0],[0]),([1],[1]),([2,1],[2]),([3],[3]),([4,3],[3,4]),([5,3,3],[3,5]),([6],[6]),([7,6],[6,7]),([6],[6]),([9,6],[6,9]),([6],[6]),([11,6],[6,11]),([10,12,6],[6,10,12]),([13,6],[6,13]),([14,6],[6,14]),([8,15,6],[6,8,15]),([6,16,3],[3,6,16]),([3,17],[3,17])])
def Fi.B4:List Nat:=[0,1,3,7,15,31,63,127,255,127,639,127,2175,7807,15999,32383,65535,131071,262143]
theorem Fi.tab4:rtab .any (opsOf Tryz.f79 4)=Fi.T4:=by kernel_rfl
theorem Fi.bits4:waitsOk Fi.T4.2 Fi.B4=true:=by kernel_rfl
theorem Fi.calls (k:Nat) (a0_0:ByteArray) (A0_1:Option Addr) (c0_1:Nat) (l0_1:List (S78)) (r:Bool) (w:World) (hr0_1:Kd.C k78 w A0_1 l0_1.length l0_1) (hc0_1:l0_1.length≤c0_1) (h:Fi.f k a0_0 l0_1=some r) :
 Calls Tryz.prog 79 #[.agg #[.string a0_0,.slice A0_1 l0_1.length c0_1]] w fun e w'=>e = .returned (.bool r)∧Below w.heap.size w w':=by
 have hu83:=Tryz.underlying83
 have hu78:=Tryz.underlying78
 have aF:=mk0 hr0_1
 have bk:=mk0 hc0_1
 clear hr0_1 hc0_1
 have HB:=mk0 (Below.refl w.heap.size w)
 have H:(Fi.l0 k l0_1 (l0_1.length:Int) 0 a0_0 l0_1)=some r:=h
 clear h
 have H':=mk0 H
 clear H
 go_enter Tryz.func79,Tryz.ntmps79
 go_wp2_with (first|((with_reducible refine gate_dst (N:=1) rfl ?_);(try (refine gate_guard (by rfl) ?_;dsimp only));refine bx_ (N:=1) (cs:=#[.string a0_0,.slice A0_1 l0_1.length c0_1]) (t:=83) (h:=?_);intro ah hg w2 hbox hb;have ny2_:=mk0 (gz_ HB hg);have aP:=mk0 (gz_ HB hg);replace HB:=mk0 (bt_ (b_ HB) hb);have ad:=mk0 (hbox);have bl:=ny2_;have bm:=aP;clear ny2_ aP hb hbox hg;obtain ⟨aQ,az,aA,aB⟩:=c2_ ad))
 go_loopg [8] k (fun kq v8 w'=>∃ (aa:Int),v8 = .int .i64 aa∧Fc (Fi.l0 kq l0_1 (l0_1.length:Int) aa a0_0 l0_1=some r)∧Fc (kq≤k)∧Fc (w'.heap[ah]? = some (.cells #[.string a0_0,(.slice A0_1 l0_1.length c0_1)] 83 (0,0)))∧Fc (Below w.heap.size w w'))
 case atStart=>exact ⟨(0),sm_,H',⟨Nat.le_refl _⟩,⟨h_ ad⟩,⟨b_ HB⟩⟩
 case round=>
  clear H'
  try clear aQ
  try clear az
  try clear aA
  try clear aB
  obtain ⟨aa,rfl,HA,aG,ad,HB⟩:=hrel
  cases gk with
  | zero=>exact absurd HA.out (by simp [Fi.l0])
  | succ k1=>
   have H:=HA.out
   clear HA
   simp only [Fi.l0] at H
   as_aux_lemma=>
    by_cases c4:aa<(l0_1.length:Int)
    ·rw [if_pos c4] at H
     have aX:=decide_eq_true c4
     clear c4
     by_cases c5:0≤aa
     ·rw [if_pos c5] at H
      have aZ:=decide_eq_true c5
      clear c5
      by_cases c6:aa<(l0_1.length:Int)
      ·rw [if_pos c6] at H
       have a2:=decide_eq_true c6
       clear c6
       have HC7:=mk0 H
       clear H
       have aC:0≤(aa:Int):=od_
       have aD:aa<(l0_1.length:Int):=od_
       obtain ⟨ag,a3,al,am,an⟩:=at_T78 aF.out aa aC aD
       cases a3
       replace al:=(bc_ HB al :)
       replace am:=(bc_ HB am :)
       replace an:=(bc_ HB an :)
       replace aC:=eq_true aC
       replace aD:=eq_true aD
       go_upto_region 4 with (first|((with_reducible refine gate_dst (N:=4) rfl ?_);(try (refine gate_guard (by rfl) ?_;dsimp only));refine bx_ (N:=4) (cs:=#[.int .i64 0,.string (⟨#[]⟩:ByteArray),.bool false]) (t:=78) (h:=?_);intro ab hg w8 hbox hb;have aP:=mk0 (gz_ HB hg);have a4:=mk0 (gz_ HB hg);have a5:=mk0 (ne1_ ad hg);have a6:=mk0 (ne2_ ad hg);replace ad:=mk0 (u_ ad hb);replace HB:=mk0 (bt_ (b_ HB) hb);have ac:=mk0 (hbox);have bn:=a4;have ae:=a5;have ay:=a6;clear aP a4 a5 a6 hb hbox hg;have bv:=ay.out;have bw:=ae.out;obtain ⟨aH,aI,aJ,aK,aL,aM⟩:=c3_ ac))
       (try simp only [Act.put,List.setIfInBounds_toArray,List.set_cons_zero,List.set_cons_succ])
       go_cut [31] (fun v31 wc=>∃ (kq:Nat) (au:Bool),v31 = .bool au∧Fc (Fi.j1 kq l0_1 (l0_1.length:Int) aa au a0_0 l0_1=some r)∧Fc (kq≤k1)∧Fc (wc.heap[ah]? = some (.cells #[.string a0_0,(.slice (some ag) l0_1.length c0_1)] 83 (0,0)))∧Fc (wc.heap[ab]? = some (.cells #[.int .i64 ((rd_T78 l0_1 aa).f0),.string ((rd_T78 l0_1 aa).f1),.bool ((rd_T78 l0_1 aa).f2)] 78 (0,0)))∧Fc (Below w.heap.size w wc))
       case first=>
        have H:=HC7.out
        clear HC7
        replace H:=ob_ H
        obtain ⟨a7,aR,H⟩:=H
        try dsimp only at H
        by_cases aS:a7=true
        ·subst aS
         rw [if_pos rfl] at H
         by_cases aE:aa > 0
         ·rw [if_pos aE] at H
          have ao:=decide_eq_true aE
          clear aE
          (first|rw [ao]|(simp only [i64_w,i32_w];rw [ao])|skip)
          obtain ⟨af,ap⟩:∃ j_:Int,(wrap64 (aa - 1))=j_:=⟨_,rfl⟩
          replace H:(if 0≤(af) then (if (af)<(l0_1.length:Int) then (Fi.j1 k1 l0_1 (l0_1.length:Int) aa (decide (((rd_T78 l0_1 aa).f0)≥((rd_T78 l0_1 (af)).f0))) a0_0 l0_1) else (none)) else (none))=some r:=by first|(rw [ap] at H;exact H)|(simp only [ap] at H ⊢; exact H)
          (try rw [ap] at aR)
          have hji14w:(IntKind.i64.wrap (aa - 1))=af:=(i64_w _).trans ap
          by_cases aT:0≤(af)
          ·rw [if_pos aT] at H
           have bo:=decide_eq_true aT
           clear aT
           by_cases aU:(af)<(l0_1.length:Int)
           ·rw [if_pos aU] at H
            have bp:=decide_eq_true aU
            clear aU
            have H':=mk0 H
            clear H
            try go_wp2
            have aq:Fc ((((w8.setCell ⟨ab,0,none⟩ (.int .i64 ((rd_T78 l0_1 aa).f0))).setCell ⟨ab,1,none⟩ (.string ((rd_T78 l0_1 aa).f1))).setCell ⟨ab,2,none⟩ (.bool ((rd_T78 l0_1 aa).f2))).heap[ah]? = some (.cells #[.string a0_0,.slice (some ag) l0_1.length c0_1] 83 (0,0))):=⟨(fa_ (fa_ (fa_ (h_ ad) ae.out) ae.out) ae.out)⟩
            have ar:Fc ((((w8.setCell ⟨ab,0,none⟩ (.int .i64 ((rd_T78 l0_1 aa).f0))).setCell ⟨ab,1,none⟩ (.string ((rd_T78 l0_1 aa).f1))).setCell ⟨ab,2,none⟩ (.bool ((rd_T78 l0_1 aa).f2))).heap[ab]? = some (.cells #[.int .i64 ((rd_T78 l0_1 aa).f0),.string ((rd_T78 l0_1 aa).f1),.bool ((rd_T78 l0_1 aa).f2)] 78 (0,0))):=⟨(pu_ (cs:=#[.int .i64 ((rd_T78 l0_1 aa).f0),.string ((rd_T78 l0_1 aa).f1),.bool false]) (pu_ (cs:=#[.int .i64 ((rd_T78 l0_1 aa).f0),.string (⟨#[]⟩:ByteArray),.bool false]) (pu_ (cs:=#[.int .i64 0,.string (⟨#[]⟩:ByteArray),.bool false]) (h_ ac))))⟩
            have ny2_:Fc (Below w.heap.size w (((w8.setCell ⟨ab,0,none⟩ (.int .i64 ((rd_T78 l0_1 aa).f0))).setCell ⟨ab,1,none⟩ (.string ((rd_T78 l0_1 aa).f1))).setCell ⟨ab,2,none⟩ (.bool ((rd_T78 l0_1 aa).f2)))):=⟨b_ HB⟩
            (try clear ad)
            (try clear ac)
            (try clear HB)
            generalize (((w8.setCell ⟨ab,0,none⟩ (.int .i64 ((rd_T78 l0_1 aa).f0))).setCell ⟨ab,1,none⟩ (.string ((rd_T78 l0_1 aa).f1))).setCell ⟨ab,2,none⟩ (.bool ((rd_T78 l0_1 aa).f2)))=bq at aq ar ny2_ ⊢
            have ad:=aq
            have ac:=ar
            have HB:=ny2_
            clear aq ar ny2_
            replace ad:=mk0 (bD_ ad.out)
            replace ac:=mk0 (bD_ ac.out)
            replace HB:=mk0 (b1_ HB.out)
            have aN:0≤((af):Int):=od_
            have aO:(af)<(l0_1.length:Int):=od_
            obtain ⟨aY,a8,ai,aj,ak⟩:=at_T78 aF.out (af) aN aO
            have av:=ak
            have aw:=aj
            have ax:=ai
            obtain rfl:ag=aY:=(by injection a8)
            replace ai:=(bc_ HB ai :)
            replace aj:=(bc_ HB aj :)
            replace ak:=(bc_ HB ak :)
            replace aN:=eq_true aN
            replace aO:=eq_true aO
            refine start_ (n:=19) (S:=fun w'=>w'.cell? ⟨ab,0,none⟩=some (.int .i64 ((rd_T78 l0_1 aa).f0))∧w'.cell? ⟨ab,1,none⟩=some (.string ((rd_T78 l0_1 aa).f1))∧w'.cell? ⟨ab,2,none⟩=some (.bool ((rd_T78 l0_1 aa).f2))∧w'.cell? ⟨ah,0,none⟩=some (.string a0_0)∧w'.cell? ⟨ah,1,none⟩=some (.slice (some ag) l0_1.length c0_1)∧w'.cell? (ag.add (((af)).toNat * 3))=some (.int .i64 ((rd_T78 l0_1 (af)).f0))∧w'.cell? ⟨(ag.add (((af)).toNat * 3)).block,(ag.add (((af)).toNat * 3)).off + 1,none⟩=some (.string ((rd_T78 l0_1 (af)).f1))∧w'.cell? ⟨(ag.add (((af)).toNat * 3)).block,(ag.add (((af)).toNat * 3)).off + 2,none⟩=some (.bool ((rd_T78 l0_1 (af)).f2))) (ds:=[]) (bt 19 0) (by kernel_rfl) rfl rfl ⟨bk_ ac 0,bk_ ac 1,bk_ ac 2,bk_ ad 0,bk_ ad 1,((bc_ HB ax :)),((bc_ HB aw :)),((bc_ HB av :))⟩ (fun hHeld=>?_);refine with_tabW Fi.tab4 Fi.bits4 (fun HT_ HW_=>?_)
            generalize bq.drew=bx at ad ac HB ai aj ak hHeld ⊢
            refine tq8_ HT_.out HW_.out 0 13 (bt 19 1) hHeld (h:=?_)
            refine one_ (i:=1) (N:=some 14) (bt 19 3) rfl rfl (one_of HT_.out (by kernel_rfl)) (by decide) (fun K hK=>?_)
            refine goes_ Tryz.func101 (by kernel_rfl) rfl #[.agg #[.int .i64 ((rd_T78 l0_1 aa).f0),.string ((rd_T78 l0_1 aa).f1),.bool ((rd_T78 l0_1 aa).f2)]] (by rfl) rfl rfl gs_ ?_
            with_reducible refine (Gu.calls ((rd_T78 l0_1 aa).f0) ((rd_T78 l0_1 aa).f1) ((rd_T78 l0_1 aa).f2) true _ aR.out).mono ?_
            rintro e bz ⟨rfl,hb⟩
            refine ⟨_,rfl,?_⟩
            replace ad:=mk0 (u_ ad hb)
            replace ac:=mk0 (u_ ac hb)
            replace HB:=mk0 (bt_ (b_ HB) hb)
            (try clear hb)
            (try clear hk)
            (try clear hi)
            refine hK.out _ _ ⟨bk_ ac 0,bk_ ac 1,bk_ ac 2,bk_ ad 0,bk_ ad 1,((bc_ HB ax :)),((bc_ HB aw :)),((bc_ HB av :))⟩ (fun hHeld=>?_)
            clear hK K
            refine norm_ (a':=?_) ?_ ?_
            rotate_left
            ·show Act.put _ (some 14) _=_
             simp only [z_]
             rfl
            refine pq_ HT_.out 2 15 (bt 19 7) (h:=?_)
            refine pq_ HT_.out 3 16 (bt 19 15) (h:=?_)
            refine pq_ HT_.out 4 17 (bt 19 31) (h:=?_)
            refine pq_ HT_.out 5 18 (bt 19 63) (h:=?_)
            refine pq_ HT_.out 6 19 (bt 19 127) (h:=?_)
            refine pq_ HT_.out 7 20 (bt 19 255) (h:=?_)
            refine pq_ HT_.out 9 22 (bt 19 767) (h:=?_)
            refine pq_ HT_.out 11 24 (bt 19 2815) (h:=?_)
            refine pq_ HT_.out 12 25 (bt 19 6911) (h:=?_)
            refine tq8_ HT_.out HW_.out 8 21 (bt 19 7167) hHeld (h:=?_)
            refine tq8_ HT_.out HW_.out 10 23 (bt 19 8191) hHeld (h:=?_)
            refine pq_ HT_.out 13 26 (bt 19 16383) (h:=?_)
            refine pq_ HT_.out 14 27 (bt 19 32767) (h:=?_)
            refine tq8_ HT_.out HW_.out 15 28 (bt 19 65535) hHeld (h:=?_)
            refine pq_ HT_.out 16 29 (bt 19 131071) (h:=?_)
            refine pq_ HT_.out 17 30 (bt 19 262143) (h:=?_)
            refine pq_ HT_.out 18 31 (bt 19 524287) (h:=?_)
            refine done_ (done_of HT_.out (by kernel_rfl)) ?_
            try go_wp2
            go_meet
            case rel=>exact ⟨_,(decide (((rd_T78 l0_1 aa).f0)≥((rd_T78 l0_1 (af)).f0))),(by first|rfl|(simp;done)|(simp only [← ap] <;> (first|rfl|(simp [leq_];done)|(simp;done)))|(simp [*];done)),H',⟨by have:=aG.out;first|omega|exact Nat.le_refl _⟩,⟨h_ ad⟩,⟨h_ ac⟩,⟨b_ HB⟩⟩
           ·rw [if_neg aU] at H
            exact absurd H (by simp)
          ·rw [if_neg aT] at H
           exact absurd H (by simp)
         ·rw [if_neg aE] at H
          have ao:=decide_eq_false aE
          clear aE
          (first|rw [ao]|(simp only [i64_w,i32_w];rw [ao])|skip)
          have H':=mk0 H
          clear H
          try go_wp2
          have aq:Fc ((((w8.setCell ⟨ab,0,none⟩ (.int .i64 ((rd_T78 l0_1 aa).f0))).setCell ⟨ab,1,none⟩ (.string ((rd_T78 l0_1 aa).f1))).setCell ⟨ab,2,none⟩ (.bool ((rd_T78 l0_1 aa).f2))).heap[ah]? = some (.cells #[.string a0_0,.slice (some ag) l0_1.length c0_1] 83 (0,0))):=⟨(fa_ (fa_ (fa_ (h_ ad) ae.out) ae.out) ae.out)⟩
          have ar:Fc ((((w8.setCell ⟨ab,0,none⟩ (.int .i64 ((rd_T78 l0_1 aa).f0))).setCell ⟨ab,1,none⟩ (.string ((rd_T78 l0_1 aa).f1))).setCell ⟨ab,2,none⟩ (.bool ((rd_T78 l0_1 aa).f2))).heap[ab]? = some (.cells #[.int .i64 ((rd_T78 l0_1 aa).f0),.string ((rd_T78 l0_1 aa).f1),.bool ((rd_T78 l0_1 aa).f2)] 78 (0,0))):=⟨(pu_ (cs:=#[.int .i64 ((rd_T78 l0_1 aa).f0),.string ((rd_T78 l0_1 aa).f1),.bool false]) (pu_ (cs:=#[.int .i64 ((rd_T78 l0_1 aa).f0),.string (⟨#[]⟩:ByteArray),.bool false]) (pu_ (cs:=#[.int .i64 0,.string (⟨#[]⟩:ByteArray),.bool false]) (h_ ac))))⟩
          have ny2_:Fc (Below w.heap.size w (((w8.setCell ⟨ab,0,none⟩ (.int .i64 ((rd_T78 l0_1 aa).f0))).setCell ⟨ab,1,none⟩ (.string ((rd_T78 l0_1 aa).f1))).setCell ⟨ab,2,none⟩ (.bool ((rd_T78 l0_1 aa).f2)))):=⟨b_ HB⟩
          (try clear ad)
          (try clear ac)
          (try clear HB)
          generalize (((w8.setCell ⟨ab,0,none⟩ (.int .i64 ((rd_T78 l0_1 aa).f0))).setCell ⟨ab,1,none⟩ (.string ((rd_T78 l0_1 aa).f1))).setCell ⟨ab,2,none⟩ (.bool ((rd_T78 l0_1 aa).f2)))=br at aq ar ny2_ ⊢
          have ad:=aq
          have ac:=ar
          have HB:=ny2_
          clear aq ar ny2_
          replace ad:=mk0 (bD_ ad.out)
          replace ac:=mk0 (bD_ ac.out)
          replace HB:=mk0 (b1_ HB.out)
          refine start_ (n:=19) (S:=fun w'=>w'.cell? ⟨ab,0,none⟩=some (.int .i64 ((rd_T78 l0_1 aa).f0))∧w'.cell? ⟨ab,1,none⟩=some (.string ((rd_T78 l0_1 aa).f1))∧w'.cell? ⟨ab,2,none⟩=some (.bool ((rd_T78 l0_1 aa).f2))) (ds:=[]) (bt 19 0) (by kernel_rfl) rfl rfl ⟨bk_ ac 0,bk_ ac 1,bk_ ac 2⟩ (fun hHeld=>?_);refine with_tabW Fi.tab4 Fi.bits4 (fun HT_ HW_=>?_)
          generalize br.drew=bA at ad ac HB hHeld ⊢
          refine tq3_ HT_.out HW_.out 0 13 (bt 19 1) hHeld (h:=?_)
          refine one_ (i:=1) (N:=some 14) (bt 19 3) rfl rfl (one_of HT_.out (by kernel_rfl)) (by decide) (fun K hK=>?_)
          refine goes_ Tryz.func101 (by kernel_rfl) rfl #[.agg #[.int .i64 ((rd_T78 l0_1 aa).f0),.string ((rd_T78 l0_1 aa).f1),.bool ((rd_T78 l0_1 aa).f2)]] (by rfl) rfl rfl gs_ ?_
          with_reducible refine (Gu.calls ((rd_T78 l0_1 aa).f0) ((rd_T78 l0_1 aa).f1) ((rd_T78 l0_1 aa).f2) true _ aR.out).mono ?_
          rintro e bB ⟨rfl,hb⟩
          refine ⟨_,rfl,?_⟩
          replace ad:=mk0 (u_ ad hb)
          replace ac:=mk0 (u_ ac hb)
          replace HB:=mk0 (bt_ (b_ HB) hb)
          (try clear hb)
          (try clear hk)
          (try clear hi)
          refine hK.out _ _ ⟨bk_ ac 0,bk_ ac 1,bk_ ac 2⟩ (fun hHeld=>?_)
          clear hK K
          refine norm_ (a':=?_) ?_ ?_
          rotate_left
          ·show Act.put _ (some 14) _=_
           simp only [z_]
           rfl
          refine pq_ HT_.out 2 15 (bt 19 7) (h:=?_)
          refine pq_ HT_.out 3 16 (bt 19 15) (h:=?_)
          refine pq_ HT_.out 4 17 (bt 19 31) (h:=?_)
          refine pq_ HT_.out 5 18 (bt 19 63) (h:=?_)
          refine pq_ HT_.out 6 19 (bt 19 127) (h:=?_)
          refine uq_ HT_.out 7 20 (bt 19 255) (h:=?_)
          refine uq_ HT_.out 8 21 (bt 19 511) (h:=?_)
          refine uq_ HT_.out 9 22 (bt 19 1023) (h:=?_)
          refine uq_ HT_.out 10 23 (bt 19 2047) (h:=?_)
          refine uq_ HT_.out 11 24 (bt 19 4095) (h:=?_)
          refine uq_ HT_.out 12 25 (bt 19 8191) (h:=?_)
          refine uq_ HT_.out 13 26 (bt 19 16383) (h:=?_)
          refine uq_ HT_.out 14 27 (bt 19 32767) (h:=?_)
          refine uq_ HT_.out 15 28 (bt 19 65535) (h:=?_)
          refine uq_ HT_.out 16 29 (bt 19 131071) (h:=?_)
          refine pq_ HT_.out 17 30 (bt 19 262143) (h:=?_)
          refine pq_ HT_.out 18 31 (bt 19 524287) (h:=?_)
          refine done_ (done_of HT_.out (by kernel_rfl)) ?_
          try go_wp2
          go_meet
          case rel=>exact ⟨_,(false),sm_,H',⟨by have:=aG.out;first|omega|exact Nat.le_refl _⟩,⟨h_ ad⟩,⟨h_ ac⟩,⟨b_ HB⟩⟩
        ·replace aS:=Bool.eq_false_iff.mpr aS
         subst aS
         rw [if_neg nf_] at H
         have H':=mk0 H
         clear H
         try go_wp2
         have aq:Fc ((((w8.setCell ⟨ab,0,none⟩ (.int .i64 ((rd_T78 l0_1 aa).f0))).setCell ⟨ab,1,none⟩ (.string ((rd_T78 l0_1 aa).f1))).setCell ⟨ab,2,none⟩ (.bool ((rd_T78 l0_1 aa).f2))).heap[ah]? = some (.cells #[.string a0_0,.slice (some ag) l0_1.length c0_1] 83 (0,0))):=⟨(fa_ (fa_ (fa_ (h_ ad) ae.out) ae.out) ae.out)⟩
         have ar:Fc ((((w8.setCell ⟨ab,0,none⟩ (.int .i64 ((rd_T78 l0_1 aa).f0))).setCell ⟨ab,1,none⟩ (.string ((rd_T78 l0_1 aa).f1))).setCell ⟨ab,2,none⟩ (.bool ((rd_T78 l0_1 aa).f2))).heap[ab]? = some (.cells #[.int .i64 ((rd_T78 l0_1 aa).f0),.string ((rd_T78 l0_1 aa).f1),.bool ((rd_T78 l0_1 aa).f2)] 78 (0,0))):=⟨(pu_ (cs:=#[.int .i64 ((rd_T78 l0_1 aa).f0),.string ((rd_T78 l0_1 aa).f1),.bool false]) (pu_ (cs:=#[.int .i64 ((rd_T78 l0_1 aa).f0),.string (⟨#[]⟩:ByteArray),.bool false]) (pu_ (cs:=#[.int .i64 0,.string (⟨#[]⟩:ByteArray),.bool false]) (h_ ac))))⟩
         have ny2_:Fc (Below w.heap.size w (((w8.setCell ⟨ab,0,none⟩ (.int .i64 ((rd_T78 l0_1 aa).f0))).setCell ⟨ab,1,none⟩ (.string ((rd_T78 l0_1 aa).f1))).setCell ⟨ab,2,none⟩ (.bool ((rd_T78 l0_1 aa).f2)))):=⟨b_ HB⟩
         (try clear ad)
         (try clear ac)
         (try clear HB)
         generalize (((w8.setCell ⟨ab,0,none⟩ (.int .i64 ((rd_T78 l0_1 aa).f0))).setCell ⟨ab,1,none⟩ (.string ((rd_T78 l0_1 aa).f1))).setCell ⟨ab,2,none⟩ (.bool ((rd_T78 l0_1 aa).f2)))=bs at aq ar ny2_ ⊢
         have ad:=aq
         have ac:=ar
         have HB:=ny2_
         clear aq ar ny2_
         replace ad:=mk0 (bD_ ad.out)
         replace ac:=mk0 (bD_ ac.out)
         replace HB:=mk0 (b1_ HB.out)
         refine start_ (n:=19) (S:=fun w'=>w'.cell? ⟨ab,0,none⟩=some (.int .i64 ((rd_T78 l0_1 aa).f0))∧w'.cell? ⟨ab,1,none⟩=some (.string ((rd_T78 l0_1 aa).f1))∧w'.cell? ⟨ab,2,none⟩=some (.bool ((rd_T78 l0_1 aa).f2))) (ds:=[]) (bt 19 0) (by kernel_rfl) rfl rfl ⟨bk_ ac 0,bk_ ac 1,bk_ ac 2⟩ (fun hHeld=>?_);refine with_tabW Fi.tab4 Fi.bits4 (fun HT_ HW_=>?_)
         generalize bs.drew=bC at ad ac HB hHeld ⊢
         refine tq3_ HT_.out HW_.out 0 13 (bt 19 1) hHeld (h:=?_)
         refine one_ (i:=1) (N:=some 14) (bt 19 3) rfl rfl (one_of HT_.out (by kernel_rfl)) (by decide) (fun K hK=>?_)
         refine goes_ Tryz.func101 (by kernel_rfl) rfl #[.agg #[.int .i64 ((rd_T78 l0_1 aa).f0),.string ((rd_T78 l0_1 aa).f1),.bool ((rd_T78 l0_1 aa).f2)]] (by rfl) rfl rfl gs_ ?_
         with_reducible refine (Gu.calls ((rd_T78 l0_1 aa).f0) ((rd_T78 l0_1 aa).f1) ((rd_T78 l0_1 aa).f2) false _ aR.out).mono ?_
         rintro e bD ⟨rfl,hb⟩
         refine ⟨_,rfl,?_⟩
         replace ad:=mk0 (u_ ad hb)
         replace ac:=mk0 (u_ ac hb)
         replace HB:=mk0 (bt_ (b_ HB) hb)
         (try clear hb)
         (try clear hk)
         (try clear hi)
         refine hK.out _ _ ⟨bk_ ac 0,bk_ ac 1,bk_ ac 2⟩ (fun hHeld=>?_)
         clear hK K
         refine norm_ (a':=?_) ?_ ?_
         rotate_left
         ·show Act.put _ (some 14) _=_
          simp only [z_]
          rfl
         refine pq_ HT_.out 2 15 (bt 19 7) (h:=?_)
         refine pq_ HT_.out 3 16 (bt 19 15) (h:=?_)
         refine uq_ HT_.out 4 17 (bt 19 31) (h:=?_)
         refine uq_ HT_.out 5 18 (bt 19 63) (h:=?_)
         refine uq_ HT_.out 6 19 (bt 19 127) (h:=?_)
         refine uq_ HT_.out 7 20 (bt 19 255) (h:=?_)
         refine uq_ HT_.out 8 21 (bt 19 511) (h:=?_)
         refine uq_ HT_.out 9 22 (bt 19 1023) (h:=?_)
         refine uq_ HT_.out 10 23 (bt 19 2047) (h:=?_)
         refine uq_ HT_.out 11 24 (bt 19 4095) (h:=?_)
         refine uq_ HT_.out 12 25 (bt 19 8191) (h:=?_)
         refine uq_ HT_.out 13 26 (bt 19 16383) (h:=?_)
         refine uq_ HT_.out 14 27 (bt 19 32767) (h:=?_)
         refine uq_ HT_.out 15 28 (bt 19 65535) (h:=?_)
         refine uq_ HT_.out 16 29 (bt 19 131071) (h:=?_)
         refine uq_ HT_.out 17 30 (bt 19 262143) (h:=?_)
         refine pq_ HT_.out 18 31 (bt 19 524287) (h:=?_)
         refine done_ (done_of HT_.out (by kernel_rfl)) ?_
         try go_wp2
         go_meet
         case rel=>exact ⟨_,(true),sm_,H',⟨by have:=aG.out;first|omega|exact Nat.le_refl _⟩,⟨h_ ad⟩,⟨h_ ac⟩,⟨b_ HB⟩⟩
       case rest=>
        clear HC7
        try clear c4
        try clear aX
        try clear c5
        try clear aZ
        try clear c6
        try clear a2
        try clear aH
        try clear aI
        try clear aJ
        try clear az
        try clear aK
        try clear aL
        try clear aM
        try clear aA
        try clear aB
        try clear al
        try clear am
        try clear an
        try clear aC
        try clear aD
        obtain ⟨kq,au,rfl,HA,a9,ad,ac,HB⟩:=hcut
        cases kq with
        | zero=>exact absurd HA.out (by simp [Fi.j1])
        | succ bu=>
         have H:=HA.out
         clear HA
         simp only [Fi.j1] at H
         as_aux_lemma=>
          by_cases aV:au=true
          ·subst aV
           rw [if_pos rfl] at H
           obtain rfl:=Option.some.inj H
           go_wp2
           go_ret
           exact ⟨sa_,b_ HB⟩
          ·replace aV:=Bool.eq_false_iff.mpr aV
           subst aV
           rw [if_neg nf_] at H
           have H':=mk0 H
           clear H
           go_wp2
           go_roundg bu
           case measure=>have:=aG.out;have:=a9.out;omega
           case rel=>exact ⟨(wrap64 (aa + 1)),sm_,H',⟨by have:=aG.out;have:=a9.out;omega⟩,⟨h_ ad⟩,⟨b_ HB⟩⟩
      ·rw [if_neg c6] at H
       exact absurd H (by simp)
     ·rw [if_neg c5] at H
      exact absurd H (by simp)
    ·rw [if_neg c4] at H
     have aX:=decide_eq_false c4
     clear c4
     replace H:=ob_ H
     obtain ⟨ba,bb,H⟩:=H
     try dsimp only at H
     by_cases aW:ba=true
     ·subst aW
      rw [if_pos rfl] at H
      obtain rfl:=Option.some.inj H
      obtain ⟨bc,bd,be,bf⟩:=c2_ ad
      go_wp2_with (first|((with_reducible refine gate_callee (f:=39) rfl ?_);refine gL_ (some 35) Tryz.func39 #[.string a0_0] (h:=?_);(with_reducible refine (F4.calls a0_0 true _ bb.out).mono ?_);rintro e w' ⟨rfl,⟨nd,rfl⟩⟩;refine ⟨_,rfl,?_⟩))
      go_ret
      exact ⟨sa_,b_ HB⟩
     ·replace aW:=Bool.eq_false_iff.mpr aW
      subst aW
      rw [if_neg nf_] at H
      obtain rfl:=Option.some.inj H
      obtain ⟨bg,bh,bi,bj⟩:=c2_ ad
      go_wp2_with (first|((with_reducible refine gate_callee (f:=39) rfl ?_);refine gL_ (some 35) Tryz.func39 #[.string a0_0] (h:=?_);(with_reducible refine (F4.calls a0_0 false _ bb.out).mono ?_);rintro e w' ⟨rfl,⟨nd,rfl⟩⟩;refine ⟨_,rfl,?_⟩))
      go_ret
      exact ⟨sa_,b_ HB⟩
def FX.l0:Nat→Int→List (S83)→Int→Int→Option (Int)
 | 0,_,_,_,_=>none
 | k + 1,c,b,d,a=>if a<d then (if 0≤a then (if a<(b.length:Int) then (FX.l0 k (wrap64 (c + (((rd_T83 b a).f1).length:Int))) b d (wrap64 (a + 1))) else (none)) else (none)) else (some c)
def FX.f (k:Nat) (l0_0:List (S83)):Option (Int):=FX.l0 k 0 l0_0 (l0_0.length:Int) 0
theorem FX.mono_l:∀ k,(∀ y0 y1 y2 y3,LeO (FX.l0 k y0 y1 y2 y3) (FX.l0 (k + 1) y0 y1 y2 y3))
 | 0=>fun _ _ _ _ r h=>by simp [FX.l0] at h
 | k + 1=>by
  have ih0:=FX.mono_l k
  all_goals (intros;first|unfold FX.l0)
  all_goals exact mz_
theorem FX.mono:∀ a0 k,LeO (FX.f k a0) (FX.f (k + 1) a0):=by
 intro a0 k
 have ih0:=FX.mono_l k
 unfold FX.f
 exact mz_
theorem FX.calls (k:Nat) (A0_0:Option Addr) (c0_0:Nat) (l0_0:List (S83)) (r:Int) (w:World) (hr0_0:Kd.C k83 w A0_0 l0_0.length l0_0) (hc0_0:l0_0.length≤c0_0) (h:FX.f k l0_0=some r) :
 Calls Tryz.prog 80 #[.agg #[.slice A0_0 l0_0.length c0_0]] w fun e w'=>e = .returned (.int .i64 r)∧Below w.heap.size w w':=by
 have hu43:=Tryz.underlying43
 have hu83:=Tryz.underlying83
 have ao:=mk0 hr0_0
 have aH:=mk0 hc0_0
 clear hr0_0 hc0_0
 have HB:=mk0 (Below.refl w.heap.size w)
 have H:(FX.l0 k 0 l0_0 (l0_0.length:Int) 0)=some r:=h
 clear h
 have H':=mk0 H
 clear H
 go_enter Tryz.func80,Tryz.ntmps80
 go_wp2_with (first|((with_reducible refine gate_dst (N:=1) rfl ?_);refine bx_ (N:=1) (cs:=#[.slice A0_0 l0_0.length c0_0]) (t:=43) (h:=?_);intro ap hg w2 hbox hb;have ny2_:=mk0 (gz_ HB hg);have al:=mk0 (gz_ HB hg);replace HB:=mk0 (bt_ (b_ HB) hb);have aa:=mk0 (hbox);have aI:=ny2_;have aJ:=al;clear ny2_ al hb hbox hg;obtain ⟨am,an⟩:=c1_ aa))
 go_loopg [3,9] k (fun kq v3 v9 w'=>∃ (ai:Int) (ab:Int),v3 = .int .i64 ai∧v9 = .int .i64 ab∧Fc (FX.l0 kq ai l0_0 (l0_0.length:Int) ab=some r)∧Fc (kq≤k)∧Fc (w'.heap[ap]? = some (.cells #[(.slice A0_0 l0_0.length c0_0)] 43 (0,0)))∧Fc (Below w.heap.size w w'))
 case atStart=>exact ⟨(0),(0),sm_,sm_,H',⟨Nat.le_refl _⟩,⟨h_ aa⟩,⟨b_ HB⟩⟩
 case round=>
  clear H'
  try clear am
  try clear an
  obtain ⟨ai,ab,rfl,rfl,HA,ar,aa,HB⟩:=hrel
  cases gk with
  | zero=>exact absurd HA.out (by simp [FX.l0])
  | succ k1=>
   have H:=HA.out
   clear HA
   simp only [FX.l0] at H
   as_aux_lemma=>
    by_cases c4:ab<(l0_0.length:Int)
    ·rw [if_pos c4] at H
     have au:=decide_eq_true c4
     clear c4
     by_cases c5:0≤ab
     ·rw [if_pos c5] at H
      have aN:=decide_eq_true c5
      clear c5
      by_cases c6:ab<(l0_0.length:Int)
      ·rw [if_pos c6] at H
       have aO:=decide_eq_true c6
       clear c6
       have H':=mk0 H
       clear H
       have aj:0≤(ab:Int):=od_
       have ak:ab<(l0_0.length:Int):=od_
       obtain ⟨aK,aB,aC,av,ad,ae,af,ag⟩:=at_T83 ao.out ab aj ak
       cases av
       replace ad:=(bc_ HB ad :)
       replace ae:=(bc_ HB ae :)
       have aw:=mk0 ag
       have ax:=mk0 af
       clear ag af
       replace aj:=eq_true aj
       replace ak:=eq_true ak
       go_wp2_with (first|((with_reducible refine gate_dst (N:=5) rfl ?_);refine bx_ (N:=5) (cs:=#[.string (⟨#[]⟩:ByteArray),.slice none 0 0]) (t:=83) (h:=?_);intro aL hg w7 hbox hb;have al:=mk0 (gz_ HB hg);have ay:=mk0 (gz_ HB hg);have az:=mk0 (ne1_ aa hg);have aA:=mk0 (ne2_ aa hg);replace aa:=mk0 (u_ aa hb);replace HB:=mk0 (bt_ (b_ HB) hb);have aq:=mk0 (hbox);have aM:=ay;have ac:=az;have ah:=aA;clear al ay az aA hb hbox hg;have aP:=ah.out;have aQ:=ac.out;obtain ⟨aD,aE,aF,aG⟩:=c2_ aq))
       go_roundg k1
       case measure=>have:=ar.out;omega
       case rel=>exact ⟨(wrap64 (ai + (((rd_T83 l0_0 ab).f1).length:Int))),(wrap64 (ab + 1)),sm_,sm_,H',⟨by have:=ar.out;omega⟩,⟨(fa_ (fa_ (h_ aa) ac.out) ac.out)⟩,⟨b_ HB⟩⟩
      ·rw [if_neg c6] at H
       exact absurd H (by simp)
     ·rw [if_neg c5] at H
      exact absurd H (by simp)
    ·rw [if_neg c4] at H
     have au:=decide_eq_false c4
     clear c4
     obtain rfl:=Option.some.inj H
     go_wp2
     go_ret
     exact ⟨sa_,b_ HB⟩
end Go.Proofs.YtbaecdcfefmcgaaGreat.PVrd
