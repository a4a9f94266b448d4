import Derived.Shelf.SlSorted.Search
import Derived.Test.YtbaecdcfefmcgaaGreatPVrdx0
import Derived.Test.YtbaecdcfefmcgaaGreatPVrdx4
import Derived.Test.YtbaecdcfefmcgaaGreatPVrdx16
import Derived.Test.YtbaecdcfefmcgaaGreatHAll
import Derived.Test.YtbaecdcfefmcgaaGreatHSome
import Derived.Test.YtbaecdcfefmcgaaGreatShelfP
namespace Go.Proofs.YtbaecdcfefmcgaaGreat.PVrd
open Go.RowKit Go.Proofs.YtbaecdcfefmcgaaGreatW.PrintWords Go.Proofs.YtbaecdcfefmcgaaGreatW.PrintLast Go.Proofs.YtbaecdcfefmcgaaGreatW.PrintMore
attribute [local go_sem] max2_int min2_int max_two min_two max_three min_three max_four min_four
set_option maxHeartbeats 8000000
set_option maxRecDepth 100000
set_option linter.unusedVariables false
set_option linter.unusedSimpArgs false
def FE.cmp (a b:ByteArray):Int:=Lib.compareBytes a.data.toList b.data.toList
def FE.bs (l:List (S83)) (k:ByteArray):Nat→Nat→Nat→Nat
 | 0,i,_=>i
 | f + 1,i,j=>if i<j then (if FE.cmp (rd_T83 l (((i + j) / 2:Nat):Int)).f0 k<0 then FE.bs l k f ((i + j) / 2 + 1) j else FE.bs l k f i ((i + j) / 2)) else i
def FE.f (l0:List (S83)) (a1:ByteArray):Option (Int×Bool):=
 some ((FE.bs l0 a1 l0.length 0 l0.length:Nat),decide (FE.bs l0 a1 l0.length 0 l0.length<l0.length) && (FE.cmp (rd_T83 l0 ((FE.bs l0 a1 l0.length 0 l0.length:Nat):Int)).f0 a1 == 0))
theorem FE.clo (s:ByteArray) (A:Option Addr) (n c:Nat) (k:ByteArray) (W:World):Calls Tryz.prog 107 #[.agg #[.string s,.slice A n c],.string k] W fun e W'=>e = .returned (.int .i64 (FE.cmp s k))∧Below W.heap.size W W':=by
 have hcmp:=fun W'=>Go.Proofs.Any.strings_Compare Tryz.strCmp s k W'
 change ∀ W',Calls Tryz.prog 72 _ _ _ at hcmp
 unfold FE.cmp
 generalize Lib.compareBytes s.data.toList k.data.toList=q at hcmp ⊢
 have HB:=Aside0.mk (Below.refl W.heap.size W)
 go_enter Tryz.func107,Tryz.ntmps107
 go_wp2_with (first|(go_at_call 72;refine (hcmp _).mono ?_;rintro e w' ⟨rfl,rfl⟩)|go_in)
 go_ret
 exact ⟨rfl,by repeat (first|(with_reducible first|exact HB.out|apply bL_|apply pN_|apply b1_)|exact HB.out)⟩
set_option maxHeartbeats 4000000 in
set_option maxRecDepth 100000 in
theorem FE.calls (A0:Option Addr) (c0:Nat) (l0:List (S83)) (a1:ByteArray) (r1:Int) (r2:Bool) (w:World) (hr0:Kd.C k83 w A0 l0.length l0) (hc0:l0.length≤c0) (h:FE.f l0 a1=some (r1,r2)) :
 Calls Tryz.prog 106 #[.slice A0 l0.length c0,.string a1,.func (Fn.func 107) #[] #[]] w fun e w'=>e = .returned (.tuple #[.int .i64 r1,.bool r2])∧Below w.heap.size w w':=by
 have hlen:=hr0.2.1
 have eg:∀ args w,(callFunc 107 args).run Tryz.prog w = .ok (.enter 107 args) w:=enters_of Tryz.func107 (by kernel_rfl) rfl
 have HR0:=Aside0.mk hr0
 have HC0:=Aside0.mk hc0
 have HL:=Aside0.mk hlen
 have HH:=Aside0.mk h
 clear hr0 hc0 h hlen
 have HP:=Aside0.mk (FE.clo)
 have HB:=Aside0.mk (Below.refl w.heap.size w)
 go_enter Tryz.func106,Tryz.ntmps106
 go_wp2
 go_loopg [9,10] l0.length (fun kq v9 v10 w'=>∃ (i j:Nat),v9 = .int .i64 i∧v10 = .int .i64 j∧Aside0 (i≤j∧j≤l0.length)∧Aside0 (j - i≤kq)∧Aside0 (FE.bs l0 a1 kq i j=FE.bs l0 a1 l0.length 0 l0.length)∧Aside0 (Below w.heap.size w w'))
 case atStart=>exact ⟨0,l0.length,rfl,rfl,⟨by omega,by omega⟩,⟨by omega⟩,⟨rfl⟩,HB⟩
 case round=>
  clear HB
  obtain ⟨i,j,rfl,rfl,HI,HK,HS,HB⟩:=hrel
  by_cases hij:i<j
  ·cases gk with
   | zero=>exact absurd HK.out (by omega)
   | succ k1=>
    have hi2:=HI.out
    have hl2:=HL.out
    have hm:wrap64 (IntKind.u64.wrap (wrap64 ((i:Int) + (j:Int))) / 2)=(((i + j) / 2:Nat):Int):=by
     have e:IntKind.u64.wrap (wrap64 ((i:Int) + (j:Int)))=(i:Int) + (j:Int):=by
      simp only [IntKind.wrap,IntKind.signed,IntKind.bits]
      unfold wrap64
      simp
      omega
     rw [e]
     unfold wrap64
     omega
    obtain ⟨m,hmd⟩:∃ m,m=(i + j) / 2:=⟨_,rfl⟩
    rw [← hmd] at hm
    have aa:(0:Int)≤(m:Int):=by omega
    have ab:(m:Int)<(l0.length:Int):=by omega
    obtain ⟨ad,A1,c1,e1,hx0,hx1,hl1,hi1⟩:=at_T83 HR0.out (m:Int) aa ab
    cases e1
    replace hx0:=(HB.out.cell (World.block_lt_of_cell? w _ hx0)).trans hx0
    replace hx1:=(HB.out.cell (World.block_lt_of_cell? w _ hx1)).trans hx1
    have hcall:=HP.out (rd_T83 l0 (m:Int)).f0 A1 (rd_T83 l0 (m:Int)).f1.length c1 a1 wr
    have HM:=Aside0.mk hmd
    have HJ:=Aside0.mk hij
    clear hi1 hl1 hi2 hl2 hmd
    simp only [Int.toNat_natCast] at hx0 hx1
    go_wp2_with ((with_reducible refine hcall.mono ?_);rintro e w' ⟨rfl,hb'⟩)
    all_goals go_roundg k1
    case measure=>omega
    case measure=>omega
    all_goals rename_i hcm
    all_goals have hi2:=HI.out
    all_goals have hl2:=HL.out
    all_goals have hm2:=HM.out
    all_goals have hj2:=HJ.out
    all_goals have hk2:=HK.out
    all_goals have hs2:=HS.out
    ·refine ⟨m + 1,j,?_,rfl,⟨by omega,by omega⟩,⟨by omega⟩,⟨?_⟩,⟨HB.out.trans (hb'.mono HB.out.size)⟩⟩
     ·congr 1
      unfold wrap64
      omega
     ·rw [← hs2]
      show _=FE.bs l0 a1 (k1 + 1) i j
      rw [FE.bs,if_pos hij,← hm2,if_pos hcm]
    ·refine ⟨i,m,rfl,rfl,⟨by omega,by omega⟩,⟨by omega⟩,⟨?_⟩,⟨HB.out.trans (hb'.mono HB.out.size)⟩⟩
     rw [← hs2]
     show _=FE.bs l0 a1 (k1 + 1) i j
     rw [FE.bs,if_pos hij,← hm2,if_neg (by omega)]
  ·have hi2:=HI.out
   obtain rfl:i=j:=by omega
   have hbs:FE.bs l0 a1 gk i i=i:=by cases gk <;> simp [FE.bs]
   have hf:=HH.out
   unfold FE.f at hf
   rw [← HS.out,hbs] at hf
   simp only [Option.some.injEq,Prod.mk.injEq] at hf
   obtain ⟨rfl,rfl⟩:=hf
   clear hbs
   by_cases hi:i<l0.length
   ·have aa:(0:Int)≤(i:Int):=by omega
    have ab:(i:Int)<(l0.length:Int):=by omega
    obtain ⟨ad,A1,c1,e1,hx0,hx1,hl1,hi1⟩:=at_T83 HR0.out (i:Int) aa ab
    cases e1
    replace hx0:=(HB.out.cell (World.block_lt_of_cell? w _ hx0)).trans hx0
    replace hx1:=(HB.out.cell (World.block_lt_of_cell? w _ hx1)).trans hx1
    have hcall:=HP.out (rd_T83 l0 (i:Int)).f0 A1 (rd_T83 l0 (i:Int)).f1.length c1 a1 wr
    clear hi1 hl1 hi2
    simp only [Int.toNat_natCast] at hx0 hx1
    go_wp2_with ((with_reducible refine hcall.mono ?_);rintro e w' ⟨rfl,hb'⟩)
    go_ret2
    exact ⟨by simp [hi],HB.out.trans (hb'.mono HB.out.size)⟩
   ·go_wp2
    go_ret2
    exact ⟨by simp [hi],HB.out⟩
def Gt.f (l0_0:List (S83)) (a1:ByteArray):Option (Int×Bool):=(FE.f l0_0 a1).bind fun a=>(some (a.1,a.2))
theorem Gt.calls (A0_0:Option Addr) (c0_0:Nat) (l0_0:List (S83)) (a1:ByteArray) (r1:Int) (r2:Bool) (w:World) (hr0_0:Kd.C k83 w A0_0 l0_0.length l0_0) (hc0_0:l0_0.length≤c0_0) (h:Gt.f l0_0 a1=some (r1,r2)) :
 Calls Tryz.prog 86 #[.agg #[.slice A0_0 l0_0.length c0_0],.string a1] w fun e w'=>e = .returned (.tuple #[.int .i64 r1,.bool r2])∧Below w.heap.size w w':=by
 have hu43:=Tryz.underlying43
 have ab:=mk0 hr0_0
 have ac:=mk0 hc0_0
 clear hr0_0 hc0_0
 have HB:=mk0 (Below.refl w.heap.size w)
 have H:((FE.f l0_0 a1).bind fun bt358=>(some (bt358.1,bt358.2)))=some (r1,r2):=h
 clear h
 replace H:=ob_ H
 obtain ⟨⟨ae,af⟩,A3,H⟩:=H
 try dsimp only at H
 simp only [Option.some.injEq,Prod.mk.injEq] at H
 obtain ⟨rfl,rfl⟩:=H
 go_enter Tryz.func86,Tryz.ntmps86
 go_wp2_with (first|((with_reducible refine gate_dst (N:=2) rfl ?_);refine bx_ (N:=2) (cs:=#[.slice A0_0 l0_0.length c0_0]) (t:=43) (h:=?_);intro aj hg w4 hbox hb;have ny2_:=mk0 (gz_ HB hg);have ag:=mk0 (gz_ HB hg);replace HB:=mk0 (bt_ (b_ HB) hb);have aa:=mk0 (hbox);have ak:=ny2_;have al:=ag;clear ny2_ ag hb hbox hg;obtain ⟨ah,ai⟩:=c1_ aa)|((with_reducible refine gate_callee (f:=106) rfl ?_);refine gL_ (some 9) Tryz.func106 #[.slice A0_0 l0_0.length c0_0,.string a1,.func (Fn.func 107) #[] #[]] (h:=?_);(with_reducible refine (FE.calls _ _ l0_0 a1  ae af _ ?side1 ?side2 A3.out).mono ?_);(case side1=>exact cb_ ab HB);(case side2=>exact ac.out);rintro e w6 ⟨rfl,hb⟩;refine ⟨_,rfl,?_⟩;replace aa:=mk0 (u_ aa hb);replace HB:=mk0 (bt_ (b_ HB) hb);(try clear hb)))
 go_ret2
 exact ⟨sa_,b_ HB⟩
def F7.f (k:Nat) (l0_0:List (S83)) (a1:ByteArray) (a2:Int):Option (ByteArray×Bool):=(Gt.f l0_0 a1).bind fun a=>(if a.2=true then (if 0≤a.1 then (if a.1<(l0_0.length:Int) then ((FD.f k ((rd_T83 l0_0 a.1).f0) ((rd_T83 l0_0 a.1).f1) a2).bind fun b=>(some (b.2.1,b.2.2.2))) else (none)) else (none)) else (some ((⟨#[]⟩:ByteArray),false)))
theorem F7.mono:∀ a0 a1 a2 k,LeO (F7.f k a0 a1 a2) (F7.f (k + 1) a0 a1 a2):=by
 intro a0 a1 a2 k
 have:=@FD.mono
 unfold F7.f
 exact mz_
theorem F7.calls (k:Nat) (A0_0:Option Addr) (c0_0:Nat) (l0_0:List (S83)) (a1:ByteArray) (a2:Int) (r1:ByteArray) (r2:Bool) (w:World) (hr0_0:Kd.C k83 w A0_0 l0_0.length l0_0) (hc0_0:l0_0.length≤c0_0) (h:F7.f k l0_0 a1 a2=some (r1,r2)) :
 Calls Tryz.prog 62 #[.agg #[.slice A0_0 l0_0.length c0_0],.string a1,.int .i64 a2] w fun e w'=>e = .returned (.tuple #[.string r1,.bool r2])∧Below w.heap.size w w':=by
 have hu43:=Tryz.underlying43
 have hu83:=Tryz.underlying83
 have hu78:=Tryz.underlying78
 have ah:=mk0 hr0_0
 have al:=mk0 hc0_0
 clear hr0_0 hc0_0
 have HB:=mk0 (Below.refl w.heap.size w)
 have H:((Gt.f l0_0 a1).bind fun bt361=>(if bt361.2=true then (if 0≤bt361.1 then (if bt361.1<(l0_0.length:Int) then ((FD.f k ((rd_T83 l0_0 bt361.1).f0) ((rd_T83 l0_0 bt361.1).f1) a2).bind fun bt364=>(some (bt364.2.1,bt364.2.2.2))) else (none)) else (none)) else (some ((⟨#[]⟩:ByteArray),false))))=some (r1,r2):=h
 clear h
 replace H:=ob_ H
 obtain ⟨⟨ab,ay⟩,A4,H⟩:=H
 try dsimp only at H
 by_cases c5:ay=true
 ·subst c5
  rw [if_pos rfl] at H
  by_cases c6:0≤ab
  ·rw [if_pos c6] at H
   have ba:=decide_eq_true c6
   clear c6
   by_cases c7:ab<(l0_0.length:Int)
   ·rw [if_pos c7] at H
    have bb:=decide_eq_true c7
    clear c7
    replace H:=ob_ H
    obtain ⟨⟨az,aA,aC,aD⟩,A8,H⟩:=H
    try dsimp only at H
    simp only [Option.some.injEq,Prod.mk.injEq] at H
    obtain ⟨rfl,rfl⟩:=H
    go_enter Tryz.func62,Tryz.ntmps62
    go_wp2_with (first|((with_reducible refine gate_dst (N:=3) rfl ?_);refine bx_ (N:=3) (cs:=#[.slice A0_0 l0_0.length c0_0]) (t:=43) (h:=?_);intro au hg w9 hbox hb;have ny2_:=mk0 (gz_ HB hg);have ai:=mk0 (gz_ HB hg);replace HB:=mk0 (bt_ (b_ HB) hb);have aa:=mk0 (hbox);have av:=ny2_;have aw:=ai;clear ny2_ ai hb hbox hg;obtain ⟨aE,aG⟩:=c1_ aa)|((with_reducible refine gate_callee (f:=86) rfl ?_);refine gL_ (some 14) Tryz.func86 #[.agg #[.slice A0_0 l0_0.length c0_0],.string a1] (h:=?_);(with_reducible refine (Gt.calls _ _ l0_0 a1 ab true _ ?side1 ?side2 A4.out).mono ?_);(case side1=>exact cb_ ah HB);(case side2=>exact al.out);rintro e bc ⟨rfl,hb⟩;refine ⟨_,rfl,?_⟩;replace aa:=mk0 (u_ aa hb);replace HB:=mk0 (bt_ (b_ HB) hb);(try clear hb);obtain ⟨aH,aI⟩:=c1_ aa;have am:0≤(ab:Int):=od_;have an:ab<(l0_0.length:Int):=od_;obtain ⟨aZ,aq,ar,aJ,ac,ae,af,ag⟩:=at_T83 ah.out ab am an;cases aJ;replace ac:=(bc_ HB ac :);replace ae:=(bc_ HB ae :);have ao:=mk0 ag;have ap:=mk0 af;clear ag af;replace am:=eq_true am;replace an:=eq_true an)|((with_reducible refine gate_callee (f:=75) rfl ?_);refine gL_ (some 26) Tryz.func75 #[.agg #[.string ((rd_T83 l0_0 ab).f0),.slice aq ((rd_T83 l0_0 ab).f1).length ar],.int .i64 a2] (h:=?_);(with_reducible refine (FD.calls k ((rd_T83 l0_0 ab).f0) _ _ ((rd_T83 l0_0 ab).f1) a2 az aA aC aD _ ?side1 ?side2 A8.out).mono ?_);(case side1=>exact cb_ ao HB);(case side2=>exact ap.out);rintro e bd ⟨rfl,hb⟩;refine ⟨_,rfl,?_⟩;replace aa:=mk0 (u_ aa hb);replace HB:=mk0 (bt_ (b_ HB) hb);(try clear hb))|((with_reducible refine gate_dst (N:=10) rfl ?_);refine bx_ (N:=10) (cs:=#[.int .i64 0,.string (⟨#[]⟩:ByteArray),.bool false]) (t:=78) (h:=?_);intro a6 hg be hbox hb;have ai:=mk0 (gz_ HB hg);have aK:=mk0 (gz_ HB hg);have aM:=mk0 (ne1_ aa hg);have aN:=mk0 (ne2_ aa hg);replace aa:=mk0 (u_ aa hb);replace HB:=mk0 (bt_ (b_ HB) hb);have ax:=mk0 (hbox);have a7:=aK;have aj:=aM;have ak:=aN;clear ai aK aM aN hb hbox hg;have a8:=ak.out;have a9:=aj.out;obtain ⟨aP,aQ,aT,aU,aV,aW⟩:=c3_ ax))
    go_ret2
    exact ⟨sa_,b_ HB⟩
   ·rw [if_neg c7] at H
    exact absurd H (by simp)
  ·rw [if_neg c6] at H
   exact absurd H (by simp)
 ·replace c5:=Bool.eq_false_iff.mpr c5
  subst c5
  rw [if_neg nf_] at H
  simp only [Option.some.injEq,Prod.mk.injEq] at H
  obtain ⟨rfl,rfl⟩:=H
  go_enter Tryz.func62,Tryz.ntmps62
  go_wp2_with (first|((with_reducible refine gate_dst (N:=3) rfl ?_);refine bx_ (N:=3) (cs:=#[.slice A0_0 l0_0.length c0_0]) (t:=43) (h:=?_);intro au hg bf hbox hb;have ny2_:=mk0 (gz_ HB hg);have ai:=mk0 (gz_ HB hg);replace HB:=mk0 (bt_ (b_ HB) hb);have aa:=mk0 (hbox);have av:=ny2_;have aw:=ai;clear ny2_ ai hb hbox hg;obtain ⟨aX,aY⟩:=c1_ aa)|((with_reducible refine gate_callee (f:=86) rfl ?_);refine gL_ (some 14) Tryz.func86 #[.agg #[.slice A0_0 l0_0.length c0_0],.string a1] (h:=?_);(with_reducible refine (Gt.calls _ _ l0_0 a1 ab false _ ?side1 ?side2 A4.out).mono ?_);(case side1=>exact cb_ ah HB);(case side2=>exact al.out);rintro e bg ⟨rfl,hb⟩;refine ⟨_,rfl,?_⟩;replace aa:=mk0 (u_ aa hb);replace HB:=mk0 (bt_ (b_ HB) hb);(try clear hb)))
  go_ret2
  exact ⟨sa_,b_ HB⟩
def Ga.f (k:Nat) (l0:List (S43)) (l1_0:List (S72)) (l1_1:List Int) (a2:Int) (a3:ByteArray) (a4:Int):Option (ByteArray×Bool):=(FZ.f l1_0 l1_1 a2 a3).bind fun a=>(if a.2.2.2.2=true then (some (a.2.2.1,!a.2.2.2.1)) else (if 0≤a2 then (if a2<(l0.length:Int) then ((F7.f k ((rd_T43 l0 a2).f0) a3 a4).bind fun b=>(some (b.1,b.2))) else (none)) else (none)))
theorem Ga.mono:∀ a0 a1 a2 a3 a4 a5 k,LeO (Ga.f k a0 a1 a2 a3 a4 a5) (Ga.f (k + 1) a0 a1 a2 a3 a4 a5):=by
 intro a0 a1 a2 a3 a4 a5 k
 have:=@F7.mono
 unfold Ga.f
 exact mz_
theorem Ga.calls (k:Nat) (A0:Option Addr) (c0:Nat) (l0:List (S43)) (A1_0:Option Addr) (c1_0:Nat) (l1_0:List (S72)) (A1_1:Option Addr) (c1_1:Nat) (l1_1:List Int) (a2:Int) (a3:ByteArray) (a4:Int) (r1:ByteArray) (r2:Bool) (w:World) (hr0:Kd.C k43 w A0 l0.length l0) (hc0:l0.length≤c0) (hr1_0:Kd.C k72 w A1_0 l1_0.length l1_0) (hc1_0:l1_0.length≤c1_0) (hr1_1:Kd.C (Kd.int .i64) w A1_1 l1_1.length l1_1) (hc1_1:l1_1.length≤c1_1) (h:Ga.f k l0 l1_0 l1_1 a2 a3 a4=some (r1,r2)) :
 Calls Tryz.prog 40 #[.slice A0 l0.length c0,.agg #[.slice A1_0 l1_0.length c1_0,.slice A1_1 l1_1.length c1_1],.int .i64 a2,.string a3,.int .i64 a4] w fun e w'=>e = .returned (.tuple #[.string r1,.bool r2])∧Below w.heap.size w w':=by
 have hu34:=Tryz.underlying34
 have hu72:=Tryz.underlying72
 have hu43:=Tryz.underlying43
 have HR0:=mk0 hr0
 have HC0:=mk0 hc0
 clear hr0 hc0
 have aE:=mk0 hr1_0
 have aG:=mk0 hc1_0
 clear hr1_0 hc1_0
 have aH:=mk0 hr1_1
 have aI:=mk0 hc1_1
 clear hr1_1 hc1_1
 have HB:=mk0 (Below.refl w.heap.size w)
 have H:((FZ.f l1_0 l1_1 a2 a3).bind fun bt370=>(if bt370.2.2.2.2=true then (some (bt370.2.2.1,!bt370.2.2.2.1)) else (if 0≤a2 then (if a2<(l0.length:Int) then ((F7.f k ((rd_T43 l0 a2).f0) a3 a4).bind fun bt377=>(some (bt377.1,bt377.2))) else (none)) else (none))))=some (r1,r2):=h
 clear h
 replace H:=ob_ H
 obtain ⟨⟨ak,ao,aq,av,bA⟩,A6,H⟩:=H
 try dsimp only at H
 by_cases c7:bA=true
 ·subst c7
  rw [if_pos rfl] at H
  simp only [Option.some.injEq,Prod.mk.injEq] at H
  obtain ⟨rfl,rfl⟩:=H
  go_enter Tryz.func40,Tryz.ntmps40
  go_wp2_with (first|((with_reducible refine gate_dst (N:=6) rfl ?_);refine bx_ (N:=6) (cs:=#[.slice A1_0 l1_0.length c1_0,.slice A1_1 l1_1.length c1_1]) (t:=34) (h:=?_);intro aJ hg w8 hbox hb;have ny2_:=mk0 (gz_ HB hg);have al:=mk0 (gz_ HB hg);replace HB:=mk0 (bt_ (b_ HB) hb);have ab:=mk0 (hbox);have aK:=ny2_;have aM:=al;clear ny2_ al hb hbox hg;obtain ⟨bi,bj,bk,bl⟩:=c2_ ab)|(go_at_call 61;(with_reducible refine (FZ.calls _ _ l1_0 _ _ l1_1 a2 a3 ak ao aq av true _ ?side1 ?side2 ?side3 ?side4 A6.out).mono ?_);(case side1=>exact cb_ aE HB);(case side2=>exact aG.out);(case side3=>exact cb_ aH HB);(case side4=>exact aI.out);rintro e bB ⟨rfl,hb⟩;replace ab:=mk0 (u_ ab hb);replace HB:=mk0 (bt_ (b_ HB) hb);(try clear hb))|((with_reducible refine gate_dst (N:=12) rfl ?_);refine bx_ (N:=12) (cs:=#[.int .i64 0,.string (⟨#[]⟩:ByteArray),.string (⟨#[]⟩:ByteArray),.bool false]) (t:=72) (h:=?_);intro ae hg bC hbox hb;have al:=mk0 (gz_ HB hg);have aw:=mk0 (gz_ HB hg);have ax:=mk0 (ne1_ ab hg);have ay:=mk0 (ne2_ ab hg);replace ab:=mk0 (u_ ab hb);replace HB:=mk0 (bt_ (b_ HB) hb);have am:=mk0 (hbox);have an:=al;have aN:=aw;have ac:=ax;have af:=ay;clear al aw ax ay hb hbox hg;have bo:=af.out;have bp:=ac.out;obtain ⟨aP,aQ,aT,aU,aV,aW,aX,aY⟩:=c4_ am))
  repeat (go_quiet (first|((with_reducible refine gate_dst (N:=6) rfl ?_);refine bx_ (N:=6) (cs:=#[.slice A1_0 l1_0.length c1_0,.slice A1_1 l1_1.length c1_1]) (t:=34) (h:=?_);intro aJ hg w8 hbox hb;have ny2_:=mk0 (gz_ HB hg);have al:=mk0 (gz_ HB hg);replace HB:=mk0 (bt_ (b_ HB) hb);have ab:=mk0 (hbox);have aK:=ny2_;have aM:=al;clear ny2_ al hb hbox hg;obtain ⟨bi,bj,bk,bl⟩:=c2_ ab)|(go_at_call 61;(with_reducible refine (FZ.calls _ _ l1_0 _ _ l1_1 a2 a3 ak ao aq av true _ ?side1 ?side2 ?side3 ?side4 A6.out).mono ?_);(case side1=>exact cb_ aE HB);(case side2=>exact aG.out);(case side3=>exact cb_ aH HB);(case side4=>exact aI.out);rintro e bB ⟨rfl,hb⟩;replace ab:=mk0 (u_ ab hb);replace HB:=mk0 (bt_ (b_ HB) hb);(try clear hb))|((with_reducible refine gate_dst (N:=12) rfl ?_);refine bx_ (N:=12) (cs:=#[.int .i64 0,.string (⟨#[]⟩:ByteArray),.string (⟨#[]⟩:ByteArray),.bool false]) (t:=72) (h:=?_);intro ae hg bC hbox hb;have al:=mk0 (gz_ HB hg);have aw:=mk0 (gz_ HB hg);have ax:=mk0 (ne1_ ab hg);have ay:=mk0 (ne2_ ab hg);replace ab:=mk0 (u_ ab hb);replace HB:=mk0 (bt_ (b_ HB) hb);have am:=mk0 (hbox);have an:=al;have aN:=aw;have ac:=ax;have af:=ay;clear al aw ax ay hb hbox hg;have bo:=af.out;have bp:=ac.out;obtain ⟨aP,aQ,aT,aU,aV,aW,aX,aY⟩:=c4_ am));try go_wp2_with (first|((with_reducible refine gate_dst (N:=6) rfl ?_);refine bx_ (N:=6) (cs:=#[.slice A1_0 l1_0.length c1_0,.slice A1_1 l1_1.length c1_1]) (t:=34) (h:=?_);intro aJ hg w8 hbox hb;have ny2_:=mk0 (gz_ HB hg);have al:=mk0 (gz_ HB hg);replace HB:=mk0 (bt_ (b_ HB) hb);have ab:=mk0 (hbox);have aK:=ny2_;have aM:=al;clear ny2_ al hb hbox hg;obtain ⟨bi,bj,bk,bl⟩:=c2_ ab)|(go_at_call 61;(with_reducible refine (FZ.calls _ _ l1_0 _ _ l1_1 a2 a3 ak ao aq av true _ ?side1 ?side2 ?side3 ?side4 A6.out).mono ?_);(case side1=>exact cb_ aE HB);(case side2=>exact aG.out);(case side3=>exact cb_ aH HB);(case side4=>exact aI.out);rintro e bB ⟨rfl,hb⟩;replace ab:=mk0 (u_ ab hb);replace HB:=mk0 (bt_ (b_ HB) hb);(try clear hb))|((with_reducible refine gate_dst (N:=12) rfl ?_);refine bx_ (N:=12) (cs:=#[.int .i64 0,.string (⟨#[]⟩:ByteArray),.string (⟨#[]⟩:ByteArray),.bool false]) (t:=72) (h:=?_);intro ae hg bC hbox hb;have al:=mk0 (gz_ HB hg);have aw:=mk0 (gz_ HB hg);have ax:=mk0 (ne1_ ab hg);have ay:=mk0 (ne2_ ab hg);replace ab:=mk0 (u_ ab hb);replace HB:=mk0 (bt_ (b_ HB) hb);have am:=mk0 (hbox);have an:=al;have aN:=aw;have ac:=ax;have af:=ay;clear al aw ax ay hb hbox hg;have bo:=af.out;have bp:=ac.out;obtain ⟨aP,aQ,aT,aU,aV,aW,aX,aY⟩:=c4_ am)))
  go_ret2
  exact ⟨sa_,b_ HB⟩
 ·replace c7:=Bool.eq_false_iff.mpr c7
  subst c7
  rw [if_neg nf_] at H
  by_cases bw:0≤a2
  ·rw [if_pos bw] at H
   have bG:=decide_eq_true bw
   clear bw
   by_cases bx:a2<(l0.length:Int)
   ·rw [if_pos bx] at H
    have bH:=decide_eq_true bx
    clear bx
    replace H:=ob_ H
    obtain ⟨⟨bq,br⟩,bz,H⟩:=H
    try dsimp only at H
    simp only [Option.some.injEq,Prod.mk.injEq] at H
    obtain ⟨rfl,rfl⟩:=H
    go_enter Tryz.func40,Tryz.ntmps40
    go_wp2_with (first|((with_reducible refine gate_dst (N:=6) rfl ?_);refine bx_ (N:=6) (cs:=#[.slice A1_0 l1_0.length c1_0,.slice A1_1 l1_1.length c1_1]) (t:=34) (h:=?_);intro aJ hg bD hbox hb;have ny2_:=mk0 (gz_ HB hg);have al:=mk0 (gz_ HB hg);replace HB:=mk0 (bt_ (b_ HB) hb);have ab:=mk0 (hbox);have aK:=ny2_;have aM:=al;clear ny2_ al hb hbox hg;obtain ⟨aZ,a6,a7,a8⟩:=c2_ ab)|(go_at_call 61;(with_reducible refine (FZ.calls _ _ l1_0 _ _ l1_1 a2 a3 ak ao aq av false _ ?side1 ?side2 ?side3 ?side4 A6.out).mono ?_);(case side1=>exact cb_ aE HB);(case side2=>exact aG.out);(case side3=>exact cb_ aH HB);(case side4=>exact aI.out);rintro e bE ⟨rfl,hb⟩;replace ab:=mk0 (u_ ab hb);replace HB:=mk0 (bt_ (b_ HB) hb);(try clear hb))|((with_reducible refine gate_dst (N:=12) rfl ?_);refine bx_ (N:=12) (cs:=#[.int .i64 0,.string (⟨#[]⟩:ByteArray),.string (⟨#[]⟩:ByteArray),.bool false]) (t:=72) (h:=?_);intro ae hg bt hbox hb;have al:=mk0 (gz_ HB hg);have aw:=mk0 (gz_ HB hg);have ax:=mk0 (ne1_ ab hg);have ay:=mk0 (ne2_ ab hg);replace ab:=mk0 (u_ ab hb);replace HB:=mk0 (bt_ (b_ HB) hb);have am:=mk0 (hbox);have an:=al;have aN:=aw;have ac:=ax;have af:=ay;clear al aw ax ay hb hbox hg;have bu:=af.out;have bv:=ac.out;obtain ⟨a9,ba,bb,bc,bd,be,bf,bg⟩:=c4_ am;have az:0≤(a2:Int):=od_;have aA:a2<(l0.length:Int):=od_;obtain ⟨ap,bm,bn,bh,aa,ar,au⟩:=at_T43 HR0.out a2 az aA;cases bh;have ag:ap.block≠ae:=nb_ aa an;have ah:ap.block≠ae:=nb_ aa an;have ai:ap.block≠ae:=nb_ aa an;have aj:ap.block≠ae:=nb_ aa an;replace aa:=(bc_ HB aa :);have aC:=mk0 au;have aD:=mk0 ar;clear au ar;replace aa:=(cell_far (p:=⟨ae,0,none⟩) (by first|(rw [add_block];exact ag)|(show (Addr.add _ _).block≠_;rw [add_block];exact ag)|exact ag) (.int .i64 ak)).trans aa;replace aa:=(cell_far (p:=⟨ae,1,none⟩) (by first|(rw [add_block];exact ah)|(show (Addr.add _ _).block≠_;rw [add_block];exact ah)|exact ah) (.string ao)).trans aa;replace aa:=(cell_far (p:=⟨ae,2,none⟩) (by first|(rw [add_block];exact ai)|(show (Addr.add _ _).block≠_;rw [add_block];exact ai)|exact ai) (.string aq)).trans aa;replace aa:=(cell_far (p:=⟨ae,3,none⟩) (by first|(rw [add_block];exact aj)|(show (Addr.add _ _).block≠_;rw [add_block];exact aj)|exact aj) (.bool av)).trans aa;(try have hy376_0:=fun (n_:Nat)=>(show ((((((bt.drewN n_).setCell ⟨ae,0,none⟩ (.int .i64 ak)).setCell ⟨ae,1,none⟩ (.string ao)).setCell ⟨ae,2,none⟩ (.string aq)).setCell ⟨ae,3,none⟩ (.bool av))).cell? _=some _ from aa));clear ag ah ai aj;replace az:=eq_true az;replace aA:=eq_true aA)|(go_at_call 62;(with_reducible refine (F7.calls k _ _ ((rd_T43 l0 a2).f0) a3 a4 bq br _ ?side1 ?side2 bz.out).mono ?_);(case side1=>exact Kd.C_below aC.out (b_ HB));(case side2=>exact aD.out);rintro e bF ⟨rfl,hb⟩;replace ab:=mk0 (blk_below (fa_ (fa_ (fa_ (fa_ (h_ ab) ac.out) ac.out) ac.out) ac.out) hb);replace am:=mk0 (blk_below (g:=ae) (o:=.cells #[.int .i64 ak,.string ao,.string aq,.bool av] 72 (0,0)) (pu_ (cs:=#[.int .i64 ak,.string ao,.string aq,.bool false]) (pu_ (cs:=#[.int .i64 ak,.string ao,.string (⟨#[]⟩:ByteArray),.bool false]) (pu_ (cs:=#[.int .i64 ak,.string (⟨#[]⟩:ByteArray),.string (⟨#[]⟩:ByteArray),.bool false]) (pu_ (cs:=#[.int .i64 0,.string (⟨#[]⟩:ByteArray),.string (⟨#[]⟩:ByteArray),.bool false]) (h_ am))))) hb);replace HB:=mk0 (bt_ (b_ HB) hb);(try clear hb)))
    repeat (go_quiet (first|((with_reducible refine gate_dst (N:=6) rfl ?_);refine bx_ (N:=6) (cs:=#[.slice A1_0 l1_0.length c1_0,.slice A1_1 l1_1.length c1_1]) (t:=34) (h:=?_);intro aJ hg bD hbox hb;have ny2_:=mk0 (gz_ HB hg);have al:=mk0 (gz_ HB hg);replace HB:=mk0 (bt_ (b_ HB) hb);have ab:=mk0 (hbox);have aK:=ny2_;have aM:=al;clear ny2_ al hb hbox hg;obtain ⟨aZ,a6,a7,a8⟩:=c2_ ab)|(go_at_call 61;(with_reducible refine (FZ.calls _ _ l1_0 _ _ l1_1 a2 a3 ak ao aq av false _ ?side1 ?side2 ?side3 ?side4 A6.out).mono ?_);(case side1=>exact cb_ aE HB);(case side2=>exact aG.out);(case side3=>exact cb_ aH HB);(case side4=>exact aI.out);rintro e bE ⟨rfl,hb⟩;replace ab:=mk0 (u_ ab hb);replace HB:=mk0 (bt_ (b_ HB) hb);(try clear hb))|((with_reducible refine gate_dst (N:=12) rfl ?_);refine bx_ (N:=12) (cs:=#[.int .i64 0,.string (⟨#[]⟩:ByteArray),.string (⟨#[]⟩:ByteArray),.bool false]) (t:=72) (h:=?_);intro ae hg bt hbox hb;have al:=mk0 (gz_ HB hg);have aw:=mk0 (gz_ HB hg);have ax:=mk0 (ne1_ ab hg);have ay:=mk0 (ne2_ ab hg);replace ab:=mk0 (u_ ab hb);replace HB:=mk0 (bt_ (b_ HB) hb);have am:=mk0 (hbox);have an:=al;have aN:=aw;have ac:=ax;have af:=ay;clear al aw ax ay hb hbox hg;have bu:=af.out;have bv:=ac.out;obtain ⟨a9,ba,bb,bc,bd,be,bf,bg⟩:=c4_ am;have az:0≤(a2:Int):=od_;have aA:a2<(l0.length:Int):=od_;obtain ⟨ap,bm,bn,bh,aa,ar,au⟩:=at_T43 HR0.out a2 az aA;cases bh;have ag:ap.block≠ae:=nb_ aa an;have ah:ap.block≠ae:=nb_ aa an;have ai:ap.block≠ae:=nb_ aa an;have aj:ap.block≠ae:=nb_ aa an;replace aa:=(bc_ HB aa :);have aC:=mk0 au;have aD:=mk0 ar;clear au ar;replace aa:=(cell_far (p:=⟨ae,0,none⟩) (by first|(rw [add_block];exact ag)|(show (Addr.add _ _).block≠_;rw [add_block];exact ag)|exact ag) (.int .i64 ak)).trans aa;replace aa:=(cell_far (p:=⟨ae,1,none⟩) (by first|(rw [add_block];exact ah)|(show (Addr.add _ _).block≠_;rw [add_block];exact ah)|exact ah) (.string ao)).trans aa;replace aa:=(cell_far (p:=⟨ae,2,none⟩) (by first|(rw [add_block];exact ai)|(show (Addr.add _ _).block≠_;rw [add_block];exact ai)|exact ai) (.string aq)).trans aa;replace aa:=(cell_far (p:=⟨ae,3,none⟩) (by first|(rw [add_block];exact aj)|(show (Addr.add _ _).block≠_;rw [add_block];exact aj)|exact aj) (.bool av)).trans aa;(try have hy376_0:=fun (n_:Nat)=>(show ((((((bt.drewN n_).setCell ⟨ae,0,none⟩ (.int .i64 ak)).setCell ⟨ae,1,none⟩ (.string ao)).setCell ⟨ae,2,none⟩ (.string aq)).setCell ⟨ae,3,none⟩ (.bool av))).cell? _=some _ from aa));clear ag ah ai aj;replace az:=eq_true az;replace aA:=eq_true aA)|(go_at_call 62;(with_reducible refine (F7.calls k _ _ ((rd_T43 l0 a2).f0) a3 a4 bq br _ ?side1 ?side2 bz.out).mono ?_);(case side1=>exact Kd.C_below aC.out (b_ HB));(case side2=>exact aD.out);rintro e bF ⟨rfl,hb⟩;replace ab:=mk0 (blk_below (fa_ (fa_ (fa_ (fa_ (h_ ab) ac.out) ac.out) ac.out) ac.out) hb);replace am:=mk0 (blk_below (g:=ae) (o:=.cells #[.int .i64 ak,.string ao,.string aq,.bool av] 72 (0,0)) (pu_ (cs:=#[.int .i64 ak,.string ao,.string aq,.bool false]) (pu_ (cs:=#[.int .i64 ak,.string ao,.string (⟨#[]⟩:ByteArray),.bool false]) (pu_ (cs:=#[.int .i64 ak,.string (⟨#[]⟩:ByteArray),.string (⟨#[]⟩:ByteArray),.bool false]) (pu_ (cs:=#[.int .i64 0,.string (⟨#[]⟩:ByteArray),.string (⟨#[]⟩:ByteArray),.bool false]) (h_ am))))) hb);replace HB:=mk0 (bt_ (b_ HB) hb);(try clear hb)));try go_wp2_with (first|((with_reducible refine gate_dst (N:=6) rfl ?_);refine bx_ (N:=6) (cs:=#[.slice A1_0 l1_0.length c1_0,.slice A1_1 l1_1.length c1_1]) (t:=34) (h:=?_);intro aJ hg bD hbox hb;have ny2_:=mk0 (gz_ HB hg);have al:=mk0 (gz_ HB hg);replace HB:=mk0 (bt_ (b_ HB) hb);have ab:=mk0 (hbox);have aK:=ny2_;have aM:=al;clear ny2_ al hb hbox hg;obtain ⟨aZ,a6,a7,a8⟩:=c2_ ab)|(go_at_call 61;(with_reducible refine (FZ.calls _ _ l1_0 _ _ l1_1 a2 a3 ak ao aq av false _ ?side1 ?side2 ?side3 ?side4 A6.out).mono ?_);(case side1=>exact cb_ aE HB);(case side2=>exact aG.out);(case side3=>exact cb_ aH HB);(case side4=>exact aI.out);rintro e bE ⟨rfl,hb⟩;replace ab:=mk0 (u_ ab hb);replace HB:=mk0 (bt_ (b_ HB) hb);(try clear hb))|((with_reducible refine gate_dst (N:=12) rfl ?_);refine bx_ (N:=12) (cs:=#[.int .i64 0,.string (⟨#[]⟩:ByteArray),.string (⟨#[]⟩:ByteArray),.bool false]) (t:=72) (h:=?_);intro ae hg bt hbox hb;have al:=mk0 (gz_ HB hg);have aw:=mk0 (gz_ HB hg);have ax:=mk0 (ne1_ ab hg);have ay:=mk0 (ne2_ ab hg);replace ab:=mk0 (u_ ab hb);replace HB:=mk0 (bt_ (b_ HB) hb);have am:=mk0 (hbox);have an:=al;have aN:=aw;have ac:=ax;have af:=ay;clear al aw ax ay hb hbox hg;have bu:=af.out;have bv:=ac.out;obtain ⟨a9,ba,bb,bc,bd,be,bf,bg⟩:=c4_ am;have az:0≤(a2:Int):=od_;have aA:a2<(l0.length:Int):=od_;obtain ⟨ap,bm,bn,bh,aa,ar,au⟩:=at_T43 HR0.out a2 az aA;cases bh;have ag:ap.block≠ae:=nb_ aa an;have ah:ap.block≠ae:=nb_ aa an;have ai:ap.block≠ae:=nb_ aa an;have aj:ap.block≠ae:=nb_ aa an;replace aa:=(bc_ HB aa :);have aC:=mk0 au;have aD:=mk0 ar;clear au ar;replace aa:=(cell_far (p:=⟨ae,0,none⟩) (by first|(rw [add_block];exact ag)|(show (Addr.add _ _).block≠_;rw [add_block];exact ag)|exact ag) (.int .i64 ak)).trans aa;replace aa:=(cell_far (p:=⟨ae,1,none⟩) (by first|(rw [add_block];exact ah)|(show (Addr.add _ _).block≠_;rw [add_block];exact ah)|exact ah) (.string ao)).trans aa;replace aa:=(cell_far (p:=⟨ae,2,none⟩) (by first|(rw [add_block];exact ai)|(show (Addr.add _ _).block≠_;rw [add_block];exact ai)|exact ai) (.string aq)).trans aa;replace aa:=(cell_far (p:=⟨ae,3,none⟩) (by first|(rw [add_block];exact aj)|(show (Addr.add _ _).block≠_;rw [add_block];exact aj)|exact aj) (.bool av)).trans aa;(try have hy376_0:=fun (n_:Nat)=>(show ((((((bt.drewN n_).setCell ⟨ae,0,none⟩ (.int .i64 ak)).setCell ⟨ae,1,none⟩ (.string ao)).setCell ⟨ae,2,none⟩ (.string aq)).setCell ⟨ae,3,none⟩ (.bool av))).cell? _=some _ from aa));clear ag ah ai aj;replace az:=eq_true az;replace aA:=eq_true aA)|(go_at_call 62;(with_reducible refine (F7.calls k _ _ ((rd_T43 l0 a2).f0) a3 a4 bq br _ ?side1 ?side2 bz.out).mono ?_);(case side1=>exact Kd.C_below aC.out (b_ HB));(case side2=>exact aD.out);rintro e bF ⟨rfl,hb⟩;replace ab:=mk0 (blk_below (fa_ (fa_ (fa_ (fa_ (h_ ab) ac.out) ac.out) ac.out) ac.out) hb);replace am:=mk0 (blk_below (g:=ae) (o:=.cells #[.int .i64 ak,.string ao,.string aq,.bool av] 72 (0,0)) (pu_ (cs:=#[.int .i64 ak,.string ao,.string aq,.bool false]) (pu_ (cs:=#[.int .i64 ak,.string ao,.string (⟨#[]⟩:ByteArray),.bool false]) (pu_ (cs:=#[.int .i64 ak,.string (⟨#[]⟩:ByteArray),.string (⟨#[]⟩:ByteArray),.bool false]) (pu_ (cs:=#[.int .i64 0,.string (⟨#[]⟩:ByteArray),.string (⟨#[]⟩:ByteArray),.bool false]) (h_ am))))) hb);replace HB:=mk0 (bt_ (b_ HB) hb);(try clear hb))))
    go_ret2
    exact ⟨sa_,b_ HB⟩
   ·rw [if_neg bx] at H
    exact absurd H (by simp)
  ·rw [if_neg bw] at H
   exact absurd H (by simp)
def Fq.j0:Nat→List (S43)→Int→ByteArray→Int→Bool→List (S72)→List Int→Option (ByteArray×Int)
 | 0,_,_,_,_,_,_,_=>none
 | k + 1,b,c,d,e,g,h,i=>if g=true then (some ((⟨#[]⟩:ByteArray),1)) else ((Ga.f k b h i c d e).bind fun a=>(if a.2=true then (some (a.1,0)) else (some ((⟨#[]⟩:ByteArray),3))))
def Fq.f (k:Nat) (l0:List (S43)) (l1_0:List (S72)) (l1_1:List Int) (a2:Int) (a3:ByteArray) (a4:Int):Option (ByteArray×Int):=(F1.f k l0 l1_0 l1_1).bind fun a=>(if a=true then ((Gj.f l0 a2).bind fun b=>(if b=true then ((F4.f a3).bind fun c=>(Fq.j0 k l0 a2 a3 a4 (!c) l1_0 l1_1)) else (Fq.j0 k l0 a2 a3 a4 true l1_0 l1_1))) else (Fq.j0 k l0 a2 a3 a4 true l1_0 l1_1))
theorem Fq.mono_l:∀ k,(∀ y0 y1 y2 y3 y4 y5 y6,LeO (Fq.j0 k y0 y1 y2 y3 y4 y5 y6) (Fq.j0 (k + 1) y0 y1 y2 y3 y4 y5 y6))
 | 0=>fun _ _ _ _ _ _ _ r h=>by simp [Fq.j0] at h
 | k + 1=>by
  have ih0:=Fq.mono_l k
  have:=@Ga.mono
  have:=@F1.mono
  all_goals (intros;first|unfold Fq.j0)
  all_goals exact mz_
theorem Fq.mono:∀ a0 a1 a2 a3 a4 a5 k,LeO (Fq.f k a0 a1 a2 a3 a4 a5) (Fq.f (k + 1) a0 a1 a2 a3 a4 a5):=by
 intro a0 a1 a2 a3 a4 a5 k
 have ih0:=Fq.mono_l k
 have:=@Ga.mono
 have:=@F1.mono
 unfold Fq.f
 exact mz_
theorem Fq.calls (k:Nat) (A0:Option Addr) (c0:Nat) (l0:List (S43)) (A1_0:Option Addr) (c1_0:Nat) (l1_0:List (S72)) (A1_1:Option Addr) (c1_1:Nat) (l1_1:List Int) (a2:Int) (a3:ByteArray) (a4:Int) (r1:ByteArray) (r2:Int) (w:World) (hr0:Kd.C k43 w A0 l0.length l0) (hc0:l0.length≤c0) (hr1_0:Kd.C k72 w A1_0 l1_0.length l1_0) (hc1_0:l1_0.length≤c1_0) (hr1_1:Kd.C (Kd.int .i64) w A1_1 l1_1.length l1_1) (hc1_1:l1_1.length≤c1_1) (h:Fq.f k l0 l1_0 l1_1 a2 a3 a4=some (r1,r2)) :
 Calls Tryz.prog 12 #[.slice A0 l0.length c0,.agg #[.slice A1_0 l1_0.length c1_0,.slice A1_1 l1_1.length c1_1],.int .i64 a2,.string a3,.int .i64 a4] w fun e w'=>e = .returned (.tuple #[.string r1,.int .i64 r2])∧Below w.heap.size w w':=by
 have hu34:=Tryz.underlying34
 have HR0:=mk0 hr0
 have HC0:=mk0 hc0
 clear hr0 hc0
 have ab:=mk0 hr1_0
 have ac:=mk0 hc1_0
 clear hr1_0 hc1_0
 have ae:=mk0 hr1_1
 have af:=mk0 hc1_1
 clear hr1_1 hc1_1
 have HB:=mk0 (Below.refl w.heap.size w)
 have H:((F1.f k l0 l1_0 l1_1).bind fun ai=>(if ai=true then ((Gj.f l0 a2).bind fun aj=>(if aj=true then ((F4.f a3).bind fun ah=>(Fq.j0 k l0 a2 a3 a4 (!ah) l1_0 l1_1)) else (Fq.j0 k l0 a2 a3 a4 true l1_0 l1_1))) else (Fq.j0 k l0 a2 a3 a4 true l1_0 l1_1)))=some (r1,r2):=h
 clear h
 have HC6:=mk0 H
 clear H
 go_enter Tryz.func12,Tryz.ntmps12
 go_upto_region 1 with (first|((with_reducible refine gate_dst (N:=6) rfl ?_);refine bx_ (N:=6) (cs:=#[.slice A1_0 l1_0.length c1_0,.slice A1_1 l1_1.length c1_1]) (t:=34) (h:=?_);intro ao hg w7 hbox hb;have ny2_:=mk0 (gz_ HB hg);have ap:=mk0 (gz_ HB hg);replace HB:=mk0 (bt_ (b_ HB) hb);have aa:=mk0 (hbox);have aW:=ny2_;have aX:=ap;clear ny2_ ap;clear hb hbox hg))
 (try simp only [Act.put,List.setIfInBounds_toArray,List.set_cons_zero,List.set_cons_succ])
 go_cut [28] (fun v28 wc=>∃ (kq:Nat) (ag:Bool),v28 = .bool ag∧Fc (Fq.j0 kq l0 a2 a3 a4 ag l1_0 l1_1=some (r1,r2))∧Fc (kq≤k)∧Fc (wc.heap[ao]? = some (.cells #[(.slice A1_0 l1_0.length c1_0),(.slice A1_1 l1_1.length c1_1)] 34 (0,0)))∧Fc (Below w.heap.size w wc))
 case first=>
  have H:=HC6.out
  clear HC6
  replace H:=ob_ H
  obtain ⟨ai,A8,H⟩:=H
  try dsimp only at H
  by_cases c9:ai=true
  ·subst c9
   rw [if_pos rfl] at H
   replace H:=ob_ H
   obtain ⟨aj,aq,H⟩:=H
   try dsimp only at H
   by_cases ak:aj=true
   ·subst ak
    rw [if_pos rfl] at H
    replace H:=ob_ H
    obtain ⟨ah,aY,H⟩:=H
    try dsimp only at H
    have H':=mk0 H
    clear H
    obtain ⟨ar,au,av,aw⟩:=c2_ aa
    go_wp2_with (first|((with_reducible refine gate_callee (f:=37) rfl ?_);refine gL_ (some 16) Tryz.func37 #[.slice A0 l0.length c0,.agg #[.slice A1_0 l1_0.length c1_0,.slice A1_1 l1_1.length c1_1]] (h:=?_);(with_reducible refine (F1.calls k _ _ l0 _ _ l1_0 _ _ l1_1 true _ ?side1 ?side2 ?side3 ?side4 ?side5 ?side6 A8.out).mono ?_);(case side1=>exact cb_ HR0 HB);(case side2=>exact HC0.out);(case side3=>exact cb_ ab HB);(case side4=>exact ac.out);(case side5=>exact cb_ ae HB);(case side6=>exact af.out);rintro e aZ ⟨rfl,hb⟩;refine ⟨_,rfl,?_⟩;replace aa:=mk0 (u_ aa hb);replace HB:=mk0 (bt_ (b_ HB) hb);(try clear hb))|(go_at_call 38;(with_reducible refine (Gj.calls _ _ l0 a2 true _ ?side1 ?side2 aq.out).mono ?_);(case side1=>exact cb_ HR0 HB);(case side2=>exact HC0.out);rintro e w' ⟨rfl,⟨nd,rfl⟩⟩)|(go_at_call 39;(with_reducible refine (F4.calls a3 ah _ aY.out).mono ?_);rintro e w' ⟨rfl,⟨nd,rfl⟩⟩))
    go_meet
    case rel=>exact ⟨_,(!ah),sm_,H',⟨by first|omega|exact Nat.le_refl _⟩,⟨h_ aa⟩,⟨b_ HB⟩⟩
   ·replace ak:=Bool.eq_false_iff.mpr ak
    subst ak
    rw [if_neg nf_] at H
    have H':=mk0 H
    clear H
    obtain ⟨ax,ay,az,aA⟩:=c2_ aa
    go_wp2_with (first|((with_reducible refine gate_callee (f:=37) rfl ?_);refine gL_ (some 16) Tryz.func37 #[.slice A0 l0.length c0,.agg #[.slice A1_0 l1_0.length c1_0,.slice A1_1 l1_1.length c1_1]] (h:=?_);(with_reducible refine (F1.calls k _ _ l0 _ _ l1_0 _ _ l1_1 true _ ?side1 ?side2 ?side3 ?side4 ?side5 ?side6 A8.out).mono ?_);(case side1=>exact cb_ HR0 HB);(case side2=>exact HC0.out);(case side3=>exact cb_ ab HB);(case side4=>exact ac.out);(case side5=>exact cb_ ae HB);(case side6=>exact af.out);rintro e a6 ⟨rfl,hb⟩;refine ⟨_,rfl,?_⟩;replace aa:=mk0 (u_ aa hb);replace HB:=mk0 (bt_ (b_ HB) hb);(try clear hb))|(go_at_call 38;(with_reducible refine (Gj.calls _ _ l0 a2 false _ ?side1 ?side2 aq.out).mono ?_);(case side1=>exact cb_ HR0 HB);(case side2=>exact HC0.out);rintro e w' ⟨rfl,⟨nd,rfl⟩⟩))
    go_meet
    case rel=>exact ⟨_,(true),sm_,H',⟨by first|omega|exact Nat.le_refl _⟩,⟨h_ aa⟩,⟨b_ HB⟩⟩
  ·replace c9:=Bool.eq_false_iff.mpr c9
   subst c9
   rw [if_neg nf_] at H
   have H':=mk0 H
   clear H
   obtain ⟨aC,aD,aE,aG⟩:=c2_ aa
   go_wp2_with (first|((with_reducible refine gate_callee (f:=37) rfl ?_);refine gL_ (some 16) Tryz.func37 #[.slice A0 l0.length c0,.agg #[.slice A1_0 l1_0.length c1_0,.slice A1_1 l1_1.length c1_1]] (h:=?_);(with_reducible refine (F1.calls k _ _ l0 _ _ l1_0 _ _ l1_1 false _ ?side1 ?side2 ?side3 ?side4 ?side5 ?side6 A8.out).mono ?_);(case side1=>exact cb_ HR0 HB);(case side2=>exact HC0.out);(case side3=>exact cb_ ab HB);(case side4=>exact ac.out);(case side5=>exact cb_ ae HB);(case side6=>exact af.out);rintro e a7 ⟨rfl,hb⟩;refine ⟨_,rfl,?_⟩;replace aa:=mk0 (u_ aa hb);replace HB:=mk0 (bt_ (b_ HB) hb);(try clear hb)))
   go_meet
   case rel=>exact ⟨_,(true),sm_,H',⟨by first|omega|exact Nat.le_refl _⟩,⟨h_ aa⟩,⟨b_ HB⟩⟩
 case rest=>
  clear HC6
  obtain ⟨kq,ag,rfl,HA,a8,aa,HB⟩:=hcut
  cases kq with
  | zero=>exact absurd HA.out (by simp [Fq.j0])
  | succ aH=>
   have H:=HA.out
   clear HA
   simp only [Fq.j0] at H
   as_aux_lemma=>
    by_cases al:ag=true
    ·subst al
     rw [if_pos rfl] at H
     simp only [Option.some.injEq,Prod.mk.injEq] at H
     obtain ⟨rfl,rfl⟩:=H
     go_wp2
     go_ret2
     exact ⟨sa_,b_ HB⟩
    ·replace al:=Bool.eq_false_iff.mpr al
     subst al
     rw [if_neg nf_] at H
     replace H:=ob_ H
     obtain ⟨⟨an,aI⟩,aJ,H⟩:=H
     try dsimp only at H
     by_cases am:aI=true
     ·subst am
      rw [if_pos rfl] at H
      simp only [Option.some.injEq,Prod.mk.injEq] at H
      obtain ⟨rfl,rfl⟩:=H
      obtain ⟨aK,aM,aN,aP⟩:=c2_ aa
      go_wp2_with (first|((with_reducible refine gate_callee (f:=40) rfl ?_);refine gL_ (some 35) Tryz.func40 #[.slice A0 l0.length c0,.agg #[.slice A1_0 l1_0.length c1_0,.slice A1_1 l1_1.length c1_1],.int .i64 a2,.string a3,.int .i64 a4] (h:=?_);(with_reducible refine (Ga.calls aH _ _ l0 _ _ l1_0 _ _ l1_1 a2 a3 a4 an true _ ?side1 ?side2 ?side3 ?side4 ?side5 ?side6 aJ.out).mono ?_);(case side1=>exact cb_ HR0 HB);(case side2=>exact HC0.out);(case side3=>exact cb_ ab HB);(case side4=>exact ac.out);(case side5=>exact cb_ ae HB);(case side6=>exact af.out);rintro e a9 ⟨rfl,hb⟩;refine ⟨_,rfl,?_⟩;replace aa:=mk0 (u_ aa hb);replace HB:=mk0 (bt_ (b_ HB) hb);(try clear hb)))
      go_ret2
      exact ⟨sa_,b_ HB⟩
     ·replace am:=Bool.eq_false_iff.mpr am
      subst am
      rw [if_neg nf_] at H
      simp only [Option.some.injEq,Prod.mk.injEq] at H
      obtain ⟨rfl,rfl⟩:=H
      obtain ⟨aQ,aT,aU,aV⟩:=c2_ aa
      go_wp2_with (first|((with_reducible refine gate_callee (f:=40) rfl ?_);refine gL_ (some 35) Tryz.func40 #[.slice A0 l0.length c0,.agg #[.slice A1_0 l1_0.length c1_0,.slice A1_1 l1_1.length c1_1],.int .i64 a2,.string a3,.int .i64 a4] (h:=?_);(with_reducible refine (Ga.calls aH _ _ l0 _ _ l1_0 _ _ l1_1 a2 a3 a4 an false _ ?side1 ?side2 ?side3 ?side4 ?side5 ?side6 aJ.out).mono ?_);(case side1=>exact cb_ HR0 HB);(case side2=>exact HC0.out);(case side3=>exact cb_ ab HB);(case side4=>exact ac.out);(case side5=>exact cb_ ae HB);(case side6=>exact af.out);rintro e ba ⟨rfl,hb⟩;refine ⟨_,rfl,?_⟩;replace aa:=mk0 (u_ aa hb);replace HB:=mk0 (bt_ (b_ HB) hb);(try clear hb)))
      go_ret2
      exact ⟨sa_,b_ HB⟩
def F0.f (a0:Int):Option (Int):=some a0
theorem F0.calls (a0:Int) (r:Int) (w:World) (h:F0.f a0=some r) :
 Calls Tryz.prog 15 #[.int .i64 a0] w fun e w'=>e = .returned (.int .i64 r)∧Drawn0 w w':=by
 have H:(some a0)=some r:=h
 clear h
 obtain rfl:=Option.some.inj H
 go_enter Tryz.func15,Tryz.ntmps15
 go_wp2
 go_ret
 exact ⟨by first|rfl|(simp;done)|(simp [*];done),by repeat (first|exact Drawn0.refl _|apply Drawn0.step)⟩
def FI.j0:Nat→Bool→ByteArray→ByteArray→Bool→Option (Bool)
 | 0,_,_,_,_=>none
 | k + 1,b,c,a,d=>if b=true then (some false) else (if d=true then (some (a.toList == ([]:List UInt8))) else (some (!(Op.bytesLess a.toList c.toList))))
def FI.f (k:Nat) (a0_0:ByteArray) (a0_1:ByteArray) (a0_2:Bool):Option (Bool):=if (a0_0.size:Int) > 13 then (FI.j0 k true a0_0 a0_1 a0_2) else (FI.j0 k (decide ((a0_1.size:Int) > 13)) a0_0 a0_1 a0_2)
theorem FI.mono_l:∀ k,(∀ y0 y1 y2 y3,LeO (FI.j0 k y0 y1 y2 y3) (FI.j0 (k + 1) y0 y1 y2 y3))
 | 0=>fun _ _ _ _ r h=>by simp [FI.j0] at h
 | k + 1=>by
  have ih0:=FI.mono_l k
  all_goals (intros;first|unfold FI.j0)
  all_goals exact mz_
theorem FI.mono:∀ a0 a1 a2 k,LeO (FI.f k a0 a1 a2) (FI.f (k + 1) a0 a1 a2):=by
 intro a0 a1 a2 k
 have ih0:=FI.mono_l k
 unfold FI.f
 exact mz_
theorem FI.calls (k:Nat) (a0_0:ByteArray) (a0_1:ByteArray) (a0_2:Bool) (r:Bool) (w:World) (h:FI.f k a0_0 a0_1 a0_2=some r) :
 Calls Tryz.prog 63 #[.agg #[.string a0_0,.string a0_1,.bool a0_2]] w fun e w'=>e = .returned (.bool r)∧Below w.heap.size w w':=by
 have hu55:=Tryz.underlying55
 have HB:=mk0 (Below.refl w.heap.size w)
 have H:(if (a0_0.size:Int) > 13 then (FI.j0 k true a0_0 a0_1 a0_2) else (FI.j0 k (decide ((a0_1.size:Int) > 13)) a0_0 a0_1 a0_2))=some r:=h
 clear h
 have HC2:=mk0 H
 clear H
 go_enter Tryz.func63,Tryz.ntmps63
 go_upto_region 1 with (first|((with_reducible refine gate_dst (N:=1) rfl ?_);(try (refine gate_guard (by rfl) ?_;dsimp only));refine bx_ (N:=1) (cs:=#[.string a0_0,.string a0_1,.bool a0_2]) (t:=55) (h:=?_);intro ae hg w3 hbox hb;have ny2_:=mk0 (gz_ HB hg);have af:=mk0 (gz_ HB hg);replace HB:=mk0 (bt_ (b_ HB) hb);have aa:=mk0 (hbox);have aJ:=ny2_;have aK:=af;clear ny2_ af;clear hb hbox hg))
 (try simp only [Act.put,List.setIfInBounds_toArray,List.set_cons_zero,List.set_cons_succ])
 go_cut [12] (fun v12 wc=>∃ (kq:Nat) (ab:Bool),v12 = .bool ab∧Fc (FI.j0 kq ab a0_0 a0_1 a0_2=some r)∧Fc (kq≤k)∧Fc (wc.heap[ae]? = some (.cells #[.string a0_0,.string a0_1,.bool a0_2] 55 (0,0)))∧Fc (Below w.heap.size w wc))
 case first=>
  have H:=HC2.out
  clear HC2
  by_cases c4:(a0_0.size:Int) > 13
  ·rw [if_pos c4] at H
   have ac:=decide_eq_true c4
   have ag:decide (13<a0_0.size)=true:=decide_eq_true (by omega)
   clear c4
   (first|rw [ac]|(simp only [i64_w,i32_w];rw [ac])|skip)
   have H':=mk0 H
   clear H
   obtain ⟨an,ao,ap,aq,ar,au⟩:=c3_ aa
   go_wp2
   go_meet
   case rel=>exact ⟨_,(true),sm_,H',⟨by first|omega|exact Nat.le_refl _⟩,⟨h_ aa⟩,⟨b_ HB⟩⟩
  ·rw [if_neg c4] at H
   have ac:=decide_eq_false c4
   have ag:decide (13<a0_0.size)=false:=decide_eq_false (by omega)
   clear c4
   (first|rw [ac]|(simp only [i64_w,i32_w];rw [ac])|skip)
   have H':=mk0 H
   clear H
   obtain ⟨av,aw,ax,ay,az,aA⟩:=c3_ aa
   go_wp2
   go_meet
   case rel=>exact ⟨_,(decide ((a0_1.size:Int) > 13)),sm_,H',⟨by first|omega|exact Nat.le_refl _⟩,⟨h_ aa⟩,⟨b_ HB⟩⟩
 case rest=>
  clear HC2
  obtain ⟨kq,ab,rfl,HA,aM,aa,HB⟩:=hcut
  cases kq with
  | zero=>exact absurd HA.out (by simp [FI.j0])
  | succ aN=>
   have H:=HA.out
   clear HA
   simp only [FI.j0] at H
   as_aux_lemma=>
    by_cases c7:ab=true
    ·subst c7
     rw [if_pos rfl] at H
     obtain rfl:=Option.some.inj H
     go_wp2
     go_ret
     exact ⟨sa_,b_ HB⟩
    ·replace c7:=Bool.eq_false_iff.mpr c7
     subst c7
     rw [if_neg nf_] at H
     by_cases c8:a0_2=true
     ·subst c8
      rw [if_pos rfl] at H
      obtain rfl:=Option.some.inj H
      obtain ⟨aC,aD,aE,aG,aH,aI⟩:=c3_ aa
      go_wp2
      go_ret
      exact ⟨sa_,b_ HB⟩
     ·replace c8:=Bool.eq_false_iff.mpr c8
      subst c8
      rw [if_neg nf_] at H
      obtain rfl:=Option.some.inj H
      obtain ⟨ah,ai,aj,ak,al,am⟩:=c3_ aa
      go_wp2
      go_ret
      exact ⟨sa_,b_ HB⟩
def Ge.f (k:Nat) (a0_0:ByteArray) (a0_1:ByteArray) (a0_2:Bool) (a1:Int):Option (Bool):=(FI.f k a0_0 a0_1 a0_2).bind fun a=>(if a=true then (if a1≥0 then (some (decide (a1≤1073741824))) else (some false)) else (some false))
theorem Ge.mono:∀ a0 a1 a2 a3 k,LeO (Ge.f k a0 a1 a2 a3) (Ge.f (k + 1) a0 a1 a2 a3):=by
 intro a0 a1 a2 a3 k
 have:=@FI.mono
 unfold Ge.f
 exact mz_
theorem Ge.calls (k:Nat) (a0_0:ByteArray) (a0_1:ByteArray) (a0_2:Bool) (a1:Int) (r:Bool) (w:World) (h:Ge.f k a0_0 a0_1 a0_2 a1=some r) :
 Calls Tryz.prog 42 #[.agg #[.string a0_0,.string a0_1,.bool a0_2],.int .i64 a1] w fun e w'=>e = .returned (.bool r)∧Below w.heap.size w w':=by
 have hu55:=Tryz.underlying55
 have HB:=mk0 (Below.refl w.heap.size w)
 have H:((FI.f k a0_0 a0_1 a0_2).bind fun ac=>(if ac=true then (if a1≥0 then (some (decide (a1≤1073741824))) else (some false)) else (some false)))=some r:=h
 clear h
 replace H:=ob_ H
 obtain ⟨ac,A3,H⟩:=H
 try dsimp only at H
 by_cases c4:ac=true
 ·subst c4
  rw [if_pos rfl] at H
  by_cases c5:a1≥0
  ·rw [if_pos c5] at H
   have ah:=decide_eq_true c5
   clear c5
   obtain rfl:=Option.some.inj H
   go_enter Tryz.func42,Tryz.ntmps42
   go_wp2_with (first|((with_reducible refine gate_dst (N:=2) rfl ?_);refine bx_ (N:=2) (cs:=#[.string a0_0,.string a0_1,.bool a0_2]) (t:=55) (h:=?_);intro ae hg w6 hbox hb;have ny2_:=mk0 (gz_ HB hg);have ab:=mk0 (gz_ HB hg);replace HB:=mk0 (bt_ (b_ HB) hb);have aa:=mk0 (hbox);have af:=ny2_;have ag:=ab;clear ny2_ ab hb hbox hg;obtain ⟨aw,ax,ay,az,aA,aC⟩:=c3_ aa)|((with_reducible refine gate_callee (f:=63) rfl ?_);refine gL_ (some 6) Tryz.func63 #[.agg #[.string a0_0,.string a0_1,.bool a0_2]] (h:=?_);(with_reducible refine (FI.calls k a0_0 a0_1 a0_2 true _ A3.out).mono ?_);rintro e w8 ⟨rfl,hb⟩;refine ⟨_,rfl,?_⟩;replace aa:=mk0 (u_ aa hb);replace HB:=mk0 (bt_ (b_ HB) hb);(try clear hb)))
   go_ret
   exact ⟨sa_,b_ HB⟩
  ·rw [if_neg c5] at H
   have ah:=decide_eq_false c5
   clear c5
   obtain rfl:=Option.some.inj H
   go_enter Tryz.func42,Tryz.ntmps42
   go_wp2_with (first|((with_reducible refine gate_dst (N:=2) rfl ?_);refine bx_ (N:=2) (cs:=#[.string a0_0,.string a0_1,.bool a0_2]) (t:=55) (h:=?_);intro ae hg w9 hbox hb;have ny2_:=mk0 (gz_ HB hg);have ab:=mk0 (gz_ HB hg);replace HB:=mk0 (bt_ (b_ HB) hb);have aa:=mk0 (hbox);have af:=ny2_;have ag:=ab;clear ny2_ ab hb hbox hg;obtain ⟨ai,aj,ak,al,am,an⟩:=c3_ aa)|((with_reducible refine gate_callee (f:=63) rfl ?_);refine gL_ (some 6) Tryz.func63 #[.agg #[.string a0_0,.string a0_1,.bool a0_2]] (h:=?_);(with_reducible refine (FI.calls k a0_0 a0_1 a0_2 true _ A3.out).mono ?_);rintro e aD ⟨rfl,hb⟩;refine ⟨_,rfl,?_⟩;replace aa:=mk0 (u_ aa hb);replace HB:=mk0 (bt_ (b_ HB) hb);(try clear hb)))
   go_ret
   exact ⟨sa_,b_ HB⟩
 ·replace c4:=Bool.eq_false_iff.mpr c4
  subst c4
  rw [if_neg nf_] at H
  obtain rfl:=Option.some.inj H
  go_enter Tryz.func42,Tryz.ntmps42
  go_wp2_with (first|((with_reducible refine gate_dst (N:=2) rfl ?_);refine bx_ (N:=2) (cs:=#[.string a0_0,.string a0_1,.bool a0_2]) (t:=55) (h:=?_);intro ae hg aE hbox hb;have ny2_:=mk0 (gz_ HB hg);have ab:=mk0 (gz_ HB hg);replace HB:=mk0 (bt_ (b_ HB) hb);have aa:=mk0 (hbox);have af:=ny2_;have ag:=ab;clear ny2_ ab hb hbox hg;obtain ⟨ao,ap,aq,ar,au,av⟩:=c3_ aa)|((with_reducible refine gate_callee (f:=63) rfl ?_);refine gL_ (some 6) Tryz.func63 #[.agg #[.string a0_0,.string a0_1,.bool a0_2]] (h:=?_);(with_reducible refine (FI.calls k a0_0 a0_1 a0_2 false _ A3.out).mono ?_);rintro e aG ⟨rfl,hb⟩;refine ⟨_,rfl,?_⟩;replace aa:=mk0 (u_ aa hb);replace HB:=mk0 (bt_ (b_ HB) hb);(try clear hb)))
  go_ret
  exact ⟨sa_,b_ HB⟩
def Gw.f (l0:List (S50)):Option (List (S50)):=if l0.length<4398046511104 then some l0 else none
theorem kd_empty_50 (w:World):k50.R 50 (w.alloc (.cells #[] 50)) w.heap.size (fun _=>True) (.slice (some ⟨w.heap.size,0,none⟩) 0 0) []:=by
 refine ⟨fun _ _=>trivial,[],⟨by simp,.inr ⟨w.heap.size,0,#[],rfl,Nat.le_refl _,heap_alloc_new w _,Nat.le_refl _,by decide,by simp,by simp⟩⟩,?_⟩
 exact Reps.none _ _
set_option maxHeartbeats 800000 in
set_option maxRecDepth 100000 in
theorem Gw.calls (A0:Option Addr) (c0:Nat) (l0:List (S50)) (r:List (S50)) (w:World) (hr0:Kd.C k50 w A0 l0.length l0) (hc0:l0.length≤c0) (h:Gw.f l0=some r) :
 Calls Tryz.prog 65 #[.slice A0 l0.length c0] w fun e w'=>∃ v0_:Value,e = .returned (v0_)∧Kd.R k50 50 w' w.heap.size (fun _=>True) v0_ r∧Below w.heap.size w w':=by
 have HC0:=Aside0.mk hc0
 clear hc0
 unfold Gw.f at h
 split at h
 ·obtain rfl:=Option.some.inj h
  rename_i hlt
  clear h
  rcases A0 with _|ad
  ·have hl:l0=[]:=by
    rcases Nat.eq_zero_or_pos l0.length with h0|h0
    ·exact List.eq_nil_of_length_eq_zero h0
    ·obtain ⟨ad,e,_⟩:=hr0.2.2 h0
     cases e
   subst hl
   have HN:=fun w:World=>Lib.run_eql_slice_nil (P:=Tryz.prog) w 38 50 none 0 c0 0 0 Tryz.underlying38
   go_enter Tryz.func65,Tryz.ntmps65
   go_wp2
   go_ret
   exact ⟨_,rfl,Kd.R_nil _ _ _ _ _,Below.refl _ _⟩
  ·have HN:=fun w:World=>Lib.run_eql_slice_nil (P:=Tryz.prog) w 38 50 (some ad) l0.length c0 0 0 Tryz.underlying38
   have HR0:=Aside0.mk hr0
   clear hr0
   have HO:=Aside0.mk (kd_empty_50 w)
   go_enter Tryz.func65,Tryz.ntmps65
   go_wp2_with (first|((with_reducible refine gate_builtin (b:=.append) (xs:=#[.tmp 5,.tmp 6]) rfl ?_);at_builtin;refine Kd.R_append_rows k50 (w0:=w) w.heap.size rfl (.tmp 5) (.tmp 6) 38 50 (.agg #[(.string ⟨#[]⟩),(.string ⟨#[]⟩)]) 32 rfl Tryz.underlying38 info50 rfl (by decide) (by omega) (.slice (some ⟨w.heap.size,0,none⟩) 0 0) ([]:List (S50)) l0 _ _ _ (fun _=>True) (fun _=>False) rfl rfl ?aO ?aR (fun _ _ h=>h) (fun _ h=>h.elim) ?aF ?aB ?aS ?aL ?_;(case aR=>exact (Kd.C_below HR0.out (below_alloc (Below.refl _ _) _)));(case aB=>exact (below_alloc (Below.refl _ _) _));(case aF=>exact (fun _ _=>trivial));(case aO=>exact HO.out);(case aS=>simp);(case aL=>simp;omega);intro v1 w1 ho hb hg hat;clear hg hat))
   go_ret
   exact ⟨_,rfl,ho,hb⟩
 ·cases h
def GB.f (l0:List S50) (a1_0:ByteArray) (a1_1:ByteArray) (a1_2:Bool) (a2:Int) (a3:Bool):Option (List S50):=if l0.length<4398046511104∧0≤a2 then some (HSome.someOf l0 a1_0 a1_1 a1_2 a2 a3) else none
theorem GB.calls (A0:Option Addr) (c0:Nat) (l0:List S50) (a1_0:ByteArray) (a1_1:ByteArray) (a1_2:Bool) (a2:Int) (a3:Bool) (r:List S50) (w:World) (hr0:Kd.C k50 w A0 l0.length l0) (hc0:l0.length≤c0) (h:GB.f l0 a1_0 a1_1 a1_2 a2 a3=some r) :
 Calls Tryz.prog 43 #[.slice A0 l0.length c0,.agg #[.string a1_0,.string a1_1,.bool a1_2],.int .i64 a2,.bool a3] w fun e w'=>∃ v0_:Value,e = .returned (v0_)∧Kd.R k50 50 w' w.heap.size (fun _=>True) v0_ r∧Below w.heap.size w w':=
 HSome.some_calls A0 c0 l0 a1_0 a1_1 a1_2 a2 a3 r w hr0 hc0 h
def GD.f (l0:List (S72)):Option (List (S72)):=if l0.length<2932031007402 then some l0 else none
theorem kd_empty_72 (w:World):k72.R 72 (w.alloc (.cells #[] 72)) w.heap.size (fun _=>True) (.slice (some ⟨w.heap.size,0,none⟩) 0 0) []:=by
 refine ⟨fun _ _=>trivial,[],⟨by simp,.inr ⟨w.heap.size,0,#[],rfl,Nat.le_refl _,heap_alloc_new w _,Nat.le_refl _,by decide,by simp,by simp⟩⟩,?_⟩
 exact Reps.none _ _
set_option maxHeartbeats 800000 in
set_option maxRecDepth 100000 in
theorem GD.calls (A0:Option Addr) (c0:Nat) (l0:List (S72)) (r:List (S72)) (w:World) (hr0:Kd.C k72 w A0 l0.length l0) (hc0:l0.length≤c0) (h:GD.f l0=some r) :
 Calls Tryz.prog 89 #[.slice A0 l0.length c0] w fun e w'=>∃ v0_:Value,e = .returned (v0_)∧Kd.R k72 72 w' w.heap.size (fun _=>True) v0_ r∧Below w.heap.size w w':=by
 have HC0:=Aside0.mk hc0
 clear hc0
 unfold GD.f at h
 split at h
 ·obtain rfl:=Option.some.inj h
  rename_i hlt
  clear h
  rcases A0 with _|ad
  ·have hl:l0=[]:=by
    rcases Nat.eq_zero_or_pos l0.length with h0|h0
    ·exact List.eq_nil_of_length_eq_zero h0
    ·obtain ⟨ad,e,_⟩:=hr0.2.2 h0
     cases e
   subst hl
   have HN:=fun w:World=>Lib.run_eql_slice_nil (P:=Tryz.prog) w 32 72 none 0 c0 0 0 Tryz.underlying32
   go_enter Tryz.func89,Tryz.ntmps89
   go_wp2
   go_ret
   exact ⟨_,rfl,Kd.R_nil _ _ _ _ _,Below.refl _ _⟩
  ·have HN:=fun w:World=>Lib.run_eql_slice_nil (P:=Tryz.prog) w 32 72 (some ad) l0.length c0 0 0 Tryz.underlying32
   have HR0:=Aside0.mk hr0
   clear hr0
   have HO:=Aside0.mk (kd_empty_72 w)
   go_enter Tryz.func89,Tryz.ntmps89
   go_wp2_with (first|((with_reducible refine gate_builtin (b:=.append) (xs:=#[.tmp 5,.tmp 6]) rfl ?_);at_builtin;refine Kd.R_append_rows k72 (w0:=w) w.heap.size rfl (.tmp 5) (.tmp 6) 32 72 (.agg #[(.int .i64 0),(.string ⟨#[]⟩),(.string ⟨#[]⟩),(.bool false)]) 48 rfl Tryz.underlying32 info72 rfl (by decide) (by omega) (.slice (some ⟨w.heap.size,0,none⟩) 0 0) ([]:List (S72)) l0 _ _ _ (fun _=>True) (fun _=>False) rfl rfl ?aO ?aR (fun _ _ h=>h) (fun _ h=>h.elim) ?aF ?aB ?aS ?aL ?_;(case aR=>exact (Kd.C_below HR0.out (below_alloc (Below.refl _ _) _)));(case aB=>exact (below_alloc (Below.refl _ _) _));(case aF=>exact (fun _ _=>trivial));(case aO=>exact HO.out);(case aS=>simp);(case aL=>simp;omega);intro v1 w1 ho hb hg hat;clear hg hat))
   go_ret
   exact ⟨_,rfl,ho,hb⟩
 ·cases h
-- NOT PRINTED: function 115 (api_Write_115)
-- NOT PRINTED: function 118 (api_Write_118)
-- NOT PRINTED: function 117 (api_Write_117)
-- NOT PRINTED: function 116 (api_Write_116)
-- NOT PRINTED: function 108 (api_Write_108)
-- NOT PRINTED: function 91 (api_Write_91)
def F2.l0:Nat→Int→List Int→Int→Int→Option (Int)
 | 0,_,_,_,_=>none
 | k + 1,c,b,d,a=>if a<d then (if 0≤a then (if a<(b.length:Int) then (if (rd b a)=c then (F2.l0 k c b d (wrap64 (a + 1))) else (some (rd b a))) else (none)) else (none)) else (some c)
def F2.f (k:Nat) (l0:List Int):Option (Int):=F2.l0 k 0 l0 (l0.length:Int) 0
theorem F2.mono_l:∀ k,(∀ y0 y1 y2 y3,LeO (F2.l0 k y0 y1 y2 y3) (F2.l0 (k + 1) y0 y1 y2 y3))
 | 0=>fun _ _ _ _ r h=>by simp [F2.l0] at h
 | k + 1=>by
  have ih0:=F2.mono_l k
  all_goals (intros;first|unfold F2.l0)
  all_goals exact mz_
theorem F2.mono:∀ a0 k,LeO (F2.f k a0) (F2.f (k + 1) a0):=by
 intro a0 k
 have ih0:=F2.mono_l k
 unfold F2.f
 exact mz_
theorem F2.calls (k:Nat) (A0:Option Addr) (c0:Nat) (l0:List Int) (r:Int) (w:World) (hr0:Kd.C (Kd.int .i64) w A0 l0.length l0) (hc0:l0.length≤c0) (h:F2.f k l0=some r) :
 Calls Tryz.prog 109 #[.slice A0 l0.length c0] w fun e w'=>e = .returned (.int .i64 r)∧Drawn0 w w':=by
 have HR0:=mk0 hr0
 have HC0:=mk0 hc0
 clear hr0 hc0
 have H:(F2.l0 k 0 l0 (l0.length:Int) 0)=some r:=h
 clear h
 have H':=mk0 H
 clear H
 go_enter Tryz.func109,Tryz.ntmps109
 go_wp2
 go_loopg [8] k (fun kq v8 w'=>∃ (aa:Int),v8 = .int .i64 aa∧Fc (F2.l0 kq 0 l0 (l0.length:Int) aa=some r)∧Fc (kq≤k)∧Drawn0 w w')
 case atStart=>exact ⟨(0),sm_,H',⟨Nat.le_refl _⟩,by repeat (first|exact Drawn0.refl _|apply Drawn0.step)⟩
 case round=>
  clear H'
  obtain ⟨aa,rfl,HA,ah,⟨m1,rfl⟩⟩:=hrel
  cases gk with
  | zero=>exact absurd HA.out (by simp [F2.l0])
  | succ k1=>
   have H:=HA.out
   clear HA
   simp only [F2.l0] at H
   as_aux_lemma=>
    by_cases c2:aa<(l0.length:Int)
    ·rw [if_pos c2] at H
     have ai:=decide_eq_true c2
     clear c2
     by_cases c3:0≤aa
     ·rw [if_pos c3] at H
      have al:=decide_eq_true c3
      clear c3
      by_cases c4:aa<(l0.length:Int)
      ·rw [if_pos c4] at H
       have am:=decide_eq_true c4
       clear c4
       by_cases c5:(rd l0 aa)=0
       ·rw [if_pos c5] at H
        have aj:=beq_iff_eq.mpr c5
        have ak:=bne_eq_false_iff_eq.mpr c5
        clear c5
        have H':=mk0 H
        clear H
        have ab:0≤(aa:Int):=od_
        have ac:aa<(l0.length:Int):=od_
        obtain ⟨ag,ae,af⟩:=Kd.at_int HR0.out aa ab ac
        cases ae
        replace ab:=eq_true ab
        replace ac:=eq_true ac
        go_wp2
        go_roundg k1
        case measure=>have:=ah.out;omega
        case rel=>exact ⟨(wrap64 (aa + 1)),sm_,H',⟨by have:=ah.out;omega⟩,by repeat (first|exact Drawn0.refl _|apply Drawn0.step)⟩
       ·rw [if_neg c5] at H
        have aj:=beq_eq_false_iff_ne.mpr c5
        have ak:=bne_iff_ne.mpr c5
        obtain rfl:=Option.some.inj H
        have ab:0≤(aa:Int):=od_
        have ac:aa<(l0.length:Int):=od_
        obtain ⟨ag,ae,af⟩:=Kd.at_int HR0.out aa ab ac
        cases ae
        replace ab:=eq_true ab
        replace ac:=eq_true ac
        go_wp2
        go_ret
        exact ⟨by first|rfl|(simp;done)|(simp [*];done),by repeat (first|exact Drawn0.refl _|apply Drawn0.step)⟩
      ·rw [if_neg c4] at H
       exact absurd H (by simp)
     ·rw [if_neg c3] at H
      exact absurd H (by simp)
    ·rw [if_neg c2] at H
     have ai:=decide_eq_false c2
     clear c2
     obtain rfl:=Option.some.inj H
     go_wp2
     go_ret
     exact ⟨by first|rfl|(simp;done)|(simp [*];done),by repeat (first|exact Drawn0.refl _|apply Drawn0.step)⟩
-- NOT PRINTED: function 92 (pend_order)
-- NOT PRINTED: function 93 (api_Write_93)
def Gx.f (l0_0:List (S72)) (l0_1:List Int):Option (List (S72)):=if l0_0.length≤12 then some (HAll.allOf l0_0) else none
theorem Gx.calls (A0_0:Option Addr) (c0_0:Nat) (l0_0:List (S72)) (A0_1:Option Addr) (c0_1:Nat) (l0_1:List Int) (r:List (S72)) (w:World) (hr0_0:Kd.C k72 w A0_0 l0_0.length l0_0) (hc0_0:l0_0.length≤c0_0) (hr0_1:Kd.C (Kd.int .i64) w A0_1 l0_1.length l0_1) (hc0_1:l0_1.length≤c0_1) (h:Gx.f l0_0 l0_1=some r) :
 Calls Tryz.prog 69 #[.agg #[.slice A0_0 l0_0.length c0_0,.slice A0_1 l0_1.length c0_1]] w fun e w'=>∃ v0_:Value,e = .returned (v0_)∧Kd.R k72 72 w' w.heap.size (fun _=>True) v0_ r∧Below w.heap.size w w':=by
 unfold Gx.f at h
 split at h
 ·rename_i h12
  obtain rfl:=Option.some.inj h
  exact HAll.All_calls A0_0 c0_0 l0_0 A0_1 c0_1 l0_1 w hr0_0 hc0_0 h12
 ·cases h
-- NOT PRINTED: function 71 (view_Merge_1)
end Go.Proofs.YtbaecdcfefmcgaaGreat.PVrd
