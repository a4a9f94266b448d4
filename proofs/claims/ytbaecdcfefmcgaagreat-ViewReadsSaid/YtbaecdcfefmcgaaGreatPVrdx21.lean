import Derived.Test.YtbaecdcfefmcgaaGreatPVrdx0
import Derived.Test.YtbaecdcfefmcgaaGreatPVrdx17
import Derived.Test.YtbaecdcfefmcgaaGreatPVrdx24
namespace Go.Proofs.YtbaecdcfefmcgaaGreat.PVrd
open Go.RowKit Go.Proofs.YtbaecdcfefmcgaaGreatW.PrintWords Go.Proofs.YtbaecdcfefmcgaaGreatW.PrintLast Go.Proofs.YtbaecdcfefmcgaaGreatW.PrintMore
attribute [local go_sem] max2_int min2_int max_two min_two max_three min_three max_four min_four
set_option maxHeartbeats 8000000
set_option maxRecDepth 100000
set_option linter.unusedVariables false
set_option linter.unusedSimpArgs false
def FB.l0:Nat→List (S83)→List (S83)→Int→Option (Bool)
 | 0,_,_,_=>none
 | k + 1,b,c,a=>if a<(b.length:Int) then (if 0≤a then (if a<(c.length:Int) then ((Gg.f k ((rd_T83 b a).f0) ((rd_T83 b a).f1) ((rd_T83 c a).f0) ((rd_T83 c a).f1)).bind fun d=>(if d=true then (FB.l0 k b c (wrap64 (a + 1))) else (some false))) else (none)) else (none)) else (some true)
def FB.f (k:Nat) (l0:List (S83)) (l1:List (S83)):Option (Bool):=if (l0.length:Int)=(l1.length:Int) then (FB.l0 k l0 l1 0) else (some false)
theorem FB.mono_l:∀ k,(∀ y0 y1 y2,LeO (FB.l0 k y0 y1 y2) (FB.l0 (k + 1) y0 y1 y2))
 | 0=>fun _ _ _ r h=>by simp [FB.l0] at h
 | k + 1=>by
  have ih0:=FB.mono_l k
  have:=@Gg.mono
  all_goals (intros;first|unfold FB.l0)
  all_goals exact mz_
theorem FB.mono:∀ a0 a1 k,LeO (FB.f k a0 a1) (FB.f (k + 1) a0 a1):=by
 intro a0 a1 k
 have ih0:=FB.mono_l k
 have:=@Gg.mono
 unfold FB.f
 exact mz_
def FB.T6:Bool×List (List Nat×List Nat):=(true,[([],[]),([],[]),([0,1],[0,1]),([2],[2]),([],[]),([],[]),([4,5],[4,5]),([6],[6]),([3,7],[3,7]),([8],[8])])
def FB.B6:List Nat:=[0,0,3,7,0,0,48,112,255,511]
theorem FB.tab6:rtab .any (opsOf Tryz.f76 6)=FB.T6:=by kernel_rfl
theorem FB.bits6:waitsOk FB.T6.2 FB.B6=true:=by kernel_rfl
theorem FB.calls (k:Nat) (A0:Option Addr) (c0:Nat) (l0:List (S83)) (A1:Option Addr) (c1:Nat) (l1:List (S83)) (r:Bool) (w:World) (hr0:Kd.C k83 w A0 l0.length l0) (hc0:l0.length≤c0) (hr1:Kd.C k83 w A1 l1.length l1) (hc1:l1.length≤c1) (h:FB.f k l0 l1=some r) :
 Calls Tryz.prog 76 #[.slice A0 l0.length c0,.slice A1 l1.length c1] w fun e w'=>e = .returned (.bool r)∧Below w.heap.size w w':=by
 have hu83:=Tryz.underlying83
 have HR0:=mk0 hr0
 have HC0:=mk0 hc0
 clear hr0 hc0
 have HR1:=mk0 hr1
 have HC1:=mk0 hc1
 clear hr1 hc1
 have HB:=mk0 (Below.refl w.heap.size w)
 have H:(if (l0.length:Int)=(l1.length:Int) then (FB.l0 k l0 l1 0) else (some false))=some r:=h
 clear h
 by_cases c3:(l0.length:Int)=(l1.length:Int)
 ·rw [if_pos c3] at H
  have aF:=beq_iff_eq.mpr c3
  have aG:=bne_eq_false_iff_eq.mpr c3
  have aH:(l0.length == l1.length)=true:=by first|simpa using c3|(simp at c3 ⊢; omega)
  clear c3
  have H':=mk0 H
  clear H
  go_enter Tryz.func76,Tryz.ntmps76
  go_wp2
  go_loopg [5] k (fun kq v5 w'=>∃ (aa:Int),v5 = .int .i64 aa∧Fc (FB.l0 kq l0 l1 aa=some r)∧Fc (kq≤k)∧Fc (Below w.heap.size w w'))
  case atStart=>exact ⟨(0),sm_,H',⟨Nat.le_refl _⟩,⟨b_ HB⟩⟩
  case round=>
   clear H'
   try clear c3
   try clear aF
   try clear aG
   try clear aH
   obtain ⟨aa,rfl,HA,aI,HB⟩:=hrel
   cases gk with
   | zero=>exact absurd HA.out (by simp [FB.l0])
   | succ k1=>
    have H:=HA.out
    clear HA
    simp only [FB.l0] at H
    as_aux_lemma=>
     by_cases c4:aa<(l0.length:Int)
     ·rw [if_pos c4] at H
      have aJ:=decide_eq_true c4
      clear c4
      by_cases c5:0≤aa
      ·rw [if_pos c5] at H
       have aL:=decide_eq_true c5
       clear c5
       by_cases c6:aa<(l1.length:Int)
       ·rw [if_pos c6] at H
        have aM:=decide_eq_true c6
        clear c6
        replace H:=ob_ H
        obtain ⟨aK,A7,H⟩:=H
        try dsimp only at H
        by_cases c8:aK=true
        ·subst c8
         rw [if_pos rfl] at H
         have H':=mk0 H
         clear H
         try go_wp2
         replace HB:=mk0 (b1_ HB.out)
         have ax:0≤(aa:Int):=od_
         have ay:aa<(l0.length:Int):=od_
         obtain ⟨ap,ar,au,aD,ab,ac,af,ag⟩:=at_T83 HR0.out aa ax ay
         have ah:=ac
         have ai:=ab
         cases aD
         replace ab:=(bc_ HB ab :)
         replace ac:=(bc_ HB ac :)
         have aj:=mk0 ag
         have az:=mk0 af
         clear ag af
         replace ax:=eq_true ax
         replace ay:=eq_true ay
         have aA:0≤(aa:Int):=od_
         have aB:aa<(l1.length:Int):=od_
         obtain ⟨aq,av,aw,aE,ad,ae,ak,al⟩:=at_T83 HR1.out aa aA aB
         have am:=ae
         have an:=ad
         cases aE
         replace ad:=(bc_ HB ad :)
         replace ae:=(bc_ HB ae :)
         have ao:=mk0 al
         have aC:=mk0 ak
         clear al ak
         replace aA:=eq_true aA
         replace aB:=eq_true aB
         refine start_ (n:=10) (S:=fun w'=>w'.cell? (ap.add ((aa).toNat * 2))=some (.string ((rd_T83 l0 aa).f0))∧w'.cell? ⟨(ap.add ((aa).toNat * 2)).block,(ap.add ((aa).toNat * 2)).off + 1,none⟩=some (.slice ar ((rd_T83 l0 aa).f1).length au)∧w'.cell? (aq.add ((aa).toNat * 2))=some (.string ((rd_T83 l1 aa).f0))∧w'.cell? ⟨(aq.add ((aa).toNat * 2)).block,(aq.add ((aa).toNat * 2)).off + 1,none⟩=some (.slice av ((rd_T83 l1 aa).f1).length aw)) (ds:=[]) (bt 10 0) (by kernel_rfl) rfl rfl ⟨((bc_ HB ai :)),((bc_ HB ah :)),((bc_ HB an :)),((bc_ HB am :))⟩ (fun hHeld=>?_);refine with_tabW FB.tab6 FB.bits6 (fun HT_ HW_=>?_)
         generalize wr.drew=w9 at HB aj ao ab ac ad ae hHeld ⊢
         refine pq_ HT_.out 0 17 (bt 10 1) (h:=?_)
         refine pq_ HT_.out 1 18 (bt 10 3) (h:=?_)
         refine pq_ HT_.out 2 19 (bt 10 7) (h:=?_)
         refine pq_ HT_.out 4 21 (bt 10 23) (h:=?_)
         refine pq_ HT_.out 5 22 (bt 10 55) (h:=?_)
         refine pq_ HT_.out 6 23 (bt 10 119) (h:=?_)
         refine tq4_ HT_.out HW_.out 3 20 (bt 10 127) hHeld (h:=?_)
         refine tq4_ HT_.out HW_.out 7 24 (bt 10 255) hHeld (h:=?_)
         refine one_ (i:=8) (N:=some 25) (bt 10 511) rfl rfl (one_of HT_.out (by kernel_rfl)) (by decide) (fun K hK=>?_)
         refine goes_ Tryz.func99 (by kernel_rfl) rfl #[.agg #[.string ((rd_T83 l0 aa).f0),.slice ar ((rd_T83 l0 aa).f1).length au],.agg #[.string ((rd_T83 l1 aa).f0),.slice av ((rd_T83 l1 aa).f1).length aw]] (by rfl) rfl rfl gs_ ?_
         with_reducible refine (Gg.calls k1 ((rd_T83 l0 aa).f0) _ _ ((rd_T83 l0 aa).f1) ((rd_T83 l1 aa).f0) _ _ ((rd_T83 l1 aa).f1) true _ ?side1 ?side2 ?side3 ?side4 A7.out).mono ?_
         (case side1=>exact cb_ aj HB)
         (case side2=>exact az.out)
         (case side3=>exact cb_ ao HB)
         (case side4=>exact aC.out)
         rintro e aN ⟨rfl,hb⟩
         refine ⟨_,rfl,?_⟩
         replace HB:=mk0 (bt_ (b_ HB) hb)
         (try clear hb)
         (try clear hk)
         (try clear hi)
         refine hK.out _ _ ⟨((bc_ HB ai :)),((bc_ HB ah :)),((bc_ HB an :)),((bc_ HB am :))⟩ (fun hHeld=>?_)
         clear hK K
         refine norm_ (a':=?_) ?_ ?_
         rotate_left
         ·show Act.put _ (some 25) _=_
          simp only [z_]
          rfl
         refine pq_ HT_.out 9 26 (bt 10 1023) (h:=?_)
         refine done_ (done_of HT_.out (by kernel_rfl)) ?_
         try go_wp2
         go_roundg k1
         case measure=>have:=aI.out;omega
         case rel=>exact ⟨(wrap64 (aa + 1)),sm_,H',⟨by have:=aI.out;omega⟩,⟨b_ HB⟩⟩
        ·replace c8:=Bool.eq_false_iff.mpr c8
         subst c8
         rw [if_neg nf_] at H
         obtain rfl:=Option.some.inj H
         try go_wp2
         replace HB:=mk0 (b1_ HB.out)
         have ax:0≤(aa:Int):=od_
         have ay:aa<(l0.length:Int):=od_
         obtain ⟨ap,ar,au,aD,ab,ac,af,ag⟩:=at_T83 HR0.out aa ax ay
         have ah:=ac
         have ai:=ab
         cases aD
         replace ab:=(bc_ HB ab :)
         replace ac:=(bc_ HB ac :)
         have aj:=mk0 ag
         have az:=mk0 af
         clear ag af
         replace ax:=eq_true ax
         replace ay:=eq_true ay
         have aA:0≤(aa:Int):=od_
         have aB:aa<(l1.length:Int):=od_
         obtain ⟨aq,av,aw,aE,ad,ae,ak,al⟩:=at_T83 HR1.out aa aA aB
         have am:=ae
         have an:=ad
         cases aE
         replace ad:=(bc_ HB ad :)
         replace ae:=(bc_ HB ae :)
         have ao:=mk0 al
         have aC:=mk0 ak
         clear al ak
         replace aA:=eq_true aA
         replace aB:=eq_true aB
         refine start_ (n:=10) (S:=fun w'=>w'.cell? (ap.add ((aa).toNat * 2))=some (.string ((rd_T83 l0 aa).f0))∧w'.cell? ⟨(ap.add ((aa).toNat * 2)).block,(ap.add ((aa).toNat * 2)).off + 1,none⟩=some (.slice ar ((rd_T83 l0 aa).f1).length au)∧w'.cell? (aq.add ((aa).toNat * 2))=some (.string ((rd_T83 l1 aa).f0))∧w'.cell? ⟨(aq.add ((aa).toNat * 2)).block,(aq.add ((aa).toNat * 2)).off + 1,none⟩=some (.slice av ((rd_T83 l1 aa).f1).length aw)) (ds:=[]) (bt 10 0) (by kernel_rfl) rfl rfl ⟨((bc_ HB ai :)),((bc_ HB ah :)),((bc_ HB an :)),((bc_ HB am :))⟩ (fun hHeld=>?_);refine with_tabW FB.tab6 FB.bits6 (fun HT_ HW_=>?_)
         generalize wr.drew=aO at HB aj ao ab ac ad ae hHeld ⊢
         refine pq_ HT_.out 0 17 (bt 10 1) (h:=?_)
         refine pq_ HT_.out 1 18 (bt 10 3) (h:=?_)
         refine pq_ HT_.out 2 19 (bt 10 7) (h:=?_)
         refine pq_ HT_.out 4 21 (bt 10 23) (h:=?_)
         refine pq_ HT_.out 5 22 (bt 10 55) (h:=?_)
         refine pq_ HT_.out 6 23 (bt 10 119) (h:=?_)
         refine tq4_ HT_.out HW_.out 3 20 (bt 10 127) hHeld (h:=?_)
         refine tq4_ HT_.out HW_.out 7 24 (bt 10 255) hHeld (h:=?_)
         refine one_ (i:=8) (N:=some 25) (bt 10 511) rfl rfl (one_of HT_.out (by kernel_rfl)) (by decide) (fun K hK=>?_)
         refine goes_ Tryz.func99 (by kernel_rfl) rfl #[.agg #[.string ((rd_T83 l0 aa).f0),.slice ar ((rd_T83 l0 aa).f1).length au],.agg #[.string ((rd_T83 l1 aa).f0),.slice av ((rd_T83 l1 aa).f1).length aw]] (by rfl) rfl rfl gs_ ?_
         with_reducible refine (Gg.calls k1 ((rd_T83 l0 aa).f0) _ _ ((rd_T83 l0 aa).f1) ((rd_T83 l1 aa).f0) _ _ ((rd_T83 l1 aa).f1) false _ ?side1 ?side2 ?side3 ?side4 A7.out).mono ?_
         (case side1=>exact cb_ aj HB)
         (case side2=>exact az.out)
         (case side3=>exact cb_ ao HB)
         (case side4=>exact aC.out)
         rintro e aP ⟨rfl,hb⟩
         refine ⟨_,rfl,?_⟩
         replace HB:=mk0 (bt_ (b_ HB) hb)
         (try clear hb)
         (try clear hk)
         (try clear hi)
         refine hK.out _ _ ⟨((bc_ HB ai :)),((bc_ HB ah :)),((bc_ HB an :)),((bc_ HB am :))⟩ (fun hHeld=>?_)
         clear hK K
         refine norm_ (a':=?_) ?_ ?_
         rotate_left
         ·show Act.put _ (some 25) _=_
          simp only [z_]
          rfl
         refine pq_ HT_.out 9 26 (bt 10 1023) (h:=?_)
         refine done_ (done_of HT_.out (by kernel_rfl)) ?_
         try go_wp2
         go_ret
         exact ⟨sa_,b_ HB⟩
       ·rw [if_neg c6] at H
        exact absurd H (by simp)
      ·rw [if_neg c5] at H
       exact absurd H (by simp)
     ·rw [if_neg c4] at H
      have aJ:=decide_eq_false c4
      clear c4
      obtain rfl:=Option.some.inj H
      go_wp2
      go_ret
      exact ⟨sa_,b_ HB⟩
 ·rw [if_neg c3] at H
  have aF:=beq_eq_false_iff_ne.mpr c3
  have aG:=bne_iff_ne.mpr c3
  have aH:(l0.length == l1.length)=false:=by first|simpa using c3|(simp at c3 ⊢; omega)
  obtain rfl:=Option.some.inj H
  go_enter Tryz.func76,Tryz.ntmps76
  go_wp2
  go_ret
  exact ⟨sa_,b_ HB⟩
def Gh.f (k:Nat) (l0_0:List (S83)) (l1_0:List (S83)):Option (Bool):=(FB.f k l0_0 l1_0).bind fun a=>(some a)
theorem Gh.mono:∀ a0 a1 k,LeO (Gh.f k a0 a1) (Gh.f (k + 1) a0 a1):=by
 intro a0 a1 k
 have:=@FB.mono
 unfold Gh.f
 exact mz_
theorem Gh.calls (k:Nat) (A0_0:Option Addr) (c0_0:Nat) (l0_0:List (S83)) (A1_0:Option Addr) (c1_0:Nat) (l1_0:List (S83)) (r:Bool) (w:World) (hr0_0:Kd.C k83 w A0_0 l0_0.length l0_0) (hc0_0:l0_0.length≤c0_0) (hr1_0:Kd.C k83 w A1_0 l1_0.length l1_0) (hc1_0:l1_0.length≤c1_0) (h:Gh.f k l0_0 l1_0=some r) :
 Calls Tryz.prog 49 #[.agg #[.slice A0_0 l0_0.length c0_0],.agg #[.slice A1_0 l1_0.length c1_0]] w fun e w'=>e = .returned (.bool r)∧Below w.heap.size w w':=by
 have hu43:=Tryz.underlying43
 have ag:=mk0 hr0_0
 have ah:=mk0 hc0_0
 clear hr0_0 hc0_0
 have ai:=mk0 hr1_0
 have aj:=mk0 hc1_0
 clear hr1_0 hc1_0
 have HB:=mk0 (Below.refl w.heap.size w)
 have H:((FB.f k l0_0 l1_0).bind fun ae=>(some ae))=some r:=h
 clear h
 replace H:=ob_ H
 obtain ⟨ae,A3,H⟩:=H
 try dsimp only at H
 obtain rfl:=Option.some.inj H
 go_enter Tryz.func49,Tryz.ntmps49
 go_wp2_with (first|((with_reducible refine gate_dst (N:=2) rfl ?_);refine bx_ (N:=2) (cs:=#[.slice A0_0 l0_0.length c0_0]) (t:=43) (h:=?_);intro ar hg w4 hbox hb;have ny2_:=mk0 (gz_ HB hg);have af:=mk0 (gz_ HB hg);replace HB:=mk0 (bt_ (b_ HB) hb);have aa:=mk0 (hbox);have au:=ny2_;have av:=af;clear ny2_ af;clear hb hbox hg)|((with_reducible refine gate_dst (N:=3) rfl ?_);refine bx_ (N:=3) (cs:=#[.slice A1_0 l1_0.length c1_0]) (t:=43) (h:=?_);intro aw hg w5 hbox hb;have af:=mk0 (gz_ HB hg);have ak:=mk0 (gz_ HB hg);have al:=mk0 (ne1_ aa hg);have am:=mk0 (ne2_ aa hg);replace aa:=mk0 (u_ aa hb);replace HB:=mk0 (bt_ (b_ HB) hb);have ab:=mk0 (hbox);have ax:=ak;have ac:=al;have ad:=am;clear af ak al am hb hbox hg;have ay:=ac.out;have az:=ad.out;obtain ⟨an,ao⟩:=c1_ aa;obtain ⟨ap,aq⟩:=c1_ ab)|((with_reducible refine gate_callee (f:=76) rfl ?_);refine gL_ (some 9) Tryz.func76 #[.slice A0_0 l0_0.length c0_0,.slice A1_0 l1_0.length c1_0] (h:=?_);(with_reducible refine (FB.calls k _ _ l0_0 _ _ l1_0 ae _ ?side1 ?side2 ?side3 ?side4 A3.out).mono ?_);(case side1=>exact cb_ ag HB);(case side2=>exact ah.out);(case side3=>exact cb_ ai HB);(case side4=>exact aj.out);rintro e w9 ⟨rfl,hb⟩;refine ⟨_,rfl,?_⟩;replace aa:=mk0 (u_ aa hb);replace ab:=mk0 (u_ ab hb);replace HB:=mk0 (bt_ (b_ HB) hb);(try clear hb)))
 go_ret
 exact ⟨sa_,b_ HB⟩
def Fx.l0:Nat→List (S43)→List (S43)→Int→Option (Bool)
 | 0,_,_,_=>none
 | k + 1,b,c,a=>if a<(b.length:Int) then (if 0≤a then (if a<(c.length:Int) then ((Gh.f k ((rd_T43 b a).f0) ((rd_T43 c a).f0)).bind fun d=>(if d=true then (Fx.l0 k b c (wrap64 (a + 1))) else (some false))) else (none)) else (none)) else (some true)
def Fx.f (k:Nat) (l0:List (S43)) (l1:List (S43)):Option (Bool):=if (l0.length:Int)=(l1.length:Int) then (Fx.l0 k l0 l1 0) else (some false)
theorem Fx.mono_l:∀ k,(∀ y0 y1 y2,LeO (Fx.l0 k y0 y1 y2) (Fx.l0 (k + 1) y0 y1 y2))
 | 0=>fun _ _ _ r h=>by simp [Fx.l0] at h
 | k + 1=>by
  have ih0:=Fx.mono_l k
  have:=@Gh.mono
  all_goals (intros;first|unfold Fx.l0)
  all_goals exact mz_
theorem Fx.mono:∀ a0 a1 k,LeO (Fx.f k a0 a1) (Fx.f (k + 1) a0 a1):=by
 intro a0 a1 k
 have ih0:=Fx.mono_l k
 have:=@Gh.mono
 unfold Fx.f
 exact mz_
def Fx.T6:Bool×List (List Nat×List Nat):=(true,[([],[]),([],[]),([0,1],[0,1]),([2],[2]),([],[]),([],[]),([4,5],[4,5]),([6],[6]),([3,7],[3,7]),([8],[8])])
def Fx.B6:List Nat:=[0,0,3,7,0,0,48,112,255,511]
theorem Fx.tab6:rtab .any (opsOf Tryz.f22 6)=Fx.T6:=by kernel_rfl
theorem Fx.bits6:waitsOk Fx.T6.2 Fx.B6=true:=by kernel_rfl
theorem Fx.calls (k:Nat) (A0:Option Addr) (c0:Nat) (l0:List (S43)) (A1:Option Addr) (c1:Nat) (l1:List (S43)) (r:Bool) (w:World) (hr0:Kd.C k43 w A0 l0.length l0) (hc0:l0.length≤c0) (hr1:Kd.C k43 w A1 l1.length l1) (hc1:l1.length≤c1) (h:Fx.f k l0 l1=some r) :
 Calls Tryz.prog 22 #[.slice A0 l0.length c0,.slice A1 l1.length c1] w fun e w'=>e = .returned (.bool r)∧Below w.heap.size w w':=by
 have hu43:=Tryz.underlying43
 have HR0:=mk0 hr0
 have HC0:=mk0 hc0
 clear hr0 hc0
 have HR1:=mk0 hr1
 have HC1:=mk0 hc1
 clear hr1 hc1
 have HB:=mk0 (Below.refl w.heap.size w)
 have H:(if (l0.length:Int)=(l1.length:Int) then (Fx.l0 k l0 l1 0) else (some false))=some r:=h
 clear h
 by_cases c3:(l0.length:Int)=(l1.length:Int)
 ·rw [if_pos c3] at H
  have aB:=beq_iff_eq.mpr c3
  have aC:=bne_eq_false_iff_eq.mpr c3
  have aD:(l0.length == l1.length)=true:=by first|simpa using c3|(simp at c3 ⊢; omega)
  clear c3
  have H':=mk0 H
  clear H
  go_enter Tryz.func22,Tryz.ntmps22
  go_wp2
  go_loopg [5] k (fun kq v5 w'=>∃ (aa:Int),v5 = .int .i64 aa∧Fc (Fx.l0 kq l0 l1 aa=some r)∧Fc (kq≤k)∧Fc (Below w.heap.size w w'))
  case atStart=>exact ⟨(0),sm_,H',⟨Nat.le_refl _⟩,⟨b_ HB⟩⟩
  case round=>
   clear H'
   try clear c3
   try clear aB
   try clear aC
   try clear aD
   obtain ⟨aa,rfl,HA,aE,HB⟩:=hrel
   cases gk with
   | zero=>exact absurd HA.out (by simp [Fx.l0])
   | succ k1=>
    have H:=HA.out
    clear HA
    simp only [Fx.l0] at H
    as_aux_lemma=>
     by_cases c4:aa<(l0.length:Int)
     ·rw [if_pos c4] at H
      have aF:=decide_eq_true c4
      clear c4
      by_cases c5:0≤aa
      ·rw [if_pos c5] at H
       have aH:=decide_eq_true c5
       clear c5
       by_cases c6:aa<(l1.length:Int)
       ·rw [if_pos c6] at H
        have aI:=decide_eq_true c6
        clear c6
        replace H:=ob_ H
        obtain ⟨aG,A7,H⟩:=H
        try dsimp only at H
        by_cases c8:aG=true
        ·subst c8
         rw [if_pos rfl] at H
         have H':=mk0 H
         clear H
         try go_wp2
         replace HB:=mk0 (b1_ HB.out)
         have ap:0≤(aa:Int):=od_
         have aq:aa<(l0.length:Int):=od_
         obtain ⟨ax,al,am,az,ab,ad,ae⟩:=at_T43 HR0.out aa ap aq
         have af:=ab
         cases az
         replace ab:=(bc_ HB ab :)
         have ag:=mk0 ae
         have ar:=mk0 ad
         clear ae ad
         replace ap:=eq_true ap
         replace aq:=eq_true aq
         have au:0≤(aa:Int):=od_
         have av:aa<(l1.length:Int):=od_
         obtain ⟨ay,an,ao,aA,ac,ah,ai⟩:=at_T43 HR1.out aa au av
         have aj:=ac
         cases aA
         replace ac:=(bc_ HB ac :)
         have ak:=mk0 ai
         have aw:=mk0 ah
         clear ai ah
         replace au:=eq_true au
         replace av:=eq_true av
         refine start_ (n:=10) (S:=fun w'=>w'.cell? (ax.add (aa).toNat)=some (.slice al ((rd_T43 l0 aa).f0).length am)∧w'.cell? (ay.add (aa).toNat)=some (.slice an ((rd_T43 l1 aa).f0).length ao)) (ds:=[]) (bt 10 0) (by kernel_rfl) rfl rfl ⟨((bc_ HB af :)),((bc_ HB aj :))⟩ (fun hHeld=>?_);refine with_tabW Fx.tab6 Fx.bits6 (fun HT_ HW_=>?_)
         generalize wr.drew=w9 at HB ag ak ab ac hHeld ⊢
         refine pq_ HT_.out 0 17 (bt 10 1) (h:=?_)
         refine pq_ HT_.out 1 18 (bt 10 3) (h:=?_)
         refine pq_ HT_.out 2 19 (bt 10 7) (h:=?_)
         refine pq_ HT_.out 4 21 (bt 10 23) (h:=?_)
         refine pq_ HT_.out 5 22 (bt 10 55) (h:=?_)
         refine pq_ HT_.out 6 23 (bt 10 119) (h:=?_)
         refine tq2_ HT_.out HW_.out 3 20 (bt 10 127) hHeld (h:=?_)
         refine tq2_ HT_.out HW_.out 7 24 (bt 10 255) hHeld (h:=?_)
         refine one_ (i:=8) (N:=some 25) (bt 10 511) rfl rfl (one_of HT_.out (by kernel_rfl)) (by decide) (fun K hK=>?_)
         refine goes_ Tryz.func49 (by kernel_rfl) rfl #[.agg #[.slice al ((rd_T43 l0 aa).f0).length am],.agg #[.slice an ((rd_T43 l1 aa).f0).length ao]] (by rfl) rfl rfl gs_ ?_
         with_reducible refine (Gh.calls k1 _ _ ((rd_T43 l0 aa).f0) _ _ ((rd_T43 l1 aa).f0) true _ ?side1 ?side2 ?side3 ?side4 A7.out).mono ?_
         (case side1=>exact cb_ ag HB)
         (case side2=>exact ar.out)
         (case side3=>exact cb_ ak HB)
         (case side4=>exact aw.out)
         rintro e aJ ⟨rfl,hb⟩
         refine ⟨_,rfl,?_⟩
         replace HB:=mk0 (bt_ (b_ HB) hb)
         (try clear hb)
         (try clear hk)
         (try clear hi)
         refine hK.out _ _ ⟨((bc_ HB af :)),((bc_ HB aj :))⟩ (fun hHeld=>?_)
         clear hK K
         refine norm_ (a':=?_) ?_ ?_
         rotate_left
         ·show Act.put _ (some 25) _=_
          simp only [z_]
          rfl
         refine pq_ HT_.out 9 26 (bt 10 1023) (h:=?_)
         refine done_ (done_of HT_.out (by kernel_rfl)) ?_
         try go_wp2
         go_roundg k1
         case measure=>have:=aE.out;omega
         case rel=>exact ⟨(wrap64 (aa + 1)),sm_,H',⟨by have:=aE.out;omega⟩,⟨b_ HB⟩⟩
        ·replace c8:=Bool.eq_false_iff.mpr c8
         subst c8
         rw [if_neg nf_] at H
         obtain rfl:=Option.some.inj H
         try go_wp2
         replace HB:=mk0 (b1_ HB.out)
         have ap:0≤(aa:Int):=od_
         have aq:aa<(l0.length:Int):=od_
         obtain ⟨ax,al,am,az,ab,ad,ae⟩:=at_T43 HR0.out aa ap aq
         have af:=ab
         cases az
         replace ab:=(bc_ HB ab :)
         have ag:=mk0 ae
         have ar:=mk0 ad
         clear ae ad
         replace ap:=eq_true ap
         replace aq:=eq_true aq
         have au:0≤(aa:Int):=od_
         have av:aa<(l1.length:Int):=od_
         obtain ⟨ay,an,ao,aA,ac,ah,ai⟩:=at_T43 HR1.out aa au av
         have aj:=ac
         cases aA
         replace ac:=(bc_ HB ac :)
         have ak:=mk0 ai
         have aw:=mk0 ah
         clear ai ah
         replace au:=eq_true au
         replace av:=eq_true av
         refine start_ (n:=10) (S:=fun w'=>w'.cell? (ax.add (aa).toNat)=some (.slice al ((rd_T43 l0 aa).f0).length am)∧w'.cell? (ay.add (aa).toNat)=some (.slice an ((rd_T43 l1 aa).f0).length ao)) (ds:=[]) (bt 10 0) (by kernel_rfl) rfl rfl ⟨((bc_ HB af :)),((bc_ HB aj :))⟩ (fun hHeld=>?_);refine with_tabW Fx.tab6 Fx.bits6 (fun HT_ HW_=>?_)
         generalize wr.drew=aK at HB ag ak ab ac hHeld ⊢
         refine pq_ HT_.out 0 17 (bt 10 1) (h:=?_)
         refine pq_ HT_.out 1 18 (bt 10 3) (h:=?_)
         refine pq_ HT_.out 2 19 (bt 10 7) (h:=?_)
         refine pq_ HT_.out 4 21 (bt 10 23) (h:=?_)
         refine pq_ HT_.out 5 22 (bt 10 55) (h:=?_)
         refine pq_ HT_.out 6 23 (bt 10 119) (h:=?_)
         refine tq2_ HT_.out HW_.out 3 20 (bt 10 127) hHeld (h:=?_)
         refine tq2_ HT_.out HW_.out 7 24 (bt 10 255) hHeld (h:=?_)
         refine one_ (i:=8) (N:=some 25) (bt 10 511) rfl rfl (one_of HT_.out (by kernel_rfl)) (by decide) (fun K hK=>?_)
         refine goes_ Tryz.func49 (by kernel_rfl) rfl #[.agg #[.slice al ((rd_T43 l0 aa).f0).length am],.agg #[.slice an ((rd_T43 l1 aa).f0).length ao]] (by rfl) rfl rfl gs_ ?_
         with_reducible refine (Gh.calls k1 _ _ ((rd_T43 l0 aa).f0) _ _ ((rd_T43 l1 aa).f0) false _ ?side1 ?side2 ?side3 ?side4 A7.out).mono ?_
         (case side1=>exact cb_ ag HB)
         (case side2=>exact ar.out)
         (case side3=>exact cb_ ak HB)
         (case side4=>exact aw.out)
         rintro e aL ⟨rfl,hb⟩
         refine ⟨_,rfl,?_⟩
         replace HB:=mk0 (bt_ (b_ HB) hb)
         (try clear hb)
         (try clear hk)
         (try clear hi)
         refine hK.out _ _ ⟨((bc_ HB af :)),((bc_ HB aj :))⟩ (fun hHeld=>?_)
         clear hK K
         refine norm_ (a':=?_) ?_ ?_
         rotate_left
         ·show Act.put _ (some 25) _=_
          simp only [z_]
          rfl
         refine pq_ HT_.out 9 26 (bt 10 1023) (h:=?_)
         refine done_ (done_of HT_.out (by kernel_rfl)) ?_
         try go_wp2
         go_ret
         exact ⟨sa_,b_ HB⟩
       ·rw [if_neg c6] at H
        exact absurd H (by simp)
      ·rw [if_neg c5] at H
       exact absurd H (by simp)
     ·rw [if_neg c4] at H
      have aF:=decide_eq_false c4
      clear c4
      obtain rfl:=Option.some.inj H
      go_wp2
      go_ret
      exact ⟨sa_,b_ HB⟩
 ·rw [if_neg c3] at H
  have aB:=beq_eq_false_iff_ne.mpr c3
  have aC:=bne_iff_ne.mpr c3
  have aD:(l0.length == l1.length)=false:=by first|simpa using c3|(simp at c3 ⊢; omega)
  obtain rfl:=Option.some.inj H
  go_enter Tryz.func22,Tryz.ntmps22
  go_wp2
  go_ret
  exact ⟨sa_,b_ HB⟩
def Gk.f (k:Nat)  : Option (Bool):=(some (([(⟨(([(⟨(⟨#[97]⟩:ByteArray),(([(⟨1,(⟨#[118]⟩:ByteArray),false⟩:S78)]:List (S78)))⟩:S83)]:List (S83)))⟩:S43)]:List (S43)):List (S43))).bind fun a=>((Fq.f k a ([]:List (S72)) ([]:List Int) 0 (⟨#[97]⟩:ByteArray) 1).bind fun b=>((Fq.f k a (([(⟨0,(⟨#[97]⟩:ByteArray),(⟨#[]⟩:ByteArray),true⟩:S72)]:List (S72))) ([]:List Int) 0 (⟨#[97]⟩:ByteArray) 1).bind fun c=>((F0.f b.2).bind fun d=>(if d=0 then (if b.1.toList=([118]:List UInt8) then ((F0.f c.2).bind fun e=>(some (e == 3))) else (some false)) else (some false)))))
theorem Gk.mono:∀ k,LeO (Gk.f k ) (Gk.f (k + 1) ):=by
 intro  k
 have:=@Fq.mono
 unfold Gk.f
 exact mz_
theorem Gk.calls (k:Nat)  (r:Bool) (w:World) (h:Gk.f k  = some r) :
 Calls Tryz.prog 23 #[] w fun e w'=>e = .returned (.bool r)∧Below w.heap.size w w':=by
 have hu78:=Tryz.underlying78
 have hu83:=Tryz.underlying83
 have hu43:=Tryz.underlying43
 have hu34:=Tryz.underlying34
 have hu72:=Tryz.underlying72
 have HB:=mk0 (Below.refl w.heap.size w)
 have H:((some (([(⟨(([(⟨(⟨#[97]⟩:ByteArray),(([(⟨1,(⟨#[118]⟩:ByteArray),false⟩:S78)]:List (S78)))⟩:S83)]:List (S83)))⟩:S43)]:List (S43)):List (S43))).bind fun aa=>((Fq.f k aa ([]:List (S72)) ([]:List Int) 0 (⟨#[97]⟩:ByteArray) 1).bind fun bt485=>((Fq.f k aa (([(⟨0,(⟨#[97]⟩:ByteArray),(⟨#[]⟩:ByteArray),true⟩:S72)]:List (S72))) ([]:List Int) 0 (⟨#[97]⟩:ByteArray) 1).bind fun bt490=>((F0.f bt485.2).bind fun ac=>(if ac=0 then (if bt485.1.toList=([118]:List UInt8) then ((F0.f bt490.2).bind fun ad=>(some (ad == 3))) else (some false)) else (some false))))))=some r:=h
 clear h
 obtain ⟨ae,al⟩:∃ y_:List (S78),y_=(([(⟨1,(⟨#[118]⟩:ByteArray),false⟩:S78)]:List (S78))):=⟨_,rfl⟩
 replace H:((some (([(⟨(([(⟨(⟨#[97]⟩:ByteArray),ae⟩:S83)]:List (S83)))⟩:S43)]:List (S43)):List (S43))).bind fun aa=>((Fq.f k aa ([]:List (S72)) ([]:List Int) 0 (⟨#[97]⟩:ByteArray) 1).bind fun bt485=>((Fq.f k aa (([(⟨0,(⟨#[97]⟩:ByteArray),(⟨#[]⟩:ByteArray),true⟩:S72)]:List (S72))) ([]:List Int) 0 (⟨#[97]⟩:ByteArray) 1).bind fun bt490=>((F0.f bt485.2).bind fun ac=>(if ac=0 then (if bt485.1.toList=([118]:List UInt8) then ((F0.f bt490.2).bind fun ad=>(some (ad == 3))) else (some false)) else (some false))))))=some r:=rp_ H al
 have ap:=mk0 al
 clear al
 obtain ⟨af,am⟩:∃ y_:List (S83),y_=(([(⟨(⟨#[97]⟩:ByteArray),ae⟩:S83)]:List (S83))):=⟨_,rfl⟩
 replace H:((some (([(⟨af⟩:S43)]:List (S43)):List (S43))).bind fun aa=>((Fq.f k aa ([]:List (S72)) ([]:List Int) 0 (⟨#[97]⟩:ByteArray) 1).bind fun bt485=>((Fq.f k aa (([(⟨0,(⟨#[97]⟩:ByteArray),(⟨#[]⟩:ByteArray),true⟩:S72)]:List (S72))) ([]:List Int) 0 (⟨#[97]⟩:ByteArray) 1).bind fun bt490=>((F0.f bt485.2).bind fun ac=>(if ac=0 then (if bt485.1.toList=([118]:List UInt8) then ((F0.f bt490.2).bind fun ad=>(some (ad == 3))) else (some false)) else (some false))))))=some r:=rp_ H am
 have aq:=mk0 am
 clear am
 obtain ⟨aa,an⟩:∃ y_:List (S43),y_=(([(⟨af⟩:S43)]:List (S43))):=⟨_,rfl⟩
 replace H:((Fq.f k aa ([]:List (S72)) ([]:List Int) 0 (⟨#[97]⟩:ByteArray) 1).bind fun bt485=>((Fq.f k aa (([(⟨0,(⟨#[97]⟩:ByteArray),(⟨#[]⟩:ByteArray),true⟩:S72)]:List (S72))) ([]:List Int) 0 (⟨#[97]⟩:ByteArray) 1).bind fun bt490=>((F0.f bt485.2).bind fun ac=>(if ac=0 then (if bt485.1.toList=([118]:List UInt8) then ((F0.f bt490.2).bind fun ad=>(some (ad == 3))) else (some false)) else (some false)))))=some r:=rp_ H an
 have ar:=mk0 an
 clear an
 replace H:=ob_ H
 obtain ⟨⟨au,ah⟩,A1,H⟩:=H
 try dsimp only at H
 obtain ⟨av,ao⟩:∃ y_:List (S72),y_=(([(⟨0,(⟨#[97]⟩:ByteArray),(⟨#[]⟩:ByteArray),true⟩:S72)]:List (S72))):=⟨_,rfl⟩
 replace H:((Fq.f k aa av ([]:List Int) 0 (⟨#[97]⟩:ByteArray) 1).bind fun bt490=>((F0.f ah).bind fun ac=>(if ac=0 then (if au.toList=([118]:List UInt8) then ((F0.f bt490.2).bind fun ad=>(some (ad == 3))) else (some false)) else (some false))))=some r:=rp_ H ao
 have aw:=mk0 ao
 clear ao
 replace H:=ob_ H
 obtain ⟨⟨aC,ax⟩,A2,H⟩:=H
 try dsimp only at H
 replace H:=ob_ H
 obtain ⟨ac,A3,H⟩:=H
 try dsimp only at H
 by_cases c4:ac=0
 focus
  rw [if_pos c4] at H
  have aD:=beq_iff_eq.mpr c4
  have aE:=bne_eq_false_iff_eq.mpr c4
  clear c4
  by_cases c5:au.toList=([118]:List UInt8)
  focus
   rw [if_pos c5] at H
   have aF:=beq_iff_eq.mpr c5
   have aG:=bne_eq_false_iff_eq.mpr c5
   clear c5
   replace H:=ob_ H
   obtain ⟨ad,A6,H⟩:=H
   try dsimp only at H
   obtain rfl:=Option.some.inj H
   go_enter Tryz.func23,Tryz.ntmps23
  rotate_left 1
  focus
   rw [if_neg c5] at H
   have aF:=beq_eq_false_iff_ne.mpr c5
   have aG:=bne_iff_ne.mpr c5
   obtain rfl:=Option.some.inj H
   go_enter Tryz.func23,Tryz.ntmps23
  rotate_right 1
 rotate_left 2
 focus
  rw [if_neg c4] at H
  have aD:=beq_eq_false_iff_ne.mpr c4
  have aE:=bne_iff_ne.mpr c4
  obtain rfl:=Option.some.inj H
  go_enter Tryz.func23,Tryz.ntmps23
 rotate_right 2
 all_goals go_wp2_with (first|((with_reducible refine gate_dst (N:=7) rfl ?_);refine Kd.R_lit k78 _ 78 ?hg (N:=7) ?hd (xs:=([(⟨1,(⟨#[118]⟩:ByteArray),false⟩:S78)]:List (S78))) (inner:=[.int .i64 1,.string (⟨#[118]⟩:ByteArray),.bool false]) (ok:=fun _=>True) (okp:=fun _=>True) ?hr ?hp (fun _ hk=>hk) trivial (Below.refl _ _) (Nat.le_refl _) (by simp) ?_;(case hd=>rfl);(case hg=>rfl);(case hr=>first|(go_simp;done)|(go_simp;rfl));(case hp=>exact (Reps.c3 (show Kd.M k78 _ _ _ (⟨1,(⟨#[118]⟩:ByteArray),false⟩:S78) [.int .i64 1,.string (⟨#[118]⟩:ByteArray),.bool false] from (k78_mkM _ _ _ (⟨1,(⟨#[118]⟩:ByteArray),false⟩:S78) )) (Reps.none _ _)));intro aR w7 ho8 hb hg_ hnew_;clear hg_ hnew_;(first|rw [← ap.out] at ho8|(simp only [Int.reduceToNat] at ho8;rw [← ap.out] at ho8));have ak:=mk0 (Kd.R_lower ho8 (bz_ (b_ HB)));replace HB:=mk0 (bt_ (b_ HB) hb);have ai:=ak;clear ak hb ho8;obtain ⟨aH,aI,aP⟩:=Kd.R_slice ai.out;subst aP)|((with_reducible refine gate_dst (N:=9) rfl ?_);refine Kd.N_lit k83 _ 83 ?hg (N':=9) ?hd (xs:=([(⟨(⟨#[97]⟩:ByteArray),ae⟩:S83)]:List (S83))) (inner:=[.string (⟨#[97]⟩:ByteArray),.slice aH ae.length aI]) (ok:=(fun _=>True)) (okp:=(fun _=>True)) ?hr ?hp (fun _ hk=>hk) ((show ∀ k_,w7.heap.size≤k_→(fun _=>True) k_ from fun k_ hk=>trivial) _ (Nat.le_refl _)) (Below.refl _ _) (Nat.le_refl _) (by simp) ?_;(case hd=>rfl);(case hg=>rfl);(case hr=>first|(go_simp;done)|(go_simp;rfl));(case hp=>exact (Reps.c2 (show Kd.FK k83 _ _ (⟨(⟨#[97]⟩:ByteArray),ae⟩:S83) [.string (⟨#[97]⟩:ByteArray),.slice aH ae.length aI] from (k83_mkF _ _ (⟨(⟨#[97]⟩:ByteArray),ae⟩:S83) (Kd.R_reads' (Kd.R_mono (ok':=(fun _=>True)) (ai.out) (fun k_ hk=>trivial))).2.1 (Kd.R_F (Kd.R_mono (ok':=(fun _=>True)) (ai.out) (fun k_ hk=>trivial))))) (Reps.none _ _)));intro aS aQ ho11 hb hg_ hnew_;clear hg_ hnew_;(first|rw [← aq.out] at ho11|(simp only [Int.reduceToNat] at ho11;rw [← aq.out] at ho11));have ak:=mk0 (Kd.N_lower ho11 (bz_ (b_ HB)));replace HB:=mk0 (bt_ (b_ HB) hb);clear ai;have aj:=ak;clear ak hb ho11;obtain ⟨ay,az,aJ⟩:=Kd.N_slice aj.out;subst aJ)|((with_reducible refine gate_dst (N:=11) rfl ?_);refine Kd.N_lit k43 _ 43 ?hg (N':=11) ?hd (xs:=([(⟨af⟩:S43)]:List (S43))) (inner:=[.slice ay af.length az]) (ok:=(fun _=>True)) (okp:=(fun _=>True)) ?hr ?hp (fun _ hk=>hk) ((show ∀ k_,aQ.heap.size≤k_→(fun _=>True) k_ from fun k_ hk=>trivial) _ (Nat.le_refl _)) (Below.refl _ _) (Nat.le_refl _) (by simp) ?_;(case hd=>rfl);(case hg=>rfl);(case hr=>first|(go_simp;done)|(go_simp;rfl));(case hp=>exact (Reps.one (show Kd.FK k43 _ _ (⟨af⟩:S43) [.slice ay af.length az] from (k43_mkF _ _ (⟨af⟩:S43) (Kd.N_reads' (Kd.N_mono (ok':=(fun _=>True)) (aj.out) (fun k_ hk=>trivial))).2.1 (Kd.N_F (Kd.N_mono (ok':=(fun _=>True)) (aj.out) (fun k_ hk=>trivial))))) (Reps.none _ _)));intro aT aV ho14 hb hg_ hnew_;clear hg_ hnew_;(first|rw [← ar.out] at ho14|(simp only [Int.reduceToNat] at ho14;rw [← ar.out] at ho14));have ak:=mk0 (Kd.N_lower ho14 (bz_ (b_ HB)));replace HB:=mk0 (bt_ (b_ HB) hb);clear aj;have ab:=ak;clear ak hb ho14;obtain ⟨aA,aB,aK⟩:=Kd.N_slice ab.out;subst aK)|((with_reducible refine gate_callee (f:=12) rfl ?_);refine gL_ (some 15) Tryz.func12 #[.slice aA aa.length aB,.agg #[.slice none 0 0,.slice none 0 0],.int .i64 0,.string (⟨#[97]⟩:ByteArray),.int .i64 1] (h:=?_);(refine (Fq.calls k _ _ aa _ _ ([]:List (S72)) _ _ ([]:List Int) 0 (⟨#[97]⟩:ByteArray) 1 au ah _ ?side1 ?side2 ?side3 ?side4 ?side5 ?side6 A1.out).mono ?_);(case side1=>exact cn_ ab);(case side2=>exact (Kd.N_reads' ab.out).2.1);(case side3=>exact Kd.C_nil _ _);(case side4=>exact Nat.le_refl _);(case side5=>exact Kd.C_nil _ _);(case side6=>exact Nat.le_refl _);rintro e aW ⟨rfl,hb⟩;refine ⟨_,rfl,?_⟩;replace ab:=mk0 (Kd.N_below (nn_ ab) hb);replace HB:=mk0 (bt_ (b_ HB) hb);(try clear hb))|((with_reducible refine gate_dst (N:=21) rfl ?_);refine Kd.R_lit k72 _ 72 ?hg (N:=21) ?hd (xs:=([(⟨0,(⟨#[97]⟩:ByteArray),(⟨#[]⟩:ByteArray),true⟩:S72)]:List (S72))) (inner:=[.int .i64 0,.string (⟨#[97]⟩:ByteArray),.string (⟨#[]⟩:ByteArray),.bool true]) (ok:=fun _=>True) (okp:=fun _=>True) ?hr ?hp (fun _ hk=>hk) trivial (Below.refl _ _) (Nat.le_refl _) (by simp) ?_;(case hd=>rfl);(case hg=>rfl);(case hr=>first|(go_simp;done)|(go_simp;rfl));(case hp=>exact (Reps.c4 (show Kd.M k72 _ _ _ (⟨0,(⟨#[97]⟩:ByteArray),(⟨#[]⟩:ByteArray),true⟩:S72) [.int .i64 0,.string (⟨#[97]⟩:ByteArray),.string (⟨#[]⟩:ByteArray),.bool true] from (k72_mkM _ _ _ (⟨0,(⟨#[97]⟩:ByteArray),(⟨#[]⟩:ByteArray),true⟩:S72) )) (Reps.none _ _)));intro aU aX ho18 hb hg_ hnew_;clear hg_ hnew_;(first|rw [← aw.out] at ho18|(simp only [Int.reduceToNat] at ho18;rw [← aw.out] at ho18));have aL:=mk0 (Kd.R_lower ho18 (bz_ (b_ HB)));replace ab:=mk0 (Kd.N_elder' (nn_ ab) (Kd.R_base ho18) hb);replace HB:=mk0 (bt_ (b_ HB) hb);have ag:=aL;clear aL hb ho18;obtain ⟨aM,aN,aO⟩:=Kd.R_slice ag.out;subst aO)|((with_reducible refine gate_callee (f:=12) rfl ?_);refine gL_ (some 23) Tryz.func12 #[.slice aA aa.length aB,.agg #[.slice aM av.length aN,.slice none 0 0],.int .i64 0,.string (⟨#[97]⟩:ByteArray),.int .i64 1] (h:=?_);(refine (Fq.calls k _ _ aa _ _ av _ _ ([]:List Int) 0 (⟨#[97]⟩:ByteArray) 1 aC ax _ ?side1 ?side2 ?side3 ?side4 ?side5 ?side6 A2.out).mono ?_);(case side1=>exact cn_ ab);(case side2=>exact (Kd.N_reads' ab.out).2.1);(case side3=>exact cr_ ag);(case side4=>exact (Kd.R_reads' ag.out).2.1);(case side5=>exact Kd.C_nil _ _);(case side6=>exact Nat.le_refl _);rintro e aY ⟨rfl,hb⟩;refine ⟨_,rfl,?_⟩;replace ab:=mk0 (Kd.N_below (nn_ ab) hb);replace ag:=mk0 (Kd.R_below (r_ ag) hb);replace HB:=mk0 (bt_ (b_ HB) hb);(try clear hb))|((with_reducible refine gate_callee (f:=15) rfl ?_);refine gL_ (some 27) Tryz.func15 #[.int .i64 ah] (h:=?_);(with_reducible refine (F0.calls ah ac _ A3.out).mono ?_);rintro e w' ⟨rfl,⟨nd,rfl⟩⟩;refine ⟨_,rfl,?_⟩)|(go_at_call 15;(with_reducible refine (F0.calls ax ad _ A6.out).mono ?_);rintro e w' ⟨rfl,⟨nd,rfl⟩⟩)|((with_reducible refine gate_callee (f:=15) rfl ?_);refine gL_ (some 27) Tryz.func15 #[.int .i64 ah] (h:=?_);(with_reducible refine (F0.calls ah ac _ A3.out).mono ?_);rintro e w' ⟨rfl,⟨nd,rfl⟩⟩;refine ⟨_,rfl,?_⟩))
 ·go_ret
  exact ⟨sa_,b_ HB⟩
 ·go_ret
  exact ⟨sa_,b_ HB⟩
 ·go_ret
  exact ⟨sa_,b_ HB⟩
end Go.Proofs.YtbaecdcfefmcgaaGreat.PVrd
