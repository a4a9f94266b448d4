import Derived.Test.YtbaecdcfefmcgaaGreatPVrdx0
import Derived.Test.YtbaecdcfefmcgaaGreatPVrdx6
namespace Go.Proofs.YtbaecdcfefmcgaaGreat.PVrd
open Go.RowKit Go.Proofs.YtbaecdcfefmcgaaGreatW.PrintWords Go.Proofs.YtbaecdcfefmcgaaGreatW.PrintLast Go.Proofs.YtbaecdcfefmcgaaGreatW.PrintMore
attribute [local go_sem] max2_int min2_int max_two min_two max_three min_three max_four min_four
set_option maxHeartbeats 8000000
set_option maxRecDepth 100000
set_option linter.unusedVariables false
set_option linter.unusedSimpArgs false
mutual
def Fp.l0:Nat→List (S72)→Int→Int→Option (Int)
 | 0,_,_,_=>none
 | k + 1,a,b,c=>if c<(a.length:Int) then (Fp.j1 k a b c (decide (b<1048576))) else (Fp.j1 k a b c false)
def Fp.j1:Nat→List (S72)→Int→Int→Bool→Option (Int)
 | 0,_,_,_,_=>none
 | k + 1,b,c,a,d=>if d=true then (if 0≤a then (if a<(b.length:Int) then (Fp.l0 k b (wrap64 (c + (wrap64 (Int.tdiv (wrap64 ((((rd_T72 b a).f1).size:Int) + (((rd_T72 b a).f2).size:Int))) 8)))) (wrap64 (a + 1))) else (none)) else (none)) else (some c)
end
def Fp.f (k:Nat) (l0:List (S72)):Option (Int):=Fp.l0 k l0 (l0.length:Int) 0
theorem Fp.mono_l:∀ k,(∀ y0 y1 y2,LeO (Fp.l0 k y0 y1 y2) (Fp.l0 (k + 1) y0 y1 y2))∧(∀ y0 y1 y2 y3,LeO (Fp.j1 k y0 y1 y2 y3) (Fp.j1 (k + 1) y0 y1 y2 y3))
 | 0=>⟨fun _ _ _ r h=>by simp [Fp.l0] at h,fun _ _ _ _ r h=>by simp [Fp.j1] at h⟩
 | k + 1=>by
  obtain ⟨ih0,ih1⟩:=Fp.mono_l k
  refine ⟨?_,?_⟩
  all_goals (intros;first|unfold Fp.l0|unfold Fp.j1)
  all_goals exact mz_
theorem Fp.mono:∀ a0 k,LeO (Fp.f k a0) (Fp.f (k + 1) a0):=by
 intro a0 k
 obtain ⟨ih0,ih1⟩:=Fp.mono_l k
 unfold Fp.f
 exact mz_
theorem Fp.calls (k:Nat) (A0:Option Addr) (c0:Nat) (l0:List (S72)) (r:Int) (w:World) (hr0:Kd.C k72 w A0 l0.length l0) (hc0:l0.length≤c0) (h:Fp.f k l0=some r) :
 Calls Tryz.prog 26 #[.slice A0 l0.length c0] w fun e w'=>e = .returned (.int .i64 r)∧Drawn0 w w':=by
 have HR0:=mk0 hr0
 have HC0:=mk0 hc0
 clear hr0 hc0
 have H:(Fp.l0 k l0 (l0.length:Int) 0)=some r:=h
 clear h
 have H':=mk0 H
 clear H
 go_enter Tryz.func26,Tryz.ntmps26
 go_wp2
 repeat (go_quiet (fail);try go_wp2)
 go_loopg [3,4] k (fun kq v3 v4 w'=>∃ (ab:Int) (aa:Int),v3 = .int .i64 ab∧v4 = .int .i64 aa∧Fc (Fp.l0 kq l0 ab aa=some r)∧Fc (kq≤k)∧Drawn0 w w')
 case atStart=>exact ⟨((l0.length:Int)),(0),sm_,sm_,H',⟨Nat.le_refl _⟩,by repeat (first|exact Drawn0.refl _|apply Drawn0.step)⟩
 case round=>
  clear H'
  obtain ⟨ab,aa,rfl,rfl,HA,ai,⟨m1,rfl⟩⟩:=hrel
  cases gk with
  | zero=>exact absurd HA.out (by simp [Fp.l0])
  | succ k1=>
   have H:=HA.out
   clear HA
   simp only [Fp.l0] at H
   as_aux_lemma=>
    have HC2:=mk0 H
    clear H
    go_upto_region 3 with (fail)
    repeat (go_quiet (fail);go_upto_region 3 with (fail))
    go_cut [14] (fun v14 wc=>∃ (kq:Nat) (ac:Bool),v14 = .bool ac∧Fc (Fp.j1 kq l0 ab aa ac=some r)∧Fc (kq≤k1)∧Drawn0 w wc)
    case first=>
     have H:=HC2.out
     clear HC2
     by_cases c3:aa<(l0.length:Int)
     ·rw [if_pos c3] at H
      have ad:=decide_eq_true c3
      clear c3
      (first|rw [ad]|(simp only [i64_w,i32_w];rw [ad])|skip)
      have H':=mk0 H
      clear H
      go_wp2
      repeat (go_quiet (fail);try go_wp2)
      go_meet
      case rel=>exact ⟨_,(decide (ab<1048576)),sm_,H',⟨by have:=ai.out;first|omega|exact Nat.le_refl _⟩,by repeat (first|exact Drawn0.refl _|apply Drawn0.step)⟩
     ·rw [if_neg c3] at H
      have ad:=decide_eq_false c3
      clear c3
      (first|rw [ad]|(simp only [i64_w,i32_w];rw [ad])|skip)
      have H':=mk0 H
      clear H
      go_wp2
      repeat (go_quiet (fail);try go_wp2)
      go_meet
      case rel=>exact ⟨_,(false),sm_,H',⟨by have:=ai.out;first|omega|exact Nat.le_refl _⟩,by repeat (first|exact Drawn0.refl _|apply Drawn0.step)⟩
    case rest=>
     clear HC2
     obtain ⟨kq,ac,rfl,HA,al,⟨mc1,rfl⟩⟩:=hcut
     cases kq with
     | zero=>exact absurd HA.out (by simp [Fp.j1])
     | succ ay=>
      have H:=HA.out
      clear HA
      simp only [Fp.j1] at H
      as_aux_lemma=>
       by_cases c4:ac=true
       ·subst c4
        rw [if_pos rfl] at H
        by_cases c5:0≤aa
        ·rw [if_pos c5] at H
         have az:=decide_eq_true c5
         clear c5
         by_cases c6:aa<(l0.length:Int)
         ·rw [if_pos c6] at H
          have aA:=decide_eq_true c6
          clear c6
          have H':=mk0 H
          clear H
          have ae:0≤(aa:Int):=od_
          have af:aa<(l0.length:Int):=od_
          obtain ⟨aj,am,an,ao,ap,aq⟩:=at_T72 HR0.out aa ae af
          cases am
          replace ae:=eq_true ae
          replace af:=eq_true af
          have ag:0≤(aa:Int):=od_
          have ah:aa<(l0.length:Int):=od_
          obtain ⟨ak,ar,au,av,aw,ax⟩:=at_T72 HR0.out aa ag ah
          obtain rfl:aj=ak:=(by injection ar)
          replace ag:=eq_true ag
          replace ah:=eq_true ah
          go_wp2
          repeat (go_quiet (fail);try go_wp2)
          go_roundg ay
          case measure=>have:=ai.out;have:=al.out;omega
          case rel=>exact ⟨(wrap64 (ab + (wrap64 (Int.tdiv (wrap64 ((((rd_T72 l0 aa).f1).size:Int) + (((rd_T72 l0 aa).f2).size:Int))) 8)))),(wrap64 (aa + 1)),sm_,sm_,H',⟨by have:=ai.out;have:=al.out;omega⟩,by repeat (first|exact Drawn0.refl _|apply Drawn0.step)⟩
         ·rw [if_neg c6] at H
          exact absurd H (by simp)
        ·rw [if_neg c5] at H
         exact absurd H (by simp)
       ·replace c4:=Bool.eq_false_iff.mpr c4
        subst c4
        rw [if_neg nf_] at H
        obtain rfl:=Option.some.inj H
        go_wp2
        repeat (go_quiet (fail);try go_wp2)
        go_ret
        exact ⟨by first|rfl|(simp;done)|(simp [*];done),by repeat (first|exact Drawn0.refl _|apply Drawn0.step)⟩
mutual
def Fg.l0:Nat→Int→Int→List (S43)→List (S34)→List Int→List ByteArray→List (S55)→List Int→Option (Bool)
 | 0,_,_,_,_,_,_,_,_=>none
 | k + 1,a,b,d,c,e,f,g,h=>if b<(c.length:Int) then (Fg.j1 k a b (decide (a<1048576)) d c e f g h) else (Fg.j1 k a b false d c e f g h)
def Fg.j1:Nat→Int→Int→Bool→List (S43)→List (S34)→List Int→List ByteArray→List (S55)→List Int→Option (Bool)
 | 0,_,_,_,_,_,_,_,_,_=>none
 | k + 1,c,a,d,e,b,g,h,i,j=>if d=true then (if 0≤a then (if a<(b.length:Int) then ((Fp.f k ((rd_T34 b a).f0)).bind fun l=>(Fg.l0 k (wrap64 ((wrap64 (c + l)) + (((rd_T34 b a).f1).length:Int))) (wrap64 (a + 1)) e b g h i j)) else (none)) else (none)) else (some (decide (c > 700)))
end
def Fg.f (k:Nat) (l0_0:List (S43)) (l0_1:List (S34)) (l0_2:List Int) (l0_3:List ByteArray) (l0_4:List (S55)) (l0_5:List Int):Option (Bool):=(Fu.f k l0_0).bind fun a=>((Fv.f k l0_3).bind fun b=>(Fg.l0 k (wrap64 ((wrap64 ((wrap64 ((wrap64 ((wrap64 (a + (wrap64 (Int.tdiv b 8)))) + (l0_1.length:Int))) + (l0_2.length:Int))) + (l0_4.length:Int))) + (l0_5.length:Int))) 0 l0_0 l0_1 l0_2 l0_3 l0_4 l0_5))
theorem Fg.mono_l:∀ k,(∀ y0 y1 y2 y3 y4 y5 y6 y7,LeO (Fg.l0 k y0 y1 y2 y3 y4 y5 y6 y7) (Fg.l0 (k + 1) y0 y1 y2 y3 y4 y5 y6 y7))∧(∀ y0 y1 y2 y3 y4 y5 y6 y7 y8,LeO (Fg.j1 k y0 y1 y2 y3 y4 y5 y6 y7 y8) (Fg.j1 (k + 1) y0 y1 y2 y3 y4 y5 y6 y7 y8))
 | 0=>⟨fun _ _ _ _ _ _ _ _ r h=>by simp [Fg.l0] at h,fun _ _ _ _ _ _ _ _ _ r h=>by simp [Fg.j1] at h⟩
 | k + 1=>by
  obtain ⟨ih0,ih1⟩:=Fg.mono_l k
  have:=@Fu.mono
  have:=@Fv.mono
  have:=@Fp.mono
  refine ⟨?_,?_⟩
  all_goals (intros;first|unfold Fg.l0|unfold Fg.j1)
  all_goals exact mz_
theorem Fg.mono:∀ a0 a1 a2 a3 a4 a5 k,LeO (Fg.f k a0 a1 a2 a3 a4 a5) (Fg.f (k + 1) a0 a1 a2 a3 a4 a5):=by
 intro a0 a1 a2 a3 a4 a5 k
 obtain ⟨ih0,ih1⟩:=Fg.mono_l k
 have:=@Fu.mono
 have:=@Fv.mono
 have:=@Fp.mono
 unfold Fg.f
 exact mz_
def Fg.T1:Bool×List (List Nat×List Nat):=(true,[([],[]),([0],[0]),([1],[1]),([],[]),([3],[3]),([4,2],[4]),([5],[5]),([2,6],[2,6]),([],[]),([8],[8]),([9],[9]),([7,10],[7,10]),([],[]),([12],[12]),([13],[13]),([11,14],[11,14]),([],[]),([16],[16]),([17],[17]),([15,18],[15,18]),([],[]),([20],[20]),([21],[21]),([19,22],[19,22]),([23,5,0,1,2,3,4,5,6,7,8,9,10,11,12,13,14,15,16,17,18,19,20,21,22,23],[23])])
def Fg.B1:List Nat:=[0,1,3,0,8,31,63,127,0,256,768,2047,0,4096,12288,32767,0,65536,196608,524287,0,1048576,3145728,8388607,16777215]
theorem Fg.tab1:rtab .any (opsOf Tryz.f4 1)=Fg.T1:=by kernel_rfl
theorem Fg.bits1:waitsOk Fg.T1.2 Fg.B1=true:=by kernel_rfl
def Fg.T5:Bool×List (List Nat×List Nat):=(true,[([],[]),([],[]),([1],[1]),([],[]),([2,3],[2,3]),([4],[4]),([5],[5]),([6],[6]),([0,7],[0,7]),([],[]),([9],[9]),([],[]),([10,11],[10,11]),([12],[12]),([13],[13]),([14],[14]),([8,15],[8,15]),([16,7,0,1,2,3,4,5,6,7,8,9,10,11,12,13,14,15,16],[0,16])])
def Fg.B5:List Nat:=[0,0,2,0,14,30,62,126,255,0,512,0,3584,7680,15872,32256,65535,131071]
theorem Fg.tab5:rtab .any (opsOf Tryz.f4 5)=Fg.T5:=by kernel_rfl
theorem Fg.bits5:waitsOk Fg.T5.2 Fg.B5=true:=by kernel_rfl
theorem Fg.calls (k:Nat) (A0_0:Option Addr) (c0_0:Nat) (l0_0:List (S43)) (A0_1:Option Addr) (c0_1:Nat) (l0_1:List (S34)) (A0_2:Option Addr) (c0_2:Nat) (l0_2:List Int) (A0_3:Option Addr) (c0_3:Nat) (l0_3:List ByteArray) (A0_4:Option Addr) (c0_4:Nat) (l0_4:List (S55)) (A0_5:Option Addr) (c0_5:Nat) (l0_5:List Int) (r:Bool) (w:World) (hr0_0:Kd.C k43 w A0_0 l0_0.length l0_0) (hc0_0:l0_0.length≤c0_0) (hr0_1:Kd.C k34 w A0_1 l0_1.length l0_1) (hc0_1:l0_1.length≤c0_1) (hr0_2:Kd.C (Kd.int .i64) w A0_2 l0_2.length l0_2) (hc0_2:l0_2.length≤c0_2) (hr0_3:Kd.C Kd.string w A0_3 l0_3.length l0_3) (hc0_3:l0_3.length≤c0_3) (hr0_4:Kd.C k55 w A0_4 l0_4.length l0_4) (hc0_4:l0_4.length≤c0_4) (hr0_5:Kd.C (Kd.int .i64) w A0_5 l0_5.length l0_5) (hc0_5:l0_5.length≤c0_5) (h:Fg.f k l0_0 l0_1 l0_2 l0_3 l0_4 l0_5=some r) :
 Calls Tryz.prog 4 #[.agg #[.slice A0_0 l0_0.length c0_0,.slice A0_1 l0_1.length c0_1,.slice A0_2 l0_2.length c0_2,.slice A0_3 l0_3.length c0_3,.slice A0_4 l0_4.length c0_4,.slice A0_5 l0_5.length c0_5]] w fun e w'=>e = .returned (.bool r)∧Below w.heap.size w w':=by
 have hu28:=Tryz.underlying28
 have a6:=mk0 hr0_0
 have a7:=mk0 hc0_0
 clear hr0_0 hc0_0
 have aI:=mk0 hr0_1
 have bN:=mk0 hc0_1
 clear hr0_1 hc0_1
 have bO:=mk0 hr0_2
 have bP:=mk0 hc0_2
 clear hr0_2 hc0_2
 have a8:=mk0 hr0_3
 have a9:=mk0 hc0_3
 clear hr0_3 hc0_3
 have bQ:=mk0 hr0_4
 have bR:=mk0 hc0_4
 clear hr0_4 hc0_4
 have bS:=mk0 hr0_5
 have bT:=mk0 hc0_5
 clear hr0_5 hc0_5
 have HB:=mk0 (Below.refl w.heap.size w)
 have H:((Fu.f k l0_0).bind fun aD=>((Fv.f k l0_3).bind fun aE=>(Fg.l0 k (wrap64 ((wrap64 ((wrap64 ((wrap64 ((wrap64 (aD + (wrap64 (Int.tdiv aE 8)))) + (l0_1.length:Int))) + (l0_2.length:Int))) + (l0_4.length:Int))) + (l0_5.length:Int))) 0 l0_0 l0_1 l0_2 l0_3 l0_4 l0_5)))=some r:=h
 clear h
 replace H:=ob_ H
 obtain ⟨aD,A2,H⟩:=H
 try dsimp only at H
 replace H:=ob_ H
 obtain ⟨aE,A3,H⟩:=H
 try dsimp only at H
 have H':=mk0 H
 clear H
 go_enter Tryz.func4,Tryz.ntmps4
 try go_wp2_with (first|((with_reducible refine gate_dst (N:=1) rfl ?_);refine bx_ (N:=1) (cs:=#[.slice A0_0 l0_0.length c0_0,.slice A0_1 l0_1.length c0_1,.slice A0_2 l0_2.length c0_2,.slice A0_3 l0_3.length c0_3,.slice A0_4 l0_4.length c0_4,.slice A0_5 l0_5.length c0_5]) (t:=28) (h:=?_);intro ac hg w4 hbox hb;have ny2_:=mk0 (gz_ HB hg);have bb:=mk0 (gz_ HB hg);replace HB:=mk0 (bt_ (b_ HB) hb);have aa:=mk0 (hbox);have bU:=ny2_;have bV:=bb;clear ny2_ bb;clear hb hbox hg))
 replace aa:=mk0 (bD_ aa.out)
 replace HB:=mk0 (b1_ HB.out)
 refine start_ (n:=25) (S:=fun w'=>w'.cell? ⟨ac,0,none⟩=some (.slice A0_0 l0_0.length c0_0)∧w'.cell? ⟨ac,1,none⟩=some (.slice A0_1 l0_1.length c0_1)∧w'.cell? ⟨ac,2,none⟩=some (.slice A0_2 l0_2.length c0_2)∧w'.cell? ⟨ac,3,none⟩=some (.slice A0_3 l0_3.length c0_3)∧w'.cell? ⟨ac,4,none⟩=some (.slice A0_4 l0_4.length c0_4)∧w'.cell? ⟨ac,5,none⟩=some (.slice A0_5 l0_5.length c0_5)) (ds:=[]) (bt 25 0) (by kernel_rfl) rfl rfl ⟨bk_ aa 0,bk_ aa 1,bk_ aa 2,bk_ aa 3,bk_ aa 4,bk_ aa 5⟩ (fun hHeld=>?_);refine with_tabW Fg.tab1 Fg.bits1 (fun HT_ HW_=>?_)
 generalize w4.drew=w5 at aa HB hHeld ⊢
 refine pq_ HT_.out 0 5 (bt 25 1) (h:=?_)
 refine pq_ HT_.out 3 8 (bt 25 9) (h:=?_)
 refine pq_ HT_.out 8 13 (bt 25 265) (h:=?_)
 refine pq_ HT_.out 12 17 (bt 25 4361) (h:=?_)
 refine pq_ HT_.out 16 21 (bt 25 69897) (h:=?_)
 refine pq_ HT_.out 20 25 (bt 25 1118473) (h:=?_)
 refine tq6_ HT_.out HW_.out 1 6 (bt 25 1118475) hHeld (h:=?_)
 refine tq6_ HT_.out HW_.out 4 9 (bt 25 1118491) hHeld (h:=?_)
 refine tq6_ HT_.out HW_.out 9 14 (bt 25 1119003) hHeld (h:=?_)
 refine pq_ HT_.out 10 15 (bt 25 1120027) (h:=?_)
 refine tq6_ HT_.out HW_.out 13 18 (bt 25 1128219) hHeld (h:=?_)
 refine pq_ HT_.out 14 19 (bt 25 1144603) (h:=?_)
 refine tq6_ HT_.out HW_.out 17 22 (bt 25 1275675) hHeld (h:=?_)
 refine pq_ HT_.out 18 23 (bt 25 1537819) (h:=?_)
 refine tq6_ HT_.out HW_.out 21 26 (bt 25 3634971) hHeld (h:=?_)
 refine pq_ HT_.out 22 27 (bt 25 7829275) (h:=?_)
 refine one_ (i:=2) (N:=some 7) (bt 25 7829279) rfl rfl (one_of HT_.out (by kernel_rfl)) (by decide) (fun K hK=>?_)
 refine goes_ Tryz.func24 (by kernel_rfl) rfl #[.slice A0_0 l0_0.length c0_0] (by rfl) rfl rfl gs_ ?_
 with_reducible refine (Fu.calls k _ _ l0_0 aD _ ?side1 ?side2 A2.out).mono ?_
 (case side1=>exact cb_ a6 HB)
 (case side2=>exact a7.out)
 rintro e w6 ⟨rfl,hb⟩
 refine ⟨_,rfl,?_⟩
 replace aa:=mk0 (u_ aa hb)
 replace HB:=mk0 (bt_ (b_ HB) hb)
 (try clear hb)
 (try clear hk)
 (try clear hi)
 refine hK.out _ _ ⟨bk_ aa 0,bk_ aa 1,bk_ aa 2,bk_ aa 3,bk_ aa 4,bk_ aa 5⟩ (fun hHeld=>?_)
 clear hK K
 refine norm_ (a':=?_) ?_ ?_
 rotate_left
 ·show Act.put _ (some 7) _=_
  simp only [z_]
  rfl
 refine one_ (i:=5) (N:=some 10) (bt 25 7829311) rfl rfl (one_of HT_.out (by kernel_rfl)) (by decide) (fun K hK=>?_)
 refine goes_ Tryz.func25 (by kernel_rfl) rfl #[.slice A0_3 l0_3.length c0_3] (by rfl) rfl rfl gs_ ?_
 with_reducible refine (Fv.calls k _ _ l0_3 aE _ ?side1 ?side2 A3.out).mono ?_
 (case side1=>exact cb_ a8 HB)
 (case side2=>exact a9.out)
 rintro e w' ⟨rfl,⟨nd,rfl⟩⟩
 refine ⟨_,rfl,?_⟩
 refine hK.out _ _ ⟨bk_ aa 0,bk_ aa 1,bk_ aa 2,bk_ aa 3,bk_ aa 4,bk_ aa 5⟩ (fun hHeld=>?_)
 clear hK K
 refine norm_ (a':=?_) ?_ ?_
 rotate_left
 ·show Act.put _ (some 10) _=_
  simp only [z_]
  rfl
 refine pq_ HT_.out 6 11 (bt 25 7829375) (h:=?_)
 refine pq_ HT_.out 7 12 (bt 25 7829503) (h:=?_)
 refine pq_ HT_.out 11 16 (bt 25 7831551) (h:=?_)
 refine pq_ HT_.out 15 20 (bt 25 7864319) (h:=?_)
 refine pq_ HT_.out 19 24 (bt 25 8388607) (h:=?_)
 refine pq_ HT_.out 23 28 (bt 25 16777215) (h:=?_)
 refine pq_ HT_.out 24 3 (bt 25 33554431) (h:=?_)
 refine done_ (done_of HT_.out (by kernel_rfl)) ?_
 try go_wp2
 go_loopg [3,4] k (fun kq v3 v4 w'=>∃ (ai:Int) (ab:Int),v3 = .int .i64 ai∧v4 = .int .i64 ab∧Fc (Fg.l0 kq ai ab l0_0 l0_1 l0_2 l0_3 l0_4 l0_5=some r)∧Fc (kq≤k)∧Fc (w'.heap[ac]? = some (.cells #[(.slice A0_0 l0_0.length c0_0),(.slice A0_1 l0_1.length c0_1),(.slice A0_2 l0_2.length c0_2),(.slice A0_3 l0_3.length c0_3),(.slice A0_4 l0_4.length c0_4),(.slice A0_5 l0_5.length c0_5)] 28 (0,0)))∧Fc (Below w.heap.size w w'))
 case atStart=>exact ⟨(wrap64 ((wrap64 ((wrap64 ((wrap64 ((wrap64 (aD + (wrap64 (Int.tdiv aE 8)))) + (l0_1.length:Int))) + (l0_2.length:Int))) + (l0_4.length:Int))) + (l0_5.length:Int))),(0),sm_,sm_,H',⟨Nat.le_refl _⟩,⟨h_ aa⟩,⟨b_ HB⟩⟩
 case round=>
  clear H'
  obtain ⟨ai,ab,rfl,rfl,HA,aV,aa,HB⟩:=hrel
  cases gk with
  | zero=>exact absurd HA.out (by simp [Fg.l0])
  | succ k1=>
   have H:=HA.out
   clear HA
   simp only [Fg.l0] at H
   as_aux_lemma=>
    have HC7:=mk0 H
    clear H
    go_upto_region 3 with (fail)
    go_cut [37] (fun v37 wc=>∃ (kq:Nat) (aj:Bool),v37 = .bool aj∧Fc (Fg.j1 kq ai ab aj l0_0 l0_1 l0_2 l0_3 l0_4 l0_5=some r)∧Fc (kq≤k1)∧Fc (wc.heap[ac]? = some (.cells #[(.slice A0_0 l0_0.length c0_0),(.slice A0_1 l0_1.length c0_1),(.slice A0_2 l0_2.length c0_2),(.slice A0_3 l0_3.length c0_3),(.slice A0_4 l0_4.length c0_4),(.slice A0_5 l0_5.length c0_5)] 28 (0,0)))∧Fc (Below w.heap.size w wc))
    case first=>
     have H:=HC7.out
     clear HC7
     by_cases c8:ab<(l0_1.length:Int)
     ·rw [if_pos c8] at H
      have am:=decide_eq_true c8
      clear c8
      (first|rw [am]|(simp only [i64_w,i32_w];rw [am])|skip)
      have H':=mk0 H
      clear H
      obtain ⟨bw,bx,bz,bA,bB,bC,bD,bE,bF,bG,bH,bI⟩:=c6_ aa
      go_wp2
      go_meet
      case rel=>exact ⟨_,(decide (ai<1048576)),sm_,H',⟨by have:=aV.out;first|omega|exact Nat.le_refl _⟩,⟨h_ aa⟩,⟨b_ HB⟩⟩
     ·rw [if_neg c8] at H
      have am:=decide_eq_false c8
      clear c8
      (first|rw [am]|(simp only [i64_w,i32_w];rw [am])|skip)
      have H':=mk0 H
      clear H
      obtain ⟨bc,bd,be,bf,bg,bh,bi,bj,bk,bl,bm,bn⟩:=c6_ aa
      go_wp2
      go_meet
      case rel=>exact ⟨_,(false),sm_,H',⟨by have:=aV.out;first|omega|exact Nat.le_refl _⟩,⟨h_ aa⟩,⟨b_ HB⟩⟩
    case rest=>
     clear HC7
     obtain ⟨kq,aj,rfl,HA,bo,aa,HB⟩:=hcut
     cases kq with
     | zero=>exact absurd HA.out (by simp [Fg.j1])
     | succ bp=>
      have H:=HA.out
      clear HA
      simp only [Fg.j1] at H
      as_aux_lemma=>
       by_cases aW:aj=true
       ·subst aW
        rw [if_pos rfl] at H
        by_cases aX:0≤ab
        ·rw [if_pos aX] at H
         have bW:=decide_eq_true aX
         clear aX
         by_cases aY:ab<(l0_1.length:Int)
         ·rw [if_pos aY] at H
          have bX:=decide_eq_true aY
          clear aY
          replace H:=ob_ H
          obtain ⟨aZ,bY,H⟩:=H
          try dsimp only at H
          have H':=mk0 H
          clear H
          try go_wp2
          replace aa:=mk0 (bD_ aa.out)
          replace HB:=mk0 (b1_ HB.out)
          have aJ:0≤(ab:Int):=od_
          have aK:ab<(l0_1.length:Int):=od_
          obtain ⟨ad,ak,al,aG,aH,bq,ae,af,an,ao,ap,aq⟩:=at_T34 aI.out ab aJ aK
          have ar:=af
          have au:=ae
          cases bq
          replace ae:=(bc_ HB ae :)
          replace af:=(bc_ HB af :)
          have av:=mk0 ao
          have aM:=mk0 an
          clear ao an
          have aN:=mk0 aq
          have br:=mk0 ap
          clear aq ap
          replace aJ:=eq_true aJ
          replace aK:=eq_true aK
          have aQ:0≤(ab:Int):=od_
          have aR:ab<(l0_1.length:Int):=od_
          obtain ⟨ba,bJ,bK,bL,bM,bs,ag,ah,aw,ax,ay,az⟩:=at_T34 aI.out ab aQ aR
          have aA:=ah
          have aC:=ag
          obtain rfl:ad=ba:=(by injection bs)
          replace ag:=(bc_ HB ag :)
          replace ah:=(bc_ HB ah :)
          have aT:=mk0 ax
          have bu:=mk0 aw
          clear ax aw
          have aU:=mk0 az
          have bv:=mk0 ay
          clear az ay
          replace aQ:=eq_true aQ
          replace aR:=eq_true aR
          have ea_:=Option.some.inj (ae.symm.trans ag)
          injection ea_ with ea_ en_ ec_
          subst ea_
          subst ec_
          clear en_
          have ea_:=Option.some.inj (af.symm.trans ah)
          injection ea_ with ea_ en_ ec_
          subst ea_
          subst ec_
          clear en_
          refine start_ (n:=18) (S:=fun w'=>w'.cell? ⟨ac,0,none⟩=some (.slice A0_0 l0_0.length c0_0)∧w'.cell? ⟨ac,1,none⟩=some (.slice (some ad) l0_1.length c0_1)∧w'.cell? ⟨ac,2,none⟩=some (.slice A0_2 l0_2.length c0_2)∧w'.cell? ⟨ac,3,none⟩=some (.slice A0_3 l0_3.length c0_3)∧w'.cell? ⟨ac,4,none⟩=some (.slice A0_4 l0_4.length c0_4)∧w'.cell? ⟨ac,5,none⟩=some (.slice A0_5 l0_5.length c0_5)∧w'.cell? (ad.add ((ab).toNat * 2))=some (.slice ak ((rd_T34 l0_1 ab).f0).length al)∧w'.cell? ⟨(ad.add ((ab).toNat * 2)).block,(ad.add ((ab).toNat * 2)).off + 1,none⟩=some (.slice aG ((rd_T34 l0_1 ab).f1).length aH)∧w'.cell? (ad.add ((ab).toNat * 2))=some (.slice ak ((rd_T34 l0_1 ab).f0).length al)∧w'.cell? ⟨(ad.add ((ab).toNat * 2)).block,(ad.add ((ab).toNat * 2)).off + 1,none⟩=some (.slice aG ((rd_T34 l0_1 ab).f1).length aH)) (ds:=[]) (bt 18 0) (by kernel_rfl) rfl rfl ⟨bk_ aa 0,bk_ aa 1,bk_ aa 2,bk_ aa 3,bk_ aa 4,bk_ aa 5,((bc_ HB au :)),((bc_ HB ar :)),((bc_ HB aC :)),((bc_ HB aA :))⟩ (fun hHeld=>?_);refine with_tabW Fg.tab5 Fg.bits5 (fun HT_ HW_=>?_)
          generalize wc.drew=bZ at aa HB av aN aT aU ae af ag ah hHeld ⊢
          refine pq_ HT_.out 0 40 (bt 18 1) (h:=?_)
          refine pq_ HT_.out 1 41 (bt 18 3) (h:=?_)
          refine pq_ HT_.out 3 43 (bt 18 11) (h:=?_)
          refine pq_ HT_.out 9 49 (bt 18 523) (h:=?_)
          refine pq_ HT_.out 11 51 (bt 18 2571) (h:=?_)
          refine tq10_ HT_.out HW_.out 2 42 (bt 18 2575) hHeld (h:=?_)
          refine pq_ HT_.out 4 44 (bt 18 2591) (h:=?_)
          refine pq_ HT_.out 5 45 (bt 18 2623) (h:=?_)
          refine tq10_ HT_.out HW_.out 6 46 (bt 18 2687) hHeld (h:=?_)
          refine tq10_ HT_.out HW_.out 10 50 (bt 18 3711) hHeld (h:=?_)
          refine pq_ HT_.out 12 52 (bt 18 7807) (h:=?_)
          refine pq_ HT_.out 13 53 (bt 18 15999) (h:=?_)
          refine tq10_ HT_.out HW_.out 14 54 (bt 18 32383) hHeld (h:=?_)
          refine pq_ HT_.out 15 55 (bt 18 65151) (h:=?_)
          refine one_ (i:=7) (N:=some 47) (bt 18 65279) rfl rfl (one_of HT_.out (by kernel_rfl)) (by decide) (fun K hK=>?_)
          refine goes_ Tryz.func26 (by kernel_rfl) rfl #[.slice ak ((rd_T34 l0_1 ab).f0).length al] (by rfl) rfl rfl gs_ ?_
          with_reducible refine (Fp.calls bp _ _ ((rd_T34 l0_1 ab).f0) aZ _ ?side1 ?side2 bY.out).mono ?_
          (case side1=>exact cb_ av HB)
          (case side2=>exact aM.out)
          rintro e w' ⟨rfl,⟨nd,rfl⟩⟩
          refine ⟨_,rfl,?_⟩
          refine hK.out _ _ ⟨bk_ aa 0,bk_ aa 1,bk_ aa 2,bk_ aa 3,bk_ aa 4,bk_ aa 5,((bc_ HB au :)),((bc_ HB ar :)),((bc_ HB aC :)),((bc_ HB aA :))⟩ (fun hHeld=>?_)
          clear hK K
          refine norm_ (a':=?_) ?_ ?_
          rotate_left
          ·show Act.put _ (some 47) _=_
           simp only [z_]
           rfl
          refine pq_ HT_.out 8 48 (bt 18 65535) (h:=?_)
          refine pq_ HT_.out 16 56 (bt 18 131071) (h:=?_)
          refine pq_ HT_.out 17 3 (bt 18 262143) (h:=?_)
          refine done_ (done_of HT_.out (by kernel_rfl)) ?_
          try go_wp2
          go_roundg bp
          case measure=>have:=aV.out;have:=bo.out;omega
          case rel=>exact ⟨(wrap64 ((wrap64 (ai + aZ)) + (((rd_T34 l0_1 ab).f1).length:Int))),(wrap64 (ab + 1)),sm_,sm_,H',⟨by have:=aV.out;have:=bo.out;omega⟩,⟨h_ aa⟩,⟨b_ HB⟩⟩
         ·rw [if_neg aY] at H
          exact absurd H (by simp)
        ·rw [if_neg aX] at H
         exact absurd H (by simp)
       ·replace aW:=Bool.eq_false_iff.mpr aW
        subst aW
        rw [if_neg nf_] at H
        obtain rfl:=Option.some.inj H
        go_wp2
        go_ret
        exact ⟨sa_,b_ HB⟩
def FT.l0:Nat→List (S78)→List (S78)→Int→Option ((List (S78)))
 | 0,_,_,_=>none
 | k + 1,b,c,a=>if a<(b.length:Int) then (if 0≤a then (if c.length<4398046511104 then (FT.l0 k b (c ++ [(⟨(rd_T78 b a).f0,(rd_T78 b a).f1,(rd_T78 b a).f2⟩:S78)]) (wrap64 (a + 1))) else (none)) else (none)) else (some c)
def FT.f (k:Nat) (l0:List (S78)):Option ((List (S78))):=FT.l0 k l0 ([]:List (S78)) 0
theorem FT.mono_l:∀ k,(∀ y0 y1 y2,LeO (FT.l0 k y0 y1 y2) (FT.l0 (k + 1) y0 y1 y2))
 | 0=>fun _ _ _ r h=>by simp [FT.l0] at h
 | k + 1=>by
  have ih0:=FT.mono_l k
  all_goals (intros;first|unfold FT.l0)
  all_goals exact mz_
theorem FT.mono:∀ a0 k,LeO (FT.f k a0) (FT.f (k + 1) a0):=by
 intro a0 k
 have ih0:=FT.mono_l k
 unfold FT.f
 exact mz_
theorem FT.calls (k:Nat) (A0:Option Addr) (c0:Nat) (l0:List (S78)) (r:List (S78)) (w:World) (hr0:Kd.C k78 w A0 l0.length l0) (hc0:l0.length≤c0) (h:FT.f k l0=some r) :
 Calls Tryz.prog 100 #[.slice A0 l0.length c0] w fun e w'=>∃ v0_:Value,e = .returned (v0_)∧Kd.R k78 78 w' w.heap.size (fun _=>True) v0_ r∧Below w.heap.size w w':=by
 have hu78:=Tryz.underlying78
 have HR0:=mk0 hr0
 have HC0:=mk0 hc0
 clear hr0 hc0
 have HB:=mk0 (Below.refl w.heap.size w)
 have H:(FT.l0 k l0 ([]:List (S78)) 0)=some r:=h
 clear h
 have H':=mk0 H
 clear H
 go_enter Tryz.func100,Tryz.ntmps100
 go_wp2
 go_loopg [3,4] k (fun kq v3 v4 w'=>∃ (ab:List (S78)) (aa:Int),v4 = .int .i64 aa∧Fc (FT.l0 kq l0 ab aa=some r)∧Fc (kq≤k)∧Fc (Kd.R k78 78 w' w.heap.size (fun _=>True) v3 ab)∧Fc (Below w.heap.size w w'))
 case atStart=>exact ⟨(([]:List (S78))),(0),sm_,H',⟨Nat.le_refl _⟩,⟨nl_⟩,⟨b_ HB⟩⟩
 case round=>
  clear H'
  obtain ⟨ab,aa,rfl,HA,am,ag,HB⟩:=hrel
  cases gk with
  | zero=>exact absurd HA.out (by simp [FT.l0])
  | succ k1=>
   have H:=HA.out
   clear HA
   simp only [FT.l0] at H
   as_aux_lemma=>
    by_cases c2:aa<(l0.length:Int)
    ·rw [if_pos c2] at H
     have an:=decide_eq_true c2
     clear c2
     by_cases c3:0≤aa
     ·rw [if_pos c3] at H
      have aq:=decide_eq_true c3
      clear c3
      by_cases c4:ab.length<4398046511104
      ·rw [if_pos c4] at H
       have LMc4:=mk0 c4
       clear c4
       obtain ⟨aj,af⟩:∃ y_:List (S78),y_=(ab ++ [(⟨(rd_T78 l0 aa).f0,(rd_T78 l0 aa).f1,(rd_T78 l0 aa).f2⟩:S78)]):=⟨_,rfl⟩
       replace H:(FT.l0 k1 l0 aj (wrap64 (aa + 1)))=some r:=rp_ H af
       have ak:=mk0 af
       clear af
       have H':=mk0 H
       clear H
       have ah:0≤(aa:Int):=od_
       have ai:aa<(l0.length:Int):=od_
       obtain ⟨ap,ao,ac,ad,ae⟩:=at_T78 HR0.out aa ah ai
       cases ao
       replace ac:=(bc_ HB ac :)
       replace ad:=(bc_ HB ad :)
       replace ae:=(bc_ HB ae :)
       replace ah:=eq_true ah
       replace ai:=eq_true ai
       go_wp2_with (first|((with_reducible refine gate_builtin (b:=.append) (xs:=#[.tmp 11,.tmp 16]) rfl ?_);at_builtin;refine Kd.R_append k78 (w0:=w) w.heap.size rfl (.tmp 11) (.tmp 16) 81 78 (.agg #[(.int .i64 0),(.string ⟨#[]⟩),(.bool false)]) 32 rfl Tryz.underlying81 info78 rfl (by decide) (by omega) u3 ab (⟨(rd_T78 l0 aa).f0,(rd_T78 l0 aa).f1,(rd_T78 l0 aa).f2⟩:S78) [.int .i64 ((rd_T78 l0 aa).f0),.string ((rd_T78 l0 aa).f1),.bool ((rd_T78 l0 aa).f2)] (fun _=>True) (fun _=>False) rfl rfl ?aP (fun _ hk=>hk.elim) ?aF ?aO ?aB ?aS ?aL ?_;(case aP=>exact k78_mkM _ _ _ (⟨(rd_T78 l0 aa).f0,(rd_T78 l0 aa).f1,(rd_T78 l0 aa).f2⟩:S78));(case aB=>exact (b_ HB));(case aF=>exact (fun _ _=>trivial));(case aO=>exact (r_ ag));(case aS=>exact (bz_ (b_ HB)));(case aL=>have:=LMc4.out;omega);intro ar w5 ho hb hg hat;rw [← ak.out] at ho;replace HB:=mk0 (hb);have al:=mk0 (ho);clear ag;clear ho hb hg hat))
       go_roundg k1
       case measure=>have:=am.out;omega
       case rel=>exact ⟨(aj),(wrap64 (aa + 1)),sm_,H',⟨by have:=am.out;omega⟩,⟨r2_ al.out⟩,⟨b_ HB⟩⟩
      ·rw [if_neg c4] at H
       exact absurd H (by simp)
     ·rw [if_neg c3] at H
      exact absurd H (by simp)
    ·rw [if_neg c2] at H
     have an:=decide_eq_false c2
     clear c2
     obtain rfl:=Option.some.inj H
     go_wp2
     go_ret
     exact ⟨_,sa_,by (with_reducible repeat (first|apply Ra_|apply Rn_|apply Rd_));exact ag.out,b_ HB⟩
def Gl.f (k:Nat) (a0_0:ByteArray) (l0_1:List (S78)):Option (ByteArray×(List (S78))):=(FT.f k l0_1).bind fun a=>(some (a0_0,a))
theorem Gl.mono:∀ a0 a1 k,LeO (Gl.f k a0 a1) (Gl.f (k + 1) a0 a1):=by
 intro a0 a1 k
 have:=@FT.mono
 unfold Gl.f
 exact mz_
theorem Gl.calls (k:Nat) (a0_0:ByteArray) (A0_1:Option Addr) (c0_1:Nat) (l0_1:List (S78)) (r1:ByteArray) (r2:List (S78)) (w:World) (hr0_1:Kd.C k78 w A0_1 l0_1.length l0_1) (hc0_1:l0_1.length≤c0_1) (h:Gl.f k a0_0 l0_1=some (r1,r2)) :
 Calls Tryz.prog 77 #[.agg #[.string a0_0,.slice A0_1 l0_1.length c0_1]] w fun e w'=>∃ v1_:Value,e = .returned (.agg #[.string r1,v1_])∧Kd.R k78 78 w' w.heap.size (fun _=>True) v1_ r2∧Below w.heap.size w w':=by
 have hu83:=Tryz.underlying83
 have av:=mk0 hr0_1
 have aw:=mk0 hc0_1
 clear hr0_1 hc0_1
 have HB:=mk0 (Below.refl w.heap.size w)
 have H:((FT.f k l0_1).bind fun ag=>(some (a0_0,ag)))=some (r1,r2):=h
 clear h
 replace H:=ob_ H
 obtain ⟨ag,A2,H⟩:=H
 try dsimp only at H
 simp only [Option.some.injEq,Prod.mk.injEq] at H
 obtain ⟨rfl,rfl⟩:=H
 go_enter Tryz.func77,Tryz.ntmps77
 go_wp2_with (first|((with_reducible refine gate_dst (N:=1) rfl ?_);refine bx_ (N:=1) (cs:=#[.string a0_0,.slice A0_1 l0_1.length c0_1]) (t:=83) (h:=?_);intro a8 hg w3 hbox hb;have ny2_:=mk0 (gz_ HB hg);have ar:=mk0 (gz_ HB hg);replace HB:=mk0 (bt_ (b_ HB) hb);have aa:=mk0 (hbox);have a9:=ny2_;have ba:=ar;clear ny2_ ar;clear hb hbox hg)|((with_reducible refine gate_dst (N:=2) rfl ?_);refine bx_ (N:=2) (cs:=#[.string (⟨#[]⟩:ByteArray),.slice none 0 0]) (t:=83) (h:=?_);intro ab hg w4 hbox hb;have ar:=mk0 (gz_ HB hg);have au:=mk0 (gz_ HB hg);have am:=mk0 (ne1_ aa hg);have an:=mk0 (ne2_ aa hg);replace aa:=mk0 (u_ aa hb);replace HB:=mk0 (bt_ (b_ HB) hb);have ac:=mk0 (hbox);have bb:=au;have ai:=am;have aj:=an;clear ar au am an hb hbox hg;have bd:=ai.out;have be:=aj.out;obtain ⟨aY,aZ,a6,a7⟩:=c2_ aa)|((with_reducible refine gate_dst (N:=3) rfl ?_);refine bx_ (N:=3) (cs:=#[.string (⟨#[]⟩:ByteArray),.slice none 0 0]) (t:=83) (h:=?_);intro ah hg w7 hbox hb;have au:=mk0 (gz_ HB hg);have am:=mk0 (gz_ HB hg);have an:=mk0 (ne1_ aa hg);have ax:=mk0 (ne2_ aa hg);have ay:=mk0 ((by rw [hg];exact Nat.ne_of_lt (blk_lt (g:=ab) (o:=.cells #[.string (⟨#[]⟩:ByteArray),.slice none 0 0] 83 (0,0)) (h_ ac)):ab≠ah));have az:=mk0 ((by rw [hg];exact Nat.ne_of_gt (blk_lt (g:=ab) (o:=.cells #[.string (⟨#[]⟩:ByteArray),.slice none 0 0] 83 (0,0)) (h_ ac)):ah≠ab));replace aa:=mk0 (u_ aa hb);replace ac:=mk0 (blk_below (g:=ab) (o:=.cells #[.string (⟨#[]⟩:ByteArray),.slice none 0 0] 83 (0,0)) (h_ ac) hb);replace HB:=mk0 (bt_ (b_ HB) hb);have af:=mk0 (hbox);have bc:=am;have ae:=an;have ak:=ax;have ad:=ay;have al:=az;clear au am an ax ay az hb hbox hg;have bf:=ak.out;have bg:=ae.out;have bh:=al.out;have bi:=ad.out;obtain ⟨aA,aC,aD,aE⟩:=c2_ af;obtain ⟨aG,aH,aI,aJ⟩:=c2_ aa)|((with_reducible refine gate_callee (f:=100) rfl ?_);refine gL_ (some 7) Tryz.func100 #[.slice A0_1 l0_1.length c0_1] (h:=?_);(with_reducible refine (FT.calls k _ _ l0_1 ag _ ?side1 ?side2 A2.out).mono ?_);(case side1=>exact Kd.C_below av.out (b_ HB));(case side2=>exact aw.out);rintro e bk ⟨bj,rfl,ho0,hb⟩;refine ⟨_,rfl,?_⟩;have aK:=mk0 (Kd.R_lower ho0 (bz_ (b_ HB)));replace aa:=mk0 (blk_below (fa_ (fa_ (h_ aa) ae.out) ae.out) hb);replace ac:=mk0 (blk_below (g:=ab) (o:=.cells #[.string (⟨#[]⟩:ByteArray),.slice none 0 0] 83 (0,0)) (fa_ (fa_ (h_ ac) ad.out) ad.out) hb);replace af:=mk0 (blk_below (g:=ah) (o:=.cells #[.string a0_0,.slice A0_1 l0_1.length c0_1] 83 (0,0)) (pu_ (cs:=#[.string a0_0,.slice none 0 0]) (pu_ (cs:=#[.string (⟨#[]⟩:ByteArray),.slice none 0 0]) (h_ af))) hb);replace HB:=mk0 (bt_ (b_ HB) hb);have ao:=aK;clear aK;(try clear hb);(try clear ho0);obtain ⟨ap,aq,aM⟩:=Kd.R_slice ao.out;subst aM;obtain ⟨aN,aQ,aR,aT⟩:=c2_ af;obtain ⟨aU,aV,aW,aX⟩:=c2_ ac))
 refine bodyPost_ret (results_cell_row rfl _ _ ab 83 #[.string a0_0,.slice ap ag.length aq] (0,0) _ rfl (pu_ (cs:=#[.string a0_0,.slice none 0 0]) (pu_ (cs:=#[.string (⟨#[]⟩:ByteArray),.slice none 0 0]) (fa_ (h_ ac) ad.out))) Tryz.underlying83 rfl (by kernel_rfl)) rfl ?_
 exact ⟨_,sa_,by (with_reducible repeat (first|apply Ra_|apply Rn_|apply Rd_));exact Kd.R_mono (Kd.R_far (p:=⟨ab,1,none⟩) (Kd.R_far (p:=⟨ab,0,none⟩) (Kd.R_far (p:=⟨ah,1,none⟩) (Kd.R_types (Kd.R_types ao.out af.out (by decide)) ac.out (by decide)) (fun _ hk=>hk.1.2) (.slice ap ag.length aq)) (fun _ hk=>hk.2) (.string a0_0)) (fun _ hk=>hk.2) (.slice ap ag.length aq)) (fun _ hk=>trivial),b_ HB⟩
def FU.l0:Nat→List (S83)→List (S83)→Int→Option ((List (S83)))
 | 0,_,_,_=>none
 | k + 1,b,c,a=>if a<(b.length:Int) then (if 0≤a then ((Gl.f k ((rd_T83 b a).f0) ((rd_T83 b a).f1)).bind fun d=>(if c.length<3518437208883 then (FU.l0 k b (c ++ [(⟨d.1,d.2⟩:S83)]) (wrap64 (a + 1))) else (none))) else (none)) else (some c)
def FU.f (k:Nat) (l0:List (S83)):Option ((List (S83))):=FU.l0 k l0 ([]:List (S83)) 0
theorem FU.mono_l:∀ k,(∀ y0 y1 y2,LeO (FU.l0 k y0 y1 y2) (FU.l0 (k + 1) y0 y1 y2))
 | 0=>fun _ _ _ r h=>by simp [FU.l0] at h
 | k + 1=>by
  have ih0:=FU.mono_l k
  have:=@Gl.mono
  all_goals (intros;first|unfold FU.l0)
  all_goals exact mz_
theorem FU.mono:∀ a0 k,LeO (FU.f k a0) (FU.f (k + 1) a0):=by
 intro a0 k
 have ih0:=FU.mono_l k
 have:=@Gl.mono
 unfold FU.f
 exact mz_
theorem FU.calls (k:Nat) (A0:Option Addr) (c0:Nat) (l0:List (S83)) (r:List (S83)) (w:World) (hr0:Kd.C k83 w A0 l0.length l0) (hc0:l0.length≤c0) (h:FU.f k l0=some r) :
 Calls Tryz.prog 51 #[.slice A0 l0.length c0] w fun e w'=>∃ v0_:Value,e = .returned (v0_)∧Kd.S k83 83 w' w.heap.size (fun _=>True) v0_ r∧Below w.heap.size w w':=by
 have hu83:=Tryz.underlying83
 have HR0:=mk0 hr0
 have HC0:=mk0 hc0
 clear hr0 hc0
 have HB:=mk0 (Below.refl w.heap.size w)
 have H:(FU.l0 k l0 ([]:List (S83)) 0)=some r:=h
 clear h
 have H':=mk0 H
 clear H
 go_enter Tryz.func51,Tryz.ntmps51
 go_wp2
 go_loopg [3,4] k (fun kq v3 v4 w'=>∃ (ac:List (S83)) (aa:Int),v4 = .int .i64 aa∧Fc (FU.l0 kq l0 ac aa=some r)∧Fc (kq≤k)∧Fc (Kd.S k83 83 w' w.heap.size (fun _=>True) v3 ac)∧Fc (Below w.heap.size w w'))
 case atStart=>exact ⟨(([]:List (S83))),(0),sm_,H',⟨Nat.le_refl _⟩,⟨nl_⟩,⟨b_ HB⟩⟩
 case round=>
  clear H'
  obtain ⟨ac,aa,rfl,HA,aw,ab,HB⟩:=hrel
  cases gk with
  | zero=>exact absurd HA.out (by simp [FU.l0])
  | succ k1=>
   have H:=HA.out
   clear HA
   simp only [FU.l0] at H
   as_aux_lemma=>
    by_cases c2:aa<(l0.length:Int)
    ·rw [if_pos c2] at H
     have ax:=decide_eq_true c2
     clear c2
     by_cases c3:0≤aa
     ·rw [if_pos c3] at H
      have aG:=decide_eq_true c3
      clear c3
      replace H:=ob_ H
      obtain ⟨⟨af,ad⟩,A4,H⟩:=H
      try dsimp only at H
      by_cases c5:ac.length<3518437208883
      ·rw [if_pos c5] at H
       have LMc5:=mk0 c5
       clear c5
       obtain ⟨ar,ak⟩:∃ y_:List (S83),y_=(ac ++ [(⟨af,ad⟩:S83)]):=⟨_,rfl⟩
       replace H:(FU.l0 k1 l0 ar (wrap64 (aa + 1)))=some r:=rp_ H ak
       have au:=mk0 ak
       clear ak
       have H':=mk0 H
       clear H
       have al:0≤(aa:Int):=od_
       have am:aa<(l0.length:Int):=od_
       obtain ⟨aD,ap,aq,ay,ag,ah,ai,aj⟩:=at_T83 HR0.out aa al am
       cases ay
       replace ag:=(bc_ HB ag :)
       replace ah:=(bc_ HB ah :)
       have an:=mk0 aj
       have ao:=mk0 ai
       clear aj ai
       replace al:=eq_true al
       replace am:=eq_true am
       go_wp2_with (first|((with_reducible refine gate_callee (f:=77) rfl ?_);refine gL_ (some 16) Tryz.func77 #[.agg #[.string ((rd_T83 l0 aa).f0),.slice ap ((rd_T83 l0 aa).f1).length aq]] (h:=?_);(with_reducible refine (Gl.calls k1 ((rd_T83 l0 aa).f0) _ _ ((rd_T83 l0 aa).f1) af ad _ ?side1 ?side2 A4.out).mono ?_);(case side1=>exact cb_ an HB);(case side2=>exact ao.out);rintro e w6 ⟨aH,rfl,ho0,hb⟩;refine ⟨_,rfl,?_⟩;have az:=mk0 (Kd.R_lower ho0 (bz_ (b_ HB)));replace ab:=mk0 (Kd.S_elder' (s_ ab) (Kd.R_base ho0) hb);replace HB:=mk0 (bt_ (b_ HB) hb);have ae:=az;clear az;(try clear hb);(try clear ho0);obtain ⟨aA,aC,aE⟩:=Kd.R_slice ae.out;subst aE)|((with_reducible refine gate_builtin (b:=.append) (xs:=#[.tmp 11,.tmp 17]) rfl ?_);at_builtin;refine Kd.S_append k83 (w0:=w) w.heap.size rfl (.tmp 11) (.tmp 17) 41 83 (.agg #[(.string ⟨#[]⟩),(.slice none 0 0)]) 40 rfl Tryz.underlying41 info83 rfl (by decide) (by omega) u3 ac (⟨af,ad⟩:S83) [.string af,.slice aA ad.length aC] (fun _=>True) (fun k_=>some k_=(.slice aA ad.length aC:Value).ownBlock) rfl rfl ?aP (fun k_ hk_=>((Kd.R_mono (ok':=fun k_=>((fun _=>True)) k_∧some k_≠(u3:Value).ownBlock) (Kd.R_apart' (ae.out) (Kd.S_typed ab.out) (by decide)) (fun k_ hk=>⟨trivial,hk.2⟩))).1 k_ hk_.symm) ?aF ?aO ?aB ?aS ?aL ?_;(case aP=>exact k83_mkM _ _ _ (⟨af,ad⟩:S83) (Kd.R_mono (Kd.R_tight rfl (Kd.R_mono (ok':=fun k_=>((fun _=>True)) k_∧some k_≠(u3:Value).ownBlock) (Kd.R_apart' (ae.out) (Kd.S_typed ab.out) (by decide)) (fun k_ hk=>⟨trivial,hk.2⟩))) (fun _ h_=>h_)));(case aB=>exact (b_ HB));(case aF=>exact (fun _ _=>trivial));(case aO=>exact (s2_ (Kd.S_mono ab.out (fun k_ hk=>⟨trivial,fun e_=>hk.2 e_⟩))));(case aS=>exact (bz_ (b_ HB)));(case aL=>have:=LMc5.out;omega);intro aI w7 ho hb hg hat;rw [← au.out] at ho;replace HB:=mk0 (hb);have av:=mk0 (ho);clear ab ae;clear ho hb hg hat))
       go_roundg k1
       case measure=>have:=aw.out;omega
       case rel=>exact ⟨(ar),(wrap64 (aa + 1)),sm_,H',⟨by have:=aw.out;omega⟩,⟨s2_ av.out⟩,⟨b_ HB⟩⟩
      ·rw [if_neg c5] at H
       exact absurd H (by simp)
     ·rw [if_neg c3] at H
      exact absurd H (by simp)
    ·rw [if_neg c2] at H
     have ax:=decide_eq_false c2
     clear c2
     obtain rfl:=Option.some.inj H
     go_wp2
     go_ret
     exact ⟨_,sa_,by (with_reducible repeat (first|apply Kd.S_alloc|apply Kd.S_drewN|apply Kd.S_drew));exact ab.out,b_ HB⟩
def Gm.f (k:Nat) (l0_0:List (S83)):Option ((List (S83))):=(FU.f k l0_0).bind fun a=>(some a)
theorem Gm.mono:∀ a0 k,LeO (Gm.f k a0) (Gm.f (k + 1) a0):=by
 intro a0 k
 have:=@FU.mono
 unfold Gm.f
 exact mz_
theorem Gm.calls (k:Nat) (A0_0:Option Addr) (c0_0:Nat) (l0_0:List (S83)) (r:List (S83)) (w:World) (hr0_0:Kd.C k83 w A0_0 l0_0.length l0_0) (hc0_0:l0_0.length≤c0_0) (h:Gm.f k l0_0=some r) :
 Calls Tryz.prog 27 #[.agg #[.slice A0_0 l0_0.length c0_0]] w fun e w'=>∃ v0_:Value,e = .returned (.agg #[v0_])∧Kd.S k83 83 w' w.heap.size (fun _=>True) v0_ r∧Below w.heap.size w w':=by
 have hu43:=Tryz.underlying43
 have av:=mk0 hr0_0
 have aw:=mk0 hc0_0
 clear hr0_0 hc0_0
 have HB:=mk0 (Below.refl w.heap.size w)
 have H:((FU.f k l0_0).bind fun af=>(some af))=some r:=h
 clear h
 replace H:=ob_ H
 obtain ⟨af,A2,H⟩:=H
 try dsimp only at H
 obtain rfl:=Option.some.inj H
 go_enter Tryz.func27,Tryz.ntmps27
 go_wp2_with (first|((with_reducible refine gate_dst (N:=1) rfl ?_);refine bx_ (N:=1) (cs:=#[.slice A0_0 l0_0.length c0_0]) (t:=43) (h:=?_);intro aR hg w3 hbox hb;have ny2_:=mk0 (gz_ HB hg);have ar:=mk0 (gz_ HB hg);replace HB:=mk0 (bt_ (b_ HB) hb);have aa:=mk0 (hbox);have aT:=ny2_;have aU:=ar;clear ny2_ ar;clear hb hbox hg)|((with_reducible refine gate_dst (N:=2) rfl ?_);refine bx_ (N:=2) (cs:=#[.slice none 0 0]) (t:=43) (h:=?_);intro ak hg w4 hbox hb;have ar:=mk0 (gz_ HB hg);have au:=mk0 (gz_ HB hg);have al:=mk0 (ne1_ aa hg);have am:=mk0 (ne2_ aa hg);replace aa:=mk0 (u_ aa hb);replace HB:=mk0 (bt_ (b_ HB) hb);have ab:=mk0 (hbox);have aV:=au;have ag:=al;have ah:=am;clear ar au al am hb hbox hg;have aX:=ag.out;have aY:=ah.out;obtain ⟨aN,aQ⟩:=c1_ aa)|((with_reducible refine gate_dst (N:=3) rfl ?_);refine bx_ (N:=3) (cs:=#[.slice none 0 0]) (t:=43) (h:=?_);intro an hg w7 hbox hb;have au:=mk0 (gz_ HB hg);have al:=mk0 (gz_ HB hg);have am:=mk0 (ne1_ aa hg);have ax:=mk0 (ne2_ aa hg);have ay:=mk0 (ne1_ ab hg);have az:=mk0 (ne2_ ab hg);replace aa:=mk0 (u_ aa hb);replace ab:=mk0 (u_ ab hb);replace HB:=mk0 (bt_ (b_ HB) hb);have ad:=mk0 (hbox);have aW:=al;have ae:=am;have ai:=ax;have ac:=ay;have aj:=az;clear au al am ax ay az hb hbox hg;have aZ:=ai.out;have a6:=ae.out;have a7:=aj.out;have a8:=ac.out;obtain ⟨aA,aC⟩:=c1_ ad;obtain ⟨aD,aE⟩:=c1_ aa)|((with_reducible refine gate_callee (f:=51) rfl ?_);refine gL_ (some 7) Tryz.func51 #[.slice A0_0 l0_0.length c0_0] (h:=?_);(with_reducible refine (FU.calls k _ _ l0_0 af _ ?side1 ?side2 A2.out).mono ?_);(case side1=>exact Kd.C_below av.out (b_ HB));(case side2=>exact aw.out);rintro e ba ⟨a9,rfl,ho0,hb⟩;refine ⟨_,rfl,?_⟩;have aG:=mk0 (Kd.S_lower ho0 (bz_ (b_ HB)));replace aa:=mk0 (blk_below (fa_ (h_ aa) ae.out) hb);replace ab:=mk0 (blk_below (fa_ (h_ ab) ac.out) hb);replace ad:=mk0 (blk_below (g:=an) (o:=.cells #[.slice A0_0 l0_0.length c0_0] 43 (0,0)) (pu_ (cs:=#[.slice none 0 0]) (h_ ad)) hb);replace HB:=mk0 (bt_ (b_ HB) hb);have ao:=aG;clear aG;(try clear hb);(try clear ho0);obtain ⟨ap,aq,aH⟩:=Kd.S_slice ao.out;subst aH;obtain ⟨aI,aJ⟩:=c1_ ad;obtain ⟨aK,aM⟩:=c1_ ab))
 refine bodyPost_ret (results_cell_row rfl _ _ ak 43 #[.slice ap af.length aq] (0,0) _ rfl (pu_ (cs:=#[.slice none 0 0]) (fa_ (h_ ab) ac.out)) Tryz.underlying43 rfl (by kernel_rfl)) rfl ?_
 exact ⟨_,sa_,by (with_reducible repeat (first|apply Kd.S_alloc|apply Kd.S_drewN|apply Kd.S_drew));exact Kd.S_mono (Kd.S_far (p:=⟨ak,0,none⟩) (Kd.S_far (p:=⟨an,0,none⟩) (Kd.S_types (Kd.S_types ao.out ad.out (by decide)) ab.out (by decide)) (fun _ hk=>hk.1.2) (.slice ap af.length aq)) (fun _ hk=>hk.2) (.slice ap af.length aq)) (fun _ hk=>trivial),b_ HB⟩
end Go.Proofs.YtbaecdcfefmcgaaGreat.PVrd
