import Derived.Test.YtbaecdcfefmcgaaGreatPVrdx0
namespace Go.Proofs.YtbaecdcfefmcgaaGreat.PVrd
open Go.RowKit Go.Proofs.YtbaecdcfefmcgaaGreatW.PrintWords Go.Proofs.YtbaecdcfefmcgaaGreatW.PrintLast Go.Proofs.YtbaecdcfefmcgaaGreatW.PrintMore
attribute [local go_sem] max2_int min2_int max_two min_two max_three min_three max_four min_four
set_option linter.unusedVariables false
set_option linter.unusedSimpArgs false
theorem eqA50 (d:Nat) (w:World) (x0 y0:ByteArray) (x1 y1:ByteArray) :
 (Op.equalIn (d + 2) 50 (.agg #[.string x0,.string x1]) (.agg #[.string y0,.string y1])).run Tryz.prog w = .ok (x0.toList == y0.toList && (x1.toList == y1.toList)) w:=by
 refine eqA_of Tryz.underlying50 (by kernel_rfl) ?_
 refine eqf_cons (by rfl) (by go_simp;rfl) (by go_simp;rfl) (by go_simp) ?_
 exact eqf_last (by rfl) (by go_simp;rfl) (by go_simp;rfl) (by go_simp)
end Go.Proofs.YtbaecdcfefmcgaaGreat.PVrd
namespace Go.Proofs.YtbaecdcfefmcgaaGreat.PVrd
open Go.RowKit Go.Proofs.YtbaecdcfefmcgaaGreatW.PrintWords Go.Proofs.YtbaecdcfefmcgaaGreatW.PrintLast Go.Proofs.YtbaecdcfefmcgaaGreatW.PrintMore
attribute [local go_sem] max2_int min2_int max_two min_two max_three min_three max_four min_four
set_option linter.unusedVariables false
set_option linter.unusedSimpArgs false
theorem eqA72 (d:Nat) (w:World) (x0 y0:Int) (x1 y1:ByteArray) (x2 y2:ByteArray) (x3 y3:Bool) :
 (Op.equalIn (d + 2) 72 (.agg #[.int .i64 x0,.string x1,.string x2,.bool x3]) (.agg #[.int .i64 y0,.string y1,.string y2,.bool y3])).run Tryz.prog w = .ok (x0 == y0 && (x1.toList == y1.toList && (x2.toList == y2.toList && (x3 == y3)))) w:=by
 refine eqA_of Tryz.underlying72 (by kernel_rfl) ?_
 refine eqf_cons (by rfl) (by go_simp;rfl) (by go_simp;rfl) (by go_simp) ?_
 refine eqf_cons (by rfl) (by go_simp;rfl) (by go_simp;rfl) (by go_simp) ?_
 refine eqf_cons (by rfl) (by go_simp;rfl) (by go_simp;rfl) (by go_simp) ?_
 exact eqf_last (by rfl) (by go_simp;rfl) (by go_simp;rfl) (by go_simp)
end Go.Proofs.YtbaecdcfefmcgaaGreat.PVrd
namespace Go.Proofs.YtbaecdcfefmcgaaGreat.PVrd
open Go.RowKit Go.Proofs.YtbaecdcfefmcgaaGreatW.PrintWords Go.Proofs.YtbaecdcfefmcgaaGreatW.PrintLast Go.Proofs.YtbaecdcfefmcgaaGreatW.PrintMore
attribute [local go_sem] max2_int min2_int max_two min_two max_three min_three max_four min_four
set_option linter.unusedVariables false
set_option linter.unusedSimpArgs false
theorem eqA78 (d:Nat) (w:World) (x0 y0:Int) (x1 y1:ByteArray) (x2 y2:Bool) :
 (Op.equalIn (d + 2) 78 (.agg #[.int .i64 x0,.string x1,.bool x2]) (.agg #[.int .i64 y0,.string y1,.bool y2])).run Tryz.prog w = .ok (x0 == y0 && (x1.toList == y1.toList && (x2 == y2))) w:=by
 refine eqA_of Tryz.underlying78 (by kernel_rfl) ?_
 refine eqf_cons (by rfl) (by go_simp;rfl) (by go_simp;rfl) (by go_simp) ?_
 refine eqf_cons (by rfl) (by go_simp;rfl) (by go_simp;rfl) (by go_simp) ?_
 exact eqf_last (by rfl) (by go_simp;rfl) (by go_simp;rfl) (by go_simp)
end Go.Proofs.YtbaecdcfefmcgaaGreat.PVrd
namespace Go.Proofs.YtbaecdcfefmcgaaGreat.PVrd
open Go.RowKit Go.Proofs.YtbaecdcfefmcgaaGreatW.PrintWords Go.Proofs.YtbaecdcfefmcgaaGreatW.PrintLast Go.Proofs.YtbaecdcfefmcgaaGreatW.PrintMore
attribute [local go_sem] max2_int min2_int max_two min_two max_three min_three max_four min_four
set_option maxHeartbeats 8000000
set_option maxRecDepth 100000
set_option linter.unusedVariables false
set_option linter.unusedSimpArgs false
attribute [local go_sem high] eqA50 eqA72 eqA78
def FQ.l0:Nat→List (S50)→List (S50)→Int→Option (Bool)
 | 0,_,_,_=>none
 | k + 1,b,c,a=>if a<(b.length:Int) then (if 0≤a then (if a<(c.length:Int) then (if (!((((rd_T50 b a).f0).toList) == (((rd_T50 c a).f0).toList)) || (!((((rd_T50 b a).f1).toList) == (((rd_T50 c a).f1).toList))))=true then (some false) else (FQ.l0 k b c (wrap64 (a + 1)))) else (none)) else (none)) else (some true)
def FQ.f (k:Nat) (l0:List (S50)) (l1:List (S50)):Option (Bool):=if (l0.length:Int)=(l1.length:Int) then (FQ.l0 k l0 l1 0) else (some false)
theorem FQ.mono_l:∀ k,(∀ y0 y1 y2,LeO (FQ.l0 k y0 y1 y2) (FQ.l0 (k + 1) y0 y1 y2))
 | 0=>fun _ _ _ r h=>by simp [FQ.l0] at h
 | k + 1=>by
  have ih0:=FQ.mono_l k
  all_goals (intros;first|unfold FQ.l0)
  all_goals exact mz_
theorem FQ.mono:∀ a0 a1 k,LeO (FQ.f k a0 a1) (FQ.f (k + 1) a0 a1):=by
 intro a0 a1 k
 have ih0:=FQ.mono_l k
 unfold FQ.f
 exact mz_
theorem FQ.calls (k:Nat) (A0:Option Addr) (c0:Nat) (l0:List (S50)) (A1:Option Addr) (c1:Nat) (l1:List (S50)) (r:Bool) (w:World) (hr0:Kd.C k50 w A0 l0.length l0) (hc0:l0.length≤c0) (hr1:Kd.C k50 w A1 l1.length l1) (hc1:l1.length≤c1) (h:FQ.f k l0 l1=some r) :
 Calls Tryz.prog 19 #[.slice A0 l0.length c0,.slice A1 l1.length c1] w fun e w'=>e = .returned (.bool r)∧Drawn0 w w':=by
 have hu50:=Tryz.underlying50
 have HR0:=mk0 hr0
 have HC0:=mk0 hc0
 clear hr0 hc0
 have HR1:=mk0 hr1
 have HC1:=mk0 hc1
 clear hr1 hc1
 have H:(if (l0.length:Int)=(l1.length:Int) then (FQ.l0 k l0 l1 0) else (some false))=some r:=h
 clear h
 by_cases c3:(l0.length:Int)=(l1.length:Int)
 ·rw [if_pos c3] at H
  have al:=beq_iff_eq.mpr c3
  have am:=bne_eq_false_iff_eq.mpr c3
  have an:(l0.length == l1.length)=true:=by first|simpa using c3|(simp at c3 ⊢; omega)
  clear c3
  have H':=mk0 H
  clear H
  go_enter Tryz.func19,Tryz.ntmps19
  go_wp2
  repeat (go_quiet (fail);try go_wp2)
  go_loopg [5] k (fun kq v5 w'=>∃ (aa:Int),v5 = .int .i64 aa∧Fc (FQ.l0 kq l0 l1 aa=some r)∧Fc (kq≤k)∧Drawn0 w w')
  case atStart=>exact ⟨(0),sm_,H',⟨Nat.le_refl _⟩,by repeat (first|exact Drawn0.refl _|apply Drawn0.step)⟩
  case round=>
   clear H'
   try clear c3
   try clear al
   try clear am
   try clear an
   obtain ⟨aa,rfl,HA,aq,⟨m1,rfl⟩⟩:=hrel
   cases gk with
   | zero=>exact absurd HA.out (by simp [FQ.l0])
   | succ k1=>
    have H:=HA.out
    clear HA
    simp only [FQ.l0] at H
    as_aux_lemma=>
     by_cases c4:aa<(l0.length:Int)
     ·rw [if_pos c4] at H
      have ar:=decide_eq_true c4
      clear c4
      by_cases c5:0≤aa
      ·rw [if_pos c5] at H
       have av:=decide_eq_true c5
       clear c5
       by_cases c6:aa<(l1.length:Int)
       ·rw [if_pos c6] at H
        have aw:=decide_eq_true c6
        clear c6
        by_cases c7:(!((((rd_T50 l0 aa).f0).toList) == (((rd_T50 l1 aa).f0).toList)) || (!((((rd_T50 l0 aa).f1).toList) == (((rd_T50 l1 aa).f1).toList))))=true
        ·rw [if_pos c7] at H
         have au:(!((((rd_T50 l0 aa).f0).toList) == (((rd_T50 l1 aa).f0).toList)) || (!((((rd_T50 l0 aa).f1).toList) == (((rd_T50 l1 aa).f1).toList))))=true:=c7
         clear c7
         obtain rfl:=Option.some.inj H
         have ab:0≤(aa:Int):=od_
         have ac:aa<(l0.length:Int):=od_
         obtain ⟨ao,af,ag,ah⟩:=at_T50 HR0.out aa ab ac
         cases af
         replace ab:=eq_true ab
         replace ac:=eq_true ac
         have ad:0≤(aa:Int):=od_
         have ae:aa<(l1.length:Int):=od_
         obtain ⟨ap,ai,aj,ak⟩:=at_T50 HR1.out aa ad ae
         cases ai
         replace ad:=eq_true ad
         replace ae:=eq_true ae
         go_wp2
         repeat (go_quiet (fail);try go_wp2)
         go_ret
         exact ⟨by first|rfl|(simp;done)|(simp [*];done),by repeat (first|exact Drawn0.refl _|apply Drawn0.step)⟩
        ·rw [if_neg c7] at H
         have au:(!((((rd_T50 l0 aa).f0).toList) == (((rd_T50 l1 aa).f0).toList)) || (!((((rd_T50 l0 aa).f1).toList) == (((rd_T50 l1 aa).f1).toList))))=false:=by simpa using c7
         clear c7
         have H':=mk0 H
         clear H
         have ab:0≤(aa:Int):=od_
         have ac:aa<(l0.length:Int):=od_
         obtain ⟨ao,af,ag,ah⟩:=at_T50 HR0.out aa ab ac
         cases af
         replace ab:=eq_true ab
         replace ac:=eq_true ac
         have ad:0≤(aa:Int):=od_
         have ae:aa<(l1.length:Int):=od_
         obtain ⟨ap,ai,aj,ak⟩:=at_T50 HR1.out aa ad ae
         cases ai
         replace ad:=eq_true ad
         replace ae:=eq_true ae
         go_wp2
         repeat (go_quiet (fail);try go_wp2)
         go_roundg k1
         case measure=>have:=aq.out;omega
         case rel=>exact ⟨(wrap64 (aa + 1)),sm_,H',⟨by have:=aq.out;omega⟩,by repeat (first|exact Drawn0.refl _|apply Drawn0.step)⟩
       ·rw [if_neg c6] at H
        exact absurd H (by simp)
      ·rw [if_neg c5] at H
       exact absurd H (by simp)
     ·rw [if_neg c4] at H
      have ar:=decide_eq_false c4
      clear c4
      obtain rfl:=Option.some.inj H
      go_wp2
      repeat (go_quiet (fail);try go_wp2)
      go_ret
      exact ⟨by first|rfl|(simp;done)|(simp [*];done),by repeat (first|exact Drawn0.refl _|apply Drawn0.step)⟩
 ·rw [if_neg c3] at H
  have al:=beq_eq_false_iff_ne.mpr c3
  have am:=bne_iff_ne.mpr c3
  have an:(l0.length == l1.length)=false:=by first|simpa using c3|(simp at c3 ⊢; omega)
  obtain rfl:=Option.some.inj H
  go_enter Tryz.func19,Tryz.ntmps19
  go_wp2
  repeat (go_quiet (fail);try go_wp2)
  go_ret
  exact ⟨by first|rfl|(simp;done)|(simp [*];done),by repeat (first|exact Drawn0.refl _|apply Drawn0.step)⟩
def FR.l0:Nat→List (S50)→Int→Option ((List (S50)))
 | 0,_,_=>none
 | k + 1,b,a=>if a<(b.length:Int) then (if 0≤a then (FR.l0 k (b.set (a:Int).toNat (⟨(⟨#[115,112,111,105,108,116]⟩:ByteArray),(⟨#[]⟩:ByteArray)⟩:S50)) (wrap64 (a + 1))) else (none)) else (some b)
def FR.f (k:Nat) (l0:List (S50)):Option ((List (S50))):=FR.l0 k l0 0
theorem FR.mono_l:∀ k,(∀ y0 y1,LeO (FR.l0 k y0 y1) (FR.l0 (k + 1) y0 y1))
 | 0=>fun _ _ r h=>by simp [FR.l0] at h
 | k + 1=>by
  have ih0:=FR.mono_l k
  all_goals (intros;first|unfold FR.l0)
  all_goals exact mz_
theorem FR.mono:∀ a0 k,LeO (FR.f k a0) (FR.f (k + 1) a0):=by
 intro a0 k
 have ih0:=FR.mono_l k
 unfold FR.f
 exact mz_
theorem FR.calls (k:Nat) (P0_:Nat→Prop) (u9000_:Value) (l0:List (S50)) (r:List (S50)) (w0 w:World) (hB:Below w0.heap.size w0 w) (ho0:Kd.R k50 50 w w0.heap.size P0_ u9000_ l0) (h:FR.f k l0=some r) :
 Calls Tryz.prog 20 #[u9000_] w fun e w'=>e = .returned (.tuple #[])∧Kd.R k50 50 w' w0.heap.size (fun k_=>(P0_ k_∨w.heap.size≤k_)) u9000_ r∧Below w0.heap.size w0 w'∧Kept w w' (fun k_=>P0_ k_):=by
 have hu50:=Tryz.underlying50
 have au:=mk0 (show Kd.R k50 50 w w0.heap.size (fun k_=>(P0_ k_∨w.heap.size≤k_)) u9000_ l0 from Kd.R_mono ho0 (fun k_ hk=>(.inl hk)))
 have HK:=mk0 (Kept.refl w (fun k_=>P0_ k_))
 have HW0:=mk0 hB.size
 have HB:=mk0 hB
 clear hB
 have H:(FR.l0 k l0 0)=some r:=h
 clear h
 have H':=mk0 H
 clear H
 go_enter Tryz.func20,Tryz.ntmps20
 go_wp2
 go_loopg [2] k (fun kq v2 w'=>∃ (ab:List (S50)) (aa:Int),v2 = .int .i64 aa∧Fc (FR.l0 kq ab aa=some r)∧Fc (kq≤k)∧Fc (Kd.R k50 50 w' w0.heap.size (fun k_=>(P0_ k_∨w.heap.size≤k_)) u9000_ ab)∧Fc (Kept w w' (fun k_=>P0_ k_))∧Fc (Below w0.heap.size w0 w'))
 case atStart=>exact ⟨(l0),(0),sm_,H',⟨Nat.le_refl _⟩,⟨r2_ au.out⟩,⟨k_ HK⟩,⟨b_ HB⟩⟩
 case round=>
  clear H'
  obtain ⟨ab,aa,rfl,HA,al,ac,HK,HB⟩:=hrel
  cases gk with
  | zero=>exact absurd HA.out (by simp [FR.l0])
  | succ k1=>
   have H:=HA.out
   clear HA
   simp only [FR.l0] at H
   as_aux_lemma=>
    by_cases c2:aa<(ab.length:Int)
    ·rw [if_pos c2] at H
     have am:=decide_eq_true c2
     clear c2
     by_cases c3:0≤aa
     ·rw [if_pos c3] at H
      have aD:=decide_eq_true c3
      clear c3
      obtain ⟨ae,ad⟩:∃ y_:List (S50),y_=(ab.set (aa:Int).toNat (⟨(⟨#[115,112,111,105,108,116]⟩:ByteArray),(⟨#[]⟩:ByteArray)⟩:S50)):=⟨_,rfl⟩
      replace H:(FR.l0 k1 ae (wrap64 (aa + 1)))=some r:=rp_ H ad
      have af:=mk0 ad
      clear ad
      have H':=mk0 H
      clear H
      obtain ⟨aE,an,av⟩:=Kd.R_slice ac.out
      subst av
      have p4:0≤(aa:Int):=od_
      have q4:(aa:Int)<((ab.length:Int):Int):=od_
      obtain ⟨go4,aF,ao,ap,aw,aG,aq⟩:=Kd.R_form ac.out (by omega)
      (first|cases ao|(injection ao with ea_ en_ ec_;(first|subst ea_|(injection ea_ with ea_;subst ea_));subst ec_;clear en_))
      have ar:=mk0 ap
      have aH:=mk0 aq
      clear ap aw aq
      have ax:=mk0 (show (P0_ go4∨w.heap.size≤go4) from (ac.out.1 _ rfl))
      obtain ⟨ce4,hcl4,hM4,hcc4,hfr4⟩:=Kd.R_elem ac.out z50 (aa:Int) p4 q4
      obtain rfl:=k50_openM hM4
      have ay:wr.cell? ⟨go4,(aa:Int).toNat * 2,none⟩=some (.string ((rd_T50 ab aa).f0)):=hcc4 0 _ rfl
      have az:wr.cell? ⟨go4,(aa:Int).toNat * 2 + 1,none⟩=some (.string ((rd_T50 ab aa).f1)):=hcc4 1 _ rfl
      have aA:wr.frozen? ⟨go4,(aa:Int).toNat * 2,none⟩=false:=hfr4 0
      have aB:wr.frozen? ⟨go4,(aa:Int).toNat * 2 + 1,none⟩=false:=hfr4 1
      clear hcl4 hcc4 hfr4 hM4
      replace p4:=eq_true p4
      replace q4:=eq_true q4
      have HX6:=mk0 (show Kd.R k50 50 wr w0.heap.size (fun k_=>(P0_ k_∨w.heap.size≤k_)) (.slice (some ⟨go4,0,none⟩) ab.length an) ab from (r_ ac))
      obtain ⟨ce6,hcl6,hM6,hcc6,hfr6⟩:=Kd.R_elem HX6.out z50 (aa:Int) od_ (by have h_:(aa:Int)<((ab.length:Int):Int):=od_;first|exact h_|(have e_:=(Kd.R_reads' ac.out).1;omega)|simpa using h_)
      obtain rfl:=k50_openM hM6
      have ag:=Kd.R_seg HX6.out (aa:Int) od_ (by have h_:(aa:Int)<((ab.length:Int):Int):=od_;first|exact h_|(have e_:=(Kd.R_reads' ac.out).1;omega)|simpa using h_) (seg:=[.string (⟨#[115,112,111,105,108,116]⟩:ByteArray),.string (⟨#[]⟩:ByteArray)]) (j:=0) hcl6 hcc6 (show 2≤2 from by decide) (x':=(⟨(⟨#[115,112,111,105,108,116]⟩:ByteArray),(⟨#[]⟩:ByteArray)⟩:S50)) (k50_mkM _ _ _ (⟨(⟨#[115,112,111,105,108,116]⟩:ByteArray),(⟨#[]⟩:ByteArray)⟩:S50) ) (fun _ hk=>hk)
      have ah:=hcc6 0 _ rfl
      (try simp only [show (k50).sz=2 from rfl,Nat.mul_one,Nat.add_zero] at ah)
      have ai:=hfr6 0
      (try simp only [show (k50).sz=2 from rfl,Nat.mul_one,Nat.add_zero] at ai)
      have aj:=hcc6 1 _ rfl
      (try simp only [show (k50).sz=2 from rfl,Nat.mul_one,Nat.add_zero] at aj)
      have ak:=hfr6 1
      (try simp only [show (k50).sz=2 from rfl,Nat.mul_one,Nat.add_zero] at ak)
      clear hcl6 hcc6 hfr6 hM6
      go_wp2_with (first|((with_reducible refine gate_store (t:=50) (p:=12) rfl ?_);refine sv_ (t:=50) (p:=12) (w1:=((wr.setCell ⟨go4,(aa:Int).toNat * 2,none⟩ (.string (⟨#[115,112,111,105,108,116]⟩:ByteArray))).setCell ⟨go4,(aa:Int).toNat * 2 + 1,none⟩ (.string (⟨#[]⟩:ByteArray)))) (h:=?_);intro w7 hw;have hg:wr.grownBy w7 (some go4):=(by rw [hw];exact ag.2);have hp_:Kd.R k50 50 w7 w0.heap.size (fun k_=>(P0_ k_∨w.heap.size≤k_)) (.slice (some ⟨go4,0,none⟩) ab.length an) ae:=(by rw [hw,af.out];exact ag.1);clear ag;have ny2_:=mk0 (Kept.of_grown (S:=(fun k_=>P0_ k_)) hg (k_ HK) (fun k_ e_=>(ac.out.1 k_ e_)));replace ac:=mk0 (hp_);replace HB:=mk0 ((by rw [hw];exact bs_ (bs_ (HB.out) ar.out) ar.out:Below w0.heap.size w0 w7));clear HK;have HK:=ny2_;clear ny2_;clear hg hw hp_))
      go_roundg k1
      case measure=>have:=al.out;omega
      case rel=>exact ⟨(ae),(wrap64 (aa + 1)),sm_,H',⟨by have:=al.out;omega⟩,⟨r2_ ac.out⟩,⟨k_ HK⟩,⟨b_ HB⟩⟩
     ·rw [if_neg c3] at H
      exact absurd H (by simp)
    ·rw [if_neg c2] at H
     have am:=decide_eq_false c2
     clear c2
     obtain rfl:=Option.some.inj H
     obtain ⟨aI,aJ,aC⟩:=Kd.R_slice ac.out
     subst aC
     go_wp2
     first|go_end0|((try simp only [Exit.inBlock,Exit.then]);refine bodyPost_ret (results_none rfl _ _ _) rfl ?_)
     exact ⟨sa_,by (with_reducible repeat (first|apply Ra_|apply Rn_|apply Rd_));exact ac.out,b_ HB,k_ HK⟩
def FN.l0:Nat→List (S72)→List (S72)→Int→Option (Bool)
 | 0,_,_,_=>none
 | k + 1,b,c,a=>if a<(b.length:Int) then (if 0≤a then (if a<(c.length:Int) then (if (!(((rd_T72 b a).f0) == ((rd_T72 c a).f0)) || (!((((rd_T72 b a).f1).toList) == (((rd_T72 c a).f1).toList)) || (!((((rd_T72 b a).f2).toList) == (((rd_T72 c a).f2).toList)) || (!(((rd_T72 b a).f3) == ((rd_T72 c a).f3))))))=true then (some false) else (FN.l0 k b c (wrap64 (a + 1)))) else (none)) else (none)) else (some true)
def FN.f (k:Nat) (l0:List (S72)) (l1:List (S72)):Option (Bool):=if (l0.length:Int)=(l1.length:Int) then (FN.l0 k l0 l1 0) else (some false)
theorem FN.mono_l:∀ k,(∀ y0 y1 y2,LeO (FN.l0 k y0 y1 y2) (FN.l0 (k + 1) y0 y1 y2))
 | 0=>fun _ _ _ r h=>by simp [FN.l0] at h
 | k + 1=>by
  have ih0:=FN.mono_l k
  all_goals (intros;first|unfold FN.l0)
  all_goals exact mz_
theorem FN.mono:∀ a0 a1 k,LeO (FN.f k a0 a1) (FN.f (k + 1) a0 a1):=by
 intro a0 a1 k
 have ih0:=FN.mono_l k
 unfold FN.f
 exact mz_
theorem FN.calls (k:Nat) (A0:Option Addr) (c0:Nat) (l0:List (S72)) (A1:Option Addr) (c1:Nat) (l1:List (S72)) (r:Bool) (w:World) (hr0:Kd.C k72 w A0 l0.length l0) (hc0:l0.length≤c0) (hr1:Kd.C k72 w A1 l1.length l1) (hc1:l1.length≤c1) (h:FN.f k l0 l1=some r) :
 Calls Tryz.prog 47 #[.slice A0 l0.length c0,.slice A1 l1.length c1] w fun e w'=>e = .returned (.bool r)∧Drawn0 w w':=by
 have hu72:=Tryz.underlying72
 have HR0:=mk0 hr0
 have HC0:=mk0 hc0
 clear hr0 hc0
 have HR1:=mk0 hr1
 have HC1:=mk0 hc1
 clear hr1 hc1
 have H:(if (l0.length:Int)=(l1.length:Int) then (FN.l0 k l0 l1 0) else (some false))=some r:=h
 clear h
 by_cases c3:(l0.length:Int)=(l1.length:Int)
 ·rw [if_pos c3] at H
  have ap:=beq_iff_eq.mpr c3
  have aq:=bne_eq_false_iff_eq.mpr c3
  have ar:(l0.length == l1.length)=true:=by first|simpa using c3|(simp at c3 ⊢; omega)
  clear c3
  have H':=mk0 H
  clear H
  go_enter Tryz.func47,Tryz.ntmps47
  go_wp2
  repeat (go_quiet (fail);try go_wp2)
  go_loopg [5] k (fun kq v5 w'=>∃ (aa:Int),v5 = .int .i64 aa∧Fc (FN.l0 kq l0 l1 aa=some r)∧Fc (kq≤k)∧Drawn0 w w')
  case atStart=>exact ⟨(0),sm_,H',⟨Nat.le_refl _⟩,by repeat (first|exact Drawn0.refl _|apply Drawn0.step)⟩
  case round=>
   clear H'
   try clear c3
   try clear ap
   try clear aq
   try clear ar
   obtain ⟨aa,rfl,HA,aw,⟨m1,rfl⟩⟩:=hrel
   cases gk with
   | zero=>exact absurd HA.out (by simp [FN.l0])
   | succ k1=>
    have H:=HA.out
    clear HA
    simp only [FN.l0] at H
    as_aux_lemma=>
     by_cases c4:aa<(l0.length:Int)
     ·rw [if_pos c4] at H
      have ax:=decide_eq_true c4
      clear c4
      by_cases c5:0≤aa
      ·rw [if_pos c5] at H
       have az:=decide_eq_true c5
       clear c5
       by_cases c6:aa<(l1.length:Int)
       ·rw [if_pos c6] at H
        have aA:=decide_eq_true c6
        clear c6
        by_cases c7:(!(((rd_T72 l0 aa).f0) == ((rd_T72 l1 aa).f0)) || (!((((rd_T72 l0 aa).f1).toList) == (((rd_T72 l1 aa).f1).toList)) || (!((((rd_T72 l0 aa).f2).toList) == (((rd_T72 l1 aa).f2).toList)) || (!(((rd_T72 l0 aa).f3) == ((rd_T72 l1 aa).f3))))))=true
        ·rw [if_pos c7] at H
         have ay:(!(((rd_T72 l0 aa).f0) == ((rd_T72 l1 aa).f0)) || (!((((rd_T72 l0 aa).f1).toList) == (((rd_T72 l1 aa).f1).toList)) || (!((((rd_T72 l0 aa).f2).toList) == (((rd_T72 l1 aa).f2).toList)) || (!(((rd_T72 l0 aa).f3) == ((rd_T72 l1 aa).f3))))))=true:=c7
         clear c7
         obtain rfl:=Option.some.inj H
         have ab:0≤(aa:Int):=od_
         have ac:aa<(l0.length:Int):=od_
         obtain ⟨au,af,ag,ah,ai,aj⟩:=at_T72 HR0.out aa ab ac
         cases af
         replace ab:=eq_true ab
         replace ac:=eq_true ac
         have ad:0≤(aa:Int):=od_
         have ae:aa<(l1.length:Int):=od_
         obtain ⟨av,ak,al,am,an,ao⟩:=at_T72 HR1.out aa ad ae
         cases ak
         replace ad:=eq_true ad
         replace ae:=eq_true ae
         go_wp2
         repeat (go_quiet (fail);try go_wp2)
         go_ret
         exact ⟨by first|rfl|(simp;done)|(simp [*];done),by repeat (first|exact Drawn0.refl _|apply Drawn0.step)⟩
        ·rw [if_neg c7] at H
         have ay:(!(((rd_T72 l0 aa).f0) == ((rd_T72 l1 aa).f0)) || (!((((rd_T72 l0 aa).f1).toList) == (((rd_T72 l1 aa).f1).toList)) || (!((((rd_T72 l0 aa).f2).toList) == (((rd_T72 l1 aa).f2).toList)) || (!(((rd_T72 l0 aa).f3) == ((rd_T72 l1 aa).f3))))))=false:=by simpa using c7
         clear c7
         have H':=mk0 H
         clear H
         have ab:0≤(aa:Int):=od_
         have ac:aa<(l0.length:Int):=od_
         obtain ⟨au,af,ag,ah,ai,aj⟩:=at_T72 HR0.out aa ab ac
         cases af
         replace ab:=eq_true ab
         replace ac:=eq_true ac
         have ad:0≤(aa:Int):=od_
         have ae:aa<(l1.length:Int):=od_
         obtain ⟨av,ak,al,am,an,ao⟩:=at_T72 HR1.out aa ad ae
         cases ak
         replace ad:=eq_true ad
         replace ae:=eq_true ae
         go_wp2
         repeat (go_quiet (fail);try go_wp2)
         go_roundg k1
         case measure=>have:=aw.out;omega
         case rel=>exact ⟨(wrap64 (aa + 1)),sm_,H',⟨by have:=aw.out;omega⟩,by repeat (first|exact Drawn0.refl _|apply Drawn0.step)⟩
       ·rw [if_neg c6] at H
        exact absurd H (by simp)
      ·rw [if_neg c5] at H
       exact absurd H (by simp)
     ·rw [if_neg c4] at H
      have ax:=decide_eq_false c4
      clear c4
      obtain rfl:=Option.some.inj H
      go_wp2
      repeat (go_quiet (fail);try go_wp2)
      go_ret
      exact ⟨by first|rfl|(simp;done)|(simp [*];done),by repeat (first|exact Drawn0.refl _|apply Drawn0.step)⟩
 ·rw [if_neg c3] at H
  have ap:=beq_eq_false_iff_ne.mpr c3
  have aq:=bne_iff_ne.mpr c3
  have ar:(l0.length == l1.length)=false:=by first|simpa using c3|(simp at c3 ⊢; omega)
  obtain rfl:=Option.some.inj H
  go_enter Tryz.func47,Tryz.ntmps47
  go_wp2
  repeat (go_quiet (fail);try go_wp2)
  go_ret
  exact ⟨by first|rfl|(simp;done)|(simp [*];done),by repeat (first|exact Drawn0.refl _|apply Drawn0.step)⟩
def FS.l0:Nat→List Int→List Int→Int→Option (Bool)
 | 0,_,_,_=>none
 | k + 1,b,c,a=>if a<(b.length:Int) then (if 0≤a then (if a<(c.length:Int) then (if (rd b a)=(rd c a) then (FS.l0 k b c (wrap64 (a + 1))) else (some false)) else (none)) else (none)) else (some true)
def FS.f (k:Nat) (l0:List Int) (l1:List Int):Option (Bool):=if (l0.length:Int)=(l1.length:Int) then (FS.l0 k l0 l1 0) else (some false)
theorem FS.mono_l:∀ k,(∀ y0 y1 y2,LeO (FS.l0 k y0 y1 y2) (FS.l0 (k + 1) y0 y1 y2))
 | 0=>fun _ _ _ r h=>by simp [FS.l0] at h
 | k + 1=>by
  have ih0:=FS.mono_l k
  all_goals (intros;first|unfold FS.l0)
  all_goals exact mz_
theorem FS.mono:∀ a0 a1 k,LeO (FS.f k a0 a1) (FS.f (k + 1) a0 a1):=by
 intro a0 a1 k
 have ih0:=FS.mono_l k
 unfold FS.f
 exact mz_
theorem FS.calls (k:Nat) (A0:Option Addr) (c0:Nat) (l0:List Int) (A1:Option Addr) (c1:Nat) (l1:List Int) (r:Bool) (w:World) (hr0:Kd.C (Kd.int .i64) w A0 l0.length l0) (hc0:l0.length≤c0) (hr1:Kd.C (Kd.int .i64) w A1 l1.length l1) (hc1:l1.length≤c1) (h:FS.f k l0 l1=some r) :
 Calls Tryz.prog 48 #[.slice A0 l0.length c0,.slice A1 l1.length c1] w fun e w'=>e = .returned (.bool r)∧Drawn0 w w':=by
 have HR0:=mk0 hr0
 have HC0:=mk0 hc0
 clear hr0 hc0
 have HR1:=mk0 hr1
 have HC1:=mk0 hc1
 clear hr1 hc1
 have H:(if (l0.length:Int)=(l1.length:Int) then (FS.l0 k l0 l1 0) else (some false))=some r:=h
 clear h
 by_cases c3:(l0.length:Int)=(l1.length:Int)
 ·rw [if_pos c3] at H
  have aj:=beq_iff_eq.mpr c3
  have ak:=bne_eq_false_iff_eq.mpr c3
  have al:(l0.length == l1.length)=true:=by first|simpa using c3|(simp at c3 ⊢; omega)
  clear c3
  have H':=mk0 H
  clear H
  go_enter Tryz.func48,Tryz.ntmps48
  go_wp2
  repeat (go_quiet (fail);try go_wp2)
  go_loopg [5] k (fun kq v5 w'=>∃ (aa:Int),v5 = .int .i64 aa∧Fc (FS.l0 kq l0 l1 aa=some r)∧Fc (kq≤k)∧Drawn0 w w')
  case atStart=>exact ⟨(0),sm_,H',⟨Nat.le_refl _⟩,by repeat (first|exact Drawn0.refl _|apply Drawn0.step)⟩
  case round=>
   clear H'
   try clear c3
   try clear aj
   try clear ak
   try clear al
   obtain ⟨aa,rfl,HA,ao,⟨m1,rfl⟩⟩:=hrel
   cases gk with
   | zero=>exact absurd HA.out (by simp [FS.l0])
   | succ k1=>
    have H:=HA.out
    clear HA
    simp only [FS.l0] at H
    as_aux_lemma=>
     by_cases c4:aa<(l0.length:Int)
     ·rw [if_pos c4] at H
      have ap:=decide_eq_true c4
      clear c4
      by_cases c5:0≤aa
      ·rw [if_pos c5] at H
       have au:=decide_eq_true c5
       clear c5
       by_cases c6:aa<(l1.length:Int)
       ·rw [if_pos c6] at H
        have av:=decide_eq_true c6
        clear c6
        by_cases c7:(rd l0 aa)=(rd l1 aa)
        ·rw [if_pos c7] at H
         have aq:=beq_iff_eq.mpr c7
         have ar:=bne_eq_false_iff_eq.mpr c7
         clear c7
         have H':=mk0 H
         clear H
         have ab:0≤(aa:Int):=od_
         have ac:aa<(l0.length:Int):=od_
         obtain ⟨am,af,ag⟩:=Kd.at_int HR0.out aa ab ac
         cases af
         replace ab:=eq_true ab
         replace ac:=eq_true ac
         have ad:0≤(aa:Int):=od_
         have ae:aa<(l1.length:Int):=od_
         obtain ⟨an,ah,ai⟩:=Kd.at_int HR1.out aa ad ae
         cases ah
         replace ad:=eq_true ad
         replace ae:=eq_true ae
         go_wp2
         repeat (go_quiet (fail);try go_wp2)
         go_roundg k1
         case measure=>have:=ao.out;omega
         case rel=>exact ⟨(wrap64 (aa + 1)),sm_,H',⟨by have:=ao.out;omega⟩,by repeat (first|exact Drawn0.refl _|apply Drawn0.step)⟩
        ·rw [if_neg c7] at H
         have aq:=beq_eq_false_iff_ne.mpr c7
         have ar:=bne_iff_ne.mpr c7
         obtain rfl:=Option.some.inj H
         have ab:0≤(aa:Int):=od_
         have ac:aa<(l0.length:Int):=od_
         obtain ⟨am,af,ag⟩:=Kd.at_int HR0.out aa ab ac
         cases af
         replace ab:=eq_true ab
         replace ac:=eq_true ac
         have ad:0≤(aa:Int):=od_
         have ae:aa<(l1.length:Int):=od_
         obtain ⟨an,ah,ai⟩:=Kd.at_int HR1.out aa ad ae
         cases ah
         replace ad:=eq_true ad
         replace ae:=eq_true ae
         go_wp2
         repeat (go_quiet (fail);try go_wp2)
         go_ret
         exact ⟨by first|rfl|(simp;done)|(simp [*];done),by repeat (first|exact Drawn0.refl _|apply Drawn0.step)⟩
       ·rw [if_neg c6] at H
        exact absurd H (by simp)
      ·rw [if_neg c5] at H
       exact absurd H (by simp)
     ·rw [if_neg c4] at H
      have ap:=decide_eq_false c4
      clear c4
      obtain rfl:=Option.some.inj H
      go_wp2
      repeat (go_quiet (fail);try go_wp2)
      go_ret
      exact ⟨by first|rfl|(simp;done)|(simp [*];done),by repeat (first|exact Drawn0.refl _|apply Drawn0.step)⟩
 ·rw [if_neg c3] at H
  have aj:=beq_eq_false_iff_ne.mpr c3
  have ak:=bne_iff_ne.mpr c3
  have al:(l0.length == l1.length)=false:=by first|simpa using c3|(simp at c3 ⊢; omega)
  obtain rfl:=Option.some.inj H
  go_enter Tryz.func48,Tryz.ntmps48
  go_wp2
  repeat (go_quiet (fail);try go_wp2)
  go_ret
  exact ⟨by first|rfl|(simp;done)|(simp [*];done),by repeat (first|exact Drawn0.refl _|apply Drawn0.step)⟩
def Gf.f (k:Nat) (l0_0:List (S72)) (l0_1:List Int) (l1_0:List (S72)) (l1_1:List Int):Option (Bool):=(FN.f k l0_0 l1_0).bind fun a=>(if a=true then ((FS.f k l0_1 l1_1).bind fun b=>(some b)) else (some false))
theorem Gf.mono:∀ a0 a1 a2 a3 k,LeO (Gf.f k a0 a1 a2 a3) (Gf.f (k + 1) a0 a1 a2 a3):=by
 intro a0 a1 a2 a3 k
 have:=@FS.mono
 have:=@FN.mono
 unfold Gf.f
 exact mz_
theorem Gf.calls (k:Nat) (A0_0:Option Addr) (c0_0:Nat) (l0_0:List (S72)) (A0_1:Option Addr) (c0_1:Nat) (l0_1:List Int) (A1_0:Option Addr) (c1_0:Nat) (l1_0:List (S72)) (A1_1:Option Addr) (c1_1:Nat) (l1_1:List Int) (r:Bool) (w:World) (hr0_0:Kd.C k72 w A0_0 l0_0.length l0_0) (hc0_0:l0_0.length≤c0_0) (hr0_1:Kd.C (Kd.int .i64) w A0_1 l0_1.length l0_1) (hc0_1:l0_1.length≤c0_1) (hr1_0:Kd.C k72 w A1_0 l1_0.length l1_0) (hc1_0:l1_0.length≤c1_0) (hr1_1:Kd.C (Kd.int .i64) w A1_1 l1_1.length l1_1) (hc1_1:l1_1.length≤c1_1) (h:Gf.f k l0_0 l0_1 l1_0 l1_1=some r) :
 Calls Tryz.prog 21 #[.agg #[.slice A0_0 l0_0.length c0_0,.slice A0_1 l0_1.length c0_1],.agg #[.slice A1_0 l1_0.length c1_0,.slice A1_1 l1_1.length c1_1]] w fun e w'=>e = .returned (.bool r)∧Below w.heap.size w w':=by
 have hu34:=Tryz.underlying34
 have ad:=mk0 hr0_0
 have ae:=mk0 hc0_0
 clear hr0_0 hc0_0
 have ak:=mk0 hr0_1
 have al:=mk0 hc0_1
 clear hr0_1 hc0_1
 have af:=mk0 hr1_0
 have ag:=mk0 hc1_0
 clear hr1_0 hc1_0
 have am:=mk0 hr1_1
 have an:=mk0 hc1_1
 clear hr1_1 hc1_1
 have HB:=mk0 (Below.refl w.heap.size w)
 have H:((FN.f k l0_0 l1_0).bind fun ah=>(if ah=true then ((FS.f k l0_1 l1_1).bind fun ai=>(some ai)) else (some false)))=some r:=h
 clear h
 replace H:=ob_ H
 obtain ⟨ah,A3,H⟩:=H
 try dsimp only at H
 by_cases c4:ah=true
 focus
  subst c4
  rw [if_pos rfl] at H
  replace H:=ob_ H
  obtain ⟨ai,A5,H⟩:=H
  try dsimp only at H
  obtain rfl:=Option.some.inj H
  go_enter Tryz.func21,Tryz.ntmps21
 rotate_left 1
 focus
  replace c4:=Bool.eq_false_iff.mpr c4
  subst c4
  rw [if_neg nf_] at H
  obtain rfl:=Option.some.inj H
  go_enter Tryz.func21,Tryz.ntmps21
 rotate_right 1
 all_goals go_wp2_with (first|((with_reducible refine gate_dst (N:=2) rfl ?_);refine bx_ (N:=2) (cs:=#[.slice A0_0 l0_0.length c0_0,.slice A0_1 l0_1.length c0_1]) (t:=34) (h:=?_);intro aC hg w6 hbox hb;have ny2_:=mk0 (gz_ HB hg);have aj:=mk0 (gz_ HB hg);replace HB:=mk0 (bt_ (b_ HB) hb);have aa:=mk0 (hbox);have aD:=ny2_;have aE:=aj;clear ny2_ aj;clear hb hbox hg)|((with_reducible refine gate_dst (N:=3) rfl ?_);refine bx_ (N:=3) (cs:=#[.slice A1_0 l1_0.length c1_0,.slice A1_1 l1_1.length c1_1]) (t:=34) (h:=?_);intro aF hg w7 hbox hb;have aj:=mk0 (gz_ HB hg);have ap:=mk0 (gz_ HB hg);have aq:=mk0 (ne1_ aa hg);have ar:=mk0 (ne2_ aa hg);replace aa:=mk0 (u_ aa hb);replace HB:=mk0 (bt_ (b_ HB) hb);have ao:=mk0 (hbox);have aG:=ap;have ab:=aq;have ac:=ar;clear aj ap aq ar hb hbox hg;have aH:=ab.out;have aI:=ac.out;obtain ⟨ay,az,aA,aB⟩:=c2_ aa;obtain ⟨au,av,aw,ax⟩:=c2_ ao)|((with_reducible refine gate_callee (f:=47) rfl ?_);refine gL_ (some 9) Tryz.func47 #[.slice A0_0 l0_0.length c0_0,.slice A1_0 l1_0.length c1_0] (h:=?_);(with_reducible refine (FN.calls k _ _ l0_0 _ _ l1_0 true _ ?side1 ?side2 ?side3 ?side4 A3.out).mono ?_);(case side1=>exact cb_ ad HB);(case side2=>exact ae.out);(case side3=>exact cb_ af HB);(case side4=>exact ag.out);rintro e w' ⟨rfl,⟨nd,rfl⟩⟩;refine ⟨_,rfl,?_⟩)|(go_at_call 48;(with_reducible refine (FS.calls k _ _ l0_1 _ _ l1_1 ai _ ?side1 ?side2 ?side3 ?side4 A5.out).mono ?_);(case side1=>repeat (first|exact (Kd.C_below ak.out (b_ HB))|(with_reducible refine Kd.C_alloc ?_ _)|(with_reducible refine Kd.C_drewN ?_ _)|(with_reducible refine Kd.C_drew ?_)));(case side2=>exact al.out);(case side3=>repeat (first|exact (Kd.C_below am.out (b_ HB))|(with_reducible refine Kd.C_alloc ?_ _)|(with_reducible refine Kd.C_drewN ?_ _)|(with_reducible refine Kd.C_drew ?_)));(case side4=>exact an.out);rintro e w' ⟨rfl,⟨nd,rfl⟩⟩)|((with_reducible refine gate_callee (f:=47) rfl ?_);refine gL_ (some 9) Tryz.func47 #[.slice A0_0 l0_0.length c0_0,.slice A1_0 l1_0.length c1_0] (h:=?_);(with_reducible refine (FN.calls k _ _ l0_0 _ _ l1_0 false _ ?side1 ?side2 ?side3 ?side4 A3.out).mono ?_);(case side1=>exact cb_ ad HB);(case side2=>exact ae.out);(case side3=>exact cb_ af HB);(case side4=>exact ag.out);rintro e w' ⟨rfl,⟨nd,rfl⟩⟩;refine ⟨_,rfl,?_⟩))
 ·go_ret
  exact ⟨sa_,b_ HB⟩
 ·go_ret
  exact ⟨sa_,b_ HB⟩
def FW.l0:Nat→List (S78)→List (S78)→Int→Option (Bool)
 | 0,_,_,_=>none
 | k + 1,b,c,a=>if a<(b.length:Int) then (if 0≤a then (if a<(c.length:Int) then (if (!(((rd_T78 b a).f0) == ((rd_T78 c a).f0)) || (!((((rd_T78 b a).f1).toList) == (((rd_T78 c a).f1).toList)) || (!(((rd_T78 b a).f2) == ((rd_T78 c a).f2)))))=true then (some false) else (FW.l0 k b c (wrap64 (a + 1)))) else (none)) else (none)) else (some true)
def FW.f (k:Nat) (l0:List (S78)) (l1:List (S78)):Option (Bool):=if (l0.length:Int)=(l1.length:Int) then (FW.l0 k l0 l1 0) else (some false)
theorem FW.mono_l:∀ k,(∀ y0 y1 y2,LeO (FW.l0 k y0 y1 y2) (FW.l0 (k + 1) y0 y1 y2))
 | 0=>fun _ _ _ r h=>by simp [FW.l0] at h
 | k + 1=>by
  have ih0:=FW.mono_l k
  all_goals (intros;first|unfold FW.l0)
  all_goals exact mz_
theorem FW.mono:∀ a0 a1 k,LeO (FW.f k a0 a1) (FW.f (k + 1) a0 a1):=by
 intro a0 a1 k
 have ih0:=FW.mono_l k
 unfold FW.f
 exact mz_
theorem FW.calls (k:Nat) (A0:Option Addr) (c0:Nat) (l0:List (S78)) (A1:Option Addr) (c1:Nat) (l1:List (S78)) (r:Bool) (w:World) (hr0:Kd.C k78 w A0 l0.length l0) (hc0:l0.length≤c0) (hr1:Kd.C k78 w A1 l1.length l1) (hc1:l1.length≤c1) (h:FW.f k l0 l1=some r) :
 Calls Tryz.prog 114 #[.slice A0 l0.length c0,.slice A1 l1.length c1] w fun e w'=>e = .returned (.bool r)∧Drawn0 w w':=by
 have hu78:=Tryz.underlying78
 have HR0:=mk0 hr0
 have HC0:=mk0 hc0
 clear hr0 hc0
 have HR1:=mk0 hr1
 have HC1:=mk0 hc1
 clear hr1 hc1
 have H:(if (l0.length:Int)=(l1.length:Int) then (FW.l0 k l0 l1 0) else (some false))=some r:=h
 clear h
 by_cases c3:(l0.length:Int)=(l1.length:Int)
 ·rw [if_pos c3] at H
  have an:=beq_iff_eq.mpr c3
  have ao:=bne_eq_false_iff_eq.mpr c3
  have ap:(l0.length == l1.length)=true:=by first|simpa using c3|(simp at c3 ⊢; omega)
  clear c3
  have H':=mk0 H
  clear H
  go_enter Tryz.func114,Tryz.ntmps114
  go_wp2
  repeat (go_quiet (fail);try go_wp2)
  go_loopg [5] k (fun kq v5 w'=>∃ (aa:Int),v5 = .int .i64 aa∧Fc (FW.l0 kq l0 l1 aa=some r)∧Fc (kq≤k)∧Drawn0 w w')
  case atStart=>exact ⟨(0),sm_,H',⟨Nat.le_refl _⟩,by repeat (first|exact Drawn0.refl _|apply Drawn0.step)⟩
  case round=>
   clear H'
   try clear c3
   try clear an
   try clear ao
   try clear ap
   obtain ⟨aa,rfl,HA,au,⟨m1,rfl⟩⟩:=hrel
   cases gk with
   | zero=>exact absurd HA.out (by simp [FW.l0])
   | succ k1=>
    have H:=HA.out
    clear HA
    simp only [FW.l0] at H
    as_aux_lemma=>
     by_cases c4:aa<(l0.length:Int)
     ·rw [if_pos c4] at H
      have av:=decide_eq_true c4
      clear c4
      by_cases c5:0≤aa
      ·rw [if_pos c5] at H
       have ax:=decide_eq_true c5
       clear c5
       by_cases c6:aa<(l1.length:Int)
       ·rw [if_pos c6] at H
        have ay:=decide_eq_true c6
        clear c6
        by_cases c7:(!(((rd_T78 l0 aa).f0) == ((rd_T78 l1 aa).f0)) || (!((((rd_T78 l0 aa).f1).toList) == (((rd_T78 l1 aa).f1).toList)) || (!(((rd_T78 l0 aa).f2) == ((rd_T78 l1 aa).f2)))))=true
        ·rw [if_pos c7] at H
         have aw:(!(((rd_T78 l0 aa).f0) == ((rd_T78 l1 aa).f0)) || (!((((rd_T78 l0 aa).f1).toList) == (((rd_T78 l1 aa).f1).toList)) || (!(((rd_T78 l0 aa).f2) == ((rd_T78 l1 aa).f2)))))=true:=c7
         clear c7
         obtain rfl:=Option.some.inj H
         have ab:0≤(aa:Int):=od_
         have ac:aa<(l0.length:Int):=od_
         obtain ⟨aq,af,ag,ah,ai⟩:=at_T78 HR0.out aa ab ac
         cases af
         replace ab:=eq_true ab
         replace ac:=eq_true ac
         have ad:0≤(aa:Int):=od_
         have ae:aa<(l1.length:Int):=od_
         obtain ⟨ar,aj,ak,al,am⟩:=at_T78 HR1.out aa ad ae
         cases aj
         replace ad:=eq_true ad
         replace ae:=eq_true ae
         go_wp2
         repeat (go_quiet (fail);try go_wp2)
         go_ret
         exact ⟨by first|rfl|(simp;done)|(simp [*];done),by repeat (first|exact Drawn0.refl _|apply Drawn0.step)⟩
        ·rw [if_neg c7] at H
         have aw:(!(((rd_T78 l0 aa).f0) == ((rd_T78 l1 aa).f0)) || (!((((rd_T78 l0 aa).f1).toList) == (((rd_T78 l1 aa).f1).toList)) || (!(((rd_T78 l0 aa).f2) == ((rd_T78 l1 aa).f2)))))=false:=by simpa using c7
         clear c7
         have H':=mk0 H
         clear H
         have ab:0≤(aa:Int):=od_
         have ac:aa<(l0.length:Int):=od_
         obtain ⟨aq,af,ag,ah,ai⟩:=at_T78 HR0.out aa ab ac
         cases af
         replace ab:=eq_true ab
         replace ac:=eq_true ac
         have ad:0≤(aa:Int):=od_
         have ae:aa<(l1.length:Int):=od_
         obtain ⟨ar,aj,ak,al,am⟩:=at_T78 HR1.out aa ad ae
         cases aj
         replace ad:=eq_true ad
         replace ae:=eq_true ae
         go_wp2
         repeat (go_quiet (fail);try go_wp2)
         go_roundg k1
         case measure=>have:=au.out;omega
         case rel=>exact ⟨(wrap64 (aa + 1)),sm_,H',⟨by have:=au.out;omega⟩,by repeat (first|exact Drawn0.refl _|apply Drawn0.step)⟩
       ·rw [if_neg c6] at H
        exact absurd H (by simp)
      ·rw [if_neg c5] at H
       exact absurd H (by simp)
     ·rw [if_neg c4] at H
      have av:=decide_eq_false c4
      clear c4
      obtain rfl:=Option.some.inj H
      go_wp2
      repeat (go_quiet (fail);try go_wp2)
      go_ret
      exact ⟨by first|rfl|(simp;done)|(simp [*];done),by repeat (first|exact Drawn0.refl _|apply Drawn0.step)⟩
 ·rw [if_neg c3] at H
  have an:=beq_eq_false_iff_ne.mpr c3
  have ao:=bne_iff_ne.mpr c3
  have ap:(l0.length == l1.length)=false:=by first|simpa using c3|(simp at c3 ⊢; omega)
  obtain rfl:=Option.some.inj H
  go_enter Tryz.func114,Tryz.ntmps114
  go_wp2
  repeat (go_quiet (fail);try go_wp2)
  go_ret
  exact ⟨by first|rfl|(simp;done)|(simp [*];done),by repeat (first|exact Drawn0.refl _|apply Drawn0.step)⟩
def Gg.f (k:Nat) (a0_0:ByteArray) (l0_1:List (S78)) (a1_0:ByteArray) (l1_1:List (S78)):Option (Bool):=if a0_0.toList=a1_0.toList then ((FW.f k l0_1 l1_1).bind fun a=>(some a)) else (some false)
theorem Gg.mono:∀ a0 a1 a2 a3 k,LeO (Gg.f k a0 a1 a2 a3) (Gg.f (k + 1) a0 a1 a2 a3):=by
 intro a0 a1 a2 a3 k
 have:=@FW.mono
 unfold Gg.f
 exact mz_
theorem Gg.calls (k:Nat) (a0_0:ByteArray) (A0_1:Option Addr) (c0_1:Nat) (l0_1:List (S78)) (a1_0:ByteArray) (A1_1:Option Addr) (c1_1:Nat) (l1_1:List (S78)) (r:Bool) (w:World) (hr0_1:Kd.C k78 w A0_1 l0_1.length l0_1) (hc0_1:l0_1.length≤c0_1) (hr1_1:Kd.C k78 w A1_1 l1_1.length l1_1) (hc1_1:l1_1.length≤c1_1) (h:Gg.f k a0_0 l0_1 a1_0 l1_1=some r) :
 Calls Tryz.prog 99 #[.agg #[.string a0_0,.slice A0_1 l0_1.length c0_1],.agg #[.string a1_0,.slice A1_1 l1_1.length c1_1]] w fun e w'=>e = .returned (.bool r)∧Below w.heap.size w w':=by
 have hu83:=Tryz.underlying83
 have aj:=mk0 hr0_1
 have ak:=mk0 hc0_1
 clear hr0_1 hc0_1
 have al:=mk0 hr1_1
 have am:=mk0 hc1_1
 clear hr1_1 hc1_1
 have HB:=mk0 (Below.refl w.heap.size w)
 have H:(if a0_0.toList=a1_0.toList then ((FW.f k l0_1 l1_1).bind fun af=>(some af)) else (some false))=some r:=h
 clear h
 by_cases c3:a0_0.toList=a1_0.toList
 ·rw [if_pos c3] at H
  have av:=beq_iff_eq.mpr c3
  have aw:=bne_eq_false_iff_eq.mpr c3
  clear c3
  replace H:=ob_ H
  obtain ⟨af,A4,H⟩:=H
  try dsimp only at H
  obtain rfl:=Option.some.inj H
  go_enter Tryz.func99,Tryz.ntmps99
  go_wp2_with (first|((with_reducible refine gate_dst (N:=2) rfl ?_);refine bx_ (N:=2) (cs:=#[.string a0_0,.slice A0_1 l0_1.length c0_1]) (t:=83) (h:=?_);intro an hg w5 hbox hb;have ny2_:=mk0 (gz_ HB hg);have ad:=mk0 (gz_ HB hg);replace HB:=mk0 (bt_ (b_ HB) hb);have aa:=mk0 (hbox);have ao:=ny2_;have ap:=ad;clear ny2_ ad;clear hb hbox hg)|((with_reducible refine gate_dst (N:=3) rfl ?_);refine bx_ (N:=3) (cs:=#[.string a1_0,.slice A1_1 l1_1.length c1_1]) (t:=83) (h:=?_);intro aq hg w6 hbox hb;have ad:=mk0 (gz_ HB hg);have ag:=mk0 (gz_ HB hg);have ah:=mk0 (ne1_ aa hg);have ai:=mk0 (ne2_ aa hg);replace aa:=mk0 (u_ aa hb);replace HB:=mk0 (bt_ (b_ HB) hb);have ae:=mk0 (hbox);have ar:=ad;have au:=ag;have ab:=ah;have ac:=ai;clear ad ag ah ai hb hbox hg;have aP:=ab.out;have aQ:=ac.out;obtain ⟨aF,aG,aH,aI⟩:=c2_ aa;obtain ⟨aJ,aK,aL,aM⟩:=c2_ ae)|(go_at_call 114;(with_reducible refine (FW.calls k _ _ l0_1 _ _ l1_1 af _ ?side1 ?side2 ?side3 ?side4 A4.out).mono ?_);(case side1=>exact cb_ aj HB);(case side2=>exact ak.out);(case side3=>exact cb_ al HB);(case side4=>exact am.out);rintro e w' ⟨rfl,⟨nd,rfl⟩⟩))
  go_ret
  exact ⟨sa_,b_ HB⟩
 ·rw [if_neg c3] at H
  have av:=beq_eq_false_iff_ne.mpr c3
  have aw:=bne_iff_ne.mpr c3
  obtain rfl:=Option.some.inj H
  go_enter Tryz.func99,Tryz.ntmps99
  go_wp2_with (first|((with_reducible refine gate_dst (N:=2) rfl ?_);refine bx_ (N:=2) (cs:=#[.string a0_0,.slice A0_1 l0_1.length c0_1]) (t:=83) (h:=?_);intro an hg aR hbox hb;have ny2_:=mk0 (gz_ HB hg);have ad:=mk0 (gz_ HB hg);replace HB:=mk0 (bt_ (b_ HB) hb);have aa:=mk0 (hbox);have ao:=ny2_;have ap:=ad;clear ny2_ ad;clear hb hbox hg)|((with_reducible refine gate_dst (N:=3) rfl ?_);refine bx_ (N:=3) (cs:=#[.string a1_0,.slice A1_1 l1_1.length c1_1]) (t:=83) (h:=?_);intro aq hg aS hbox hb;have ad:=mk0 (gz_ HB hg);have ag:=mk0 (gz_ HB hg);have ah:=mk0 (ne1_ aa hg);have ai:=mk0 (ne2_ aa hg);replace aa:=mk0 (u_ aa hb);replace HB:=mk0 (bt_ (b_ HB) hb);have ae:=mk0 (hbox);have ar:=ad;have au:=ag;have ab:=ah;have ac:=ai;clear ad ag ah ai hb hbox hg;have aN:=ab.out;have aO:=ac.out;obtain ⟨ax,ay,az,aA⟩:=c2_ aa;obtain ⟨aB,aC,aD,aE⟩:=c2_ ae))
  go_ret
  exact ⟨sa_,b_ HB⟩
end Go.Proofs.YtbaecdcfefmcgaaGreat.PVrd
