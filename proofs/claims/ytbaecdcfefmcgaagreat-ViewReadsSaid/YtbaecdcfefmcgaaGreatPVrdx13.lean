import Derived.Shelf.SlSorted.Search
import Derived.Test.YtbaecdcfefmcgaaGreatPVrdx0
import Derived.Test.YtbaecdcfefmcgaaGreatPVrdx10
namespace Go.Proofs.YtbaecdcfefmcgaaGreat.PVrd
open Go.RowKit Go.Proofs.YtbaecdcfefmcgaaGreatW.PrintWords Go.Proofs.YtbaecdcfefmcgaaGreatW.PrintLast Go.Proofs.YtbaecdcfefmcgaaGreatW.PrintMore
attribute [local go_sem] max2_int min2_int max_two min_two max_three min_three max_four min_four
set_option maxHeartbeats 8000000
set_option maxRecDepth 100000
set_option linter.unusedVariables false
set_option linter.unusedSimpArgs false
def FC.l0:Nat→List (S50)→List (S50)→Int→Option ((List (S50)))
 | 0,_,_,_=>none
 | k + 1,b,c,a=>if a<(b.length:Int) then (if 0≤a then (if c.length<4398046511104 then (FC.l0 k b (c ++ [(⟨(rd_T50 b a).f0,(rd_T50 b a).f1⟩:S50)]) (wrap64 (a + 1))) else (none)) else (none)) else (some c)
def FC.f (k:Nat) (l0:List (S50)):Option ((List (S50))):=FC.l0 k l0 ([]:List (S50)) 0
theorem FC.mono_l:∀ k,(∀ y0 y1 y2,LeO (FC.l0 k y0 y1 y2) (FC.l0 (k + 1) y0 y1 y2))
 | 0=>fun _ _ _ r h=>by simp [FC.l0] at h
 | k + 1=>by
  have ih0:=FC.mono_l k
  all_goals (intros;first|unfold FC.l0)
  all_goals exact mz_
theorem FC.mono:∀ a0 k,LeO (FC.f k a0) (FC.f (k + 1) a0):=by
 intro a0 k
 have ih0:=FC.mono_l k
 unfold FC.f
 exact mz_
theorem FC.calls (k:Nat) (A0:Option Addr) (c0:Nat) (l0:List (S50)) (r:List (S50)) (w:World) (hr0:Kd.C k50 w A0 l0.length l0) (hc0:l0.length≤c0) (h:FC.f k l0=some r) :
 Calls Tryz.prog 33 #[.slice A0 l0.length c0] w fun e w'=>∃ v0_:Value,e = .returned (v0_)∧Kd.R k50 50 w' w.heap.size (fun _=>True) v0_ r∧Below w.heap.size w w':=by
 have hu50:=Tryz.underlying50
 have HR0:=mk0 hr0
 have HC0:=mk0 hc0
 clear hr0 hc0
 have HB:=mk0 (Below.refl w.heap.size w)
 have H:(FC.l0 k l0 ([]:List (S50)) 0)=some r:=h
 clear h
 have H':=mk0 H
 clear H
 go_enter Tryz.func33,Tryz.ntmps33
 go_wp2
 go_loopg [3,4] k (fun kq v3 v4 w'=>∃ (ab:List (S50)) (aa:Int),v4 = .int .i64 aa∧Fc (FC.l0 kq l0 ab aa=some r)∧Fc (kq≤k)∧Fc (Kd.R k50 50 w' w.heap.size (fun _=>True) v3 ab)∧Fc (Below w.heap.size w w'))
 case atStart=>exact ⟨(([]:List (S50))),(0),sm_,H',⟨Nat.le_refl _⟩,⟨nl_⟩,⟨b_ HB⟩⟩
 case round=>
  clear H'
  obtain ⟨ab,aa,rfl,HA,al,af,HB⟩:=hrel
  cases gk with
  | zero=>exact absurd HA.out (by simp [FC.l0])
  | succ k1=>
   have H:=HA.out
   clear HA
   simp only [FC.l0] at H
   as_aux_lemma=>
    by_cases c2:aa<(l0.length:Int)
    ·rw [if_pos c2] at H
     have am:=decide_eq_true c2
     clear c2
     by_cases c3:0≤aa
     ·rw [if_pos c3] at H
      have ap:=decide_eq_true c3
      clear c3
      by_cases c4:ab.length<4398046511104
      ·rw [if_pos c4] at H
       have LMc4:=mk0 c4
       clear c4
       obtain ⟨ai,ae⟩:∃ y_:List (S50),y_=(ab ++ [(⟨(rd_T50 l0 aa).f0,(rd_T50 l0 aa).f1⟩:S50)]):=⟨_,rfl⟩
       replace H:(FC.l0 k1 l0 ai (wrap64 (aa + 1)))=some r:=rp_ H ae
       have aj:=mk0 ae
       clear ae
       have H':=mk0 H
       clear H
       have ag:0≤(aa:Int):=od_
       have ah:aa<(l0.length:Int):=od_
       obtain ⟨ao,an,ac,ad⟩:=at_T50 HR0.out aa ag ah
       cases an
       replace ac:=(bc_ HB ac :)
       replace ad:=(bc_ HB ad :)
       replace ag:=eq_true ag
       replace ah:=eq_true ah
       go_wp2_with (first|((with_reducible refine gate_builtin (b:=.append) (xs:=#[.tmp 11,.tmp 16]) rfl ?_);at_builtin;refine Kd.R_append k50 (w0:=w) w.heap.size rfl (.tmp 11) (.tmp 16) 38 50 (.agg #[(.string ⟨#[]⟩),(.string ⟨#[]⟩)]) 32 rfl Tryz.underlying38 info50 rfl (by decide) (by omega) u3 ab (⟨(rd_T50 l0 aa).f0,(rd_T50 l0 aa).f1⟩:S50) [.string ((rd_T50 l0 aa).f0),.string ((rd_T50 l0 aa).f1)] (fun _=>True) (fun _=>False) rfl rfl ?aP (fun _ hk=>hk.elim) ?aF ?aO ?aB ?aS ?aL ?_;(case aP=>exact k50_mkM _ _ _ (⟨(rd_T50 l0 aa).f0,(rd_T50 l0 aa).f1⟩:S50));(case aB=>exact (b_ HB));(case aF=>exact (fun _ _=>trivial));(case aO=>exact (r_ af));(case aS=>exact (bz_ (b_ HB)));(case aL=>have:=LMc4.out;omega);intro aq w5 ho hb hg hat;rw [← aj.out] at ho;replace HB:=mk0 (hb);have ak:=mk0 (ho);clear af;clear ho hb hg hat))
       go_roundg k1
       case measure=>have:=al.out;omega
       case rel=>exact ⟨(ai),(wrap64 (aa + 1)),sm_,H',⟨by have:=al.out;omega⟩,⟨r2_ ak.out⟩,⟨b_ HB⟩⟩
      ·rw [if_neg c4] at H
       exact absurd H (by simp)
     ·rw [if_neg c3] at H
      exact absurd H (by simp)
    ·rw [if_neg c2] at H
     have am:=decide_eq_false c2
     clear c2
     obtain rfl:=Option.some.inj H
     go_wp2
     go_ret
     exact ⟨_,sa_,by (with_reducible repeat (first|apply Ra_|apply Rn_|apply Rd_));exact af.out,b_ HB⟩
def F5.f (k:Nat) (l0:List (S50)) (a1:ByteArray):Option ((List (S50))):=(Fy.f k l0 a1).bind fun a=>(if 0≤a then (if a≤(l0.length:Int) then ((FC.f k (l0.take (a:Int).toNat)).bind fun b=>(if 0≤(wrap64 (a + 1)) then (if (wrap64 (a + 1))≤(l0.length:Int) then ((some (l0.drop ((wrap64 (a + 1)):Int).toNat:List (S50))).bind fun c=>(if b.length + c.length<4398046511104 then (some (b ++ c)) else (none))) else (none)) else (none))) else (none)) else (none))
theorem F5.mono:∀ a0 a1 k,LeO (F5.f k a0 a1) (F5.f (k + 1) a0 a1):=by
 intro a0 a1 k
 have:=@FC.mono
 have:=@Fy.mono
 unfold F5.f
 exact mz_
def F5.T2:Bool×List (List Nat×List Nat):=(true,[([],[]),([],[]),([0,1],[0,1]),([2],[2]),([],[]),([],[]),([5],[5]),([4,6],[4,6]),([3,7,3],[3,7]),([8,8,0,1,2,3,4,5,6,7,8],[8])])
def F5.B2:List Nat:=[0,0,3,7,0,0,32,112,255,511]
theorem F5.tab2:rtab .any (opsOf Tryz.f34 2)=F5.T2:=by kernel_rfl
theorem F5.bits2:waitsOk F5.T2.2 F5.B2=true:=by kernel_rfl
theorem F5.calls (k:Nat) (A0:Option Addr) (c0:Nat) (l0:List (S50)) (a1:ByteArray) (r:List (S50)) (w:World) (hr0:Kd.C k50 w A0 l0.length l0) (hc0:l0.length≤c0) (h:F5.f k l0 a1=some r) :
 Calls Tryz.prog 34 #[.slice A0 l0.length c0,.string a1] w fun e w'=>∃ v0_:Value,e = .returned (v0_)∧Kd.R k50 50 w' w.heap.size (fun _=>True) v0_ r∧Below w.heap.size w w':=by
 have HR0:=mk0 hr0
 have HC0:=mk0 hc0
 clear hr0 hc0
 have HB:=mk0 (Below.refl w.heap.size w)
 have H:((Fy.f k l0 a1).bind fun aa=>(if 0≤aa then (if aa≤(l0.length:Int) then ((FC.f k (l0.take (aa:Int).toNat)).bind fun ac=>(if 0≤(wrap64 (aa + 1)) then (if (wrap64 (aa + 1))≤(l0.length:Int) then ((some (l0.drop ((wrap64 (aa + 1)):Int).toNat:List (S50))).bind fun ab=>(if ac.length + ab.length<4398046511104 then (some (ac ++ ab)) else (none))) else (none)) else (none))) else (none)) else (none)))=some r:=h
 clear h
 replace H:=ob_ H
 obtain ⟨aa,A3,H⟩:=H
 try dsimp only at H
 by_cases c4:0≤aa
 ·rw [if_pos c4] at H
  have aC:=eq_true c4
  have aD:=decide_eq_true c4
  clear c4
  by_cases c5:aa≤(l0.length:Int)
  ·rw [if_pos c5] at H
   have aE:=eq_true c5
   have aG:=decide_eq_true c5
   clear c5
   obtain ⟨af,ag⟩:∃ y_:List (S50),y_=(l0.take (aa:Int).toNat):=⟨_,rfl⟩
   replace H:((FC.f k af).bind fun ac=>(if 0≤(wrap64 (aa + 1)) then (if (wrap64 (aa + 1))≤(l0.length:Int) then ((some (l0.drop ((wrap64 (aa + 1)):Int).toNat:List (S50))).bind fun ab=>(if ac.length + ab.length<4398046511104 then (some (ac ++ ab)) else (none))) else (none)) else (none)))=some r:=rp_ H ag
   have ak:=mk0 ag
   clear ag
   replace H:=ob_ H
   obtain ⟨ac,A6,H⟩:=H
   try dsimp only at H
   obtain ⟨ad,ae⟩:∃ j_:Int,(wrap64 (aa + 1))=j_:=⟨_,rfl⟩
   replace H:(if 0≤(ad) then (if (ad)≤(l0.length:Int) then ((some (l0.drop ((ad):Int).toNat:List (S50))).bind fun ab=>(if ac.length + ab.length<4398046511104 then (some (ac ++ ab)) else (none))) else (none)) else (none))=some r:=by first|(rw [ae] at H;exact H)|(simp only [ae] at H ⊢; exact H)
   (try rw [ae] at A3)
   (try rw [ae] at A6)
   have hji7w:(IntKind.i64.wrap (aa + 1))=ad:=(i64_w _).trans ae
   by_cases c8:0≤(ad)
   ·rw [if_pos c8] at H
    have aH:=eq_true c8
    have aI:=decide_eq_true c8
    clear c8
    by_cases c9:(ad)≤(l0.length:Int)
    ·rw [if_pos c9] at H
     have aJ:=eq_true c9
     have aK:=decide_eq_true c9
     clear c9
     obtain ⟨ab,ah⟩:∃ y_:List (S50),y_=(l0.drop ((ad):Int).toNat):=⟨_,rfl⟩
     replace H:(if ac.length + ab.length<4398046511104 then (some (ac ++ ab)) else (none))=some r:=rp_ H ah
     have al:=mk0 ah
     clear ah
     by_cases ao:ac.length + ab.length<4398046511104
     ·rw [if_pos ao] at H
      have LMc10:=mk0 ao
      clear ao
      obtain ⟨av,ai⟩:∃ y_:List (S50),y_=(ac ++ ab):=⟨_,rfl⟩
      replace H:(some av)=some r:=rp_ H ai
      have ap:=mk0 ai
      clear ai
      obtain rfl:=Option.some.inj H
      go_enter Tryz.func34,Tryz.ntmps34
      try go_wp2_with (first|((with_reducible refine gate_callee (f:=14) rfl ?_);refine gL_ (some 8) Tryz.func14 #[.slice A0 l0.length c0,.string a1] (h:=?_);(with_reducible refine (Fy.calls k _ _ l0 a1 aa _ ?side1 ?side2 A3.out).mono ?_);(case side1=>repeat (first|exact HR0.out|(with_reducible refine Kd.C_alloc ?_ _)|(with_reducible refine Kd.C_drewN ?_ _)|(with_reducible refine Kd.C_drew ?_)));(case side2=>exact HC0.out);rintro e w' ⟨rfl,⟨nd,rfl⟩⟩;refine ⟨_,rfl,?_⟩))
      replace HB:=mk0 (b1_ (pw_below_drewN HB.out nd))
      have aq:(aa:Int)≤((l0.length:Int):Int):=od_
      obtain ⟨i012,hi012,_,hsz12,_⟩:=info_parts info50
      have hroom12:l0.length≤c0:=HC0.out
      have hC12:Kd.C k50 _ A0 l0.length l0:=HR0.out
      have hcut12:=cut_to (P:=Tryz.prog) 38 50 .i64 Tryz.underlying38 hi012 A0 l0.length c0 aa od_ aq hroom12
      have hr12:=Kd.C_take (m:=(aa:Int).toNat) hC12 (by omega)
      have am:af.length=(aa:Int).toNat:=(by rw [ak.out,List.length_take];omega)
      rw [← ak.out] at hr12
      rw [← am] at hcut12
      have HR267:=mk0 hr12
      have HC267:=mk0 (show af.length≤c0 from by omega)
      clear hr12 hC12 hroom12 hi012 hsz12
      have KY12:=mk0 am
      clear am
      replace aq:=eq_true aq
      have ar:((ad):Int)≤((l0.length:Int):Int):=od_
      obtain ⟨i013,hi013,_,hsz13,_⟩:=info_parts info50
      have hroom13:l0.length≤c0:=HC0.out
      have hC13:Kd.C k50 _ A0 l0.length l0:=HR0.out
      have aw:(0:Int)≤((ad):Int):=od_
      have hcut13:=cut_from (P:=Tryz.prog) 38 50 .i64 Tryz.underlying38 hi013 2 hsz13 A0 l0.length c0 (ad) aw ar
      have hr13:=Kd.C_drop (m:=((ad):Int).toNat) (c:=c0) hC13 (by omega) hroom13
      obtain ⟨az,hA13⟩:∃ A1,A1=(if c0=((ad):Int).toNat then A0 else (A0:Option Addr).map (·.add (((ad):Int).toNat * 2))):=⟨_,rfl⟩
      obtain ⟨aA,hc13⟩:∃ c1,c1=c0 - ((ad):Int).toNat:=⟨_,rfl⟩
      have aj:ab.length=l0.length - ((ad):Int).toNat:=(by rw [al.out,List.length_drop] <;> omega)
      rw [show (l0).drop ((ad):Int).toNat=ab from al.out.symm] at hr13
      replace hr13:Kd.C k50 _ az ab.length ab:=(by rw [hA13];exact hr13)
      rw [← aj,← hA13,← hc13] at hcut13
      have HR274:=mk0 hr13
      have HC274:=mk0 (show ab.length≤aA from by rw [aj,hc13];exact Nat.sub_le_sub_right hroom13 _)
      clear hr13 hC13 hroom13 hi013 hsz13 hc13
      have KY13:=mk0 aj
      have KA13:=mk0 hA13
      clear aj hA13
      replace ar:=eq_true ar
      refine start_ (n:=10) (S:=fun w'=>True) (ds:=[]) (bt 10 0) (by kernel_rfl) rfl rfl trivial (fun hHeld=>?_);refine with_tabW F5.tab2 F5.bits2 (fun HT_ HW_=>?_)
      generalize (w.drewN nd).drew=aN at HB HR267 HR274 hHeld ⊢
      refine pq_ HT_.out 0 9 (bt 10 1) (h:=?_)
      refine pq_ HT_.out 1 10 (bt 10 3) (h:=?_)
      refine pq_ HT_.out 2 11 (bt 10 7) (h:=?_)
      refine pq_ HT_.out 4 13 (bt 10 23) (h:=?_)
      refine pq_ HT_.out 5 14 (bt 10 55) (h:=?_)
      refine pq_ HT_.out 6 15 (bt 10 119) (h:=?_)
      refine pq_ HT_.out 7 16 (bt 10 247) (h:=?_)
      refine one_ (i:=3) (N:=some 12) (bt 10 255) rfl rfl (one_of HT_.out (by kernel_rfl)) (by decide) (fun K hK=>?_)
      refine goes_ Tryz.func33 (by kernel_rfl) rfl #[.slice A0 af.length c0] (by rfl) rfl rfl gs_ ?_
      with_reducible refine (FC.calls k _ _ af ac _ ?side1 ?side2 A6.out).mono ?_
      (case side1=>exact cb_ HR267 HB)
      (case side2=>exact HC267.out)
      rintro e aQ ⟨ax,rfl,ho0,hb⟩
      refine ⟨_,rfl,?_⟩
      have ay:=mk0 (Kd.R_lower ho0 (bz_ (b_ HB)))
      replace HB:=mk0 (bt_ (b_ HB) hb)
      have an:=ay
      clear ay
      (try clear hb)
      (try clear hk)
      (try clear hi)
      (try clear ho0)
      refine hK.out _ _ trivial (fun hHeld=>?_)
      clear hK K
      refine norm_ (a':=?_) ?_ ?_
      rotate_left
      ·show Act.put _ (some 12) _=_
       simp only [z_]
       rfl
      refine one_ (i:=8) (N:=some 17) (bt 10 511) rfl rfl (one_of HT_.out (by kernel_rfl)) (by decide) (fun K hK=>?_)
      refine Kd.R_append_rows_step k50 (w0:=w) w.heap.size (by rfl) (.tmp 12) (.tmp 16) 38 50 (.agg #[(.string ⟨#[]⟩),(.string ⟨#[]⟩)]) 32 rfl Tryz.underlying38 info50 rfl (by decide) (by omega) ax ac ab _ _ _ (fun _=>True) (fun _=>False) rfl rfl ?aO ?aR (fun _ _ h=>h) (fun _ h=>h.elim) ?aF ?aB ?aS ?aL ?_
      (case aR=>repeat (first|exact (Kd.C_below HR274.out HB.out)|(with_reducible refine Kd.C_alloc ?_ _)|(with_reducible refine Kd.C_drewN ?_ _)|(with_reducible refine Kd.C_drew ?_)))
      (case aB=>exact (b_ HB))
      (case aF=>exact (fun _ _=>trivial))
      (case aO=>exact (r_ an))
      (case aS=>exact (bz_ (b_ HB)))
      (case aL=>have:=LMc10.out;omega)
      intro aM aT ho hb hg hat
      rw [← ap.out] at ho
      replace HB:=mk0 (hb)
      have au:=mk0 (ho)
      clear an
      clear ho hb hg hat
      refine hK.out _ _ trivial (fun hHeld=>?_)
      clear hK K
      refine norm_ (a':=?_) ?_ ?_
      rotate_left
      ·show Act.put _ (some 17) _=_
       simp only [z_]
       rfl
      refine pq_ HT_.out 9 4 (bt 10 1023) (h:=?_)
      refine done_ (done_of HT_.out (by kernel_rfl)) ?_
      try go_wp2
      go_ret
      exact ⟨_,by first|rfl|(simp [errW_none,errW_some] <;> rfl)|(simp only [← ae];first|rfl|(simp [errW_none,errW_some] <;> rfl))|(simp [*,errW_none,errW_some] <;> rfl),by (with_reducible repeat (first|apply Ra_|apply Rn_|apply Rd_));exact au.out,b_ HB⟩
     ·rw [if_neg ao] at H
      exact absurd H (by simp)
    ·rw [if_neg c9] at H
     exact absurd H (by simp)
   ·rw [if_neg c8] at H
    exact absurd H (by simp)
  ·rw [if_neg c5] at H
   exact absurd H (by simp)
 ·rw [if_neg c4] at H
  exact absurd H (by simp)
mutual
def Fm.l0:Nat→List (S50)→Int→ByteArray→ByteArray→Option ((List (S50)))
 | 0,_,_,_,_=>none
 | k + 1,b,a,c,d=>if a<(b.length:Int) then (if 0≤a then (Fm.j1 k b a (Op.bytesLess (((rd_T50 b a).f0).toList) c.toList) c d) else (none)) else (Fm.j1 k b a false c d)
def Fm.j1:Nat→List (S50)→Int→Bool→ByteArray→ByteArray→Option ((List (S50)))
 | 0,_,_,_,_,_=>none
 | k + 1,b,a,j,c,d=>if j=true then (Fm.l0 k b (wrap64 (a + 1)) c d) else (if 0≤a then (if a≤(b.length:Int) then ((FC.f k (b.take (a:Int).toNat)).bind fun e=>((some (([(⟨c,d⟩:S50)]:List (S50)):List (S50))).bind fun g=>(if e.length + g.length<4398046511104 then ((some (e ++ g:List (S50))).bind fun h=>((some (b.drop (a:Int).toNat:List (S50))).bind fun i=>(if h.length + i.length<4398046511104 then (some (h ++ i)) else (none)))) else (none)))) else (none)) else (none))
end
def Fm.f (k:Nat) (l0:List (S50)) (a1_0:ByteArray) (a1_1:ByteArray):Option ((List (S50))):=Fm.l0 k l0 0 a1_0 a1_1
theorem Fm.mono_l:∀ k,(∀ y0 y1 y2 y3,LeO (Fm.l0 k y0 y1 y2 y3) (Fm.l0 (k + 1) y0 y1 y2 y3))∧(∀ y0 y1 y2 y3 y4,LeO (Fm.j1 k y0 y1 y2 y3 y4) (Fm.j1 (k + 1) y0 y1 y2 y3 y4))
 | 0=>⟨fun _ _ _ _ r h=>by simp [Fm.l0] at h,fun _ _ _ _ _ r h=>by simp [Fm.j1] at h⟩
 | k + 1=>by
  obtain ⟨ih0,ih1⟩:=Fm.mono_l k
  have:=@FC.mono
  refine ⟨?_,?_⟩
  all_goals (intros;first|unfold Fm.l0|unfold Fm.j1)
  all_goals exact mz_
theorem Fm.mono:∀ a0 a1 a2 k,LeO (Fm.f k a0 a1 a2) (Fm.f (k + 1) a0 a1 a2):=by
 intro a0 a1 a2 k
 obtain ⟨ih0,ih1⟩:=Fm.mono_l k
 have:=@FC.mono
 unfold Fm.f
 exact mz_
def Fm.T2:Bool×List (List Nat×List Nat):=(true,[([],[]),([],[]),([1],[1]),([0,2],[0,2]),([3],[3]),([4],[4]),([4],[4]),([5,6,4],[4,5,6]),([7,4],[4,7]),([8,4],[4,8]),([4],[4]),([10,4],[4,10]),([9,11,4],[4,9,11]),([4,12],[4,12])])
def Fm.B2:List Nat:=[0,0,2,7,15,31,31,127,255,511,31,1055,4095,8191]
theorem Fm.tab2:rtab .any (opsOf Tryz.f35 2)=Fm.T2:=by kernel_rfl
theorem Fm.bits2:waitsOk Fm.T2.2 Fm.B2=true:=by kernel_rfl
def Fm.T4:Bool×List (List Nat×List Nat):=(true,[([],[]),([],[]),([0,1],[0,1]),([2],[2]),([],[]),([4],[4]),([3,5,3],[3,5]),([],[]),([],[]),([7,8],[7,8]),([6,9,6],[6,9]),([10,10,0,1,2,3,4,5,6,7,8,9,10],[10])])
def Fm.B4:List Nat:=[0,0,3,7,0,16,63,0,0,384,1023,2047]
theorem Fm.tab4:rtab .any (opsOf Tryz.f35 4)=Fm.T4:=by kernel_rfl
theorem Fm.bits4:waitsOk Fm.T4.2 Fm.B4=true:=by kernel_rfl
theorem Fm.calls (k:Nat) (A0:Option Addr) (c0:Nat) (l0:List (S50)) (a1_0:ByteArray) (a1_1:ByteArray) (r:List (S50)) (w:World) (hr0:Kd.C k50 w A0 l0.length l0) (hc0:l0.length≤c0) (h:Fm.f k l0 a1_0 a1_1=some r) :
 Calls Tryz.prog 35 #[.slice A0 l0.length c0,.agg #[.string a1_0,.string a1_1]] w fun e w'=>∃ v0_:Value,e = .returned (v0_)∧Kd.R k50 50 w' w.heap.size (fun _=>True) v0_ r∧Below w.heap.size w w':=by
 have hu50:=Tryz.underlying50
 have HR0:=mk0 hr0
 have HC0:=mk0 hc0
 clear hr0 hc0
 have HB:=mk0 (Below.refl w.heap.size w)
 have H:(Fm.l0 k l0 0 a1_0 a1_1)=some r:=h
 clear h
 have H':=mk0 H
 clear H
 go_enter Tryz.func35,Tryz.ntmps35
 go_wp2_with (first|((with_reducible refine gate_dst (N:=3) rfl ?_);refine bx_ (N:=3) (cs:=#[.string a1_0,.string a1_1]) (t:=50) (h:=?_);intro ac hg w3 hbox hb;have ny2_:=mk0 (gz_ HB hg);have aG:=mk0 (gz_ HB hg);replace HB:=mk0 (bt_ (b_ HB) hb);have aa:=mk0 (hbox);have bg:=ny2_;have bh:=aG;clear ny2_ aG;clear hb hbox hg))
 go_loopg [5] k (fun kq v5 w'=>∃ (ab:Int),v5 = .int .i64 ab∧Fc (Fm.l0 kq l0 ab a1_0 a1_1=some r)∧Fc (kq≤k)∧Fc (w'.heap[ac]? = some (.cells #[.string a1_0,.string a1_1] 50 (0,0)))∧Fc (Below w.heap.size w w'))
 case atStart=>exact ⟨(0),sm_,H',⟨Nat.le_refl _⟩,⟨h_ aa⟩,⟨b_ HB⟩⟩
 case round=>
  clear H'
  obtain ⟨ab,rfl,HA,aV,aa,HB⟩:=hrel
  cases gk with
  | zero=>exact absurd HA.out (by simp [Fm.l0])
  | succ k1=>
   have H:=HA.out
   clear HA
   simp only [Fm.l0] at H
   as_aux_lemma=>
    have HC4:=mk0 H
    clear H
    go_upto_region 2 with (fail)
    go_cut [19] (fun v19 wc=>∃ (kq:Nat) (ao:Bool),v19 = .bool ao∧Fc (Fm.j1 kq l0 ab ao a1_0 a1_1=some r)∧Fc (kq≤k1)∧Fc (wc.heap[ac]? = some (.cells #[.string a1_0,.string a1_1] 50 (0,0)))∧Fc (Below w.heap.size w wc))
    case first=>
     have H:=HC4.out
     clear HC4
     by_cases c5:ab<(l0.length:Int)
     ·rw [if_pos c5] at H
      have aq:=decide_eq_true c5
      clear c5
      (first|rw [aq]|(simp only [i64_w,i32_w];rw [aq])|skip)
      by_cases c6:0≤ab
      ·rw [if_pos c6] at H
       have br:=decide_eq_true c6
       clear c6
       have H':=mk0 H
       clear H
       try go_wp2
       have aH:0≤(ab:Int):=od_
       have aI:ab<(l0.length:Int):=od_
       obtain ⟨av,ba,aj,ak⟩:=at_T50 HR0.out ab aH aI
       have aJ:=ak
       have aK:=aj
       cases ba
       replace aj:=(bc_ HB aj :)
       replace ak:=(bc_ HB ak :)
       replace aH:=eq_true aH
       replace aI:=eq_true aI
       have hs8_0:wr.cell? ⟨ac,0,none⟩=some (.string a1_0):=bk_ aa 0
       have hs8_1:wr.cell? ⟨ac,1,none⟩=some (.string a1_1):=bk_ aa 1
       have hs8_2:wr.cell? (av.add ((ab).toNat * 2))=some (.string ((rd_T50 l0 ab).f0)):=((bc_ HB aK :))
       have hs8_3:wr.cell? ⟨(av.add ((ab).toNat * 2)).block,(av.add ((ab).toNat * 2)).off + 1,none⟩=some (.string ((rd_T50 l0 ab).f1)):=((bc_ HB aJ :))
       go_quiet (fail)
       clear hs8_0 hs8_1 hs8_2 hs8_3
       generalize hq_:World.drewN wr _=w7
       replace aa:=mk0 (blk_at hq_ aa.out)
       replace HB:=mk0 (below_at hq_ HB.out)
       try replace aj:=cell_at hq_ aj
       try replace ak:=cell_at hq_ ak
       clear hq_
       try go_wp2
       go_meet
       case rel=>exact ⟨_,((Op.bytesLess (((rd_T50 l0 ab).f0).toList) a1_0.toList)),sm_,H',⟨by have:=aV.out;first|omega|exact Nat.le_refl _⟩,⟨h_ aa⟩,⟨b_ HB⟩⟩
      ·rw [if_neg c6] at H
       exact absurd H (by simp)
     ·rw [if_neg c5] at H
      have aq:=decide_eq_false c5
      clear c5
      (first|rw [aq]|(simp only [i64_w,i32_w];rw [aq])|skip)
      have H':=mk0 H
      clear H
      try go_wp2
      go_quiet (fail)
      generalize hq_:World.drewN wr _=w8
      replace aa:=mk0 (blk_at hq_ aa.out)
      replace HB:=mk0 (below_at hq_ HB.out)
      clear hq_
      try go_wp2
      go_meet
      case rel=>exact ⟨_,(false),sm_,H',⟨by have:=aV.out;first|omega|exact Nat.le_refl _⟩,⟨h_ aa⟩,⟨b_ HB⟩⟩
    case rest=>
     clear HC4
     obtain ⟨kq,ao,rfl,HA,bb,aa,HB⟩:=hcut
     cases kq with
     | zero=>exact absurd HA.out (by simp [Fm.j1])
     | succ aW=>
      have H:=HA.out
      clear HA
      simp only [Fm.j1] at H
      as_aux_lemma=>
       by_cases c9:ao=true
       ·subst c9
        rw [if_pos rfl] at H
        have H':=mk0 H
        clear H
        go_wp2
        go_roundg aW
        case measure=>have:=aV.out;have:=bb.out;omega
        case rel=>exact ⟨(wrap64 (ab + 1)),sm_,H',⟨by have:=aV.out;have:=bb.out;omega⟩,⟨h_ aa⟩,⟨b_ HB⟩⟩
       ·replace c9:=Bool.eq_false_iff.mpr c9
        subst c9
        rw [if_neg nf_] at H
        by_cases aM:0≤ab
        ·rw [if_pos aM] at H
         have bi:=eq_true aM
         have bj:=decide_eq_true aM
         clear aM
         by_cases aN:ab≤(l0.length:Int)
         ·rw [if_pos aN] at H
          have bk:=eq_true aN
          have bl:=decide_eq_true aN
          clear aN
          obtain ⟨al,aw⟩:∃ y_:List (S50),y_=(l0.take (ab:Int).toNat):=⟨_,rfl⟩
          replace H:((FC.f aW al).bind fun ah=>((some (([(⟨a1_0,a1_1⟩:S50)]:List (S50)):List (S50))).bind fun ai=>(if ah.length + ai.length<4398046511104 then ((some (ah ++ ai:List (S50))).bind fun ag=>((some (l0.drop (ab:Int).toNat:List (S50))).bind fun ae=>(if ag.length + ae.length<4398046511104 then (some (ag ++ ae)) else (none)))) else (none))))=some r:=rp_ H aw
          have aQ:=mk0 aw
          clear aw
          replace H:=ob_ H
          obtain ⟨ah,bc,H⟩:=H
          try dsimp only at H
          obtain ⟨ai,ax⟩:∃ y_:List (S50),y_=(([(⟨a1_0,a1_1⟩:S50)]:List (S50))):=⟨_,rfl⟩
          replace H:(if ah.length + ai.length<4398046511104 then ((some (ah ++ ai:List (S50))).bind fun ag=>((some (l0.drop (ab:Int).toNat:List (S50))).bind fun ae=>(if ag.length + ae.length<4398046511104 then (some (ag ++ ae)) else (none)))) else (none))=some r:=rp_ H ax
          have ap:=mk0 ax
          clear ax
          by_cases aX:ah.length + ai.length<4398046511104
          ·rw [if_pos aX] at H
           have LMc13:=mk0 aX
           clear aX
           obtain ⟨ag,ay⟩:∃ y_:List (S50),y_=(ah ++ ai):=⟨_,rfl⟩
           replace H:((some (l0.drop (ab:Int).toNat:List (S50))).bind fun ae=>(if ag.length + ae.length<4398046511104 then (some (ag ++ ae)) else (none)))=some r:=rp_ H ay
           have a5:=mk0 ay
           clear ay
           have bm:=eq_true (od_:0≤ab)
           have bn:=eq_true (od_:ab≤(l0.length:Int))
           obtain ⟨ae,az⟩:∃ y_:List (S50),y_=(l0.drop (ab:Int).toNat):=⟨_,rfl⟩
           replace H:(if ag.length + ae.length<4398046511104 then (some (ag ++ ae)) else (none))=some r:=rp_ H az
           have aT:=mk0 az
           clear az
           by_cases aY:ag.length + ae.length<4398046511104
           ·rw [if_pos aY] at H
            have LMc16:=mk0 aY
            clear aY
            obtain ⟨bd,aA⟩:∃ y_:List (S50),y_=(ag ++ ae):=⟨_,rfl⟩
            replace H:(some bd)=some r:=rp_ H aA
            have a6:=mk0 aA
            clear aA
            obtain rfl:=Option.some.inj H
            try go_wp2
            replace aa:=mk0 (bD_ aa.out)
            replace HB:=mk0 (b1_ HB.out)
            have a7:(ab:Int)≤((l0.length:Int):Int):=od_
            obtain ⟨i018,hi018,_,hsz18,_⟩:=info_parts info50
            have hroom18:l0.length≤c0:=HC0.out
            have hC18:Kd.C k50 _ A0 l0.length l0:=HR0.out
            have hcut18:=cut_to (P:=Tryz.prog) 38 50 .i64 Tryz.underlying38 hi018 A0 l0.length c0 ab od_ a7 hroom18
            have hr18:=Kd.C_take (m:=(ab:Int).toNat) hC18 (by omega)
            have aU:al.length=(ab:Int).toNat:=(by rw [aQ.out,List.length_take];omega)
            rw [← aQ.out] at hr18
            rw [← aU] at hcut18
            have HR283:=mk0 hr18
            have HC283:=mk0 (show al.length≤c0 from by omega)
            clear hr18 hC18 hroom18 hi018 hsz18
            have KY18:=mk0 aU
            clear aU
            replace a7:=eq_true a7
            have a8:(ab:Int)≤((l0.length:Int):Int):=od_
            obtain ⟨i019,hi019,_,hsz19,_⟩:=info_parts info50
            have hroom19:l0.length≤c0:=HC0.out
            have hC19:Kd.C k50 _ A0 l0.length l0:=HR0.out
            have be:(0:Int)≤(ab:Int):=od_
            have hcut19:=cut_from (P:=Tryz.prog) 38 50 .i64 Tryz.underlying38 hi019 2 hsz19 A0 l0.length c0 ab be a8
            have hr19:=Kd.C_drop (m:=(ab:Int).toNat) (c:=c0) hC19 (by omega) hroom19
            obtain ⟨bo,hA19⟩:∃ A1,A1=(if c0=(ab:Int).toNat then A0 else (A0:Option Addr).map (·.add ((ab:Int).toNat * 2))):=⟨_,rfl⟩
            obtain ⟨bp,hc19⟩:∃ c1,c1=c0 - (ab:Int).toNat:=⟨_,rfl⟩
            have aD:ae.length=l0.length - (ab:Int).toNat:=(by rw [aT.out,List.length_drop] <;> omega)
            rw [show (l0).drop (ab:Int).toNat=ae from aT.out.symm] at hr19
            replace hr19:Kd.C k50 _ bo ae.length ae:=(by rw [hA19];exact hr19)
            rw [← aD,← hA19,← hc19] at hcut19
            have HR296:=mk0 hr19
            have HC296:=mk0 (show ae.length≤bp from by rw [aD,hc19];exact Nat.sub_le_sub_right hroom19 _)
            clear hr19 hC19 hroom19 hi019 hsz19 hc19
            have KY19:=mk0 aD
            have KA19:=mk0 hA19
            clear aD hA19
            replace a8:=eq_true a8
            refine start_ (n:=12) (S:=fun w'=>w'.cell? ⟨ac,0,none⟩=some (.string a1_0)∧w'.cell? ⟨ac,1,none⟩=some (.string a1_1)) (ds:=[]) (bt 12 0) (by kernel_rfl) rfl rfl ⟨bk_ aa 0,bk_ aa 1⟩ (fun hHeld=>?_);refine with_tabW Fm.tab4 Fm.bits4 (fun HT_ HW_=>?_)
            generalize wc.drew=bu at aa HB HR283 HR296 hHeld ⊢
            refine pq_ HT_.out 0 22 (bt 12 1) (h:=?_)
            refine pq_ HT_.out 1 23 (bt 12 3) (h:=?_)
            refine pq_ HT_.out 2 24 (bt 12 7) (h:=?_)
            refine pq_ HT_.out 7 29 (bt 12 135) (h:=?_)
            refine pq_ HT_.out 8 30 (bt 12 391) (h:=?_)
            refine pq_ HT_.out 9 31 (bt 12 903) (h:=?_)
            refine tq2_ HT_.out HW_.out 4 26 (bt 12 919) hHeld (h:=?_)
            refine join_ (σ:=Value×Value) 3 (bt 12 959) (fun s_=>[(25,s_.1),(27,s_.2)]) (fun s_ w'=>(w'.cell? ⟨ac,0,none⟩=some (.string a1_0)∧w'.cell? ⟨ac,1,none⟩=some (.string a1_1))∧(Kd.R k50 50 w' w.heap.size (fun k_=>some k_≠(s_.2:Value).ownBlock∧k_≠ac) s_.1 ah)∧(Kd.R k50 50 w' w.heap.size (fun k_=>some k_≠(s_.1:Value).ownBlock∧k_≠ac) s_.2 ai)∧(w'.heap[ac]? = some (.cells #[.string a1_0,.string a1_1] 50 (0,0)))∧(Below w.heap.size w w')) ?_ ?_
            rotate_left
            ·intro hCont
             refine two_ (i:=3) (j:=5) (Ni:=some 25) (Nj:=some 27) (bt 12 927) (bt 12 951) rfl rfl rfl rfl (two_of HT_.out (by kernel_rfl)) (by decide) (by decide) (fun K hK=>?_) (fun K hK=>?_)
             ·skip
              refine goes_ Tryz.func33 (by kernel_rfl) rfl #[.slice A0 al.length c0] (by rfl) rfl rfl gs_ ?_
              with_reducible refine (FC.calls aW _ _ al ah _ ?side1 ?side2 bc.out).mono ?_
              (case side1=>exact cb_ HR283 HB)
              (case side2=>exact HC283.out)
              rintro e bq ⟨am,rfl,ho0,hb⟩
              refine ⟨_,rfl,?_⟩
              have ar:=mk0 (Kd.R_lower (Kd.R_newB ho0 (g:=ac) (o:=.cells #[.string a1_0,.string a1_1] 50 (0,0)) (h_ aa)) (bz_ (b_ HB)))
              replace aa:=mk0 (u_ aa hb)
              replace HB:=mk0 (bt_ (b_ HB) hb)
              have af:=ar
              clear ar
              (try clear hb)
              (try clear hk)
              (try clear hi)
              (try clear ho0)
              refine hK.out _ _ ⟨bk_ aa 0,bk_ aa 1⟩ (fun hHeld=>?_)
              clear hK K
              refine norm_ (a':=?_) ?_ ?_
              rotate_left
              ·show Act.put _ (some 25) _=_
               simp only [z_]
               rfl
              refine one_ (i:=5) (N:=some 27) (bt 12 959) rfl rfl (one_of HT_.out (by kernel_rfl)) (by decide) (fun K hK=>?_)
              refine Kd.R_lit_step k50 _ 50 ?hg (N:=27) ?hd (xs:=([(⟨a1_0,a1_1⟩:S50)]:List (S50))) (inner:=[.string a1_0,.string a1_1]) (ok:=fun _=>True) (okp:=fun _=>True) ?hr ?hp (fun _ hk=>hk) trivial (Below.refl _ _) (Nat.le_refl _) (by simp) ?_;(case hd=>rfl);(case hg=>rfl);(case hr=>first|(go_simp;done)|(go_simp;rfl));(case hp=>exact (Reps.c2 (show Kd.M k50 _ _ _ (⟨a1_0,a1_1⟩:S50) [.string a1_0,.string a1_1] from (k50_mkM _ _ _ (⟨a1_0,a1_1⟩:S50) )) (Reps.none _ _)))
              intro an bv ho22 hb hg_ hnew_
              clear hg_ hnew_
              (first|rw [← ap.out] at ho22|(simp only [Int.reduceToNat] at ho22;rw [← ap.out] at ho22))
              have au:=mk0 (Kd.R_lower (Kd.R_newB (Kd.R_new' ho22 (Kd.R_lt (r_ af))) (g:=ac) (o:=.cells #[.string a1_0,.string a1_1] 50 (0,0)) (h_ aa)) (bz_ (b_ HB)))
              replace af:=mk0 (Kd.R_elder' (r_ af) (Kd.R_base ho22) hb)
              replace aa:=mk0 (u_ aa hb)
              replace HB:=mk0 (bt_ (b_ HB) hb)
              have ad:=au
              clear au hb ho22
              refine hK.out _ _ ⟨bk_ aa 0,bk_ aa 1⟩ (fun hHeld=>?_)
              clear hK K
              refine norm_ (a':=?_) ?_ ?_
              rotate_left
              ·show Act.put _ (some 27) _=_
               simp only [z_]
               rfl
              exact norm_ (by simp only [putAll,Act.put,List.setIfInBounds_toArray,List.set_cons_zero,List.set_cons_succ]) (hCont (am,an) _ ⟨hHeld,(r2_ (Kd.R_mono af.out (fun _ hk=>⟨hk.2,hk.1.2⟩))),(r2_ (Kd.R_mono ad.out (fun _ hk=>⟨hk.1.2,hk.2⟩))),(h_ aa),(b_ HB)⟩)
             ·skip
              refine Kd.R_lit_step k50 _ 50 ?hg (N:=27) ?hd (xs:=([(⟨a1_0,a1_1⟩:S50)]:List (S50))) (inner:=[.string a1_0,.string a1_1]) (ok:=fun _=>True) (okp:=fun _=>True) ?hr ?hp (fun _ hk=>hk) trivial (Below.refl _ _) (Nat.le_refl _) (by simp) ?_;(case hd=>rfl);(case hg=>rfl);(case hr=>first|(go_simp;done)|(go_simp;rfl));(case hp=>exact (Reps.c2 (show Kd.M k50 _ _ _ (⟨a1_0,a1_1⟩:S50) [.string a1_0,.string a1_1] from (k50_mkM _ _ _ (⟨a1_0,a1_1⟩:S50) )) (Reps.none _ _)))
              intro an bq ho21 hb hg_ hnew_
              clear hg_ hnew_
              (first|rw [← ap.out] at ho21|(simp only [Int.reduceToNat] at ho21;rw [← ap.out] at ho21))
              have ar:=mk0 (Kd.R_lower (Kd.R_newB ho21 (g:=ac) (o:=.cells #[.string a1_0,.string a1_1] 50 (0,0)) (h_ aa)) (bz_ (b_ HB)))
              replace aa:=mk0 (u_ aa hb)
              replace HB:=mk0 (bt_ (b_ HB) hb)
              have ad:=ar
              clear ar hb ho21
              refine hK.out _ _ ⟨bk_ aa 0,bk_ aa 1⟩ (fun hHeld=>?_)
              clear hK K
              refine norm_ (a':=?_) ?_ ?_
              rotate_left
              ·show Act.put _ (some 27) _=_
               simp only [z_]
               rfl
              refine one_ (i:=3) (N:=some 25) (bt 12 959) rfl rfl (one_of HT_.out (by kernel_rfl)) (by decide) (fun K hK=>?_)
              refine goes_ Tryz.func33 (by kernel_rfl) rfl #[.slice A0 al.length c0] (by rfl) rfl rfl gs_ ?_
              with_reducible refine (FC.calls aW _ _ al ah _ ?side1 ?side2 bc.out).mono ?_
              (case side1=>exact cb_ HR283 HB)
              (case side2=>exact HC283.out)
              rintro e bw ⟨am,rfl,ho0,hb⟩
              refine ⟨_,rfl,?_⟩
              have au:=mk0 (Kd.R_lower (Kd.R_newB (Kd.R_new' ho0 (Kd.R_lt (r_ ad))) (g:=ac) (o:=.cells #[.string a1_0,.string a1_1] 50 (0,0)) (h_ aa)) (bz_ (b_ HB)))
              replace ad:=mk0 (Kd.R_elder' (r_ ad) (Kd.R_base ho0) hb)
              replace aa:=mk0 (u_ aa hb)
              replace HB:=mk0 (bt_ (b_ HB) hb)
              have af:=au
              clear au
              (try clear hb)
              (try clear hk)
              (try clear hi)
              (try clear ho0)
              refine hK.out _ _ ⟨bk_ aa 0,bk_ aa 1⟩ (fun hHeld=>?_)
              clear hK K
              refine norm_ (a':=?_) ?_ ?_
              rotate_left
              ·show Act.put _ (some 25) _=_
               simp only [z_]
               rfl
              exact norm_ (by simp only [putAll,Act.put,List.setIfInBounds_toArray,List.set_cons_zero,List.set_cons_succ]) (hCont (am,an) _ ⟨hHeld,(r2_ (Kd.R_mono af.out (fun _ hk=>⟨hk.1.2,hk.2⟩))),(r2_ (Kd.R_mono ad.out (fun _ hk=>⟨hk.2,hk.1.2⟩))),(h_ aa),(b_ HB)⟩)
            rintro ⟨am,an⟩ aE ⟨hS_,h0_,h1_,h2_,h3_⟩
            have ar:Fc (Kd.R k50 50 aE w.heap.size (fun k_=>some k_≠(an:Value).ownBlock∧k_≠ac) am ah):=⟨h0_⟩
            have au:Fc (Kd.R k50 50 aE w.heap.size (fun k_=>some k_≠(am:Value).ownBlock∧k_≠ac) an ai):=⟨h1_⟩
            have ny2_:Fc (aE.heap[ac]? = some (.cells #[.string a1_0,.string a1_1] 50 (0,0))):=⟨h2_⟩
            have aG:Fc (Below w.heap.size w aE):=⟨h3_⟩
            clear aa HB h0_ h1_ h2_ h3_
            have af:=ar
            have ad:=au
            have aa:=ny2_
            have HB:=aG
            clear ar au ny2_ aG
            have hHeld:aE.cell? ⟨ac,0,none⟩=some (.string a1_0)∧aE.cell? ⟨ac,1,none⟩=some (.string a1_1):=hS_
            obtain ⟨aZ,a3,a4⟩:=Kd.R_slice ad.out
            (first|subst a4|(injection a4 with f1_ f2_ f3_;have f4_:=f1_.symm;have f5_:=f3_.symm;clear f1_ f2_ f3_;subst f4_;subst f5_))
            refine norm_ (a':=?_) ?_ ?_
            rotate_left
            ·simp only [putAll,Act.put,List.setIfInBounds_toArray,List.set_cons_zero,List.set_cons_succ]
             rfl
            refine one_ (i:=6) (N:=some 28) (bt 12 1023) rfl rfl (one_of HT_.out (by kernel_rfl)) (by decide) (fun K hK=>?_)
            refine Kd.R_append_rows_step k50 (w0:=w) w.heap.size (by rfl) (.tmp 25) (.tmp 27) 38 50 (.agg #[(.string ⟨#[]⟩),(.string ⟨#[]⟩)]) 32 rfl Tryz.underlying38 info50 rfl (by decide) (by omega) am ah ai _ _ _ (fun k_=>some k_≠(.slice aZ ai.length a3:Value).ownBlock∧k_≠ac) (fun _=>False) rfl rfl ?aO ?aR (fun _ _ h=>h) (fun _ h=>h.elim) ?aF ?aB ?aS ?aL ?_
            (case aR=>exact cr_ ad)
            (case aB=>exact (b_ HB))
            (case aF=>exact (fun k_ hk=>⟨Kd.fresh' (Kd.R_lt (r_ ad)) k_ hk,Kd.freshB (g:=ac) (o:=.cells #[.string a1_0,.string a1_1] 50 (0,0)) (h_ aa) k_ hk⟩))
            (case aO=>exact (r_ af))
            (case aS=>exact (bz_ (b_ HB)))
            (case aL=>have:=LMc13.out;omega)
            intro bf bx ho hb hg hat
            rw [← a5.out] at ho
            replace aa:=mk0 (blk_grown (g:=ac) (o:=.cells #[.string a1_0,.string a1_1] 50 (0,0)) (h_ aa) hg (Kd.R_away af.out (fun _ hk=>hk.2)))
            replace ad:=mk0 (Kd.R_after (ok:=(fun k_=>k_≠ac)) (r2_ (Kd.R_mono ad.out (fun _ hk=>⟨hk.2,hk.1⟩))) hg hat)
            replace HB:=mk0 (hb)
            have aC:=mk0 (ho)
            clear af
            clear ho hb hg hat
            refine hK.out _ _ ⟨bk_ aa 0,bk_ aa 1⟩ (fun hHeld=>?_)
            clear hK K
            refine norm_ (a':=?_) ?_ ?_
            rotate_left
            ·show Act.put _ (some 28) _=_
             simp only [z_]
             rfl
            refine one_ (i:=10) (N:=some 32) (bt 12 2047) rfl rfl (one_of HT_.out (by kernel_rfl)) (by decide) (fun K hK=>?_)
            refine Kd.R_append_rows_step k50 (w0:=w) w.heap.size (by rfl) (.tmp 28) (.tmp 31) 38 50 (.agg #[(.string ⟨#[]⟩),(.string ⟨#[]⟩)]) 32 rfl Tryz.underlying38 info50 rfl (by decide) (by omega) bf ag ae _ _ _ (fun k_=>some k_≠(.slice aZ ai.length a3:Value).ownBlock∧k_≠ac) (fun _=>False) rfl rfl ?aO ?aR (fun _ _ h=>h) (fun _ h=>h.elim) ?aF ?aB ?aS ?aL ?_
            (case aR=>repeat (first|exact (Kd.C_below HR296.out HB.out)|(with_reducible refine Kd.C_alloc ?_ _)|(with_reducible refine Kd.C_drewN ?_ _)|(with_reducible refine Kd.C_drew ?_)))
            (case aB=>exact (b_ HB))
            (case aF=>exact (fun k_ hk=>⟨Kd.fresh' (Kd.R_lt (r_ ad)) k_ hk,Kd.freshB (g:=ac) (o:=.cells #[.string a1_0,.string a1_1] 50 (0,0)) (h_ aa) k_ hk⟩))
            (case aO=>exact (r_ aC))
            (case aS=>exact (bz_ (b_ HB)))
            (case aL=>have:=LMc16.out;omega)
            intro bs bz ho hb hg hat
            rw [← a6.out] at ho
            replace aa:=mk0 (blk_grown (g:=ac) (o:=.cells #[.string a1_0,.string a1_1] 50 (0,0)) (h_ aa) hg (Kd.R_away aC.out (fun _ hk=>hk.2)))
            replace ad:=mk0 (Kd.R_after (ok:=(fun k_=>k_≠ac)) (r_ ad) hg hat)
            replace HB:=mk0 (hb)
            have a9:=mk0 (ho)
            clear aC
            clear ho hb hg hat
            refine hK.out _ _ ⟨bk_ aa 0,bk_ aa 1⟩ (fun hHeld=>?_)
            clear hK K
            refine norm_ (a':=?_) ?_ ?_
            rotate_left
            ·show Act.put _ (some 32) _=_
             simp only [z_]
             rfl
            refine pq_ HT_.out 11 4 (bt 12 4095) (h:=?_)
            refine done_ (done_of HT_.out (by kernel_rfl)) ?_
            try go_wp2
            go_ret
            exact ⟨_,sa_,by (with_reducible repeat (first|apply Ra_|apply Rn_|apply Rd_));exact Kd.R_mono a9.out (fun _ hk=>trivial),b_ HB⟩
           ·rw [if_neg aY] at H
            exact absurd H (by simp)
          ·rw [if_neg aX] at H
           exact absurd H (by simp)
         ·rw [if_neg aN] at H
          exact absurd H (by simp)
        ·rw [if_neg aM] at H
         exact absurd H (by simp)
end Go.Proofs.YtbaecdcfefmcgaaGreat.PVrd
