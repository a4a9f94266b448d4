import Derived.Shelf.SlSorted.Search
import Derived.Test.YtbaecdcfefmcgaaGreatPVrdx0
import Derived.Test.YtbaecdcfefmcgaaGreatPVrdx9
import Derived.Test.YtbaecdcfefmcgaaGreatPVrdx11
namespace Go.Proofs.YtbaecdcfefmcgaaGreat.PVrd
open Go.RowKit Go.Proofs.YtbaecdcfefmcgaaGreatW.PrintWords Go.Proofs.YtbaecdcfefmcgaaGreatW.PrintLast Go.Proofs.YtbaecdcfefmcgaaGreatW.PrintMore
attribute [local go_sem] max2_int min2_int max_two min_two max_three min_three max_four min_four
set_option maxHeartbeats 8000000
set_option maxRecDepth 100000
set_option linter.unusedVariables false
set_option linter.unusedSimpArgs false
mutual
def Fb.l0:Nat→List (S72)→Int→List (S72)→List Int→Option ((List (S72)))
 | 0,_,_,_,_=>none
 | k + 1,d,a,b,e=>if a<(b.length:Int) then (if 0≤a then ((Ft.f k b e ((rd_T72 b a).f0) ((rd_T72 b a).f1)).bind fun c=>(Fb.l1 k d a 0 b e c.1 c.2.1 c.2.2.1 c.2.2.2.1)) else (none)) else (some d)
def Fb.l1:Nat→List (S72)→Int→Int→List (S72)→List Int→Int→ByteArray→ByteArray→Bool→Option ((List (S72)))
 | 0,_,_,_,_,_,_,_,_,_=>none
 | k + 1,b,e,a,f,g,c,d,h,i=>if a<(b.length:Int) then (if 0≤a then (if ((rd_T72 b a).f0)<c then (Fb.j2 k b e a true f g c d h i) else (if ((rd_T72 b a).f0)=c then (Fb.j2 k b e a (Op.bytesLess (((rd_T72 b a).f1).toList) d.toList) f g c d h i) else (Fb.j2 k b e a false f g c d h i))) else (none)) else (Fb.j2 k b e a false f g c d h i)
def Fb.j2:Nat→List (S72)→Int→Int→Bool→List (S72)→List Int→Int→ByteArray→ByteArray→Bool→Option ((List (S72)))
 | 0,_,_,_,_,_,_,_,_,_,_=>none
 | k + 1,b,e,a,j,f,g,c,d,h,i=>if j=true then (Fb.l1 k b e (wrap64 (a + 1)) f g c d h i) else (if a<(b.length:Int) then (if 0≤a then (if ((rd_T72 b a).f0)=c then (Fb.j3 k b e a (((rd_T72 b a).f1).toList == d.toList) f g c d h i) else (Fb.j3 k b e a false f g c d h i)) else (none)) else (Fb.j3 k b e a false f g c d h i))
def Fb.j3:Nat→List (S72)→Int→Int→Bool→List (S72)→List Int→Int→ByteArray→ByteArray→Bool→Option ((List (S72)))
 | 0,_,_,_,_,_,_,_,_,_,_=>none
 | k + 1,a,c,b,l,d,e,m,n,o,p=>if l=true then (Fb.l0 k a (wrap64 (c + 1)) d e) else (if 0≤b then (if b≤(a.length:Int) then ((FA.f k (a.take (b:Int).toNat)).bind fun g=>((some (([(⟨m,n,o,p⟩:S72)]:List (S72)):List (S72))).bind fun h=>(if g.length + h.length<2932031007402 then ((some (g ++ h:List (S72))).bind fun i=>((some (a.drop (b:Int).toNat:List (S72))).bind fun j=>(if i.length + j.length<2932031007402 then (Fb.l0 k (i ++ j) (wrap64 (c + 1)) d e) else (none)))) else (none)))) else (none)) else (none))
end
def Fb.f (k:Nat) (l0_0:List (S72)) (l0_1:List Int):Option ((List (S72))):=Fb.l0 k ([]:List (S72)) 0 l0_0 l0_1
theorem Fb.mono_l:∀ k,(∀ y0 y1 y2 y3,LeO (Fb.l0 k y0 y1 y2 y3) (Fb.l0 (k + 1) y0 y1 y2 y3))∧(∀ y0 y1 y2 y3 y4 y5 y6 y7 y8,LeO (Fb.l1 k y0 y1 y2 y3 y4 y5 y6 y7 y8) (Fb.l1 (k + 1) y0 y1 y2 y3 y4 y5 y6 y7 y8))∧(∀ y0 y1 y2 y3 y4 y5 y6 y7 y8 y9,LeO (Fb.j2 k y0 y1 y2 y3 y4 y5 y6 y7 y8 y9) (Fb.j2 (k + 1) y0 y1 y2 y3 y4 y5 y6 y7 y8 y9))∧(∀ y0 y1 y2 y3 y4 y5 y6 y7 y8 y9,LeO (Fb.j3 k y0 y1 y2 y3 y4 y5 y6 y7 y8 y9) (Fb.j3 (k + 1) y0 y1 y2 y3 y4 y5 y6 y7 y8 y9))
 | 0=>⟨fun _ _ _ _ r h=>by simp [Fb.l0] at h,fun _ _ _ _ _ _ _ _ _ r h=>by simp [Fb.l1] at h,fun _ _ _ _ _ _ _ _ _ _ r h=>by simp [Fb.j2] at h,fun _ _ _ _ _ _ _ _ _ _ r h=>by simp [Fb.j3] at h⟩
 | k + 1=>by
  obtain ⟨ih0,ih1,ih2,ih3⟩:=Fb.mono_l k
  have:=@FA.mono
  have:=@Ft.mono
  refine ⟨?_,?_,?_,?_⟩
  all_goals (intros;first|unfold Fb.l0|unfold Fb.l1|unfold Fb.j2|unfold Fb.j3)
  all_goals exact mz_
theorem Fb.mono:∀ a0 a1 k,LeO (Fb.f k a0 a1) (Fb.f (k + 1) a0 a1):=by
 intro a0 a1 k
 obtain ⟨ih0,ih1,ih2,ih3⟩:=Fb.mono_l k
 have:=@FA.mono
 have:=@Ft.mono
 unfold Fb.f
 exact mz_
def Fb.T5:Bool×List (List Nat×List Nat):=(true,[([],[]),([],[]),([1],[1]),([],[]),([2,3],[2,3]),([4],[4]),([5],[5]),([],[]),([7],[7]),([],[]),([8,9],[8,9]),([10],[10]),([11],[11]),([0,6,12],[0,6,12]),([13],[13]),([14],[14]),([14],[14]),([],[]),([17,15,13,0,1,2,3,4,5,6,7,8,9,10,11,12,13,14,15,17],[15,17]),([16,18,0,1,2,3,4,5,6,7,8,9,10,11,12,13,14,15,16,17,18],[16])])
def Fb.B5:List Nat:=[0,0,2,0,14,30,62,0,128,0,896,1920,3968,8191,16383,32767,32767,0,196607,524287]
theorem Fb.tab5:rtab .any (opsOf Tryz.f32 5)=Fb.T5:=by kernel_rfl
theorem Fb.bits5:waitsOk Fb.T5.2 Fb.B5=true:=by kernel_rfl
def Fb.T7:Bool×List (List Nat×List Nat):=(true,[([],[]),([],[]),([1],[1]),([0,2],[0,2]),([3],[3]),([4],[4]),([4],[4]),([5,6,4],[4,5,6]),([7,4],[4,7]),([8,4],[4,8]),([4],[4]),([10,4],[4,10]),([9,11,4],[4,9,11]),([12,4,4],[4,12]),([13],[13]),([13],[13]),([14,15,13],[13,14,15]),([16,13],[13,16]),([17,13],[13,17]),([13],[13]),([19,13],[13,19]),([18,20,13],[13,18,20]),([21,13,13],[13,21]),([22],[22]),([22],[22]),([23,24,22],[22,23,24]),([25,22],[22,25]),([26,22],[22,26]),([22],[22]),([28,22],[22,28]),([27,29,22],[22,27,29]),([22,30,13],[13,22,30]),([13,31,4],[4,13,31]),([4,32],[4,32])])
def Fb.B7:List Nat:=[0,0,2,7,15,31,31,127,255,511,31,1055,4095,8191,16383,16383,65535,131071,262143,16383,540671,2097151,4194303,8388607,8388607,33554431,67108863,134217727,8388607,276824063,1073741823,2147483647,4294967295,8589934591]
theorem Fb.tab7:rtab .any (opsOf Tryz.f32 7)=Fb.T7:=by kernel_rfl
theorem Fb.bits7:waitsOk Fb.T7.2 Fb.B7=true:=by kernel_rfl
def Fb.T9:Bool×List (List Nat×List Nat):=(true,[([],[]),([],[]),([1],[1]),([0,2],[0,2]),([3],[3]),([4],[4]),([4],[4]),([5,6,4],[4,5,6]),([7,4],[4,7]),([8,4],[4,8]),([4],[4]),([10,4],[4,10]),([9,11,4],[4,9,11]),([4,12],[4,12]),([13,4],[13]),([14],[14]),([14],[14]),([15,16,14],[14,15,16]),([17,14],[14,17]),([18,14],[14,18]),([14],[14]),([20,14],[14,20]),([19,21,14],[14,19,21]),([14,22],[14,22])])
def Fb.B9:List Nat:=[0,0,2,7,15,31,31,127,255,511,31,1055,4095,8191,16383,32767,32767,131071,262143,524287,32767,1081343,4194303,8388607]
theorem Fb.tab9:rtab .any (opsOf Tryz.f32 9)=Fb.T9:=by kernel_rfl
theorem Fb.bits9:waitsOk Fb.T9.2 Fb.B9=true:=by kernel_rfl
def Fb.T10:Bool×List (List Nat×List Nat):=(true,[([],[]),([],[]),([0,1],[0,1]),([2],[2]),([],[]),([4],[4]),([3,5,3],[3,5]),([],[]),([],[]),([7,8],[7,8]),([6,9,6],[6,9]),([10,10,0,1,2,3,4,5,6,7,8,9,10],[0,7,10])])
def Fb.B10:List Nat:=[0,0,3,7,0,16,63,0,0,384,1023,2047]
theorem Fb.tab10:rtab .any (opsOf Tryz.f32 10)=Fb.T10:=by kernel_rfl
theorem Fb.bits10:waitsOk Fb.T10.2 Fb.B10=true:=by kernel_rfl
theorem Fb.calls (k:Nat) (A0_0:Option Addr) (c0_0:Nat) (l0_0:List (S72)) (A0_1:Option Addr) (c0_1:Nat) (l0_1:List Int) (r:List (S72)) (w:World) (hr0_0:Kd.C k72 w A0_0 l0_0.length l0_0) (hc0_0:l0_0.length≤c0_0) (hr0_1:Kd.C (Kd.int .i64) w A0_1 l0_1.length l0_1) (hc0_1:l0_1.length≤c0_1) (h:Fb.f k l0_0 l0_1=some r) :
 Calls Tryz.prog 32 #[.agg #[.slice A0_0 l0_0.length c0_0,.slice A0_1 l0_1.length c0_1]] w fun e w'=>∃ v0_:Value,e = .returned (v0_)∧Kd.R k72 72 w' w.heap.size (fun _=>True) v0_ r∧Below w.heap.size w w':=by
 have hu34:=Tryz.underlying34
 have hu72:=Tryz.underlying72
 have bI:=mk0 hr0_0
 have cb:=mk0 hc0_0
 clear hr0_0 hc0_0
 have cc:=mk0 hr0_1
 have cd:=mk0 hc0_1
 clear hr0_1 hc0_1
 have HB:=mk0 (Below.refl w.heap.size w)
 have H:(Fb.l0 k ([]:List (S72)) 0 l0_0 l0_1)=some r:=h
 clear h
 have H':=mk0 H
 clear H
 go_enter Tryz.func32,Tryz.ntmps32
 go_wp2_with (first|((with_reducible refine gate_dst (N:=1) rfl ?_);refine bx_ (N:=1) (cs:=#[.slice A0_0 l0_0.length c0_0,.slice A0_1 l0_1.length c0_1]) (t:=34) (h:=?_);intro aq hg w2 hbox hb;have ny2_:=mk0 (gz_ HB hg);have bM:=mk0 (gz_ HB hg);replace HB:=mk0 (bt_ (b_ HB) hb);have ac:=mk0 (hbox);have dn:=ny2_;have dp:=bM;clear ny2_ bM;clear hb hbox hg))
 go_loopg [3,4] k (fun kq v3 v4 w'=>∃ (ae:List (S72)) (af:Int),v4 = .int .i64 af∧Fc (Fb.l0 kq ae af l0_0 l0_1=some r)∧Fc (kq≤k)∧Fc (Kd.R k72 72 w' w.heap.size (fun _=>True) v3 ae)∧Fc (w'.heap[aq]? = some (.cells #[(.slice A0_0 l0_0.length c0_0),(.slice A0_1 l0_1.length c0_1)] 34 (0,0)))∧Fc (Below w.heap.size w w'))
 case atStart=>exact ⟨(([]:List (S72))),(0),sm_,H',⟨Nat.le_refl _⟩,⟨nl_⟩,⟨h_ ac⟩,⟨b_ HB⟩⟩
 case round=>
  clear H'
  obtain ⟨ae,af,rfl,HA,bh,ag,ac,HB⟩:=hrel
  cases gk with
  | zero=>exact absurd HA.out (by simp [Fb.l0])
  | succ k1=>
   have H:=HA.out
   clear HA
   simp only [Fb.l0] at H
   as_aux_lemma=>
    by_cases c3:af<(l0_0.length:Int)
    ·rw [if_pos c3] at H
     have cA:=decide_eq_true c3
     clear c3
     by_cases c4:0≤af
     ·rw [if_pos c4] at H
      have cZ:=decide_eq_true c4
      clear c4
      replace H:=ob_ H
      obtain ⟨⟨al,am,an,ao,bN⟩,A5,H⟩:=H
      try dsimp only at H
      have H':=mk0 H
      clear H
      obtain ⟨cp,cq,cr,ct⟩:=c2_ ac
      try go_wp2
      replace ag:=mk0 (Rd_ ag.out)
      replace ac:=mk0 (bD_ ac.out)
      replace HB:=mk0 (b1_ HB.out)
      have b0:0≤(af:Int):=od_
      have b1:af<(l0_0.length:Int):=od_
      obtain ⟨ah,c0,a5,a6,a7,a8⟩:=at_T72 bI.out af b0 b1
      have aC:=a8
      have aD:=a7
      have aE:=a6
      have aG:=a5
      cases c0
      replace a5:=(bc_ HB a5 :)
      replace a6:=(bc_ HB a6 :)
      replace a7:=(bc_ HB a7 :)
      replace a8:=(bc_ HB a8 :)
      replace b0:=eq_true b0
      replace b1:=eq_true b1
      have b2:0≤(af:Int):=od_
      have b3:af<(l0_0.length:Int):=od_
      obtain ⟨cM,c2,a9,ba,bb,bc⟩:=at_T72 bI.out af b2 b3
      have aH:=bc
      have aI:=bb
      have aJ:=ba
      have aK:=a9
      obtain rfl:ah=cM:=(by injection c2)
      replace a9:=(bc_ HB a9 :)
      replace ba:=(bc_ HB ba :)
      replace bb:=(bc_ HB bb :)
      replace bc:=(bc_ HB bc :)
      replace b2:=eq_true b2
      replace b3:=eq_true b3
      refine start_ (n:=20) (S:=fun w'=>w'.cell? ⟨aq,0,none⟩=some (.slice (some ah) l0_0.length c0_0)∧w'.cell? ⟨aq,1,none⟩=some (.slice A0_1 l0_1.length c0_1)∧w'.cell? (ah.add ((af).toNat * 4))=some (.int .i64 ((rd_T72 l0_0 af).f0))∧w'.cell? ⟨(ah.add ((af).toNat * 4)).block,(ah.add ((af).toNat * 4)).off + 1,none⟩=some (.string ((rd_T72 l0_0 af).f1))∧w'.cell? ⟨(ah.add ((af).toNat * 4)).block,(ah.add ((af).toNat * 4)).off + 2,none⟩=some (.string ((rd_T72 l0_0 af).f2))∧w'.cell? ⟨(ah.add ((af).toNat * 4)).block,(ah.add ((af).toNat * 4)).off + 3,none⟩=some (.bool ((rd_T72 l0_0 af).f3))∧w'.cell? (ah.add ((af).toNat * 4))=some (.int .i64 ((rd_T72 l0_0 af).f0))∧w'.cell? ⟨(ah.add ((af).toNat * 4)).block,(ah.add ((af).toNat * 4)).off + 1,none⟩=some (.string ((rd_T72 l0_0 af).f1))∧w'.cell? ⟨(ah.add ((af).toNat * 4)).block,(ah.add ((af).toNat * 4)).off + 2,none⟩=some (.string ((rd_T72 l0_0 af).f2))∧w'.cell? ⟨(ah.add ((af).toNat * 4)).block,(ah.add ((af).toNat * 4)).off + 3,none⟩=some (.bool ((rd_T72 l0_0 af).f3))) (ds:=[]) (bt 20 0) (by kernel_rfl) rfl rfl ⟨bk_ ac 0,bk_ ac 1,((bc_ HB aG :)),((bc_ HB aE :)),((bc_ HB aD :)),((bc_ HB aC :)),((bc_ HB aK :)),((bc_ HB aJ :)),((bc_ HB aI :)),((bc_ HB aH :))⟩ (fun hHeld=>?_);refine with_tabW Fb.tab5 Fb.bits5 (fun HT_ HW_=>?_)
      generalize wr.drew=w7 at ag ac HB a5 a6 a7 a8 a9 ba bb bc hHeld ⊢
      refine pq_ HT_.out 1 17 (bt 20 2) (h:=?_)
      refine pq_ HT_.out 3 19 (bt 20 10) (h:=?_)
      refine pq_ HT_.out 7 23 (bt 20 138) (h:=?_)
      refine pq_ HT_.out 9 25 (bt 20 650) (h:=?_)
      refine tq10_ HT_.out HW_.out 0 16 (bt 20 651) hHeld (h:=?_)
      refine tq10_ HT_.out HW_.out 2 18 (bt 20 655) hHeld (h:=?_)
      refine pq_ HT_.out 4 20 (bt 20 671) (h:=?_)
      refine pq_ HT_.out 5 21 (bt 20 703) (h:=?_)
      refine tq10_ HT_.out HW_.out 6 22 (bt 20 767) hHeld (h:=?_)
      refine tq10_ HT_.out HW_.out 8 24 (bt 20 1023) hHeld (h:=?_)
      refine pq_ HT_.out 10 26 (bt 20 2047) (h:=?_)
      refine pq_ HT_.out 11 27 (bt 20 4095) (h:=?_)
      refine tq10_ HT_.out HW_.out 12 28 (bt 20 8191) hHeld (h:=?_)
      refine join_ (σ:=Nat) 2 (bt 20 262143) (fun s_=>[(29,.tuple #[.agg #[.int .i64 al,.string am,.string an,.bool ao],.bool bN]),(5,.pointer (some ⟨s_,0,none⟩)),(15,.tuple #[.agg #[.int .i64 al,.string am,.string an,.bool ao],.bool bN]),(30,.agg #[.int .i64 al,.string am,.string an,.bool ao]),(31,.bool bN)]) (fun s_ w'=>(w'.cell? ⟨aq,0,none⟩=some (.slice (some ah) l0_0.length c0_0)∧w'.cell? ⟨aq,1,none⟩=some (.slice A0_1 l0_1.length c0_1)∧w'.cell? (ah.add ((af).toNat * 4))=some (.int .i64 ((rd_T72 l0_0 af).f0))∧w'.cell? ⟨(ah.add ((af).toNat * 4)).block,(ah.add ((af).toNat * 4)).off + 1,none⟩=some (.string ((rd_T72 l0_0 af).f1))∧w'.cell? ⟨(ah.add ((af).toNat * 4)).block,(ah.add ((af).toNat * 4)).off + 2,none⟩=some (.string ((rd_T72 l0_0 af).f2))∧w'.cell? ⟨(ah.add ((af).toNat * 4)).block,(ah.add ((af).toNat * 4)).off + 3,none⟩=some (.bool ((rd_T72 l0_0 af).f3))∧w'.cell? (ah.add ((af).toNat * 4))=some (.int .i64 ((rd_T72 l0_0 af).f0))∧w'.cell? ⟨(ah.add ((af).toNat * 4)).block,(ah.add ((af).toNat * 4)).off + 1,none⟩=some (.string ((rd_T72 l0_0 af).f1))∧w'.cell? ⟨(ah.add ((af).toNat * 4)).block,(ah.add ((af).toNat * 4)).off + 2,none⟩=some (.string ((rd_T72 l0_0 af).f2))∧w'.cell? ⟨(ah.add ((af).toNat * 4)).block,(ah.add ((af).toNat * 4)).off + 3,none⟩=some (.bool ((rd_T72 l0_0 af).f3)))∧(Kd.R k72 72 w' w.heap.size (fun k_=>k_≠s_) u3 ae)∧(w'.heap[aq]? = some (.cells #[.slice (some ah) l0_0.length c0_0,.slice A0_1 l0_1.length c0_1] 34 (0,0)))∧(w'.heap[s_]? = some (.cells #[.int .i64 0,.string (⟨#[]⟩:ByteArray),.string (⟨#[]⟩:ByteArray),.bool false] 72 (0,0)))∧(w.heap.size≤s_)∧(w.heap.size≤s_)∧(aq≠s_)∧(s_≠aq)∧(Below w.heap.size w w')) ?_ ?_
      rotate_left
      ·intro hCont
       refine two_ (i:=13) (j:=17) (Ni:=some 29) (Nj:=some 5) (bt 20 16383) (bt 20 139263) rfl rfl rfl rfl (two_of HT_.out (by kernel_rfl)) (by decide) (by decide) (fun K hK=>?_) (fun K hK=>?_)
       ·skip
        refine goes_ Tryz.func55 (by kernel_rfl) rfl #[.agg #[.slice (some ah) l0_0.length c0_0,.slice A0_1 l0_1.length c0_1],.int .i64 ((rd_T72 l0_0 af).f0),.string ((rd_T72 l0_0 af).f1)] (by rfl) rfl rfl gs_ ?_
        with_reducible refine (Ft.calls k1 _ _ l0_0 _ _ l0_1 ((rd_T72 l0_0 af).f0) ((rd_T72 l0_0 af).f1) al am an ao bN _ ?side1 ?side2 ?side3 ?side4 A5.out).mono ?_
        (case side1=>exact cb_ bI HB)
        (case side2=>exact cb.out)
        (case side3=>exact cb_ cc HB)
        (case side4=>exact cd.out)
        rintro e w8 ⟨rfl,hb⟩
        refine ⟨_,rfl,?_⟩
        replace ag:=mk0 (Kd.R_below (r_ ag) hb)
        replace ac:=mk0 (u_ ac hb)
        replace HB:=mk0 (bt_ (b_ HB) hb)
        (try clear hb)
        (try clear hk)
        (try clear hi)
        refine hK.out _ _ ⟨bk_ ac 0,bk_ ac 1,((bc_ HB aG :)),((bc_ HB aE :)),((bc_ HB aD :)),((bc_ HB aC :)),((bc_ HB aK :)),((bc_ HB aJ :)),((bc_ HB aI :)),((bc_ HB aH :))⟩ (fun hHeld=>?_)
        clear hK K
        refine norm_ (a':=?_) ?_ ?_
        rotate_left
        ·show Act.put _ (some 29) _=_
         simp only [z_]
         rfl
        refine pq_ HT_.out 14 15 (bt 20 32767) (h:=?_)
        refine pq_ HT_.out 15 30 (bt 20 65535) (h:=?_)
        refine pq_ HT_.out 16 31 (bt 20 131071) (h:=?_)
        refine one_ (i:=17) (N:=some 5) (bt 20 262143) rfl rfl (one_of HT_.out (by kernel_rfl)) (by decide) (fun K hK=>?_)
        refine box_step ?hg (N:=5) ?hd (cs:=#[.int .i64 0,.string (⟨#[]⟩:ByteArray),.string (⟨#[]⟩:ByteArray),.bool false]) (t:=72) ?hr ?_;(case hd=>rfl);(case hg=>rfl);(case hr=>first|(go_simp;done)|(go_simp;rfl))
        intro ad hg w9 hbox hb
        have bm:=mk0 (gz_ HB hg)
        have bn:=mk0 (gz_ HB hg)
        have bO:=mk0 (ne1_ ac hg)
        have bP:=mk0 (ne2_ ac hg)
        replace ag:=mk0 (Kd.R_below (Kd.R_elderB (r_ ag) ad (Nat.le_of_eq hg.symm)) hb)
        replace ac:=mk0 (u_ ac hb)
        replace HB:=mk0 (bt_ (b_ HB) hb)
        have ab:=mk0 (hbox)
        have ak:=bm
        have bJ:=bn
        have aj:=bO
        have ar:=bP
        clear bm bn bO bP hb hbox hg
        refine hK.out _ _ ⟨bk_ ac 0,bk_ ac 1,((bc_ HB aG :)),((bc_ HB aE :)),((bc_ HB aD :)),((bc_ HB aC :)),((bc_ HB aK :)),((bc_ HB aJ :)),((bc_ HB aI :)),((bc_ HB aH :))⟩ (fun hHeld=>?_)
        clear hK K
        refine norm_ (a':=?_) ?_ ?_
        rotate_left
        ·show Act.put _ (some 5) _=_
         simp only [z_]
         rfl
        exact norm_ (by simp only [putAll,Act.put,List.setIfInBounds_toArray,List.set_cons_zero,List.set_cons_succ]) (hCont (ad) _ ⟨hHeld,(r2_ (Kd.R_mono ag.out (fun _ hk=>hk.2))),(h_ ac),(h_ ab),ak.out,bJ.out,aj.out,ar.out,(b_ HB)⟩)
       ·skip
        refine box_step ?hg (N:=5) ?hd (cs:=#[.int .i64 0,.string (⟨#[]⟩:ByteArray),.string (⟨#[]⟩:ByteArray),.bool false]) (t:=72) ?hr ?_;(case hd=>rfl);(case hg=>rfl);(case hr=>first|(go_simp;done)|(go_simp;rfl))
        intro ad hg w8 hbox hb
        have bm:=mk0 (gz_ HB hg)
        have bn:=mk0 (gz_ HB hg)
        have bO:=mk0 (ne1_ ac hg)
        have bP:=mk0 (ne2_ ac hg)
        replace ag:=mk0 (Kd.R_below (Kd.R_elderB (r_ ag) ad (Nat.le_of_eq hg.symm)) hb)
        replace ac:=mk0 (u_ ac hb)
        replace HB:=mk0 (bt_ (b_ HB) hb)
        have ab:=mk0 (hbox)
        have ak:=bm
        have bJ:=bn
        have aj:=bO
        have ar:=bP
        clear bm bn bO bP hb hbox hg
        refine hK.out _ _ ⟨bk_ ac 0,bk_ ac 1,((bc_ HB aG :)),((bc_ HB aE :)),((bc_ HB aD :)),((bc_ HB aC :)),((bc_ HB aK :)),((bc_ HB aJ :)),((bc_ HB aI :)),((bc_ HB aH :))⟩ (fun hHeld=>?_)
        clear hK K
        refine norm_ (a':=?_) ?_ ?_
        rotate_left
        ·show Act.put _ (some 5) _=_
         simp only [z_]
         rfl
        refine one_ (i:=13) (N:=some 29) (bt 20 147455) rfl rfl (one_of HT_.out (by kernel_rfl)) (by decide) (fun K hK=>?_)
        refine goes_ Tryz.func55 (by kernel_rfl) rfl #[.agg #[.slice (some ah) l0_0.length c0_0,.slice A0_1 l0_1.length c0_1],.int .i64 ((rd_T72 l0_0 af).f0),.string ((rd_T72 l0_0 af).f1)] (by rfl) rfl rfl gs_ ?_
        with_reducible refine (Ft.calls k1 _ _ l0_0 _ _ l0_1 ((rd_T72 l0_0 af).f0) ((rd_T72 l0_0 af).f1) al am an ao bN _ ?side1 ?side2 ?side3 ?side4 A5.out).mono ?_
        (case side1=>exact cb_ bI HB)
        (case side2=>exact cb.out)
        (case side3=>exact cb_ cc HB)
        (case side4=>exact cd.out)
        rintro e w9 ⟨rfl,hb⟩
        refine ⟨_,rfl,?_⟩
        replace ag:=mk0 (Kd.R_below (r_ ag) hb)
        replace ac:=mk0 (u_ ac hb)
        replace ab:=mk0 (blk_below (g:=ad) (o:=.cells #[.int .i64 0,.string (⟨#[]⟩:ByteArray),.string (⟨#[]⟩:ByteArray),.bool false] 72 (0,0)) (h_ ab) hb)
        replace HB:=mk0 (bt_ (b_ HB) hb)
        (try clear hb)
        (try clear hk)
        (try clear hi)
        refine hK.out _ _ ⟨bk_ ac 0,bk_ ac 1,((bc_ HB aG :)),((bc_ HB aE :)),((bc_ HB aD :)),((bc_ HB aC :)),((bc_ HB aK :)),((bc_ HB aJ :)),((bc_ HB aI :)),((bc_ HB aH :))⟩ (fun hHeld=>?_)
        clear hK K
        refine norm_ (a':=?_) ?_ ?_
        rotate_left
        ·show Act.put _ (some 29) _=_
         simp only [z_]
         rfl
        refine pq_ HT_.out 14 15 (bt 20 163839) (h:=?_)
        refine pq_ HT_.out 15 30 (bt 20 196607) (h:=?_)
        refine pq_ HT_.out 16 31 (bt 20 262143) (h:=?_)
        exact norm_ (by simp only [putAll,Act.put,List.setIfInBounds_toArray,List.set_cons_zero,List.set_cons_succ]) (hCont (ad) _ ⟨hHeld,(r2_ (Kd.R_mono ag.out (fun _ hk=>hk.2))),(h_ ac),(h_ ab),ak.out,bJ.out,aj.out,ar.out,(b_ HB)⟩)
      rintro ad a4 ⟨hS_,h0_,h1_,h2_,h3_,h4_,h5_,h6_,h7_⟩
      have ce:Fc (Kd.R k72 72 a4 w.heap.size (fun k_=>k_≠ad) u3 ae):=⟨h0_⟩
      have bo:Fc (a4.heap[aq]? = some (.cells #[.slice (some ah) l0_0.length c0_0,.slice A0_1 l0_1.length c0_1] 34 (0,0))):=⟨h1_⟩
      have ny2_:Fc (a4.heap[ad]? = some (.cells #[.int .i64 0,.string (⟨#[]⟩:ByteArray),.string (⟨#[]⟩:ByteArray),.bool false] 72 (0,0))):=⟨h2_⟩
      have bM:Fc (w.heap.size≤ad):=⟨h3_⟩
      have bm:Fc (w.heap.size≤ad):=⟨h4_⟩
      have bn:Fc (aq≠ad):=⟨h5_⟩
      have bO:Fc (ad≠aq):=⟨h6_⟩
      have bP:Fc (Below w.heap.size w a4):=⟨h7_⟩
      clear ag ac HB h0_ h1_ h2_ h3_ h4_ h5_ h6_ h7_
      have ag:=ce
      have ac:=bo
      have ab:=ny2_
      have ak:=bM
      have bJ:=bm
      have aj:=bn
      have ar:=bO
      have HB:=bP
      clear ce bo ny2_ bM bm bn bO bP
      have hHeld:a4.cell? ⟨aq,0,none⟩=some (.slice (some ah) l0_0.length c0_0)∧a4.cell? ⟨aq,1,none⟩=some (.slice A0_1 l0_1.length c0_1)∧a4.cell? (ah.add ((af).toNat * 4))=some (.int .i64 ((rd_T72 l0_0 af).f0))∧a4.cell? ⟨(ah.add ((af).toNat * 4)).block,(ah.add ((af).toNat * 4)).off + 1,none⟩=some (.string ((rd_T72 l0_0 af).f1))∧a4.cell? ⟨(ah.add ((af).toNat * 4)).block,(ah.add ((af).toNat * 4)).off + 2,none⟩=some (.string ((rd_T72 l0_0 af).f2))∧a4.cell? ⟨(ah.add ((af).toNat * 4)).block,(ah.add ((af).toNat * 4)).off + 3,none⟩=some (.bool ((rd_T72 l0_0 af).f3))∧a4.cell? (ah.add ((af).toNat * 4))=some (.int .i64 ((rd_T72 l0_0 af).f0))∧a4.cell? ⟨(ah.add ((af).toNat * 4)).block,(ah.add ((af).toNat * 4)).off + 1,none⟩=some (.string ((rd_T72 l0_0 af).f1))∧a4.cell? ⟨(ah.add ((af).toNat * 4)).block,(ah.add ((af).toNat * 4)).off + 2,none⟩=some (.string ((rd_T72 l0_0 af).f2))∧a4.cell? ⟨(ah.add ((af).toNat * 4)).block,(ah.add ((af).toNat * 4)).off + 3,none⟩=some (.bool ((rd_T72 l0_0 af).f3)):=hS_
      refine norm_ (a':=?_) ?_ ?_
      rotate_left
      ·simp only [putAll,Act.put,List.setIfInBounds_toArray,List.set_cons_zero,List.set_cons_succ]
       rfl
      refine one_ (i:=18) (N:=none) (bt 20 524287) rfl rfl (one_of HT_.out (by kernel_rfl)) (by decide) (fun K hK=>?_)
      have hs11:a4.cell? ⟨ad,0,none⟩=some (.int .i64 0):=bk_ ab 0
      have hfs11:=blk_frozen ab.out 0
      have c5:=aj.out
      have c6:=ar.out
      have hs12:a4.cell? ⟨ad,1,none⟩=some (.string (⟨#[]⟩:ByteArray)):=bk_ ab 1
      have hfs12:=blk_frozen ab.out 1
      have c7:=aj.out
      have c8:=ar.out
      have hs13:a4.cell? ⟨ad,2,none⟩=some (.string (⟨#[]⟩:ByteArray)):=bk_ ab 2
      have hfs13:=blk_frozen ab.out 2
      have c9:=aj.out
      have da:=ar.out
      have hs14:a4.cell? ⟨ad,3,none⟩=some (.bool false):=bk_ ab 3
      have hfs14:=blk_frozen ab.out 3
      have db:=aj.out
      have dc:=ar.out
      refine skip_ (w1:=?_) (by rfl) rfl ?_ ?_
      rotate_left
      ·go_simp
       rfl
      refine hK.out _ _ ⟨(cf_ aj.out ((cf_ aj.out ((cf_ aj.out (cf_ aj.out hHeld.1)))))),(cf_ aj.out ((cf_ aj.out ((cf_ aj.out (cf_ aj.out hHeld.2.1)))))),(cf_ (nb_ aG ak) ((cf_ (nb_ aG ak) ((cf_ (nb_ aG ak) (cf_ (nb_ aG ak) hHeld.2.2.1)))))),(cf_ (nb_ aE ak) ((cf_ (nb_ aE ak) ((cf_ (nb_ aE ak) (cf_ (nb_ aE ak) hHeld.2.2.2.1)))))),(cf_ (nb_ aD ak) ((cf_ (nb_ aD ak) ((cf_ (nb_ aD ak) (cf_ (nb_ aD ak) hHeld.2.2.2.2.1)))))),(cf_ (nb_ aC ak) ((cf_ (nb_ aC ak) ((cf_ (nb_ aC ak) (cf_ (nb_ aC ak) hHeld.2.2.2.2.2.1)))))),(cf_ (nb_ aK ak) ((cf_ (nb_ aK ak) ((cf_ (nb_ aK ak) (cf_ (nb_ aK ak) hHeld.2.2.2.2.2.2.1)))))),(cf_ (nb_ aJ ak) ((cf_ (nb_ aJ ak) ((cf_ (nb_ aJ ak) (cf_ (nb_ aJ ak) hHeld.2.2.2.2.2.2.2.1)))))),(cf_ (nb_ aI ak) ((cf_ (nb_ aI ak) ((cf_ (nb_ aI ak) (cf_ (nb_ aI ak) hHeld.2.2.2.2.2.2.2.2.1)))))),(cf_ (nb_ aH ak) ((cf_ (nb_ aH ak) ((cf_ (nb_ aH ak) (cf_ (nb_ aH ak) hHeld.2.2.2.2.2.2.2.2.2))))))⟩ (fun hHeld=>?_)
      clear hK K
      refine pq_ HT_.out 19 6 (bt 20 1048575) (h:=?_)
      refine done_ (done_of HT_.out (by kernel_rfl)) ?_
      try go_wp2
      go_loopg [7] k1 (fun kq v7 w'=>∃ (aa:Int),v7 = .int .i64 aa∧Fc (Fb.l1 kq ae af aa l0_0 l0_1 al am an ao=some r)∧Fc (kq≤k1)∧Fc (Kd.R k72 72 w' w.heap.size (fun k_=>k_≠ad) u3 ae)∧Fc (w'.heap[aq]? = some (.cells #[(.slice (some ah) l0_0.length c0_0),(.slice A0_1 l0_1.length c0_1)] 34 (0,0)))∧Fc (w'.heap[ad]? = some (.cells #[.int .i64 al,.string am,.string an,.bool ao] 72 (0,0)))∧Fc (Below w.heap.size w w'))
      case atStart=>exact ⟨(0),sm_,H',⟨Nat.le_refl _⟩,⟨by (with_reducible repeat (first|apply Ra_|apply Rn_|apply Rd_));exact Kd.R_mono (Kd.R_far (p:=⟨ad,3,none⟩) (Kd.R_far (p:=⟨ad,2,none⟩) (Kd.R_far (p:=⟨ad,1,none⟩) (Kd.R_far (p:=⟨ad,0,none⟩) (Kd.R_mono ag.out (fun k_ hk=>(⟨hk,hk⟩:_∧k_≠ad))) (fun _ hk=>hk.2) (.int .i64 al)) (fun _ hk=>hk.2) (.string am)) (fun _ hk=>hk.2) (.string an)) (fun _ hk=>hk.2) (.bool ao)) (fun _ hk=>hk.1)⟩,⟨(fa_ (fa_ (fa_ (fa_ (h_ ac) aj.out) aj.out) aj.out) aj.out)⟩,⟨(pu_ (cs:=#[.int .i64 al,.string am,.string an,.bool false]) (pu_ (cs:=#[.int .i64 al,.string am,.string (⟨#[]⟩:ByteArray),.bool false]) (pu_ (cs:=#[.int .i64 al,.string (⟨#[]⟩:ByteArray),.string (⟨#[]⟩:ByteArray),.bool false]) (pu_ (cs:=#[.int .i64 0,.string (⟨#[]⟩:ByteArray),.string (⟨#[]⟩:ByteArray),.bool false]) (h_ ab)))))⟩,⟨b_ HB⟩⟩
      case round=>
       clear H'
       try clear c3
       try clear cA
       try clear c4
       try clear cZ
       try clear cp
       try clear cq
       try clear cr
       try clear ct
       try clear a5
       try clear a6
       try clear a7
       try clear a8
       try clear a9
       try clear ba
       try clear bb
       try clear bc
       try clear b0
       try clear b2
       try clear b1
       try clear b3
       obtain ⟨aa,rfl,HA,bi,ag,ac,ab,HB⟩:=hrel
       cases gk with
       | zero=>exact absurd HA.out (by simp [Fb.l1])
       | succ k2=>
        have H:=HA.out
        clear HA
        simp only [Fb.l1] at H
        as_aux_lemma=>
         have HC15:=mk0 H
         clear H
         go_upto_region 7 with (fail)
         go_cut [65] (fun v65 wc=>∃ (kq:Nat) (bk:Bool),v65 = .bool bk∧Fc (Fb.j2 kq ae af aa bk l0_0 l0_1 al am an ao=some r)∧Fc (kq≤k2)∧Fc (Kd.R k72 72 wc w.heap.size (fun k_=>k_≠ad) u3 ae)∧Fc (wc.heap[aq]? = some (.cells #[(.slice (some ah) l0_0.length c0_0),(.slice A0_1 l0_1.length c0_1)] 34 (0,0)))∧Fc (wc.heap[ad]? = some (.cells #[.int .i64 al,.string am,.string an,.bool ao] 72 (0,0)))∧Fc (Below w.heap.size w wc))
         case first=>
          have H:=HC15.out
          clear HC15
          by_cases b8:aa<(ae.length:Int)
          ·rw [if_pos b8] at H
           have bp:=decide_eq_true b8
           clear b8
           (first|rw [bp]|(simp only [i64_w,i32_w];rw [bp])|skip)
           by_cases cu:0≤aa
           ·rw [if_pos cu] at H
            have dq:=decide_eq_true cu
            clear cu
            by_cases b9:((rd_T72 ae aa).f0)<al
            ·rw [if_pos b9] at H
             have cN:=decide_eq_true b9
             clear b9
             have H':=mk0 H
             clear H
             try go_wp2
             obtain ⟨dC,dD,cB⟩:=Kd.R_slice ag.out
             (first|subst cB|(injection cB with f1_ f2_ f3_;have f4_:=f1_.symm;have f5_:=f3_.symm;clear f1_ f2_ f3_;subst f4_;subst f5_))
             have bd:0≤(aa:Int):=od_
             have be:aa<(ae.length:Int):=od_
             obtain ⟨ai,bQ,au,av,aw,ax⟩:=at_T72 (Kd.R_reads' ag.out).2.2 aa bd be
             cases bQ
             replace bd:=eq_true bd
             replace be:=eq_true be
             have hs1_0:wr.cell? ⟨ad,0,none⟩=some (.int .i64 al):=bk_ ab 0
             have hs1_1:wr.cell? ⟨ad,1,none⟩=some (.string am):=bk_ ab 1
             have hs1_2:wr.cell? ⟨ad,2,none⟩=some (.string an):=bk_ ab 2
             have hs1_3:wr.cell? ⟨ad,3,none⟩=some (.bool ao):=bk_ ab 3
             have hs1_4:wr.cell? (ai.add ((aa).toNat * 4))=some (.int .i64 ((rd_T72 ae aa).f0)):=au
             have hs1_5:wr.cell? ⟨(ai.add ((aa).toNat * 4)).block,(ai.add ((aa).toNat * 4)).off + 1,none⟩=some (.string ((rd_T72 ae aa).f1)):=av
             have hs1_6:wr.cell? ⟨(ai.add ((aa).toNat * 4)).block,(ai.add ((aa).toNat * 4)).off + 2,none⟩=some (.string ((rd_T72 ae aa).f2)):=aw
             have hs1_7:wr.cell? ⟨(ai.add ((aa).toNat * 4)).block,(ai.add ((aa).toNat * 4)).off + 3,none⟩=some (.bool ((rd_T72 ae aa).f3)):=ax
             go_quiet (fail)
             clear hs1_0 hs1_1 hs1_2 hs1_3 hs1_4 hs1_5 hs1_6 hs1_7
             generalize hq_:World.drewN wr _=dR
             replace ag:=mk0 (Kd.R_at hq_ ag.out)
             replace ac:=mk0 (blk_at hq_ ac.out)
             replace ab:=mk0 (blk_at hq_ ab.out)
             replace HB:=mk0 (below_at hq_ HB.out)
             try replace au:=cell_at hq_ au
             try replace av:=cell_at hq_ av
             try replace aw:=cell_at hq_ aw
             try replace ax:=cell_at hq_ ax
             clear hq_
             try go_wp2
             go_meet
             case rel=>exact ⟨_,(true),sm_,H',⟨by have:=bh.out;have:=bi.out;first|omega|exact Nat.le_refl _⟩,⟨r2_ ag.out⟩,⟨h_ ac⟩,⟨h_ ab⟩,⟨b_ HB⟩⟩
            ·rw [if_neg b9] at H
             have cN:=decide_eq_false b9
             clear b9
             by_cases bR:((rd_T72 ae aa).f0)=al
             ·rw [if_pos bR] at H
              have cO:=beq_iff_eq.mpr bR
              have cP:=bne_eq_false_iff_eq.mpr bR
              clear bR
              have H':=mk0 H
              clear H
              try go_wp2
              obtain ⟨dE,dF,cC⟩:=Kd.R_slice ag.out
              (first|subst cC|(injection cC with f1_ f2_ f3_;have f4_:=f1_.symm;have f5_:=f3_.symm;clear f1_ f2_ f3_;subst f4_;subst f5_))
              have bd:0≤(aa:Int):=od_
              have be:aa<(ae.length:Int):=od_
              obtain ⟨ai,bQ,au,av,aw,ax⟩:=at_T72 (Kd.R_reads' ag.out).2.2 aa bd be
              cases bQ
              replace bd:=eq_true bd
              replace be:=eq_true be
              have bq:0≤(aa:Int):=od_
              have br:aa<(ae.length:Int):=od_
              obtain ⟨bS,cf,aN,aP,aQ,aT⟩:=at_T72 (Kd.R_reads' ag.out).2.2 aa bq br
              obtain rfl:ai=bS:=(by injection cf)
              replace bq:=eq_true bq
              replace br:=eq_true br
              have cg:0≤(aa:Int):=od_
              have ch:aa<(ae.length:Int):=od_
              obtain ⟨cQ,dd,bs,bu,bv,bw⟩:=at_T72 (Kd.R_reads' ag.out).2.2 aa cg ch
              obtain rfl:ai=cQ:=(by injection dd)
              replace cg:=eq_true cg
              replace ch:=eq_true ch
              have hs2_0:wr.cell? ⟨ad,0,none⟩=some (.int .i64 al):=bk_ ab 0
              have hs2_1:wr.cell? ⟨ad,1,none⟩=some (.string am):=bk_ ab 1
              have hs2_2:wr.cell? ⟨ad,2,none⟩=some (.string an):=bk_ ab 2
              have hs2_3:wr.cell? ⟨ad,3,none⟩=some (.bool ao):=bk_ ab 3
              have hs2_4:wr.cell? (ai.add ((aa).toNat * 4))=some (.int .i64 ((rd_T72 ae aa).f0)):=au
              have hs2_5:wr.cell? ⟨(ai.add ((aa).toNat * 4)).block,(ai.add ((aa).toNat * 4)).off + 1,none⟩=some (.string ((rd_T72 ae aa).f1)):=av
              have hs2_6:wr.cell? ⟨(ai.add ((aa).toNat * 4)).block,(ai.add ((aa).toNat * 4)).off + 2,none⟩=some (.string ((rd_T72 ae aa).f2)):=aw
              have hs2_7:wr.cell? ⟨(ai.add ((aa).toNat * 4)).block,(ai.add ((aa).toNat * 4)).off + 3,none⟩=some (.bool ((rd_T72 ae aa).f3)):=ax
              have hs2_8:wr.cell? (ai.add ((aa).toNat * 4))=some (.int .i64 ((rd_T72 ae aa).f0)):=aN
              have hs2_9:wr.cell? ⟨(ai.add ((aa).toNat * 4)).block,(ai.add ((aa).toNat * 4)).off + 1,none⟩=some (.string ((rd_T72 ae aa).f1)):=aP
              have hs2_10:wr.cell? ⟨(ai.add ((aa).toNat * 4)).block,(ai.add ((aa).toNat * 4)).off + 2,none⟩=some (.string ((rd_T72 ae aa).f2)):=aQ
              have hs2_11:wr.cell? ⟨(ai.add ((aa).toNat * 4)).block,(ai.add ((aa).toNat * 4)).off + 3,none⟩=some (.bool ((rd_T72 ae aa).f3)):=aT
              have hs2_12:wr.cell? (ai.add ((aa).toNat * 4))=some (.int .i64 ((rd_T72 ae aa).f0)):=bs
              have hs2_13:wr.cell? ⟨(ai.add ((aa).toNat * 4)).block,(ai.add ((aa).toNat * 4)).off + 1,none⟩=some (.string ((rd_T72 ae aa).f1)):=bu
              have hs2_14:wr.cell? ⟨(ai.add ((aa).toNat * 4)).block,(ai.add ((aa).toNat * 4)).off + 2,none⟩=some (.string ((rd_T72 ae aa).f2)):=bv
              have hs2_15:wr.cell? ⟨(ai.add ((aa).toNat * 4)).block,(ai.add ((aa).toNat * 4)).off + 3,none⟩=some (.bool ((rd_T72 ae aa).f3)):=bw
              go_quiet (fail)
              clear hs2_0 hs2_1 hs2_2 hs2_3 hs2_4 hs2_5 hs2_6 hs2_7 hs2_8 hs2_9 hs2_10 hs2_11 hs2_12 hs2_13 hs2_14 hs2_15
              generalize hq_:World.drewN wr _=dS
              replace ag:=mk0 (Kd.R_at hq_ ag.out)
              replace ac:=mk0 (blk_at hq_ ac.out)
              replace ab:=mk0 (blk_at hq_ ab.out)
              replace HB:=mk0 (below_at hq_ HB.out)
              try replace au:=cell_at hq_ au
              try replace av:=cell_at hq_ av
              try replace aw:=cell_at hq_ aw
              try replace ax:=cell_at hq_ ax
              try replace aN:=cell_at hq_ aN
              try replace aP:=cell_at hq_ aP
              try replace aQ:=cell_at hq_ aQ
              try replace aT:=cell_at hq_ aT
              try replace bs:=cell_at hq_ bs
              try replace bu:=cell_at hq_ bu
              try replace bv:=cell_at hq_ bv
              try replace bw:=cell_at hq_ bw
              clear hq_
              try go_wp2
              go_meet
              case rel=>exact ⟨_,((Op.bytesLess (((rd_T72 ae aa).f1).toList) am.toList)),sm_,H',⟨by have:=bh.out;have:=bi.out;first|omega|exact Nat.le_refl _⟩,⟨r2_ ag.out⟩,⟨h_ ac⟩,⟨h_ ab⟩,⟨b_ HB⟩⟩
             ·rw [if_neg bR] at H
              have cO:=beq_eq_false_iff_ne.mpr bR
              have cP:=bne_iff_ne.mpr bR
              have H':=mk0 H
              clear H
              try go_wp2
              obtain ⟨dG,dH,cD⟩:=Kd.R_slice ag.out
              (first|subst cD|(injection cD with f1_ f2_ f3_;have f4_:=f1_.symm;have f5_:=f3_.symm;clear f1_ f2_ f3_;subst f4_;subst f5_))
              have bd:0≤(aa:Int):=od_
              have be:aa<(ae.length:Int):=od_
              obtain ⟨ai,bQ,au,av,aw,ax⟩:=at_T72 (Kd.R_reads' ag.out).2.2 aa bd be
              cases bQ
              replace bd:=eq_true bd
              replace be:=eq_true be
              have bq:0≤(aa:Int):=od_
              have br:aa<(ae.length:Int):=od_
              obtain ⟨bS,cf,aN,aP,aQ,aT⟩:=at_T72 (Kd.R_reads' ag.out).2.2 aa bq br
              obtain rfl:ai=bS:=(by injection cf)
              replace bq:=eq_true bq
              replace br:=eq_true br
              have hs3_0:wr.cell? ⟨ad,0,none⟩=some (.int .i64 al):=bk_ ab 0
              have hs3_1:wr.cell? ⟨ad,1,none⟩=some (.string am):=bk_ ab 1
              have hs3_2:wr.cell? ⟨ad,2,none⟩=some (.string an):=bk_ ab 2
              have hs3_3:wr.cell? ⟨ad,3,none⟩=some (.bool ao):=bk_ ab 3
              have hs3_4:wr.cell? (ai.add ((aa).toNat * 4))=some (.int .i64 ((rd_T72 ae aa).f0)):=au
              have hs3_5:wr.cell? ⟨(ai.add ((aa).toNat * 4)).block,(ai.add ((aa).toNat * 4)).off + 1,none⟩=some (.string ((rd_T72 ae aa).f1)):=av
              have hs3_6:wr.cell? ⟨(ai.add ((aa).toNat * 4)).block,(ai.add ((aa).toNat * 4)).off + 2,none⟩=some (.string ((rd_T72 ae aa).f2)):=aw
              have hs3_7:wr.cell? ⟨(ai.add ((aa).toNat * 4)).block,(ai.add ((aa).toNat * 4)).off + 3,none⟩=some (.bool ((rd_T72 ae aa).f3)):=ax
              have hs3_8:wr.cell? (ai.add ((aa).toNat * 4))=some (.int .i64 ((rd_T72 ae aa).f0)):=aN
              have hs3_9:wr.cell? ⟨(ai.add ((aa).toNat * 4)).block,(ai.add ((aa).toNat * 4)).off + 1,none⟩=some (.string ((rd_T72 ae aa).f1)):=aP
              have hs3_10:wr.cell? ⟨(ai.add ((aa).toNat * 4)).block,(ai.add ((aa).toNat * 4)).off + 2,none⟩=some (.string ((rd_T72 ae aa).f2)):=aQ
              have hs3_11:wr.cell? ⟨(ai.add ((aa).toNat * 4)).block,(ai.add ((aa).toNat * 4)).off + 3,none⟩=some (.bool ((rd_T72 ae aa).f3)):=aT
              go_quiet (fail)
              clear hs3_0 hs3_1 hs3_2 hs3_3 hs3_4 hs3_5 hs3_6 hs3_7 hs3_8 hs3_9 hs3_10 hs3_11
              generalize hq_:World.drewN wr _=dT
              replace ag:=mk0 (Kd.R_at hq_ ag.out)
              replace ac:=mk0 (blk_at hq_ ac.out)
              replace ab:=mk0 (blk_at hq_ ab.out)
              replace HB:=mk0 (below_at hq_ HB.out)
              try replace au:=cell_at hq_ au
              try replace av:=cell_at hq_ av
              try replace aw:=cell_at hq_ aw
              try replace ax:=cell_at hq_ ax
              try replace aN:=cell_at hq_ aN
              try replace aP:=cell_at hq_ aP
              try replace aQ:=cell_at hq_ aQ
              try replace aT:=cell_at hq_ aT
              clear hq_
              try go_wp2
              go_meet
              case rel=>exact ⟨_,(false),sm_,H',⟨by have:=bh.out;have:=bi.out;first|omega|exact Nat.le_refl _⟩,⟨r2_ ag.out⟩,⟨h_ ac⟩,⟨h_ ab⟩,⟨b_ HB⟩⟩
           ·rw [if_neg cu] at H
            exact absurd H (by simp)
          ·rw [if_neg b8] at H
           have bp:=decide_eq_false b8
           clear b8
           (first|rw [bp]|(simp only [i64_w,i32_w];rw [bp])|skip)
           have H':=mk0 H
           clear H
           try go_wp2
           obtain ⟨dI,dJ,cE⟩:=Kd.R_slice ag.out
           (first|subst cE|(injection cE with f1_ f2_ f3_;have f4_:=f1_.symm;have f5_:=f3_.symm;clear f1_ f2_ f3_;subst f4_;subst f5_))
           go_quiet (fail)
           generalize hq_:World.drewN wr _=dU
           replace ag:=mk0 (Kd.R_at hq_ ag.out)
           replace ac:=mk0 (blk_at hq_ ac.out)
           replace ab:=mk0 (blk_at hq_ ab.out)
           replace HB:=mk0 (below_at hq_ HB.out)
           clear hq_
           try go_wp2
           go_meet
           case rel=>exact ⟨_,(false),sm_,H',⟨by have:=bh.out;have:=bi.out;first|omega|exact Nat.le_refl _⟩,⟨r2_ ag.out⟩,⟨h_ ac⟩,⟨h_ ab⟩,⟨b_ HB⟩⟩
         case rest=>
          clear HC15
          obtain ⟨kq,bk,rfl,HA,bg,ag,ac,ab,HB⟩:=hcut
          cases kq with
          | zero=>exact absurd HA.out (by simp [Fb.j2])
          | succ cF=>
           have H:=HA.out
           clear HA
           simp only [Fb.j2] at H
           as_aux_lemma=>
            by_cases cv:bk=true
            ·subst cv
             rw [if_pos rfl] at H
             have H':=mk0 H
             clear H
             go_wp2
             go_roundg cF
             case measure=>have:=bh.out;have:=bi.out;have:=bg.out;omega
             case rel=>exact ⟨(wrap64 (aa + 1)),sm_,H',⟨by have:=bh.out;have:=bi.out;have:=bg.out;omega⟩,⟨r2_ ag.out⟩,⟨h_ ac⟩,⟨h_ ab⟩,⟨b_ HB⟩⟩
            ·replace cv:=Bool.eq_false_iff.mpr cv
             subst cv
             rw [if_neg nf_] at H
             have HC29:=mk0 H
             clear H
             go_upto_region 9 with (fail)
             go_cut [91] (fun v91 wc=>∃ (kq:Nat) (bl:Bool),v91 = .bool bl∧Fc (Fb.j3 kq ae af aa bl l0_0 l0_1 al am an ao=some r)∧Fc (kq≤cF)∧Fc (Kd.R k72 72 wc w.heap.size (fun k_=>k_≠ad) u3 ae)∧Fc (wc.heap[aq]? = some (.cells #[(.slice (some ah) l0_0.length c0_0),(.slice A0_1 l0_1.length c0_1)] 34 (0,0)))∧Fc (wc.heap[ad]? = some (.cells #[.int .i64 al,.string am,.string an,.bool ao] 72 (0,0)))∧Fc (Below w.heap.size w wc))
             case first=>
              have H:=HC29.out
              clear HC29
              by_cases ca:aa<(ae.length:Int)
              ·rw [if_pos ca] at H
               have bx:=decide_eq_true ca
               clear ca
               (first|rw [bx]|(simp only [i64_w,i32_w];rw [bx])|skip)
               by_cases cw:0≤aa
               ·rw [if_pos cw] at H
                have dr:=decide_eq_true cw
                clear cw
                by_cases bT:((rd_T72 ae aa).f0)=al
                ·rw [if_pos bT] at H
                 have cR:=beq_iff_eq.mpr bT
                 have cS:=bne_eq_false_iff_eq.mpr bT
                 clear bT
                 have H':=mk0 H
                 clear H
                 try go_wp2
                 obtain ⟨dK,dL,cG⟩:=Kd.R_slice ag.out
                 (first|subst cG|(injection cG with f1_ f2_ f3_;have f4_:=f1_.symm;have f5_:=f3_.symm;clear f1_ f2_ f3_;subst f4_;subst f5_))
                 have bz:0≤(aa:Int):=od_
                 have bA:aa<(ae.length:Int):=od_
                 obtain ⟨ap,ci,aU,aV,aW,aX⟩:=at_T72 (Kd.R_reads' ag.out).2.2 aa bz bA
                 cases ci
                 replace bz:=eq_true bz
                 replace bA:=eq_true bA
                 have cj:0≤(aa:Int):=od_
                 have ck:aa<(ae.length:Int):=od_
                 obtain ⟨cT,de,bB,bC,bD,bE⟩:=at_T72 (Kd.R_reads' ag.out).2.2 aa cj ck
                 obtain rfl:ap=cT:=(by injection de)
                 replace cj:=eq_true cj
                 replace ck:=eq_true ck
                 have hs5_0:wc.cell? ⟨ad,0,none⟩=some (.int .i64 al):=bk_ ab 0
                 have hs5_1:wc.cell? ⟨ad,1,none⟩=some (.string am):=bk_ ab 1
                 have hs5_2:wc.cell? ⟨ad,2,none⟩=some (.string an):=bk_ ab 2
                 have hs5_3:wc.cell? ⟨ad,3,none⟩=some (.bool ao):=bk_ ab 3
                 have hs5_4:wc.cell? (ap.add ((aa).toNat * 4))=some (.int .i64 ((rd_T72 ae aa).f0)):=aU
                 have hs5_5:wc.cell? ⟨(ap.add ((aa).toNat * 4)).block,(ap.add ((aa).toNat * 4)).off + 1,none⟩=some (.string ((rd_T72 ae aa).f1)):=aV
                 have hs5_6:wc.cell? ⟨(ap.add ((aa).toNat * 4)).block,(ap.add ((aa).toNat * 4)).off + 2,none⟩=some (.string ((rd_T72 ae aa).f2)):=aW
                 have hs5_7:wc.cell? ⟨(ap.add ((aa).toNat * 4)).block,(ap.add ((aa).toNat * 4)).off + 3,none⟩=some (.bool ((rd_T72 ae aa).f3)):=aX
                 have hs5_8:wc.cell? (ap.add ((aa).toNat * 4))=some (.int .i64 ((rd_T72 ae aa).f0)):=bB
                 have hs5_9:wc.cell? ⟨(ap.add ((aa).toNat * 4)).block,(ap.add ((aa).toNat * 4)).off + 1,none⟩=some (.string ((rd_T72 ae aa).f1)):=bC
                 have hs5_10:wc.cell? ⟨(ap.add ((aa).toNat * 4)).block,(ap.add ((aa).toNat * 4)).off + 2,none⟩=some (.string ((rd_T72 ae aa).f2)):=bD
                 have hs5_11:wc.cell? ⟨(ap.add ((aa).toNat * 4)).block,(ap.add ((aa).toNat * 4)).off + 3,none⟩=some (.bool ((rd_T72 ae aa).f3)):=bE
                 go_quiet (fail)
                 clear hs5_0 hs5_1 hs5_2 hs5_3 hs5_4 hs5_5 hs5_6 hs5_7 hs5_8 hs5_9 hs5_10 hs5_11
                 generalize hq_:World.drewN wc _=dV
                 replace ag:=mk0 (Kd.R_at hq_ ag.out)
                 replace ac:=mk0 (blk_at hq_ ac.out)
                 replace ab:=mk0 (blk_at hq_ ab.out)
                 replace HB:=mk0 (below_at hq_ HB.out)
                 try replace aU:=cell_at hq_ aU
                 try replace aV:=cell_at hq_ aV
                 try replace aW:=cell_at hq_ aW
                 try replace aX:=cell_at hq_ aX
                 try replace bB:=cell_at hq_ bB
                 try replace bC:=cell_at hq_ bC
                 try replace bD:=cell_at hq_ bD
                 try replace bE:=cell_at hq_ bE
                 clear hq_
                 try go_wp2
                 go_meet
                 case rel=>exact ⟨_,((((rd_T72 ae aa).f1).toList == am.toList)),sm_,H',⟨by have:=bh.out;have:=bi.out;have:=bg.out;first|omega|exact Nat.le_refl _⟩,⟨r2_ ag.out⟩,⟨h_ ac⟩,⟨h_ ab⟩,⟨b_ HB⟩⟩
                ·rw [if_neg bT] at H
                 have cR:=beq_eq_false_iff_ne.mpr bT
                 have cS:=bne_iff_ne.mpr bT
                 have H':=mk0 H
                 clear H
                 try go_wp2
                 obtain ⟨dM,dN,cH⟩:=Kd.R_slice ag.out
                 (first|subst cH|(injection cH with f1_ f2_ f3_;have f4_:=f1_.symm;have f5_:=f3_.symm;clear f1_ f2_ f3_;subst f4_;subst f5_))
                 have bz:0≤(aa:Int):=od_
                 have bA:aa<(ae.length:Int):=od_
                 obtain ⟨ap,ci,aU,aV,aW,aX⟩:=at_T72 (Kd.R_reads' ag.out).2.2 aa bz bA
                 cases ci
                 replace bz:=eq_true bz
                 replace bA:=eq_true bA
                 have hs6_0:wc.cell? ⟨ad,0,none⟩=some (.int .i64 al):=bk_ ab 0
                 have hs6_1:wc.cell? ⟨ad,1,none⟩=some (.string am):=bk_ ab 1
                 have hs6_2:wc.cell? ⟨ad,2,none⟩=some (.string an):=bk_ ab 2
                 have hs6_3:wc.cell? ⟨ad,3,none⟩=some (.bool ao):=bk_ ab 3
                 have hs6_4:wc.cell? (ap.add ((aa).toNat * 4))=some (.int .i64 ((rd_T72 ae aa).f0)):=aU
                 have hs6_5:wc.cell? ⟨(ap.add ((aa).toNat * 4)).block,(ap.add ((aa).toNat * 4)).off + 1,none⟩=some (.string ((rd_T72 ae aa).f1)):=aV
                 have hs6_6:wc.cell? ⟨(ap.add ((aa).toNat * 4)).block,(ap.add ((aa).toNat * 4)).off + 2,none⟩=some (.string ((rd_T72 ae aa).f2)):=aW
                 have hs6_7:wc.cell? ⟨(ap.add ((aa).toNat * 4)).block,(ap.add ((aa).toNat * 4)).off + 3,none⟩=some (.bool ((rd_T72 ae aa).f3)):=aX
                 go_quiet (fail)
                 clear hs6_0 hs6_1 hs6_2 hs6_3 hs6_4 hs6_5 hs6_6 hs6_7
                 generalize hq_:World.drewN wc _=dW
                 replace ag:=mk0 (Kd.R_at hq_ ag.out)
                 replace ac:=mk0 (blk_at hq_ ac.out)
                 replace ab:=mk0 (blk_at hq_ ab.out)
                 replace HB:=mk0 (below_at hq_ HB.out)
                 try replace aU:=cell_at hq_ aU
                 try replace aV:=cell_at hq_ aV
                 try replace aW:=cell_at hq_ aW
                 try replace aX:=cell_at hq_ aX
                 clear hq_
                 try go_wp2
                 go_meet
                 case rel=>exact ⟨_,(false),sm_,H',⟨by have:=bh.out;have:=bi.out;have:=bg.out;first|omega|exact Nat.le_refl _⟩,⟨r2_ ag.out⟩,⟨h_ ac⟩,⟨h_ ab⟩,⟨b_ HB⟩⟩
               ·rw [if_neg cw] at H
                exact absurd H (by simp)
              ·rw [if_neg ca] at H
               have bx:=decide_eq_false ca
               clear ca
               (first|rw [bx]|(simp only [i64_w,i32_w];rw [bx])|skip)
               have H':=mk0 H
               clear H
               try go_wp2
               obtain ⟨dO,dP,cI⟩:=Kd.R_slice ag.out
               (first|subst cI|(injection cI with f1_ f2_ f3_;have f4_:=f1_.symm;have f5_:=f3_.symm;clear f1_ f2_ f3_;subst f4_;subst f5_))
               go_quiet (fail)
               generalize hq_:World.drewN wc _=dX
               replace ag:=mk0 (Kd.R_at hq_ ag.out)
               replace ac:=mk0 (blk_at hq_ ac.out)
               replace ab:=mk0 (blk_at hq_ ab.out)
               replace HB:=mk0 (below_at hq_ HB.out)
               clear hq_
               try go_wp2
               go_meet
               case rel=>exact ⟨_,(false),sm_,H',⟨by have:=bh.out;have:=bi.out;have:=bg.out;first|omega|exact Nat.le_refl _⟩,⟨r2_ ag.out⟩,⟨h_ ac⟩,⟨h_ ab⟩,⟨b_ HB⟩⟩
             case rest=>
              clear HC29
              try clear c3
              obtain ⟨kq,bl,rfl,HA,b4,ag,ac,ab,HB⟩:=hcut
              cases kq with
              | zero=>exact absurd HA.out (by simp [Fb.j3])
              | succ bf=>
               have H:=HA.out
               clear HA
               simp only [Fb.j3] at H
               as_aux_lemma=>
                by_cases cx:bl=true
                ·subst cx
                 rw [if_pos rfl] at H
                 have H':=mk0 H
                 clear H
                 go_wp2
                 go_roundg bf
                 case measure=>have:=bh.out;have:=bi.out;have:=bg.out;have:=b4.out;omega
                 case rel=>exact ⟨(ae),(wrap64 (af + 1)),sm_,H',⟨by have:=bh.out;have:=bi.out;have:=bg.out;have:=b4.out;omega⟩,⟨rM_ ag⟩,⟨h_ ac⟩,⟨b_ HB⟩⟩
                ·replace cx:=Bool.eq_false_iff.mpr cx
                 subst cx
                 rw [if_neg nf_] at H
                 by_cases cl:0≤aa
                 ·rw [if_pos cl] at H
                  have dt:=eq_true cl
                  have du:=decide_eq_true cl
                  clear cl
                  by_cases cm:aa≤(ae.length:Int)
                  ·rw [if_pos cm] at H
                   have dv:=eq_true cm
                   have dw:=decide_eq_true cm
                   clear cm
                   obtain ⟨bF,bU⟩:∃ y_:List (S72),y_=(ae.take (aa:Int).toNat):=⟨_,rfl⟩
                   replace H:((FA.f bf bF).bind fun a3=>((some (([(⟨al,am,an,ao⟩:S72)]:List (S72)):List (S72))).bind fun aZ=>(if a3.length + aZ.length<2932031007402 then ((some (a3 ++ aZ:List (S72))).bind fun a2=>((some (ae.drop (aa:Int).toNat:List (S72))).bind fun ay=>(if a2.length + ay.length<2932031007402 then (Fb.l0 bf (a2 ++ ay) (wrap64 (af + 1)) l0_0 l0_1) else (none)))) else (none))))=some r:=rp_ H bU
                   have cn:=mk0 bU
                   clear bU
                   replace H:=ob_ H
                   obtain ⟨a3,df,H⟩:=H
                   try dsimp only at H
                   obtain ⟨aZ,bV⟩:∃ y_:List (S72),y_=(([(⟨al,am,an,ao⟩:S72)]:List (S72))):=⟨_,rfl⟩
                   replace H:(if a3.length + aZ.length<2932031007402 then ((some (a3 ++ aZ:List (S72))).bind fun a2=>((some (ae.drop (aa:Int).toNat:List (S72))).bind fun ay=>(if a2.length + ay.length<2932031007402 then (Fb.l0 bf (a2 ++ ay) (wrap64 (af + 1)) l0_0 l0_1) else (none)))) else (none))=some r:=rp_ H bV
                   have bK:=mk0 bV
                   clear bV
                   by_cases cy:a3.length + aZ.length<2932031007402
                   ·rw [if_pos cy] at H
                    have LMc43:=mk0 cy
                    clear cy
                    obtain ⟨a2,bW⟩:∃ y_:List (S72),y_=(a3 ++ aZ):=⟨_,rfl⟩
                    replace H:((some (ae.drop (aa:Int).toNat:List (S72))).bind fun ay=>(if a2.length + ay.length<2932031007402 then (Fb.l0 bf (a2 ++ ay) (wrap64 (af + 1)) l0_0 l0_1) else (none)))=some r:=rp_ H bW
                    have cU:=mk0 bW
                    clear bW
                    have dx:=eq_true (od_:0≤aa)
                    have dy:=eq_true (od_:aa≤(ae.length:Int))
                    obtain ⟨ay,bX⟩:∃ y_:List (S72),y_=(ae.drop (aa:Int).toNat):=⟨_,rfl⟩
                    replace H:(if a2.length + ay.length<2932031007402 then (Fb.l0 bf (a2 ++ ay) (wrap64 (af + 1)) l0_0 l0_1) else (none))=some r:=rp_ H bX
                    have bY:=mk0 bX
                    clear bX
                    by_cases cz:a2.length + ay.length<2932031007402
                    ·rw [if_pos cz] at H
                     have LMc46:=mk0 cz
                     clear cz
                     obtain ⟨cJ,bZ⟩:∃ y_:List (S72),y_=(a2 ++ ay):=⟨_,rfl⟩
                     replace H:(Fb.l0 bf cJ (wrap64 (af + 1)) l0_0 l0_1)=some r:=rp_ H bZ
                     have cV:=mk0 bZ
                     clear bZ
                     have H':=mk0 H
                     clear H
                     try go_wp2
                     replace ag:=mk0 (Rd_ ag.out)
                     replace ac:=mk0 (bD_ ac.out)
                     replace ab:=mk0 (bD_ ab.out)
                     replace HB:=mk0 (b1_ HB.out)
                     obtain ⟨aM,az,cK⟩:=Kd.R_slice ag.out
                     (first|subst cK|(injection cK with f1_ f2_ f3_;have f4_:=f1_.symm;have f5_:=f3_.symm;clear f1_ f2_ f3_;subst f4_;subst f5_))
                     have cW:(aa:Int)≤((ae.length:Int):Int):=od_
                     obtain ⟨i048,hi048,_,hsz48,_⟩:=info_parts info72
                     have hroom48:ae.length≤az:=(Kd.R_reads' ag.out).2.1
                     have hC48:Kd.C k72 _ aM ae.length ae:=(Kd.R_reads' ag.out).2.2
                     have hcut48:=cut_to (P:=Tryz.prog) 32 72 .i64 Tryz.underlying32 hi048 aM ae.length az aa od_ cW hroom48
                     have hr48:=Kd.C_take (m:=(aa:Int).toNat) hC48 (by omega)
                     have co:bF.length=(aa:Int).toNat:=(by rw [cn.out,List.length_take];omega)
                     rw [← cn.out] at hr48
                     rw [← co] at hcut48
                     have HR242:=mk0 hr48
                     have HC242:=mk0 (show bF.length≤az from by omega)
                     clear hr48 hC48 hroom48 hi048 hsz48
                     have KY48:=mk0 co
                     clear co
                     have KL48:=mk0 (show (aa:Int).toNat≤ae.length from by omega)
                     replace cW:=eq_true cW
                     have cX:(aa:Int)≤((ae.length:Int):Int):=od_
                     obtain ⟨i050,hi050,_,hsz50,_⟩:=info_parts info72
                     have hroom50:ae.length≤az:=(Kd.R_reads' ag.out).2.1
                     have hC50:Kd.C k72 _ aM ae.length ae:=(Kd.R_reads' ag.out).2.2
                     have dg:(0:Int)≤(aa:Int):=od_
                     have hcut50:=cut_from (P:=Tryz.prog) 32 72 .i64 Tryz.underlying32 hi050 4 hsz50 aM ae.length az aa dg cX
                     have hr50:=Kd.C_drop (m:=(aa:Int).toNat) (c:=az) hC50 (by omega) hroom50
                     obtain ⟨dh,hA50⟩:∃ A1,A1=(if az=(aa:Int).toNat then aM else (aM:Option Addr).map (·.add ((aa:Int).toNat * 4))):=⟨_,rfl⟩
                     obtain ⟨dz,hc50⟩:∃ c1,c1=az - (aa:Int).toNat:=⟨_,rfl⟩
                     have b5:ay.length=ae.length - (aa:Int).toNat:=(by rw [bY.out,List.length_drop] <;> omega)
                     rw [show (ae).drop (aa:Int).toNat=ay from bY.out.symm] at hr50
                     replace hr50:Kd.C k72 _ dh ay.length ay:=(by rw [hA50];exact hr50)
                     rw [← b5,← hA50,← hc50] at hcut50
                     have HR255:=mk0 hr50
                     have HC255:=mk0 (show ay.length≤dz from by rw [b5,hc50];exact Nat.sub_le_sub_right hroom50 _)
                     clear hr50 hC50 hroom50 hi050 hsz50 hc50
                     have KY50:=mk0 b5
                     have KA50:=mk0 hA50
                     clear b5 hA50
                     have KL50:=mk0 (show (aa:Int).toNat≤ae.length from by omega)
                     replace cX:=eq_true cX
                     refine start_ (n:=12) (S:=fun w'=>w'.cell? ⟨ad,0,none⟩=some (.int .i64 al)∧w'.cell? ⟨ad,1,none⟩=some (.string am)∧w'.cell? ⟨ad,2,none⟩=some (.string an)∧w'.cell? ⟨ad,3,none⟩=some (.bool ao)) (ds:=[]) (bt 12 0) (by kernel_rfl) rfl rfl ⟨bk_ ab 0,bk_ ab 1,bk_ ab 2,bk_ ab 3⟩ (fun hHeld=>?_);refine with_tabW Fb.tab10 Fb.bits10 (fun HT_ HW_=>?_)
                     generalize wc.drew=dY at ag ac ab HB HR242 HR255 hHeld ⊢
                     refine pq_ HT_.out 0 92 (bt 12 1) (h:=?_)
                     refine pq_ HT_.out 1 93 (bt 12 3) (h:=?_)
                     refine pq_ HT_.out 2 94 (bt 12 7) (h:=?_)
                     refine pq_ HT_.out 7 99 (bt 12 135) (h:=?_)
                     refine pq_ HT_.out 8 100 (bt 12 391) (h:=?_)
                     refine pq_ HT_.out 9 101 (bt 12 903) (h:=?_)
                     refine tq4_ HT_.out HW_.out 4 96 (bt 12 919) hHeld (h:=?_)
                     refine join_ (σ:=Value×Value) 3 (bt 12 959) (fun s_=>[(95,s_.1),(97,s_.2)]) (fun s_ w'=>(w'.cell? ⟨ad,0,none⟩=some (.int .i64 al)∧w'.cell? ⟨ad,1,none⟩=some (.string am)∧w'.cell? ⟨ad,2,none⟩=some (.string an)∧w'.cell? ⟨ad,3,none⟩=some (.bool ao))∧(Kd.R k72 72 w' w.heap.size (fun k_=>some k_≠(s_.2:Value).ownBlock∧some k_≠(.slice aM ae.length az:Value).ownBlock∧k_≠ad) s_.1 a3)∧(Kd.R k72 72 w' w.heap.size (fun k_=>some k_≠(s_.1:Value).ownBlock∧some k_≠(.slice aM ae.length az:Value).ownBlock∧k_≠ad) s_.2 aZ)∧(Kd.R k72 72 w' w.heap.size (fun k_=>some k_≠(s_.1:Value).ownBlock∧some k_≠(s_.2:Value).ownBlock∧k_≠ad) (.slice aM ae.length az) ae)∧(w'.heap[aq]? = some (.cells #[.slice (some ah) l0_0.length c0_0,.slice A0_1 l0_1.length c0_1] 34 (0,0)))∧(w'.heap[ad]? = some (.cells #[.int .i64 al,.string am,.string an,.bool ao] 72 (0,0)))∧(Below w.heap.size w w')) ?_ ?_
                     rotate_left
                     ·intro hCont
                      refine two_ (i:=3) (j:=5) (Ni:=some 95) (Nj:=some 97) (bt 12 927) (bt 12 951) rfl rfl rfl rfl (two_of HT_.out (by kernel_rfl)) (by decide) (by decide) (fun K hK=>?_) (fun K hK=>?_)
                      ·skip
                       refine goes_ Tryz.func29 (by kernel_rfl) rfl #[.slice aM bF.length az] (by rfl) rfl rfl gs_ ?_
                       with_reducible refine (FA.calls bf _ _ bF a3 _ ?side1 ?side2 df.out).mono ?_
                       (case side1=>repeat (first|exact (by repeat (first|(with_reducible exact HR242.out)|(with_reducible refine Kd.C_alloc ?_ _)|(with_reducible refine Kd.C_drewN ?_ _)|(with_reducible refine Kd.C_drew ?_)|exact HR242.out))|(with_reducible refine Kd.C_alloc ?_ _)|(with_reducible refine Kd.C_drewN ?_ _)|(with_reducible refine Kd.C_drew ?_)))
                       (case side2=>exact HC242.out)
                       rintro e dA ⟨bj,rfl,ho0,hb⟩
                       refine ⟨_,rfl,?_⟩
                       have bo:=mk0 (Kd.R_lower (Kd.R_newB (Kd.R_new' ho0 (Kd.R_lt (r_ ag))) (g:=ad) (o:=.cells #[.int .i64 al,.string am,.string an,.bool ao] 72 (0,0)) (h_ ab)) (bz_ (b_ HB)))
                       replace ag:=mk0 (Kd.R_elder' (r_ ag) (Kd.R_base ho0) hb)
                       replace ac:=mk0 (u_ ac hb)
                       replace ab:=mk0 (u_ ab hb)
                       replace HR242:=mk0 (Kd.C_below (by (with_reducible repeat (first|refine Kd.C_drewN ?_ _|refine Kd.C_drew ?_|refine Kd.C_alloc ?_ _));exact HR242.out) hb)
                       replace HR255:=mk0 (Kd.C_below (by (with_reducible repeat (first|refine Kd.C_drewN ?_ _|refine Kd.C_drew ?_|refine Kd.C_alloc ?_ _));exact HR255.out) hb)
                       replace HB:=mk0 (bt_ (b_ HB) hb)
                       have aY:=bo
                       clear bo
                       (try clear hb)
                       (try clear hk)
                       (try clear hi)
                       (try clear ho0)
                       refine hK.out _ _ ⟨bk_ ab 0,bk_ ab 1,bk_ ab 2,bk_ ab 3⟩ (fun hHeld=>?_)
                       clear hK K
                       refine norm_ (a':=?_) ?_ ?_
                       rotate_left
                       ·show Act.put _ (some 95) _=_
                        simp only [z_]
                        rfl
                       refine one_ (i:=5) (N:=some 97) (bt 12 959) rfl rfl (one_of HT_.out (by kernel_rfl)) (by decide) (fun K hK=>?_)
                       refine Kd.R_lit_step k72 _ 72 ?hg (N:=97) ?hd (xs:=([(⟨al,am,an,ao⟩:S72)]:List (S72))) (inner:=[.int .i64 al,.string am,.string an,.bool ao]) (ok:=fun _=>True) (okp:=fun _=>True) ?hr ?hp (fun _ hk=>hk) trivial (Below.refl _ _) (Nat.le_refl _) (by simp) ?_;(case hd=>rfl);(case hg=>rfl);(case hr=>first|(go_simp;done)|(go_simp;rfl));(case hp=>exact (Reps.c4 (show Kd.M k72 _ _ _ (⟨al,am,an,ao⟩:S72) [.int .i64 al,.string am,.string an,.bool ao] from (k72_mkM _ _ _ (⟨al,am,an,ao⟩:S72) )) (Reps.none _ _)))
                       intro bG dZ ho53 hb hg_ hnew_
                       clear hg_ hnew_
                       (first|rw [← bK.out] at ho53|(simp only [Int.reduceToNat] at ho53;rw [← bK.out] at ho53))
                       have ny2_:=mk0 (Kd.R_lower (Kd.R_newB (Kd.R_new' (Kd.R_new' ho53 (Kd.R_lt (r_ ag))) (Kd.R_lt (r_ aY))) (g:=ad) (o:=.cells #[.int .i64 al,.string am,.string an,.bool ao] 72 (0,0)) (h_ ab)) (bz_ (b_ HB)))
                       replace ag:=mk0 (Kd.R_elder' (r_ ag) (Kd.R_base ho53) hb)
                       replace aY:=mk0 (Kd.R_elder' (r_ aY) (Kd.R_base ho53) hb)
                       replace ac:=mk0 (u_ ac hb)
                       replace ab:=mk0 (u_ ab hb)
                       replace HR242:=mk0 (Kd.C_below (by (with_reducible repeat (first|refine Kd.C_drewN ?_ _|refine Kd.C_drew ?_|refine Kd.C_alloc ?_ _));exact HR242.out) hb)
                       replace HR255:=mk0 (Kd.C_below (by (with_reducible repeat (first|refine Kd.C_drewN ?_ _|refine Kd.C_drew ?_|refine Kd.C_alloc ?_ _));exact HR255.out) hb)
                       replace HB:=mk0 (bt_ (b_ HB) hb)
                       have aA:=ny2_
                       clear ny2_ hb ho53
                       refine hK.out _ _ ⟨bk_ ab 0,bk_ ab 1,bk_ ab 2,bk_ ab 3⟩ (fun hHeld=>?_)
                       clear hK K
                       refine norm_ (a':=?_) ?_ ?_
                       rotate_left
                       ·show Act.put _ (some 97) _=_
                        simp only [z_]
                        rfl
                       exact norm_ (by simp only [putAll,Act.put,List.setIfInBounds_toArray,List.set_cons_zero,List.set_cons_succ]) (hCont (bj,bG) _ ⟨hHeld,(r2_ (Kd.R_mono aY.out (fun _ hk=>⟨hk.2,⟨hk.1.1.2,hk.1.2⟩⟩))),(r2_ (Kd.R_mono aA.out (fun _ hk=>⟨hk.1.2,⟨hk.1.1.2,hk.2⟩⟩))),(r2_ (Kd.R_mono ag.out (fun _ hk=>⟨hk.1.2,⟨hk.2,hk.1.1⟩⟩))),(h_ ac),(h_ ab),(b_ HB)⟩)
                      ·skip
                       refine Kd.R_lit_step k72 _ 72 ?hg (N:=97) ?hd (xs:=([(⟨al,am,an,ao⟩:S72)]:List (S72))) (inner:=[.int .i64 al,.string am,.string an,.bool ao]) (ok:=fun _=>True) (okp:=fun _=>True) ?hr ?hp (fun _ hk=>hk) trivial (Below.refl _ _) (Nat.le_refl _) (by simp) ?_;(case hd=>rfl);(case hg=>rfl);(case hr=>first|(go_simp;done)|(go_simp;rfl));(case hp=>exact (Reps.c4 (show Kd.M k72 _ _ _ (⟨al,am,an,ao⟩:S72) [.int .i64 al,.string am,.string an,.bool ao] from (k72_mkM _ _ _ (⟨al,am,an,ao⟩:S72) )) (Reps.none _ _)))
                       intro bG dA ho52 hb hg_ hnew_
                       clear hg_ hnew_
                       (first|rw [← bK.out] at ho52|(simp only [Int.reduceToNat] at ho52;rw [← bK.out] at ho52))
                       have bo:=mk0 (Kd.R_lower (Kd.R_newB (Kd.R_new' ho52 (Kd.R_lt (r_ ag))) (g:=ad) (o:=.cells #[.int .i64 al,.string am,.string an,.bool ao] 72 (0,0)) (h_ ab)) (bz_ (b_ HB)))
                       replace ag:=mk0 (Kd.R_elder' (r_ ag) (Kd.R_base ho52) hb)
                       replace ac:=mk0 (u_ ac hb)
                       replace ab:=mk0 (u_ ab hb)
                       replace HR242:=mk0 (Kd.C_below (by (with_reducible repeat (first|refine Kd.C_drewN ?_ _|refine Kd.C_drew ?_|refine Kd.C_alloc ?_ _));exact HR242.out) hb)
                       replace HR255:=mk0 (Kd.C_below (by (with_reducible repeat (first|refine Kd.C_drewN ?_ _|refine Kd.C_drew ?_|refine Kd.C_alloc ?_ _));exact HR255.out) hb)
                       replace HB:=mk0 (bt_ (b_ HB) hb)
                       have aA:=bo
                       clear bo hb ho52
                       refine hK.out _ _ ⟨bk_ ab 0,bk_ ab 1,bk_ ab 2,bk_ ab 3⟩ (fun hHeld=>?_)
                       clear hK K
                       refine norm_ (a':=?_) ?_ ?_
                       rotate_left
                       ·show Act.put _ (some 97) _=_
                        simp only [z_]
                        rfl
                       refine one_ (i:=3) (N:=some 95) (bt 12 959) rfl rfl (one_of HT_.out (by kernel_rfl)) (by decide) (fun K hK=>?_)
                       refine goes_ Tryz.func29 (by kernel_rfl) rfl #[.slice aM bF.length az] (by rfl) rfl rfl gs_ ?_
                       with_reducible refine (FA.calls bf _ _ bF a3 _ ?side1 ?side2 df.out).mono ?_
                       (case side1=>repeat (first|exact (by repeat (first|(with_reducible exact HR242.out)|(with_reducible refine Kd.C_alloc ?_ _)|(with_reducible refine Kd.C_drewN ?_ _)|(with_reducible refine Kd.C_drew ?_)|exact HR242.out))|(with_reducible refine Kd.C_alloc ?_ _)|(with_reducible refine Kd.C_drewN ?_ _)|(with_reducible refine Kd.C_drew ?_)))
                       (case side2=>exact HC242.out)
                       rintro e d0 ⟨bj,rfl,ho0,hb⟩
                       refine ⟨_,rfl,?_⟩
                       have ny2_:=mk0 (Kd.R_lower (Kd.R_newB (Kd.R_new' (Kd.R_new' ho0 (Kd.R_lt (r_ ag))) (Kd.R_lt (r_ aA))) (g:=ad) (o:=.cells #[.int .i64 al,.string am,.string an,.bool ao] 72 (0,0)) (h_ ab)) (bz_ (b_ HB)))
                       replace ag:=mk0 (Kd.R_elder' (r_ ag) (Kd.R_base ho0) hb)
                       replace aA:=mk0 (Kd.R_elder' (r_ aA) (Kd.R_base ho0) hb)
                       replace ac:=mk0 (u_ ac hb)
                       replace ab:=mk0 (u_ ab hb)
                       replace HR242:=mk0 (Kd.C_below (by (with_reducible repeat (first|refine Kd.C_drewN ?_ _|refine Kd.C_drew ?_|refine Kd.C_alloc ?_ _));exact HR242.out) hb)
                       replace HR255:=mk0 (Kd.C_below (by (with_reducible repeat (first|refine Kd.C_drewN ?_ _|refine Kd.C_drew ?_|refine Kd.C_alloc ?_ _));exact HR255.out) hb)
                       replace HB:=mk0 (bt_ (b_ HB) hb)
                       have aY:=ny2_
                       clear ny2_
                       (try clear hb)
                       (try clear hk)
                       (try clear hi)
                       (try clear ho0)
                       refine hK.out _ _ ⟨bk_ ab 0,bk_ ab 1,bk_ ab 2,bk_ ab 3⟩ (fun hHeld=>?_)
                       clear hK K
                       refine norm_ (a':=?_) ?_ ?_
                       rotate_left
                       ·show Act.put _ (some 95) _=_
                        simp only [z_]
                        rfl
                       exact norm_ (by simp only [putAll,Act.put,List.setIfInBounds_toArray,List.set_cons_zero,List.set_cons_succ]) (hCont (bj,bG) _ ⟨hHeld,(r2_ (Kd.R_mono aY.out (fun _ hk=>⟨hk.1.2,⟨hk.1.1.2,hk.2⟩⟩))),(r2_ (Kd.R_mono aA.out (fun _ hk=>⟨hk.2,⟨hk.1.1.2,hk.1.2⟩⟩))),(r2_ (Kd.R_mono ag.out (fun _ hk=>⟨hk.2,⟨hk.1.2,hk.1.1⟩⟩))),(h_ ac),(h_ ab),(b_ HB)⟩)
                     rintro ⟨bj,bG⟩ bH ⟨hS_,h0_,h1_,h2_,h3_,h4_,h5_⟩
                     have ce:Fc (Kd.R k72 72 bH w.heap.size (fun k_=>some k_≠(bG:Value).ownBlock∧some k_≠(.slice aM ae.length az:Value).ownBlock∧k_≠ad) bj a3):=⟨h0_⟩
                     have bo:Fc (Kd.R k72 72 bH w.heap.size (fun k_=>some k_≠(bj:Value).ownBlock∧some k_≠(.slice aM ae.length az:Value).ownBlock∧k_≠ad) bG aZ):=⟨h1_⟩
                     have ny2_:Fc (Kd.R k72 72 bH w.heap.size (fun k_=>some k_≠(bj:Value).ownBlock∧some k_≠(bG:Value).ownBlock∧k_≠ad) (.slice aM ae.length az) ae):=⟨h2_⟩
                     have bM:Fc (bH.heap[aq]? = some (.cells #[.slice (some ah) l0_0.length c0_0,.slice A0_1 l0_1.length c0_1] 34 (0,0))):=⟨h3_⟩
                     have bm:Fc (bH.heap[ad]? = some (.cells #[.int .i64 al,.string am,.string an,.bool ao] 72 (0,0))):=⟨h4_⟩
                     have bn:Fc (Below w.heap.size w bH):=⟨h5_⟩
                     clear ag ac ab HB h0_ h1_ h2_ h3_ h4_ h5_
                     have aY:=ce
                     have aA:=bo
                     have ag:=ny2_
                     have ac:=bM
                     have ab:=bm
                     have HB:=bn
                     clear ce bo ny2_ bM bm bn
                     have hHeld:bH.cell? ⟨ad,0,none⟩=some (.int .i64 al)∧bH.cell? ⟨ad,1,none⟩=some (.string am)∧bH.cell? ⟨ad,2,none⟩=some (.string an)∧bH.cell? ⟨ad,3,none⟩=some (.bool ao):=hS_
                     obtain ⟨b6,b7,cL⟩:=Kd.R_slice aA.out
                     (first|subst cL|(injection cL with f1_ f2_ f3_;have f4_:=f1_.symm;have f5_:=f3_.symm;clear f1_ f2_ f3_;subst f4_;subst f5_))
                     refine norm_ (a':=?_) ?_ ?_
                     rotate_left
                     ·simp only [putAll,Act.put,List.setIfInBounds_toArray,List.set_cons_zero,List.set_cons_succ]
                      rfl
                     refine one_ (i:=6) (N:=some 98) (bt 12 1023) rfl rfl (one_of HT_.out (by kernel_rfl)) (by decide) (fun K hK=>?_)
                     refine Kd.R_append_rows_step k72 (w0:=w) w.heap.size (by rfl) (.tmp 95) (.tmp 97) 32 72 (.agg #[(.int .i64 0),(.string ⟨#[]⟩),(.string ⟨#[]⟩),(.bool false)]) 48 rfl Tryz.underlying32 info72 rfl (by decide) (by omega) bj a3 aZ _ _ _ (fun k_=>some k_≠(.slice aM ae.length az:Value).ownBlock∧some k_≠(.slice b6 aZ.length b7:Value).ownBlock∧k_≠ad) (fun _=>False) rfl rfl ?aO ?aR (fun _ _ h=>h) (fun _ h=>h.elim) ?aF ?aB ?aS ?aL ?_
                     (case aR=>exact cr_ aA)
                     (case aB=>exact (b_ HB))
                     (case aF=>exact (fun k_ hk=>⟨Kd.fresh' (Kd.R_lt (r_ ag)) k_ hk,Kd.fresh' (Kd.R_lt (r_ aA)) k_ hk,Kd.freshB (g:=ad) (o:=.cells #[.int .i64 al,.string am,.string an,.bool ao] 72 (0,0)) (h_ ab) k_ hk⟩))
                     (case aO=>exact (r2_ (Kd.R_mono aY.out (fun _ hk=>⟨hk.2.1,⟨hk.1,hk.2.2⟩⟩))))
                     (case aS=>exact (bz_ (b_ HB)))
                     (case aL=>have:=LMc43.out;omega)
                     intro di dB ho hb hg hat
                     rw [← cU.out] at ho
                     replace ag:=mk0 (Kd.R_after (ok:=(fun k_=>some k_≠(.slice b6 aZ.length b7:Value).ownBlock∧k_≠ad)) (r2_ (Kd.R_mono ag.out (fun _ hk=>⟨⟨hk.2.1,hk.2.2⟩,hk.1⟩))) hg hat)
                     replace ac:=mk0 (blk_grown (g:=aq) (o:=.cells #[.slice (some ah) l0_0.length c0_0,.slice A0_1 l0_1.length c0_1] 34 (0,0)) (h_ ac) hg (Kd.R_ne aY.out ac.out (by decide)))
                     replace ab:=mk0 (blk_grown (g:=ad) (o:=.cells #[.int .i64 al,.string am,.string an,.bool ao] 72 (0,0)) (h_ ab) hg (Kd.R_away aY.out (fun _ hk=>hk.2.2)))
                     replace aA:=mk0 (Kd.R_after (ok:=(fun k_=>some k_≠(.slice aM ae.length az:Value).ownBlock∧k_≠ad)) (r2_ (Kd.R_mono aA.out (fun _ hk=>⟨⟨hk.2.1,hk.2.2⟩,hk.1⟩))) hg hat)
                     replace HB:=mk0 (hb)
                     have bL:=mk0 (ho)
                     clear aY
                     clear ho hb hg hat
                     refine hK.out _ _ ⟨bk_ ab 0,bk_ ab 1,bk_ ab 2,bk_ ab 3⟩ (fun hHeld=>?_)
                     clear hK K
                     refine norm_ (a':=?_) ?_ ?_
                     rotate_left
                     ·show Act.put _ (some 98) _=_
                      simp only [z_]
                      rfl
                     refine one_ (i:=10) (N:=some 102) (bt 12 2047) rfl rfl (one_of HT_.out (by kernel_rfl)) (by decide) (fun K hK=>?_)
                     refine Kd.R_append_rows_step k72 (w0:=w) w.heap.size (by rfl) (.tmp 98) (.tmp 101) 32 72 (.agg #[(.int .i64 0),(.string ⟨#[]⟩),(.string ⟨#[]⟩),(.bool false)]) 48 rfl Tryz.underlying32 info72 rfl (by decide) (by omega) di a2 ay _ _ _ (fun k_=>some k_≠(.slice aM ae.length az:Value).ownBlock∧some k_≠(.slice b6 aZ.length b7:Value).ownBlock∧k_≠ad) (fun _=>False) rfl rfl ?aO ?aR (fun _ _ h=>h) (fun _ h=>h.elim) ?aF ?aB ?aS ?aL ?_
                     (case aR=>repeat (first|exact (show Kd.C k72 dB dh ay.length ay from by rw [bY.out,KA50.out];exact Kd.C_drop (m:=(aa:Int).toNat) (c:=az) ((Kd.R_reads' (r_ ag)).2.2) KL50.out ((Kd.R_reads' ag.out).2.1))|(with_reducible refine Kd.C_alloc ?_ _)|(with_reducible refine Kd.C_drewN ?_ _)|(with_reducible refine Kd.C_drew ?_)))
                     (case aB=>exact (b_ HB))
                     (case aF=>exact (fun k_ hk=>⟨Kd.fresh' (Kd.R_lt (r_ ag)) k_ hk,Kd.fresh' (Kd.R_lt (r_ aA)) k_ hk,Kd.freshB (g:=ad) (o:=.cells #[.int .i64 al,.string am,.string an,.bool ao] 72 (0,0)) (h_ ab) k_ hk⟩))
                     (case aO=>exact (r_ bL))
                     (case aS=>exact (bz_ (b_ HB)))
                     (case aL=>have:=LMc46.out;omega)
                     intro dQ d1 ho hb hg hat
                     rw [← cV.out] at ho
                     replace ag:=mk0 (Kd.R_after (ok:=(fun k_=>some k_≠(.slice b6 aZ.length b7:Value).ownBlock∧k_≠ad)) (r_ ag) hg hat)
                     replace ac:=mk0 (blk_grown (g:=aq) (o:=.cells #[.slice (some ah) l0_0.length c0_0,.slice A0_1 l0_1.length c0_1] 34 (0,0)) (h_ ac) hg (Kd.R_ne bL.out ac.out (by decide)))
                     replace ab:=mk0 (blk_grown (g:=ad) (o:=.cells #[.int .i64 al,.string am,.string an,.bool ao] 72 (0,0)) (h_ ab) hg (Kd.R_away bL.out (fun _ hk=>hk.2.2)))
                     replace aA:=mk0 (Kd.R_after (ok:=(fun k_=>some k_≠(.slice aM ae.length az:Value).ownBlock∧k_≠ad)) (r_ aA) hg hat)
                     replace HB:=mk0 (hb)
                     have cY:=mk0 (ho)
                     clear bL
                     clear ho hb hg hat
                     refine hK.out _ _ ⟨bk_ ab 0,bk_ ab 1,bk_ ab 2,bk_ ab 3⟩ (fun hHeld=>?_)
                     clear hK K
                     refine norm_ (a':=?_) ?_ ?_
                     rotate_left
                     ·show Act.put _ (some 102) _=_
                      simp only [z_]
                      rfl
                     refine pq_ HT_.out 11 3 (bt 12 4095) (h:=?_)
                     refine done_ (done_of HT_.out (by kernel_rfl)) ?_
                     try go_wp2
                     go_roundg bf
                     case measure=>have:=bh.out;have:=bi.out;have:=bg.out;have:=b4.out;omega
                     case rel=>exact ⟨(cJ),(wrap64 (af + 1)),sm_,H',⟨by have:=bh.out;have:=bi.out;have:=bg.out;have:=b4.out;omega⟩,⟨rM_ cY⟩,⟨h_ ac⟩,⟨b_ HB⟩⟩
                    ·rw [if_neg cz] at H
                     exact absurd H (by simp)
                   ·rw [if_neg cy] at H
                    exact absurd H (by simp)
                  ·rw [if_neg cm] at H
                   exact absurd H (by simp)
                 ·rw [if_neg cl] at H
                  exact absurd H (by simp)
     ·rw [if_neg c4] at H
      exact absurd H (by simp)
    ·rw [if_neg c3] at H
     have cA:=decide_eq_false c3
     clear c3
     obtain rfl:=Option.some.inj H
     obtain ⟨dj,dk,dl,dm⟩:=c2_ ac
     go_wp2
     go_ret
     exact ⟨_,sa_,by (with_reducible repeat (first|apply Ra_|apply Rn_|apply Rd_));exact ag.out,b_ HB⟩
end Go.Proofs.YtbaecdcfefmcgaaGreat.PVrd
