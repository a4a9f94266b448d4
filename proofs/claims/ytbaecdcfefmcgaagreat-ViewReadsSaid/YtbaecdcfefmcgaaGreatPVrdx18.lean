import Derived.Test.YtbaecdcfefmcgaaGreatPVrdx0
import Derived.Test.YtbaecdcfefmcgaaGreatPVrdx16
import Derived.Test.YtbaecdcfefmcgaaGreatPVrdx17
import Derived.Test.YtbaecdcfefmcgaaGreatHSome
import Derived.Test.YtbaecdcfefmcgaaGreatHDelete
import Derived.Test.YtbaecdcfefmcgaaGreatShelfP
namespace Go.Proofs.YtbaecdcfefmcgaaGreat.PVrd
open Go.RowKit Go.Proofs.YtbaecdcfefmcgaaGreatW.PrintWords Go.Proofs.YtbaecdcfefmcgaaGreatW.PrintLast Go.Proofs.YtbaecdcfefmcgaaGreatW.PrintMore
attribute [local go_sem] max2_int min2_int max_two min_two max_three min_three max_four min_four
set_option maxHeartbeats 8000000
set_option maxRecDepth 100000
set_option linter.unusedVariables false
set_option linter.unusedSimpArgs false
def FF.cmp (a b:ByteArray):Int:=Lib.compareBytes a.data.toList b.data.toList
def FF.bs (l:List (S50)) (k:ByteArray):Nat→Nat→Nat→Nat
 | 0,i,_=>i
 | f + 1,i,j=>if i<j then (if FF.cmp (rd_T50 l (((i + j) / 2:Nat):Int)).f0 k<0 then FF.bs l k f ((i + j) / 2 + 1) j else FF.bs l k f i ((i + j) / 2)) else i
def FF.f (l0:List (S50)) (a1:ByteArray):Option (Int×Bool):=
 some ((FF.bs l0 a1 l0.length 0 l0.length:Nat),decide (FF.bs l0 a1 l0.length 0 l0.length<l0.length) && (FF.cmp (rd_T50 l0 ((FF.bs l0 a1 l0.length 0 l0.length:Nat):Int)).f0 a1 == 0))
theorem FF.clo (s t:ByteArray) (k:ByteArray) (W:World):Calls Tryz.prog 71 #[.agg #[.string s,.string t],.string k] W fun e W'=>e = .returned (.int .i64 (FF.cmp s k))∧Below W.heap.size W W':=by
 have hcmp:=fun W'=>Go.Proofs.Any.strings_Compare Tryz.strCmp s k W'
 change ∀ W',Calls Tryz.prog 72 _ _ _ at hcmp
 unfold FF.cmp
 generalize Lib.compareBytes s.data.toList k.data.toList=q at hcmp ⊢
 have HB:=Aside0.mk (Below.refl W.heap.size W)
 go_enter Tryz.func71,Tryz.ntmps71
 go_wp2_with (first|(go_at_call 72;refine (hcmp _).mono ?_;rintro e w' ⟨rfl,rfl⟩)|go_in)
 go_ret
 exact ⟨rfl,by repeat (first|(with_reducible first|exact HB.out|apply bL_|apply pN_|apply b1_)|exact HB.out)⟩
set_option maxHeartbeats 4000000 in
set_option maxRecDepth 100000 in
theorem FF.calls (A0:Option Addr) (c0:Nat) (l0:List (S50)) (a1:ByteArray) (r1:Int) (r2:Bool) (w:World) (hr0:Kd.C k50 w A0 l0.length l0) (hc0:l0.length≤c0) (h:FF.f l0 a1=some (r1,r2)) :
 Calls Tryz.prog 70 #[.slice A0 l0.length c0,.string a1,.func (Fn.func 71) #[] #[]] w fun e w'=>e = .returned (.tuple #[.int .i64 r1,.bool r2])∧Below w.heap.size w w':=by
 have hlen:=hr0.2.1
 have eg:∀ args w,(callFunc 71 args).run Tryz.prog w = .ok (.enter 71 args) w:=enters_of Tryz.func71 (by kernel_rfl) rfl
 have HR0:=Aside0.mk hr0
 have HC0:=Aside0.mk hc0
 have HL:=Aside0.mk hlen
 have HH:=Aside0.mk h
 clear hr0 hc0 h hlen
 have HP:=Aside0.mk (FF.clo)
 have HB:=Aside0.mk (Below.refl w.heap.size w)
 go_enter Tryz.func70,Tryz.ntmps70
 go_wp2
 go_loopg [9,10] l0.length (fun kq v9 v10 w'=>∃ (i j:Nat),v9 = .int .i64 i∧v10 = .int .i64 j∧Aside0 (i≤j∧j≤l0.length)∧Aside0 (j - i≤kq)∧Aside0 (FF.bs l0 a1 kq i j=FF.bs l0 a1 l0.length 0 l0.length)∧Aside0 (Below w.heap.size w w'))
 case atStart=>exact ⟨0,l0.length,rfl,rfl,⟨by omega,by omega⟩,⟨by omega⟩,⟨rfl⟩,HB⟩
 case round=>
  clear HB
  obtain ⟨i,j,rfl,rfl,HI,HK,HS,HB⟩:=hrel
  by_cases hij:i<j
  ·cases gk with
   | zero=>exact absurd HK.out (by omega)
   | succ k1=>
    have hi2:=HI.out
    have hl2:=HL.out
    have hm:wrap64 (IntKind.u64.wrap (wrap64 ((i:Int) + (j:Int))) / 2)=(((i + j) / 2:Nat):Int):=by
     have e:IntKind.u64.wrap (wrap64 ((i:Int) + (j:Int)))=(i:Int) + (j:Int):=by
      simp only [IntKind.wrap,IntKind.signed,IntKind.bits]
      unfold wrap64
      simp
      omega
     rw [e]
     unfold wrap64
     omega
    obtain ⟨m,hmd⟩:∃ m,m=(i + j) / 2:=⟨_,rfl⟩
    rw [← hmd] at hm
    have aa:(0:Int)≤(m:Int):=by omega
    have ab:(m:Int)<(l0.length:Int):=by omega
    obtain ⟨ad,e1,hx0,hx1⟩:=at_T50 HR0.out (m:Int) aa ab
    cases e1
    replace hx0:=(HB.out.cell (World.block_lt_of_cell? w _ hx0)).trans hx0
    replace hx1:=(HB.out.cell (World.block_lt_of_cell? w _ hx1)).trans hx1
    have hcall:=HP.out (rd_T50 l0 (m:Int)).f0 (rd_T50 l0 (m:Int)).f1 a1 wr
    have HM:=Aside0.mk hmd
    have HJ:=Aside0.mk hij
    clear hi2 hl2 hmd
    simp only [Int.toNat_natCast] at hx0 hx1
    go_wp2_with ((with_reducible refine hcall.mono ?_);rintro e w' ⟨rfl,hb'⟩)
    all_goals go_roundg k1
    case measure=>omega
    case measure=>omega
    all_goals rename_i hcm
    all_goals have hi2:=HI.out
    all_goals have hl2:=HL.out
    all_goals have hm2:=HM.out
    all_goals have hj2:=HJ.out
    all_goals have hk2:=HK.out
    all_goals have hs2:=HS.out
    ·refine ⟨m + 1,j,?_,rfl,⟨by omega,by omega⟩,⟨by omega⟩,⟨?_⟩,⟨HB.out.trans (hb'.mono HB.out.size)⟩⟩
     ·congr 1
      unfold wrap64
      omega
     ·rw [← hs2]
      show _=FF.bs l0 a1 (k1 + 1) i j
      rw [FF.bs,if_pos hij,← hm2,if_pos hcm]
    ·refine ⟨i,m,rfl,rfl,⟨by omega,by omega⟩,⟨by omega⟩,⟨?_⟩,⟨HB.out.trans (hb'.mono HB.out.size)⟩⟩
     rw [← hs2]
     show _=FF.bs l0 a1 (k1 + 1) i j
     rw [FF.bs,if_pos hij,← hm2,if_neg (by omega)]
  ·have hi2:=HI.out
   obtain rfl:i=j:=by omega
   have hbs:FF.bs l0 a1 gk i i=i:=by cases gk <;> simp [FF.bs]
   have hf:=HH.out
   unfold FF.f at hf
   rw [← HS.out,hbs] at hf
   simp only [Option.some.injEq,Prod.mk.injEq] at hf
   obtain ⟨rfl,rfl⟩:=hf
   clear hbs
   by_cases hi:i<l0.length
   ·have aa:(0:Int)≤(i:Int):=by omega
    have ab:(i:Int)<(l0.length:Int):=by omega
    obtain ⟨ad,e1,hx0,hx1⟩:=at_T50 HR0.out (i:Int) aa ab
    cases e1
    replace hx0:=(HB.out.cell (World.block_lt_of_cell? w _ hx0)).trans hx0
    replace hx1:=(HB.out.cell (World.block_lt_of_cell? w _ hx1)).trans hx1
    have hcall:=HP.out (rd_T50 l0 (i:Int)).f0 (rd_T50 l0 (i:Int)).f1 a1 wr
    clear hi2
    simp only [Int.toNat_natCast] at hx0 hx1
    go_wp2_with ((with_reducible refine hcall.mono ?_);rintro e w' ⟨rfl,hb'⟩)
    go_ret2
    exact ⟨by simp [hi],HB.out.trans (hb'.mono HB.out.size)⟩
   ·go_wp2
    go_ret2
    exact ⟨by simp [hi],HB.out⟩
def Gy.f (l0:List S50) (a1:Int) (a2:Int):Option (List S50):=if 0≤a1∧a1<l0.length∧a2=a1 + 1 then some (l0.eraseIdx a1.toNat) else none
theorem Gy.calls (P0_:Nat→Prop) (u9000_:Value) (l0:List S50) (a1:Int) (a2:Int) (r:List S50) (w0 w:World) (hB:Below w0.heap.size w0 w) (ho0:Kd.R k50 50 w w0.heap.size P0_ u9000_ l0) (h:Gy.f l0 a1 a2=some r) :
 Calls Tryz.prog 73 #[u9000_,.int .i64 a1,.int .i64 a2] w fun e w'=>∃ v0_,e = .returned v0_∧Kd.R k50 50 w' w0.heap.size (fun k_=>(P0_ k_∨w.heap.size≤k_)) v0_ r∧Below w0.heap.size w0 w'∧Kept w w' (fun k_=>P0_ k_):=by
 unfold Gy.f at h
 split at h
 case isFalse=>cases h
 case isTrue hc=>
  obtain ⟨h0,h1,rfl⟩:=hc
  obtain rfl:=Option.some.inj h
  obtain ⟨i,rfl⟩:∃ i:Nat,a1=(i:Int):=⟨a1.toNat,by omega⟩
  refine (HSome.delete_one hB ho0 i (by omega)).mono ?_
  rintro e w' ⟨u',rfl,hR,hb,hk⟩
  exact ⟨u',rfl,Kd.R_mono hR (fun k hk=>.inl hk),hb,hk.mono (fun k hk=>ho0.1 k hk.symm)⟩
-- NOT PRINTED: function 96 (api_Row_96)
-- NOT PRINTED: function 111 (api_Row_111)
-- NOT PRINTED: function 97 (api_Row_97)
open HCopy in
set_option maxHeartbeats 2000000 in
set_option maxRecDepth 100000 in
theorem F3.room (g cap n i:Nat) (cur:Array Value) (inner xs:List Value) (g2 c2:Nat) (cur2:Array Value) (w:World)
 (hg:w.heap[g]? = some (.cells cur 50 (0,0))) (hg2:w.heap[g2]? = some (.cells cur2 50 (0,0))) (hne:g2≠g) (hi:i<n) (hroom:n + 1≤cap) (hcm:cap≤maxLen)
 (hsz:cur.size=cap * 2) (hin:cur.toList.take (n * 2)=inner) (hsz2:2≤cur2.size) (hin2:cur2.toList.take 2=xs) (h1:∀ v∈inner,v.oneCell'=true) (h2:∀ v∈xs,v.oneCell'=true) :
 Calls Tryz.prog 74 #[.slice (some ⟨g,0,none⟩) n cap,.int .i64 i,.slice (some ⟨g2,0,none⟩) 1 c2] w fun e w'=>
  ∃ cur':Array Value,e = .returned (.slice (some ⟨g,0,none⟩) (n + 1) cap)∧w'=w.drew.setRow g cur'∧cur'.size=cap * 2∧cur'.toList.take ((n + 1) * 2)=inner.take (i * 2) ++ xs ++ inner.drop (i * 2):=by
 have hlen:inner.length=n * 2:=by rw [← hin,List.length_take,Array.length_toList,hsz];omega
 have hxl:xs.length=2:=by rw [← hin2,List.length_take,Array.length_toList];omega
 have hmx:cap≤9223372036854775807:=by unfold maxLen at hcm;omega
 have hu:=Tryz.underlying38
 have hs:(Tryz.prog.info? 50).map (·.size)=some 2:=by
  have h:=info50
  cases hq:Tryz.prog.info? 50 with
  | none=>rw [hq] at h;simp at h
  | some i=>rw [hq] at h;simp at h;simp [h.2.1]
 have hdl:(inner.drop (i * 2)).length=(n - i) * 2:=by rw [List.length_drop,hlen,Nat.sub_mul]
 -- the first copy
 obtain ⟨cur1,hcur1⟩:∃ c:Array Value,c=(cur.toList.take ((i + 1) * 2) ++ inner.drop (i * 2) ++ cur.toList.drop ((i + 1) * 2 + (inner.drop (i * 2)).length)).toArray:=⟨_,rfl⟩
 have hcp1:∀ ty dc sc,(Builtin.copy_ #[38,38] ty #[.slice (some ⟨g,(i + 1) * 2,none⟩) (n - i) dc,.slice (some ⟨g,i * 2,none⟩) (n + 1 - i) sc]).run Tryz.prog w.drew = .ok (goInt (n - i:Nat)) (w.drew.setRow g cur1):=fun ty dc sc=>by
  rw [hcur1]
  refine run_copy_k w.drew 38 38 ty 50 g ((i + 1) * 2) (n - i) dc ⟨g,i * 2,none⟩ (n + 1 - i) sc cur 50 (inner.drop (i * 2)) 2 (n - i) hu hs hg (by show _=min _ _;omega) hdl (fun j v hj=>?_) (by rw [hdl,hsz];omega) (fun v hv=>h1 v (List.mem_of_mem_drop hv))
  rw [List.getElem?_drop,← hin] at hj
  have hjl:i * 2 + j<n * 2:=by
   rcases Nat.lt_or_ge (i * 2 + j) (n * 2) with h|h
   ·exact h
   ·rw [List.getElem?_eq_none (by rw [List.length_take];omega)] at hj;cases hj
  rw [List.getElem?_take_of_lt hjl] at hj
  rw [Addr.add_lit]
  exact (cell_of_row w g _ cur 50 (0,0) hg).trans (by rw [← hj];simp)
 have hsz1:cur1.size=cap * 2:=by
  rw [hcur1]
  simp only [List.size_toArray,List.length_append,List.length_take,List.length_drop,Array.length_toList,hlen,hsz]
  omega
 have hW1:(w.drew.setRow g cur1).heap[g]? = some (.cells cur1 50 (0,0)):=setRow_heap w.drew g cur _ 50 _ hg
 have hW2:(w.drew.setRow g cur1).heap[g2]? = some (.cells cur2 50 (0,0)):=(setRow_other w.drew g g2 cur1 hne).trans hg2
 obtain ⟨W1,hW⟩:∃ W1,W1=w.drew.setRow g cur1:=⟨_,rfl⟩
 obtain ⟨cur',hcur'⟩:∃ c:Array Value,c=(cur1.toList.take (i * 2) ++ xs ++ cur1.toList.drop (i * 2 + xs.length)).toArray:=⟨_,rfl⟩
 have hcp2:∀ ty dc sc,(Builtin.copy_ #[38,38] ty #[.slice (some ⟨g,i * 2,none⟩) (n + 1 - i) dc,.slice (some ⟨g2,0,none⟩) 1 sc]).run Tryz.prog W1 = .ok (goInt (1:Nat)) (W1.setRow g cur'):=fun ty dc sc=>by
  rw [hcur',hW]
  refine run_copy_k _ 38 38 ty 50 g (i * 2) (n + 1 - i) dc ⟨g2,0,none⟩ 1 sc cur1 50 xs 2 1 hu hs hW1 (by show _=min _ _;omega) (by rw [hxl]) (fun j v hj=>?_) (by rw [hxl,hsz1];omega) h2
  rw [← hin2] at hj
  have hjl:j<2:=by
   rcases Nat.lt_or_ge j 2 with h|h
   ·exact h
   ·rw [List.getElem?_eq_none (by rw [List.length_take];omega)] at hj;cases hj
  rw [List.getElem?_take_of_lt hjl] at hj
  rw [Addr.add_lit]
  exact (cell_of_row _ g2 _ cur2 50 (0,0) hW2).trans (by rw [← hj];simp)
 have hov:∀ lb cb,(callFunc 96 #[.slice (some ⟨g2,0,none⟩) 1 c2,.slice (some ⟨g,(i + 1) * 2,none⟩) lb cb]).run Tryz.prog w = .ok (.value (.bool false)) w:=fun lb cb=>by
  rw [run_callFunc_extern Tryz.func96 (by kernel_rfl) (by kernel_rfl) (by kernel_rfl) (e:=Extern.SlicesOverlaps.overlaps #[38,38] #[4]) (by kernel_rfl),
   Lib.run_overlaps_apart w 38 4 50 hu 2 (fun w=>by kernel_rfl) ⟨g2,0,none⟩ ⟨g,(i + 1) * 2,none⟩ 1 c2 lb cb hne 50 50 cur2.size cur.size (by simp [World.shape?,hg2]) (by simp [World.shape?,hg]) (by omega) (by simp [World.frozen?,hg2]) (by simp [World.frozen?,hg2])]
  rfl
 have hfin:cur'.size=cap * 2∧cur'.toList.take ((n + 1) * 2)=inner.take (i * 2) ++ xs ++ inner.drop (i * 2):=by
  constructor
  ·rw [hcur']
   simp only [List.size_toArray,List.length_append,List.length_take,List.length_drop,Array.length_toList,hxl,hsz1]
   omega
  ·have e1:cur1.toList.take (i * 2)=inner.take (i * 2):=by
    rw [hcur1,← hin]
    simp only [List.append_assoc]
    rw [List.take_append_of_le_length (by rw [List.length_take,Array.length_toList,hsz];omega),List.take_take,List.take_take]
    congr 1
    omega
   have e2:(cur1.toList.drop (i * 2 + 2)).take ((n - i) * 2)=inner.drop (i * 2):=by
    have h3:(cur.toList.take ((i + 1) * 2)).length=i * 2 + 2:=by rw [List.length_take,Array.length_toList,hsz];omega
    rw [hcur1]
    simp only [List.append_assoc]
    rw [← h3,List.drop_left,← hdl,List.take_left]
   rw [hcur']
   simp only [List.append_assoc]
   have h4:(cur1.toList.take (i * 2)).length=i * 2:=by rw [List.length_take,Array.length_toList,hsz1];omega
   have e3:(n + 1) * 2=(cur1.toList.take (i * 2)).length + (xs.length + (n - i) * 2):=by rw [h4,hxl];omega
   rw [e3,List.take_length_add_append,List.take_length_add_append,hxl,e2,e1]
 have HF:=Aside0.mk hfin
 have HE:=Aside0.mk (show W1.setRow g cur'=w.drew.setRow g cur' by rw [hW,setRow_setRow])
 rw [← hW] at hcp1
 clear hfin hcur' hW hW1 hW2 hsz1 hcur1 hdl hlen hxl hsz hin hsz2 hin2 h1 h2 hg hg2 hcm
 have hin':(i:Int)≤(n:Int) + 1:=by omega
 have hb1:¬ ((i:Int)=(n:Int)):=by omega
 have hb2:¬ ((n:Int) + 1 > (cap:Int)):=by omega
 have hb7:(0:Int)≤(i:Int) + 1:=by omega
 have hb8:i≤n:=by omega
 have hb9:i≤n + 1:=by omega
 have hb4:¬ (cap=i):=by omega
 have hb5:¬ (cap=i + 1):=by omega
 have hw1:IntKind.i64.wrap ((i:Int) + 1)=(i:Int) + 1:=by rw [IntKind.wrap_i64];omega
 have htn:((i:Int) + 1).toNat=i + 1:=by omega
 go_enter Tryz.func74,Tryz.ntmps74
 go_wp2_with (simp only [hov])
 go_region_law (refine step_copy_run rfl _ _ 38 38 rfl _ _ (by simp [Act.eval,Act.put]) (by simp [Act.eval,Act.put]) (hcp1 _ _ _) ?_)
 go_wp2_with (at_builtin;refine wpList_copy_run _ rfl _ _ 38 38 rfl _ _ rfl rfl (hcp2 _ _ _) ?_)
 go_ret
 exact ⟨cur',rfl,HE.out,HF.out.1,HF.out.2⟩
open HCopy in
set_option maxHeartbeats 2000000 in
set_option maxRecDepth 100000 in
theorem F3.grow (g cap n i:Nat) (cur:Array Value) (inner xs:List Value) (g2 c2:Nat) (cur2:Array Value) (w:World)
 (hg:w.heap[g]? = some (.cells cur 50 (0,0))) (hg2:w.heap[g2]? = some (.cells cur2 50 (0,0))) (hi:i<n) (hnc:n≤cap) (hroom:cap<n + 1) (hbig:n + 1<4398046511104)
 (hsz:cur.size=cap * 2) (hin:cur.toList.take (n * 2)=inner) (hsz2:2≤cur2.size) (hin2:cur2.toList.take 2=xs) (h1:∀ v∈inner,v.oneCell'=true) (h2:∀ v∈xs,v.oneCell'=true) :
 Calls Tryz.prog 74 #[.slice (some ⟨g,0,none⟩) n cap,.int .i64 i,.slice (some ⟨g2,0,none⟩) 1 c2] w fun e w'=>
  ∃ (cap':Nat) (cur':Array Value),e = .returned (.slice (some ⟨w.heap.size,0,none⟩) (n + 1) cap')∧n + 1≤cap'∧cap'≤maxLen∧w'.heap[w.heap.size]? = some (.cells cur' 50 (0,0))∧Below w.heap.size w w'∧cur'.size=cap' * 2∧cur'.toList.take ((n + 1) * 2)=inner.take (i * 2) ++ xs ++ inner.drop (i * 2):=by
 have hlen:inner.length=n * 2:=by rw [← hin,List.length_take,Array.length_toList,hsz];omega
 have hxl:xs.length=2:=by rw [← hin2,List.length_take,Array.length_toList];omega
 have hu:=Tryz.underlying38
 have hs:(Tryz.prog.info? 50).map (·.size)=some 2:=by
  have h:=info50
  cases hq:Tryz.prog.info? 50 with
  | none=>rw [hq] at h;simp at h
  | some i=>rw [hq] at h;simp at h;simp [h.2.1]
 have hdl:(inner.drop (i * 2)).length=(n - i) * 2:=by rw [List.length_drop,hlen,Nat.sub_mul]
 have hgl:g<w.heap.size:=blk_lt hg
 have hg2l:g2<w.heap.size:=blk_lt hg2
 obtain ⟨i0,hi0,hzz⟩:=Option.map_eq_some_iff.1 info50
 simp only [Prod.mk.injEq] at hzz
 obtain ⟨cap',hc1,hc2,happ⟩:=run_append_zeros_grow (P:=Tryz.prog) w 38 3 38 50 i0 _ 2 32 hu Tryz.underlying3 hi0 hzz.1 hzz.2.1 hzz.2.2 (by rfl) (by omega) (by omega) g i cap cur hg (by rw [hsz];omega) .i64 (n + 1 - i) (by omega) (by omega) (by omega)
 rw [show i + (n + 1 - i)=n + 1 by omega] at happ
 obtain ⟨cur0,hcur0⟩:∃ c:Array Value,c=((cur.toList.take (i * 2)).toArray ++ Builtin.zeroCells ((.agg #[(.string ⟨#[]⟩),(.string ⟨#[]⟩)]):Value).cells (n + 1 - i) ++ Builtin.zeroCells ((.agg #[(.string ⟨#[]⟩),(.string ⟨#[]⟩)]):Value).cells (cap' - (i + (n + 1 - i)))):=⟨_,rfl⟩
 have hsz0:cur0.size=cap' * 2:=by
  rw [hcur0]
  simp only [Array.size_append,List.size_toArray,List.length_take,Array.length_toList,hsz,size_zeroCells,Value.cells,List.length_cons,List.length_nil]
  omega
 have ht0:cur0.toList.take (i * 2)=inner.take (i * 2):=by
  rw [hcur0,← hin]
  simp only [Array.toList_append,List.append_assoc]
  rw [List.take_append_of_le_length (by rw [List.length_take,Array.length_toList,hsz];omega),List.take_take,List.take_take]
  congr 1
  omega
 rw [show cap' - (n + 1)=cap' - (i + (n + 1 - i)) by omega,← hcur0] at happ
 obtain ⟨W0,hW0⟩:∃ W0,W0=w.drew.alloc (.cells cur0 50):=⟨_,rfl⟩
 have hB0:Below w.heap.size w W0:=by rw [hW0];exact below_alloc (below_drew (Below.refl _ _)) _
 have hh0:W0.heap[w.heap.size]? = some (.cells cur0 50 (0,0)):=by rw [hW0];exact heap_alloc_new w.drew _
 have hg0:W0.heap[g]? = some (.cells cur 50 (0,0)):=(hB0.block g hgl).trans hg
 have hg20:W0.heap[g2]? = some (.cells cur2 50 (0,0)):=(hB0.block g2 hg2l).trans hg2
 -- the first copy: v
 obtain ⟨cur1,hcur1⟩:∃ c:Array Value,c=(cur0.toList.take (i * 2) ++ xs ++ cur0.toList.drop (i * 2 + xs.length)).toArray:=⟨_,rfl⟩
 have hcp1:∀ ty dc sc,(Builtin.copy_ #[38,38] ty #[.slice (some ⟨w.heap.size,i * 2,none⟩) (n + 1 - i) dc,.slice (some ⟨g2,0,none⟩) 1 sc]).run Tryz.prog W0 = .ok (goInt (1:Nat)) (W0.setRow w.heap.size cur1):=fun ty dc sc=>by
  rw [hcur1]
  refine run_copy_k _ 38 38 ty 50 w.heap.size (i * 2) (n + 1 - i) dc ⟨g2,0,none⟩ 1 sc cur0 50 xs 2 1 hu hs hh0 (by show _=min _ _;omega) (by rw [hxl]) (fun j v hj=>?_) (by rw [hxl,hsz0];omega) h2
  rw [← hin2] at hj
  have hjl:j<2:=by
   rcases Nat.lt_or_ge j 2 with h|h
   ·exact h
   ·rw [List.getElem?_eq_none (by rw [List.length_take];omega)] at hj;cases hj
  rw [List.getElem?_take_of_lt hjl] at hj
  rw [Addr.add_lit]
  exact (cell_of_row _ g2 _ cur2 50 (0,0) hg20).trans (by rw [← hj];simp)
 have hsz1:cur1.size=cap' * 2:=by
  rw [hcur1]
  simp only [List.size_toArray,List.length_append,List.length_take,List.length_drop,Array.length_toList,hxl,hsz0]
  omega
 obtain ⟨W1,hW1⟩:∃ W1,W1=W0.setRow w.heap.size cur1:=⟨_,rfl⟩
 have hB1:Below w.heap.size w W1:=by rw [hW1];exact below_setRow hB0 (Nat.le_refl _) _
 have hh1:W1.heap[w.heap.size]? = some (.cells cur1 50 (0,0)):=by rw [hW1];exact setRow_heap W0 _ cur0 _ 50 _ hh0
 have hg1:W1.heap[g]? = some (.cells cur 50 (0,0)):=(hB1.block g hgl).trans hg
 rw [← hW1] at hcp1
 -- the second one: what stood from i on
 obtain ⟨cur',hcur'⟩:∃ c:Array Value,c=(cur1.toList.take ((i + 1) * 2) ++ inner.drop (i * 2) ++ cur1.toList.drop ((i + 1) * 2 + (inner.drop (i * 2)).length)).toArray:=⟨_,rfl⟩
 have hcp2:∀ ty dc sc,(Builtin.copy_ #[38,38] ty #[.slice (some ⟨w.heap.size,(i + 1) * 2,none⟩) (n - i) dc,.slice (some ⟨g,i * 2,none⟩) (n - i) sc]).run Tryz.prog W1.drew = .ok (goInt (n - i:Nat)) (W1.drew.setRow w.heap.size cur'):=fun ty dc sc=>by
  rw [hcur']
  refine run_copy_k W1.drew 38 38 ty 50 w.heap.size ((i + 1) * 2) (n - i) dc ⟨g,i * 2,none⟩ (n - i) sc cur1 50 (inner.drop (i * 2)) 2 (n - i) hu hs hh1 (by show _=min _ _;omega) hdl (fun j v hj=>?_) (by rw [hdl,hsz1];omega) (fun v hv=>h1 v (List.mem_of_mem_drop hv))
  rw [List.getElem?_drop,← hin] at hj
  have hjl:i * 2 + j<n * 2:=by
   rcases Nat.lt_or_ge (i * 2 + j) (n * 2) with h|h
   ·exact h
   ·rw [List.getElem?_eq_none (by rw [List.length_take];omega)] at hj;cases hj
  rw [List.getElem?_take_of_lt hjl] at hj
  rw [Addr.add_lit]
  exact (cell_of_row W1.drew g _ cur 50 (0,0) hg1).trans (by rw [← hj];simp)
 have hsz':cur'.size=cap' * 2:=by
  rw [hcur']
  simp only [List.size_toArray,List.length_append,List.length_take,List.length_drop,Array.length_toList,hlen,hsz1]
  omega
 have hfin:cur'.toList.take ((n + 1) * 2)=inner.take (i * 2) ++ xs ++ inner.drop (i * 2):=by
  have h4:(cur1.toList.take ((i + 1) * 2))=inner.take (i * 2) ++ xs:=by
   have h5:(cur0.toList.take (i * 2)).length=i * 2:=by rw [List.length_take,Array.length_toList,hsz0];omega
   rw [hcur1]
   simp only [List.append_assoc]
   rw [show (i + 1) * 2=(cur0.toList.take (i * 2)).length + xs.length by rw [h5,hxl];omega,List.take_length_add_append,List.take_left,ht0]
  have h6:(inner.take (i * 2) ++ xs).length=(i + 1) * 2:=by rw [List.length_append,List.length_take,hlen,hxl];omega
  rw [hcur',h4]
  simp only [List.append_assoc]
  rw [← List.append_assoc,show (n + 1) * 2=(inner.take (i * 2) ++ xs).length + (inner.drop (i * 2)).length by rw [h6,hdl];omega,List.take_length_add_append,List.take_left,List.append_assoc]
 obtain ⟨W2,hW2⟩:∃ W2,W2=W1.drew.setRow w.heap.size cur':=⟨_,rfl⟩
 have HF:=Aside0.mk (show W2.heap[w.heap.size]? = some (.cells cur' 50 (0,0))∧Below w.heap.size w W2∧cur'.size=cap' * 2∧cur'.toList.take ((n + 1) * 2)=inner.take (i * 2) ++ xs ++ inner.drop (i * 2) from
  ⟨by rw [hW2];exact setRow_heap W1.drew _ cur1 _ 50 _ hh1,by rw [hW2];exact below_setRow (below_drew hB1) (Nat.le_refl _) _,hsz',hfin⟩)
 have HC:=Aside0.mk (And.intro hc1 hc2)
 rw [← hW2] at hcp2
 rw [← hW0] at happ
 have hcx:cap≤9223372036854775807:=by omega
 have hcy:cap'≤9223372036854775807:=by unfold maxLen at hc2;omega
 have hcz:i + 1≤cap':=by omega
 clear hfin hcur' hW0 hW1 hW2 hsz1 hcur1 hdl hlen hxl hsz hin hsz2 hin2 h1 h2 hg hg2 hc2 hB0 hh0 hg0 hg20 hB1 hh1 hg1 hsz' hsz0 ht0 hcur0 hi0 hzz
 have hin':(i:Int)≤(n:Int) + 1:=by omega
 have hb1:¬ ((i:Int)=(n:Int)):=by omega
 have hb7:(0:Int)≤(i:Int) + 1:=by omega
 have hb8:i≤n:=by omega
 have hb9:i≤n + 1:=by omega
 have hb4:¬ (cap=i):=by omega
 have hz3:(cap:Int)<(n:Int) + 1:=by omega
 have hic:i≤cap:=by omega
 have hb5:¬ (cap'=i):=by omega
 have hb6:¬ (cap'=i + 1):=by omega
 have hsub:(n:Int) + 1 - (i:Int)=((n + 1 - i:Nat):Int):=by omega
 have hw1:IntKind.i64.wrap ((i:Int) + 1)=(i:Int) + 1:=by rw [IntKind.wrap_i64];omega
 have htn:((i:Int) + 1).toNat=i + 1:=by omega
 go_enter Tryz.func74,Tryz.ntmps74
 go_wp2_with (first
  | (at_builtin;refine wpList_append_run _ rfl _ _ 38 3 rfl _ _ rfl rfl _ _ happ ?_)
  | (at_builtin;refine wpList_copy_run _ rfl _ _ 38 38 rfl _ _ rfl rfl (hcp1 _ _ _) ?_)
  | (at_builtin;refine wpList_copy_run _ rfl _ _ 38 38 rfl _ _ rfl rfl (hcp2 _ _ _) ?_))
 go_region_law (refine step_copy_run rfl _ _ 38 38 rfl _ _ (by simp [Act.eval,Act.put]) (by simp [Act.eval,Act.put]) (hcp2 _ _ _) ?_)
 go_wp2
 go_ret
 exact ⟨cap',cur',rfl,by have:=HC.out.1;omega,HC.out.2,HF.out.1,HF.out.2.1,HF.out.2.2.1,HF.out.2.2.2⟩
def F3.f (l0:List (S50)) (a1:Int) (l2:List (S50)):Option (List (S50)):=if l2.length=1∧0≤a1∧a1≤l0.length∧l0.length + 1<4398046511104 then some (l0.take a1.toNat ++ l2 ++ l0.drop a1.toNat) else none
theorem F3.one {w:World} {base:Nat} {ok:Nat→Prop} {l:List (S50)} {cs:List Value} (h:Reps (k50.M w base ok) 2 l cs):∀ u∈cs,u.oneCell'=true:=by
 intro u hu
 obtain ⟨q,hq,rfl⟩:=List.mem_iff_getElem.1 hu
 have hql:q / 2<l.length:=by
  have:=h.1
  omega
 have hc:=h.2 (q / 2) _ (List.getElem?_eq_getElem hql)
 refine k50.K_one (k50.K_of_M hc) _ ?_
 rw [List.mem_iff_getElem?]
 refine ⟨q % 2,?_⟩
 rw [List.getElem?_take,if_pos (Nat.mod_lt _ (by omega)),List.getElem?_drop,Nat.mul_comm,Nat.div_add_mod,List.getElem?_eq_getElem hq]
open HCopy in
theorem F3.reps {w w':World} {base base':Nat} {ok ok':Nat→Prop} {l l2:List (S50)} {cs ds:List Value} (i:Nat) (hi:i≤l.length) (h:Reps (k50.M w base ok) 2 l cs) (h2:Reps (k50.M w' base' ok') 2 l2 ds) (hb:base'≤base) :
 Reps (k50.M w' base' (fun _=>True)) 2 (l.take i ++ l2 ++ l.drop i) (cs.take (i * 2) ++ ds ++ cs.drop (i * 2)):=
 Reps.append (Reps.append ((Reps.take h i hi).imp_ fun _ _ hm=>flat_move rfl hb hm) (h2.imp_ fun _ _ hm=>flat_move rfl (Nat.le_refl _) hm)) ((Reps.drop h i).imp_ fun _ _ hm=>flat_move rfl hb hm)
open HCopy in
set_option maxHeartbeats 2000000 in
set_option maxRecDepth 100000 in
theorem F3.last (P0_:Nat→Prop) (u9000_:Value) (l0:List (S50)) (P2_:Nat→Prop) (u9001_:Value) (x:(S50)) (w0 w:World) (hB:Below w0.heap.size w0 w) (ho0:Kd.R k50 50 w w0.heap.size P0_ u9000_ l0) (ho2:Kd.R k50 50 w w0.heap.size P2_ u9001_ [x]) (hlim:l0.length + 1<4398046511104) :
 Calls Tryz.prog 74 #[u9000_,.int .i64 l0.length,u9001_] w fun e w'=>∃ v0_,e = .returned v0_∧Kd.R k50 50 w' w0.heap.size (fun k_=>((P0_ k_∨P2_ k_)∨w.heap.size≤k_)) v0_ (l0 ++ [x])∧Below w0.heap.size w0 w'∧Kept w w' (fun k_=>P0_ k_∨P2_ k_):=by
 obtain ⟨A2,c2,rfl,hc2,hC2⟩:=Kd.R_reads ho2
 obtain ⟨A0,c0,hu0,hc0,hC0⟩:=Kd.R_reads ho0
 obtain ⟨ad2,rfl,_⟩:=hC2.2.2 (by simp)
 have hoK:Kd.R k50 50 w w0.heap.size (fun k_=>((P0_ k_∨P2_ k_)∨w.heap.size≤k_)) u9000_ l0:=Kd.R_mono ho0 (fun k hk=>.inl (.inl hk))
 have hP0:=Aside0.mk ho0.1
 have HO:=Aside0.mk hoK
 have HC:=Aside0.mk hC2
 have HBB:=Aside0.mk hB
 have hlen:l0.length≤c0:=hc0
 clear ho0 ho2 hC0 hC2 hoK hB
 subst hu0
 go_enter Tryz.func74,Tryz.ntmps74
 go_wp2_with (at_builtin;(refine Kd.R_append_rows k50 (w0:=w0) w0.heap.size rfl _ _ 38 50 ((.agg #[(.string ⟨#[]⟩),(.string ⟨#[]⟩)])) 32 rfl Tryz.underlying38 info50 rfl (by decide) (by omega) _ l0 [x] _ _ _ (fun k_=>((P0_ k_∨P2_ k_)∨w.heap.size≤k_)) (fun _=>False) rfl rfl HO.out HC.out (fun _ _ h=>h) (fun _ h=>h.elim) (fun k hk=>.inr hk) HBB.out HBB.out.size (by show (l0.length + 1) * 32≤140737488355328;omega) ?_);intro v1 w1 ho hb hg hat)
 all_goals go_ret
 all_goals exact ⟨_,rfl,ho,hb,Kept.of_grown hg (Kept.refl _ _) (fun k hk=>.inl (.inl (hP0.out k hk)))⟩
open HCopy in
theorem F3.calls (P0_:Nat→Prop) (u9000_:Value) (l0:List (S50)) (a1:Int) (P2_:Nat→Prop) (u9001_:Value) (l2:List (S50)) (r:List (S50)) (w0 w:World) (hB:Below w0.heap.size w0 w) (ho0:Kd.R k50 50 w w0.heap.size P0_ u9000_ l0) (hp0_2:∀ k_,P0_ k_→¬ P2_ k_) (ho2:Kd.R k50 50 w w0.heap.size P2_ u9001_ l2) (hp2_0:∀ k_,P2_ k_→¬ P0_ k_) (h:F3.f l0 a1 l2=some r) :
 Calls Tryz.prog 74 #[u9000_,.int .i64 a1,u9001_] w fun e w'=>∃ v0_,e = .returned v0_∧Kd.R k50 50 w' w0.heap.size (fun k_=>((P0_ k_∨P2_ k_)∨w.heap.size≤k_)) v0_ r∧Below w0.heap.size w0 w'∧Kept w w' (fun k_=>P0_ k_∨P2_ k_):=by
 unfold F3.f at h
 split at h
 case isFalse=>cases h
 case isTrue hc=>
  obtain ⟨hl1,hi0,hil,hlim⟩:=hc
  obtain rfl:=Option.some.inj h
  obtain ⟨i,rfl⟩:∃ i:Nat,a1=(i:Int):=⟨a1.toNat,by omega⟩
  obtain ⟨x,rfl⟩:=List.length_eq_one_iff.1 hl1
  clear h
  rw [Int.toNat_natCast]
  by_cases hin:i<l0.length
  ·obtain ⟨hok2,inner2,⟨hlen2,hcase2⟩,hr2⟩:=ho2
   rcases hcase2 with ⟨_,hn⟩|⟨g2,c2,cur2,rfl,hbg2,hg2,aa,hcm2,hsz2,ht2⟩
   ·simp at hn
   obtain ⟨hok,inner,⟨hlen,hcase⟩,hr⟩:=ho0
   rcases hcase with ⟨_,hn⟩|⟨g,cap,cur,rfl,hbg,hg,hnc,hcm,hsz,ht⟩
   ·omega
   have hP0:P0_ g:=hok g (by simp [Value.ownBlock])
   have hP2:P2_ g2:=hok2 g2 (by simp [Value.ownBlock])
   have hne:g2≠g:=fun e=>hp0_2 g hP0 (e ▸ hP2)
   have hbw:=hB.size
   have hR:=fun (w':World)=>F3.reps (w':=w') (base':=w0.heap.size) (ok':=fun _=>True) i (by omega) hr (hr2.imp_ fun _ _ hm=>flat_move (w1:=w') (base1:=w0.heap.size) (ok1:=fun _=>True) rfl (Nat.le_refl _) hm) (Nat.le_refl _)
   by_cases hroom:l0.length + 1≤cap
   ·refine (F3.room g cap l0.length i cur inner inner2 g2 c2 cur2 w hg hg2 hne hin hroom hcm hsz ht (by show 2≤_;have:k50.sz=2:=rfl;rw [this] at hsz2;have:1≤c2:=aa;omega) ht2 (F3.one hr) (F3.one hr2)).mono ?_
    rintro e w' ⟨cur',rfl,rfl,hs',ht'⟩
    refine ⟨_,rfl,?_,?_,?_⟩
    ·exact row_R k50 rfl (Nat.le_refl _) (setRow_heap w.drew g cur _ 50 _ hg) hbg (by simp;omega) hroom hcm hs' ht' (hR w) (.inl (.inl hP0))
    ·exact below_setRow (below_drew hB) hbg _
    ·exact ⟨by simp [World.setRow],fun k hk hn=>setRow_other w.drew g k cur' (fun e=>hn (.inl (e ▸ hP0)))⟩
   ·refine (F3.grow g cap l0.length i cur inner inner2 g2 c2 cur2 w hg hg2 hin hnc (by omega) hlim hsz ht (by show 2≤_;have:k50.sz=2:=rfl;rw [this] at hsz2;have:1≤c2:=aa;omega) ht2 (F3.one hr) (F3.one hr2)).mono ?_
    rintro e w' ⟨cap',cur',rfl,hc1,hc2',hh,hbb,hs',ht'⟩
    refine ⟨_,rfl,?_,?_,?_⟩
    ·exact row_R k50 rfl (Nat.le_refl _) hh hbw (by simp;omega) hc1 hc2' hs' ht' (hR w) (.inr (Nat.le_refl _))
    ·exact hB.trans (hbb.mono hbw)
    ·exact Kept.of_below hbb _
  ·obtain rfl:i=l0.length:=by omega
   rw [List.take_length,List.drop_length,List.append_nil]
   exact F3.last P0_ u9000_ l0 P2_ u9001_ x w0 w hB ho0 ho2 hlim
mutual
def Fo.l0:Nat→List (S50)→Int→List (S72)→Int→Int→Option ((List (S50)))
 | 0,_,_,_,_,_=>none
 | k + 1,c,e,b,g,a=>if a<g then (if 0≤a then (if a<(b.length:Int) then (if ((rd_T72 b a).f0)=e then ((FF.f c ((rd_T72 b a).f1)).bind fun d=>(if d.2=true then ((Gy.f c d.1 (wrap64 (d.1 + 1))).bind fun h=>(Fo.j1 k h e d.1 b g a ((rd_T72 b a).f0) ((rd_T72 b a).f1) ((rd_T72 b a).f2) ((rd_T72 b a).f3))) else (Fo.j1 k c e d.1 b g a ((rd_T72 b a).f0) ((rd_T72 b a).f1) ((rd_T72 b a).f2) ((rd_T72 b a).f3)))) else (Fo.l0 k c e b g (wrap64 (a + 1)))) else (none)) else (none)) else (some c)
def Fo.j1:Nat→List (S50)→Int→Int→List (S72)→Int→Int→Int→ByteArray→ByteArray→Bool→Option ((List (S50)))
 | 0,_,_,_,_,_,_,_,_,_,_=>none
 | k + 1,a,b,g,c,d,e,m,h,i,j=>if j=true then (Fo.l0 k a b c d (wrap64 (e + 1))) else ((F3.f a g (([(⟨h,i⟩:S50)]:List (S50)))).bind fun l=>(Fo.l0 k l b c d (wrap64 (e + 1))))
end
def Fo.f (k:Nat) (l0:List (S50)) (l1_0:List (S72)) (l1_1:List Int) (a2:Int):Option ((List (S50))):=(Gw.f l0).bind fun b=>((Gx.f l1_0 l1_1).bind fun a=>(Fo.l0 k b a2 a (a.length:Int) 0))
theorem Fo.mono_l:∀ k,(∀ y0 y1 y2 y3 y4,LeO (Fo.l0 k y0 y1 y2 y3 y4) (Fo.l0 (k + 1) y0 y1 y2 y3 y4))∧(∀ y0 y1 y2 y3 y4 y5 y6 y7 y8 y9,LeO (Fo.j1 k y0 y1 y2 y3 y4 y5 y6 y7 y8 y9) (Fo.j1 (k + 1) y0 y1 y2 y3 y4 y5 y6 y7 y8 y9))
 | 0=>⟨fun _ _ _ _ _ r h=>by simp [Fo.l0] at h,fun _ _ _ _ _ _ _ _ _ _ r h=>by simp [Fo.j1] at h⟩
 | k + 1=>by
  obtain ⟨ih0,ih1⟩:=Fo.mono_l k
  refine ⟨?_,?_⟩
  all_goals (intros;first|unfold Fo.l0|unfold Fo.j1)
  all_goals exact mz_
theorem Fo.mono:∀ a0 a1 a2 a3 k,LeO (Fo.f k a0 a1 a2 a3) (Fo.f (k + 1) a0 a1 a2 a3):=by
 intro a0 a1 a2 a3 k
 obtain ⟨ih0,ih1⟩:=Fo.mono_l k
 unfold Fo.f
 exact mz_
theorem Fo.calls (k:Nat) (A0:Option Addr) (c0:Nat) (l0:List (S50)) (A1_0:Option Addr) (c1_0:Nat) (l1_0:List (S72)) (A1_1:Option Addr) (c1_1:Nat) (l1_1:List Int) (a2:Int) (r:List (S50)) (w:World) (hr0:Kd.C k50 w A0 l0.length l0) (hc0:l0.length≤c0) (hr1_0:Kd.C k72 w A1_0 l1_0.length l1_0) (hc1_0:l1_0.length≤c1_0) (hr1_1:Kd.C (Kd.int .i64) w A1_1 l1_1.length l1_1) (hc1_1:l1_1.length≤c1_1) (h:Fo.f k l0 l1_0 l1_1 a2=some r) :
 Calls Tryz.prog 44 #[.slice A0 l0.length c0,.agg #[.slice A1_0 l1_0.length c1_0,.slice A1_1 l1_1.length c1_1],.int .i64 a2] w fun e w'=>∃ v0_:Value,e = .returned (v0_)∧Kd.R k50 50 w' w.heap.size (fun _=>True) v0_ r∧Below w.heap.size w w':=by
 have hu34:=Tryz.underlying34
 have hu72:=Tryz.underlying72
 have hu50:=Tryz.underlying50
 have HR0:=mk0 hr0
 have HC0:=mk0 hc0
 clear hr0 hc0
 have bv:=mk0 hr1_0
 have bw:=mk0 hc1_0
 clear hr1_0 hc1_0
 have bx:=mk0 hr1_1
 have bz:=mk0 hc1_1
 clear hr1_1 hc1_1
 have HB:=mk0 (Below.refl w.heap.size w)
 have H:((Gw.f l0).bind fun aG=>((Gx.f l1_0 l1_1).bind fun ab=>(Fo.l0 k aG a2 ab (ab.length:Int) 0)))=some r:=h
 clear h
 replace H:=ob_ H
 obtain ⟨aG,A4,H⟩:=H
 try dsimp only at H
 replace H:=ob_ H
 obtain ⟨ab,A5,H⟩:=H
 try dsimp only at H
 have H':=mk0 H
 clear H
 go_enter Tryz.func44,Tryz.ntmps44
 go_wp2_with (first|((with_reducible refine gate_dst (N:=4) rfl ?_);refine bx_ (N:=4) (cs:=#[.slice A1_0 l1_0.length c1_0,.slice A1_1 l1_1.length c1_1]) (t:=34) (h:=?_);intro aT hg w6 hbox hb;have ny2_:=mk0 (gz_ HB hg);have bG:=mk0 (gz_ HB hg);replace HB:=mk0 (bt_ (b_ HB) hb);have ac:=mk0 (hbox);have cc:=ny2_;have aU:=bG;clear ny2_ bG;clear hb hbox hg)|((with_reducible refine gate_callee (f:=65) rfl ?_);refine gL_ (some 12) Tryz.func65 #[.slice A0 l0.length c0] (h:=?_);(with_reducible refine (Gw.calls _ _ l0 aG _ ?side1 ?side2 A4.out).mono ?_);(case side1=>exact cb_ HR0 HB);(case side2=>exact HC0.out);rintro e w7 ⟨co,rfl,ho0,hb⟩;refine ⟨_,rfl,?_⟩;have aV:=mk0 (Kd.R_lower ho0 (bz_ (b_ HB)));replace ac:=mk0 (u_ ac hb);replace HB:=mk0 (bt_ (b_ HB) hb);have aA:=aV;clear aV;(try clear hb);(try clear ho0);obtain ⟨aH,aI,aJ,aK⟩:=c2_ ac)|((with_reducible refine gate_callee (f:=69) rfl ?_);refine gL_ (some 14) Tryz.func69 #[.agg #[.slice A1_0 l1_0.length c1_0,.slice A1_1 l1_1.length c1_1]] (h:=?_);(with_reducible refine (Gx.calls _ _ l1_0 _ _ l1_1 ab _ ?side1 ?side2 ?side3 ?side4 A5.out).mono ?_);(case side1=>exact cb_ bv HB);(case side2=>exact bw.out);(case side3=>exact cb_ bx HB);(case side4=>exact bz.out);rintro e w9 ⟨cp,rfl,ho0,hb⟩;refine ⟨_,rfl,?_⟩;have bH:=mk0 (Kd.R_lower ho0 (bz_ (b_ HB)));replace aA:=mk0 (Kd.R_below (r_ aA) hb);replace ac:=mk0 (u_ ac hb);replace HB:=mk0 (bt_ (b_ HB) hb);have aW:=bH;clear bH;(try clear hb);(try clear ho0);obtain ⟨bI,br,bJ⟩:=Kd.R_slice aW.out;subst bJ))
 go_loopg [0,16] k (fun kq v0 v16 w'=>∃ (al:List (S50)) (aa:Int),v16 = .int .i64 aa∧Fc (Fo.l0 kq al a2 ab (ab.length:Int) aa=some r)∧Fc (kq≤k)∧Fc (Kd.R k50 50 w' w.heap.size (fun _=>True) v0 al)∧Fc (Kd.R k72 72 w' w.heap.size (fun _=>True) (.slice bI ab.length br) ab)∧Fc (w'.heap[aT]? = some (.cells #[(.slice A1_0 l1_0.length c1_0),(.slice A1_1 l1_1.length c1_1)] 34 (0,0)))∧Fc (Below w.heap.size w w'))
 case atStart=>exact ⟨(aG),(0),sm_,H',⟨Nat.le_refl _⟩,⟨r2_ aA.out⟩,⟨r2_ aW.out⟩,⟨h_ ac⟩,⟨b_ HB⟩⟩
 case round=>
  clear H'
  try clear aH
  try clear aI
  try clear aJ
  try clear aK
  obtain ⟨al,aa,rfl,HA,aq,ag,ah,ac,HB⟩:=hrel
  cases gk with
  | zero=>exact absurd HA.out (by simp [Fo.l0])
  | succ k1=>
   have H:=HA.out
   clear HA
   simp only [Fo.l0] at H
   as_aux_lemma=>
    by_cases aC:aa<(ab.length:Int)
    ·rw [if_pos aC] at H
     have aX:=decide_eq_true aC
     clear aC
     by_cases aY:0≤aa
     ·rw [if_pos aY] at H
      have bA:=decide_eq_true aY
      clear aY
      by_cases aZ:aa<(ab.length:Int)
      ·rw [if_pos aZ] at H
       have bB:=decide_eq_true aZ
       clear aZ
       by_cases ar:((rd_T72 ab aa).f0)=a2
       ·rw [if_pos ar] at H
        have a4:=beq_iff_eq.mpr ar
        have a5:=bne_eq_false_iff_eq.mpr ar
        clear ar
        replace H:=ob_ H
        obtain ⟨⟨an,bt⟩,cd,H⟩:=H
        try dsimp only at H
        have HC16:=mk0 H
        clear H
        have ao:0≤(aa:Int):=od_
        have ap:aa<(ab.length:Int):=od_
        (try (obtain ⟨Aq_,cq_,eq_⟩:=Kd.R_slice ah.out;subst eq_))
        obtain ⟨a6,a7,au,av,aw,ax⟩:=at_T72 (Kd.R_reads' ah.out).2.2 aa ao ap
        cases a7
        replace ao:=eq_true ao
        replace ap:=eq_true ap
        go_upto_if 31 with (first|((with_reducible refine gate_dst (N:=8) rfl ?_);refine bx_ (N:=8) (cs:=#[.int .i64 0,.string (⟨#[]⟩:ByteArray),.string (⟨#[]⟩:ByteArray),.bool false]) (t:=72) (h:=?_);intro ae hg cu hbox hb;have a8:=mk0 (gz_ HB hg);have a9:=mk0 (gz_ HB hg);have ba:=mk0 (ne1_ ac hg);have bb:=mk0 (ne2_ ac hg);replace ag:=mk0 (Kd.R_below (r_ ag) hb);replace ah:=mk0 (Kd.R_below (Kd.R_elderB (r_ ah) ae (Nat.le_of_eq hg.symm)) hb);replace ac:=mk0 (u_ ac hb);replace HB:=mk0 (bt_ (b_ HB) hb);have ai:=mk0 (hbox);have bC:=a8;have aD:=a9;have af:=ba;have aj:=bb;clear a8 a9 ba bb hb hbox hg;have ce:=aj.out;have cf:=af.out;obtain ⟨bc,bd,be,bf,bg,bh,bi,bj⟩:=c4_ ai;obtain ⟨aM,ay,bK⟩:=Kd.R_slice ag.out;subst bK)|((with_reducible refine gate_callee (f:=70) rfl ?_);refine gL_ (some 28) Tryz.func70 #[.slice aM al.length ay,.string ((rd_T72 ab aa).f1),.func (Fn.func 71) #[] #[]] (h:=?_);(with_reducible refine (FF.calls _ _ al ((rd_T72 ab aa).f1)  an bt _ ?side1 ?side2 cd.out).mono ?_);(case side1=>refine (Kd.R_reads' (e:=50) (base:=w.heap.size) (ok:=fun k_=>True) (n:=al.length) (c:=ay) ?_).2.2;exact (r2_ (Kd.R_mono (Kd.R_far (p:=⟨ae,3,none⟩) (Kd.R_far (p:=⟨ae,2,none⟩) (Kd.R_far (p:=⟨ae,1,none⟩) (Kd.R_far (p:=⟨ae,0,none⟩) (Kd.R_types ag.out ai.out (by decide)) (fun _ hk=>hk.2) (.int .i64 ((rd_T72 ab aa).f0))) (fun _ hk=>hk.2) (.string ((rd_T72 ab aa).f1))) (fun _ hk=>hk.2) (.string ((rd_T72 ab aa).f2))) (fun _ hk=>hk.2) (.bool ((rd_T72 ab aa).f3))) (fun _ h_=>h_.1))));(case side2=>exact (Kd.R_reads' ag.out).2.1);rintro e cv ⟨rfl,hb⟩;refine ⟨_,rfl,?_⟩;have aV:=mk0 (Kd.R_below (r2_ (Kd.R_mono (Kd.R_far (p:=⟨ae,3,none⟩) (Kd.R_far (p:=⟨ae,2,none⟩) (Kd.R_far (p:=⟨ae,1,none⟩) (Kd.R_far (p:=⟨ae,0,none⟩) (Kd.R_types ag.out ai.out (by decide)) (fun _ hk=>hk.2) (.int .i64 ((rd_T72 ab aa).f0))) (fun _ hk=>hk.2) (.string ((rd_T72 ab aa).f1))) (fun _ hk=>hk.2) (.string ((rd_T72 ab aa).f2))) (fun _ hk=>hk.2) (.bool ((rd_T72 ab aa).f3))) (fun _ h_=>h_.1))) hb);replace ah:=mk0 (Kd.R_below (r2_ (Kd.R_mono (Kd.R_far (p:=⟨ae,3,none⟩) (Kd.R_far (p:=⟨ae,2,none⟩) (Kd.R_far (p:=⟨ae,1,none⟩) (Kd.R_far (p:=⟨ae,0,none⟩) (Kd.R_mono ah.out (fun k_ hk=>(⟨hk,hk.2⟩:_∧k_≠ae))) (fun _ hk=>hk.2) (.int .i64 ((rd_T72 ab aa).f0))) (fun _ hk=>hk.2) (.string ((rd_T72 ab aa).f1))) (fun _ hk=>hk.2) (.string ((rd_T72 ab aa).f2))) (fun _ hk=>hk.2) (.bool ((rd_T72 ab aa).f3))) (fun _ h_=>h_.1))) hb);replace ac:=mk0 (blk_below (fa_ (fa_ (fa_ (fa_ (h_ ac) af.out) af.out) af.out) af.out) hb);replace ai:=mk0 (blk_below (g:=ae) (o:=.cells #[.int .i64 ((rd_T72 ab aa).f0),.string ((rd_T72 ab aa).f1),.string ((rd_T72 ab aa).f2),.bool ((rd_T72 ab aa).f3)] 72 (0,0)) (pu_ (cs:=#[.int .i64 ((rd_T72 ab aa).f0),.string ((rd_T72 ab aa).f1),.string ((rd_T72 ab aa).f2),.bool false]) (pu_ (cs:=#[.int .i64 ((rd_T72 ab aa).f0),.string ((rd_T72 ab aa).f1),.string (⟨#[]⟩:ByteArray),.bool false]) (pu_ (cs:=#[.int .i64 ((rd_T72 ab aa).f0),.string (⟨#[]⟩:ByteArray),.string (⟨#[]⟩:ByteArray),.bool false]) (pu_ (cs:=#[.int .i64 0,.string (⟨#[]⟩:ByteArray),.string (⟨#[]⟩:ByteArray),.bool false]) (h_ ai))))) hb);replace HB:=mk0 (bt_ (b_ HB) hb);clear ag;have ag:=aV;clear aV;(try clear hb)))
        (try simp only [Act.put,List.setIfInBounds_toArray,List.set_cons_zero,List.set_cons_succ])
        go_cut [0] (fun v0 wc=>∃ (kq:Nat) (ak:List (S50)),Fc (Fo.j1 kq ak a2 an ab (ab.length:Int) aa ((rd_T72 ab aa).f0) ((rd_T72 ab aa).f1) ((rd_T72 ab aa).f2) ((rd_T72 ab aa).f3)=some r)∧Fc (kq≤k1)∧Fc (Kd.R k50 50 wc w.heap.size (fun _=>True) v0 ak)∧Fc (Kd.R k72 72 wc w.heap.size (fun k_=>k_≠ae) (.slice (some a6) ab.length br) ab)∧Fc (wc.heap[aT]? = some (.cells #[(.slice A1_0 l1_0.length c1_0),(.slice A1_1 l1_1.length c1_1)] 34 (0,0)))∧Fc (wc.heap[ae]? = some (.cells #[.int .i64 ((rd_T72 ab aa).f0),.string ((rd_T72 ab aa).f1),.string ((rd_T72 ab aa).f2),.bool ((rd_T72 ab aa).f3)] 72 (0,0)))∧Fc (Below w.heap.size w wc))
        case first=>
         have H:=HC16.out
         clear HC16
         by_cases bq:bt=true
         ·subst bq
          rw [if_pos rfl] at H
          replace H:=ob_ H
          obtain ⟨bu,cg,H⟩:=H
          try dsimp only at H
          have H':=mk0 H
          clear H
          go_wp2_with (first|((with_reducible refine gate_callee (f:=73) rfl ?_);refine gL_ (some 36) Tryz.func73 #[.slice aM al.length ay,.int .i64 an,.int .i64 (wrap64 (an + 1))] (h:=?_);(with_reducible refine (Gy.calls (fun k_=>some k_=(.slice aM al.length ay:Value).ownBlock) (.slice aM al.length ay) al an (wrap64 (an + 1)) bu w _ ?side1 ?side2 cg.out).mono ?_);(case side1=>repeat (first|(with_reducible first|exact HB.out|apply bL_|apply pN_|apply b1_|refine bs_ ?_ aU.out|refine bs_ ?_ aD.out)|exact HB.out));(case side2=>exact Kd.R_tight rfl ag.out);rintro e cw ⟨cq,rfl,ho0,hb,hkp⟩;refine ⟨_,rfl,?_⟩;replace ah:=mk0 (Kd.R_mono (ok':=fun k_=>k_≠ae) (Kd.R_keptB ((Kd.R_apart' ah.out (Kd.R_typed ag.out) (by decide))) hkp (fun k_ hk_ hs_=>(hk_.2) hs_)) (fun k_ hk_=>hk_.1.1.2));replace ac:=mk0 (blk_kept (h_ ac) hkp (fun hs_=>(fun e_=>(Kd.R_ne ag.out ac.out (by decide)) e_) hs_));replace ai:=mk0 (blk_kept (h_ ai) hkp (fun hs_=>(fun e_=>(Kd.R_ne ag.out ai.out (by decide)) e_) hs_));have bD:=mk0 (Kd.R_mono (ok':=fun k_=>True) ho0 (fun k_ hk_=>trivial));replace HB:=mk0 (hb);clear ag;(try clear hb);(try clear hkp);(try clear ho0)))
          go_meet
          case rel=>exact ⟨_,(bu),H',⟨by have:=aq.out;first|omega|exact Nat.le_refl _⟩,⟨r2_ bD.out⟩,⟨r2_ ah.out⟩,⟨h_ ac⟩,⟨h_ ai⟩,⟨b_ HB⟩⟩
         ·replace bq:=Bool.eq_false_iff.mpr bq
          subst bq
          rw [if_neg nf_] at H
          have H':=mk0 H
          clear H
          go_wp2
          go_meet
          case rel=>exact ⟨_,(al),H',⟨by have:=aq.out;first|omega|exact Nat.le_refl _⟩,⟨r2_ ag.out⟩,⟨rM_ ah⟩,⟨h_ ac⟩,⟨h_ ai⟩,⟨b_ HB⟩⟩
        case rest=>
         clear HC16
         try clear aC
         try clear aX
         try clear aY
         try clear bA
         try clear aZ
         try clear bB
         try clear ar
         try clear a4
         try clear a5
         try clear bc
         try clear bd
         try clear be
         try clear bf
         try clear aH
         try clear aI
         try clear bg
         try clear bh
         try clear bi
         try clear bj
         try clear aJ
         try clear aK
         try clear au
         try clear av
         try clear aw
         try clear ax
         try clear ao
         try clear ap
         obtain ⟨kq,ak,HA,aN,ag,ah,ac,ai,HB⟩:=hcut
         cases kq with
         | zero=>exact absurd HA.out (by simp [Fo.j1])
         | succ bk=>
          have H:=HA.out
          clear HA
          simp only [Fo.j1] at H
          as_aux_lemma=>
           by_cases aR:((rd_T72 ab aa).f3)=true
           ·rw [if_pos aR] at H
            have bE:((rd_T72 ab aa).f3)=true:=aR
            clear aR
            have H':=mk0 H
            clear H
            have ch:=aj.out
            have ci:=af.out
            obtain ⟨bL,bM,bN,bO,bP,bQ,bR,bS⟩:=c4_ ai
            go_wp2
            go_roundg bk
            case measure=>have:=aq.out;have:=aN.out;omega
            case rel=>exact ⟨(ak),(wrap64 (aa + 1)),sm_,H',⟨by have:=aq.out;have:=aN.out;omega⟩,⟨r2_ ag.out⟩,⟨rM_ ah⟩,⟨h_ ac⟩,⟨b_ HB⟩⟩
           ·rw [if_neg aR] at H
            have bE:((rd_T72 ab aa).f3)=false:=by simpa using aR
            clear aR
            obtain ⟨az,aE⟩:∃ y_:List (S50),y_=(([(⟨((rd_T72 ab aa).f1),((rd_T72 ab aa).f2)⟩:S50)]:List (S50))):=⟨_,rfl⟩
            replace H:((F3.f ak an az).bind fun aQ=>(Fo.l0 bk aQ a2 ab (ab.length:Int) (wrap64 (aa + 1))))=some r:=rp_ H aE
            have bl:=mk0 aE
            clear aE
            replace H:=ob_ H
            obtain ⟨aQ,cj,H⟩:=H
            try dsimp only at H
            have H':=mk0 H
            clear H
            have ck:=aj.out
            have cl:=af.out
            obtain ⟨bT,bU,bV,bW,bX,bY,bZ,b0⟩:=c4_ ai
            go_wp2_with (first|((with_reducible refine gate_dst (N:=47) rfl ?_);refine Kd.R_lit k50 _ 50 ?hg (N:=47) ?hd (xs:=([(⟨((rd_T72 ab aa).f1),((rd_T72 ab aa).f2)⟩:S50)]:List (S50))) (inner:=[.string ((rd_T72 ab aa).f1),.string ((rd_T72 ab aa).f2)]) (ok:=fun _=>True) (okp:=fun _=>True) ?hr ?hp (fun _ hk=>hk) trivial (Below.refl _ _) (Nat.le_refl _) (by simp) ?_;(case hd=>rfl);(case hg=>rfl);(case hr=>first|(go_simp;done)|(go_simp;rfl));(case hp=>exact (Reps.c2 (show Kd.M k50 _ _ _ (⟨((rd_T72 ab aa).f1),((rd_T72 ab aa).f2)⟩:S50) [.string ((rd_T72 ab aa).f1),.string ((rd_T72 ab aa).f2)] from (k50_mkM _ _ _ (⟨((rd_T72 ab aa).f1),((rd_T72 ab aa).f2)⟩:S50) )) (Reps.none _ _)));intro cr cx ho32 hb hg_ hnew_;clear hg_ hnew_;(first|rw [← bl.out] at ho32|(simp only [Int.reduceToNat] at ho32;rw [← bl.out] at ho32));have ny2_:=mk0 (Kd.R_lower (Kd.R_new' ho32 (Kd.R_lt (r_ ag))) (bz_ (b_ HB)));replace ag:=mk0 (Kd.R_elder' (r_ ag) (Kd.R_base ho32) hb);replace ah:=mk0 (Kd.R_below (r_ ah) hb);replace ac:=mk0 (u_ ac hb);replace ai:=mk0 (u_ ai hb);replace HB:=mk0 (bt_ (b_ HB) hb);have am:=ny2_;clear ny2_ hb ho32;obtain ⟨bm,bn,b1⟩:=Kd.R_slice ag.out;subst b1;obtain ⟨bo,bp,b2⟩:=Kd.R_slice am.out;subst b2)|((with_reducible refine gate_callee (f:=74) rfl ?_);refine gL_ (some 48) Tryz.func74 #[.slice bm ak.length bn,.int .i64 an,.slice bo az.length bp] (h:=?_);(with_reducible refine (F3.calls (fun k_=>some k_=(.slice bm ak.length bn:Value).ownBlock) (.slice bm ak.length bn) ak an (fun k_=>some k_=(.slice bo az.length bp:Value).ownBlock) (.slice bo az.length bp) az aQ w _ ?side1 ?side2 ?side3 ?side4 ?side5 cj.out).mono ?_);(case side1=>repeat (first|(with_reducible first|exact HB.out|apply bL_|apply pN_|apply b1_|refine bs_ ?_ aU.out|refine bs_ ?_ aD.out)|exact HB.out));(case side2=>exact Kd.R_tight rfl ag.out);(case side3=>exact fun k_ e_=>(ag.out.1 k_ e_.symm).2);(case side4=>exact Kd.R_tight rfl am.out);(case side5=>exact fun k_ e_=>(am.out.1 k_ e_.symm).2);rintro e cy ⟨ct,rfl,ho0,hb,hkp⟩;refine ⟨_,rfl,?_⟩;replace ah:=mk0 (Kd.R_mono (ok':=fun k_=>k_≠ae) (Kd.R_keptB ((Kd.R_apart' (Kd.R_apart' ah.out (Kd.R_typed ag.out) (by decide)) (Kd.R_typed am.out) (by decide))) hkp (fun k_ hk_ hs_=>Or.elim hs_ (fun e_=>(hk_.1.2) e_) (fun e_=>(hk_.2) e_))) (fun k_ hk_=>hk_.1.1.1));replace ac:=mk0 (blk_kept (h_ ac) hkp (fun hs_=>Or.elim hs_ (fun e_=>(fun e_=>(Kd.R_ne ag.out ac.out (by decide)) e_) e_) (fun e_=>(fun e_=>(Kd.R_ne am.out ac.out (by decide)) e_) e_)));replace ai:=mk0 (blk_kept (h_ ai) hkp (fun hs_=>Or.elim hs_ (fun e_=>(fun e_=>(Kd.R_ne ag.out ai.out (by decide)) e_) e_) (fun e_=>(fun e_=>(Kd.R_ne am.out ai.out (by decide)) e_) e_)));have bF:=mk0 (Kd.R_mono (ok':=fun k_=>True) ho0 (fun k_ hk_=>trivial));replace HB:=mk0 (hb);clear am ag;(try clear hb);(try clear hkp);(try clear ho0)))
            go_roundg bk
            case measure=>have:=aq.out;have:=aN.out;omega
            case rel=>exact ⟨(aQ),(wrap64 (aa + 1)),sm_,H',⟨by have:=aq.out;have:=aN.out;omega⟩,⟨r2_ bF.out⟩,⟨rM_ ah⟩,⟨h_ ac⟩,⟨b_ HB⟩⟩
       ·rw [if_neg ar] at H
        have a4:=beq_eq_false_iff_ne.mpr ar
        have a5:=bne_iff_ne.mpr ar
        have H':=mk0 H
        clear H
        have ao:0≤(aa:Int):=od_
        have ap:aa<(ab.length:Int):=od_
        (try (obtain ⟨Aq_,cq_,eq_⟩:=Kd.R_slice ah.out;subst eq_))
        obtain ⟨a6,a7,au,av,aw,ax⟩:=at_T72 (Kd.R_reads' ah.out).2.2 aa ao ap
        cases a7
        replace ao:=eq_true ao
        replace ap:=eq_true ap
        go_wp2_with (first|((with_reducible refine gate_dst (N:=8) rfl ?_);refine bx_ (N:=8) (cs:=#[.int .i64 0,.string (⟨#[]⟩:ByteArray),.string (⟨#[]⟩:ByteArray),.bool false]) (t:=72) (h:=?_);intro ae hg cz hbox hb;have a8:=mk0 (gz_ HB hg);have a9:=mk0 (gz_ HB hg);have ba:=mk0 (ne1_ ac hg);have bb:=mk0 (ne2_ ac hg);replace ag:=mk0 (Kd.R_below (r_ ag) hb);replace ah:=mk0 (Kd.R_below (Kd.R_elderB (r_ ah) ae (Nat.le_of_eq hg.symm)) hb);replace ac:=mk0 (u_ ac hb);replace HB:=mk0 (bt_ (b_ HB) hb);have ai:=mk0 (hbox);have bC:=a8;have aD:=a9;have af:=ba;have aj:=bb;clear a8 a9 ba bb hb hbox hg;have cm:=aj.out;have cn:=af.out;obtain ⟨b3,b4,b5,b6,b7,b8,b9,ca⟩:=c4_ ai))
        go_roundg k1
        case measure=>have:=aq.out;omega
        case rel=>exact ⟨(al),(wrap64 (aa + 1)),sm_,H',⟨by have:=aq.out;omega⟩,⟨by (with_reducible repeat (first|apply Ra_|apply Rn_|apply Rd_));exact Kd.R_mono (Kd.R_far (p:=⟨ae,3,none⟩) (Kd.R_far (p:=⟨ae,2,none⟩) (Kd.R_far (p:=⟨ae,1,none⟩) (Kd.R_far (p:=⟨ae,0,none⟩) (Kd.R_types ag.out ai.out (by decide)) (fun _ hk=>hk.2) (.int .i64 ((rd_T72 ab aa).f0))) (fun _ hk=>hk.2) (.string ((rd_T72 ab aa).f1))) (fun _ hk=>hk.2) (.string ((rd_T72 ab aa).f2))) (fun _ hk=>hk.2) (.bool ((rd_T72 ab aa).f3))) (fun _ hk=>trivial)⟩,⟨by (with_reducible repeat (first|apply Ra_|apply Rn_|apply Rd_));exact Kd.R_mono (Kd.R_far (p:=⟨ae,3,none⟩) (Kd.R_far (p:=⟨ae,2,none⟩) (Kd.R_far (p:=⟨ae,1,none⟩) (Kd.R_far (p:=⟨ae,0,none⟩) (Kd.R_mono ah.out (fun k_ hk=>(⟨hk,hk.2⟩:_∧k_≠ae))) (fun _ hk=>hk.2) (.int .i64 ((rd_T72 ab aa).f0))) (fun _ hk=>hk.2) (.string ((rd_T72 ab aa).f1))) (fun _ hk=>hk.2) (.string ((rd_T72 ab aa).f2))) (fun _ hk=>hk.2) (.bool ((rd_T72 ab aa).f3))) (fun _ hk=>trivial)⟩,⟨(fa_ (fa_ (fa_ (fa_ (h_ ac) af.out) af.out) af.out) af.out)⟩,⟨b_ HB⟩⟩
      ·rw [if_neg aZ] at H
       exact absurd H (by simp)
     ·rw [if_neg aY] at H
      exact absurd H (by simp)
    ·rw [if_neg aC] at H
     have aX:=decide_eq_false aC
     clear aC
     obtain rfl:=Option.some.inj H
     go_wp2
     go_ret
     exact ⟨_,sa_,by (with_reducible repeat (first|apply Ra_|apply Rn_|apply Rd_));exact ag.out,b_ HB⟩
def FM.l0:Nat→Int→List (S50)→List (S83)→Int→Int→Option ((List (S50)))
 | 0,_,_,_,_,_=>none
 | k + 1,d,c,b,e,a=>if a<e then (if 0≤a then (if a<(b.length:Int) then ((FD.f k ((rd_T83 b a).f0) ((rd_T83 b a).f1) d).bind fun g=>(if g.2.2.2=true then (if c.length<4398046511104 then (FM.l0 k d (c ++ [(⟨(rd_T83 b a).f0,g.2.1⟩:S50)]) b e (wrap64 (a + 1))) else (none)) else (FM.l0 k d c b e (wrap64 (a + 1))))) else (none)) else (none)) else (some c)
def FM.f (k:Nat) (l0_0:List (S83)) (a1:Int):Option ((List (S50))):=FM.l0 k a1 ([]:List (S50)) l0_0 (l0_0.length:Int) 0
theorem FM.mono_l:∀ k,(∀ y0 y1 y2 y3 y4,LeO (FM.l0 k y0 y1 y2 y3 y4) (FM.l0 (k + 1) y0 y1 y2 y3 y4))
 | 0=>fun _ _ _ _ _ r h=>by simp [FM.l0] at h
 | k + 1=>by
  have ih0:=FM.mono_l k
  have:=@FD.mono
  all_goals (intros;first|unfold FM.l0)
  all_goals exact mz_
theorem FM.mono:∀ a0 a1 k,LeO (FM.f k a0 a1) (FM.f (k + 1) a0 a1):=by
 intro a0 a1 k
 have ih0:=FM.mono_l k
 have:=@FD.mono
 unfold FM.f
 exact mz_
theorem FM.calls (k:Nat) (A0_0:Option Addr) (c0_0:Nat) (l0_0:List (S83)) (a1:Int) (r:List (S50)) (w:World) (hr0_0:Kd.C k83 w A0_0 l0_0.length l0_0) (hc0_0:l0_0.length≤c0_0) (h:FM.f k l0_0 a1=some r) :
 Calls Tryz.prog 45 #[.agg #[.slice A0_0 l0_0.length c0_0],.int .i64 a1] w fun e w'=>∃ v0_:Value,e = .returned (v0_)∧Kd.R k50 50 w' w.heap.size (fun _=>True) v0_ r∧Below w.heap.size w w':=by
 have hu43:=Tryz.underlying43
 have hu83:=Tryz.underlying83
 have hu78:=Tryz.underlying78
 have hu50:=Tryz.underlying50
 have aM:=mk0 hr0_0
 have bF:=mk0 hc0_0
 clear hr0_0 hc0_0
 have HB:=mk0 (Below.refl w.heap.size w)
 have H:(FM.l0 k a1 ([]:List (S50)) l0_0 (l0_0.length:Int) 0)=some r:=h
 clear h
 have H':=mk0 H
 clear H
 go_enter Tryz.func45,Tryz.ntmps45
 go_wp2_with (first|((with_reducible refine gate_dst (N:=2) rfl ?_);refine bx_ (N:=2) (cs:=#[.slice A0_0 l0_0.length c0_0]) (t:=43) (h:=?_);intro aN hg w3 hbox hb;have ny2_:=mk0 (gz_ HB hg);have bc:=mk0 (gz_ HB hg);replace HB:=mk0 (bt_ (b_ HB) hb);have ab:=mk0 (hbox);have bG:=ny2_;have bH:=bc;clear ny2_ bc hb hbox hg;obtain ⟨aX,aY⟩:=c1_ ab))
 go_loopg [4,12] k (fun kq v4 v12 w'=>∃ (ax:List (S50)) (aa:Int),v12 = .int .i64 aa∧Fc (FM.l0 kq a1 ax l0_0 (l0_0.length:Int) aa=some r)∧Fc (kq≤k)∧Fc (Kd.R k50 50 w' w.heap.size (fun _=>True) v4 ax)∧Fc (w'.heap[aN]? = some (.cells #[(.slice A0_0 l0_0.length c0_0)] 43 (0,0)))∧Fc (Below w.heap.size w w'))
 case atStart=>exact ⟨(([]:List (S50))),(0),sm_,H',⟨Nat.le_refl _⟩,⟨nl_⟩,⟨h_ ab⟩,⟨b_ HB⟩⟩
 case round=>
  clear H'
  try clear aX
  try clear aY
  obtain ⟨ax,aa,rfl,HA,aZ,af,ab,HB⟩:=hrel
  cases gk with
  | zero=>exact absurd HA.out (by simp [FM.l0])
  | succ k1=>
   have H:=HA.out
   clear HA
   simp only [FM.l0] at H
   as_aux_lemma=>
    by_cases c5:aa<(l0_0.length:Int)
    ·rw [if_pos c5] at H
     have bd:=decide_eq_true c5
     clear c5
     by_cases c6:0≤aa
     ·rw [if_pos c6] at H
      have bU:=decide_eq_true c6
      clear c6
      by_cases c7:aa<(l0_0.length:Int)
      ·rw [if_pos c7] at H
       have bV:=decide_eq_true c7
       clear c7
       replace H:=ob_ H
       obtain ⟨⟨ay,ar,aI,be⟩,A8,H⟩:=H
       try dsimp only at H
       by_cases c9:be=true
       ·subst c9
        rw [if_pos rfl] at H
        by_cases a4:ax.length<4398046511104
        ·rw [if_pos a4] at H
         have LMc10:=mk0 a4
         clear a4
         obtain ⟨a5,aK⟩:∃ y_:List (S50),y_=(ax ++ [(⟨(rd_T83 l0_0 aa).f0,ar⟩:S50)]):=⟨_,rfl⟩
         replace H:(FM.l0 k1 a1 a5 l0_0 (l0_0.length:Int) (wrap64 (aa + 1)))=some r:=rp_ H aK
         have a6:=mk0 aK
         clear aK
         have H':=mk0 H
         clear H
         have az:0≤(aa:Int):=od_
         have aA:aa<(l0_0.length:Int):=od_
         obtain ⟨aQ,ai,aj,aR,ak,al,am,an⟩:=at_T83 aM.out aa az aA
         cases aR
         replace ak:=(bc_ HB ak :)
         replace al:=(bc_ HB al :)
         have aC:=mk0 an
         have aD:=mk0 am
         clear an am
         replace az:=eq_true az
         replace aA:=eq_true aA
         go_wp2_with (first|((with_reducible refine gate_dst (N:=6) rfl ?_);refine bx_ (N:=6) (cs:=#[.string (⟨#[]⟩:ByteArray),.slice none 0 0]) (t:=83) (h:=?_);intro ao hg bX hbox hb;have aT:=mk0 (gz_ HB hg);have aE:=mk0 (gz_ HB hg);have aG:=mk0 (ne1_ ab hg);have aH:=mk0 (ne2_ ab hg);replace af:=mk0 (Kd.R_below (r_ af) hb);replace ab:=mk0 (u_ ab hb);replace HB:=mk0 (bt_ (b_ HB) hb);have ac:=mk0 (hbox);have a7:=aT;have a8:=aE;have ag:=aG;have au:=aH;clear aT aE aG aH hb hbox hg;have bI:=au.out;have bJ:=ag.out;obtain ⟨bf,bg,bh,bi⟩:=c2_ ac)|((with_reducible refine gate_callee (f:=75) rfl ?_);refine gL_ (some 19) Tryz.func75 #[.agg #[.string ((rd_T83 l0_0 aa).f0),.slice ai ((rd_T83 l0_0 aa).f1).length aj],.int .i64 a1] (h:=?_);(with_reducible refine (FD.calls k1 ((rd_T83 l0_0 aa).f0) _ _ ((rd_T83 l0_0 aa).f1) a1 ay ar aI true _ ?side1 ?side2 A8.out).mono ?_);(case side1=>exact Kd.C_below aC.out (b_ HB));(case side2=>exact aD.out);rintro e bY ⟨rfl,hb⟩;refine ⟨_,rfl,?_⟩;have aU:=mk0 (Kd.R_below (r2_ (Kd.R_mono (Kd.R_far (p:=⟨ao,1,none⟩) (Kd.R_far (p:=⟨ao,0,none⟩) (Kd.R_types af.out ac.out (by decide)) (fun _ hk=>hk.2) (.string ((rd_T83 l0_0 aa).f0))) (fun _ hk=>hk.2) (.slice ai ((rd_T83 l0_0 aa).f1).length aj)) (fun _ h_=>h_.1))) hb);replace ab:=mk0 (blk_below (fa_ (fa_ (h_ ab) ag.out) ag.out) hb);replace ac:=mk0 (blk_below (g:=ao) (o:=.cells #[.string ((rd_T83 l0_0 aa).f0),.slice ai ((rd_T83 l0_0 aa).f1).length aj] 83 (0,0)) (pu_ (cs:=#[.string ((rd_T83 l0_0 aa).f0),.slice none 0 0]) (pu_ (cs:=#[.string (⟨#[]⟩:ByteArray),.slice none 0 0]) (h_ ac))) hb);replace HB:=mk0 (bt_ (b_ HB) hb);clear af;have af:=aU;clear aU;(try clear hb))|((with_reducible refine gate_dst (N:=7) rfl ?_);refine bx_ (N:=7) (cs:=#[.int .i64 0,.string (⟨#[]⟩:ByteArray),.bool false]) (t:=78) (h:=?_);intro ap hg bZ hbox hb;have aE:=mk0 (gz_ HB hg);have aG:=mk0 (gz_ HB hg);have aH:=mk0 (ne1_ ab hg);have aV:=mk0 (ne2_ ab hg);have aW:=mk0 (ne1_ ac hg);have aJ:=mk0 (ne2_ ac hg);replace af:=mk0 (Kd.R_below (r_ af) hb);replace ab:=mk0 (u_ ab hb);replace ac:=mk0 (u_ ac hb);replace HB:=mk0 (bt_ (b_ HB) hb);have aq:=mk0 (hbox);have a9:=aE;have ba:=aG;have ae:=aH;have av:=aV;have ah:=aW;have aw:=aJ;clear aE aG aH aV aW aJ hb hbox hg;have bK:=av.out;have bL:=ae.out;have bM:=aw.out;have bN:=ah.out;obtain ⟨bj,bk,bl,bm,bn,bo⟩:=c3_ aq;obtain ⟨bp,bq,br,bt⟩:=c2_ ac)|((with_reducible refine gate_builtin (b:=.append) (xs:=#[.tmp 23,.tmp 29]) rfl ?_);at_builtin;refine Kd.R_append k50 (w0:=w) w.heap.size rfl (.tmp 23) (.tmp 29) 38 50 (.agg #[(.string ⟨#[]⟩),(.string ⟨#[]⟩)]) 32 rfl Tryz.underlying38 info50 rfl (by decide) (by omega) u4 ax (⟨(rd_T83 l0_0 aa).f0,ar⟩:S50) [.string ((rd_T83 l0_0 aa).f0),.string ar] (fun _=>True) (fun _=>False) rfl (by first|(go_simp;done)|(go_simp;rfl)) ?aP (fun _ hk=>hk.elim) ?aF ?aO ?aB ?aS ?aL ?_;(case aP=>exact k50_mkM _ _ _ (⟨(rd_T83 l0_0 aa).f0,ar⟩:S50));(case aB=>exact (b_ HB));(case aF=>exact (fun _ _=>trivial));(case aO=>exact (r2_ (Kd.R_mono (Kd.R_far (p:=⟨ap,2,none⟩) (Kd.R_far (p:=⟨ap,1,none⟩) (Kd.R_far (p:=⟨ap,0,none⟩) (Kd.R_types af.out aq.out (by decide)) (fun _ hk=>hk.2) (.int .i64 ay)) (fun _ hk=>hk.2) (.string ar)) (fun _ hk=>hk.2) (.bool aI)) (fun _ hk=>trivial))));(case aS=>exact (bz_ (b_ HB)));(case aL=>have:=LMc10.out;omega);intro bW b0 ho hb hg hat;rw [← a6.out] at ho;replace ab:=mk0 (blk_grown (g:=aN) (o:=.cells #[.slice (some aQ) l0_0.length c0_0] 43 (0,0)) (fa_ (fa_ (fa_ (h_ ab) ae.out) ae.out) ae.out) hg (Kd.R_ne af.out ab.out (by decide)));replace ac:=mk0 (blk_grown (g:=ao) (o:=.cells #[.string ((rd_T83 l0_0 aa).f0),.slice ai ((rd_T83 l0_0 aa).f1).length aj] 83 (0,0)) (fa_ (fa_ (fa_ (h_ ac) ah.out) ah.out) ah.out) hg (Kd.R_ne af.out ac.out (by decide)));replace aq:=mk0 (blk_grown (g:=ap) (o:=.cells #[.int .i64 ay,.string ar,.bool aI] 78 (0,0)) (pu_ (cs:=#[.int .i64 ay,.string ar,.bool false]) (pu_ (cs:=#[.int .i64 ay,.string (⟨#[]⟩:ByteArray),.bool false]) (pu_ (cs:=#[.int .i64 0,.string (⟨#[]⟩:ByteArray),.bool false]) (h_ aq)))) hg (Kd.R_ne af.out aq.out (by decide)));replace HB:=mk0 (hb);have bb:=mk0 (ho);clear af;clear ho hb hg hat))
         go_roundg k1
         case measure=>have:=aZ.out;omega
         case rel=>exact ⟨(a5),(wrap64 (aa + 1)),sm_,H',⟨by have:=aZ.out;omega⟩,⟨r2_ bb.out⟩,⟨h_ ab⟩,⟨b_ HB⟩⟩
        ·rw [if_neg a4] at H
         exact absurd H (by simp)
       ·replace c9:=Bool.eq_false_iff.mpr c9
        subst c9
        rw [if_neg nf_] at H
        have H':=mk0 H
        clear H
        have az:0≤(aa:Int):=od_
        have aA:aa<(l0_0.length:Int):=od_
        obtain ⟨aQ,ai,aj,aR,ak,al,am,an⟩:=at_T83 aM.out aa az aA
        cases aR
        replace ak:=(bc_ HB ak :)
        replace al:=(bc_ HB al :)
        have aC:=mk0 an
        have aD:=mk0 am
        clear an am
        replace az:=eq_true az
        replace aA:=eq_true aA
        go_wp2_with (first|((with_reducible refine gate_dst (N:=6) rfl ?_);refine bx_ (N:=6) (cs:=#[.string (⟨#[]⟩:ByteArray),.slice none 0 0]) (t:=83) (h:=?_);intro ao hg b1 hbox hb;have aT:=mk0 (gz_ HB hg);have aE:=mk0 (gz_ HB hg);have aG:=mk0 (ne1_ ab hg);have aH:=mk0 (ne2_ ab hg);replace af:=mk0 (Kd.R_below (r_ af) hb);replace ab:=mk0 (u_ ab hb);replace HB:=mk0 (bt_ (b_ HB) hb);have ac:=mk0 (hbox);have a7:=aT;have a8:=aE;have ag:=aG;have au:=aH;clear aT aE aG aH hb hbox hg;have bO:=au.out;have bP:=ag.out;obtain ⟨bu,bv,bw,bx⟩:=c2_ ac)|((with_reducible refine gate_callee (f:=75) rfl ?_);refine gL_ (some 19) Tryz.func75 #[.agg #[.string ((rd_T83 l0_0 aa).f0),.slice ai ((rd_T83 l0_0 aa).f1).length aj],.int .i64 a1] (h:=?_);(with_reducible refine (FD.calls k1 ((rd_T83 l0_0 aa).f0) _ _ ((rd_T83 l0_0 aa).f1) a1 ay ar aI false _ ?side1 ?side2 A8.out).mono ?_);(case side1=>exact Kd.C_below aC.out (b_ HB));(case side2=>exact aD.out);rintro e b2 ⟨rfl,hb⟩;refine ⟨_,rfl,?_⟩;have aU:=mk0 (Kd.R_below (r2_ (Kd.R_mono (Kd.R_far (p:=⟨ao,1,none⟩) (Kd.R_far (p:=⟨ao,0,none⟩) (Kd.R_types af.out ac.out (by decide)) (fun _ hk=>hk.2) (.string ((rd_T83 l0_0 aa).f0))) (fun _ hk=>hk.2) (.slice ai ((rd_T83 l0_0 aa).f1).length aj)) (fun _ h_=>h_.1))) hb);replace ab:=mk0 (blk_below (fa_ (fa_ (h_ ab) ag.out) ag.out) hb);replace ac:=mk0 (blk_below (g:=ao) (o:=.cells #[.string ((rd_T83 l0_0 aa).f0),.slice ai ((rd_T83 l0_0 aa).f1).length aj] 83 (0,0)) (pu_ (cs:=#[.string ((rd_T83 l0_0 aa).f0),.slice none 0 0]) (pu_ (cs:=#[.string (⟨#[]⟩:ByteArray),.slice none 0 0]) (h_ ac))) hb);replace HB:=mk0 (bt_ (b_ HB) hb);clear af;have af:=aU;clear aU;(try clear hb))|((with_reducible refine gate_dst (N:=7) rfl ?_);refine bx_ (N:=7) (cs:=#[.int .i64 0,.string (⟨#[]⟩:ByteArray),.bool false]) (t:=78) (h:=?_);intro ap hg b3 hbox hb;have aE:=mk0 (gz_ HB hg);have aG:=mk0 (gz_ HB hg);have aH:=mk0 (ne1_ ab hg);have aV:=mk0 (ne2_ ab hg);have aW:=mk0 (ne1_ ac hg);have aJ:=mk0 (ne2_ ac hg);replace af:=mk0 (Kd.R_below (r_ af) hb);replace ab:=mk0 (u_ ab hb);replace ac:=mk0 (u_ ac hb);replace HB:=mk0 (bt_ (b_ HB) hb);have aq:=mk0 (hbox);have a9:=aE;have ba:=aG;have ae:=aH;have av:=aV;have ah:=aW;have aw:=aJ;clear aE aG aH aV aW aJ hb hbox hg;have bQ:=av.out;have bR:=ae.out;have bS:=aw.out;have bT:=ah.out;obtain ⟨bz,bA,bB,bC,bD,bE⟩:=c3_ aq))
        go_roundg k1
        case measure=>have:=aZ.out;omega
        case rel=>exact ⟨(ax),(wrap64 (aa + 1)),sm_,H',⟨by have:=aZ.out;omega⟩,⟨by (with_reducible repeat (first|apply Ra_|apply Rn_|apply Rd_));exact Kd.R_mono (Kd.R_far (p:=⟨ap,2,none⟩) (Kd.R_far (p:=⟨ap,1,none⟩) (Kd.R_far (p:=⟨ap,0,none⟩) (Kd.R_types af.out aq.out (by decide)) (fun _ hk=>hk.2) (.int .i64 ay)) (fun _ hk=>hk.2) (.string ar)) (fun _ hk=>hk.2) (.bool aI)) (fun _ hk=>trivial)⟩,⟨(fa_ (fa_ (fa_ (h_ ab) ae.out) ae.out) ae.out)⟩,⟨b_ HB⟩⟩
      ·rw [if_neg c7] at H
       exact absurd H (by simp)
     ·rw [if_neg c6] at H
      exact absurd H (by simp)
    ·rw [if_neg c5] at H
     have bd:=decide_eq_false c5
     clear c5
     obtain rfl:=Option.some.inj H
     go_wp2
     go_ret
     exact ⟨_,sa_,by (with_reducible repeat (first|apply Ra_|apply Rn_|apply Rd_));exact af.out,b_ HB⟩
end Go.Proofs.YtbaecdcfefmcgaaGreat.PVrd
