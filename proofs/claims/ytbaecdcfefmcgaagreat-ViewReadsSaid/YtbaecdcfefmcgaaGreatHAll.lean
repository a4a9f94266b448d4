import Derived.Test.YtbaecdcfefmcgaaGreatPVrdx0
import Derived.Test.YtbaecdcfefmcgaaGreatHCopy
import Derived.Test.YtbaecdcfefmcgaaGreatShelfP
namespace Go.Proofs.YtbaecdcfefmcgaaGreat.HAll
open Go.Shelf Go.Lib Go.Sort Go.RowKit Go.Proofs.YtbaecdcfefmcgaaGreatW.PrintWords Go.Proofs.YtbaecdcfefmcgaaGreatW.PrintLast Go.Proofs.YtbaecdcfefmcgaaGreatW.PrintMore Go.Proofs.YtbaecdcfefmcgaaGreat.PVrd Go.Proofs.YtbaecdcfefmcgaaGreat.HCopy Go.Proofs
set_option linter.unusedSimpArgs false
set_option linter.unusedVariables false
def cloneW.f (l0:List (S72)):Option (List (S72)):=if l0.length<2932031007402 then some l0 else none
theorem kd_empty_72 (w:World):k72.R 72 (w.alloc (.cells #[] 72)) w.heap.size (fun _=>True) (.slice (some ⟨w.heap.size,0,none⟩) 0 0) []:=by
 refine ⟨fun _ _=>trivial,[],⟨by simp,.inr ⟨w.heap.size,0,#[],rfl,Nat.le_refl _,heap_alloc_new w _,Nat.le_refl _,by decide,by simp,by simp⟩⟩,?_⟩
 exact Reps.none _ _
set_option maxHeartbeats 800000 in
set_option maxRecDepth 100000 in
theorem cloneW.calls (A0:Option Addr) (c0:Nat) (l0:List (S72)) (r:List (S72)) (w:World) (hr0:Kd.C k72 w A0 l0.length l0) (hc0:l0.length≤c0) (h:cloneW.f l0=some r) :
 Calls Tryz.prog 89 #[.slice A0 l0.length c0] w fun e w'=>∃ v0_:Value,e = .returned (v0_)∧Kd.R k72 72 w' w.heap.size (fun _=>True) v0_ r∧Below w.heap.size w w':=by
 have HC0:=Aside0.mk hc0
 clear hc0
 unfold cloneW.f at h
 split at h
 ·obtain rfl:=Option.some.inj h
  rename_i hlt
  clear h
  rcases A0 with _|ad
  ·have hl:l0=[]:=by
    rcases Nat.eq_zero_or_pos l0.length with h0|h0
    ·exact List.eq_nil_of_length_eq_zero h0
    ·obtain ⟨ad,e,_⟩:=hr0.2.2 h0
     cases e
   subst hl
   have HN:=fun w:World=>Lib.run_eql_slice_nil (P:=Tryz.prog) w 32 72 none 0 c0 0 0 Tryz.underlying32
   go_enter Tryz.func89,Tryz.ntmps89
   go_wp2
   go_ret
   exact ⟨_,rfl,Kd.R_nil _ _ _ _ _,Below.refl _ _⟩
  ·have HN:=fun w:World=>Lib.run_eql_slice_nil (P:=Tryz.prog) w 32 72 (some ad) l0.length c0 0 0 Tryz.underlying32
   have HR0:=Aside0.mk hr0
   clear hr0
   have HO:=Aside0.mk (kd_empty_72 w)
   go_enter Tryz.func89,Tryz.ntmps89
   go_wp2_with (first|((with_reducible refine gate_builtin (b:=.append) (xs:=#[.tmp 5,.tmp 6]) rfl ?_);at_builtin;refine Kd.R_append_rows k72 (w0:=w) w.heap.size rfl (.tmp 5) (.tmp 6) 32 72 (Value.agg #[(.int .i64 0),(.string ⟨#[]⟩),(.string ⟨#[]⟩),(.bool false)]) 48 rfl Tryz.underlying32 info72 rfl (by decide) (by omega) (.slice (some ⟨w.heap.size,0,none⟩) 0 0) ([]:List (S72)) l0 _ _ _ (fun _=>True) (fun _=>False) rfl rfl ?aO ?aR (fun _ _ h=>h) (fun _ h=>h.elim) ?aF ?aB ?aS ?aL ?_;(case aR=>exact (Kd.C_below HR0.out (below_alloc (Below.refl _ _) _)));(case aB=>exact (below_alloc (Below.refl _ _) _));(case aF=>exact (fun _ _=>trivial));(case aO=>exact HO.out);(case aS=>simp);(case aL=>simp;omega);intro v1 w1 ho hb hg hat;clear hg hat))
   go_ret
   exact ⟨_,rfl,ho,hb⟩
 ·cases h
section
variable {α:Type} [Inhabited α] (eq:α→α→Bool) (d:Array α)
def kp (j:Nat):Bool:=j == 0 || !(eq d[j]! d[j - 1]!)
def cmpUp (n:Nat):List α:=((List.range n).filter (kp eq d)).map (fun j=>d[j]!)
theorem cmpUp_succ (n:Nat):cmpUp eq d (n + 1)=cmpUp eq d n ++ (if kp eq d n=true then [d[n]!] else []):=by
 unfold cmpUp
 rw [List.range_succ,List.filter_append,List.map_append]
 congr 1
 by_cases h:kp eq d n=true
 ·rw [if_pos h,List.filter_cons_of_pos h];rfl
 ·rw [if_neg h,List.filter_cons_of_neg h];rfl
theorem cmpUp_all (n:Nat) (h:∀ j,j<n→kp eq d j=true):cmpUp eq d n=(List.range n).map (fun j=>d[j]!):=by
 unfold cmpUp
 rw [List.filter_eq_self.2 (fun j hj=>h j (List.mem_range.1 hj))]
theorem range_get (n:Nat) (h:n≤d.size):(List.range n).map (fun j=>d[j]!)=d.toList.take n:=by
 apply List.ext_getElem
 ·simp [h]
 ·intro i h1 h2
  simp only [List.length_map,List.length_range] at h1
  simp only [List.getElem_map,List.getElem_range,List.getElem_take,Array.getElem_toList]
  exact getElem!_pos d i (by omega)
structure CInv (q k:Nat) (dk:Array α):Prop where
 size:dk.size=d.size
 lt:k<q
 le:q≤d.size
 high:∀ j,k≤j→dk[j]! = d[j]!
 low:dk.toList.take k=cmpUp eq d q
theorem CInv.len {q k:Nat} {dk:Array α} (h:CInv eq d q k dk):(cmpUp eq d q).length=k:=by
 rw [← h.low,List.length_take,Array.length_toList,h.size]
 have:=h.lt;have:=h.le
 omega
theorem CInv.start {k:Nat} (hk:k<d.size) (h:∀ j,j<k→kp eq d j=true) (hn:kp eq d k=false):CInv eq d (k + 1) k d:=
 ⟨rfl,Nat.lt_succ_self _,hk,fun _ _=>rfl,by rw [cmpUp_succ,hn,cmpUp_all eq d k h,range_get d k (by omega)];simp⟩
theorem CInv.skip {q k:Nat} {dk:Array α} (h:CInv eq d q k dk) (hq:q<d.size) (hn:kp eq d q=false):CInv eq d (q + 1) k dk:=
 ⟨h.size,by have:=h.lt;omega,hq,h.high,by rw [cmpUp_succ,hn,h.low];simp⟩
theorem CInv.keep {q k:Nat} {dk:Array α} (h:CInv eq d q k dk) (hq:q<d.size) (hn:kp eq d q=true):CInv eq d (q + 1) (k + 1) (dk.setIfInBounds k d[q]!):=by
 have hlt:=h.lt
 have hkk:k<dk.size:=by rw [h.size];omega
 refine ⟨by simp [h.size],by omega,hq,fun j hj=>?_,?_⟩
 ·rw [← h.high j (by omega)]
  simp only [getElem!_def,Array.getElem?_setIfInBounds]
  rw [if_neg (by omega)]
 ·rw [cmpUp_succ,if_pos hn,← h.low,List.take_add_one]
  congr 1
  ·rw [Array.toList_setIfInBounds,List.take_set,List.set_eq_of_length_le (by simp;omega)]
  ·rw [Array.toList_setIfInBounds,List.getElem?_set_self (by simpa using hkk)]
   rfl
end
instance:Inhabited S72:=⟨⟨0,⟨#[]⟩,⟨#[]⟩,false⟩⟩
def encW (x:S72):List Value:=[.int .i64 x.f0,.string x.f1,.string x.f2,.bool x.f3]
def ordOf (a b:S72):Int:=if wrap64 (a.f0 - b.f0)≠0 then wrap64 (a.f0 - b.f0) else Lib.compareBytes a.f1.data.toList b.f1.data.toList
set_option maxHeartbeats 2000000 in
theorem cmpOr (a b:Int) (blk:Nat) (W:World) (h0:W.cell? ⟨blk,0,none⟩=some (.int .i64 a)) (h1:W.cell? ⟨blk,1,none⟩=some (.int .i64 b)) :
 Calls Tryz.prog 109 #[.slice (some ⟨blk,0,none⟩) 2 2] W fun e w'=>e = .returned (.int .i64 (if a≠0 then a else b))∧w'=W:=by
 go_enter Tryz.func109,Tryz.ntmps109
 go_wp2
 go_loopg [8] 2 (fun kq v8 w'=>∃ (i:Nat),v8 = .int .i64 i∧kq + i=2∧(0<i→a=0)∧(1<i→b=0)∧w'=W)
 case atStart=>exact ⟨0,rfl,by omega,by omega,by omega,rfl⟩
 case round=>
  obtain ⟨i,rfl,hk,ha,hb,rfl⟩:=hrel
  have hi3:i=0∨i=1∨i=2:=by omega
  rcases hi3 with rfl|rfl|rfl
  ·by_cases hz:a=0
   ·subst hz
    go_wp2
    go_roundg 1
    case measure=>omega
    case rel=>exact ⟨1,by go_num,by omega,by simp,by omega,rfl⟩
   ·have hz2:¬ (a=0):=hz
    go_wp2
    go_ret
    exact ⟨rfl,rfl⟩
  ·obtain rfl:=ha (by omega)
   by_cases hz:b=0
   ·subst hz
    go_wp2
    go_roundg 0
    case measure=>omega
    case rel=>exact ⟨2,by go_num,by omega,by simp,by simp,rfl⟩
   ·have hz2:¬ (b=0):=hz
    go_wp2
    go_ret
    exact ⟨rfl,rfl⟩
  ·obtain rfl:=ha (by omega)
   obtain rfl:=hb (by omega)
   go_wp2
   go_ret
   exact ⟨rfl,rfl⟩
def ordT1:Bool×List (List Nat×List Nat):=(true,[([],[]),([0],[0]),([],[]),([2],[2]),([1,3],[1,3]),([],[]),([5],[5]),([],[]),([7],[7]),([6,8],[6,8]),([4,9],[4,9]),([10,9],[10]),([11,11,0,1,2,3,4,5,6,7,8,9,10,11],[11])])
def ordB1:List Nat:=[0,1,0,4,15,0,32,0,128,480,1023,2047,4095]
theorem ordtab1:rtab .any (opsOf Tryz.f92 1)=ordT1:=by kernel_rfl
theorem ordbits1:waitsOk ordT1.2 ordB1=true:=by kernel_rfl
set_option maxHeartbeats 4000000 in
set_option maxRecDepth 100000 in
theorem order_calls (x y:S72) (W:World):Calls Tryz.prog 92 #[.agg (encW x).toArray,.agg (encW y).toArray] W fun e w'=>e = .returned (.int .i64 (ordOf x y))∧∃ q os',w'=grow (W.drewN q) os':=by
 have hcmp:=fun W'=>Any.strings_Compare Tryz.strCmp x.f1 y.f1 W'
 change ∀ W',Calls Tryz.prog 72 _ _ _ at hcmp
 have hcon:=fun (blk:Nat) (W':World)=>cmpOr (wrap64 (x.f0 - y.f0)) (Lib.compareBytes x.f1.data.toList y.f1.data.toList) blk W'
 unfold ordOf
 generalize Lib.compareBytes x.f1.data.toList y.f1.data.toList=c at hcmp hcon ⊢
 generalize (if wrap64 (x.f0 - y.f0)≠0 then wrap64 (x.f0 - y.f0) else c)=rr at hcon ⊢
 unfold encW
 go_enter Tryz.func92,Tryz.ntmps92
 go_wp2
 have hc1:∀ (i:Nat) (v:Value),#[Value.int IntKind.i64 x.f0,Value.string x.f1,Value.string x.f2,Value.bool x.f3][i]? = some v→∀ g1,g1=W.heap.size→(((W.alloc (Obj.cells #[Value.int IntKind.i64 x.f0,Value.string x.f1,Value.string x.f2,Value.bool x.f3] 72)).alloc (Obj.cells #[Value.int IntKind.i64 y.f0,Value.string y.f1,Value.string y.f2,Value.bool y.f3] 72)).drew).cell? ⟨g1,i,none⟩=some v:=by
  rintro i v hv g1 rfl
  have hb:=bA_ (heap_alloc_new W (Obj.cells #[Value.int IntKind.i64 x.f0,Value.string x.f1,Value.string x.f2,Value.bool x.f3] 72)) (Obj.cells #[Value.int IntKind.i64 y.f0,Value.string y.f1,Value.string y.f2,Value.bool y.f3] 72)
  exact (blk_cell (bD_ hb) i).trans hv
 have hc2:∀ (i:Nat) (v:Value),#[Value.int IntKind.i64 y.f0,Value.string y.f1,Value.string y.f2,Value.bool y.f3][i]? = some v→∀ g2,g2=W.heap.size + 1→(((W.alloc (Obj.cells #[Value.int IntKind.i64 x.f0,Value.string x.f1,Value.string x.f2,Value.bool x.f3] 72)).alloc (Obj.cells #[Value.int IntKind.i64 y.f0,Value.string y.f1,Value.string y.f2,Value.bool y.f3] 72)).drew).cell? ⟨g2,i,none⟩=some v:=by
  rintro i v hv g2 rfl
  have hb:=heap_alloc_new (W.alloc (Obj.cells #[Value.int IntKind.i64 x.f0,Value.string x.f1,Value.string x.f2,Value.bool x.f3] 72)) (Obj.cells #[Value.int IntKind.i64 y.f0,Value.string y.f1,Value.string y.f2,Value.bool y.f3] 72)
  rw [show (W.alloc (Obj.cells #[Value.int IntKind.i64 x.f0,Value.string x.f1,Value.string x.f2,Value.bool x.f3] 72)).heap.size=W.heap.size + 1 by simp] at hb
  exact (blk_cell (bD_ hb) i).trans hv
 have HG:=Aside0.mk (show ∃ q os',((W.alloc (Obj.cells #[Value.int IntKind.i64 x.f0,Value.string x.f1,Value.string x.f2,Value.bool x.f3] 72)).alloc (Obj.cells #[Value.int IntKind.i64 y.f0,Value.string y.f1,Value.string y.f2,Value.bool y.f3] 72)).drew=grow (W.drewN q) os' from ⟨1,_,by rw [alloc_eq_grow,alloc_eq_grow,grow_grow];rfl⟩)
 generalize hg1:W.heap.size=g1 at hc1 hc2 ⊢
 have HG1:=Aside0.mk hg1
 clear hg1
 refine start_ (n:=13) (S:=fun w'=>w'.cell? ⟨g1,0,none⟩=some (.int .i64 x.f0)∧w'.cell? ⟨g1,1,none⟩=some (.string x.f1)∧w'.cell? ⟨g1 + 1,0,none⟩=some (.int .i64 y.f0)∧w'.cell? ⟨g1 + 1,1,none⟩=some (.string y.f1)) (ds:=[]) #[false,false,false,false,false,false,false,false,false,false,false,false,false] (by kernel_rfl) rfl rfl ⟨hc1 0 _ rfl g1 rfl,hc1 1 _ rfl g1 rfl,hc2 0 _ rfl (g1 + 1) rfl,hc2 1 _ rfl (g1 + 1) rfl⟩ (fun hHeld=>?_);refine with_tabW ordtab1 ordbits1 (fun HT_ HW_=>?_)
 clear hc1 hc2
 generalize ((W.alloc (Obj.cells #[Value.int IntKind.i64 x.f0,Value.string x.f1,Value.string x.f2,Value.bool x.f3] 72)).alloc (Obj.cells #[Value.int IntKind.i64 y.f0,Value.string y.f1,Value.string y.f2,Value.bool y.f3] 72)).drew=W2 at HG hHeld ⊢
 refine pure_ (i:=0) (N:=some 5) (v:=?_) (a':=?_) #[true,false,false,false,false,false,false,false,false,false,false,false,false] rfl rfl (any_of HT_.out (by kernel_rfl)) (fun _ _ _ h=>h) (Or.inl ⟨by rfl,?_⟩) ?_ ?_
 rotate_left
 ·intro w'
  go_simp
  with_reducible rfl
 rotate_left
 ·simp only [Act.put,List.setIfInBounds_toArray,List.set_cons_zero,List.set_cons_succ,i64_w,i32_w]
  rfl
 refine pure_ (i:=2) (N:=some 7) (v:=?_) (a':=?_) #[true,false,true,false,false,false,false,false,false,false,false,false,false] rfl rfl (any_of HT_.out (by kernel_rfl)) (fun _ _ _ h=>h) (Or.inl ⟨by rfl,?_⟩) ?_ ?_
 rotate_left
 ·intro w'
  go_simp
  with_reducible rfl
 rotate_left
 ·simp only [Act.put,List.setIfInBounds_toArray,List.set_cons_zero,List.set_cons_succ,i64_w,i32_w]
  rfl
 refine pure_ (i:=5) (N:=some 10) (v:=?_) (a':=?_) #[true,false,true,false,false,true,false,false,false,false,false,false,false] rfl rfl (any_of HT_.out (by kernel_rfl)) (fun _ _ _ h=>h) (Or.inl ⟨by rfl,?_⟩) ?_ ?_
 rotate_left
 ·intro w'
  go_simp
  with_reducible rfl
 rotate_left
 ·simp only [Act.put,List.setIfInBounds_toArray,List.set_cons_zero,List.set_cons_succ,i64_w,i32_w]
  rfl
 refine pure_ (i:=7) (N:=some 12) (v:=?_) (a':=?_) #[true,false,true,false,false,true,false,true,false,false,false,false,false] rfl rfl (any_of HT_.out (by kernel_rfl)) (fun _ _ _ h=>h) (Or.inl ⟨by rfl,?_⟩) ?_ ?_
 rotate_left
 ·intro w'
  go_simp
  with_reducible rfl
 rotate_left
 ·simp only [Act.put,List.setIfInBounds_toArray,List.set_cons_zero,List.set_cons_succ,i64_w,i32_w]
  rfl
 refine take_ (i:=1) (N:=some 6) (v:=?_) (a':=?_) #[true,true,true,false,false,true,false,true,false,false,false,false,false] rfl rfl (take_ofW HT_.out HW_.out (by kernel_rfl)) (fun _ _ _ h=>h) (Or.inl ⟨by rfl,?_⟩) hHeld ?_ ?_
 rotate_left
 ·rintro w' ⟨s0,s1,s2,s3⟩
  go_simp
  with_reducible rfl
 rotate_left
 ·simp only [Act.put,List.setIfInBounds_toArray,List.set_cons_zero,List.set_cons_succ,i64_w,i32_w]
  rfl
 refine take_ (i:=3) (N:=some 8) (v:=?_) (a':=?_) #[true,true,true,true,false,true,false,true,false,false,false,false,false] rfl rfl (take_ofW HT_.out HW_.out (by kernel_rfl)) (fun _ _ _ h=>h) (Or.inl ⟨by rfl,?_⟩) hHeld ?_ ?_
 rotate_left
 ·rintro w' ⟨s0,s1,s2,s3⟩
  go_simp
  with_reducible rfl
 rotate_left
 ·simp only [Act.put,List.setIfInBounds_toArray,List.set_cons_zero,List.set_cons_succ,i64_w,i32_w]
  rfl
 refine pure_ (i:=4) (N:=some 9) (v:=?_) (a':=?_) #[true,true,true,true,true,true,false,true,false,false,false,false,false] rfl rfl (any_of HT_.out (by kernel_rfl)) (fun _ _ _ h=>h) (Or.inl ⟨by rfl,?_⟩) ?_ ?_
 rotate_left
 ·intro w'
  go_simp
  with_reducible rfl
 rotate_left
 ·simp only [Act.put,List.setIfInBounds_toArray,List.set_cons_zero,List.set_cons_succ,i64_w,i32_w]
  rfl
 refine take_ (i:=6) (N:=some 11) (v:=?_) (a':=?_) #[true,true,true,true,true,true,true,true,false,false,false,false,false] rfl rfl (take_ofW HT_.out HW_.out (by kernel_rfl)) (fun _ _ _ h=>h) (Or.inl ⟨by rfl,?_⟩) hHeld ?_ ?_
 rotate_left
 ·rintro w' ⟨s0,s1,s2,s3⟩
  go_simp
  with_reducible rfl
 rotate_left
 ·simp only [Act.put,List.setIfInBounds_toArray,List.set_cons_zero,List.set_cons_succ,i64_w,i32_w]
  rfl
 refine take_ (i:=8) (N:=some 13) (v:=?_) (a':=?_) #[true,true,true,true,true,true,true,true,true,false,false,false,false] rfl rfl (take_ofW HT_.out HW_.out (by kernel_rfl)) (fun _ _ _ h=>h) (Or.inl ⟨by rfl,?_⟩) hHeld ?_ ?_
 rotate_left
 ·rintro w' ⟨s0,s1,s2,s3⟩
  go_simp
  with_reducible rfl
 rotate_left
 ·simp only [Act.put,List.setIfInBounds_toArray,List.set_cons_zero,List.set_cons_succ,i64_w,i32_w]
  rfl
 refine one_ (i:=9) (N:=some 14) #[true,true,true,true,true,true,true,true,true,true,false,false,false] rfl rfl (one_of HT_.out (by kernel_rfl)) (by decide) (fun K hK=>?_)
 refine goes_ Tryz.func72 (by kernel_rfl) rfl #[.string x.f1,.string y.f1] (by rfl) rfl rfl (by (try simp only [List.map_toArray,List.map_cons,List.map_nil]);first|done|rfl) ?_
 with_reducible refine (hcmp _).mono ?_
 rintro e w' ⟨rfl,rfl⟩
 refine ⟨_,rfl,?_⟩
 refine hK.out _ _ hHeld (fun hHeld=>?_)
 clear hK K
 refine norm_ (a':=?_) ?_ ?_
 rotate_left
 ·show Act.put _ (some 14) _=_
  simp only [Act.put,List.setIfInBounds_toArray,List.set_cons_zero,List.set_cons_succ,i64_w,i32_w]
  rfl
 refine one_ (i:=10) (N:=some 15) #[true,true,true,true,true,true,true,true,true,true,true,false,false] rfl rfl (one_of HT_.out (by kernel_rfl)) (by decide) (fun K hK=>?_)
 refine event_step (by rfl) (?hr:Sem.run _ _ w'=Result.ok (Next.value (.slice (some ⟨w'.heap.size,0,none⟩) 2 2)) (w'.alloc (Obj.cells #[.int .i64 (wrap64 (x.f0 - y.f0)),.int .i64 c] 3))) ?_
 case hr=>first|(go_simp;done)|(go_simp;rfl)
 have hsz:g1 + 2≤w'.heap.size:=by
  have h1:=World.block_lt_of_cell? w' _ hHeld.2.2.1
  simp only at h1
  omega
 have hH2:(w'.alloc (Obj.cells #[.int .i64 (wrap64 (x.f0 - y.f0)),.int .i64 c] 3)).cell? ⟨g1,0,none⟩=some (.int .i64 x.f0)∧(w'.alloc (Obj.cells #[.int .i64 (wrap64 (x.f0 - y.f0)),.int .i64 c] 3)).cell? ⟨g1,1,none⟩=some (.string x.f1)∧(w'.alloc (Obj.cells #[.int .i64 (wrap64 (x.f0 - y.f0)),.int .i64 c] 3)).cell? ⟨g1 + 1,0,none⟩=some (.int .i64 y.f0)∧(w'.alloc (Obj.cells #[.int .i64 (wrap64 (x.f0 - y.f0)),.int .i64 c] 3)).cell? ⟨g1 + 1,1,none⟩=some (.string y.f1):=by
  obtain ⟨a1,a2,a3,a4⟩:=hHeld
  exact ⟨(World.cell?_alloc_past (w:=w') _ g1 0 (by omega)).trans a1,(World.cell?_alloc_past (w:=w') _ g1 1 (by omega)).trans a2,(World.cell?_alloc_past (w:=w') _ (g1 + 1) 0 (by omega)).trans a3,(World.cell?_alloc_past (w:=w') _ (g1 + 1) 1 (by omega)).trans a4⟩
 have hn0:=heap_alloc_new w' (Obj.cells #[.int .i64 (wrap64 (x.f0 - y.f0)),.int .i64 c] 3)
 have hcall:=hcon w'.heap.size (w'.alloc (Obj.cells #[.int .i64 (wrap64 (x.f0 - y.f0)),.int .i64 c] 3)) (blk_cell hn0 0) (blk_cell hn0 1)
 have HG2:=Aside0.mk (show ∃ q os',w'.alloc (Obj.cells #[.int .i64 (wrap64 (x.f0 - y.f0)),.int .i64 c] 3)=grow (W.drewN q) os' from by
  obtain ⟨q,os',h⟩:=HG.out
  exact ⟨q,os' ++ #[.cells #[.int .i64 (wrap64 (x.f0 - y.f0)),.int .i64 c] 3],by rw [alloc_eq_grow,h,grow_grow]⟩)
 clear hn0 HG hsz
 generalize w'.alloc (Obj.cells #[.int .i64 (wrap64 (x.f0 - y.f0)),.int .i64 c] 3)=W3 at hH2 hcall HG2 ⊢
 generalize w'.heap.size=g3 at hcall ⊢
 refine hK.out _ _ hH2 (fun hHeld=>?_)
 clear hK K
 refine norm_ (a':=?_) ?_ ?_
 rotate_left
 ·show Act.put _ (some 15) _=_
  simp only [Act.put,List.setIfInBounds_toArray,List.set_cons_zero,List.set_cons_succ,i64_w,i32_w]
  rfl
 refine one_ (i:=11) (N:=some 16) #[true,true,true,true,true,true,true,true,true,true,true,true,false] rfl rfl (one_of HT_.out (by kernel_rfl)) (by decide) (fun K hK=>?_)
 refine goes_ Tryz.func109 (by kernel_rfl) rfl #[.slice (some ⟨g3,0,none⟩) 2 2] (by rfl) rfl rfl (by (try simp only [List.map_toArray,List.map_cons,List.map_nil]);first|done|rfl) ?_
 with_reducible refine hcall.mono ?_
 rintro e w' ⟨rfl,rfl⟩
 refine ⟨_,rfl,?_⟩
 refine hK.out _ _ hHeld (fun hHeld=>?_)
 clear hK K
 refine norm_ (a':=?_) ?_ ?_
 rotate_left
 ·show Act.put _ (some 16) _=_
  simp only [Act.put,List.setIfInBounds_toArray,List.set_cons_zero,List.set_cons_succ,i64_w,i32_w]
  rfl
 refine pure_ (i:=12) (N:=some 4) (v:=?_) (a':=?_) #[true,true,true,true,true,true,true,true,true,true,true,true,true] rfl rfl (any_of HT_.out (by kernel_rfl)) (fun _ _ _ h=>h) (Or.inl ⟨by rfl,?_⟩) ?_ ?_
 rotate_left
 ·intro w'
  go_simp
  with_reducible rfl
 rotate_left
 ·simp only [Act.put,List.setIfInBounds_toArray,List.set_cons_zero,List.set_cons_succ,i64_w,i32_w]
  rfl
 refine done_ (done_of HT_.out (by kernel_rfl)) ?_
 try go_wp2
 go_ret
 exact ⟨rfl,HG2.out⟩
theorem encW_len (x:S72):(encW x).length=4:=rfl
theorem encW_one (x:S72):∀ v∈encW x,v.oneCell'=true:=fun v hv=>by
 simp [encW] at hv
 rcases hv with rfl|rfl|rfl|rfl <;> rfl
set_option maxHeartbeats 2000000 in
theorem eq_calls (x y:S72) (W:World):Calls Tryz.prog 94 #[.agg (encW x).toArray,.agg (encW y).toArray] W fun e w'=>e = .returned (.bool (ordOf x y == 0))∧∃ q os',w'=grow (W.drewN q) os':=by
 have hc:=fun W'=>order_calls x y W'
 unfold encW at hc ⊢
 generalize ordOf x y=rr at hc ⊢
 go_enter Tryz.func94,Tryz.ntmps94
 go_wp2_with (go_at_call 92;refine (hc _).mono ?_;rintro e w' ⟨rfl,q,os',rfl⟩)
 go_ret
 exact ⟨rfl,q,_,by rw [alloc_eq_grow,alloc_eq_grow,grow_grow];show grow (grow (W.drewN q) _) os'=_;rw [grow_grow]⟩
theorem cmpLays (blk off size:Nat) (w:World):CmpLays Tryz.prog 92 #[] encW 4 ordOf blk off size w:=fun _ _ _ _ x y=>order_calls x y _
set_option maxHeartbeats 2000000 in
theorem stable_calls (blk off cap:Nat) (d:Array S72) (w:World) (hH:HoldsK encW 4 w blk off d) (hblk:blk<w.heap.size) (h12:d.size≤12) :
 Calls Tryz.prog 108 #[.slice (some ⟨blk,off,none⟩) d.size cap,.int .i64 d.size,.func (.func 92) #[] #[]] w fun e w'=>e = .returned (.tuple #[])∧∃ n os,w'=sortWorldK encW 4 w blk off n (Sort.insertionSort (ltOf ordOf) d 0 d.size) os:=by
 have eg:∀ args w,(callFunc 92 args).run Tryz.prog w = .ok (.enter 92 args) w:=enters_of Tryz.func92 (by kernel_rfl) rfl
 have hcon:=AnyQ.insertionSortCmpFunc Tryz.insWrite 4 Tryz.isAgg72 Tryz.sizeOf72 encW encW_len encW_one ordOf 92 #[] blk off cap 0 d.size d w eg (cmpLays blk off d.size w) hH hblk (by omega) (Nat.le_refl _) (by omega)
 change Calls Tryz.prog 115 _ _ _ at hcon
 clear hH
 generalize Sort.insertionSort (ltOf ordOf) d 0 d.size=r at hcon ⊢
 generalize d.size=n at hcon h12 ⊢
 have h1:¬ ((20:Int)≤(n:Int)):=by omega
 have h2:¬ ((20:Int)<(n:Int)):=by omega
 go_enter Tryz.func108,Tryz.ntmps108
 go_wp2_with fail
 go_loopg [7,8] 0 (fun kq v7 v8 w'=>v7 = .int .i64 0∧v8 = .int .i64 20∧w'=w)
 case atStart=>exact ⟨rfl,rfl,rfl⟩
 case round=>
  obtain ⟨rfl,rfl,rfl⟩:=hrel
  go_wp2_with (go_at_call 115;refine hcon.mono ?_;rintro e w' ⟨rfl,n',os',rfl⟩)
  generalize hW2:sortWorldK encW 4 wr blk off n' r os'=W2
  have HW2:=Aside0.mk hW2
  clear hW2
  go_loopg [6,7,8] 0 (fun kq v6 v7 v8 w'=>v6 = .int .i64 20∧v7 = .int .i64 0∧v8 = .int .i64 20∧w'=W2)
  case atStart=>exact ⟨rfl,rfl,rfl,rfl⟩
  case round=>
   obtain ⟨rfl,rfl,rfl,rfl⟩:=hrel
   go_wp2
   go_end0
   exact ⟨rfl,n',os',HW2.out.symm⟩
set_option maxHeartbeats 2000000 in
theorem sort_calls (blk off cap:Nat) (d:Array S72) (w:World) (hH:HoldsK encW 4 w blk off d) (hblk:blk<w.heap.size) (h12:d.size≤12) :
 Calls Tryz.prog 91 #[.slice (some ⟨blk,off,none⟩) d.size cap,.func (.func 92) #[] #[]] w fun e w'=>e = .returned (.tuple #[])∧∃ n os,w'=sortWorldK encW 4 w blk off n (Sort.insertionSort (ltOf ordOf) d 0 d.size) os:=by
 have hcon:=stable_calls blk off cap d w hH hblk h12
 clear hH
 generalize Sort.insertionSort (ltOf ordOf) d 0 d.size=r at hcon ⊢
 generalize d.size=n at hcon h12 ⊢
 go_enter Tryz.func91,Tryz.ntmps91
 go_wp2_with (go_at_call 108;refine hcon.mono ?_;rintro e w' ⟨rfl,n',os',rfl⟩)
 go_end0
 exact ⟨rfl,n',os',rfl⟩
theorem run_clear_k {P:Program} (w:World) (t e ty:TypeId) (z:Value) (ht:P.underlying t=some (.slice e)) (hv:∀ w,(zeroValue e).run P w = .ok z w) (b o n c:Nat) (hn:0<n)
 (h1:∀ v∈(Builtin.zeroCells z.cells n).toList,v.oneCell'=true) (hc:∀ j,j<(Builtin.zeroCells z.cells n).toList.length→(w.cell? ⟨b,o + j,none⟩).isSome=true) (hf:∀ j,j<(Builtin.zeroCells z.cells n).toList.length→w.frozen? ⟨b,o + j,none⟩=false) :
 (Builtin.clear_ #[t] ty #[.slice (some ⟨b,o,none⟩) n c]).run P w = .ok (.tuple #[]) (w.setCells b o (Builtin.zeroCells z.cells n).toList):=by
 have hst:=run_storeCells_cells (P:=P) b o (Builtin.zeroCells z.cells n).toList 0 w (by simpa using hc) (by simpa using hf) h1
 simp only [Nat.add_zero] at hst
 obtain ⟨m,rfl⟩:∃ m,n=m + 1:=⟨n - 1,by omega⟩
 simp [Builtin.clear_,run_underlying ht,hv,hst]
theorem zero_one (n:Nat):∀ v∈(Builtin.zeroCells (Value.agg #[.int .i64 0,.string ⟨#[]⟩,.string ⟨#[]⟩,.bool false]).cells n).toList,v.oneCell'=true:=by
 intro v hv
 simp only [Builtin.zeroCells,Value.cells,Array.toList_map,List.mem_map] at hv
 obtain ⟨i,_,rfl⟩:=hv
 have h4:i % 4<4:=Nat.mod_lt _ (by omega)
 show (#[Value.int .i64 0,.string ⟨#[]⟩,.string ⟨#[]⟩,.bool false][i % 4]!).oneCell'=true
 have:i % 4=0∨i % 4=1∨i % 4=2∨i % 4=3:=by omega
 rcases this with h|h|h|h <;> rw [h] <;> rfl
def eqO (x y:S72):Bool:=ordOf x y == 0
def Left4 (d:Array S72) (F:Array Value):Prop:=F.size=d.size * 4∧(cmpUp eqO d d.size).length≤d.size∧∀ j,j<(cmpUp eqO d d.size).length→∀ c,c<4→F[j * 4 + c]! = (encW (cmpUp eqO d d.size)[j]!)[c]!
theorem setMany_one (d:Array S72) (i:Nat) (hi:i<d.size) (x:S72):setMany (flatK encW 4 d) (i * 4) (encW x)=flatK encW 4 (d.setIfInBounds i x):=by
 apply ext_get!
 ·simp
 intro t ht
 have ht':t<d.size * 4:=by simpa using ht
 rw [get_setMany _ _ _ t (by simpa using ht'),encW_len,get_flatK encW 4 (d.setIfInBounds i x) t (by simpa using ht')]
 have hb:=blk_iff 4 i t (by omega)
 by_cases h:t / 4=i
 ·rw [if_pos (hb.2 h)]
  subst h
  rw [getElem!_set_same d (t / 4) x hi,show t - t / 4 * 4=t % 4 by omega]
 ·rw [if_neg (fun h2=>h (hb.1 h2)),get_flatK encW 4 d t ht',getElem!_set_other d i (t / 4) x h]
theorem store_world (w:World) (blk off n:Nat) (dk:Array S72) (os:Array Obj) (hblk:blk<w.heap.size) (i:Nat) (hi:i<dk.size) (x:S72) :
 (sortWorldK encW 4 w blk off n dk os).setCells blk (off + i * 4) (encW x)=sortWorldK encW 4 w blk off n (dk.setIfInBounds i x) os:=by
 unfold sortWorldK
 rw [setCells_grow os blk _ _ _ (by rw [size_putRowK];exact hblk)]
 unfold putRowK
 rw [setCells_putRow _ _ _ _ _ _ (by rw [encW_len,size_flatK];omega),setMany_one dk i hi x]
theorem left4_clear (d dk:Array S72) (kk:Nat) (hI:CInv eqO d d.size kk dk) (vs:List Value) (hv:vs.length=(d.size - kk) * 4):Left4 d (setMany (flatK encW 4 dk) (kk * 4) vs):=by
 have hlt:=hI.lt
 refine ⟨by simp [hI.size],by rw [hI.len];omega,fun j hj c hc=>?_⟩
 rw [hI.len] at hj
 rw [get_setMany _ _ _ _ (by rw [size_flatK,hI.size];omega),if_neg (by omega),get_flatK encW 4 dk _ (by rw [hI.size];omega),show (j * 4 + c) / 4=j by omega,show (j * 4 + c) % 4=c by omega]
 congr 2
 rw [← hI.low,getElem!_pos dk j (by rw [hI.size];omega),getElem!_pos _ j (by rw [List.length_take,Array.length_toList,hI.size];omega),List.getElem_take,Array.getElem_toList]
set_option maxHeartbeats 4000000 in
set_option maxRecDepth 1000000 in
theorem compact_calls (blk off cap:Nat) (d:Array S72) (w:World) (hH:HoldsK encW 4 w blk off d) (hblk:blk<w.heap.size) (hsz:d.size≤12) (hcap:d.size≤cap) :
 Calls Tryz.prog 93 #[.slice (some ⟨blk,off,none⟩) d.size cap,.func (.func 94) #[] #[]] w fun e w'=>e = .returned (.slice (some ⟨blk,off,none⟩) (cmpUp eqO d d.size).length cap) ∧
  ∃ n os F,w'=grow (putRow id (Sort.ahead w n) blk off F) os∧Left4 d F:=by
 have same:(∀ j,j<d.size→kp eqO d j=true)→(cmpUp eqO d d.size).length=d.size∧Left4 d (flatK encW 4 d):=by
  intro hall
  have e:cmpUp eqO d d.size=d.toList:=by rw [cmpUp_all eqO d _ hall,range_get d _ (Nat.le_refl _)];exact List.take_of_length_le (Nat.le_of_eq Array.length_toList)
  unfold Left4
  rw [e]
  refine ⟨Array.length_toList,by simp,by simp,fun j hj c hc=>?_⟩
  rw [Array.length_toList] at hj
  rw [get_flatK encW 4 d (j * 4 + c) (by omega),show (j * 4 + c) / 4=j by omega,show (j * 4 + c) % 4=c by omega]
  congr 2
  rw [getElem!_pos d j hj,getElem!_pos d.toList j (by simpa using hj),Array.getElem_toList]
 have mixed:=Tryz.insWrite.mixed
 have HS:=Aside0.mk same
 have HZ:=Aside0.mk (show ∀ j,j<1→kp eqO d j=true from fun j hj=>by
  obtain rfl:j=0:=by omega
  rfl)
 clear same
 have HST:=Aside0.mk (show w=sortWorldK encW 4 w blk off 0 d #[] by unfold sortWorldK;rw [grow_empty];exact (putRowK_self encW 4 w blk off d hH).symm)
 have HH:=Aside0.mk hH
 clear hH
 by_cases h2:d.size<2
 ·have h2z:(d.size:Int)<2:=by omega
  go_enter Tryz.func93,Tryz.ntmps93
  go_wp2
  go_ret
  obtain ⟨e1,e2⟩:=HS.out (fun j hj=>HZ.out j (by omega))
  refine ⟨by rw [e1];rfl,0,#[],flatK encW 4 d,?_,e2⟩
  exact HST.out
 ·have h2z:¬ ((d.size:Int)<2):=by omega
  go_enter Tryz.func93,Tryz.ntmps93
  go_wp2_with fail
  go_loopg [5] d.size (fun g s5 wr=>∃ (k n:Nat) (os:Array Obj),1≤k∧k≤d.size∧d.size - k≤g∧s5 = .int .i64 k∧wr=sortWorldK encW 4 w blk off n d os∧∀ j,j<k→kp eqO d j=true)
  case atStart=>exact ⟨1,0,#[],Nat.le_refl _,by omega,by omega,rfl,HST.out,HZ.out⟩
  case round=>
   obtain ⟨k,n,os,hk1,hk,hg,rfl,rfl,hall⟩:=hrel
   by_cases hlt:k<d.size
   ·have hltz:(k:Int)<(d.size:Int):=by omega
    obtain ⟨kq,rfl⟩:∃ kq,k=kq + 1:=⟨k - 1,by omega⟩
    have hltz':(kq:Int) + 1<(d.size:Int):=by omega
    have hltz1:(kq:Int)<(d.size:Int):=by omega
    have hwp:IntKind.i64.wrap (kq:Int)=(kq:Int):=by rw [IntKind.wrap_i64];omega
    have p0:(0:Int)≤(kq:Int) + 1:=by omega
    have e0:((kq:Int) + 1).toNat=kq + 1:=by omega
    obtain ⟨xk,hxk⟩:∃ x,d[kq + 1]! = x:=⟨_,rfl⟩
    obtain ⟨xp,hxp⟩:∃ x,d[kq]! = x:=⟨_,rfl⟩
    have hcls:∀ n' os',grow ((sortWorldK encW 4 w blk off n d os).drewN n') os'=sortWorldK encW 4 w blk off (n + n') d (os ++ os'):=fun n' os'=>sortWorldK_grown_c encW 4 w blk off n n' d os os'
    have hHc:∀ n' os',HoldsK encW 4 (grow ((sortWorldK encW 4 w blk off n d os).drewN n') os') blk off d:=fun n' os'=>by rw [hcls];exact holdsK_sortWorldK_c encW 4 w blk off d d _ _ HH.out hblk rfl
    have lj0:∀ n' os',(grow ((sortWorldK encW 4 w blk off n d os).drewN n') os').cell? ⟨blk,off + (kq + 1) * 4,none⟩=some (.int .i64 xk.f0):=fun n' os'=>by
     have h:=HoldsK.cells (hHc n' os') encW_len (show (kq + 1)<d.size by omega) 0 (.int .i64 xk.f0) (by rw [hxk];rfl)
     rwa [Addr.add_lit] at h
    have lj1:∀ n' os',(grow ((sortWorldK encW 4 w blk off n d os).drewN n') os').cell? ⟨blk,off + (kq + 1) * 4 + 1,none⟩=some (.string xk.f1):=fun n' os'=>by
     have h:=HoldsK.cells (hHc n' os') encW_len (show (kq + 1)<d.size by omega) 1 (.string xk.f1) (by rw [hxk];rfl)
     rwa [Addr.add_lit] at h
    have lj2:∀ n' os',(grow ((sortWorldK encW 4 w blk off n d os).drewN n') os').cell? ⟨blk,off + (kq + 1) * 4 + 2,none⟩=some (.string xk.f2):=fun n' os'=>by
     have h:=HoldsK.cells (hHc n' os') encW_len (show (kq + 1)<d.size by omega) 2 (.string xk.f2) (by rw [hxk];rfl)
     rwa [Addr.add_lit] at h
    have lj3:∀ n' os',(grow ((sortWorldK encW 4 w blk off n d os).drewN n') os').cell? ⟨blk,off + (kq + 1) * 4 + 3,none⟩=some (.bool xk.f3):=fun n' os'=>by
     have h:=HoldsK.cells (hHc n' os') encW_len (show (kq + 1)<d.size by omega) 3 (.bool xk.f3) (by rw [hxk];rfl)
     rwa [Addr.add_lit] at h
    have lp0:∀ n' os',(grow ((sortWorldK encW 4 w blk off n d os).drewN n') os').cell? ⟨blk,off + kq * 4,none⟩=some (.int .i64 xp.f0):=fun n' os'=>by
     have h:=HoldsK.cells (hHc n' os') encW_len (show kq<d.size by omega) 0 (.int .i64 xp.f0) (by rw [hxp];rfl)
     rwa [Addr.add_lit] at h
    have lp1:∀ n' os',(grow ((sortWorldK encW 4 w blk off n d os).drewN n') os').cell? ⟨blk,off + kq * 4 + 1,none⟩=some (.string xp.f1):=fun n' os'=>by
     have h:=HoldsK.cells (hHc n' os') encW_len (show kq<d.size by omega) 1 (.string xp.f1) (by rw [hxp];rfl)
     rwa [Addr.add_lit] at h
    have lp2:∀ n' os',(grow ((sortWorldK encW 4 w blk off n d os).drewN n') os').cell? ⟨blk,off + kq * 4 + 2,none⟩=some (.string xp.f2):=fun n' os'=>by
     have h:=HoldsK.cells (hHc n' os') encW_len (show kq<d.size by omega) 2 (.string xp.f2) (by rw [hxp];rfl)
     rwa [Addr.add_lit] at h
    have lp3:∀ n' os',(grow ((sortWorldK encW 4 w blk off n d os).drewN n') os').cell? ⟨blk,off + kq * 4 + 3,none⟩=some (.bool xp.f3):=fun n' os'=>by
     have h:=HoldsK.cells (hHc n' os') encW_len (show kq<d.size by omega) 3 (.bool xp.f3) (by rw [hxp];rfl)
     rwa [Addr.add_lit] at h
    have hcg:∀ n' os',Calls Tryz.prog 94 #[.agg #[.int .i64 xk.f0,.string xk.f1,.string xk.f2,.bool xk.f3],.agg #[.int .i64 xp.f0,.string xp.f1,.string xp.f2,.bool xp.f3]] (grow ((sortWorldK encW 4 w blk off n d os).drewN n') os') fun e w'=>e = .returned (.bool (eqO xk xp))∧∃ q os'',w'=grow ((grow ((sortWorldK encW 4 w blk off n d os).drewN n') os').drewN q) os'':=fun n' os'=>eq_calls xk xp _
    have CLS:=Aside0.mk hcls
    have HA:=Aside0.mk hall
    have HX:=Aside0.mk (And.intro hxk hxp)
    have eg:∀ args w,(callFunc 94 args).run Tryz.prog w = .ok (.enter 94 args) w:=enters_of Tryz.func94 (by kernel_rfl) rfl
    clear hcls hHc hall hxk hxp
    generalize hwq:sortWorldK encW 4 w blk off n d os=wq at lj0 lj1 lj2 lj3 lp0 lp1 lp2 lp3 hcg CLS ⊢
    by_cases hdup:eqO xk xp=true
    ·rw [hdup] at hcg
     go_wp2_with fail
     go_quiet_grown (first|(go_at_fn 94;refine Calls.grown_of (hcg _ _)))
     go_wp2_with fail
     have HQ:=Aside0.mk (CLS.out nq osq)
     generalize grow (wq.drewN nq) osq=wr at HQ ⊢
     clear lj0 lj1 lj2 lj3 lp0 lp1 lp2 lp3 hcg CLS
     go_loopg [5,7] d.size (fun g s5 s7 wr=>∃ (kk k3 n2:Nat) (os2:Array Obj) (dk:Array S72),s5 = .int .i64 kk∧s7 = .int .i64 ((k3:Int) + 1)∧kq + 1 + (k3 + 1)≤d.size∧d.size - (kq + 1 + (k3 + 1))≤g∧wr=sortWorldK encW 4 w blk off n2 dk os2∧CInv eqO d (kq + 1 + (k3 + 1)) kk dk)
     case atStart=>exact ⟨kq + 1,0,n + nq,os ++ osq,d,rfl,rfl,by omega,by omega,HQ.out,CInv.start eqO d hlt HA.out (by unfold kp;rw [show kq + 1 - 1=kq by omega,HX.out.1,HX.out.2,hdup];simp)⟩
     case round=>
      clear HQ
      obtain ⟨kk,k3,n2,os2,dk,rfl,rfl,hle,hg2,rfl,hI⟩:=hrel
      have hkk:=hI.lt
      have hds:=hI.size
      have I2:=Aside0.mk hI
      by_cases hlt2:kq + 1 + (k3 + 1)<d.size
      ·have hcls:∀ n' os',grow ((sortWorldK encW 4 w blk off n2 dk os2).drewN n') os'=sortWorldK encW 4 w blk off (n2 + n') dk (os2 ++ os'):=fun n' os'=>sortWorldK_grown_c encW 4 w blk off n2 n' dk os2 os'
       have hHc:∀ n' os',HoldsK encW 4 (grow ((sortWorldK encW 4 w blk off n2 dk os2).drewN n') os') blk off dk:=fun n' os'=>by rw [hcls];exact holdsK_sortWorldK_c encW 4 w blk off d dk _ _ HH.out hblk hds
       have hltc:(k3:Int) + 1<((d.size - (kq + 1):Nat):Int):=by omega
       have hltc1:(k3:Int)<((d.size - (kq + 1):Nat):Int):=by omega
       have hkd:(kk:Int)<(d.size:Int):=by omega
       have hwp2:IntKind.i64.wrap (k3:Int)=(k3:Int):=by rw [IntKind.wrap_i64];omega
       have q0:(0:Int)≤(k3:Int) + 1:=by omega
       have q1:((k3:Int) + 1).toNat=k3 + 1:=by omega
       have hm1:dk[kq + 1 + (k3 + 1)]! = d[kq + 1 + (k3 + 1)]!:=hI.high _ (by omega)
       have hm2:dk[kq + 1 + k3]! = d[kq + 1 + k3]!:=hI.high _ (by omega)
       clear hI
       obtain ⟨xm,hxm⟩:∃ x,d[kq + 1 + (k3 + 1)]! = x:=⟨_,rfl⟩
       obtain ⟨xn,hxn⟩:∃ x,d[kq + 1 + k3]! = x:=⟨_,rfl⟩
       obtain ⟨xo,hxo⟩:∃ x,dk[kk]! = x:=⟨_,rfl⟩
       have lm0:∀ n' os',(grow ((sortWorldK encW 4 w blk off n2 dk os2).drewN n') os').cell? ⟨blk,off + (kq + 1) * 4 + (k3 + 1) * 4,none⟩=some (.int .i64 xm.f0):=fun n' os'=>by
        have h:=HoldsK.cells (hHc n' os') encW_len (show kq + 1 + (k3 + 1)<dk.size by omega) 0 (.int .i64 xm.f0) (by rw [hm1,hxm];rfl)
        rw [Addr.add_lit] at h
        first|exact h|(rw [← h];congr 2;omega)
       have lm1:∀ n' os',(grow ((sortWorldK encW 4 w blk off n2 dk os2).drewN n') os').cell? ⟨blk,off + (kq + 1) * 4 + (k3 + 1) * 4 + 1,none⟩=some (.string xm.f1):=fun n' os'=>by
        have h:=HoldsK.cells (hHc n' os') encW_len (show kq + 1 + (k3 + 1)<dk.size by omega) 1 (.string xm.f1) (by rw [hm1,hxm];rfl)
        rw [Addr.add_lit] at h
        first|exact h|(rw [← h];congr 2;omega)
       have lm2:∀ n' os',(grow ((sortWorldK encW 4 w blk off n2 dk os2).drewN n') os').cell? ⟨blk,off + (kq + 1) * 4 + (k3 + 1) * 4 + 2,none⟩=some (.string xm.f2):=fun n' os'=>by
        have h:=HoldsK.cells (hHc n' os') encW_len (show kq + 1 + (k3 + 1)<dk.size by omega) 2 (.string xm.f2) (by rw [hm1,hxm];rfl)
        rw [Addr.add_lit] at h
        first|exact h|(rw [← h];congr 2;omega)
       have lm3:∀ n' os',(grow ((sortWorldK encW 4 w blk off n2 dk os2).drewN n') os').cell? ⟨blk,off + (kq + 1) * 4 + (k3 + 1) * 4 + 3,none⟩=some (.bool xm.f3):=fun n' os'=>by
        have h:=HoldsK.cells (hHc n' os') encW_len (show kq + 1 + (k3 + 1)<dk.size by omega) 3 (.bool xm.f3) (by rw [hm1,hxm];rfl)
        rw [Addr.add_lit] at h
        first|exact h|(rw [← h];congr 2;omega)
       have ln0:∀ n' os',(grow ((sortWorldK encW 4 w blk off n2 dk os2).drewN n') os').cell? ⟨blk,off + (kq + 1) * 4 + k3 * 4,none⟩=some (.int .i64 xn.f0):=fun n' os'=>by
        have h:=HoldsK.cells (hHc n' os') encW_len (show kq + 1 + k3<dk.size by omega) 0 (.int .i64 xn.f0) (by rw [hm2,hxn];rfl)
        rw [Addr.add_lit] at h
        first|exact h|(rw [← h];congr 2;omega)
       have ln1:∀ n' os',(grow ((sortWorldK encW 4 w blk off n2 dk os2).drewN n') os').cell? ⟨blk,off + (kq + 1) * 4 + k3 * 4 + 1,none⟩=some (.string xn.f1):=fun n' os'=>by
        have h:=HoldsK.cells (hHc n' os') encW_len (show kq + 1 + k3<dk.size by omega) 1 (.string xn.f1) (by rw [hm2,hxn];rfl)
        rw [Addr.add_lit] at h
        first|exact h|(rw [← h];congr 2;omega)
       have ln2:∀ n' os',(grow ((sortWorldK encW 4 w blk off n2 dk os2).drewN n') os').cell? ⟨blk,off + (kq + 1) * 4 + k3 * 4 + 2,none⟩=some (.string xn.f2):=fun n' os'=>by
        have h:=HoldsK.cells (hHc n' os') encW_len (show kq + 1 + k3<dk.size by omega) 2 (.string xn.f2) (by rw [hm2,hxn];rfl)
        rw [Addr.add_lit] at h
        first|exact h|(rw [← h];congr 2;omega)
       have ln3:∀ n' os',(grow ((sortWorldK encW 4 w blk off n2 dk os2).drewN n') os').cell? ⟨blk,off + (kq + 1) * 4 + k3 * 4 + 3,none⟩=some (.bool xn.f3):=fun n' os'=>by
        have h:=HoldsK.cells (hHc n' os') encW_len (show kq + 1 + k3<dk.size by omega) 3 (.bool xn.f3) (by rw [hm2,hxn];rfl)
        rw [Addr.add_lit] at h
        first|exact h|(rw [← h];congr 2;omega)
       have lo0:∀ n' os',(grow ((sortWorldK encW 4 w blk off n2 dk os2).drewN n') os').cell? ⟨blk,off + kk * 4,none⟩=some (.int .i64 xo.f0):=fun n' os'=>by
        have h:=HoldsK.cells (hHc n' os') encW_len (show kk<dk.size by omega) 0 (.int .i64 xo.f0) (by rw [hxo];rfl)
        rw [Addr.add_lit] at h
        first|exact h|(rw [← h];congr 2;omega)
       have lo1:∀ n' os',(grow ((sortWorldK encW 4 w blk off n2 dk os2).drewN n') os').cell? ⟨blk,off + kk * 4 + 1,none⟩=some (.string xo.f1):=fun n' os'=>by
        have h:=HoldsK.cells (hHc n' os') encW_len (show kk<dk.size by omega) 1 (.string xo.f1) (by rw [hxo];rfl)
        rw [Addr.add_lit] at h
        first|exact h|(rw [← h];congr 2;omega)
       have lo2:∀ n' os',(grow ((sortWorldK encW 4 w blk off n2 dk os2).drewN n') os').cell? ⟨blk,off + kk * 4 + 2,none⟩=some (.string xo.f2):=fun n' os'=>by
        have h:=HoldsK.cells (hHc n' os') encW_len (show kk<dk.size by omega) 2 (.string xo.f2) (by rw [hxo];rfl)
        rw [Addr.add_lit] at h
        first|exact h|(rw [← h];congr 2;omega)
       have lo3:∀ n' os',(grow ((sortWorldK encW 4 w blk off n2 dk os2).drewN n') os').cell? ⟨blk,off + kk * 4 + 3,none⟩=some (.bool xo.f3):=fun n' os'=>by
        have h:=HoldsK.cells (hHc n' os') encW_len (show kk<dk.size by omega) 3 (.bool xo.f3) (by rw [hxo];rfl)
        rw [Addr.add_lit] at h
        first|exact h|(rw [← h];congr 2;omega)
       have fo:∀ n' os' c,c<4→(grow ((sortWorldK encW 4 w blk off n2 dk os2).drewN n') os').frozen? ⟨blk,off + kk * 4 + c,none⟩=false:=fun n' os' c hc=>by
        have h:=((hHc n' os').cell (show kk<dk.size by omega) hc).2
        exact h
       have fo0:=fun n' os'=>fo n' os' 0 (by omega)
       have fo1:=fun n' os'=>fo n' os' 1 (by omega)
       have fo2:=fun n' os'=>fo n' os' 2 (by omega)
       have fo3:=fun n' os'=>fo n' os' 3 (by omega)
       simp only [Nat.add_zero] at fo0
       have hcg:∀ n' os',Calls Tryz.prog 94 #[.agg #[.int .i64 xm.f0,.string xm.f1,.string xm.f2,.bool xm.f3],.agg #[.int .i64 xn.f0,.string xn.f1,.string xn.f2,.bool xn.f3]] (grow ((sortWorldK encW 4 w blk off n2 dk os2).drewN n') os') fun e w'=>e = .returned (.bool (eqO xm xn))∧∃ q os'',w'=grow ((grow ((sortWorldK encW 4 w blk off n2 dk os2).drewN n') os').drewN q) os'':=fun n' os'=>eq_calls xm xn _
       have CLS:=Aside0.mk hcls
       have HX2:=Aside0.mk (And.intro hxm hxn)
       clear hcls hHc fo hm1 hm2 hxm hxn hxo
       generalize hwq:sortWorldK encW 4 w blk off n2 dk os2=wq at lm0 lm1 lm2 lm3 ln0 ln1 ln2 ln3 lo0 lo1 lo2 lo3 fo0 fo1 fo2 fo3 hcg CLS ⊢
       clear hwq
       cases hdup2:eqO xm xn with
       | true=>
        rw [hdup2] at hcg
        go_wp2_with fail
        go_quiet_grown (first|(go_at_fn 94;refine Calls.grown_of (hcg _ _)))
        go_wp2
        go_roundg (d.size - (kq + 1 + (k3 + 1 + 1)))
        case measure=>omega
        case rel=>exact ⟨kk,k3 + 1,n2 + nq,os2 ++ osq,dk,rfl,by go_num,by omega,by omega,CLS.out nq osq,I2.out.skip eqO d hlt2 (by unfold kp;rw [show kq + 1 + (k3 + 1) - 1=kq + 1 + k3 by omega,HX2.out.1,HX2.out.2,hdup2];simp)⟩
       | false=>
        rw [hdup2] at hcg
        go_wp2_with fail
        go_quiet_grown (first|(go_at_fn 94;refine Calls.grown_of (hcg _ _)))
        go_wp2
        go_roundg (d.size - (kq + 1 + (k3 + 1 + 1)))
        case measure=>omega
        case rel=>
         have hk:=I2.out.keep eqO d hlt2 (by unfold kp;rw [show kq + 1 + (k3 + 1) - 1=kq + 1 + k3 by omega,HX2.out.1,HX2.out.2,hdup2];simp)
         rw [HX2.out.1] at hk
         refine ⟨kk + 1,k3 + 1,n2 + nq,os2 ++ osq,dk.setIfInBounds kk xm,by go_num,by go_num,by omega,by omega,?_,hk⟩
         rw [← store_world w blk off (n2 + nq) dk (os2 ++ osq) hblk kk (by omega) xm,← CLS.out nq osq]
         rfl
      ·have hend:kq + 1 + (k3 + 1)=d.size:=by omega
       have hltc:¬ ((k3:Int) + 1<((d.size - (kq + 1):Nat):Int)):=by omega
       have hkd:kk≤d.size:=by omega
       have hHk:HoldsK encW 4 (sortWorldK encW 4 w blk off n2 dk os2) blk off dk:=holdsK_sortWorldK_c encW 4 w blk off d dk _ _ HH.out hblk hds
       have hvl:(Builtin.zeroCells (Value.agg #[.int .i64 0,.string ⟨#[]⟩,.string ⟨#[]⟩,.bool false]).cells (d.size - kk)).toList.length=(d.size - kk) * 4:=by
        simp [Builtin.zeroCells,Value.cells]
       have hcl:∀ ty,(Builtin.clear_ #[32] ty #[.slice (some ⟨blk,off + kk * 4,none⟩) (d.size - kk) (cap - kk)]).run Tryz.prog (sortWorldK encW 4 w blk off n2 dk os2) = .ok (.tuple #[]) ((sortWorldK encW 4 w blk off n2 dk os2).setCells blk (off + kk * 4) (Builtin.zeroCells (Value.agg #[.int .i64 0,.string ⟨#[]⟩,.string ⟨#[]⟩,.bool false]).cells (d.size - kk)).toList):=fun ty=>
        run_clear_k _ 32 72 ty (Value.agg #[.int .i64 0,.string ⟨#[]⟩,.string ⟨#[]⟩,.bool false]) Tryz.underlying32 Tryz.zeroValue72 blk (off + kk * 4) _ _ (by omega) (zero_one _)
         (fun j hj=>by
          rw [hvl] at hj
          have h:=(hHk.cell (i:=(kk * 4 + j) / 4) (c:=(kk * 4 + j) % 4) (by omega) (by omega)).1
          rw [show off + (kk * 4 + j) / 4 * 4 + (kk * 4 + j) % 4=off + kk * 4 + j by omega] at h
          rw [h];rfl)
         (fun j hj=>by
          rw [hvl] at hj
          have h:=(hHk.cell (i:=(kk * 4 + j) / 4) (c:=(kk * 4 + j) % 4) (by omega) (by omega)).2
          rwa [show off + (kk * 4 + j) / 4 * 4 + (kk * 4 + j) % 4=off + kk * 4 + j by omega] at h)
       have hfin:(sortWorldK encW 4 w blk off n2 dk os2).setCells blk (off + kk * 4) (Builtin.zeroCells (Value.agg #[.int .i64 0,.string ⟨#[]⟩,.string ⟨#[]⟩,.bool false]).cells (d.size - kk)).toList=grow (putRow id (Sort.ahead w n2) blk off (setMany (flatK encW 4 dk) (kk * 4) (Builtin.zeroCells (Value.agg #[.int .i64 0,.string ⟨#[]⟩,.string ⟨#[]⟩,.bool false]).cells (d.size - kk)).toList)) os2:=by
        unfold sortWorldK
        rw [setCells_grow os2 blk _ _ _ (by rw [size_putRowK];exact hblk)]
        unfold putRowK
        rw [setCells_putRow _ _ _ _ _ _ (by rw [hvl,size_flatK];omega)]
       rw [hend] at hI
       have HL:=Aside0.mk (left4_clear d dk kk hI _ hvl)
       have HE:=Aside0.mk (show (cmpUp eqO d d.size).length=kk from hI.len)
       have HF:=Aside0.mk hfin
       clear hHk hvl hfin hI
       generalize (Builtin.zeroCells (Value.agg #[.int .i64 0,.string ⟨#[]⟩,.string ⟨#[]⟩,.bool false]).cells (d.size - kk)).toList=zs at hcl HL HF
       generalize hw3:(sortWorldK encW 4 w blk off n2 dk os2).setCells blk (off + kk * 4) zs=W3 at hcl HF
       clear hw3
       go_wp2
       go_ret
       exact ⟨by rw [HE.out];rfl,n2,os2,_,HF.out,HL.out⟩
    ·have hdup':eqO xk xp=false:=by simpa using hdup
     rw [hdup'] at hcg
     go_wp2_with fail
     go_quiet_grown (first|(go_at_fn 94;refine Calls.grown_of (hcg _ _)))
     go_wp2
     go_roundg (d.size - (kq + 1 + 1))
     case measure=>omega
     case rel=>
      refine ⟨kq + 1 + 1,n + nq,os ++ osq,by omega,by omega,Nat.le_refl _,by go_num,CLS.out nq osq,fun j hj=>?_⟩
      by_cases e:j=kq + 1
      ·subst e
       unfold kp
       rw [show kq + 1 - 1=kq by omega,HX.out.1,HX.out.2,hdup']
       simp
      ·exact HA.out j (by omega)
   ·have hltz:¬ (k:Int)<(d.size:Int):=by omega
    have hk':k=d.size:=by omega
    have HA:=Aside0.mk hall
    clear hall
    generalize hwq:sortWorldK encW 4 w blk off n d os=wq
    have HW:=Aside0.mk hwq
    clear hwq
    go_wp2
    go_ret
    obtain ⟨e1,e2⟩:=HS.out (fun j hj=>HA.out j (by omega))
    exact ⟨by rw [e1];rfl,n,os,flatK encW 4 d,by rw [← HW.out];rfl,e2⟩
theorem heap_putRow {w:World} {g o:Nat} {cur:Array Value} {e:TypeId} {fr} (F:Array Value) (h:w.heap[g]? = some (.cells cur e fr)):(putRow id w g o F).heap[g]? = some (.cells (putCells id o F cur) e fr):=by
 unfold putRow mapBlock
 simp [Array.getElem?_modify,h,onCells]
theorem heap_putRow_other {w:World} {g o k:Nat} (F:Array Value) (h:k≠g):(putRow id w g o F).heap[k]? = w.heap[k]?:=by
 unfold putRow mapBlock
 simp only [Array.getElem?_modify]
 rw [if_neg (fun e=>h e.symm)]
theorem size_putRow (w:World) (g o:Nat) (F:Array Value):(putRow id w g o F).heap.size=w.heap.size:=by simp [putRow,mapBlock]
theorem below_putRow {B:Nat} (w:World) {g:Nat} (o:Nat) (F:Array Value) (h:B≤g):Below B w (putRow id w g o F):=⟨rfl,rfl,rfl,by rw [size_putRow];exact Nat.le_refl _,fun k hk=>heap_putRow_other F (by omega)⟩
theorem below_grow {B:Nat} (w:World) (os:Array Obj) (h:B≤w.heap.size):Below B w (grow w os):=⟨rfl,rfl,rfl,by simp [grow],fun k hk=>by
 show (w.heap ++ os)[k]? = _
 rw [Array.getElem?_append_left (by omega)]⟩
theorem below_ahead (B:Nat) (w:World) (n:Nat):Below B w (Sort.ahead w n):=⟨rfl,rfl,rfl,Nat.le_refl _,fun _ _=>rfl⟩
theorem below_all {B:Nat} (w:World) (n:Nat) {g:Nat} (o:Nat) (F:Array Value) (os:Array Obj) (h:B≤g) (hB:B≤w.heap.size):Below B w (grow (putRow id (Sort.ahead w n) g o F) os):=
 (below_ahead B w n).trans ((below_putRow _ o F h).trans (below_grow _ os (by rw [size_putRow];exact hB)))
theorem heap_all {w:World} {g:Nat} {cur:Array Value} {e:TypeId} {fr} (n o:Nat) (F:Array Value) (os:Array Obj) (h:w.heap[g]? = some (.cells cur e fr)):(grow (putRow id (Sort.ahead w n) g o F) os).heap[g]? = some (.cells (putCells id o F cur) e fr):=by
 have h1:=heap_putRow (w:=Sort.ahead w n) (o:=o) F h
 show ((putRow id (Sort.ahead w n) g o F).heap ++ os)[g]? = _
 rw [Array.getElem?_append_left (by have:=(Array.getElem?_eq_some_iff.1 h1).1;exact this)]
 exact h1
theorem R_put {base:Nat} {ok:Nat→Prop} {g n cap:Nat} {cur F:Array Value} {W:World} {l:List S72} (hW:W.heap[g]? = some (.cells (putCells id 0 F cur) 72 (0,0))) (hbg:base≤g) (hok:ok g) (hl:l.length=n) (hn:n≤cap) (hcm:cap≤maxLen) (hsz:cur.size=cap * 4) (hFs:n * 4≤F.size)
 (hF:∀ j,j<n→∀ c,c<4→F[j * 4 + c]! = (encW l[j]!)[c]!):k72.R 72 W base ok (.slice (some ⟨g,0,none⟩) n cap) l:=by
 have hps:(putCells id 0 F cur).size=cap * 4:=by simp [putCells,hsz]
 refine row_R k72 rfl (w0:=W) (base0:=base) (ok0:=ok) (Nat.le_refl _) hW hbg hl.symm hn hcm hps rfl ⟨?_,fun j p hj=>?_⟩ hok
 ·rw [List.length_take,Array.length_toList,hps,hl]
  show min (n * 4) (cap * 4)=n * 4
  omega
 ·have hjl:j<n:=by have:=(List.getElem?_eq_some_iff.1 hj).1;omega
  have hp:l[j]! = p:=by rw [getElem!_pos l j (by omega)];exact (List.getElem?_eq_some_iff.1 hj).2
  have e:(((putCells id 0 F cur).toList.take (n * k72.sz)).drop (j * k72.sz)).take k72.sz=encW p:=by
   show (((putCells id 0 F cur).toList.take (n * 4)).drop (j * 4)).take 4=encW p
   apply List.ext_getElem
   ·simp only [List.length_take,List.length_drop,Array.length_toList,hps,encW_len];omega
   ·intro c h1 h2
    rw [encW_len] at h2
    simp only [List.getElem_take,List.getElem_drop,Array.getElem_toList]
    have h3:=hF j hjl c h2
    rw [hp,getElem!_pos (encW p) c (by rw [encW_len];exact h2)] at h3
    rw [← h3]
    simp only [putCells,Array.getElem_mapIdx,Nat.zero_le,Nat.zero_add,true_and,Nat.sub_zero,id]
    rw [if_pos (by omega)]
  rw [e]
  exact ⟨_,_,rfl,rfl,⟨_,_,rfl,rfl,⟨_,_,rfl,rfl,rfl⟩⟩⟩
theorem flat_get (d:Array S72) (l:List S72) (h:d.toList=l):∀ j,j<l.length→∀ c,c<4→(flatK encW 4 d)[j * 4 + c]! = (encW l[j]!)[c]!:=by
 intro j hj c hc
 subst h
 rw [Array.length_toList] at hj
 rw [get_flatK encW 4 d _ (by omega),show (j * 4 + c) / 4=j by omega,show (j * 4 + c) % 4=c by omega,getElem!_pos d j hj,getElem!_pos d.toList j (by simpa using hj),Array.getElem_toList]
theorem holds_R {base:Nat} {ok:Nat→Prop} {g n cap:Nat} {W:World} {l:List S72} {cur:Array Value} (h:k72.R 72 W base ok (.slice (some ⟨g,0,none⟩) n cap) l) (hg:W.heap[g]? = some (.cells cur 72 (0,0))):HoldsK encW 4 W g 0 l.toArray:=by
 obtain ⟨hn,_,hC⟩:=Kd.R_reads' h
 subst hn
 intro t ht
 rw [size_flatK,List.size_toArray] at ht
 refine ⟨?_,blk_frozen hg _⟩
 rw [get_flatK encW 4 _ t (by simpa using ht)]
 obtain ⟨ad,e,h0,h1,h2,h3⟩:=at_T72 hC ((t / 4:Nat):Int) (by omega) (by omega)
 cases e
 have hrd:rd_T72 l ((t / 4:Nat):Int)=l.toArray[t / 4]!:=by
  rw [getElem!_pos l.toArray (t / 4) (by simp;omega)]
  have hrd0:∀ (j:Nat) (h:j<l.length),rd_T72 l (j:Int)=l[j]:=fun j h=>by simp [rd_T72,h]
  rw [hrd0 (t / 4) (by omega)]
  simp
 rw [hrd] at h0 h1 h2 h3
 simp only [Int.toNat_natCast,Addr.add_lit,Nat.zero_add] at h0 h1 h2 h3
 have hc:t % 4=0∨t % 4=1∨t % 4=2∨t % 4=3:=by omega
 rcases hc with hc|hc|hc|hc
 ·rw [show 0 + t=t / 4 * 4 by omega,hc];exact h0
 ·rw [show 0 + t=t / 4 * 4 + 1 by omega,hc];exact h1
 ·rw [show 0 + t=t / 4 * 4 + 2 by omega,hc];exact h2
 ·rw [show 0 + t=t / 4 * 4 + 3 by omega,hc];exact h3
section
variable (lt:S72→S72→Bool)
theorem size_insInner (a:Nat):∀ (j:Nat) (d:Array S72),(insInner lt a j d).size=d.size
 | 0,d=>by rw [insInner_stop lt a 0 d (Or.inl (Nat.zero_le _))]
 | j + 1,d=>by
  by_cases h:a<j + 1∧lt d[j + 1]! d[j]! = true
  ·rw [insInner_go lt a (j + 1) d h.1 (by simpa using h.2),Nat.add_sub_cancel,size_insInner a j,size_swp]
  ·rw [insInner_stop lt a (j + 1) d]
   by_cases h1:a<j + 1
   ·exact Or.inr (by rw [Nat.add_sub_cancel];exact Bool.eq_false_iff.2 (fun h2=>h ⟨h1,h2⟩))
   ·exact Or.inl (by omega)
theorem size_insOuter (a b:Nat):∀ (m i:Nat) (d:Array S72),b - i≤m→(insOuter lt a b i d).size=d.size
 | 0,i,d,h=>by rw [insOuter_stop lt a b i d (by omega)]
 | m + 1,i,d,h=>by
  by_cases hi:i<b
  ·rw [insOuter_go lt a b i d hi,size_insOuter a b m (i + 1) _ (by omega),size_insInner]
  ·rw [insOuter_stop lt a b i d hi]
theorem size_ins (a b:Nat) (d:Array S72):(Sort.insertionSort lt d a b).size=d.size:=size_insOuter lt a b _ _ d (Nat.le_refl _)
end
def sortOf (l:List S72):List S72:=(Sort.insertionSort (ltOf ordOf) l.toArray 0 l.length).toList
def runsOf (l:List S72):List S72:=cmpUp eqO l.toArray l.length
def allOf (l:List S72):List S72:=runsOf (sortOf l.reverse)
theorem sortOf_len (l:List S72):(sortOf l).length=l.length:=by unfold sortOf;rw [Array.length_toList,size_ins];simp
theorem reverse_R {w0 w:World} {ok:Nat→Prop} {u:Value} {l:List S72} (hB:Below w0.heap.size w0 w) (ho:k72.R 72 w w0.heap.size ok u l) :
 Calls Tryz.prog 90 #[u] w fun e w'=>e = .returned (.tuple #[])∧k72.R 72 w' w0.heap.size ok u l.reverse∧Below w0.heap.size w0 w':=by
 have ho':=ho
 obtain ⟨hok,inner,⟨hlen,hcase⟩,hr⟩:=ho
 rcases hcase with ⟨rfl,hn⟩|⟨g,cap,cur,rfl,hbg,hg,hnc,hcm,hsz,ht⟩
 ·have hl:l=[]:=List.eq_nil_of_length_eq_zero hn
  subst hl
  exact (AnyQ.slices_Reverse_empty Tryz.revWrite none 0 w).mono fun e w' ⟨he,hw⟩=>by
   subst hw
   exact ⟨he,ho',hB⟩
 ·have hH:=holds_R ho' hg
  have h:=AnyQ.slices_Reverse Tryz.revWrite 4 Tryz.isAgg72 Tryz.sizeOf72 encW encW_len encW_one g 0 cap l.toArray w hH (by have:cap≤9223372036854775807:=by { unfold maxLen at hcm;omega };simp;omega)
  rw [List.size_toArray] at h
  refine h.mono fun e w' ⟨he,n,hw⟩=>?_
  subst hw
  refine ⟨he,?_,hB.trans ?_⟩
  ·have hh:=heap_all n 0 (flatK encW 4 l.toArray.reverse) #[] hg
   rw [grow_empty] at hh
   exact R_put hh hbg (hok g (by simp [Value.ownBlock])) (by simp) hnc hcm hsz (by simp) (fun j hj=>flat_get l.toArray.reverse l.reverse (by simp) j (by simpa using hj))
  ·have:=below_all (B:=w0.heap.size) w n (g:=g) 0 (flatK encW 4 l.toArray.reverse) #[] hbg hB.size
   rwa [grow_empty] at this
theorem ins_nil (w:World):Calls Tryz.prog 115 #[.slice none 0 0,.int .i64 0,.int .i64 0,.func (.func 92) #[] #[]] w fun e w'=>e = .returned (.tuple #[])∧w'=w:=by
 go_enter Tryz.func115,Tryz.ntmps115
 go_wp2_with fail
 go_loopg [8] 0 (fun kq v8 w'=>v8 = .int .i64 1∧w'=w)
 case atStart=>exact ⟨rfl,rfl⟩
 case round=>
  obtain ⟨rfl,rfl⟩:=hrel
  go_wp2
  go_end0
  exact ⟨rfl,rfl⟩
theorem stable_nil (w:World):Calls Tryz.prog 108 #[.slice none 0 0,.int .i64 0,.func (.func 92) #[] #[]] w fun e w'=>e = .returned (.tuple #[])∧w'=w:=by
 have hcon:=ins_nil
 go_enter Tryz.func108,Tryz.ntmps108
 go_wp2_with fail
 go_loopg [7,8] 0 (fun kq v7 v8 w'=>v7 = .int .i64 0∧v8 = .int .i64 20∧w'=w)
 case atStart=>exact ⟨rfl,rfl,rfl⟩
 case round=>
  obtain ⟨rfl,rfl,hwr⟩:=hrel
  have HW:=Aside0.mk hwr
  clear hwr
  go_wp2_with (go_at_call 115;refine (hcon _).mono ?_;rintro e w' ⟨rfl,rfl⟩)
  go_loopg [6,7,8] 0 (fun kq v6 v7 v8 w'=>v6 = .int .i64 20∧v7 = .int .i64 0∧v8 = .int .i64 20∧Aside0 (w'=w))
  case atStart=>exact ⟨rfl,rfl,rfl,HW⟩
  case round=>
   obtain ⟨rfl,rfl,rfl,HW2⟩:=hrel
   go_wp2
   go_end0
   exact ⟨rfl,HW2.out⟩
theorem sort_nil (w:World):Calls Tryz.prog 91 #[.slice none 0 0,.func (.func 92) #[] #[]] w fun e w'=>e = .returned (.tuple #[])∧w'=w:=by
 have hcon:=stable_nil w
 go_enter Tryz.func91,Tryz.ntmps91
 go_wp2_with (go_at_call 108;refine hcon.mono ?_;rintro e w' ⟨rfl,rfl⟩)
 go_end0
 exact ⟨rfl,rfl⟩
theorem sort_R {w0 w:World} {ok:Nat→Prop} {u:Value} {l:List S72} (hB:Below w0.heap.size w0 w) (ho:k72.R 72 w w0.heap.size ok u l) (h12:l.length≤12) :
 Calls Tryz.prog 91 #[u,.func (.func 92) #[] #[]] w fun e w'=>e = .returned (.tuple #[])∧k72.R 72 w' w0.heap.size ok u (sortOf l)∧Below w0.heap.size w0 w':=by
 have ho':=ho
 obtain ⟨hok,inner,⟨hlen,hcase⟩,hr⟩:=ho
 rcases hcase with ⟨rfl,hn⟩|⟨g,cap,cur,rfl,hbg,hg,hnc,hcm,hsz,ht⟩
 ·have hl:l=[]:=List.eq_nil_of_length_eq_zero hn
  subst hl
  have e0:sortOf ([]:List S72)=[]:=List.eq_nil_of_length_eq_zero (sortOf_len [])
  rw [e0]
  exact (sort_nil w).mono fun e w' ⟨he,hw⟩=>by
   subst hw
   exact ⟨he,ho',hB⟩
 ·have hH:=holds_R ho' hg
  have h:=sort_calls g 0 cap l.toArray w hH (blk_lt hg) (by simpa using h12)
  rw [List.size_toArray] at h
  refine h.mono fun e w' ⟨he,n,os,hw⟩=>?_
  subst hw
  refine ⟨he,?_,hB.trans ?_⟩
  ·exact R_put (heap_all n 0 (flatK encW 4 (Sort.insertionSort (ltOf ordOf) l.toArray 0 l.length)) os hg) hbg (hok g (by simp [Value.ownBlock])) (sortOf_len l) hnc hcm hsz (by rw [size_flatK,size_ins];simp) (fun j hj=>flat_get _ (sortOf l) rfl j (by rw [sortOf_len];exact hj))
  ·exact below_all w n 0 _ os hbg hB.size
theorem compact_R {w0 w:World} {ok:Nat→Prop} {u:Value} {l:List S72} (hB:Below w0.heap.size w0 w) (ho:k72.R 72 w w0.heap.size ok u l) (h12:l.length≤12) :
 Calls Tryz.prog 93 #[u,.func (.func 94) #[] #[]] w fun e w'=>∃ v0_,e = .returned v0_∧k72.R 72 w' w0.heap.size ok v0_ (runsOf l)∧Below w0.heap.size w0 w':=by
 have ho':=ho
 obtain ⟨hok,inner,⟨hlen,hcase⟩,hr⟩:=ho
 rcases hcase with ⟨rfl,hn⟩|⟨g,cap,cur,rfl,hbg,hg,hnc,hcm,hsz,ht⟩
 ·have hl:l=[]:=List.eq_nil_of_length_eq_zero hn
  subst hl
  clear hlen hn
  go_enter Tryz.func93,Tryz.ntmps93
  go_wp2
  go_ret
  exact ⟨_,rfl,Kd.R_nil _ _ _ _ _,hB⟩
 ·have hH:=holds_R ho' hg
  have h:=compact_calls g 0 cap l.toArray w hH (blk_lt hg) (by simpa using h12) (by simpa using hnc)
  rw [List.size_toArray] at h
  refine h.mono fun e w' ⟨he,n,os,F,hw,hF⟩=>?_
  subst hw
  obtain ⟨f1,f2,f3⟩:=hF
  simp only [List.size_toArray] at f1 f2 f3
  refine ⟨_,he,?_,hB.trans ?_⟩
  ·exact R_put (heap_all n 0 F os hg) hbg (hok g (by simp [Value.ownBlock])) rfl (by show (cmpUp eqO l.toArray l.length).length≤cap;omega) hcm hsz (by show (cmpUp eqO l.toArray l.length).length * 4≤F.size;omega) f3
  ·exact below_all w n 0 _ os hbg hB.size
set_option maxHeartbeats 2000000 in
theorem All_calls (A0:Option Addr) (c0:Nat) (l0:List S72) (A1:Option Addr) (c1:Nat) (l1:List Int) (w:World) (hr0:Kd.C k72 w A0 l0.length l0) (hc0:l0.length≤c0) (h12:l0.length≤12) :
 Calls Tryz.prog 69 #[.agg #[.slice A0 l0.length c0,.slice A1 l1.length c1]] w fun e w'=>∃ v0_,e = .returned v0_∧Kd.R k72 72 w' w.heap.size (fun _=>True) v0_ (allOf l0)∧Below w.heap.size w w':=by
 have hclone:=fun W (hb:Below w.heap.size w W)=>cloneW.calls A0 c0 l0 l0 W (Kd.C_below hr0 hb) hc0 (by unfold cloneW.f;rw [if_pos (by omega)])
 have hrev:=fun u W=>reverse_R (w0:=w) (w:=W) (ok:=fun _=>True) (u:=u) (l:=l0)
 have hsort:=fun u W hB ho=>sort_R (w0:=w) (w:=W) (ok:=fun _=>True) (u:=u) (l:=l0.reverse) hB ho (by simpa using h12)
 have hcomp:=fun u W hB ho=>compact_R (w0:=w) (w:=W) (ok:=fun _=>True) (u:=u) (l:=sortOf l0.reverse) hB ho (by rw [sortOf_len];simpa using h12)
 have hbox:Below w.heap.size w (w.alloc (Obj.cells #[Value.slice A0 l0.length c0,Value.slice A1 l1.length c1] 34)):=below_alloc (Below.refl _ _) _
 show Calls _ _ _ _ (fun e w'=>∃ v0_,e = .returned v0_∧Kd.R k72 72 w' w.heap.size (fun _=>True) v0_ (runsOf (sortOf l0.reverse))∧Below w.heap.size w w')
 generalize runsOf (sortOf l0.reverse)=r at hcomp ⊢
 generalize sortOf l0.reverse=l2 at hsort hcomp
 generalize l0.reverse=l1' at hrev hsort
 clear h12 hc0
 go_enter Tryz.func69,Tryz.ntmps69
 go_wp2_with (first
  | (go_at_call 89;refine (hclone _ (by first|exact hbox|exact hbox.drew)).mono ?_;rintro e w' ⟨v0,rfl,ho,hb⟩;have hB1:=hbox.trans (hb.mono (by simp));have hR1:=Kd.R_lower ho (base':=w.heap.size) (by simp))
  | (go_at_call 90;refine (hrev _ _ hB1 hR1).mono ?_;rintro e w' ⟨rfl,hR2,hB2⟩)
  | (go_at_call 91;refine (hsort _ _ hB2 hR2).mono ?_;rintro e w' ⟨rfl,hR3,hB3⟩)
  | (go_at_call 93;refine (hcomp _ _ hB3 hR3).mono ?_;rintro e w' ⟨v1,rfl,hR4,hB4⟩))
 go_ret
 exact ⟨_,rfl,hR4,hB4⟩
end Go.Proofs.YtbaecdcfefmcgaaGreat.HAll
