import Derived.RangeFuncBox
import Derived.RangeFuncLeaves
import Derived.Shelf.Abstract
import Derived.WalkKit
import Derived.OwnWalkIn
import Derived.TacticsInMore
import Derived.LoopNIn
import Derived.LoopIn
import Derived.Test.YtbaecdcfefmcgaaGreatProg
import Derived.RangeFuncNested
import Derived.Test.YtbaecdcfefmcgaaGreatWAll
set_option linter.unusedVariables false
set_option linter.unusedSimpArgs false
namespace Go.Proofs.YtbaecdcfefmcgaaGreat.HBack
open Go.RowKit Go.Shelf
attribute [local go_sem] Oper.semAt_some
abbrev Wr:=Int×ByteArray×ByteArray×Bool
def wv (x:Wr):Value:=.agg #[.int .i64 x.1,.string x.2.1,.string x.2.2.1,.bool x.2.2.2]
def upto (e:Nat→Wr) (len k:Nat):List (Nat×Wr):=(List.range k).map fun j=>(len - 1 - j,e (len - 1 - j))
theorem upto_succ (e:Nat→Wr) (len k:Nat):upto e len (k + 1)=upto e len k ++ [(len - 1 - k,e (len - 1 - k))]:=by simp [upto,List.range_succ]
theorem upto_length (e:Nat→Wr) (len k:Nat):(upto e len k).length=k:=by simp [upto]
def Cells (W:World) (b off len:Nat) (e:Nat→Wr):Prop:=∀ j,j<len→W.cell? ⟨b,off + j * 4,none⟩=some (.int .i64 (e j).1)∧W.cell? ⟨b,off + j * 4 + 1,none⟩=some (.string (e j).2.1)∧W.cell? ⟨b,off + j * 4 + 2,none⟩=some (.string (e j).2.2.1)∧W.cell? ⟨b,off + j * 4 + 3,none⟩=some (.bool (e j).2.2.2)
set_option maxRecDepth 100000 in
set_option maxHeartbeats 4000000 in
theorem back1_in (F:Fence) (n:Nat) (hf:F.fn 105) (hro:F.round=none) (hn:1≤n) (l Bs n₀ b off len cap:Nat) (e:Nat→Wr) (hreach:len * 48≤140737488351232) (hb:b<n₀) (J Jx:List (Nat×Wr)→World→Prop)
 (hY:∀ pre x W,J pre W→pre.length<len→YieldAt F (n - 1) Tryz.prog l #[.int .i64 (x.1:Int),wv x.2] W fun r W'=>
  (r = .returned (.bool true)∧J (pre ++ [x]) W'∧Below n₀ W W')∨(r = .returned (.bool false)∧Jx (pre ++ [x]) W'))
 (W:World) (hBs:W.cell? ⟨Bs,0,none⟩=some (.slice (some ⟨b,off,none⟩) len cap)) (hBn:Bs<n₀) (hc:Cells W b off len e) (h0:J [] W) :
 CallsIn F n Tryz.prog 105 #[.func (.yield l) #[] #[],.pointer (some ⟨Bs,0,none⟩)] W fun r W'=>(∃ v,r = .returned v) ∧
  ((J (upto e len len) W')∨(∃ k,k≤len∧Jx (upto e len k) W')):=by
 refine callsIn_of_wp Tryz.func105 rfl hf ?_ hro
 simp only [Tryz.ntmps105,List.size_toArray,List.length_cons,List.length_nil,Nat.reduceAdd,Nat.reduceSub,Array.replicate_succ,Array.replicate_zero,List.push_toArray,List.append_toArray,List.nil_append,List.cons_append]
 gi_wp2
 gi_loopw [3] (fun i wr=>∃ k:Nat,k≤len∧i = .int .i64 ((len:Int) - 1 - k)∧J (upto e len k) wr∧Below n₀ W wr)
  (fun i _=>(intOf i + 1).toNat)
 case atStart=>exact ⟨0,Nat.zero_le _,by simp,h0,Below.refl _ _⟩
 case round=>
  obtain ⟨k,hk,rfl,hJs,hnx⟩:=hrel
  have hBr:=(hnx.cell (p:=⟨Bs,0,none⟩) hBn).trans hBs
  by_cases hlt:k<len
  ·obtain ⟨m,hm⟩:∃ m:Nat,m=len - 1 - k:=⟨_,rfl⟩
   have hmi:(len:Int) - 1 - k=(m:Int):=by omega
   have hml:m<len:=by omega
   obtain ⟨c0,c1,c2,c3⟩:=hc m hml
   have d0:=(hnx.cell (p:=⟨b,off + m * 4,none⟩) hb).trans c0
   have d1:=(hnx.cell (p:=⟨b,off + m * 4 + 1,none⟩) hb).trans c1
   have d2:=(hnx.cell (p:=⟨b,off + m * 4 + 2,none⟩) hb).trans c2
   have d3:=(hnx.cell (p:=⟨b,off + m * 4 + 3,none⟩) hb).trans c3
   obtain ⟨fn,tmps,assign,body,hy,hR⟩:=hY _ (m,e m) wr hJs (by rw [upto_length];exact hlt)
   dsimp only [wv] at hy
   have hus:upto e len (k + 1)=upto e len k ++ [(m,e m)]:=by rw [upto_succ,← hm]
   have hk1:(m:Int) - 1=(len:Int) - 1 - ((k + 1:Nat):Int):=by omega
   clear c0 c1 c2 c3
   rw [hmi]
   clear hmi hm
   gi_wp2
   refine hR.mono ?_
   rintro r W3 (⟨rfl,hJ3,hk3⟩|⟨rfl,hJx3⟩)
   ·gi_wp2
    go_roundw
    case rel=>exact ⟨k + 1,by omega,by first|(rw [← hk1];done)|(rw [← hk1];simp [IntKind.wrap,IntKind.signed,IntKind.bits];omega),by rw [hus];exact hJ3,hnx.trans hk3⟩
    case measure=>simp [intOf];omega
   ·gi_wp2
    refine bodyPost_ret (results_none rfl _ _ _) rfl ?_
    exact ⟨⟨_,rfl⟩,.inr ⟨k + 1,by omega,by rw [hus];exact hJx3⟩⟩
  ·obtain rfl:k=len:=by omega
   have:(k:Int) - 1 - k = -1:=by omega
   rw [this]
   gi_wp2
   go_end0
   exact ⟨⟨_,rfl⟩,.inl hJs⟩
set_option maxRecDepth 100000 in
set_option maxHeartbeats 1000000 in
theorem back1_nil_in (F:Fence) (n:Nat) (hf:F.fn 105) (hro:F.round=none) (l Bs:Nat) (A0:Option Addr) (cap:Nat) (J:List (Nat×Wr)→World→Prop) (W:World) (hBs:W.cell? ⟨Bs,0,none⟩=some (.slice A0 0 cap)) (h0:J [] W) :
 CallsIn F n Tryz.prog 105 #[.func (.yield l) #[] #[],.pointer (some ⟨Bs,0,none⟩)] W fun r W'=>(∃ v,r = .returned v)∧J [] W':=by
 refine callsIn_of_wp Tryz.func105 rfl hf ?_ hro
 simp only [Tryz.ntmps105,List.size_toArray,List.length_cons,List.length_nil,Nat.reduceAdd,Nat.reduceSub,Array.replicate_succ,Array.replicate_zero,List.push_toArray,List.append_toArray,List.nil_append,List.cons_append]
 gi_wp2
 gi_loopw [3] (fun i wr=>i = .int .i64 (-1)∧J [] wr) (fun _ _=>0)
 case atStart=>exact ⟨rfl,h0⟩
 case round=>
  obtain ⟨rfl,hJs⟩:=hrel
  gi_wp2
  go_end0
  exact ⟨⟨_,rfl⟩,hJs⟩
set_option maxHeartbeats 1000000 in
theorem back_in (F:Fence) (n:Nat) (hf:F.fn 85) (hro:F.round=none) (a:Option Addr) (len cap:Nat) (w:World) :
 CallsIn F n Tryz.prog 85 #[.slice a len cap] w fun r w'=>r = .returned (.func (.func 105) #[] #[.pointer (some ⟨w.heap.size,0,none⟩)])∧w'=w.alloc (.cells #[.slice a len cap] 32):=by
 refine callsIn_of_wp Tryz.func85 rfl hf ?_ hro
 simp only [Tryz.ntmps85,List.size_toArray,List.length_cons,List.length_nil,Nat.reduceAdd,Nat.reduceSub,Array.replicate_succ,Array.replicate_zero,List.push_toArray,List.append_toArray,List.nil_append,List.cons_append]
 gi_wp2
 go_ret
 exact ⟨rfl,rfl⟩
def Row (n₀:Nat) (W:World) (sv:Value) (len:Nat) (e:Nat→Wr):Prop:=
 (∃ A0 cap,sv = .slice A0 0 cap∧len=0)∨∃ b off cap,sv = .slice (some ⟨b,off,none⟩) len cap∧b<n₀∧Cells W b off len e
theorem Row.below {n₀:Nat} {A B:World} (h:Below n₀ A B) {sv:Value} {len:Nat} {e:Nat→Wr}:Row n₀ A sv len e→Row n₀ B sv len e
 | .inl x=>.inl x
 | .inr ⟨b,off,cap,x,hb,hc⟩=>.inr ⟨b,off,cap,x,hb,fun j hj=>⟨(h.cell (p:=⟨b,off + j * 4,none⟩) hb).trans (hc j hj).1,(h.cell (p:=⟨b,off + j * 4 + 1,none⟩) hb).trans (hc j hj).2.1,(h.cell (p:=⟨b,off + j * 4 + 2,none⟩) hb).trans (hc j hj).2.2.1,(h.cell (p:=⟨b,off + j * 4 + 3,none⟩) hb).trans (hc j hj).2.2.2⟩⟩
theorem back_stops (F:Fence) (n:Nat) (hf:F.fn 105) (hro:F.round=none) (hn:1≤n) (Bs n₀:Nat) (sv:Value) (len:Nat) (e:Nat→Wr) (hreach:len * 48≤140737488351232) (w:World) (hBs:Bs<n₀) (hn₀:n₀≤w.heap.size)
 (hc:w.cell? ⟨Bs,0,none⟩=some sv) (hI:Row n₀ w sv len e) :
 SeqStopsK F n Tryz.prog 105 #[.pointer (some ⟨Bs,0,none⟩)] (fun x:Nat×Wr=>#[Value.int .i64 (x.1:Int),wv x.2]) (Below n₀) (fun ys=>ys=upto e len len) (fun pre=>∃ k,k≤len∧pre=upto e len k) len w:=fun l J Jx W hW _ _ hY h0=>by
 have hc':=(hW.cell (p:=⟨Bs,0,none⟩) (by show Bs<_;omega)).trans hc
 rcases hI.below (hW.mono hn₀) with ⟨A0,cap,rfl,rfl⟩|⟨b,off,cap,rfl,hb,hcs⟩
 ·exact (back1_nil_in F n hf hro l Bs A0 cap J W hc' h0).mono fun r W' ⟨he,hj⟩=>⟨he,.inl ⟨_,rfl,hj⟩⟩
 ·refine (back1_in F n hf hro hn l Bs n₀ b off len cap e hreach hb J Jx hY W hc' hBs hcs h0).mono ?_
  rintro r W' ⟨he,hj|⟨k,hk,hj⟩⟩
  ·exact ⟨he,.inl ⟨_,rfl,hj⟩⟩
  ·exact ⟨he,.inr ⟨_,⟨k,hk,rfl⟩,hj⟩⟩
end Go.Proofs.YtbaecdcfefmcgaaGreat.HBack
set_option linter.unusedVariables false
set_option linter.unusedSimpArgs false
namespace Go.Proofs.YtbaecdcfefmcgaaGreat.HBack
open Go.RowKit Go.Shelf Go.Proofs.YtbaecdcfefmcgaaGreatW.PrintWords
def hit (t:Int) (key:ByteArray) (x:Wr):Bool:=(x.1 == t) && (x.2.1.toList == key.toList)
def cellsOf (x:Wr):Obj:=.cells #[.int .i64 x.1,.string x.2.1,.string x.2.2.1,.bool x.2.2.2] 72 (0,0)
theorem four {W:World} {g:Nat} {x:Wr} (h:W.heap[g]? = some (cellsOf x)):W.cell? ⟨g,0,none⟩=some (.int .i64 x.1)∧W.cell? ⟨g,1,none⟩=some (.string x.2.1)∧W.cell? ⟨g,2,none⟩=some (.string x.2.2.1)∧W.cell? ⟨g,3,none⟩=some (.bool x.2.2.2):=by
 unfold cellsOf at h
 refine ⟨?_,?_,?_,?_⟩ <;> simp [World.cell?,h]
theorem fourF {W:World} {g:Nat} {x:Wr} (h:W.heap[g]? = some (cellsOf x)):W.frozen? ⟨g,0,none⟩=false∧W.frozen? ⟨g,1,none⟩=false∧W.frozen? ⟨g,2,none⟩=false∧W.frozen? ⟨g,3,none⟩=false:=by
 unfold cellsOf at h
 refine ⟨?_,?_,?_,?_⟩ <;> simp [World.frozen?,h]
theorem look_results (w:World) (g:Nat) (tm:Array Value) (y:Wr) (b:Bool) (h6:tm.getD 6 undef = .pointer (some ⟨g + 3,0,none⟩)) (h7:tm.getD 7 undef = .pointer (some ⟨g + 4,0,none⟩)) (c3:w.heap[g + 3]? = some (cellsOf y)) (c4:w.heap[g + 4]? = some (.cells #[.bool b] 4 (0,0))) :
 (results Tryz.f61 tm).run Tryz.prog w = .ok (.tuple #[wv y,.bool b]) w:=by
 have h6':tm[6]?.getD undef = .pointer (some ⟨g + 3,0,none⟩):=by simpa using h6
 have h7':tm[7]?.getD undef = .pointer (some ⟨g + 4,0,none⟩):=by simpa using h7
 have hr:(Tryz.f61).results = #[.cell 6 72,.cell 7 4]:=rfl
 obtain ⟨d0,d1,d2,d3⟩:=four c3
 have hc:w.cell? ⟨g + 4,0,none⟩=some (.bool b):=by simp [World.cell?,c4]
 simp [results,hr,h6',h7',asAddr,wv,go_sem,hc,d0,d1,d2,d3,Result.andThen]
set_option maxRecDepth 100000 in
set_option maxHeartbeats 8000000 in
theorem look_in (F:Fence) (n:Nat) (h1:F.fn 61) (h2:F.fn 85) (h3:F.fn 105) (hro:F.round=none) (hn:3≤n) (A:Option Addr) (len cap:Nat) (mv:Value) (t:Int) (key:ByteArray) (e:Nat→Wr) (hreach:len * 48≤140737488351232) (w:World) (hI:Row w.heap.size w (.slice A len cap) len e) :
 CallsIn F n Tryz.prog 61 #[.agg #[.slice A len cap,mv],.int .i64 t,.string key] w fun r w'=>Below w.heap.size w w' ∧
  ((∃ k,k<len∧hit t key (e (len - 1 - k))=true∧(∀ j,j<k→hit t key (e (len - 1 - j))=false)∧r = .returned (.tuple #[wv (e (len - 1 - k)),.bool true])) ∨
   ((∀ j,j<len→hit t key (e (len - 1 - j))=false)∧r = .returned (.tuple #[.agg #[.int .i64 0,.string ⟨#[]⟩,.string ⟨#[]⟩,.bool false],.bool false]))):=by
 have hn1:1≤n:=by omega
 have hu99:=Tryz.underlying34
 have hu108:=Tryz.underlying72
 refine callsIn_of_wp_marks Tryz.func61 rfl h1 ?_ hro
 simp only [Tryz.ntmps61,List.size_toArray,List.length_cons,List.length_nil,Nat.reduceAdd,Nat.reduceSub,Array.replicate_succ,Array.replicate_zero,List.push_toArray,List.append_toArray,List.nil_append,List.cons_append]
 gi_wp2_with (gi_at_call 85;refine (back_in F (n - 1) h2 hro _ _ _ _).mono ?_;rintro e w' ⟨rfl,rfl⟩)
 obtain ⟨W0,hW0⟩:∃ W0,(((((w.alloc (.cells #[.slice A len cap,mv] 34)).alloc (.cells #[.int .i64 t] 3)).alloc (.cells #[.string key] 9)).alloc (.cells #[.int .i64 0,.string ⟨#[]⟩,.string ⟨#[]⟩,.bool false] 72)).alloc (.cells #[.bool false] 4)).alloc (.cells #[.slice A len cap] 32)=W0:=⟨_,rfl⟩
 have hsz:W0.heap.size=w.heap.size + 6:=by rw [← hW0];simp
 have hB0:Below w.heap.size w W0:=by
  rw [← hW0]
  refine ((((((Below.refl _ w).alloc (Nat.le_refl _) _).alloc (by simp) _).alloc (by simp;omega) _).alloc (by simp;omega) _).alloc (by simp;omega) _).alloc (by simp;omega) _
 have at_:∀ k,k<6→W0.heap[w.heap.size + k]? = (#[Obj.cells #[.slice A len cap,mv] 34 (0,0),.cells #[.int .i64 t] 3 (0,0),.cells #[.string key] 9 (0,0),.cells #[.int .i64 0,.string ⟨#[]⟩,.string ⟨#[]⟩,.bool false] 72 (0,0),.cells #[.bool false] 4 (0,0),.cells #[.slice A len cap] 32 (0,0)]:Array Obj)[k]?:=by
  intro k hk
  rw [← hW0]
  simp only [World.alloc,Array.getElem?_push,Array.size_push]
  have:k=0∨k=1∨k=2∨k=3∨k=4∨k=5:=by omega
  rcases this with rfl|rfl|rfl|rfl|rfl|rfl <;> (simp) <;> (repeat (first|rw [if_pos (by omega)]|rw [if_neg (by omega)]))
 have b1:=at_ 1 (by omega)
 have b2:=at_ 2 (by omega)
 have b3:=at_ 3 (by omega)
 have b4:=at_ 4 (by omega)
 have b5:=at_ 5 (by omega)
 clear at_
 simp at b1 b2 b3 b4 b5
 rw [hW0]
 clear hW0
 have hI0:Row W0.heap.size W0 (.slice A len cap) len e:=by
  rcases hI.below hB0 with h|⟨b,off,cp,x,hb,hc⟩
  ·exact .inl h
  ·exact .inr ⟨b,off,cp,x,by omega,hc⟩
 refine wpIn_rangeFunc_ownH hro hn1 (gf:=105) (lb:=#[.pointer (some ⟨w.heap.size + 1 + 1 + 1 + 1 + 1,0,none⟩)]) rfl h3 (enters_of Tryz.func105 (by kernel_rfl) rfl)
  (back_stops F (n - 1) h3 hro (by omega) (w.heap.size + 1 + 1 + 1 + 1 + 1) W0.heap.size (.slice A len cap) len e hreach W0 (by omega) (Nat.le_refl _) (by simp [World.cell?,b5]) hI0) belowK_t (belowK_b (Nat.le_refl _)) (Below.refl _ _) (fun _=>rfl)
  (fun pre W=>(∀ y∈pre,hit t key y.2=false)∧Below W0.heap.size W0 W)
  (fun c pre W=>c = .ret∧(∃ p x,pre=p ++ [x]∧(∀ y∈p,hit t key y.2=false)∧hit t key x.2=true∧W.heap[w.heap.size + 3]? = some (cellsOf x.2)∧W.heap[w.heap.size + 4]? = some (.cells #[.bool true] 4 (0,0)))∧Below w.heap.size w W)
  ?own ?ownx ⟨by simp,Below.refl _ _⟩
  (fun x a' W=>∃ Bx,W0.heap.size≤Bx∧W.heap[Bx]? = some (cellsOf x.2)∧a' = { tmps:=#[.agg #[.slice A len cap,mv],.int .i64 t,.string key,.pointer (some ⟨w.heap.size,0,none⟩),.pointer (some ⟨w.heap.size + 1,0,none⟩),.pointer (some ⟨w.heap.size + 1 + 1,0,none⟩),.pointer (some ⟨w.heap.size + 1 + 1 + 1,0,none⟩),.pointer (some ⟨w.heap.size + 1 + 1 + 1 + 1,0,none⟩),undef,.pointer (some ⟨Bx,0,none⟩),.pointer (some ⟨w.heap.size,0,none⟩),.slice A len cap,.func (.func 105) #[] #[.pointer (some ⟨w.heap.size + 1 + 1 + 1 + 1 + 1,0,none⟩)],.int .i64 (x.1:Int),wv x.2,undef,undef,undef,undef,undef,undef,undef,undef,undef,undef,undef,undef],defers:=[] })
  ?ownA ?assign ?body ?done ?stop
 case own=>exact OwnFrom.and (ownFrom_pure _ _) (ownFrom_below (Nat.le_refl _) (Nat.le_refl _))
 case ownx=>
  intro c s X Y row hs hg hr
  obtain ⟨k1,⟨p,x,e1,e2,e3,e4,e5⟩,hB⟩:=hs
  refine ⟨k1,⟨p,x,e1,e2,e3,?_,?_⟩,?_⟩
  ·exact (hg.block _ (Array.getElem?_eq_some_iff.1 e4).1 (fun e=>by have:=(hr _ e.symm).1;omega)).trans e4
  ·exact (hg.block _ (Array.getElem?_eq_some_iff.1 e5).1 (fun e=>by have:=(hr _ e.symm).1;omega)).trans e5
  ·exact hB.grown hg hB.size (fun k e=>by have:=(hr k e).1;omega)
 case ownA=>
  intro x a' s X Y row hs hg hr
  obtain ⟨Bx,k1,k2,k3⟩:=hs
  refine ⟨Bx,k1,(hg.block Bx (Array.getElem?_eq_some_iff.1 k2).1 (fun e=>?_)).trans k2,k3⟩
  obtain ⟨_,o,ho,hc⟩:=hr Bx e.symm
  rw [k2] at ho
  cases ho
  simp [cellsOf,Obj.isCells] at hc
 case assign=>
  rintro l pre x W K ⟨hp,hB1⟩ hK
  dsimp only [wv]
  gi_wp2_with (rw [Oper.semAt_eq _ _ _ (fun c h=>by cases h)];go_simp;try go_bits)
  exact hK _ _ ((KeepsOthers.alloc _ _).from _) ((Below.refl _ W).alloc hB1.size _) ⟨hp,hB1.alloc hB1.size _⟩ ⟨W.heap.size,hB1.size,World.alloc_heap_new W _,rfl⟩
 case body=>
  rintro l pre x a' W hl ⟨r,hr⟩ ⟨hp,hB1⟩ ⟨Bx,hBx,bX,rfl⟩ hlt
  obtain ⟨x0,x1,x2,x3⟩:=four bX
  have cT:W.cell? ⟨w.heap.size + 1,0,none⟩=some (.int .i64 t):=(hB1.cell (p:=⟨w.heap.size + 1,0,none⟩) (by simp;omega)).trans (by simp [World.cell?,b1])
  have cK:W.cell? ⟨w.heap.size + 1 + 1,0,none⟩=some (.string key):=(hB1.cell (p:=⟨w.heap.size + 1 + 1,0,none⟩) (by simp;omega)).trans (by simp [World.cell?,b2])
  have hR:W.heap[w.heap.size + 1 + 1 + 1]? = some (cellsOf (0,⟨#[]⟩,⟨#[]⟩,false)):=(hB1.block (w.heap.size + 3) (by omega)).trans b3
  have hF:W.heap[w.heap.size + 1 + 1 + 1 + 1]? = some (.cells #[.bool false] 4 (0,0)):=(hB1.block (w.heap.size + 4) (by omega)).trans b4
  obtain ⟨r0,r1,r2,r3⟩:=four hR
  obtain ⟨s0,s1,s2,s3⟩:=fourF hR
  have q0:W.cell? ⟨w.heap.size + 1 + 1 + 1 + 1,0,none⟩=some (.bool false):=by simp [World.cell?,hF]
  have q1:W.frozen? ⟨w.heap.size + 1 + 1 + 1 + 1,0,none⟩=false:=by simp [World.frozen?,hF]
  clear hR hF
  dsimp only [wv] at *
  gi_wp2_with (rw [Oper.semAt_eq _ _ _ (fun c h=>by cases h)];go_simp;try go_bits)
  ·rename_i hx1 hx2
   have hR:W.heap[w.heap.size + 3]? = some (cellsOf (0,⟨#[]⟩,⟨#[]⟩,false)):=(hB1.block (w.heap.size + 3) (by omega)).trans b3
   have hF:W.heap[w.heap.size + 4]? = some (.cells #[.bool false] 4 (0,0)):=(hB1.block (w.heap.size + 4) (by omega)).trans b4
   refine ⟨?_,rfl,⟨pre,x,rfl,hp,?_,?_,?_⟩,?_⟩
   ·exact ((((((KeepsOthers.setCell _ _ _).from _).trans ((KeepsOthers.setCell _ _ _).from _)).trans ((KeepsOthers.setCell _ _ _).from _)).trans ((KeepsOthers.setCell _ _ _).from _)).trans ((KeepsOthers.setCell _ _ _).from _))
   ·simp [hit,hx1]
    simpa using hx2
   ·rw [Below.heap_setCell _ _ _ _ (by simp)]
    subst hx1
    exact blk_put (blk_put (blk_put (blk_put (t:=72) (cs:=#[.int .i64 0,.string ⟨#[]⟩,.string ⟨#[]⟩,.bool false]) hR 0 _ rfl) 1 _ rfl) 2 _ rfl) 3 _ rfl
   ·refine blk_put (cs:=#[.bool false]) ?_ 0 _ rfl
    rw [Below.heap_setCell _ _ _ _ (by simp),Below.heap_setCell _ _ _ _ (by simp),Below.heap_setCell _ _ _ _ (by simp),Below.heap_setCell _ _ _ _ (by simp)]
    exact hF
   ·exact (((((hB0.trans (hB1.mono (by omega))).setCell (p:=⟨w.heap.size + 1 + 1 + 1,0,none⟩) (by simp;omega) _).setCell (p:=⟨w.heap.size + 1 + 1 + 1,1,none⟩) (by simp;omega) _).setCell (p:=⟨w.heap.size + 1 + 1 + 1,2,none⟩) (by simp;omega) _).setCell (p:=⟨w.heap.size + 1 + 1 + 1,3,none⟩) (by simp;omega) _).setCell (p:=⟨w.heap.size + 1 + 1 + 1 + 1,0,none⟩) (by simp;omega) _
  ·rename_i hx1 hx2
   refine ⟨KeepsFrom.refl _ _,Below.refl _ _,fun y hy=>?_,hB1⟩
   rcases List.mem_append.1 hy with h|h
   ·exact hp y h
   ·obtain rfl:=List.mem_singleton.1 h
    simp [hit,hx1]
    simpa using hx2
  ·rename_i hx1
   refine ⟨KeepsFrom.refl _ _,Below.refl _ _,fun y hy=>?_,hB1⟩
   rcases List.mem_append.1 hy with h|h
   ·exact hp y h
   ·obtain rfl:=List.mem_singleton.1 h
    simp [hit,hx1]
 case done=>
  rintro D xs W hD rfl ⟨hp,hB1⟩ hK
  have hR:W.heap[w.heap.size + 1 + 1 + 1]? = some (cellsOf (0,⟨#[]⟩,⟨#[]⟩,false)):=(hB1.block (w.heap.size + 3) (by omega)).trans b3
  have hF:W.heap[w.heap.size + 1 + 1 + 1 + 1]? = some (.cells #[.bool false] 4 (0,0)):=(hB1.block (w.heap.size + 4) (by omega)).trans b4
  obtain ⟨r0,r1,r2,r3⟩:=four hR
  obtain ⟨s0,s1,s2,s3⟩:=fourF hR
  have q0:W.cell? ⟨w.heap.size + 1 + 1 + 1 + 1,0,none⟩=some (.bool false):=by simp [World.cell?,hF]
  have q1:W.frozen? ⟨w.heap.size + 1 + 1 + 1 + 1,0,none⟩=false:=by simp [World.frozen?,hF]
  clear hR hF
  have hR:W.heap[w.heap.size + 3]? = some (cellsOf (0,⟨#[]⟩,⟨#[]⟩,false)):=(hB1.block (w.heap.size + 3) (by omega)).trans b3
  have hF:W.heap[w.heap.size + 4]? = some (.cells #[.bool false] 4 (0,0)):=(hB1.block (w.heap.size + 4) (by omega)).trans b4
  have hRk:Hid (W.heap[w.heap.size + 3]? = some (cellsOf (0,⟨#[]⟩,⟨#[]⟩,false))):=hR
  have hFk:Hid (W.heap[w.heap.size + 4]? = some (.cells #[.bool false] 4 (0,0))):=hF
  clear hR hF
  dsimp only at r0 r1 r2 r3
  gi_wp2
  obtain ⟨W',hW'⟩:∃ W',((((W.setCell ⟨w.heap.size + 1 + 1 + 1,0,none⟩ (.int .i64 0)).setCell ⟨w.heap.size + 1 + 1 + 1,1,none⟩ (.string ⟨#[]⟩)).setCell ⟨w.heap.size + 1 + 1 + 1,2,none⟩ (.string ⟨#[]⟩)).setCell ⟨w.heap.size + 1 + 1 + 1,3,none⟩ (.bool false)).setCell ⟨w.heap.size + 1 + 1 + 1 + 1,0,none⟩ (.bool false)=W':=⟨_,rfl⟩
  have hDk:W'.heap[D]? = some (.deferred (some [])):=by
   rw [← hW',Below.heap_setCell _ _ _ _ (by simp;omega),Below.heap_setCell _ _ _ _ (by simp;omega),Below.heap_setCell _ _ _ _ (by simp;omega),Below.heap_setCell _ _ _ _ (by simp;omega),Below.heap_setCell _ _ _ _ (by simp;omega)]
   exact hK
  rw [hW']
  refine ⟨by simp,.inl ⟨_,_,rfl,run_takeDeferred hDk,?_⟩⟩
  have hbl:∀ k,k<w.heap.size + 6→(W'.putObj D (.deferred none)).heap[k]? = W'.heap[k]?:=fun k hk=>(grownBy_putObj' W' D (.deferred none)).block k (by have:=(Array.getElem?_eq_some_iff.1 hDk).1;omega) (fun e=>by cases e;omega)
  have c3:(W'.putObj D (.deferred none)).heap[w.heap.size + 3]? = some (cellsOf (0,⟨#[]⟩,⟨#[]⟩,false)):=by
   rw [hbl _ (by omega),← hW',Below.heap_setCell _ _ _ _ (by simp)]
   exact blk_put (blk_put (blk_put (blk_put (t:=72) (cs:=#[.int .i64 0,.string ⟨#[]⟩,.string ⟨#[]⟩,.bool false]) hRk.out 0 _ rfl) 1 _ rfl) 2 _ rfl) 3 _ rfl
  have c4:(W'.putObj D (.deferred none)).heap[w.heap.size + 4]? = some (.cells #[.bool false] 4 (0,0)):=by
   rw [hbl _ (by omega),← hW']
   refine blk_put (cs:=#[.bool false]) ?_ 0 _ rfl
   rw [Below.heap_setCell _ _ _ _ (by simp),Below.heap_setCell _ _ _ _ (by simp),Below.heap_setCell _ _ _ _ (by simp),Below.heap_setCell _ _ _ _ (by simp)]
   exact hFk.out
  refine ⟨_,look_results _ w.heap.size _ (0,⟨#[]⟩,⟨#[]⟩,false) false rfl rfl c3 c4,?_,.inr ⟨fun j hj=>?_,rfl⟩⟩
  ·have hB2:Below w.heap.size w W':=by
    rw [← hW']
    exact (((((hB0.trans (hB1.mono (by omega))).setCell (p:=⟨w.heap.size + 1 + 1 + 1,0,none⟩) (by simp;omega) _).setCell (p:=⟨w.heap.size + 1 + 1 + 1,1,none⟩) (by simp;omega) _).setCell (p:=⟨w.heap.size + 1 + 1 + 1,2,none⟩) (by simp;omega) _).setCell (p:=⟨w.heap.size + 1 + 1 + 1,3,none⟩) (by simp;omega) _).setCell (p:=⟨w.heap.size + 1 + 1 + 1 + 1,0,none⟩) (by simp;omega) _
   exact hB2.grown (grownBy_putObj' W' D (.deferred none)) hB2.size (fun k e=>by cases e;omega)
  ·exact hp (len - 1 - j,e (len - 1 - j)) (List.mem_map.2 ⟨j,List.mem_range.2 hj,rfl⟩)
 case stop=>
  rintro D c pre W hD ⟨k,hk,rfl⟩ ⟨rfl,⟨p,x,hpx,hp,hx,h3,h4⟩,hB⟩ hK
  gi_wp2
  refine ⟨by simp,.inl ⟨_,_,rfl,run_takeDeferred hK,?_⟩⟩
  have hbl:∀ k,k<w.heap.size + 6→(W.putObj D (.deferred none)).heap[k]? = W.heap[k]?:=fun k hk=>(grownBy_putObj' W D (.deferred none)).block k (by have:=(Array.getElem?_eq_some_iff.1 hK).1;omega) (fun e=>by cases e;omega)
  have c3:=(hbl (w.heap.size + 3) (by omega)).trans h3
  have c4:=(hbl (w.heap.size + 4) (by omega)).trans h4
  obtain ⟨k',rfl⟩:∃ k',k=k' + 1:=by
   cases k with
   | zero=>simp [upto] at hpx
   | succ k'=>exact ⟨k',rfl⟩
  rw [upto_succ] at hpx
  obtain ⟨rfl,hx2⟩:=List.append_inj' hpx rfl
  obtain rfl:(len - 1 - k',e (len - 1 - k'))=x:=by simpa using hx2
  refine ⟨_,look_results _ w.heap.size _ (e (len - 1 - k')) true rfl rfl c3 c4,?_,.inl ⟨k',by omega,hx,fun j hj=>?_,rfl⟩⟩
  ·exact hB.grown (grownBy_putObj' W D (.deferred none)) hB.size (fun k e=>by cases e;omega)
  ·exact hp (len - 1 - j,e (len - 1 - j)) (List.mem_map.2 ⟨j,List.mem_range.2 hj,rfl⟩)
end Go.Proofs.YtbaecdcfefmcgaaGreat.HBack
