import Derived.Test.YtbaecdcfefmcgaaGreatPVrdx0
import Derived.Test.YtbaecdcfefmcgaaGreatPVrdx4
import Derived.Test.YtbaecdcfefmcgaaGreatHCopy
import Derived.Test.YtbaecdcfefmcgaaGreatShelfRP
namespace Go.Proofs.YtbaecdcfefmcgaaGreat.HSome
open Go.Shelf Go.Lib Go.Sort Go.RowKit Go.Proofs.YtbaecdcfefmcgaaGreatW.PrintWords Go.Proofs.YtbaecdcfefmcgaaGreatW.PrintLast Go.Proofs.YtbaecdcfefmcgaaGreatW.PrintMore Go.Proofs.YtbaecdcfefmcgaaGreat.PVrd Go.Proofs.YtbaecdcfefmcgaaGreat.HCopy Go.Proofs
set_option linter.unusedSimpArgs false
set_option linter.unusedVariables false
abbrev Rw:=S50
def keep (lo hi:ByteArray) (top:Bool) (x:Rw):Bool := !(Op.bytesLess x.f0.toList lo.toList) && (top || Op.bytesLess x.f0.toList hi.toList)
theorem holds_f (lo hi:ByteArray) (top:Bool) (x:Rw):GC.f lo hi top x.f0=some (keep lo hi top x):=by
 unfold GC.f GA.f keep
 cases Op.bytesLess x.f0.toList lo.toList <;> cases top <;> simp
def cloneR.f (l0:List S50):Option (List S50):=if l0.length<4398046511104 then some l0 else none
theorem kd_empty_50 (w:World):k50.R 50 (w.alloc (.cells #[] 50)) w.heap.size (fun _=>True) (.slice (some ⟨w.heap.size,0,none⟩) 0 0) []:=by
 refine ⟨fun _ _=>trivial,[],⟨by simp,.inr ⟨w.heap.size,0,#[],rfl,Nat.le_refl _,heap_alloc_new w _,Nat.le_refl _,by decide,by simp,by simp⟩⟩,?_⟩
 exact Reps.none _ _
set_option maxHeartbeats 800000 in
set_option maxRecDepth 100000 in
theorem cloneR.calls (A0:Option Addr) (c0:Nat) (l0:List S50) (r:List S50) (w:World) (hr0:Kd.C k50 w A0 l0.length l0) (hc0:l0.length≤c0) (h:cloneR.f l0=some r) :
 Calls Tryz.prog 65 #[.slice A0 l0.length c0] w fun e w'=>∃ v0_:Value,e = .returned (v0_)∧Kd.R k50 50 w' w.heap.size (fun _=>True) v0_ r∧Below w.heap.size w w':=by
 have HC0:=Aside0.mk hc0
 clear hc0
 unfold cloneR.f at h
 split at h
 ·obtain rfl:=Option.some.inj h
  rename_i hlt
  clear h
  rcases A0 with _|ad
  ·have hl:l0=[]:=by
    rcases Nat.eq_zero_or_pos l0.length with h0|h0
    ·exact List.eq_nil_of_length_eq_zero h0
    ·obtain ⟨ad,e,_⟩:=hr0.2.2 h0
     cases e
   subst hl
   have HN:=fun w:World=>Lib.run_eql_slice_nil (P:=Tryz.prog) w 38 50 none 0 c0 0 0 Tryz.underlying38
   go_enter Tryz.func65,Tryz.ntmps65
   go_wp2
   go_ret
   exact ⟨_,rfl,Kd.R_nil _ _ _ _ _,Below.refl _ _⟩
  ·have HN:=fun w:World=>Lib.run_eql_slice_nil (P:=Tryz.prog) w 38 50 (some ad) l0.length c0 0 0 Tryz.underlying38
   have HR0:=Aside0.mk hr0
   clear hr0
   have HO:=Aside0.mk (kd_empty_50 w)
   go_enter Tryz.func65,Tryz.ntmps65
   go_wp2_with (first|((with_reducible refine gate_builtin (b:=.append) (xs:=#[.tmp 5,.tmp 6]) rfl ?_);at_builtin;refine Kd.R_append_rows k50 (w0:=w) w.heap.size rfl (.tmp 5) (.tmp 6) 38 50 (Value.agg #[(.string ⟨#[]⟩),(.string ⟨#[]⟩)]) 32 rfl Tryz.underlying38 info50 rfl (by decide) (by omega) (.slice (some ⟨w.heap.size,0,none⟩) 0 0) ([]:List S50) l0 _ _ _ (fun _=>True) (fun _=>False) rfl rfl ?aO ?aR (fun _ _ h=>h) (fun _ h=>h.elim) ?aF ?aB ?aS ?aL ?_;(case aR=>exact (Kd.C_below HR0.out (below_alloc (Below.refl _ _) _)));(case aB=>exact (below_alloc (Below.refl _ _) _));(case aF=>exact (fun _ _=>trivial));(case aO=>exact HO.out);(case aS=>simp);(case aL=>simp;omega);intro v1 w1 ho hb hg hat;clear hg hat))
   go_ret
   exact ⟨_,rfl,ho,hb⟩
 ·cases h
def idxRes_r {α:Type} (pred:α→Bool) (l:List α):Int:=if l.findIdx pred<l.length then (l.findIdx pred:Int) else -1
set_option maxHeartbeats 800000 in
set_option maxRecDepth 100000 in
theorem idx_r.calls_ (pred:S50→Bool) (F:Nat) (cap:Value) (A0:Option Addr) (c0:Nat) (l0:List S50) (w:World) (hr0:Kd.C k50 w A0 l0.length l0) (hc0:l0.length≤c0)
 (eg:∀ args w,(callFunc F args).run Tryz.prog w = .ok (.enter F args) w)
 (HP:∀ (x:S50) (W:World),Below w.heap.size w W→Calls Tryz.prog F #[.agg #[.string x.f0,.string x.f1],cap] W fun e W'=>e = .returned (.bool (pred x))∧Below w.heap.size w W') :
 Calls Tryz.prog 87 #[.slice A0 l0.length c0,.func (Fn.func F) #[] #[cap]] w fun e w'=>e = .returned (.int .i64 (idxRes_r pred l0))∧Below w.heap.size w w':=by
 have HR0:=Aside0.mk hr0
 have HC0:=Aside0.mk hc0
 have hlen:=hr0.2.1
 clear hr0 hc0
 have HPA:=Aside0.mk HP
 clear HP
 have HB:=Aside0.mk (Below.refl w.heap.size w)
 go_enter Tryz.func87,Tryz.ntmps87
 go_wp2
 go_loopg [5,8] l0.length (fun kq _ v8 w'=>∃ (i:Nat),v8 = .int .i64 i∧Aside0 (kq + i=l0.length)∧Aside0 (∀ j (h2:j<l0.length) (h:j<i),pred (l0[j])=false)∧Aside0 (Below w.heap.size w w'))
 case atStart=>exact ⟨0,rfl,⟨by omega⟩,⟨fun j _ h=>by omega⟩,HB⟩
 case round=>
  clear HB
  obtain ⟨i,rfl,HK,HN,HB⟩:=hrel
  by_cases hi:i<l0.length
  ·have p200:(0:Int)≤(i:Int):=by omega
   have q200:(i:Int)<(l0.length:Int):=by omega
   obtain ⟨ad200,e200,hx200_0,hx200_1⟩:=at_T50 HR0.out (i:Int) p200 q200
   cases e200
   replace hx200_0:=(HB.out.cell (World.block_lt_of_cell? w _ hx200_0)).trans hx200_0
   replace hx200_1:=(HB.out.cell (World.block_lt_of_cell? w _ hx200_1)).trans hx200_1
   simp only [Int.toNat_natCast] at hx200_0 hx200_1
   have hcall:=HPA.out (rd_T50 l0 i) wr HB.out
   have hrd:rd_T50 l0 i=l0[i]:=by simp [rd_T50,hi]
   have HRD:=Aside0.mk hrd
   clear hrd
   cases hq:pred (rd_T50 l0 i) with
   | true=>
    rw [hq] at hcall
    have HQ:=Aside0.mk hq
    clear hq
    go_wp2_with ((with_reducible refine hcall.mono ?_);rintro e w' ⟨rfl,hb'⟩)
    go_ret
    have e1:l0.findIdx pred=i:=(List.findIdx_eq hi).2 ⟨by rw [← HRD.out];exact HQ.out,fun j hj=>HN.out j (by omega) hj⟩
    exact ⟨by unfold idxRes_r;rw [e1,if_pos hi];rfl,hb'⟩
   | false=>
    rw [hq] at hcall
    have HQ:=Aside0.mk hq
    clear hq
    go_wp2_with ((with_reducible refine hcall.mono ?_);rintro e w' ⟨rfl,hb'⟩)
    go_roundg (gk - 1)
    case measure=>have:=HK.out;omega
    case rel=>
     refine ⟨i + 1,by go_num,⟨by have:=HK.out;omega⟩,⟨fun j h2 h=>?_⟩,⟨hb'⟩⟩
     rcases Nat.lt_or_ge j i with hj|hj
     ·exact HN.out j h2 hj
     ·obtain rfl:j=i:=by omega
      rw [← HRD.out];exact HQ.out
  ·have hltz:¬ (i:Int)<(l0.length:Int):=by omega
   go_wp2
   go_ret
   have hil:i=l0.length:=by have:=HK.out;omega
   have e1:l0.findIdx pred=l0.length:=List.findIdx_eq_length.2 (fun x hx=>by
    obtain ⟨j,hj,rfl⟩:=List.mem_iff_getElem.1 hx
    exact HN.out j hj (by omega))
   exact ⟨by unfold idxRes_r;rw [e1,if_neg (Nat.lt_irrefl _)];rfl,HB.out⟩
structure DInv (p:Rw→Bool) (l:List Rw) (j i:Nat) (x:List Rw):Prop where
 len:x.length=l.length
 lt:i<j
 le:j≤l.length
 low:x.take i=(l.take j).filter p
 high:∀ m,j≤m→x[m]? = l[m]?
theorem DInv.start {p:Rw→Bool} {l:List Rw} {i:Nat} (hi:i<l.length) (hn:p l[i]=false) (h:∀ m (h2:m<l.length),m<i→p l[m]=true):DInv p l (i + 1) i l:=by
 refine ⟨rfl,Nat.lt_succ_self _,hi,?_,fun _ _=>rfl⟩
 rw [List.take_succ_eq_append_getElem hi,List.filter_append,List.filter_cons_of_neg (by simp [hn]),List.filter_nil,List.append_nil]
 symm
 rw [List.filter_eq_self]
 intro y hy
 obtain ⟨m,hm,rfl⟩:=List.mem_iff_getElem.1 hy
 rw [List.length_take] at hm
 rw [List.getElem_take]
 exact h m (by omega) (by omega)
theorem DInv.skip {p:Rw→Bool} {l:List Rw} {i j:Nat} {x:List Rw} (h:DInv p l j i x) (hj:j<l.length) (hn:p l[j]=false):DInv p l (j + 1) i x:=
 ⟨h.len,by have:=h.lt;omega,hj,by rw [h.low,List.take_succ_eq_append_getElem hj,List.filter_append,List.filter_cons_of_neg (by simp [hn]),List.filter_nil,List.append_nil],fun m hm=>h.high m (by omega)⟩
theorem DInv.keep {p:Rw→Bool} {l:List Rw} {i j:Nat} {x:List Rw} (h:DInv p l j i x) (hj:j<l.length) (hn:p l[j]=true):DInv p l (j + 1) (i + 1) (x.set i l[j]):=by
 have hlt:=h.lt
 have hl:=h.len
 refine ⟨by simp [hl],by omega,hj,?_,fun m hm=>?_⟩
 ·rw [List.take_succ_eq_append_getElem hj,List.filter_append,← h.low,List.filter_cons_of_pos hn,List.filter_nil,List.take_succ_eq_append_getElem (by simp;omega),List.take_set,List.set_eq_of_length_le (by simp;omega),List.getElem_set_self]
 ·rw [List.getElem?_set_ne (by omega)]
  exact h.high m (by omega)
theorem DInv.done {p:Rw→Bool} {l:List Rw} {i:Nat} {x:List Rw} (h:DInv p l l.length i x):x.take i=l.filter p:=by rw [h.low,List.take_length]
set_option maxHeartbeats 2000000 in
set_option maxRecDepth 100000 in
theorem clo_calls (lo hi:ByteArray) (top:Bool) (gb:Nat) (x:Rw) (W:World) (hbx:W.heap[gb]? = some (.cells #[.string lo,.string hi,.bool top] 55 (0,0))) :
 Calls Tryz.prog 66 #[.agg #[.string x.f0,.string x.f1],.pointer (some ⟨gb,0,none⟩)] W fun e W'=>e = .returned (.bool (!keep lo hi top x))∧Below W.heap.size W W':=by
 have A6:=mk0 (holds_f lo hi top x)
 generalize keep lo hi top x=r at A6 ⊢
 have hu0:=Tryz.underlying55
 have hu1:=Tryz.underlying50
 have HB:=mk0 (Below.refl W.heap.size W)
 have BK:=mk0 hbx
 have hne:gb<W.heap.size:=(Array.getElem?_eq_some_iff.1 hbx).1
 clear hbx
 go_enter Tryz.func66,Tryz.ntmps66
 go_wp2_with (first|((with_reducible refine gate_dst (N:=2) rfl ?_);refine bx_ (N:=2) (cs:=#[.string x.f0,.string x.f1]) (t:=50) (h:=?_);intro gv hg w7 hbox hb;replace BK:=mk0 (u_ BK hb);replace HB:=mk0 (bt_ (b_ HB) hb);have BV:=mk0 hbox;clear hb hbox hg;obtain ⟨hc0,hc1,hf0,hf1⟩:=c2_ BV;obtain ⟨hd0,hd1,hd2,hg0,hg1,hg2⟩:=c3_ BK)|(go_at_call 67;(with_reducible refine (GC.calls lo hi top x.f0 r _ A6.out).mono ?_);rintro e w9 ⟨rfl,hb⟩;replace HB:=mk0 (bt_ (b_ HB) hb);(try clear hb)))
 go_ret
 exact ⟨rfl,b_ HB⟩
theorem run_clear_k {P:Program} (w:World) (t e ty:TypeId) (z:Value) (ht:P.underlying t=some (.slice e)) (hv:∀ w,(zeroValue e).run P w = .ok z w) (b o n c:Nat) (hn:0<n)
 (h1:∀ v∈(Builtin.zeroCells z.cells n).toList,v.oneCell'=true) (hc:∀ j,j<(Builtin.zeroCells z.cells n).toList.length→(w.cell? ⟨b,o + j,none⟩).isSome=true) (hf:∀ j,j<(Builtin.zeroCells z.cells n).toList.length→w.frozen? ⟨b,o + j,none⟩=false) :
 (Builtin.clear_ #[t] ty #[.slice (some ⟨b,o,none⟩) n c]).run P w = .ok (.tuple #[]) (w.setCells b o (Builtin.zeroCells z.cells n).toList):=by
 have hst:=run_storeCells_cells (P:=P) b o (Builtin.zeroCells z.cells n).toList 0 w (by simpa using hc) (by simpa using hf) h1
 simp only [Nat.add_zero] at hst
 obtain ⟨m,rfl⟩:∃ m,n=m + 1:=⟨n - 1,by omega⟩
 simp [Builtin.clear_,run_underlying ht,hv,hst]
theorem zero_one (n:Nat):∀ v∈(Builtin.zeroCells (Value.agg #[.string ⟨#[]⟩,.string ⟨#[]⟩]).cells n).toList,v.oneCell'=true:=by
 intro v hv
 simp only [Builtin.zeroCells,Value.cells,Array.toList_map,List.mem_map] at hv
 obtain ⟨i,_,rfl⟩:=hv
 have h4:i % 2<2:=Nat.mod_lt _ (by omega)
 show (#[Value.string ⟨#[]⟩,.string ⟨#[]⟩][i % 2]!).oneCell'=true
 have:i % 2=0∨i % 2=1:=by omega
 rcases this with h|h <;> rw [h] <;> rfl
theorem zero_len (n:Nat):(Builtin.zeroCells (Value.agg #[.string ⟨#[]⟩,.string ⟨#[]⟩]).cells n).toList.length=n * 2:=by simp [Builtin.zeroCells,Value.cells]
theorem below_cells {w0 W:World} {g:Nat} (hB:Below w0.heap.size w0 W) (hg:w0.heap.size≤g) (o:Nat) (vs:List Value):Below w0.heap.size w0 (W.setCells g o vs):=by
 obtain ⟨s1,s2,s3,s4⟩:=setCells_same g vs o W
 exact hB.trans ⟨s1,s2,s3,by rw [s4];exact Nat.le_refl _,fun k hk=>setCells_far vs o k (by omega)⟩
theorem cut_R {W:World} {base:Nat} {ok:Nat→Prop} {g n cap:Nat} {x:List Rw} (h:k50.R 50 W base ok (.slice (some ⟨g,0,none⟩) n cap) x) (i:Nat) (hi:i≤n) (vs:List Value) (hv:vs.length≤(cap - i) * 2) :
 k50.R 50 (W.setCells g (i * 2) vs) base ok (.slice (some ⟨g,0,none⟩) i cap) (x.take i)∧base≤g:=by
 obtain ⟨hn,hnc,_⟩:=Kd.R_reads' h
 obtain ⟨hok,inner,⟨hlen,hcase⟩,hr⟩:=h
 rcases hcase with ⟨h0,_⟩|⟨g',cap',cur,he,hbg,hg,hnc',hcm,hsz,ht⟩
 ·cases h0
 injection he with ha _ hc
 injection ha with ha
 injection ha with hgg
 subst hgg;subst hc
 have hs2:cur.size=cap * 2:=hsz
 have hl2:inner.length=x.length * 2:=hlen
 obtain ⟨cur',h3,h4,h5⟩:=setCells_row vs (i * 2) W cur hg (by omega)
 have ht2:cur.toList.take (x.length * 2)=inner:=ht
 refine ⟨row_R k50 rfl (w0:=W) (base0:=base) (ok0:=fun _=>True) (Nat.le_refl _) h3 hbg (by rw [List.length_take];omega) (by omega) hcm (by rw [h4];exact hsz) (inner:=inner.take (i * 2)) ?_ ⟨?_,fun j q hj=>?_⟩ (hok _ rfl),hbg⟩
 ·show cur'.toList.take (i * 2)=inner.take (i * 2)
  rw [h5,← ht2,List.take_take,List.append_assoc,List.take_append_of_le_length (by rw [List.length_take,Array.length_toList];omega),List.take_take]
  congr 1
  omega
 ·show (inner.take (i * 2)).length=(x.take i).length * 2
  rw [List.length_take,List.length_take];omega
 ·have hjl:j<(x.take i).length:=(List.getElem?_eq_some_iff.1 hj).1
  rw [List.length_take] at hjl
  have hj2:x[j]? = some q:=by rwa [List.getElem?_take_of_lt (by omega)] at hj
  have h6:=hr.2 j q hj2
  have e:((inner.take (i * 2)).drop (j * k50.sz)).take k50.sz=(inner.drop (j * k50.sz)).take k50.sz:=by
   show ((inner.take (i * 2)).drop (j * 2)).take 2=(inner.drop (j * 2)).take 2
   rw [List.drop_take,List.take_take]
   congr 1
   omega
  rw [e]
  exact Kd.M_mono _ (fun _ _=>trivial) h6
theorem move_R {W W1:World} {base:Nat} {ok:Nat→Prop} {u:Value} {x:List Rw} {gv:Nat} (h:k50.R 50 W base ok u x) (hg:gv=W.heap.size) (hb:Below W.heap.size W W1) (a b:Value) :
 k50.R 50 ((W1.setCell ⟨gv,0,none⟩ a).setCell ⟨gv,1,none⟩ b) base ok u x:=
 Kd.R_step h (fun k _ hk=>by
  rw [Below.heap_setCell _ ⟨gv,1,none⟩ b k (by show k≠gv;omega),Below.heap_setCell _ ⟨gv,0,none⟩ a k (by show k≠gv;omega)]
  exact hb.block k hk)
instance:Inhabited Rw:=⟨⟨⟨#[]⟩,⟨#[]⟩⟩⟩
def encR (x:Rw):List Value:=[.string x.f0,.string x.f1]
theorem encR_len (x:Rw):(encR x).length=2:=rfl
theorem encR_one (x:Rw):∀ v∈encR x,v.oneCell'=true:=fun v hv=>by
 simp [encR] at hv
 rcases hv with rfl|rfl <;> rfl
theorem heap_putRow {w:World} {g o:Nat} {cur:Array Value} {e:TypeId} {fr} (F:Array Value) (h:w.heap[g]? = some (.cells cur e fr)):(putRow id w g o F).heap[g]? = some (.cells (putCells id o F cur) e fr):=by
 unfold putRow mapBlock
 simp [Array.getElem?_modify,h,onCells]
theorem heap_putRow_other {w:World} {g o k:Nat} (F:Array Value) (h:k≠g):(putRow id w g o F).heap[k]? = w.heap[k]?:=by
 unfold putRow mapBlock
 simp only [Array.getElem?_modify]
 rw [if_neg (fun e=>h e.symm)]
theorem size_putRow (w:World) (g o:Nat) (F:Array Value):(putRow id w g o F).heap.size=w.heap.size:=by simp [putRow,mapBlock]
theorem below_putRow {B:Nat} (w:World) {g:Nat} (o:Nat) (F:Array Value) (h:B≤g):Below B w (putRow id w g o F):=⟨rfl,rfl,rfl,by rw [size_putRow];exact Nat.le_refl _,fun k hk=>heap_putRow_other F (by omega)⟩
theorem below_grow {B:Nat} (w:World) (os:Array Obj) (h:B≤w.heap.size):Below B w (grow w os):=⟨rfl,rfl,rfl,by simp [grow],fun k hk=>by
 show (w.heap ++ os)[k]? = _
 rw [Array.getElem?_append_left (by omega)]⟩
theorem below_ahead (B:Nat) (w:World) (n:Nat):Below B w (Sort.ahead w n):=⟨rfl,rfl,rfl,Nat.le_refl _,fun _ _=>rfl⟩
theorem below_all {B:Nat} (w:World) (n:Nat) {g:Nat} (o:Nat) (F:Array Value) (os:Array Obj) (h:B≤g) (hB:B≤w.heap.size):Below B w (grow (putRow id (Sort.ahead w n) g o F) os):=
 (below_ahead B w n).trans ((below_putRow _ o F h).trans (below_grow _ os (by rw [size_putRow];exact hB)))
theorem heap_all {w:World} {g:Nat} {cur:Array Value} {e:TypeId} {fr} (n o:Nat) (F:Array Value) (os:Array Obj) (h:w.heap[g]? = some (.cells cur e fr)):(grow (putRow id (Sort.ahead w n) g o F) os).heap[g]? = some (.cells (putCells id o F cur) e fr):=by
 have h1:=heap_putRow (w:=Sort.ahead w n) (o:=o) F h
 show ((putRow id (Sort.ahead w n) g o F).heap ++ os)[g]? = _
 rw [Array.getElem?_append_left (by have:=(Array.getElem?_eq_some_iff.1 h1).1;exact this)]
 exact h1
theorem R_put {base:Nat} {ok:Nat→Prop} {g n cap:Nat} {cur F:Array Value} {W:World} {l:List Rw} (hW:W.heap[g]? = some (.cells (putCells id 0 F cur) 50 (0,0))) (hbg:base≤g) (hok:ok g) (hl:l.length=n) (hn:n≤cap) (hcm:cap≤maxLen) (hsz:cur.size=cap * 2) (hFs:n * 2≤F.size)
 (hF:∀ j,j<n→∀ c,c<2→F[j * 2 + c]! = (encR l[j]!)[c]!):k50.R 50 W base ok (.slice (some ⟨g,0,none⟩) n cap) l:=by
 have hps:(putCells id 0 F cur).size=cap * 2:=by simp [putCells,hsz]
 refine row_R k50 rfl (w0:=W) (base0:=base) (ok0:=ok) (Nat.le_refl _) hW hbg hl.symm hn hcm hps rfl ⟨?_,fun j p hj=>?_⟩ hok
 ·rw [List.length_take,Array.length_toList,hps,hl]
  show min (n * 2) (cap * 2)=n * 2
  omega
 ·have hjl:j<n:=by have:=(List.getElem?_eq_some_iff.1 hj).1;omega
  have hp:l[j]! = p:=by rw [getElem!_pos l j (by omega)];exact (List.getElem?_eq_some_iff.1 hj).2
  have e:(((putCells id 0 F cur).toList.take (n * k50.sz)).drop (j * k50.sz)).take k50.sz=encR p:=by
   show (((putCells id 0 F cur).toList.take (n * 2)).drop (j * 2)).take 2=encR p
   apply List.ext_getElem
   ·simp only [List.length_take,List.length_drop,Array.length_toList,hps,encR_len];omega
   ·intro c h1 h2
    rw [encR_len] at h2
    simp only [List.getElem_take,List.getElem_drop,Array.getElem_toList]
    have h3:=hF j hjl c h2
    rw [hp,getElem!_pos (encR p) c (by rw [encR_len];exact h2)] at h3
    rw [← h3]
    simp only [putCells,Array.getElem_mapIdx,Nat.zero_le,Nat.zero_add,true_and,Nat.sub_zero,id]
    rw [if_pos (by omega)]
  rw [e]
  exact ⟨_,_,rfl,rfl,rfl⟩
theorem flat_get (d:Array Rw) (l:List Rw) (h:d.toList=l):∀ j,j<l.length→∀ c,c<2→(flatK encR 2 d)[j * 2 + c]! = (encR l[j]!)[c]!:=by
 intro j hj c hc
 subst h
 rw [Array.length_toList] at hj
 rw [get_flatK encR 2 d _ (by omega),show (j * 2 + c) / 2=j by omega,show (j * 2 + c) % 2=c by omega,getElem!_pos d j hj,getElem!_pos d.toList j (by simpa using hj),Array.getElem_toList]
theorem holds_R {base:Nat} {ok:Nat→Prop} {g n cap:Nat} {W:World} {l:List Rw} {cur:Array Value} (h:k50.R 50 W base ok (.slice (some ⟨g,0,none⟩) n cap) l) (hg:W.heap[g]? = some (.cells cur 50 (0,0))):HoldsK encR 2 W g 0 l.toArray:=by
 obtain ⟨hn,_,hC⟩:=Kd.R_reads' h
 subst hn
 intro t ht
 rw [size_flatK,List.size_toArray] at ht
 refine ⟨?_,blk_frozen hg _⟩
 rw [get_flatK encR 2 _ t (by simpa using ht)]
 obtain ⟨ad,e,h0,h1⟩:=at_T50 hC ((t / 2:Nat):Int) (by omega) (by omega)
 cases e
 have hrd:rd_T50 l ((t / 2:Nat):Int)=l.toArray[t / 2]!:=by
  rw [getElem!_pos l.toArray (t / 2) (by simp;omega)]
  have hrd0:∀ (j:Nat) (h:j<l.length),rd_T50 l (j:Int)=l[j]:=fun j h=>by simp [rd_T50,h]
  rw [hrd0 (t / 2) (by omega)]
  simp
 rw [hrd] at h0 h1
 simp only [Int.toNat_natCast,Addr.add_lit,Nat.zero_add] at h0 h1
 have hc:t % 2=0∨t % 2=1:=by omega
 rcases hc with hc|hc
 ·rw [show 0 + t=t / 2 * 2 by omega,hc];exact h0
 ·rw [show 0 + t=t / 2 * 2 + 1 by omega,hc];exact h1
theorem reverse_R {w0 w:World} {ok:Nat→Prop} {u:Value} {l:List Rw} (hB:Below w0.heap.size w0 w) (ho:k50.R 50 w w0.heap.size ok u l) :
 Calls Tryz.prog 68 #[u] w fun e w'=>e = .returned (.tuple #[])∧k50.R 50 w' w0.heap.size ok u l.reverse∧Below w0.heap.size w0 w':=by
 have ho':=ho
 obtain ⟨hok,inner,⟨hlen,hcase⟩,hr⟩:=ho
 rcases hcase with ⟨rfl,hn⟩|⟨g,cap,cur,rfl,hbg,hg,hnc,hcm,hsz,ht⟩
 ·have hl:l=[]:=List.eq_nil_of_length_eq_zero hn
  subst hl
  exact (AnyQ.slices_Reverse_empty Tryz.revRow none 0 w).mono fun e w' ⟨he,hw⟩=>by
   subst hw
   exact ⟨he,ho',hB⟩
 ·have hH:=holds_R ho' hg
  have h:=AnyQ.slices_Reverse Tryz.revRow 2 Tryz.isAgg50 Tryz.sizeOf50 encR encR_len encR_one g 0 cap l.toArray w hH (by have:cap≤9223372036854775807:=by { unfold maxLen at hcm;omega };simp;omega)
  rw [List.size_toArray] at h
  refine h.mono fun e w' ⟨he,n,hw⟩=>?_
  subst hw
  refine ⟨he,?_,hB.trans ?_⟩
  ·have hh:=heap_all n 0 (flatK encR 2 l.toArray.reverse) #[] hg
   rw [grow_empty] at hh
   exact R_put hh hbg (hok g (by simp [Value.ownBlock])) (by simp) hnc hcm hsz (by simp) (fun j hj=>flat_get l.toArray.reverse l.reverse (by simp) j (by simpa using hj))
  ·have:=below_all (B:=w0.heap.size) w n (g:=g) 0 (flatK encR 2 l.toArray.reverse) #[] hbg hB.size
   rwa [grow_empty] at this
def someOf (l:List Rw) (lo hi:ByteArray) (top:Bool) (many:Int) (back:Bool):List Rw:=(if back=true then (l.filter (keep lo hi top)).reverse else l.filter (keep lo hi top)).take many.toNat
theorem filter_all {p:Rw→Bool} {l:List Rw} (h:l.findIdx (fun x => !p x)=l.length):l.filter p=l:=by
 rw [List.filter_eq_self]
 intro x hx
 have:=List.findIdx_eq_length.1 h x hx
 simpa using this
theorem cap_le {W:World} {base:Nat} {ok:Nat→Prop} {g n cap:Nat} {x:List Rw} (h:k50.R 50 W base ok (.slice (some ⟨g,0,none⟩) n cap) x):cap≤9223372036854775807:=by
 obtain ⟨hok,inner,⟨hlen,hcase⟩,hr⟩:=h
 rcases hcase with ⟨h0,_⟩|⟨g',cap',cur,he,hbg,hg,hnc',hcm,hsz,ht⟩
 ·cases h0
 injection he with ha _ hc
 subst hc
 unfold maxLen at hcm
 omega
theorem elem_R {W:World} {base:Nat} {ok:Nat→Prop} {g n cap:Nat} {x:List Rw} (h:k50.R 50 W base ok (.slice (some ⟨g,0,none⟩) n cap) x) (i:Nat) (hi:i<n) :
 W.cell? ⟨g,i * 2,none⟩=some (.string (rd_T50 x (i:Int)).f0)∧W.cell? ⟨g,i * 2 + 1,none⟩=some (.string (rd_T50 x (i:Int)).f1)∧W.frozen? ⟨g,i * 2,none⟩=false∧W.frozen? ⟨g,i * 2 + 1,none⟩=false∧base≤g:=by
 obtain ⟨hn,hnc,hC⟩:=Kd.R_reads' h
 obtain ⟨ad,ea,hx0,hx1⟩:=at_T50 hC (i:Int) (by omega) (by omega)
 cases ea
 simp only [Int.toNat_natCast,Addr.add_lit,Nat.zero_add] at hx0 hx1
 rw [hn] at h
 obtain ⟨g',cap',e,hb,_,cells,hc⟩:=Kd.R_form h (by omega)
 injection e with e _ _
 injection e with e
 injection e with e
 subst e
 exact ⟨hx0,hx1,blk_frozen hc _,blk_frozen hc _,hb⟩
theorem put_R {W:World} {base:Nat} {ok:Nat→Prop} {g n cap:Nat} {x:List Rw} (h:k50.R 50 W base ok (.slice (some ⟨g,0,none⟩) n cap) x) (i:Nat) (hi:i<n) (y:Rw) :
 k50.R 50 ((W.setCell ⟨g,i * 2,none⟩ (.string y.f0)).setCell ⟨g,i * 2 + 1,none⟩ (.string y.f1)) base ok (.slice (some ⟨g,0,none⟩) n cap) (x.set i y):=by
 obtain ⟨h0,h1,_,_,_⟩:=elem_R h i hi
 have:=(Kd.R_seg (d:=k50) (okp:=fun _=>False) h (i:Int) (by omega) (by omega) (c:=[.string (rd_T50 x (i:Int)).f0,.string (rd_T50 x (i:Int)).f1]) (seg:=[.string y.f0,.string y.f1]) (j:=0) rfl (fun j u hu=>by
  match j,hu with
  | 0,hu=>injection hu with hu;subst hu;exact h0
  | 1,hu=>injection hu with hu;subst hu;exact h1) (Nat.le_refl _) (x':=y) ⟨[.string y.f0],[.string y.f1],rfl,rfl,rfl⟩ (fun _ hk=>hk.elim)).1
 exact this
set_option maxHeartbeats 4000000 in
set_option maxRecDepth 100000 in
theorem delete_calls (p:Rw→Bool) (F:Nat) (cap:Value) (w0:World) (eg:∀ args w,(callFunc F args).run Tryz.prog w = .ok (.enter F args) w)
 (HP:∀ (x:Rw) (W:World),Below w0.heap.size w0 W→Calls Tryz.prog F #[.agg #[.string x.f0,.string x.f1],cap] W fun e W'=>e = .returned (.bool (!p x))∧Below W.heap.size W W')
 {w:World} {ok:Nat→Prop} {u:Value} {l:List Rw} (hB:Below w0.heap.size w0 w) (ho:k50.R 50 w w0.heap.size ok u l) :
 Calls Tryz.prog 64 #[u,.func (Fn.func F) #[] #[cap]] w fun e w'=>∃ u',e = .returned u'∧k50.R 50 w' w0.heap.size ok u' (l.filter p)∧Below w0.heap.size w0 w':=by
 obtain ⟨A,c,rfl,hlc,hC⟩:=Kd.R_reads ho
 have hcon:=idx_r.calls_ (fun x => !p x) F cap A c l w hC hlc eg (fun x W hW=>(HP x W (hB.trans (hW.mono hB.size))).mono fun e W' h=>⟨h.1,hW.trans (h.2.mono hW.size)⟩)
 have HPA:=Aside0.mk HP
 clear HP
 by_cases hall:l.findIdx (fun x => !p x)<l.length
 ·have hv:idxRes_r (fun x => !p x) l=(l.findIdx (fun x => !p x):Int):=by unfold idxRes_r;rw [if_pos hall]
  rw [hv] at hcon
  clear hv
  have hd:=DInv.start (p:=p) hall (by have:=List.findIdx_getElem (w:=hall);simpa using this) (fun m h2 hm=>by have:=List.not_of_lt_findIdx hm;simpa using this)
  generalize l.findIdx (fun x => !p x)=i0 at hcon hd hall
  have HD:=Aside0.mk hd
  clear hd
  have hp:0<l.length:=by omega
  obtain ⟨g,cap_,ef,hbg,hgl,hcells⟩:=Kd.R_form ho hp
  cases ef
  have hi0:(i0:Int)≠-1:=by omega
  have hcm:=cap_le ho
  have hi1:(i0:Int)<(l.length:Int):=by omega
  have HO:=Aside0.mk ho
  have HB:=Aside0.mk hB
  clear hB ho hC hcells hgl
  go_enter Tryz.func64,Tryz.ntmps64
  go_wp2_with ((with_reducible refine hcon.mono ?_);rintro e w1 ⟨rfl,hb1⟩)
  have HB1:=Aside0.mk (HB.out.trans (hb1.mono HB.out.size))
  have HO1:=Aside0.mk (Kd.R_below HO.out hb1)
  clear HO HB hb1
  go_loopg [5,6] (l.length - (i0 + 1)) (fun kq v5 v6 w'=>∃ (i j:Nat) (x:List Rw),v5 = .int .i64 i∧v6 = .int .i64 j∧Aside0 (kq + j=l.length)∧Aside0 (DInv p l j i x)∧Aside0 (k50.R 50 w' w0.heap.size ok (.slice (some ⟨g,0,none⟩) l.length c) x)∧Aside0 (Below w0.heap.size w0 w'))
  case atStart=>exact ⟨i0,i0 + 1,l,rfl,by go_num,⟨by omega⟩,HD,HO1,HB1⟩
  case round=>
   clear HO1 HB1 HD
   obtain ⟨i,j,x,rfl,rfl,HK,HD,HO,HB⟩:=hrel
   have hij:=HD.out.lt
   have hjl:=HD.out.le
   have hxl:=HD.out.len
   by_cases hj:j<l.length
   ·have q1:(j:Int)<(l.length:Int):=by omega
    have p1:(0:Int)≤(j:Int):=by omega
    have q2:(i:Int)<(l.length:Int):=by omega
    have p2:(0:Int)≤(i:Int):=by omega
    have hC:=(Kd.R_reads' HO.out).2.2
    obtain ⟨ad,ea,hx0,hx1⟩:=at_T50 hC (j:Int) p1 (by omega)
    cases ea
    clear hC
    have hrd:rd_T50 x (j:Int)=l[j]:=by
     have h1:=HD.out.high j (Nat.le_refl _)
     have h2:x[j]? = some l[j]:=by rw [h1];exact List.getElem?_eq_getElem hj
     simp [rd_T50,List.getD_eq_getElem?_getD,h2]
    rw [hrd] at hx0 hx1
    clear hrd
    simp only [Int.toNat_natCast,Addr.add_lit,Nat.zero_add] at hx0 hx1
    have hqk:=HD.out.keep (p:=p) hj
    have hqs:=HD.out.skip (p:=p) hj
    have HQ:=Aside0.mk (And.intro hqk hqs)
    clear hqk hqs
    have HH:=Aside0.mk (HPA.out l[j])
    generalize l[j]=y at hx0 hx1 HH HQ
    cases hpy:p y with
    | true=>
     rw [hpy] at HH
     have HD2:=Aside0.mk (HQ.out.1 hpy)
     clear HQ hpy HD
     go_wp2_with (first|((with_reducible refine gate_dst (N:=7) rfl ?_);refine bx_ (N:=7) (cs:=#[.string ⟨#[]⟩,.string ⟨#[]⟩]) (t:=50) (h:=?_);intro gv hg w7 hbox hb;have HG:=Aside0.mk hg;have HBX:=Aside0.mk hb;have BV:=Aside0.mk hbox;obtain ⟨hc0,hc1,hf0,hf1⟩:=c2_ (mk0 hbox);clear hbox hb hg)|((with_reducible refine (HH.out _ ?hBB).mono ?_);(case hBB=>exact below_set (below_set (HB.out.trans (HBX.out.mono HB.out.size)) (by rw [HG.out];exact HB.out.size)) (by rw [HG.out];exact HB.out.size));rintro e w9 ⟨rfl,hb9⟩;have HO9:=Aside0.mk (Kd.R_below (move_R HO.out HG.out HBX.out (.string y.f0) (.string y.f1)) hb9);have HB9:=Aside0.mk ((below_set (below_set (HB.out.trans (HBX.out.mono HB.out.size)) (by rw [HG.out];exact HB.out.size)) (by rw [HG.out];exact HB.out.size)).trans (hb9.mono (below_set (below_set (HB.out.trans (HBX.out.mono HB.out.size)) (by rw [HG.out];exact HB.out.size)) (by rw [HG.out];exact HB.out.size)).size));have BV9:=mk0 (blk_below (blk_put (blk_put BV.out 0 (.string y.f0) rfl) 1 (.string y.f1) rfl) hb9);obtain ⟨hd0,hd1,hk0,hk1⟩:=c2_ BV9;obtain ⟨he0,he1,hz0,hz1,_⟩:=elem_R HO9.out i (by omega);clear hb9 HG HBX BV BV9 HO HB hc0 hc1 hf0 hf1 hx0 hx1))
     go_roundg (gk - 1)
     case measure=>have:=HK.out;omega
     case rel=>exact ⟨i + 1,j + 1,x.set i y,by go_num,by go_num,⟨by have:=HK.out;omega⟩,HD2,⟨put_R HO9.out i (by omega) y⟩,⟨below_set (below_set HB9.out hbg) hbg⟩⟩
    | false=>
     rw [hpy] at HH
     have HD2:=Aside0.mk (HQ.out.2 hpy)
     clear HQ hpy HD
     go_wp2_with (first|((with_reducible refine gate_dst (N:=7) rfl ?_);refine bx_ (N:=7) (cs:=#[.string ⟨#[]⟩,.string ⟨#[]⟩]) (t:=50) (h:=?_);intro gv hg w7 hbox hb;have HG:=Aside0.mk hg;have HBX:=Aside0.mk hb;have BV:=Aside0.mk hbox;obtain ⟨hc0,hc1,hf0,hf1⟩:=c2_ (mk0 hbox);clear hbox hb hg)|((with_reducible refine (HH.out _ ?hBB).mono ?_);(case hBB=>exact below_set (below_set (HB.out.trans (HBX.out.mono HB.out.size)) (by rw [HG.out];exact HB.out.size)) (by rw [HG.out];exact HB.out.size));rintro e w9 ⟨rfl,hb9⟩;have HO9:=Aside0.mk (Kd.R_below (move_R HO.out HG.out HBX.out (.string y.f0) (.string y.f1)) hb9);have HB9:=Aside0.mk ((below_set (below_set (HB.out.trans (HBX.out.mono HB.out.size)) (by rw [HG.out];exact HB.out.size)) (by rw [HG.out];exact HB.out.size)).trans (hb9.mono (below_set (below_set (HB.out.trans (HBX.out.mono HB.out.size)) (by rw [HG.out];exact HB.out.size)) (by rw [HG.out];exact HB.out.size)).size));clear hb9 HG HBX BV HO HB hc0 hc1 hf0 hf1 hx0 hx1))
     go_roundg (gk - 1)
     case measure=>have:=HK.out;omega
     case rel=>exact ⟨i,j + 1,x,rfl,by go_num,⟨by have:=HK.out;omega⟩,HD2,HO9,HB9⟩
   ·have hje:j=l.length:=by omega
    have q1:¬ ((j:Int)<(l.length:Int)):=by omega
    have hF:=Aside0.mk (DInv.done (p:=p) (hje ▸ HD.out))
    obtain ⟨hrc,hrg⟩:=cut_R HO.out i (by omega) (Builtin.zeroCells (Value.agg #[.string ⟨#[]⟩,.string ⟨#[]⟩]).cells (l.length - i)).toList (by rw [zero_len];exact Nat.mul_le_mul_right _ (by omega))
    have HRC:=Aside0.mk hrc
    have hclear:∀ ty k,(Builtin.clear_ #[38] ty #[.slice (some ⟨g,i * 2,none⟩) (l.length - i) k]).run Tryz.prog wr = .ok (.tuple #[]) (wr.setCells g (i * 2) (Builtin.zeroCells (Value.agg #[.string ⟨#[]⟩,.string ⟨#[]⟩]).cells (l.length - i)).toList):=fun ty k=>by
     have h:=run_clear_k wr 38 50 ty (Value.agg #[.string ⟨#[]⟩,.string ⟨#[]⟩]) Tryz.underlying38 Tryz.zeroValue50 g (i * 2) (l.length - i) k (by omega) (zero_one _) (fun j' hj'=>by
      rw [zero_len] at hj'
      obtain ⟨h0,h1,_⟩:=elem_R HO.out (i + j' / 2) (by omega)
      have hc:j' % 2=0∨j' % 2=1:=by omega
      rcases hc with hc|hc
      ·rw [show i * 2 + j'=(i + j' / 2) * 2 by omega,h0];rfl
      ·rw [show i * 2 + j'=(i + j' / 2) * 2 + 1 by omega,h1];rfl) (fun j' hj'=>by
      rw [zero_len] at hj'
      obtain ⟨_,_,h0,h1,_⟩:=elem_R HO.out (i + j' / 2) (by omega)
      have hc:j' % 2=0∨j' % 2=1:=by omega
      rcases hc with hc|hc
      ·rw [show i * 2 + j'=(i + j' / 2) * 2 by omega,h0]
      ·rw [show i * 2 + j'=(i + j' / 2) * 2 + 1 by omega,h1])
     exact h
    have HB2:=Aside0.mk (below_cells HB.out hrg (i * 2) (Builtin.zeroCells (Value.agg #[.string ⟨#[]⟩,.string ⟨#[]⟩]).cells (l.length - i)).toList)
    have q2:(i:Int)≤(l.length:Int):=by omega
    have p2:(0:Int)≤(i:Int):=by omega
    have q3:(i:Int)≤(c:Int):=by omega
    have q5:¬ (c=i):=by omega
    have q6:¬ (c - i=0):=by omega
    have q7:¬ (i=c):=by omega
    have q8:¬ (c≤i):=by omega
    have q4:(l.length:Int)≤(c:Int):=by omega
    clear hrc hjl HO HB HD HK hij hje hxl HPA hall hp
    generalize (Builtin.zeroCells (Value.agg #[.string ⟨#[]⟩,.string ⟨#[]⟩]).cells (l.length - i)).toList=zs at hclear HRC HB2
    generalize wr.setCells g (i * 2) zs=W3 at hclear HRC HB2
    go_wp2
    go_ret
    exact ⟨_,rfl,by rw [← hF.out];exact HRC.out,HB2.out⟩
 ·have hv:idxRes_r (fun x => !p x) l = -1:=by unfold idxRes_r;rw [if_neg hall]
  rw [hv] at hcon
  have hf:l.filter p=l:=filter_all (by have:=List.findIdx_le_length (p:=fun x => !p x) (xs:=l);omega)
  rw [hf]
  have HO:=Aside0.mk ho
  have HB:=Aside0.mk hB
  clear hv hall hB ho hC
  go_enter Tryz.func64,Tryz.ntmps64
  go_wp2_with ((with_reducible refine hcon.mono ?_);rintro e w1 ⟨rfl,hb1⟩)
  go_ret
  exact ⟨_,rfl,Kd.R_below HO.out hb1,HB.out.trans (hb1.mono HB.out.size)⟩
theorem fin_R {W:World} {base:Nat} {ok:Nat→Prop} {A:Option Addr} {c:Nat} (v:Int) (q:Nat) (hv:v.toNat=q) (x:List Rw) (u:Unit) (h:k50.R 50 W base ok (.slice A q c) x):k50.R 50 W base ok (.slice A v.toNat c) x:=by rw [hv];exact h
set_option maxHeartbeats 4000000 in
set_option maxRecDepth 100000 in
theorem some_calls (A0:Option Addr) (c0:Nat) (l0:List Rw) (a1_0 a1_1:ByteArray) (a1_2:Bool) (a2:Int) (a3:Bool) (r:List Rw) (w:World) (hr0:Kd.C k50 w A0 l0.length l0) (hc0:l0.length≤c0) (h:(if l0.length<4398046511104∧0≤a2 then some (someOf l0 a1_0 a1_1 a1_2 a2 a3) else none)=some r) :
 Calls Tryz.prog 43 #[.slice A0 l0.length c0,.agg #[.string a1_0,.string a1_1,.bool a1_2],.int .i64 a2,.bool a3] w fun e w'=>∃ v0_:Value,e = .returned (v0_)∧Kd.R k50 50 w' w.heap.size (fun _=>True) v0_ r∧Below w.heap.size w w':=by
 split at h
 case isFalse=>cases h
 case isTrue hc=>
  obtain ⟨hlen,hmany⟩:=hc
  obtain rfl:=Option.some.inj h
  clear h
  have eg:∀ args w,(callFunc 66 args).run Tryz.prog w = .ok (.enter 66 args) w:=enters_of Tryz.func66 (by kernel_rfl) rfl
  have HR:=Aside0.mk hr0
  have HC:=Aside0.mk hc0
  have HL:=Aside0.mk hlen
  have EG:=Aside0.mk eg
  have HB:=mk0 (Below.refl w.heap.size w)
  clear hr0 hc0 eg
  obtain ⟨m,hm⟩:∃ m,l0.filter (keep a1_0 a1_1 a1_2)=m:=⟨_,rfl⟩
  have hres:someOf l0 a1_0 a1_1 a1_2 a2 a3=(if a3=true then m.reverse else m).take a2.toNat:=by unfold someOf;rw [hm]
  have hml:m.length<4398046511104:=by rw [← hm];exact Nat.lt_of_le_of_lt (List.length_filter_le _ _) hlen
  rw [hres]
  clear hres
  have step1:∀ (W:World) (gb:Nat),Below w.heap.size w W→W.heap[gb]? = some (.cells #[.string a1_0,.string a1_1,.bool a1_2] 55 (0,0))→∀ (w6:World) (v:Value),k50.R 50 w6 W.heap.size (fun _=>True) v l0→Below W.heap.size W w6 →
   Calls Tryz.prog 64 #[v,.func (Fn.func 66) #[] #[.pointer (some ⟨gb,0,none⟩)]] w6 fun e w'=>∃ u',e = .returned u'∧k50.R 50 w' W.heap.size (fun _=>True) u' m∧Below W.heap.size W w':=fun W gb hW hgb w6 v hv hb=>by
   rw [← hm]
   exact delete_calls (keep a1_0 a1_1 a1_2) 66 (.pointer (some ⟨gb,0,none⟩)) W EG.out (fun x W2 hW2=>clo_calls a1_0 a1_1 a1_2 gb x W2 ((hW2.block gb (Array.getElem?_eq_some_iff.1 hgb).1).trans hgb)) hb hv
  have ST:=Aside0.mk step1
  clear step1 hm hlen
  go_enter Tryz.func43,Tryz.ntmps43
  by_cases hmin:a2≤(m.length:Int)
  ·obtain ⟨q,rfl⟩:∃ q:Nat,a2=(q:Int):=⟨a2.toNat,by omega⟩
   have hq:q≤m.length:=by omega
   cases a3 with
   | false=>
    go_wp2_with (first|((with_reducible refine gate_dst (N:=5) rfl ?_);refine bx_ (N:=5) (cs:=#[.string a1_0,.string a1_1,.bool a1_2]) (t:=55) (h:=?_);intro gb hg w5 hbox hb;have HB5:=Aside0.mk hb;have HX5:=Aside0.mk hbox;clear hb hbox hg)|(go_at_call 65;(with_reducible refine (cloneR.calls A0 c0 l0 l0 _ (Kd.C_below HR.out HB5.out) HC.out (by unfold cloneR.f;rw [if_pos HL.out])).mono ?_);rintro e w6 ⟨v1,rfl,ho1,hb1⟩;have HO6:=Aside0.mk ho1;have HB6:=Aside0.mk hb1;clear ho1 hb1)|(go_at_call 64;(with_reducible refine (ST.out _ gb HB5.out HX5.out _ _ HO6.out HB6.out).mono ?_);rintro e w7 ⟨v2,rfl,ho2,hb2⟩;obtain ⟨A2,c2,rfl,hl2,_⟩:=Kd.R_reads ho2;have HO7:=Aside0.mk ho2;have HB7:=Aside0.mk hb2;clear ho2 hb2))
    go_ret
    exact ⟨_,rfl,fin_R (min (q:Int) (m.length:Int)) q (by omega) _ () (Kd.R_lower (Kd.R_take HO7.out hq) HB5.out.size),HB5.out.trans (HB7.out.mono HB5.out.size)⟩
   | true=>
    go_wp2_with (first|((with_reducible refine gate_dst (N:=5) rfl ?_);refine bx_ (N:=5) (cs:=#[.string a1_0,.string a1_1,.bool a1_2]) (t:=55) (h:=?_);intro gb hg w5 hbox hb;have HB5:=Aside0.mk hb;have HX5:=Aside0.mk hbox;clear hb hbox hg)|(go_at_call 65;(with_reducible refine (cloneR.calls A0 c0 l0 l0 _ (Kd.C_below HR.out HB5.out) HC.out (by unfold cloneR.f;rw [if_pos HL.out])).mono ?_);rintro e w6 ⟨v1,rfl,ho1,hb1⟩;have HO6:=Aside0.mk ho1;have HB6:=Aside0.mk hb1;clear ho1 hb1)|(go_at_call 64;(with_reducible refine (ST.out _ gb HB5.out HX5.out _ _ HO6.out HB6.out).mono ?_);rintro e w7 ⟨v2,rfl,ho2,hb2⟩;obtain ⟨A2,c2,rfl,hl2,_⟩:=Kd.R_reads ho2;have HO7:=Aside0.mk ho2;have HB7:=Aside0.mk hb2;clear ho2 hb2)|(go_at_call 68;(with_reducible refine (reverse_R HB7.out HO7.out).mono ?_);rintro e w8 ⟨rfl,ho3,hb3⟩;replace HO7:=Aside0.mk ho3;replace HB7:=Aside0.mk hb3;clear ho3 hb3))
    go_ret
    exact ⟨_,rfl,fin_R (min (q:Int) (m.length:Int)) q (by omega) _ () (Kd.R_lower (Kd.R_take HO7.out (by rw [List.length_reverse];exact hq)) HB5.out.size),HB5.out.trans (HB7.out.mono HB5.out.size)⟩
  ·have hmin2:(m.length:Int)<a2:=by omega
   have ht:∀ l:List Rw,l.length=m.length→l.take a2.toNat=l:=fun l hl=>List.take_of_length_le (by omega)
   cases a3 with
   | false=>
    rw [if_neg (by simp),ht _ rfl]
    go_wp2_with (first|((with_reducible refine gate_dst (N:=5) rfl ?_);refine bx_ (N:=5) (cs:=#[.string a1_0,.string a1_1,.bool a1_2]) (t:=55) (h:=?_);intro gb hg w5 hbox hb;have HB5:=Aside0.mk hb;have HX5:=Aside0.mk hbox;clear hb hbox hg)|(go_at_call 65;(with_reducible refine (cloneR.calls A0 c0 l0 l0 _ (Kd.C_below HR.out HB5.out) HC.out (by unfold cloneR.f;rw [if_pos HL.out])).mono ?_);rintro e w6 ⟨v1,rfl,ho1,hb1⟩;have HO6:=Aside0.mk ho1;have HB6:=Aside0.mk hb1;clear ho1 hb1)|(go_at_call 64;(with_reducible refine (ST.out _ gb HB5.out HX5.out _ _ HO6.out HB6.out).mono ?_);rintro e w7 ⟨v2,rfl,ho2,hb2⟩;obtain ⟨A2,c2,rfl,hl2,_⟩:=Kd.R_reads ho2;have HO7:=Aside0.mk ho2;have HB7:=Aside0.mk hb2;clear ho2 hb2))
    go_ret
    exact ⟨_,rfl,fin_R (min a2 (m.length:Int)) m.length (by omega) _ () (Kd.R_lower HO7.out HB5.out.size),HB5.out.trans (HB7.out.mono HB5.out.size)⟩
   | true=>
    rw [if_pos rfl,ht _ (by simp)]
    go_wp2_with (first|((with_reducible refine gate_dst (N:=5) rfl ?_);refine bx_ (N:=5) (cs:=#[.string a1_0,.string a1_1,.bool a1_2]) (t:=55) (h:=?_);intro gb hg w5 hbox hb;have HB5:=Aside0.mk hb;have HX5:=Aside0.mk hbox;clear hb hbox hg)|(go_at_call 65;(with_reducible refine (cloneR.calls A0 c0 l0 l0 _ (Kd.C_below HR.out HB5.out) HC.out (by unfold cloneR.f;rw [if_pos HL.out])).mono ?_);rintro e w6 ⟨v1,rfl,ho1,hb1⟩;have HO6:=Aside0.mk ho1;have HB6:=Aside0.mk hb1;clear ho1 hb1)|(go_at_call 64;(with_reducible refine (ST.out _ gb HB5.out HX5.out _ _ HO6.out HB6.out).mono ?_);rintro e w7 ⟨v2,rfl,ho2,hb2⟩;obtain ⟨A2,c2,rfl,hl2,_⟩:=Kd.R_reads ho2;have HO7:=Aside0.mk ho2;have HB7:=Aside0.mk hb2;clear ho2 hb2)|(go_at_call 68;(with_reducible refine (reverse_R HB7.out HO7.out).mono ?_);rintro e w8 ⟨rfl,ho3,hb3⟩;replace HO7:=Aside0.mk ho3;replace HB7:=Aside0.mk hb3;clear ho3 hb3))
    go_ret
    exact ⟨_,rfl,fin_R (min a2 (m.length:Int)) m.length (by omega) _ () (Kd.R_lower HO7.out HB5.out.size),HB5.out.trans (HB7.out.mono HB5.out.size)⟩
end Go.Proofs.YtbaecdcfefmcgaaGreat.HSome
