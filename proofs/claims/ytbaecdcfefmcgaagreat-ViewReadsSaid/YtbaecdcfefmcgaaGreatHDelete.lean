import Derived.Test.YtbaecdcfefmcgaaGreatPVrdx0
import Derived.Test.YtbaecdcfefmcgaaGreatHSome
namespace Go.Proofs.YtbaecdcfefmcgaaGreat.HSome
open Go.Shelf Go.Lib Go.Sort Go.RowKit Go.Proofs.YtbaecdcfefmcgaaGreatW.PrintWords Go.Proofs.YtbaecdcfefmcgaaGreatW.PrintLast Go.Proofs.YtbaecdcfefmcgaaGreatW.PrintMore Go.Proofs.YtbaecdcfefmcgaaGreat.PVrd Go.Proofs.YtbaecdcfefmcgaaGreat.HCopy Go.Proofs
set_option linter.unusedSimpArgs false
set_option linter.unusedVariables false
theorem row_size {W:World} {base:Nat} {ok:Nat→Prop} {g n cap:Nat} {x:List Rw} (h:k50.R 50 W base ok (.slice (some ⟨g,0,none⟩) n cap) x):∃ cur,W.heap[g]? = some (.cells cur 50 (0,0))∧cur.size=cap * 2:=by
 obtain ⟨hok,inner,⟨hlen,hcase⟩,hr⟩:=h
 rcases hcase with ⟨h0,_⟩|⟨g',cap',cur,he,hbg,hg,hnc',hcm,hsz,ht⟩
 ·cases h0
 injection he with ha _ hc
 injection ha with ha
 injection ha with hgg
 subst hgg;subst hc
 exact ⟨cur,hg,hsz⟩
theorem clear_last {w0 w w1:World} {ok:Nat→Prop} {l:List Rw} {g c i:Nat} (hi:i<l.length) (hlc:l.length≤c) (hbg:w0.heap.size≤g) (hB1:Below w0.heap.size w0 w1) (hg1:w.grownBy w1 (some g)) (hR1:k50.R 50 w1 w0.heap.size ok (.slice (some ⟨g,0,none⟩) (l.length - 1) c) (l.eraseIdx i)) :
 ∃ W2,(∀ ty k,(Builtin.clear_ #[38] ty #[.slice (some ⟨g,(l.length - 1) * 2,none⟩) 1 k]).run Tryz.prog w1 = .ok (.tuple #[]) W2)∧k50.R 50 W2 w0.heap.size ok (.slice (some ⟨g,0,none⟩) (l.length - 1) c) (l.eraseIdx i)∧Below w0.heap.size w0 W2∧Kept w W2 (fun k=>some k=(Value.slice (some ⟨g,0,none⟩) l.length c).ownBlock):=by
 obtain ⟨cur,hcur,hsize⟩:=row_size hR1
 have hz:(Builtin.zeroCells (Value.agg #[.string ⟨#[]⟩,.string ⟨#[]⟩]).cells 1).toList.length=2:=by rw [zero_len]
 obtain ⟨hR2,_⟩:=cut_R hR1 (l.length - 1) (Nat.le_refl _) (Builtin.zeroCells (Value.agg #[.string ⟨#[]⟩,.string ⟨#[]⟩]).cells 1).toList (by rw [hz];omega)
 rw [List.take_of_length_le (by rw [List.length_eraseIdx_of_lt hi];omega)] at hR2
 refine ⟨w1.setCells g ((l.length - 1) * 2) (Builtin.zeroCells (Value.agg #[.string ⟨#[]⟩,.string ⟨#[]⟩]).cells 1).toList,fun ty k=>?_,hR2,below_cells hB1 hbg ((l.length - 1) * 2) _,?_⟩
 ·exact run_clear_k w1 38 50 ty (Value.agg #[.string ⟨#[]⟩,.string ⟨#[]⟩]) Tryz.underlying38 Tryz.zeroValue50 g ((l.length - 1) * 2) 1 k (by omega) (zero_one _) (fun j' hj'=>by
   rw [hz] at hj'
   rw [blk_cell hcur,Array.getElem?_eq_getElem (by omega)]
   rfl) (fun j' hj'=>blk_frozen hcur _)
 ·obtain ⟨s1,s2,s3,s4⟩:=setCells_same g (Builtin.zeroCells (Value.agg #[.string ⟨#[]⟩,.string ⟨#[]⟩]).cells 1).toList ((l.length - 1) * 2) w1
  refine ⟨by rw [s4];exact hg1.size,fun k hk hn=>?_⟩
  have hkg:k≠g:=fun e=>hn (by rw [e];rfl)
  rw [setCells_far _ _ k hkg]
  exact hg1.block k hk (fun e=>hkg (by injection e))
set_option maxHeartbeats 4000000 in
set_option maxRecDepth 100000 in
theorem delete_one {w0 w:World} {ok:Nat→Prop} {u:Value} {l:List Rw} (hB:Below w0.heap.size w0 w) (ho:k50.R 50 w w0.heap.size ok u l) (i:Nat) (hi:i<l.length) :
 Calls Tryz.prog 73 #[u,.int .i64 i,.int .i64 ((i:Int) + 1)] w fun e w'=>∃ u',e = .returned u'∧k50.R 50 w' w0.heap.size ok u' (l.eraseIdx i)∧Below w0.heap.size w0 w'∧Kept w w' (fun k=>some k=u.ownBlock):=by
 obtain ⟨g,c,rfl,hbg,hgl,hcells⟩:=Kd.R_form ho (by omega)
 have hcm:=cap_le ho
 have hlc:=(Kd.R_reads' ho).2.1
 have hinfo:=info50
 obtain ⟨ti,hti,hsz⟩:∃ ti,Tryz.prog.info? 50=some ti∧ti.size=2:=by
  cases hq:Tryz.prog.info? 50 with
  | none=>rw [hq] at hinfo;simp at hinfo
  | some z=>rw [hq] at hinfo;simp at hinfo;exact ⟨z,rfl,hinfo.2.1⟩
 have HO:=Aside0.mk ho
 have HB:=Aside0.mk hB
 have HI:=Aside0.mk hi
 have HC:=Aside0.mk hlc
 have HG:=Aside0.mk hbg
 have HT:=Aside0.mk hti
 have HZ:=Aside0.mk hsz
 have q1:(i:Int)<(l.length:Int):=by omega
 have q2:(i:Int) + 1≤(l.length:Int):=by omega
 have q3:(0:Int)≤(i:Int):=by omega
 have q4:(l.length:Int)≤(c:Int):=by omega
 have q5:¬ ((i:Int)=(i:Int) + 1):=by omega
 have q6:¬ (c=l.length - 1):=by omega
 have q7:¬ (c - (l.length - 1)=0):=by omega
 have q8:l.length - 1<c:=by omega
 have q9:l.length - (l.length - 1)=1:=by omega
 have q11:i≤c:=by omega
 have q12:i + 1≤l.length:=by omega
 have q13:i + 1≤c:=by omega
 have q14:((i:Int) + 1).toNat=i + 1:=by omega
 have q15:l.length - 1≤c:=by omega
 have q16:l.length - 1≤l.length:=by omega
 have q17:(0:Int)≤(i:Int) + 1:=by omega
 have q10:((l.length - 1:Nat):Int)≤(l.length:Int):=by omega
 clear hinfo hti hsz ho hB hcells
 have HO:=Aside0.mk (Kd.R_drew HO.out)
 have HB:=Aside0.mk (below_drew HB.out)
 by_cases hc1:c=i + 1
 ·subst hc1
  have hle:l.length=i + 1:=by omega
  obtain ⟨hrc,_⟩:=cut_R HO.out i (by omega) (Builtin.zeroCells (Value.agg #[.string ⟨#[]⟩,.string ⟨#[]⟩]).cells (l.length - i)).toList (by rw [zero_len];exact Nat.mul_le_mul_right _ (by omega))
  have he:l.take i=l.eraseIdx i:=by rw [List.eraseIdx_eq_take_drop_succ,List.drop_eq_nil_of_le (by omega),List.append_nil]
  rw [he] at hrc
  obtain ⟨cur,hcur,hsize⟩:=row_size HO.out
  have hclear:∀ ty k,(Builtin.clear_ #[38] ty #[.slice (some ⟨g,i * 2,none⟩) (l.length - i) k]).run Tryz.prog w.drew = .ok (.tuple #[]) (w.drew.setCells g (i * 2) (Builtin.zeroCells (Value.agg #[.string ⟨#[]⟩,.string ⟨#[]⟩]).cells (l.length - i)).toList):=fun ty k=>
   run_clear_k w.drew 38 50 ty (Value.agg #[.string ⟨#[]⟩,.string ⟨#[]⟩]) Tryz.underlying38 Tryz.zeroValue50 g (i * 2) (l.length - i) k (by omega) (zero_one _) (fun j' hj'=>by
    rw [zero_len] at hj'
    rw [blk_cell hcur,Array.getElem?_eq_getElem (by omega)]
    rfl) (fun j' hj'=>blk_frozen hcur _)
  have HB2:=Aside0.mk (below_cells HB.out HG.out (i * 2) (Builtin.zeroCells (Value.agg #[.string ⟨#[]⟩,.string ⟨#[]⟩]).cells (l.length - i)).toList)
  have HK2:=Aside0.mk (show Kept w (w.drew.setCells g (i * 2) (Builtin.zeroCells (Value.agg #[.string ⟨#[]⟩,.string ⟨#[]⟩]).cells (l.length - i)).toList) (fun k=>some k=(Value.slice (some ⟨g,0,none⟩) l.length (i + 1)).ownBlock) from by
   obtain ⟨s1,s2,s3,s4⟩:=setCells_same g (Builtin.zeroCells (Value.agg #[.string ⟨#[]⟩,.string ⟨#[]⟩]).cells (l.length - i)).toList (i * 2) w.drew
   exact ⟨by rw [s4];exact Nat.le_refl _,fun k hk hn=>setCells_far _ _ k (fun e=>hn (by rw [e];rfl))⟩)
  have HR2:=Aside0.mk hrc
  clear hrc hcur hsize he
  have q18:(i:Int)≤(i:Int) + 1:=by omega
  have q19:i≤i + 1:=by omega
  have q20:(i:Int) + 1≤(i:Int) + 1:=by omega
  generalize (Builtin.zeroCells (Value.agg #[.string ⟨#[]⟩,.string ⟨#[]⟩]).cells (l.length - i)).toList=zs at hclear HR2 HB2 HK2
  generalize w.drew.setCells g (i * 2) zs=W2 at hclear HR2 HB2 HK2
  clear hle
  go_enter Tryz.func73,Tryz.ntmps73
  go_wp2
  go_region
  go_wp2
  go_ret
  exact ⟨_,rfl,HR2.out,HB2.out,HK2.out⟩
 ·go_enter Tryz.func73,Tryz.ntmps73
  go_wp2
  go_region_law (refine Kd.R_delete_step k50 (w0:=w0) w0.heap.size (by rfl) (.tmp 22) (.tmp 25) 38 50 rfl Tryz.underlying38 (by rw [HT.out];exact congrArg some HZ.out) (g:=g) (n:=l.length) (c:=c) (k:=i) (m:=l.length - (i + 1)) (c2:=c - (i + 1))  (A:=some ⟨g,(i + 1) * 2,none⟩) (xs:=l) (ok:=ok) (by simp [Act.eval,Act.put]) (by simp [Act.eval,Act.put]) (by rw [if_neg hc1];simp [Addr.add];rfl) rfl HO.out HI.out HB.out HB.out.size ?_;intro w1 ho1 hb1 hg1;obtain ⟨W2,hclear,hR2,hB2,hK2⟩:=clear_last HI.out HC.out HG.out hb1 hg1 ho1;have HR2:=Aside0.mk hR2;have HB2:=Aside0.mk hB2;have HK2:=Aside0.mk hK2;clear ho1 hb1 hg1 hR2 hB2 hK2)
  go_wp2
  go_ret
  exact ⟨_,rfl,HR2.out,HB2.out,HK2.out⟩
end Go.Proofs.YtbaecdcfefmcgaaGreat.HSome
