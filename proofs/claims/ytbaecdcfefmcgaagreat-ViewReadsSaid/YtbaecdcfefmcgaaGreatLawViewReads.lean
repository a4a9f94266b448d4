/- The law ViewReads holds for every input within the form's reach: the row, out of the pure statement (PureViewReads) and the printed and hand-made contracts of what it calls. Conditions: none beyond the form's own. -/
import Derived.Test.YtbaecdcfefmcgaaGreatRows
import Derived.Test.YtbaecdcfefmcgaaGreatPVrdx23
import Derived.Test.YtbaecdcfefmcgaaGreatHPlain
import Derived.WalkKit
import Derived.ProofKit
import Derived.OpenShut
import Derived.ShutString
import Derived.ChangeOld
import Derived.Below
import Derived.SizedLaws
namespace Go.Proofs.YtbaecdcfefmcgaaGreat.viewReads
open Go.ChangeShapes Go.WideShapes Go.ChangeAt Go.RowKit Go.Proofs.YtbaecdcfefmcgaaGreatW.PrintWords
set_option linter.unusedVariables false
theorem own:ownKnob Tryz.prog.godebug=none:=by kernel_rfl
theorem laidOut:laidOutB Tryz.prog=true:=by kernel_rfl
set_option maxRecDepth 100000 in
theorem lifted (os:Os) (started:os.Started) (H:Type) (enc:TypeId×Value→H) :
 ReturnsInHanded {} Tryz.checked os 3 .any (Rows.viewReadsSpec.pre6 enc Tryz.prog Tryz.f3 Rows.viewReadsRow.domain false) (Rows.viewReadsSpec.post enc Tryz.prog Tryz.f3 false true false false):=by
 refine returnsInHanded_of_change_sized (C:=Tryz.checked) own started (by kernel_rfl) Tryz.func3
  (ChangeSpec.witness6 (enc:=enc) (C:=Tryz.checked) false ⟨#[],#[.agg #[.slice none 0 0,.slice none 0 0,.slice none 0 0,.slice none 0 0,.slice none 0 0,.slice none 0 0]],[]⟩ 8 (by kernel_rfl) (by kernel_rfl) (by kernel_rfl) (by kernel_rfl)) ?_
 intro W base args ds gs before hval0 hW hcnd hsz0 _
 have hsz:(DataW.weightsEach Tryz.prog (Tryz.f3.params.toList ++ Rows.viewReadsSpec.plain.varTypes Tryz.prog) (ds ++ gs)).all (·≤reachBytes)=true:=hsz0
 have hval:∀ (j:Nat) t v,Tryz.f3.params[j]? = some t→args[j]? = some v→Value.okWide Tryz.prog W .any base t v:=hval0
 have hW':=hW
 obtain ⟨p,q,hA0,hV,rfl,hfz,hnd⟩:=hW
 have hA:DataW.TrodAll enc Tryz.prog W 0 (fun _=>true) true Tryz.f3.params.toList args.toList ds p:=hA0
 rw [Tryz.params3] at hA hval hsz
 obtain ⟨v0,vs0,d0,ds0,p0,q0,hargs,rfl,rfl,h0,r0⟩:=trodAll_cons hA
 obtain ⟨rfl,rfl,rfl⟩:=trodAll_nil r0
 obtain rfl:args = #[v0]:=by cases args;simp_all
 obtain ⟨rfl,rfl⟩:=trodVars_none hV
 obtain ⟨cs0,rfl,hcs0⟩:=okWide_struct Tryz.underlying28 (hval 0 28 v0 rfl rfl)
 have k0:=h0
 have lt0:∀ x∈p0,x.block<W.heap.size:=by obtain ⟨m,hm⟩:=k0;exact DataW.trod_lt m _ _ _ hm
 obtain ⟨fuel,hf⟩:=h0
 have hz:∀ n∈d0.weights Tryz.prog 28,n≤reachBytes:=fun n hn=>by have z:=List.all_eq_true.1 hsz n (DataW.weights_mem_each (j:=0) (t:=28) (d:=d0) rfl rfl n hn);simpa using z
 obtain ⟨x,hx,hwx⟩:=OpViewReads.openTop.get enc W fuel cs0.toList (d0,p0) hf hz
 obtain ⟨l0_0,⟨l0_1,⟨l0_2,⟨l0_3,⟨l0_4,l0_5⟩⟩⟩⟩⟩:=x
 obtain ⟨_,_,hcs,⟨A0_0,c0_0,rfl,hc0_0,hr0_0⟩,⟨_,_,rfl,⟨A0_1,c0_1,rfl,hc0_1,hr0_1⟩,⟨_,_,rfl,⟨A0_2,c0_2,rfl,hc0_2,hr0_2⟩,⟨_,_,rfl,⟨A0_3,c0_3,rfl,hc0_3,hr0_3⟩,⟨_,_,rfl,⟨A0_4,c0_4,rfl,hc0_4,hr0_4⟩,⟨A0_5,c0_5,rfl,hc0_5,hr0_5⟩⟩⟩⟩⟩⟩:=hx
 obtain ⟨w0_0,⟨w0_1,⟨w0_2,⟨w0_3,⟨w0_4,w0_5⟩⟩⟩⟩⟩:=hwx
 obtain rfl:cs0 = #[.slice A0_0 l0_0.length c0_0,.slice A0_1 l0_1.length c0_1,.slice A0_2 l0_2.length c0_2,.slice A0_3 l0_3.length c0_3,.slice A0_4 l0_4.length c0_4,.slice A0_5 l0_5.length c0_5]:=by rw [← Array.toList_inj];exact hcs
 obtain ⟨k,hk⟩:=Pure.ViewReads l0_0 l0_1 l0_2 l0_3 l0_4 l0_5 w0_0 w0_1 w0_2 w0_3 w0_4 w0_5
 clear hA0 hval0 hsz0 hsz hz hcs hf
 refine (Go.Proofs.YtbaecdcfefmcgaaGreat.PVrd.Fa.calls k _ _ l0_0 (fun k_=>k_<W.heap.size) _ _ l0_1 _ _ l0_2 _ _ l0_3 _ _ l0_4 _ _ l0_5 true W hr0_0 hc0_0 (Kd.V_mk hc0_1 (Kd.C_F (show Kd.Heap Go.Proofs.YtbaecdcfefmcgaaGreat.PVrd.k34 from (Kd.heap_iso _ (Kd.heap_pair (Kd.heap_slice 72 (Kd.heap_iso _ (Kd.heap_pair (Kd.heap_int _) (Kd.heap_pair Kd.heap_string (Kd.heap_pair Kd.heap_string Kd.heap_bool))))) (Kd.heap_slice 3 (Kd.heap_int _))))) hr0_1)) hr0_2 hc0_2 hr0_3 hc0_3 hr0_4 hc0_4 hr0_5 hc0_5 hk).mono fun e W' ⟨he,bel⟩=>?_
 subst he
 exact ⟨_,rfl,_,_,_,[],_,[],hW',trodAll_mk1 (shut_bool Tryz.underlying4 _),trodAll_mk1 (Below.trod laidOut (by kernel_rfl) (of_decide_eq_true (by kernel_rfl)) k0 bel lt0),rfl,bel.frame _,fun h=>by cases h⟩
theorem over:Rows.viewReadsRow.holds Tryz.pinned (OpenSpec.ofChange Rows.viewReadsSpec):=
 OpenClaim.holds_of_wide 3 Tryz.f3 rfl rfl rfl rfl rfl rfl rfl ⟨rfl,rfl,rfl,rfl,rfl⟩ rfl rfl rfl rfl rfl (by kernel_rfl) Tryz.func3 (by kernel_rfl)
  (of_decide_eq_true (by kernel_rfl)) (by unfold Func.isWrapper;first|(rw [if_pos (by decide +kernel)];kernel_rfl)|(rw [if_neg (by decide +kernel)];exact ⟨rfl,rfl⟩))
  (fun os started H enc _=>lifted os started H enc)
theorem proved:Rows.ViewReadsSaid:=over
#print axioms proved
end Go.Proofs.YtbaecdcfefmcgaaGreat.viewReads
namespace Go.Proofs.YtbaecdcfefmcgaaGreat
/-- The row, under a short name, for the claim. -/
theorem viewReads_holds:Rows.ViewReadsSaid:=viewReads.proved
end Go.Proofs.YtbaecdcfefmcgaaGreat
