/- The pure statement of TablePurges: what the printed function comes to, for every input within the reach; and that an argument of the law reads as such an input. -/
import Derived.Test.YtbaecdcfefmcgaaPTbex19
import Derived.Test.YtbaecdcfefmcgaaHOpen
namespace Go.Proofs.Ytbaecdcfefmcgaa.OpTablePurges
open Go.RowKit Go.Proofs.Ytbaecdcfefmcgaa.HOpen Go.Proofs.Ytbaecdcfefmcgaa.PTbe Go.Proofs.YtbaecdcfefmcgaaW.PrintWords Go.Proofs.YtbaecdcfefmcgaaW.PrintLast
set_option linter.unusedVariables false
def wf72 (x : S72) : Prop := (Lit.int .i64 x.f0).wf = true ∧ x.f1.size ≤ 140737488351232 ∧ True
theorem open72 : Opens Try.prog 72 k72 wf72 := opens_struct (fun x : S72 => (x.f0, x.f1, x.f2)) (fun p => ⟨p.1, p.2.1, p.2.2⟩) (fun _ => rfl) Try.underlying72 (by kernel_rfl) (opensF_cons rfl (opens_int Try.underlying3 (by kernel_rfl)) rfl (opensF_cons rfl (opens_string Try.underlying9 (by kernel_rfl)) rfl (opensF_one rfl (opens_bool Try.underlying4 (by kernel_rfl)))))
def wf99 (x : S99) : Prop := x.f0.size ≤ 140737488351232 ∧ (x.f1.length ≤ 9223372036854775807 ∧ x.f1.length * 32 ≤ 140737488351232 ∧ ∀ e0 ∈ x.f1, wf72 e0)
theorem open99 : Opens Try.prog 99 k99 wf99 := opens_struct (fun x : S99 => (x.f0, x.f1)) (fun p => ⟨p.1, p.2⟩) (fun _ => rfl) Try.underlying99 (by kernel_rfl) (opensF_cons rfl (opens_string Try.underlying9 (by kernel_rfl)) rfl (opensF_one rfl (opens_slice 72 (B := 32) Try.underlying97 (by kernel_rfl) (by kernel_rfl) open72)))
def wf74 (x : S74) : Prop := x.f0.size ≤ 140737488351232 ∧ x.f1.size ≤ 140737488351232 ∧ True
theorem open74 : Opens Try.prog 74 k74 wf74 := opens_struct (fun x : S74 => (x.f0, x.f1, x.f2)) (fun p => ⟨p.1, p.2.1, p.2.2⟩) (fun _ => rfl) Try.underlying74 (by kernel_rfl) (opensF_cons rfl (opens_string Try.underlying9 (by kernel_rfl)) rfl (opensF_cons rfl (opens_string Try.underlying9 (by kernel_rfl)) rfl (opensF_one rfl (opens_bool Try.underlying4 (by kernel_rfl)))))
def wf76 (x : S76) : Prop := (Lit.int .i64 x.f0).wf = true ∧ (Lit.int .i64 x.f1).wf = true ∧ (Lit.int .i64 x.f2).wf = true ∧ x.f3.size ≤ 140737488351232 ∧ wf72 x.f4 ∧ wf74 x.f5 ∧ True
theorem open76 : Opens Try.prog 76 k76 wf76 := opens_struct (fun x : S76 => (x.f0, x.f1, x.f2, x.f3, x.f4, x.f5, x.f6)) (fun p => ⟨p.1, p.2.1, p.2.2.1, p.2.2.2.1, p.2.2.2.2.1, p.2.2.2.2.2.1, p.2.2.2.2.2.2⟩) (fun _ => rfl) Try.underlying76 (by kernel_rfl) (opensF_cons rfl (opens_int Try.underlying3 (by kernel_rfl)) rfl (opensF_cons rfl (opens_int Try.underlying3 (by kernel_rfl)) rfl (opensF_cons rfl (opens_int Try.underlying3 (by kernel_rfl)) rfl (opensF_cons rfl (opens_string Try.underlying9 (by kernel_rfl)) rfl (opensF_cons rfl open72 rfl (opensF_cons rfl open74 rfl (opensF_one rfl (opens_bool Try.underlying4 (by kernel_rfl)))))))))
abbrev kTop := (Kd.pair (Kd.slice 99 k99) (Kd.slice 76 k76))
set_option maxRecDepth 100000 in
theorem openTop : Opens Try.prog 66 kTop (fun p => ((p.1.length ≤ 9223372036854775807 ∧ p.1.length * 40 ≤ 140737488351232 ∧ ∀ e0 ∈ p.1, wf99 e0)) ∧ (p.2.length ≤ 9223372036854775807 ∧ p.2.length * 120 ≤ 140737488351232 ∧ ∀ e0 ∈ p.2, wf76 e0)) := (opens_fields Try.underlying66 (by kernel_rfl) (opensF_cons rfl (opens_fields Try.underlying47 (by kernel_rfl) (opensF_one rfl (opens_slice 99 (B := 40) Try.underlying45 (by kernel_rfl) (by kernel_rfl) open99))) rfl (opensF_one rfl (opens_slice 76 (B := 120) Try.underlying64 (by kernel_rfl) (by kernel_rfl) open76))))
def Pure : Prop := ∀ (l0_0 : (List S99)) (l0_1 : (List S76)), (l0_0.length ≤ 9223372036854775807 ∧ l0_0.length * 40 ≤ 140737488351232 ∧ ∀ e0 ∈ l0_0, wf99 e0) → (l0_1.length ≤ 9223372036854775807 ∧ l0_1.length * 120 ≤ 140737488351232 ∧ ∀ e0 ∈ l0_1, wf76 e0) → ∃ k, quorumlaw9_TablePurges.f k l0_0 l0_1 = some true
end Go.Proofs.Ytbaecdcfefmcgaa.OpTablePurges
