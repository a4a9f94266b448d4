/- The pure statement of TablePurged: what the printed function comes to, for every input within the reach; and that an argument of the law reads as such an input. -/
import Derived.Test.YtoodkefpkgbjcaaPTbpx11
import Derived.Test.YtoodkefpkgbjcaaHOpen
namespace Go.Proofs.Ytoodkefpkgbjcaa.OpTablePurged
open Go.RowKit Go.Proofs.Ytoodkefpkgbjcaa.HOpen Go.Proofs.Ytoodkefpkgbjcaa.PTbp Go.Proofs.YtoodkefpkgbjcaaW.PrintWords Go.Proofs.YtoodkefpkgbjcaaW.PrintLast
set_option linter.unusedVariables false
def wf39 (x : S39) : Prop := (Lit.int .i64 x.f0).wf = true ∧ x.f1.size ≤ 140737488351232 ∧ True
theorem open39 : Opens Try.prog 39 k39 wf39 := opens_struct (fun x : S39 => (x.f0, x.f1, x.f2)) (fun p => ⟨p.1, p.2.1, p.2.2⟩) (fun _ => rfl) Try.underlying39 (by kernel_rfl) (opensF_cons rfl (opens_int Try.underlying3 (by kernel_rfl)) rfl (opensF_cons rfl (opens_string Try.underlying9 (by kernel_rfl)) rfl (opensF_one rfl (opens_bool Try.underlying4 (by kernel_rfl)))))
def wf30 (x : S30) : Prop := x.f0.size ≤ 140737488351232 ∧ (x.f1.length ≤ 9223372036854775807 ∧ x.f1.length * 32 ≤ 140737488351232 ∧ ∀ e0 ∈ x.f1, wf39 e0)
theorem open30 : Opens Try.prog 30 k30 wf30 := opens_struct (fun x : S30 => (x.f0, x.f1)) (fun p => ⟨p.1, p.2⟩) (fun _ => rfl) Try.underlying30 (by kernel_rfl) (opensF_cons rfl (opens_string Try.underlying9 (by kernel_rfl)) rfl (opensF_one rfl (opens_slice 39 (B := 32) Try.underlying23 (by kernel_rfl) (by kernel_rfl) open39)))
def wf139 (x : S139) : Prop := x.f0.size ≤ 140737488351232 ∧ x.f1.size ≤ 140737488351232 ∧ True
theorem open139 : Opens Try.prog 139 k139 wf139 := opens_struct (fun x : S139 => (x.f0, x.f1, x.f2)) (fun p => ⟨p.1, p.2.1, p.2.2⟩) (fun _ => rfl) Try.underlying139 (by kernel_rfl) (opensF_cons rfl (opens_string Try.underlying9 (by kernel_rfl)) rfl (opensF_cons rfl (opens_string Try.underlying9 (by kernel_rfl)) rfl (opensF_one rfl (opens_bool Try.underlying4 (by kernel_rfl)))))
def wf141 (x : S141) : Prop := (Lit.int .i64 x.f0).wf = true ∧ (Lit.int .i64 x.f1).wf = true ∧ (Lit.int .i64 x.f2).wf = true ∧ x.f3.size ≤ 140737488351232 ∧ wf39 x.f4 ∧ wf139 x.f5 ∧ True
theorem open141 : Opens Try.prog 141 k141 wf141 := opens_struct (fun x : S141 => (x.f0, x.f1, x.f2, x.f3, x.f4, x.f5, x.f6)) (fun p => ⟨p.1, p.2.1, p.2.2.1, p.2.2.2.1, p.2.2.2.2.1, p.2.2.2.2.2.1, p.2.2.2.2.2.2⟩) (fun _ => rfl) Try.underlying141 (by kernel_rfl) (opensF_cons rfl (opens_int Try.underlying3 (by kernel_rfl)) rfl (opensF_cons rfl (opens_int Try.underlying3 (by kernel_rfl)) rfl (opensF_cons rfl (opens_int Try.underlying3 (by kernel_rfl)) rfl (opensF_cons rfl (opens_string Try.underlying9 (by kernel_rfl)) rfl (opensF_cons rfl open39 rfl (opensF_cons rfl open139 rfl (opensF_one rfl (opens_bool Try.underlying4 (by kernel_rfl)))))))))
abbrev kTop := (Kd.pair (Kd.slice 30 k30) (Kd.slice 141 k141))
set_option maxRecDepth 100000 in
theorem openTop : Opens Try.prog 82 kTop (fun p => ((p.1.length ≤ 9223372036854775807 ∧ p.1.length * 40 ≤ 140737488351232 ∧ ∀ e0 ∈ p.1, wf30 e0)) ∧ (p.2.length ≤ 9223372036854775807 ∧ p.2.length * 120 ≤ 140737488351232 ∧ ∀ e0 ∈ p.2, wf141 e0)) := (opens_fields Try.underlying82 (by kernel_rfl) (opensF_cons rfl (opens_fields Try.underlying79 (by kernel_rfl) (opensF_one rfl (opens_slice 30 (B := 40) Try.underlying22 (by kernel_rfl) (by kernel_rfl) open30))) rfl (opensF_one rfl (opens_slice 141 (B := 120) Try.underlying80 (by kernel_rfl) (by kernel_rfl) open141))))
def Pure : Prop := ∀ (l0_0 : (List S30)) (l0_1 : (List S141)), (l0_0.length ≤ 9223372036854775807 ∧ l0_0.length * 40 ≤ 140737488351232 ∧ ∀ e0 ∈ l0_0, wf30 e0) → (l0_1.length ≤ 9223372036854775807 ∧ l0_1.length * 120 ≤ 140737488351232 ∧ ∀ e0 ∈ l0_1, wf141 e0) → ∃ k, quorumlaw9_TablePurged.f k l0_0 l0_1 = some true
end Go.Proofs.Ytoodkefpkgbjcaa.OpTablePurged
