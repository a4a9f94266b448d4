/- The pure statement of PendExact: what the printed function comes to, for every input within the reach; and that an argument of the law reads as such an input. -/
import Derived.Test.YtbaecdcfefmcgaaPPndx11
import Derived.Test.YtbaecdcfefmcgaaHOpen
namespace Go.Proofs.Ytbaecdcfefmcgaa.OpPendExact
open Go.RowKit Go.Proofs.Ytbaecdcfefmcgaa.HOpen Go.Proofs.Ytbaecdcfefmcgaa.PPnd Go.Proofs.YtbaecdcfefmcgaaW.PrintWords Go.Proofs.YtbaecdcfefmcgaaW.PrintLast
set_option linter.unusedVariables false
def wf36 (x : S36) : Prop := (Lit.int .i64 x.f0).wf = true ∧ x.f1.size ≤ 140737488351232 ∧ x.f2.size ≤ 140737488351232 ∧ True
theorem open36 : Opens Try.prog 36 k36 wf36 := opens_struct (fun x : S36 => (x.f0, x.f1, x.f2, x.f3)) (fun p => ⟨p.1, p.2.1, p.2.2.1, p.2.2.2⟩) (fun _ => rfl) Try.underlying36 (by kernel_rfl) (opensF_cons rfl (opens_int Try.underlying3 (by kernel_rfl)) rfl (opensF_cons rfl (opens_string Try.underlying9 (by kernel_rfl)) rfl (opensF_cons rfl (opens_string Try.underlying9 (by kernel_rfl)) rfl (opensF_one rfl (opens_bool Try.underlying4 (by kernel_rfl))))))
def wf62 (x : S62) : Prop := (Lit.int .i64 x.f0).wf = true ∧ (Lit.int .i64 x.f1).wf = true ∧ wf36 x.f2
theorem open62 : Opens Try.prog 62 k62 wf62 := opens_struct (fun x : S62 => (x.f0, x.f1, x.f2)) (fun p => ⟨p.1, p.2.1, p.2.2⟩) (fun _ => rfl) Try.underlying62 (by kernel_rfl) (opensF_cons rfl (opens_int Try.underlying3 (by kernel_rfl)) rfl (opensF_cons rfl (opens_int Try.underlying3 (by kernel_rfl)) rfl (opensF_one rfl open36)))
abbrev kTop := (Kd.pair (Kd.pair (Kd.slice 36 k36) (Kd.slice 3 (Kd.int .i64))) (Kd.slice 62 k62))
set_option maxRecDepth 100000 in
theorem openTop : Opens Try.prog 56 kTop (fun p => ((p.1.1.length ≤ 9223372036854775807 ∧ p.1.1.length * 48 ≤ 140737488351232 ∧ ∀ e0 ∈ p.1.1, wf36 e0) ∧ (p.1.2.length ≤ 9223372036854775807 ∧ p.1.2.length * 8 ≤ 140737488351232 ∧ ∀ e0 ∈ p.1.2, (Lit.int .i64 e0).wf = true)) ∧ (p.2.length ≤ 9223372036854775807 ∧ p.2.length * 64 ≤ 140737488351232 ∧ ∀ e0 ∈ p.2, wf62 e0)) := (opens_fields Try.underlying56 (by kernel_rfl) (opensF_cons rfl (opens_fields Try.underlying34 (by kernel_rfl) (opensF_cons rfl (opens_slice 36 (B := 48) Try.underlying32 (by kernel_rfl) (by kernel_rfl) open36) rfl (opensF_one rfl (opens_slice 3 (B := 8) Try.underlying24 (by kernel_rfl) (by kernel_rfl) (opens_int Try.underlying3 (by kernel_rfl)))))) rfl (opensF_one rfl (opens_slice 62 (B := 64) Try.underlying54 (by kernel_rfl) (by kernel_rfl) open62))))
def Pure : Prop := ∀ (l0_0 : (List S36)) (l0_1 : (List Int)) (l0_2 : (List S62)), (l0_0.length ≤ 9223372036854775807 ∧ l0_0.length * 48 ≤ 140737488351232 ∧ ∀ e0 ∈ l0_0, wf36 e0) → (l0_1.length ≤ 9223372036854775807 ∧ l0_1.length * 8 ≤ 140737488351232 ∧ ∀ e0 ∈ l0_1, (Lit.int .i64 e0).wf = true) → (l0_2.length ≤ 9223372036854775807 ∧ l0_2.length * 64 ≤ 140737488351232 ∧ ∀ e0 ∈ l0_2, wf62 e0) → ∃ k, quorumlaw10_PendExact.f k l0_0 l0_1 l0_2 = some true
end Go.Proofs.Ytbaecdcfefmcgaa.OpPendExact
