/- The pure statement of PageExact: what the printed function comes to, for every input within the reach; and that an argument of the law reads as such an input. -/
import Derived.Test.YtoodkefpkgbjcaaPPgbx13
import Derived.Test.YtoodkefpkgbjcaaHOpen
namespace Go.Proofs.Ytoodkefpkgbjcaa.OpPageExact
open Go.RowKit Go.Proofs.Ytoodkefpkgbjcaa.HOpen Go.Proofs.Ytoodkefpkgbjcaa.PPgb Go.Proofs.YtoodkefpkgbjcaaW.PrintWords Go.Proofs.YtoodkefpkgbjcaaW.PrintLast
set_option linter.unusedVariables false
def wf64 (x : S64) : Prop := (Lit.int .i64 x.f0).wf = true ∧ (Lit.int .i64 x.f1).wf = true ∧ x.f2.size ≤ 140737488351232
theorem open64 : Opens Try.prog 64 k64 wf64 := opens_struct (fun x : S64 => (x.f0, x.f1, x.f2)) (fun p => ⟨p.1, p.2.1, p.2.2⟩) (fun _ => rfl) Try.underlying64 (by kernel_rfl) (opensF_cons rfl (opens_int Try.underlying3 (by kernel_rfl)) rfl (opensF_cons rfl (opens_int Try.underlying3 (by kernel_rfl)) rfl (opensF_one rfl (opens_string Try.underlying9 (by kernel_rfl)))))
abbrev kTop := (Kd.pair (Kd.pair (Kd.slice 9 Kd.string) (Kd.slice 3 (Kd.int .i64))) (Kd.slice 64 k64))
set_option maxRecDepth 100000 in
theorem openTop : Opens Try.prog 59 kTop (fun p => ((p.1.1.length ≤ 9223372036854775807 ∧ p.1.1.length * 16 ≤ 140737488351232 ∧ ∀ e0 ∈ p.1.1, e0.size ≤ 140737488351232) ∧ (p.1.2.length ≤ 9223372036854775807 ∧ p.1.2.length * 8 ≤ 140737488351232 ∧ ∀ e0 ∈ p.1.2, (Lit.int .i64 e0).wf = true)) ∧ (p.2.length ≤ 9223372036854775807 ∧ p.2.length * 32 ≤ 140737488351232 ∧ ∀ e0 ∈ p.2, wf64 e0)) := (opens_fields Try.underlying59 (by kernel_rfl) (opensF_cons rfl (opens_fields Try.underlying56 (by kernel_rfl) (opensF_cons rfl (opens_slice 9 (B := 16) Try.underlying25 (by kernel_rfl) (by kernel_rfl) (opens_string Try.underlying9 (by kernel_rfl))) rfl (opensF_one rfl (opens_slice 3 (B := 8) Try.underlying24 (by kernel_rfl) (by kernel_rfl) (opens_int Try.underlying3 (by kernel_rfl)))))) rfl (opensF_one rfl (opens_slice 64 (B := 32) Try.underlying57 (by kernel_rfl) (by kernel_rfl) open64))))
def Pure : Prop := ∀ (l0_0 : (List ByteArray)) (l0_1 : (List Int)) (l0_2 : (List S64)), (l0_0.length ≤ 9223372036854775807 ∧ l0_0.length * 16 ≤ 140737488351232 ∧ ∀ e0 ∈ l0_0, e0.size ≤ 140737488351232) → (l0_1.length ≤ 9223372036854775807 ∧ l0_1.length * 8 ≤ 140737488351232 ∧ ∀ e0 ∈ l0_1, (Lit.int .i64 e0).wf = true) → (l0_2.length ≤ 9223372036854775807 ∧ l0_2.length * 32 ≤ 140737488351232 ∧ ∀ e0 ∈ l0_2, wf64 e0) → ∃ k, quorumlaw5_PageExact.f k l0_0 l0_1 l0_2 = some true
end Go.Proofs.Ytoodkefpkgbjcaa.OpPageExact
