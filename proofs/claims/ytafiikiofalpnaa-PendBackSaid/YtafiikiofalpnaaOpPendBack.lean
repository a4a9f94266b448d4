/- The pure statement of PendBack: what the printed function comes to, for every input within the reach; and that an argument of the law reads as such an input. -/
import Derived.Test.YtafiikiofalpnaaPPendx7
import Derived.Test.YtafiikiofalpnaaHOpen
namespace Go.Proofs.Ytafiikiofalpnaa.OpPendBack
open Go.RowKit Go.Proofs.Ytafiikiofalpnaa.HOpen Go.Proofs.Ytafiikiofalpnaa.PPend Go.Proofs.YtafiikiofalpnaaW.PrintWords Go.Proofs.YtafiikiofalpnaaW.PrintLast
set_option linter.unusedVariables false
def wf55 (x : S55) : Prop := (Lit.int .i64 x.f0).wf = true ∧ x.f1.size ≤ 140737488351232 ∧ x.f2.size ≤ 140737488351232 ∧ True
theorem open55 : Opens Try.prog 55 k55 wf55 := opens_struct (fun x : S55 => (x.f0, x.f1, x.f2, x.f3)) (fun p => ⟨p.1, p.2.1, p.2.2.1, p.2.2.2⟩) (fun _ => rfl) Try.underlying55 (by kernel_rfl) (opensF_cons rfl (opens_int Try.underlying3 (by kernel_rfl)) rfl (opensF_cons rfl (opens_string Try.underlying9 (by kernel_rfl)) rfl (opensF_cons rfl (opens_string Try.underlying9 (by kernel_rfl)) rfl (opensF_one rfl (opens_bool Try.underlying4 (by kernel_rfl))))))
def wf57 (x : S57) : Prop := (Lit.int .i64 x.f0).wf = true ∧ (Lit.int .i64 x.f1).wf = true ∧ wf55 x.f2
theorem open57 : Opens Try.prog 57 k57 wf57 := opens_struct (fun x : S57 => (x.f0, x.f1, x.f2)) (fun p => ⟨p.1, p.2.1, p.2.2⟩) (fun _ => rfl) Try.underlying57 (by kernel_rfl) (opensF_cons rfl (opens_int Try.underlying3 (by kernel_rfl)) rfl (opensF_cons rfl (opens_int Try.underlying3 (by kernel_rfl)) rfl (opensF_one rfl open55)))
abbrev kTop := (Kd.pair (Kd.pair (Kd.slice 55 k55) (Kd.slice 3 (Kd.int .i64))) (Kd.slice 57 k57))
set_option maxRecDepth 100000 in
theorem openTop : Opens Try.prog 47 kTop (fun p => ((p.1.1.length ≤ 9223372036854775807 ∧ p.1.1.length * 48 ≤ 140737488351232 ∧ ∀ e0 ∈ p.1.1, wf55 e0) ∧ (p.1.2.length ≤ 9223372036854775807 ∧ p.1.2.length * 8 ≤ 140737488351232 ∧ ∀ e0 ∈ p.1.2, (Lit.int .i64 e0).wf = true)) ∧ (p.2.length ≤ 9223372036854775807 ∧ p.2.length * 64 ≤ 140737488351232 ∧ ∀ e0 ∈ p.2, wf57 e0)) := (opens_fields Try.underlying47 (by kernel_rfl) (opensF_cons rfl (opens_fields Try.underlying44 (by kernel_rfl) (opensF_cons rfl (opens_slice 55 (B := 48) Try.underlying42 (by kernel_rfl) (by kernel_rfl) open55) rfl (opensF_one rfl (opens_slice 3 (B := 8) Try.underlying24 (by kernel_rfl) (by kernel_rfl) (opens_int Try.underlying3 (by kernel_rfl)))))) rfl (opensF_one rfl (opens_slice 57 (B := 64) Try.underlying45 (by kernel_rfl) (by kernel_rfl) open57))))
def Pure : Prop := ∀ (l0_0 : (List S55)) (l0_1 : (List Int)) (l0_2 : (List S57)), (l0_0.length ≤ 9223372036854775807 ∧ l0_0.length * 48 ≤ 140737488351232 ∧ ∀ e0 ∈ l0_0, wf55 e0) → (l0_1.length ≤ 9223372036854775807 ∧ l0_1.length * 8 ≤ 140737488351232 ∧ ∀ e0 ∈ l0_1, (Lit.int .i64 e0).wf = true) → (l0_2.length ≤ 9223372036854775807 ∧ l0_2.length * 64 ≤ 140737488351232 ∧ ∀ e0 ∈ l0_2, wf57 e0) → ∃ k, quorumlaw10_PendBack.f k l0_0 l0_1 l0_2 = some true
end Go.Proofs.Ytafiikiofalpnaa.OpPendBack
