import Derived.Test.YtbaecdcfefmcgaaPTbex19
import Derived.Test.YtbaecdcfefmcgaaHTabLaws
set_option linter.unusedSimpArgs false
set_option linter.unusedVariables false
set_option linter.unusedSectionVars false
namespace Go.Proofs.Ytbaecdcfefmcgaa.HTable
open Go.RowKit Go.Proofs.Ytbaecdcfefmcgaa.PTbe Go.Proofs.Ytbaecdcfefmcgaa.HNum Go.Proofs.Ytbaecdcfefmcgaa.HChain Go.Proofs.YtbaecdcfefmcgaaW.PrintWords Go.Proofs.YtbaecdcfefmcgaaW.PrintLast
section
variable (P : List Ch) (A : List Act)
theorem only_from (K : List Int) (hK : 0 < K.length) (hP : TbIn P) (hl : A.length ≤ 1172812402960) (ha : ∀ a ∈ A, ActIn a) (d : Nat) : ∀ (i : Nat) (B : List Act), i + d = A.length → B.length = i → (∀ a ∈ B, ActIn a) → Ev (fun k => quorumlaw9_only.l0 k K (i : Int) P A P B) true := by
 induction d with
 | zero =>
  intro i B hi hB hb
  refine Ev.step (fun k => by simp only [quorumlaw9_only.l0]; rfl) ?_
  refine Ev.if_neg (by omega) ?_
  exact Ev.bind (exact_ev P B hP (by omega) hb) (Ev.now _)
 | succ d ih =>
  intro i B hi hB hb
  have hlt : i < A.length := by omega
  have hai := ha A[i] (List.getElem_mem hlt)
  refine Ev.step (fun k => by simp only [quorumlaw9_only.l0]; rfl) ?_
  refine Ev.if_pos (by omega) ?_
  refine Ev.if_pos (by omega) ?_
  refine Ev.if_neg (by omega) ?_
  refine Ev.if_pos (Int.tmod_nonneg _ (by omega)) ?_
  refine Ev.if_pos (Int.tmod_lt_of_pos _ (by omega)) ?_
  refine Ev.if_pos (by omega) ?_
  rw [wrap_succ i (by omega), rda_at A i hlt]
  refine ih (i + 1) _ (by omega) (by simp [hB]) (fun a h => ?_)
  rcases List.mem_append.1 h with h | h
  ·exact hb a h
  ·rw [List.mem_singleton.1 h]
   exact ⟨hai.k, hai.v, hai.lo, hai.hi⟩
theorem only_ev (K : List Int) (hK : 0 < K.length) (hP : TbIn P) (hl : A.length ≤ 1172812402960) (ha : ∀ a ∈ A, ActIn a) : Ev (fun k => quorumlaw9_only.f k P A K) true := by
 unfold quorumlaw9_only.f
 exact only_from P A K hK hP hl ha A.length 0 [] (by omega) rfl (fun a h => absurd h (by simp))
end
end Go.Proofs.Ytbaecdcfefmcgaa.HTable
