/- The ends of the statements of layer 5: what they weigh is told, and the first record is there. -/
import Derived.Test.YtoodkefpkgbjcaaHPageDo
set_option linter.unusedSimpArgs false
set_option linter.unusedVariables false
namespace Go.Proofs.Ytoodkefpkgbjcaa.HPage
open Go.RowKit Go.Proofs.Ytoodkefpkgbjcaa.PPgb Go.Proofs.Ytoodkefpkgbjcaa.HNum Go.Proofs.YtoodkefpkgbjcaaW.PrintWords Go.Proofs.YtoodkefpkgbjcaaW.PrintLast
theorem texts_from (l : List Bs) (hl : l.length ≤ 4611686018427387904) (d : Nat) : ∀ (j : Nat) (acc : Int), j + d = l.length → ∃ r, Ev (fun k => quorumlaw0_Texts.l0 k l acc (j : Int)) r := by
  have stop : ∀ (acc j : Int), Ev (fun k => quorumlaw0_Texts.j1 k l acc j false) acc := fun acc j => Ev.step (fun k => by simp only [quorumlaw0_Texts.j1]; rfl) (Ev.if_neg (by simp) (Ev.now _))
  induction d with
  | zero => intro j acc hj; exact ⟨acc, Ev.step (fun k => by simp only [quorumlaw0_Texts.l0]; rfl) (Ev.if_neg (by omega) (stop _ _))⟩
  | succ d ih =>
    intro j acc hj
    by_cases h : acc < 1048576
    · obtain ⟨r, hr⟩ := ih (j + 1) (wrap64 (acc + ((rdOf ByteArray.empty l (j : Int)).size : Int))) (by omega)
      refine ⟨r, Ev.step (fun k => by simp only [quorumlaw0_Texts.l0]; rfl) (Ev.if_pos (by omega) ?_)⟩
      rw [decide_eq_true h]
      refine Ev.step (fun k => by simp only [quorumlaw0_Texts.j1]; rfl) (Ev.if_pos (by trivial) (Ev.if_pos (by omega) (Ev.if_pos (by omega) ?_)))
      rw [wrap_succ j (by omega)]
      exact hr
    · refine ⟨acc, Ev.step (fun k => by simp only [quorumlaw0_Texts.l0]; rfl) (Ev.if_pos (by omega) ?_)⟩
      rw [decide_eq_false h]
      exact stop _ _
theorem heavy_from (S : List Bs) (F : List Int) (A : List S64) (hA : A.length ≤ 4611686018427387904) (d : Nat) : ∀ (j : Nat) (acc : Int), j + d = A.length → ∃ r, Ev (fun k => quorumlaw5_Heavy.l0 k acc (j : Int) S F A) r := by
  have stop : ∀ (acc j : Int), Ev (fun k => quorumlaw5_Heavy.j1 k acc j false S F A) (decide (acc > 2500)) := fun acc j => Ev.step (fun k => by simp only [quorumlaw5_Heavy.j1]; rfl) (Ev.if_neg (by simp) (Ev.now _))
  induction d with
  | zero => intro j acc hj; exact ⟨_, Ev.step (fun k => by simp only [quorumlaw5_Heavy.l0]; rfl) (Ev.if_neg (by omega) (stop _ _))⟩
  | succ d ih =>
    intro j acc hj
    by_cases h : acc < 1048576
    · obtain ⟨r, hr⟩ := ih (j + 1) (wrap64 (acc + (((rd_T64 A (j : Int)).f2).size : Int))) (by omega)
      refine ⟨r, Ev.step (fun k => by simp only [quorumlaw5_Heavy.l0]; rfl) (Ev.if_pos (by omega) ?_)⟩
      rw [decide_eq_true h]
      refine Ev.step (fun k => by simp only [quorumlaw5_Heavy.j1]; rfl) (Ev.if_pos (by trivial) (Ev.if_pos (by omega) (Ev.if_pos (by omega) ?_)))
      rw [wrap_succ j (by omega)]
      exact hr
    · refine ⟨decide (acc > 2500), Ev.step (fun k => by simp only [quorumlaw5_Heavy.l0]; rfl) (Ev.if_pos (by omega) ?_)⟩
      rw [decide_eq_false h]
      exact stop _ _
theorem heavy_ends (S : List Bs) (F : List Int) (A : List S64) (hS : S.length ≤ 4611686018427387904) (hA : A.length ≤ 4611686018427387904) : ∃ b, Ev (fun k => quorumlaw5_Heavy.f k S F A) b := by
  obtain ⟨t, ht⟩ := texts_from S hS S.length 0 (S.length : Int) (by omega)
  obtain ⟨b, hb⟩ := heavy_from S F A hA A.length 0 (wrap64 ((wrap64 (t + (F.length : Int))) + (A.length : Int))) (by omega)
  exact ⟨b, Ev.bind (a := t) (by simpa [quorumlaw0_Texts.f] using ht) (by simpa using hb)⟩
theorem may_nil : May [] [] := ⟨by simp, by simp [sz], fun i hi => by simp at hi⟩
open Classical in
theorem wakes_true : Ev (fun k => quorumlaw5_wakes.f k) true := by
  have hw : Wf [] [] := ⟨by simp, by simp, fun s hs => by cases hs⟩
  have e : addRes [] [] (⟨#[97, 98]⟩ : ByteArray) = ([(⟨#[97, 98]⟩ : ByteArray)], [], 0, 0) := by
    unfold addRes
    rw [if_pos may_nil]
    have hf : fits (addTo [] [] (⟨#[97, 98]⟩ : ByteArray)).1 := ⟨by decide, by decide⟩
    rw [if_pos hf]; rfl
  have hm : May [(⟨#[97, 98]⟩ : ByteArray)] [] := ⟨by decide, by decide, fun i hi => by simp at hi⟩
  have hw2 : Wf [(⟨#[97, 98]⟩ : ByteArray)] [] := ⟨by decide, by decide, fun s hs => by rw [List.mem_singleton.1 hs]; decide⟩
  have ht : There [(⟨#[97, 98]⟩ : ByteArray)] [] 0 := ⟨by decide, by decide, by simp⟩
  have g : getRes [(⟨#[97, 98]⟩ : ByteArray)] [] 0 = ((⟨#[97, 98]⟩ : ByteArray), 0) := by
    unfold getRes
    rw [if_pos hm, if_pos ht]; rfl
  have h1 := Add_ev [] [] (⟨#[97, 98]⟩ : ByteArray) hw (by decide)
  rw [e] at h1
  have h2 := Get_ev [(⟨#[97, 98]⟩ : ByteArray)] [] 0 hw2
  rw [g] at h2
  unfold quorumlaw5_wakes.f
  refine Ev.bind h1 (Ev.bind h2 (Ev.bind0 (num_eq _) (Ev.if_pos (by trivial) (Ev.bind0 (num_eq _) (Ev.if_pos (by trivial) (Ev.if_pos ?_ (Ev.if_pos (by trivial) ?_)))))))
  · simp [ByteArray.toList_eq]
  · exact Ev.now _
end Go.Proofs.Ytoodkefpkgbjcaa.HPage
