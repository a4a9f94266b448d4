/- How much the arguments of chain's laws weigh: the count ends, whatever comes. -/
import Derived.Test.YtoodkefpkgbjcaaPChtx2
import Derived.Test.YtoodkefpkgbjcaaHNum
set_option linter.unusedSimpArgs false
set_option linter.unusedVariables false
namespace Go.Proofs.Ytoodkefpkgbjcaa.HChainHeavy
open Go.RowKit Go.Proofs.Ytoodkefpkgbjcaa.PCht Go.Proofs.Ytoodkefpkgbjcaa.HNum Go.Proofs.YtoodkefpkgbjcaaW.PrintWords Go.Proofs.YtoodkefpkgbjcaaW.PrintLast
abbrev V := S39
abbrev Ch := S30
theorem rdc_at (l : List Ch) (j : Nat) (h : j < l.length) : rd_T30 l (j : Int) = l[j] := by simp [rd_T30, h]

theorem weight_in (l : List Ch) (hl : l.length ≤ 4611686018427387904) (hv : ∀ c ∈ l, c.f1.length ≤ 4611686018427387904) (j : Nat) (hj : j < l.length)
    (h : ∀ n : Int, ∃ r, Ev (fun k => quorumlaw0_TableWeight.l0 k n ((j + 1 : Nat) : Int) l) r) (d : Nat) : ∀ (i : Nat), i + d = (l[j]).f1.length → ∀ n : Int, ∃ r, Ev (fun k => quorumlaw0_TableWeight.l1 k n (j : Int) (i : Int) l) r := by
  have hb := hv l[j] (List.getElem_mem hj)
  induction d with
  | zero =>
    intro i hi n
    obtain ⟨r, hr⟩ := h n
    refine ⟨r, Ev.step (fun k => by simp only [quorumlaw0_TableWeight.l1]; rfl) ?_⟩
    rw [rdc_at l j hj, wrap_succ j (by omega)]
    exact Ev.if_pos (by omega) (Ev.if_pos (by omega) (Ev.if_neg (by omega) hr))
  | succ d ih =>
    intro i hi n
    by_cases hn : n < 1048576
    · obtain ⟨r, hr⟩ := ih (i + 1) (by omega) (wrap64 (n + (wrap64 ((((rd_T39 (l[j].f1) (i : Int)).f1).size : Int) / 8))))
      refine ⟨r, Ev.step (fun k => by simp only [quorumlaw0_TableWeight.l1]; rfl) ?_⟩
      rw [rdc_at l j hj, wrap_succ i (by omega)]
      exact Ev.if_pos (by omega) (Ev.if_pos (by omega) (Ev.if_pos (by omega) (Ev.if_pos hn (Ev.if_pos (by omega) hr))))
    · obtain ⟨r, hr⟩ := h n
      refine ⟨r, Ev.step (fun k => by simp only [quorumlaw0_TableWeight.l1]; rfl) ?_⟩
      rw [rdc_at l j hj, wrap_succ j (by omega)]
      exact Ev.if_pos (by omega) (Ev.if_pos (by omega) (Ev.if_pos (by omega) (Ev.if_neg hn hr)))
theorem weight_from (l : List Ch) (hl : l.length ≤ 4611686018427387904) (hv : ∀ c ∈ l, c.f1.length ≤ 4611686018427387904) (d : Nat) : ∀ (j : Nat), j + d = l.length → ∀ n : Int, ∃ r, Ev (fun k => quorumlaw0_TableWeight.l0 k n (j : Int) l) r := by
  induction d with
  | zero =>
    intro j hj n
    refine ⟨n, Ev.step (fun k => by simp only [quorumlaw0_TableWeight.l0]; rfl) (Ev.if_neg (by omega) ?_)⟩
    refine Ev.step (fun k => by simp only [quorumlaw0_TableWeight.j1]; rfl) ?_
    exact Ev.if_neg (by simp) (Ev.now n)
  | succ d ih =>
    intro j hj n
    have hlt : j < l.length := by omega
    by_cases hn : n < 1048576
    · obtain ⟨r, hr⟩ := weight_in l hl hv j hlt (ih (j + 1) (by omega)) (l[j]).f1.length 0 (by omega) (wrap64 ((wrap64 (n + (((l[j]).f1).length : Int))) + (wrap64 ((((l[j]).f0).size : Int) / 8))))
      refine ⟨r, Ev.step (fun k => by simp only [quorumlaw0_TableWeight.l0]; rfl) (Ev.if_pos (by omega) ?_)⟩
      refine Ev.step (fun k => by simp only [quorumlaw0_TableWeight.j1]; rfl) ?_
      rw [rdc_at l j hlt]
      exact Ev.if_pos (by simpa using hn) (Ev.if_pos (by omega) (Ev.if_pos (by omega) hr))
    · refine ⟨n, Ev.step (fun k => by simp only [quorumlaw0_TableWeight.l0]; rfl) (Ev.if_pos (by omega) ?_)⟩
      refine Ev.step (fun k => by simp only [quorumlaw0_TableWeight.j1]; rfl) ?_
      exact Ev.if_neg (by simpa using hn) (Ev.now n)
theorem weight_ends (l : List Ch) (hl : l.length ≤ 4611686018427387904) (hv : ∀ c ∈ l, c.f1.length ≤ 4611686018427387904) : ∃ r, Ev (fun k => quorumlaw0_TableWeight.f k l) r := weight_from l hl hv l.length 0 (by omega) (l.length : Int)
theorem texts_from (l : List ByteArray) (hl : l.length ≤ 4611686018427387904) (d : Nat) : ∀ (j : Nat), j + d = l.length → ∀ n : Int, ∃ r, Ev (fun k => quorumlaw0_Texts.l0 k l n (j : Int)) r := by
  induction d with
  | zero =>
    intro j hj n
    exact ⟨n, Ev.step (fun k => by simp only [quorumlaw0_Texts.l0]; rfl) (Ev.if_neg (by omega) (Ev.now n))⟩
  | succ d ih =>
    intro j hj n
    by_cases hn : n < 1048576
    · obtain ⟨r, hr⟩ := ih (j + 1) (by omega) (wrap64 (n + ((rdOf ByteArray.empty l (j : Int)).size : Int)))
      refine ⟨r, Ev.step (fun k => by simp only [quorumlaw0_Texts.l0]; rfl) ?_⟩
      rw [wrap_succ j (by omega)]
      exact Ev.if_pos (by omega) (Ev.if_pos hn (Ev.if_pos (by omega) hr))
    · exact ⟨n, Ev.step (fun k => by simp only [quorumlaw0_Texts.l0]; rfl) (Ev.if_pos (by omega) (Ev.if_neg hn (Ev.now n)))⟩
theorem heavy_ends (c : List Ch) (v : List V) (n : List Int) (s : List ByteArray) (hc : c.length ≤ 4611686018427387904) (hv : ∀ x ∈ c, x.f1.length ≤ 4611686018427387904) (hs : s.length ≤ 4611686018427387904) : ∃ b, Ev (fun k => quorumlaw8_Heavy.f k c v n s) b := by
  obtain ⟨r1, h1⟩ := weight_ends c hc hv
  obtain ⟨r2, h2⟩ : ∃ r, Ev (fun k => quorumlaw0_Texts.f k s) r := texts_from s hs s.length 0 (by omega) (s.length : Int)
  unfold quorumlaw8_Heavy.f
  by_cases c1 : r1 > 800
  · exact ⟨true, Ev.bind h1 (Ev.if_pos c1 (Ev.now true))⟩
  by_cases c2 : (v.length : Int) > 100
  · exact ⟨true, Ev.bind h1 (Ev.if_neg c1 (Ev.if_pos c2 (Ev.now true)))⟩
  by_cases c3 : (n.length : Int) > 100
  · exact ⟨true, Ev.bind h1 (Ev.if_neg c1 (Ev.if_neg c2 (Ev.if_pos c3 (Ev.now true))))⟩
  by_cases c4 : r2 > 900
  · exact ⟨true, Ev.bind h1 (Ev.if_neg c1 (Ev.if_neg c2 (Ev.if_neg c3 (Ev.bind h2 (Ev.if_pos c4 (Ev.now true))))))⟩
  obtain ⟨r3, h3⟩ := weight_ends [(⟨(⟨#[]⟩ : ByteArray), v⟩ : Ch)] (by simp) (fun x hx => by
    obtain rfl := List.mem_singleton.1 hx
    show v.length ≤ _
    omega)
  exact ⟨_, Ev.bind h1 (Ev.if_neg c1 (Ev.if_neg c2 (Ev.if_neg c3 (Ev.bind h2 (Ev.if_neg c4 (Ev.bind h3 (Ev.now _)))))))⟩
end Go.Proofs.Ytoodkefpkgbjcaa.HChainHeavy
