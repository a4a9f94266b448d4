/- TablePurged: the pure statement's proof: what is left of a table that may be may be, and has the same rows at each commit from then on. -/
import Derived.Test.YtoodkefpkgbjcaaOpTablePurged
import Derived.Test.YtoodkefpkgbjcaaHTable
import Derived.Test.YtoodkefpkgbjcaaPTbpx3
set_option linter.unusedSimpArgs false
set_option linter.unusedVariables false
set_option linter.unusedSectionVars false
namespace Go.Proofs.Ytoodkefpkgbjcaa.Pure
open Go.RowKit Go.Proofs.Ytoodkefpkgbjcaa.PTbp Go.Proofs.Ytoodkefpkgbjcaa.OpTablePurged Go.Proofs.Ytoodkefpkgbjcaa.HNum Go.Proofs.Ytoodkefpkgbjcaa.HChain Go.Proofs.Ytoodkefpkgbjcaa.HTable Go.Proofs.YtoodkefpkgbjcaaW.PrintWords Go.Proofs.YtoodkefpkgbjcaaW.PrintLast
abbrev Ac := S141
theorem wakes9_true : Ev (fun k => quorumlaw9_wakes.f k) true := by
  refine Ev.of quorumlaw9_wakes.mono (k := 40) ?_
  decide +kernel
theorem rda_at (l : List Ac) (j : Nat) (h : j < l.length) : rd_T141 l (j : Int) = l[j] := by simp [rd_T141, h]
section
variable (l : List Ch) (hl : l.length ≤ 10000000000000) (hv : ∀ c ∈ l, c.f1.length ≤ 10000000000000 ∧ c.f0.size ≤ 140737488351232 ∧ ∀ v ∈ c.f1, v.f1.size ≤ 140737488351232)
include hl hv
theorem weight_in (j : Nat) (hj : j < l.length) (p : Prop)
    (h : ∀ n : Int, 0 ≤ n → n ≤ 1000000000000000 → ∃ r, Ev (fun k => quorumlaw0_TableWeight.l0 k n ((j + 1 : Nat) : Int) l) r ∧ n ≤ r ∧ r ≤ 1000000000000000 ∧ (r ≤ 700 → p)) (d : Nat) :
    ∀ (i : Nat), i + d = (l[j]).f1.length → ∀ n : Int, 0 ≤ n → n ≤ 1000000000000000 → ∃ r, Ev (fun k => quorumlaw0_TableWeight.l1 k n (j : Int) (i : Int) l) r ∧ n ≤ r ∧ r ≤ 1000000000000000 ∧ (r ≤ 700 → p) := by
  have hb := hv l[j] (List.getElem_mem hj)
  induction d with
  | zero =>
    intro i hi n h0 h1
    obtain ⟨r, hr, h2⟩ := h n h0 h1
    refine ⟨r, Ev.step (fun k => by simp only [quorumlaw0_TableWeight.l1]; rfl) ?_, h2⟩
    rw [rdc_at l j hj, wrap_succ j (by omega)]
    exact Ev.if_pos (by omega) (Ev.if_pos (by omega) (Ev.if_neg (by omega) hr))
  | succ d ih =>
    intro i hi n h0 h1
    have hlt : i < (l[j]).f1.length := by omega
    have hs := hb.2.2 _ (List.getElem_mem hlt)
    by_cases hn : n < 1048576
    · have e : wrap64 (n + (wrap64 ((((rd_T39 (l[j].f1) (i : Int)).f1).size : Int) / 8))) = n + ((((l[j]).f1[i]).f1.size : Int) / 8) := by
        rw [rd_at _ i hlt]; unfold wrap64; omega
      obtain ⟨r, hr, h2, h3, h4⟩ := ih (i + 1) (by omega) (n + ((((l[j]).f1[i]).f1.size : Int) / 8)) (by omega) (by omega)
      refine ⟨r, Ev.step (fun k => by simp only [quorumlaw0_TableWeight.l1]; rfl) ?_, by omega, h3, h4⟩
      rw [rdc_at l j hj, wrap_succ i (by omega), e]
      exact Ev.if_pos (by omega) (Ev.if_pos (by omega) (Ev.if_pos (by omega) (Ev.if_pos hn (Ev.if_pos (by omega) hr))))
    · obtain ⟨r, hr, h2⟩ := h n h0 h1
      refine ⟨r, Ev.step (fun k => by simp only [quorumlaw0_TableWeight.l1]; rfl) ?_, h2⟩
      rw [rdc_at l j hj, wrap_succ j (by omega)]
      exact Ev.if_pos (by omega) (Ev.if_pos (by omega) (Ev.if_pos (by omega) (Ev.if_neg hn hr)))
theorem weight_from (d : Nat) : ∀ (j : Nat), j + d = l.length → ∀ n : Int, 0 ≤ n → n ≤ 1000000000000000 →
    ∃ r, Ev (fun k => quorumlaw0_TableWeight.l0 k n (j : Int) l) r ∧ n ≤ r ∧ r ≤ 1000000000000000 ∧ (r ≤ 700 → ∀ i (h : i < l.length), j ≤ i → (l[i]).f1.length ≤ 700) := by
  induction d with
  | zero =>
    intro j hj n h0 h1
    refine ⟨n, Ev.step (fun k => by simp only [quorumlaw0_TableWeight.l0]; rfl) (Ev.if_neg (by omega) ?_), Int.le_refl _, h1, fun _ i hi hji => by omega⟩
    refine Ev.step (fun k => by simp only [quorumlaw0_TableWeight.j1]; rfl) ?_
    exact Ev.if_neg (by simp) (Ev.now n)
  | succ d ih =>
    intro j hj n h0 h1
    have hlt : j < l.length := by omega
    have hb := hv l[j] (List.getElem_mem hlt)
    by_cases hn : n < 1048576
    · have e : wrap64 ((wrap64 (n + (((l[j]).f1).length : Int))) + (wrap64 ((((l[j]).f0).size : Int) / 8))) = n + (((l[j]).f1).length : Int) + ((((l[j]).f0).size : Int) / 8) := by unfold wrap64; omega
      obtain ⟨r, hr, h2, h3, h4⟩ := weight_in l hl hv j hlt _ (ih (j + 1) (by omega)) (l[j]).f1.length 0 (by omega) (n + (((l[j]).f1).length : Int) + ((((l[j]).f0).size : Int) / 8)) (by omega) (by omega)
      refine ⟨r, Ev.step (fun k => by simp only [quorumlaw0_TableWeight.l0]; rfl) (Ev.if_pos (by omega) ?_), by omega, h3, fun hr7 i hi hji => ?_⟩
      · refine Ev.step (fun k => by simp only [quorumlaw0_TableWeight.j1]; rfl) ?_
        rw [rdc_at l j hlt, e]
        exact Ev.if_pos (by simpa using hn) (Ev.if_pos (by omega) (Ev.if_pos (by omega) hr))
      · rcases Nat.eq_or_lt_of_le hji with rfl | h
        · omega
        · exact h4 hr7 i hi (by omega)
    · refine ⟨n, Ev.step (fun k => by simp only [quorumlaw0_TableWeight.l0]; rfl) (Ev.if_pos (by omega) ?_), Int.le_refl _, h1, fun h => by omega⟩
      refine Ev.step (fun k => by simp only [quorumlaw0_TableWeight.j1]; rfl) ?_
      exact Ev.if_neg (by simpa using hn) (Ev.now n)
theorem weight_ends : ∃ r, Ev (fun k => quorumlaw0_TableWeight.f k l) r ∧ (l.length : Int) ≤ r ∧ r ≤ 1000000000000000 ∧ (r ≤ 700 → ∀ c ∈ l, c.f1.length ≤ 700) := by
  obtain ⟨r, h1, h2, h3, h4⟩ := weight_from l hl hv l.length 0 (by omega) (l.length : Int) (by omega) (by omega)
  refine ⟨r, h1, h2, h3, fun h c hc => ?_⟩
  obtain ⟨i, hi, rfl⟩ := List.mem_iff_getElem.1 hc
  exact h4 h i hi (by omega)
end
def aOK (a : Ac) : Prop := a.f3.size ≤ 140737488351232 ∧ a.f4.f1.size ≤ 140737488351232 ∧ a.f5.f0.size ≤ 140737488351232 ∧ a.f5.f1.size ≤ 140737488351232
theorem wid (x : Int) (h0 : 0 ≤ x) (h1 : x ≤ 9223372036854775807) : wrap64 x = x := by unfold wrap64; omega
theorem heavy_from (T : List Ch) (A : List Ac) (hA : A.length ≤ 4611686018427387904) (ha : ∀ a ∈ A, aOK a) (d : Nat) : ∀ (j : Nat) (n : Int), j + d = A.length → 0 ≤ n →
    ∃ b, Ev (fun k => quorumlaw9_Heavy.l0 k n (j : Int) T A) b ∧ (b = false → n ≤ 700) := by
  induction d with
  | zero =>
    intro j n hj h0
    refine ⟨_, Ev.step (fun k => by simp only [quorumlaw9_Heavy.l0]; rfl) (Ev.if_neg (by omega) (Ev.now _)), fun h => ?_⟩
    have := of_decide_eq_false h
    omega
  | succ d ih =>
    intro j n hj h0
    have hlt : j < A.length := by omega
    have hb := ha A[j] (List.getElem_mem hlt)
    unfold aOK at hb
    by_cases hn : n < 1048576
    · generalize hq : wrap64 (Int.tdiv (wrap64 ((wrap64 ((wrap64 ((((A[j]).f3).size : Int) + (((A[j]).f4.f1).size : Int))) + (((A[j]).f5.f0).size : Int))) + (((A[j]).f5.f1).size : Int))) 8) = q
      have hq0 : 0 ≤ q ∧ q ≤ 1000000000000000 := by
        rw [wid ((((A[j]).f3).size : Int) + (((A[j]).f4.f1).size : Int)) (by omega) (by omega), wid ((((A[j]).f3).size : Int) + (((A[j]).f4.f1).size : Int) + (((A[j]).f5.f0).size : Int)) (by omega) (by omega),
          wid ((((A[j]).f3).size : Int) + (((A[j]).f4.f1).size : Int) + (((A[j]).f5.f0).size : Int) + (((A[j]).f5.f1).size : Int)) (by omega) (by omega), Int.tdiv_eq_ediv_of_nonneg (by omega)] at hq
        rw [wid _ (by omega) (by omega)] at hq
        omega
      obtain ⟨b, hbv, h2⟩ := ih (j + 1) (wrap64 (n + q)) (by omega) (by rw [wid (n + q) (by omega) (by omega)]; omega)
      refine ⟨b, Ev.step (fun k => by simp only [quorumlaw9_Heavy.l0]; rfl) (Ev.if_pos (by omega) (Ev.if_pos hn (Ev.if_pos (by omega) ?_))), fun h => ?_⟩
      · rw [rda_at A j hlt, wrap_succ j (by omega), hq]
        exact hbv
      · have h3 := h2 h
        rw [wid (n + q) (by omega) (by omega)] at h3
        omega
    · refine ⟨_, Ev.step (fun k => by simp only [quorumlaw9_Heavy.l0]; rfl) (Ev.if_pos (by omega) (Ev.if_neg hn (Ev.now _))), fun h => ?_⟩
      have := of_decide_eq_false h
      omega
section
variable (T : List Ch) (A : List Ac) (hl : T.length ≤ 700) (hv : ∀ c ∈ T, c.f1.length ≤ 700) (hok : TabOK T)
include hl hv hok
theorem inner (n : Nat) (hn : n ≤ 12) (h : Ev (fun k => quorumlaw9_TablePurged.l0 k ((n + 1 : Nat) : Int) T A) true) (d : Nat) : ∀ m : Nat, m + d = 14 → n ≤ m →
    Ev (fun k => quorumlaw9_TablePurged.l1 k (n : Int) (m : Int) T A (leftT T (n : Int))) true := by
  have hok2 := leftT_ok (n : Int) hok
  have hl2 := leftT_len T (n : Int)
  have hv2 : ∀ c ∈ leftT T (n : Int), c.f1.length ≤ 1000000 := fun c hc => by
    obtain ⟨c0, h0, rfl, _⟩ := leftT_mem hc
    have h1 := hv c0 h0
    have h2 := left_len c0.f1 (n : Int)
    show (left c0.f1 (n : Int)).length ≤ 1000000
    omega
  have hv1 : ∀ c ∈ T, c.f1.length ≤ 1000000 := fun c hc => by have := hv c hc; omega
  induction d with
  | zero =>
    intro m hm hnm
    refine Ev.step (fun k => by simp only [quorumlaw9_TablePurged.l1]; rfl) (Ev.if_neg (by omega) ?_)
    rw [wrap_succ n (by omega)]
    exact h
  | succ d ih =>
    intro m hm hnm
    refine Ev.step (fun k => by simp only [quorumlaw9_TablePurged.l1]; rfl) (Ev.if_pos (by omega) (Ev.bind (Map_ok T m (by omega) hv1 hok) (Ev.bind (Map_ok (leftT T n) m (by omega) hv2 hok2) ?_)))
    rw [wrap_succ m (by omega), rows_left T (show (n : Int) ≤ (m : Int) by omega)]
    have hr : (rowsT T m).length ≤ T.length := List.length_filterMap_le ..
    exact Ev.bind0 (show quorumlaw9_num.f 0 = some 0 from rfl) (Ev.if_pos rfl (Ev.bind0 (show quorumlaw9_num.f 0 = some 0 from rfl) (Ev.if_pos rfl (Ev.bind (EqRows_same (rowsT T m) (by omega)) (Ev.if_pos rfl (ih (m + 1) (by omega) (by omega)))))))
open Classical in
theorem outer (d : Nat) : ∀ n : Nat, n + d = 12 → Ev (fun k => quorumlaw9_TablePurged.l0 k (n : Int) T A) true := by
  have hv1 : ∀ c ∈ T, c.f1.length ≤ 1000000 := fun c hc => by have := hv c hc; omega
  induction d with
  | zero =>
    intro n hn
    refine Ev.step (fun k => by simp only [quorumlaw9_TablePurged.l0]; rfl) (Ev.if_neg (by omega) ?_)
    refine Ev.bind (a := false) ?_ (Ev.if_neg (by simp) (Ev.bind wakes9_true (Ev.now true)))
    exact Ev.of (fun k => quorumlaw8_Heavy.mono _ _ _ _ k) (k := 9) (by decide +kernel)
  | succ d ih =>
    intro n hn
    have hok2 := leftT_ok (n : Int) hok
    have hl2 := leftT_len T (n : Int)
    have hv2 : ∀ c ∈ leftT T (n : Int), c.f1.length ≤ 1000000 := fun c hc => by
      obtain ⟨c0, h0, rfl, _⟩ := leftT_mem hc
      have h1 := hv c0 h0
      have h2 := left_len c0.f1 (n : Int)
      show (left c0.f1 (n : Int)).length ≤ 1000000
      omega
    refine Ev.step (fun k => by simp only [quorumlaw9_TablePurged.l0]; rfl) (Ev.if_pos (by omega) (Ev.bind (Purge_ok T n (by omega) hv1 hok) (Ev.bind0 (show quorumlaw9_num.f 0 = some 0 from rfl) (Ev.if_pos rfl (Ev.bind (refTab_ev (leftT T n) (by omega) hv2) ?_)))))
    rw [decide_eq_true hok2]
    refine Ev.step (fun k => by simp only [quorumlaw9_TablePurged.j2]; rfl) (Ev.if_neg (by simp) ?_)
    exact inner T A hl hv hok n (by omega) (ih (n + 1) (by omega)) (14 - n) n (by omega) (Nat.le_refl _)
end
open Classical in
theorem TablePurged : OpTablePurged.Pure := by
  intro T A hT hA
  obtain ⟨r, hr, h1, h2, h3⟩ := weight_ends T (by have := hT.2.1; omega) (fun c hc => by
    have hw := hT.2.2 c hc
    exact ⟨by have := hw.2.2.1; omega, hw.1, fun v hv => (hw.2.2.2 v hv).2.1⟩)
  have hAl := hA.2.1
  have hwr : wrap64 (r + (A.length : Int)) = r + (A.length : Int) := by unfold wrap64; omega
  obtain ⟨b, hb, hbs⟩ := heavy_from T A (by omega) (fun a ha => by
    have hw := hA.2.2 a ha
    exact ⟨hw.2.2.2.1, hw.2.2.2.2.1.2.1, hw.2.2.2.2.2.1.1, hw.2.2.2.2.2.1.2.1⟩) A.length 0 (r + (A.length : Int)) (by omega) (by omega)
  refine Ev.rounds ?_
  unfold quorumlaw9_TablePurged.f
  have hh : Ev (fun k => quorumlaw9_Heavy.f k T A) b := by
    unfold quorumlaw9_Heavy.f
    refine Ev.bind hr ?_
    rw [hwr]
    exact hb
  refine Ev.bind hh ?_
  have hj : Ev (fun k => quorumlaw9_TablePurged.j0 k true T A) true := by
    refine Ev.step (fun k => by simp only [quorumlaw9_TablePurged.j0]; rfl) ?_
    exact Ev.if_pos trivial (Ev.now true)
  cases b with
  | true => exact Ev.if_pos rfl hj
  | false =>
    have hsm := hbs rfl
    have hl : T.length ≤ 700 := by omega
    have hv := h3 (by omega)
    refine Ev.if_neg (by simp) (Ev.bind (refTab_ev T (by omega) (fun c hc => by have := hv c hc; omega)) ?_)
    by_cases hok : TabOK T
    · rw [decide_eq_true hok]
      refine Ev.step (fun k => by simp only [quorumlaw9_TablePurged.j0]; rfl) ?_
      refine Ev.if_neg (by simp) ?_
      exact outer T A hl hv hok 12 0 (by omega)
    · rw [decide_eq_false hok]
      exact hj
end Go.Proofs.Ytoodkefpkgbjcaa.Pure
