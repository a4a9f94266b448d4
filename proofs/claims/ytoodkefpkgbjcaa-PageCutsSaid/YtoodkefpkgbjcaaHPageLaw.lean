/- What the acts on a page come to in the statements of layer 5: each call tells what the page says. -/
import Derived.Test.YtoodkefpkgbjcaaPPgbx12
import Derived.Test.YtoodkefpkgbjcaaPPgbx11
import Derived.Test.YtoodkefpkgbjcaaHPageRef
import Derived.Test.YtoodkefpkgbjcaaHPageEnd
set_option linter.unusedSimpArgs false
set_option linter.unusedVariables false
namespace Go.Proofs.Ytoodkefpkgbjcaa.HPage
open Go.RowKit Go.Proofs.Ytoodkefpkgbjcaa.PPgb Go.Proofs.Ytoodkefpkgbjcaa.HNum Go.Proofs.YtoodkefpkgbjcaaW.PrintWords Go.Proofs.YtoodkefpkgbjcaaW.PrintLast
theorem spoiln_from (d : Nat) : ∀ (F : List Int) (j : Nat), j + d = F.length → F.length ≤ 17592186044416 → ∃ r, Ev (fun k => quorumlaw0_Page.nl0 k F (j : Int)) r := by
  induction d with
  | zero => intro F j hj hF; exact ⟨F, Ev.step (fun k => by simp only [quorumlaw0_Page.nl0]; rfl) (Ev.if_neg (by omega) (Ev.now _))⟩
  | succ d ih =>
    intro F j hj hF
    obtain ⟨r, hr⟩ := ih (F.set ((j : Int)).toNat (-99)) (j + 1) (by rw [List.length_set]; omega) (by rw [List.length_set]; omega)
    refine ⟨r, Ev.step (fun k => by simp only [quorumlaw0_Page.nl0]; rfl) (Ev.if_pos (by omega) (Ev.if_pos (by omega) ?_))⟩
    rw [wrap_succ j (by omega)]
    exact hr
theorem spoils_from (F : List Int) (hF : F.length ≤ 17592186044416) (d : Nat) : ∀ (S : List Bs) (j : Nat), j + d = S.length → S.length ≤ 17592186044416 → ∃ r, Ev (fun k => quorumlaw0_Page.l0 k (j : Int) S F) r := by
  induction d with
  | zero =>
    intro S j hj hS
    obtain ⟨r, hr⟩ := spoiln_from F.length F 0 (by omega) hF
    exact ⟨(S, r), Ev.step (fun k => by simp only [quorumlaw0_Page.l0]; rfl) (Ev.if_neg (by omega) (Ev.bind (a := r) (by simpa [quorumlaw0_Page.nf] using hr) (Ev.now _)))⟩
  | succ d ih =>
    intro S j hj hS
    obtain ⟨r, hr⟩ := ih (S.set ((j : Int)).toNat (⟨#[115, 112, 111, 105, 108, 116]⟩ : ByteArray)) (j + 1) (by rw [List.length_set]; omega) (by rw [List.length_set]; omega)
    refine ⟨r, Ev.step (fun k => by simp only [quorumlaw0_Page.l0]; rfl) (Ev.if_pos (by omega) (Ev.if_pos (by omega) ?_))⟩
    rw [wrap_succ j (by omega)]
    exact hr
theorem spoil_ev (S : List Bs) (F : List Int) (hw : Wf S F) : ∃ r, Ev (fun k => quorumlaw0_Page.f k S F) r := by
  have := hw.ls
  have := hw.lf
  obtain ⟨r, hr⟩ := spoils_from F (by omega) S.length S 0 (by omega) (by omega)
  exact ⟨r, by simpa [quorumlaw0_Page.f] using hr⟩
theorem within9 (a : Int) : ∃ t, quorumlaw0_Within.f a 9 = some t := by
  unfold quorumlaw0_Within.f
  rw [if_neg (by decide)]
  exact ⟨_, rfl⟩
theorem wf_nil : Wf [] [] := ⟨by simp, by simp, fun s hs => by cases hs⟩

section
variable (S : List Bs) (F : List Int)
open Classical in
theorem told (hw : Wf S F) (bad n : Int) (X : List Bs) (XF : List Int) (hx : Wf X XF) : ∃ r : List Bs × List Int, Wf r.1 r.2 ∧ Ev (fun k => quorumlaw5_step.j3 k (decide (May S F)) bad n n bad S F S F X XF X XF) (r.1, r.2, true) := by
  obtain ⟨q, hq⟩ := spoil_ev X XF hx
  have := hw.ls
  have := hw.lf
  have := hx.ls
  have := hx.lf
  have e1 : Ev (fun k => quorumref0_EqPage.f k X XF X XF) true := eq_same X XF (by omega) (by omega)
  have e2 : Ev (fun k => quorumref0_EqPage.f k S F S F) true := eq_same S F (by omega) (by omega)
  have hc := Check_ev S F hw
  have hb : (((if May S F then (0 : Int) else 1) == 0) != decide (May S F)) = false := by by_cases h : May S F <;> simp [h]
  have start : ∀ r : List Bs × List Int, Ev (fun k => if bad = 0 then ((quorumref0_CopyPage.f k X XF).bind fun bt => (some (bt.1, bt.2, true))) else (some (S, F, true))) (r.1, r.2, true) → Ev (fun k => quorumlaw5_step.j3 k (decide (May S F)) bad n n bad S F S F X XF X XF) (r.1, r.2, true) := fun r h => by
    refine Ev.step (fun k => by simp only [quorumlaw5_step.j3]; rfl) ?_
    refine Ev.bind0 (num_eq _) ?_
    refine Ev.if_pos (by first | rfl | trivial) ?_
    refine Ev.bind e1 ?_
    refine Ev.if_pos rfl ?_
    refine Ev.if_pos (by first | rfl | trivial) ?_
    refine Ev.bind e2 ?_
    refine Ev.if_pos rfl ?_
    refine Ev.bind hc ?_
    refine Ev.bind0 (num_eq _) ?_
    rw [hb]
    refine Ev.step (fun k => by simp only [quorumlaw5_step.j4]; rfl) ?_
    refine Ev.if_neg (by simp) ?_
    refine Ev.bind hq ?_
    refine Ev.bind e2 ?_
    refine Ev.if_pos rfl ?_
    exact h
  by_cases h0 : bad = 0
  · refine ⟨(X, XF), hx, start (X, XF) ?_⟩
    refine Ev.if_pos h0 ?_
    refine Ev.bind (copy_ev X XF hx) ?_
    exact Ev.now _
  · exact ⟨(S, F), hw, start (S, F) (Ev.if_neg h0 (Ev.now _))⟩
theorem wf_set (hw : Wf S F) (n : Nat) (s : Bs) (hs : s.size ≤ 140737488351232) : Wf (S.set n s) F := ⟨by rw [List.length_set]; exact hw.ls, hw.lf, bd_set hw.b hs⟩
theorem wf_trim (n : Nat) : ∀ (S : List Bs) (F : List Int), Wf S F → Wf (trim n S F).1 (trim n S F).2 := by
  induction n with
  | zero => intro S F h; exact h
  | succ n ih =>
    intro S F h
    unfold trim
    split
    · exact ih _ _ ⟨by rw [List.length_take]; have := h.ls; omega, by rw [List.length_take]; have := h.lf; omega, bd_take h.b _⟩
    · exact h
theorem may_short (hm : May S F) : F.length ≤ 16 := by
  have hsort := free_sorted hm.free
  have h16 := hm.few
  rcases Nat.lt_or_ge 16 F.length with h | h
  · exfalso
    have key : ∀ i (h : i < F.length), (i : Int) ≤ F[i] := fun i => by
      induction i with
      | zero => intro h; exact (free_range hm.free _ (List.getElem_mem h)).1
      | succ i ih => intro h; have h1 := ih (by omega); have h2 := hsort i (i + 1) (by omega) h (by omega); omega
    have h1 := key 16 h
    have h2 := (free_range hm.free _ (List.getElem_mem h)).2
    omega
  · exact h
open Classical in
theorem wf_add (hw : Wf S F) (s : Bs) (hs : s.size ≤ 140737488351232) : Wf (addRes S F s).1 (addRes S F s).2.1 := by
  unfold addRes
  by_cases hm : May S F
  · rw [if_pos hm]
    split
    · have h16 := hm.few
      have hF := may_short S F hm
      cases F with
      | nil => exact ⟨by simp [addTo]; omega, by simp [addTo], bd_snoc hw.b hs⟩
      | cons f F' => exact ⟨by simp [addTo]; omega, by simp [addTo] at hF ⊢; omega, bd_set hw.b hs⟩
    · exact wf_nil
  · rw [if_neg hm]; exact wf_nil
open Classical in
theorem wf_setRes (hw : Wf S F) (n : Int) (s : Bs) (hs : s.size ≤ 140737488351232) : Wf (setRes S F n s).1 (setRes S F n s).2.1 := by
  unfold setRes
  split
  · split
    · split
      · exact wf_set S F hw _ s hs
      · exact wf_nil
    · exact wf_nil
  · exact wf_nil
open Classical in
theorem wf_cut (hw : Wf S F) (n : Int) : Wf (cutRes S F n).1 (cutRes S F n).2.1 := by
  unfold cutRes
  by_cases hm : May S F
  · rw [if_pos hm]
    split
    · have hF := may_short S F hm
      refine wf_trim _ _ _ ⟨by rw [List.length_set]; exact hw.ls, by rw [ins_len]; omega, bd_set hw.b (by decide)⟩
    · exact wf_nil
  · rw [if_neg hm]; exact wf_nil
open Classical in
theorem step_ev (hw : Wf S F) (a n : Int) (s : Bs) (hs : s.size ≤ 140737488351232) : ∃ r : List Bs × List Int, Wf r.1 r.2 ∧ Ev (fun k => quorumlaw5_step.f k S F a n s) (r.1, r.2, true) := by
  have hl := hw.ls
  have hf := hw.lf
  obtain ⟨t, ht⟩ := within9 a
  -- Add
  obtain ⟨ra, hra, hea⟩ := told S F hw (addRes S F s).2.2.2 (addRes S F s).2.2.1 _ _ (wf_add S F hw s hs)
  obtain ⟨rs, hrs, hes⟩ := told S F hw (setRes S F n s).2.2 0 _ _ (wf_setRes S F hw n s hs)
  obtain ⟨rc, hrc, hec⟩ := told S F hw (cutRes S F n).2.2 0 _ _ (wf_cut S F hw n)
  have hget : ∃ b, Ev (fun k => quorumlaw5_step.j1 k (decide (May S F)) 1 0 0 8 false S F a n s S F) (S, F, b) ∧ b = true := by
    refine ⟨true, ?_, rfl⟩
    have e2 : Ev (fun k => quorumref0_EqPage.f k S F S F) true := eq_same S F (by omega) (by omega)
    have hj2 : ∀ (bad : Int) (x y : Bs) (e c : Int), x.toList = y.toList → Ev (fun k => quorumlaw5_step.j2 k bad x bad c e y e c S F S F) (S, F, true) := fun bad x y e c hxy => by
      refine Ev.step (fun k => by simp only [quorumlaw5_step.j2]; rfl) ?_
      refine Ev.bind0 (num_eq _) ?_
      refine Ev.if_pos (by first | rfl | trivial) ?_
      refine Ev.if_pos hxy ?_
      refine Ev.bind0 (num_eq _) ?_
      refine Ev.if_pos (by first | rfl | trivial) ?_
      refine Ev.if_pos (by first | rfl | trivial) ?_
      exact Ev.bind e2 (Ev.now _)
    refine Ev.step (fun k => by simp only [quorumlaw5_step.j1]; rfl) (Ev.if_neg (by simp) (Ev.if_pos (by first | rfl | trivial) (Ev.bind (Get_ev S F n hw) (Ev.bind (Bytes_ev S F hw) ?_))))
    unfold getRes
    by_cases hm : May S F
    · rw [if_pos hm, if_pos hm, decide_eq_true hm]
      refine Ev.if_pos (by first | rfl | trivial) (Ev.bind (bytes_ev S F (by have := hm.few; omega) hw.b) (Ev.bind (there_ev S F n hw) ?_))
      by_cases hth : There S F n
      · rw [if_pos hth, decide_eq_true hth]
        exact Ev.if_pos (by first | rfl | trivial) (Ev.if_pos hth.1 (Ev.if_pos hth.2.1 (hj2 0 _ _ 0 _ rfl)))
      · rw [if_neg hth, decide_eq_false hth]
        exact Ev.if_neg (by simp) (hj2 3 _ _ 0 _ rfl)
    · rw [if_neg hm, if_neg hm, decide_eq_false hm]
      exact Ev.if_neg (by simp) (hj2 1 _ _ 1 0 rfl)
  -- a call that tells the same as the reference, or the error where it may not be
  have hbad : ¬ May S F → (addRes S F s) = ([], [], 0, 1) ∧ setRes S F n s = ([], [], 1) ∧ cutRes S F n = ([], [], 1) := fun h => ⟨by simp [addRes, h], by simp [setRes, h], by simp [cutRes, h]⟩
  have hj0 : ∀ b t, (b = false → t ≠ 4 ∧ t ≠ 5) → ∃ r : List Bs × List Int, Wf r.1 r.2 ∧ Ev (fun k => quorumlaw5_step.j0 k (decide (May S F)) 1 0 0 t b S F a n s S F) (r.1, r.2, true) := fun b t hb => by
    cases b with
    | true =>
      refine ⟨rs, hrs, Ev.step (fun k => by simp only [quorumlaw5_step.j0]; rfl) (Ev.if_pos (by first | rfl | trivial) (Ev.bind (Set_ev S F n s hw hs) ?_))⟩
      by_cases hm : May S F
      · rw [decide_eq_true hm] at hes ⊢
        exact Ev.if_pos (by first | rfl | trivial) (Ev.bind (refSet_ev S F n s hw hm hs) hes)
      · rw [decide_eq_false hm] at hes ⊢
        rw [(hbad hm).2.1] at hes ⊢
        exact Ev.if_neg (by simp) hes
    | false =>
      have hj1 : ∀ b2, (b2 = false → t ≠ 6 ∧ t ≠ 7) → ∃ r : List Bs × List Int, Wf r.1 r.2 ∧ Ev (fun k => quorumlaw5_step.j1 k (decide (May S F)) 1 0 0 t b2 S F a n s S F) (r.1, r.2, true) := fun b2 hb2 => by
        cases b2 with
        | true =>
          refine ⟨rc, hrc, Ev.step (fun k => by simp only [quorumlaw5_step.j1]; rfl) (Ev.if_pos (by first | rfl | trivial) (Ev.bind (Cut_ev S F n hw) ?_))⟩
          by_cases hm : May S F
          · rw [decide_eq_true hm] at hec ⊢
            exact Ev.if_pos (by first | rfl | trivial) (Ev.bind (refCut_ev S F n hw hm) hec)
          · rw [decide_eq_false hm] at hec ⊢
            rw [(hbad hm).2.2] at hec ⊢
            exact Ev.if_neg (by simp) hec
        | false =>
          by_cases h8 : t = 8
          · subst h8
            obtain ⟨b3, h3, e3⟩ := hget
            subst e3
            exact ⟨(S, F), hw, h3⟩
          · refine ⟨ra, hra, Ev.step (fun k => by simp only [quorumlaw5_step.j1]; rfl) (Ev.if_neg (by simp) (Ev.if_neg h8 (Ev.bind (Add_ev S F s hw hs) ?_)))⟩
            by_cases hm : May S F
            · rw [decide_eq_true hm] at hea ⊢
              exact Ev.if_pos (by first | rfl | trivial) (Ev.bind (refAdd_ev S F s hm hs) hea)
            · rw [decide_eq_false hm] at hea ⊢
              rw [(hbad hm).1] at hea ⊢
              exact Ev.if_neg (by simp) hea
      by_cases h6 : t = 6
      · obtain ⟨r, h1, h2⟩ := hj1 (t == 6) (fun h => by simp [h6] at h)
        exact ⟨r, h1, Ev.step (fun k => by simp only [quorumlaw5_step.j0]; rfl) (Ev.if_neg (by simp) (Ev.if_pos h6 h2))⟩
      · obtain ⟨r, h1, h2⟩ := hj1 (t == 7) (fun h => ⟨h6, by simpa using h⟩)
        exact ⟨r, h1, Ev.step (fun k => by simp only [quorumlaw5_step.j0]; rfl) (Ev.if_neg (by simp) (Ev.if_neg h6 h2))⟩
  unfold quorumlaw5_step.f
  by_cases h4 : t = 4
  · obtain ⟨r, h1, h2⟩ := hj0 (t == 4) t (fun h => by simp [h4] at h)
    exact ⟨r, h1, Ev.bind (copy_ev S F hw) (Ev.bind (refpage_ev S F hw.b (by omega)) (Ev.bind0 ht (Ev.if_pos h4 h2)))⟩
  · obtain ⟨r, h1, h2⟩ := hj0 (t == 5) t (fun h => ⟨h4, by simpa using h⟩)
    exact ⟨r, h1, Ev.bind (copy_ev S F hw) (Ev.bind (refpage_ev S F hw.b (by omega)) (Ev.bind0 ht (Ev.if_neg h4 h2)))⟩
end
end Go.Proofs.Ytoodkefpkgbjcaa.HPage
