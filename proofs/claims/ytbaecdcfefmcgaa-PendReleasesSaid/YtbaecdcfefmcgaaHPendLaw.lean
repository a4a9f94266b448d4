/- What the acts on what is pending come to in the statements of layer 10: each call tells what the page says. -/
import Derived.Test.YtbaecdcfefmcgaaPPndx9
import Derived.Test.YtbaecdcfefmcgaaPPndx9
import Derived.Test.YtbaecdcfefmcgaaHPendSum
set_option linter.unusedSimpArgs false
set_option linter.unusedVariables false
set_option linter.unusedSectionVars false
namespace Go.Proofs.Ytbaecdcfefmcgaa.HPend
open Go.RowKit Go.Proofs.Ytbaecdcfefmcgaa.PPnd Go.Proofs.Ytbaecdcfefmcgaa.HNum Go.Proofs.YtbaecdcfefmcgaaW.PrintWords Go.Proofs.YtbaecdcfefmcgaaW.PrintLast
open Go.Proofs.Ytbaecdcfefmcgaa.HAll (allOf okT mem_all)
structure Wf (l : List Wr) (m : List Int) : Prop where
  ll : l.length ≤ 2932031007317
  lm : m.length ≤ 17592186043904
theorem wf_nil : Wf [] [] := ⟨by simp, by simp⟩
theorem wf_may {l : List Wr} {m : List Int} (h : May l m) : Wf l m := ⟨by have := h.few; omega, by have := h.marks; omega⟩
theorem CopyWrites_wf (l : List Wr) (hl : l.length ≤ 2932031007317) : Ev (fun k => quorumref0_CopyWrites.f k l) l := by
  have key : ∀ d j : Nat, j + d = l.length → Ev (fun k => quorumref0_CopyWrites.l0 k l (l.take j) (j : Int)) l := by
    intro d
    induction d with
    | zero =>
      intro j hj
      refine Ev.step (fun k => by simp only [quorumref0_CopyWrites.l0]; rfl) (Ev.if_neg (by omega) (Ev.const ?_))
      rw [List.take_of_length_le (by omega)]
    | succ d ih =>
      intro j hj
      have hlt : j < l.length := by omega
      refine Ev.step (fun k => by simp only [quorumref0_CopyWrites.l0]; rfl) ?_
      refine Ev.if_pos (by omega) ?_
      refine Ev.if_pos (by omega) ?_
      refine Ev.if_pos (by rw [List.length_take]; omega) ?_
      rw [wrap_succ j (by omega), rdw_at l j hlt, show l.take j ++ [(⟨l[j].f0, l[j].f1, l[j].f2, l[j].f3⟩ : Wr)] = l.take (j + 1) from (List.take_succ_eq_append_getElem hlt).symm]
      exact ih (j + 1) (by omega)
  unfold quorumref0_CopyWrites.f
  exact key l.length 0 (by omega)
theorem CopyNumbers_wf (l : List Int) (hl : l.length ≤ 17592186043904) : Ev (fun k => quorumref0_CopyNumbers.f k l) l := by
  have key : ∀ d j : Nat, j + d = l.length → Ev (fun k => quorumref0_CopyNumbers.l0 k l (l.take j) (j : Int)) l := by
    intro d
    induction d with
    | zero =>
      intro j hj
      refine Ev.step (fun k => by simp only [quorumref0_CopyNumbers.l0]; rfl) (Ev.if_neg (by omega) (Ev.const ?_))
      rw [List.take_of_length_le (by omega)]
    | succ d ih =>
      intro j hj
      have hlt : j < l.length := by omega
      refine Ev.step (fun k => by simp only [quorumref0_CopyNumbers.l0]; rfl) ?_
      refine Ev.if_pos (by omega) ?_
      refine Ev.if_pos (by omega) ?_
      refine Ev.if_pos (by rw [List.length_take]; omega) ?_
      rw [wrap_succ j (by omega), rdn_at l j hlt, ← List.take_succ_eq_append_getElem hlt]
      exact ih (j + 1) (by omega)
  unfold quorumref0_CopyNumbers.f
  exact key l.length 0 (by omega)
theorem copy_ev (l : List Wr) (m : List Int) (hw : Wf l m) : Ev (fun k => quorumref0_CopyPend.f k l m) (l, m) := by
  unfold quorumref0_CopyPend.f
  exact Ev.bind (CopyWrites_wf l hw.ll) (Ev.bind (CopyNumbers_wf m hw.lm) (Ev.now _))
theorem spoilw_from (d : Nat) : ∀ (F : List Wr) (j : Nat), j + d = F.length → F.length ≤ 17592186044416 → ∃ r, Ev (fun k => quorumlaw0_Writes.l0 k F (j : Int)) r := by
  induction d with
  | zero => intro F j hj hF; exact ⟨F, Ev.step (fun k => by simp only [quorumlaw0_Writes.l0]; rfl) (Ev.if_neg (by omega) (Ev.now _))⟩
  | succ d ih =>
    intro F j hj hF
    obtain ⟨r, hr⟩ := ih (F.set ((j : Int)).toNat (⟨(-9), (⟨#[]⟩ : ByteArray), (⟨#[]⟩ : ByteArray), false⟩ : Wr)) (j + 1) (by rw [List.length_set]; omega) (by rw [List.length_set]; omega)
    refine ⟨r, Ev.step (fun k => by simp only [quorumlaw0_Writes.l0]; rfl) (Ev.if_pos (by omega) (Ev.if_pos (by omega) ?_))⟩
    rw [wrap_succ j (by omega)]
    exact hr
theorem spoiln_from (d : Nat) : ∀ (F : List Int) (j : Nat), j + d = F.length → F.length ≤ 17592186044416 → ∃ r, Ev (fun k => quorumlaw0_Numbers.l0 k F (j : Int)) r := by
  induction d with
  | zero => intro F j hj hF; exact ⟨F, Ev.step (fun k => by simp only [quorumlaw0_Numbers.l0]; rfl) (Ev.if_neg (by omega) (Ev.now _))⟩
  | succ d ih =>
    intro F j hj hF
    obtain ⟨r, hr⟩ := ih (F.set ((j : Int)).toNat (-99)) (j + 1) (by rw [List.length_set]; omega) (by rw [List.length_set]; omega)
    refine ⟨r, Ev.step (fun k => by simp only [quorumlaw0_Numbers.l0]; rfl) (Ev.if_pos (by omega) (Ev.if_pos (by omega) ?_))⟩
    rw [wrap_succ j (by omega)]
    exact hr
theorem spoil_ev (l : List Wr) (m : List Int) (hw : Wf l m) : ∃ r, Ev (fun k => quorumlaw0_Pend.f k l m) r := by
  have := hw.ll
  have := hw.lm
  obtain ⟨r1, h1⟩ := spoilw_from l.length l 0 (by omega) (by omega)
  obtain ⟨r2, h2⟩ := spoiln_from m.length m 0 (by omega) (by omega)
  exact ⟨(r1, r2), by unfold quorumlaw0_Pend.f; exact Ev.bind h1 (Ev.bind h2 (Ev.now _))⟩
theorem Num_eq (a b : Int) : quorumref0_Num.f a b = some (decide (0 ≤ a ∧ a ≤ b)) := by
  unfold quorumref0_Num.f
  by_cases h : a ≥ 0
  · rw [if_pos h]; simp [h]
  · rw [if_neg h]; congr 1; symm; rw [decide_eq_false_iff_not]; omega
theorem within10 (a : Int) : ∃ t, quorumlaw0_Within.f a 10 = some t := by
  unfold quorumlaw0_Within.f
  rw [if_neg (by decide)]
  exact ⟨_, rfl⟩

section
variable (l : List Wr) (m : List Int)
open Classical in
theorem check_ev : Ev (fun k => pend_Check.f k l m) (if May l m then 0 else 1) := by
  unfold pend_Check.f
  refine Ev.bind (May_ev l m) ?_
  by_cases h : May l m
  · rw [if_pos h]; exact Ev.if_pos (by simpa using h) (Ev.now _)
  · rw [if_neg h]; exact Ev.if_neg (by simpa using h) (Ev.now _)
theorem same_ev (hw : Wf l m) : Ev (fun k => quorumref0_EqPend.f k l m l m) true := EqPend_same l m (by have := hw.ll; omega) (by have := hw.lm; omega)
open Classical in
theorem told (hw : Wf l m) (bad n due : Int) (hn : n = due) (X : List Wr) (XM : List Int) (hx : Wf X XM) : ∃ r : List Wr × List Int, Wf r.1 r.2 ∧ Ev (fun k => quorumlaw10_step.j5 k (decide (May l m)) bad n due bad l m l m X XM X XM) (r.1, r.2, true) := by
  subst hn
  obtain ⟨q, hq⟩ := spoil_ev X XM hx
  have e1 := same_ev X XM hx
  have e2 := same_ev l m hw
  have hc := check_ev l m
  have hb : (((if May l m then (0 : Int) else 1) == 0) != decide (May l m)) = false := by by_cases h : May l m <;> simp [h]
  have start : ∀ r : List Wr × List Int, Ev (fun k => if bad = 0 then ((quorumref0_CopyPend.f k X XM).bind fun bt => (some (bt.1, bt.2, true))) else (some (l, m, true))) (r.1, r.2, true) → Ev (fun k => quorumlaw10_step.j5 k (decide (May l m)) bad n n bad l m l m X XM X XM) (r.1, r.2, true) := fun r h => by
    refine Ev.step (fun k => by simp only [quorumlaw10_step.j5]; rfl) ?_
    refine Ev.bind0 (num_eq _) ?_
    refine Ev.if_pos (by first | rfl | trivial) ?_
    refine Ev.bind e1 ?_
    refine Ev.if_pos rfl ?_
    refine Ev.if_pos (by first | rfl | trivial) ?_
    refine Ev.bind e2 ?_
    refine Ev.if_pos rfl ?_
    refine Ev.bind hc ?_
    refine Ev.bind0 (num_eq _) ?_
    rw [hb]
    refine Ev.step (fun k => by simp only [quorumlaw10_step.j6]; rfl) ?_
    refine Ev.if_neg (by simp) ?_
    refine Ev.bind hq ?_
    refine Ev.bind e2 ?_
    refine Ev.if_pos rfl ?_
    exact h
  by_cases h0 : bad = 0
  · refine ⟨(X, XM), hx, start (X, XM) ?_⟩
    refine Ev.if_pos h0 ?_
    refine Ev.bind (copy_ev X XM hx) ?_
    exact Ev.now _
  · exact ⟨(l, m), hw, start (l, m) (Ev.if_neg h0 (Ev.now _))⟩
/-! what the reference tells -/
theorem refSave_ev (hm : May l m) : Ev (fun k => quorumref8_Save.f k l m) (if 6 ≤ m.length then ([], [], 2) else (l, m ++ [(l.length : Int)], 0)) := by
  unfold quorumref8_Save.f
  refine Ev.bind (copy_ev l m (wf_may hm)) ?_
  have := hm.marks
  by_cases h : 6 ≤ m.length
  · rw [if_pos h]
    exact Ev.if_pos (by show (m.length : Int) ≥ 6; omega) (Ev.now _)
  · rw [if_neg h]
    exact Ev.if_neg (by show ¬ (m.length : Int) ≥ 6; omega) (Ev.if_pos (by show m.length < _; omega) (Ev.now _))
open Classical in
theorem ret_ev (n : Int) : ∃ x xm bad, Wf x xm ∧ Ev (fun k => pend_Return.f k l m n) (x, xm, bad) ∧ (May l m → Ev (fun k => quorumref8_Return.f k l m n) (x, xm, bad)) ∧ (¬ May l m → x = [] ∧ xm = [] ∧ bad = 1) := by
  by_cases hm : May l m
  · have h6 := hm.marks
    have h12 := hm.few
    have href : ∀ r, Ev (fun k => if decide (0 ≤ n ∧ n ≤ wrap64 ((m.length : Int) - 1)) = true then (if 0 ≤ n then (if n < (m.length : Int) then (if 0 ≤ (rd m n) then (if (rd m n) ≤ (l.length : Int) then (if 0 ≤ (wrap64 (n + 1)) then (if (wrap64 (n + 1)) ≤ (m.length : Int) then (some ((l.take ((rd m n) : Int).toNat), (m.take ((wrap64 (n + 1)) : Int).toNat), 0)) else (none)) else (none)) else (none)) else (none)) else (none)) else (none)) else (some (([] : List Wr), ([] : List Int), 7))) r → Ev (fun k => quorumref8_Return.f k l m n) r := fun r h => by
      unfold quorumref8_Return.f
      exact Ev.bind (copy_ev l m (wf_may hm)) (Ev.bind0 (Num_eq _ _) h)
    have hwr : wrap64 ((m.length : Int) - 1) = (m.length : Int) - 1 := by unfold wrap64; omega
    rw [hwr] at href
    by_cases hn : 0 ≤ n ∧ n < m.length
    · obtain ⟨j, rfl⟩ : ∃ j : Nat, n = j := ⟨n.toNat, by omega⟩
      have hj : j < m.length := by omega
      have hl := hm.lie j hj (Nat.zero_le _)
      refine ⟨l.take (m[j]).toNat, m.take (j + 1), 0, ⟨by rw [List.length_take]; omega, by rw [List.length_take]; omega⟩, Return_ev l m j hm hj, fun _ => href _ ?_, fun h => absurd hm h⟩
      rw [rdn_at m j hj, wrap_succ j (by omega)]
      refine Ev.if_pos (by rw [decide_eq_true_eq]; omega) ?_
      refine Ev.if_pos (by omega) ?_
      refine Ev.if_pos (by omega) ?_
      refine Ev.if_pos (by omega) ?_
      refine Ev.if_pos (by omega) ?_
      refine Ev.if_pos (by omega) ?_
      refine Ev.if_pos (by omega) ?_
      exact Ev.now _
    · refine ⟨[], [], 7, wf_nil, ?_, fun _ => href _ (Ev.if_neg (by rw [decide_eq_true_eq]; omega) (Ev.now _)), fun h => absurd hm h⟩
      have h := Return_no l m n (fun h => hn h.2)
      rwa [if_pos hm] at h
  · refine ⟨[], [], 1, wf_nil, ?_, fun h => absurd h hm, fun _ => ⟨rfl, rfl, rfl⟩⟩
    have h := Return_no l m n (fun h => hm h.1)
    rwa [if_neg hm] at h
open Classical in
theorem rel_ev (n : Int) : ∃ x xm bad, Wf x xm ∧ Ev (fun k => pend_Release.f k l m n) (x, xm, bad) ∧ (May l m → Ev (fun k => quorumref8_Release.f k l m n) (x, xm, bad)) ∧ (¬ May l m → x = [] ∧ xm = [] ∧ bad = 1) := by
  by_cases hm : May l m
  · have h6 := hm.marks
    have h12 := hm.few
    have href : ∀ r, Ev (fun k => if decide (0 ≤ n ∧ n ≤ wrap64 ((m.length : Int) - 1)) = true then (if 0 ≤ n then (if n ≤ (m.length : Int) then (some (l, (m.take (n : Int).toNat), 0)) else (none)) else (none)) else (some (([] : List Wr), ([] : List Int), 7))) r → Ev (fun k => quorumref8_Release.f k l m n) r := fun r h => by
      unfold quorumref8_Release.f
      exact Ev.bind (copy_ev l m (wf_may hm)) (Ev.bind0 (Num_eq _ _) h)
    have hwr : wrap64 ((m.length : Int) - 1) = (m.length : Int) - 1 := by unfold wrap64; omega
    rw [hwr] at href
    by_cases hn : 0 ≤ n ∧ n < m.length
    · obtain ⟨j, rfl⟩ : ∃ j : Nat, n = j := ⟨n.toNat, by omega⟩
      have hj : j < m.length := by omega
      refine ⟨l, m.take j, 0, ⟨by omega, by rw [List.length_take]; omega⟩, Release_ev l m j hm hj, fun _ => href _ ?_, fun h => absurd hm h⟩
      refine Ev.if_pos (by rw [decide_eq_true_eq]; omega) ?_
      refine Ev.if_pos (by omega) ?_
      refine Ev.if_pos (by omega) ?_
      exact Ev.now _
    · refine ⟨[], [], 7, wf_nil, ?_, fun _ => href _ (Ev.if_neg (by rw [decide_eq_true_eq]; omega) (Ev.now _)), fun h => absurd hm h⟩
      have h := Release_no l m n (fun h => hn h.2)
      rwa [if_pos hm] at h
  · refine ⟨[], [], 1, wf_nil, ?_, fun h => absurd h hm, fun _ => ⟨rfl, rfl, rfl⟩⟩
    have h := Release_no l m n (fun h => hm h.1)
    rwa [if_neg hm] at h
/-! the last write of a key, and all -/
open Classical in
theorem pLast_ev (t : Int) (key : ByteArray) : Ev (fun k => pend_Last.f k l m t key)
    (if May l m ∧ (0 ≤ t ∧ t < 3) ∧ keyOK key = true then (match l.reverse.find? (hitB t key) with | some w => (w.f0, w.f1, w.f2, w.f3, 0) | none => (0, ⟨#[]⟩, ⟨#[]⟩, false, 3)) else (0, ⟨#[]⟩, ⟨#[]⟩, false, 1)) := by
  have no : ∀ h : ¬ (May l m ∧ (0 ≤ t ∧ t < 3) ∧ keyOK key = true), Ev (fun k => pend_Last.j0 k t key true l m) (if May l m ∧ (0 ≤ t ∧ t < 3) ∧ keyOK key = true then (match l.reverse.find? (hitB t key) with | some w => (w.f0, w.f1, w.f2, w.f3, 0) | none => (0, ⟨#[]⟩, ⟨#[]⟩, false, 3)) else (0, ⟨#[]⟩, ⟨#[]⟩, false, 1)) := fun h => by
    rw [if_neg h]
    exact Ev.step (fun k => by simp only [pend_Last.j0]; rfl) (Ev.if_pos (by first | rfl | trivial) (Ev.now _))
  have ht : pend_Table.f t = some (decide (0 ≤ t ∧ t < 3)) := by
    unfold pend_Table.f
    by_cases h : t ≥ 0
    · rw [if_pos h]; simp [h]
    · rw [if_neg h]; congr 1; symm; rw [decide_eq_false_iff_not]; omega
  unfold pend_Last.f
  refine Ev.bind (May_ev l m) ?_
  by_cases hm : May l m
  · refine Ev.if_pos (decide_eq_true hm) (Ev.bind0 ht ?_)
    by_cases h3 : 0 ≤ t ∧ t < 3
    · refine Ev.if_pos (decide_eq_true h3) (Ev.bind0 (key_Is_eq key) ?_)
      by_cases hk : keyOK key = true
      · rw [if_pos (show May l m ∧ (0 ≤ t ∧ t < 3) ∧ keyOK key = true from ⟨hm, h3, hk⟩), hk]
        refine Ev.step (fun k => by simp only [pend_Last.j0]; rfl) ?_
        refine Ev.if_neg (by simp) ?_
        refine Ev.bind0 (show pend_Look.f l m t key = some (pend_Look.out (l.reverse.find? (hitB t key))) from by unfold pend_Look.f; rw [if_pos hm.few, look_out]) ?_
        cases l.reverse.find? (hitB t key) with
        | some w => exact Ev.if_pos (by first | rfl | trivial) (Ev.now _)
        | none => exact Ev.if_neg (by simp [pend_Look.out]) (Ev.now _)
      · have hk' : keyOK key = false := by simpa using hk
        have := no (fun h => hk h.2.2)
        rw [hk']
        rw [hk'] at this
        exact this
    · exact Ev.if_neg (fun h => h3 (of_decide_eq_true h)) (no (fun h => h3 h.2.1))
  · exact Ev.if_neg (fun h => hm (of_decide_eq_true h)) (no (fun h => hm h.1))
theorem j3_ev (hw : Wf l m) (bad e2 : Int) (S : List Wr) (hS : S.length ≤ 4611686018427387904) (t : Int) (a b : ByteArray) (g : Bool) : Ev (fun k => quorumlaw10_step.j3 k bad bad S e2 e2 S l m l m t a b g t a b g) (l, m, true) := by
  refine Ev.step (fun k => by simp only [quorumlaw10_step.j3]; rfl) ?_
  refine Ev.bind0 (num_eq _) ?_
  refine Ev.if_pos (by first | rfl | trivial) ?_
  refine Ev.if_pos (by simp) ?_
  refine Ev.bind0 (num_eq _) ?_
  refine Ev.if_pos (by first | rfl | trivial) ?_
  refine Ev.bind (EqWrites_same S hS) ?_
  refine Ev.if_pos rfl ?_
  exact Ev.bind (same_ev l m hw) (Ev.now _)
open Classical in
theorem step_ev (hw : Wf l m) (a n : Int) (w : Wr) : ∃ r : List Wr × List Int, Wf r.1 r.2 ∧ Ev (fun k => quorumlaw10_step.f k l m a n w.f0 w.f1 w.f2 w.f3) (r.1, r.2, true) := by
  obtain ⟨t, ht⟩ := within10 a
  -- Save
  have hsave : ∃ r : List Wr × List Int, Wf r.1 r.2 ∧ Ev (fun k => quorumlaw10_step.j0 k (decide (May l m)) 1 0 0 t true l m a n w.f0 w.f1 w.f2 w.f3 l m) (r.1, r.2, true) := by
    have hS := Save_ev l m
    by_cases hm : May l m
    · rw [if_pos hm] at hS
      have hR := refSave_ev l m hm
      by_cases h6 : 6 ≤ m.length
      · rw [if_pos h6] at hS hR
        obtain ⟨r, hr, he⟩ := told l m hw 2 0 0 rfl [] [] wf_nil
        refine ⟨r, hr, Ev.step (fun k => by simp only [quorumlaw10_step.j0]; rfl) (Ev.if_pos (by first | rfl | trivial) (Ev.bind hS (Ev.if_pos (decide_eq_true hm) (Ev.bind hR ?_))))⟩
        exact Ev.if_neg (by simp) he
      · rw [if_neg h6] at hS hR
        obtain ⟨r, hr, he⟩ := told l m hw 0 (m.length : Int) (m.length : Int) rfl l (m ++ [(l.length : Int)]) ⟨hw.ll, by simp; omega⟩
        refine ⟨r, hr, Ev.step (fun k => by simp only [quorumlaw10_step.j0]; rfl) (Ev.if_pos (by first | rfl | trivial) (Ev.bind hS (Ev.if_pos (decide_eq_true hm) (Ev.bind hR ?_))))⟩
        exact Ev.if_pos (by first | rfl | trivial) he
    · rw [if_neg hm] at hS
      obtain ⟨r, hr, he⟩ := told l m hw 1 0 0 rfl [] [] wf_nil
      exact ⟨r, hr, Ev.step (fun k => by simp only [quorumlaw10_step.j0]; rfl) (Ev.if_pos (by first | rfl | trivial) (Ev.bind hS (Ev.if_neg (fun h => hm (of_decide_eq_true h)) he)))⟩
  have hret : ∃ r : List Wr × List Int, Wf r.1 r.2 ∧ Ev (fun k => quorumlaw10_step.j1 k (decide (May l m)) 1 0 0 t true l m a n w.f0 w.f1 w.f2 w.f3 l m) (r.1, r.2, true) := by
    obtain ⟨x, xm, bad, hx, h1, h2, h3⟩ := ret_ev l m n
    obtain ⟨r, hr, he⟩ := told l m hw bad 0 0 rfl x xm hx
    refine ⟨r, hr, Ev.step (fun k => by simp only [quorumlaw10_step.j1]; rfl) (Ev.if_pos (by first | rfl | trivial) (Ev.bind h1 ?_))⟩
    by_cases hm : May l m
    · exact Ev.if_pos (decide_eq_true hm) (Ev.bind (h2 hm) he)
    · obtain ⟨rfl, rfl, rfl⟩ := h3 hm
      exact Ev.if_neg (fun h => hm (of_decide_eq_true h)) he
  have hrel : ∃ r : List Wr × List Int, Wf r.1 r.2 ∧ Ev (fun k => (pend_Release.f k l m n).bind fun bt374 => (if decide (May l m) = true then ((quorumref8_Release.f k l m n).bind fun bt381 => (quorumlaw10_step.j5 k (decide (May l m)) bt381.2.2 0 0 bt374.2.2 l m l m bt374.1 bt374.2.1 bt381.1 bt381.2.1)) else (quorumlaw10_step.j5 k (decide (May l m)) 1 0 0 bt374.2.2 l m l m bt374.1 bt374.2.1 ([] : List Wr) ([] : List Int)))) (r.1, r.2, true) := by
    obtain ⟨x, xm, bad, hx, h1, h2, h3⟩ := rel_ev l m n
    obtain ⟨r, hr, he⟩ := told l m hw bad 0 0 rfl x xm hx
    refine ⟨r, hr, Ev.bind h1 ?_⟩
    by_cases hm : May l m
    · exact Ev.if_pos (decide_eq_true hm) (Ev.bind (h2 hm) he)
    · obtain ⟨rfl, rfl, rfl⟩ := h3 hm
      exact Ev.if_neg (fun h => hm (of_decide_eq_true h)) he
  have hput : ∃ r : List Wr × List Int, Wf r.1 r.2 ∧ Ev (fun k => (pend_Put.f k l m w.f0 w.f1 w.f2 w.f3).bind fun bt414 => (if decide (May l m) = true then ((quorumref8_Write.f w.f0 w.f1 w.f2 w.f3).bind fun t421 => (quorumlaw10_step.j4 k (decide (May l m)) 1 0 0 bt414.2.2 t421 l m a n w.f0 w.f1 w.f2 w.f3 l m bt414.1 bt414.2.1)) else (quorumlaw10_step.j4 k (decide (May l m)) 1 0 0 bt414.2.2 false l m a n w.f0 w.f1 w.f2 w.f3 l m bt414.1 bt414.2.1))) (r.1, r.2, true) := by
    have hP := Put_ev l m w
    by_cases hm : May l m
    · have h12 := hm.few
      have h6 := hm.marks
      by_cases hk : wOK w = true
      · rw [if_pos (show May l m ∧ wOK w = true from ⟨hm, hk⟩)] at hP
        by_cases hf : 12 ≤ l.length
        · rw [if_pos hf] at hP
          obtain ⟨r, hr, he⟩ := told l m hw 2 0 0 rfl [] [] wf_nil
          refine ⟨r, hr, Ev.bind hP (Ev.if_pos (decide_eq_true hm) (Ev.bind0 (ref_Write_eq w) ?_))⟩
          rw [hk]
          refine Ev.step (fun k => by simp only [quorumlaw10_step.j4]; rfl) ?_
          exact Ev.if_pos (by first | rfl | trivial) (Ev.if_neg (by omega) he)
        · rw [if_neg hf] at hP
          obtain ⟨r, hr, he⟩ := told l m hw 0 0 0 rfl (l ++ [w]) m ⟨by simp; omega, by omega⟩
          refine ⟨r, hr, Ev.bind hP (Ev.if_pos (decide_eq_true hm) (Ev.bind0 (ref_Write_eq w) ?_))⟩
          rw [hk]
          refine Ev.step (fun k => by simp only [quorumlaw10_step.j4]; rfl) ?_
          refine Ev.if_pos (by first | rfl | trivial) (Ev.if_pos (by omega) (Ev.bind (copy_ev l m hw) ?_))
          exact Ev.if_pos (by show l.length < _; omega) he
      · have hk' : wOK w = false := by simpa using hk
        rw [if_neg (show ¬ (May l m ∧ wOK w = true) from fun h => hk h.2)] at hP
        obtain ⟨r, hr, he⟩ := told l m hw 1 0 0 rfl [] [] wf_nil
        refine ⟨r, hr, Ev.bind hP (Ev.if_pos (decide_eq_true hm) (Ev.bind0 (ref_Write_eq w) ?_))⟩
        rw [hk']
        refine Ev.step (fun k => by simp only [quorumlaw10_step.j4]; rfl) ?_
        exact Ev.if_neg (by simp) he
    · rw [if_neg (show ¬ (May l m ∧ wOK w = true) from fun h => hm h.1)] at hP
      obtain ⟨r, hr, he⟩ := told l m hw 1 0 0 rfl [] [] wf_nil
      refine ⟨r, hr, Ev.bind hP (Ev.if_neg (fun h => hm (of_decide_eq_true h)) ?_)⟩
      refine Ev.step (fun k => by simp only [quorumlaw10_step.j4]; rfl) ?_
      exact Ev.if_neg (by simp) he
  have hget : Ev (fun k => (pend_Last.f k l m w.f0 w.f1).bind fun bt388 => ((pend_Sum.f k l m).bind fun bt394 => (if decide (May l m) = true then ((quorumref8_Sum.f k l m).bind fun t399 => ((quorumref0_Num.f w.f0 2).bind fun t402 => (if t402 = true then ((quorumref1_Key.f w.f1).bind fun t403 => (quorumlaw10_step.j2 k 1 bt388.2.2.2.2 bt394.1 bt394.2 0 t399 t403 l m a n w.f0 w.f1 w.f2 w.f3 l m bt388.1 bt388.2.1 bt388.2.2.1 bt388.2.2.2.1 0 (⟨#[]⟩ : ByteArray) (⟨#[]⟩ : ByteArray) false)) else (quorumlaw10_step.j2 k 1 bt388.2.2.2.2 bt394.1 bt394.2 0 t399 false l m a n w.f0 w.f1 w.f2 w.f3 l m bt388.1 bt388.2.1 bt388.2.2.1 bt388.2.2.2.1 0 (⟨#[]⟩ : ByteArray) (⟨#[]⟩ : ByteArray) false)))) else (quorumlaw10_step.j3 k 1 bt388.2.2.2.2 bt394.1 bt394.2 1 ([] : List Wr) l m l m bt388.1 bt388.2.1 bt388.2.2.1 bt388.2.2.2.1 0 (⟨#[]⟩ : ByteArray) (⟨#[]⟩ : ByteArray) false)))) (l, m, true) := by
    have hL := pLast_ev l m w.f0 w.f1
    have hS := pSum_ev l m
    by_cases hm : May l m
    · rw [if_pos hm] at hS
      have h12 := hm.few
      have hlen : (allOf l).length ≤ 4611686018427387904 := by have := Go.Proofs.Ytbaecdcfefmcgaa.HAll.all_len l; omega
      refine Ev.bind hL (Ev.bind hS (Ev.if_pos (decide_eq_true hm) (Ev.bind (Sum_ev l m hm) (Ev.bind0 (Num_eq _ _) ?_))))
      by_cases h3 : 0 ≤ w.f0 ∧ w.f0 < 3
      · refine Ev.if_pos (by rw [decide_eq_true_eq]; omega) (Ev.bind0 (ref_Key_eq _) ?_)
        by_cases hk : keyOK w.f1 = true
        · rw [if_pos (show May l m ∧ (0 ≤ w.f0 ∧ w.f0 < 3) ∧ keyOK w.f1 = true from ⟨hm, h3, hk⟩), hk]
          refine Ev.step (fun k => by simp only [quorumlaw10_step.j2]; rfl) ?_
          refine Ev.if_pos (by first | rfl | trivial) (Ev.bind (Last_ev l m h12 w.f0 w.f1) ?_)
          cases l.reverse.find? (hitB w.f0 w.f1) with
          | some y => exact Ev.if_pos (by first | rfl | trivial) (j3_ev l m hw 0 0 _ hlen _ _ _ _)
          | none => exact Ev.if_neg (by simp [pend_Look.out]) (j3_ev l m hw 3 0 _ hlen _ _ _ _)
        · have hk' : keyOK w.f1 = false := by simpa using hk
          rw [if_neg (show ¬ (May l m ∧ (0 ≤ w.f0 ∧ w.f0 < 3) ∧ keyOK w.f1 = true) from fun h => hk h.2.2), hk']
          refine Ev.step (fun k => by simp only [quorumlaw10_step.j2]; rfl) ?_
          exact Ev.if_neg (by simp) (j3_ev l m hw 1 0 _ hlen _ _ _ _)
      · rw [if_neg (show ¬ (May l m ∧ (0 ≤ w.f0 ∧ w.f0 < 3) ∧ keyOK w.f1 = true) from fun h => h3 h.2.1)]
        refine Ev.if_neg (by rw [decide_eq_true_eq]; omega) ?_
        refine Ev.step (fun k => by simp only [quorumlaw10_step.j2]; rfl) ?_
        exact Ev.if_neg (by simp) (j3_ev l m hw 1 0 _ hlen _ _ _ _)
    · rw [if_neg hm] at hS
      rw [if_neg (show ¬ (May l m ∧ (0 ≤ w.f0 ∧ w.f0 < 3) ∧ keyOK w.f1 = true) from fun h => hm h.1)] at hL
      exact Ev.bind hL (Ev.bind hS (Ev.if_neg (fun h => hm (of_decide_eq_true h)) (j3_ev l m hw 1 1 [] (by simp) _ _ _ _)))
  have hj1 : ∀ b, ∃ r : List Wr × List Int, Wf r.1 r.2 ∧ Ev (fun k => quorumlaw10_step.j1 k (decide (May l m)) 1 0 0 t b l m a n w.f0 w.f1 w.f2 w.f3 l m) (r.1, r.2, true) := fun b => by
    cases b with
    | true => exact hret
    | false =>
      by_cases h8 : t = 8
      · obtain ⟨r, h1, h2⟩ := hrel
        exact ⟨r, h1, Ev.step (fun k => by simp only [quorumlaw10_step.j1]; rfl) (Ev.if_neg (by simp) (Ev.if_pos h8 h2))⟩
      · by_cases h9 : t = 9
        · exact ⟨(l, m), hw, Ev.step (fun k => by simp only [quorumlaw10_step.j1]; rfl) (Ev.if_neg (by simp) (Ev.if_neg h8 (Ev.if_pos h9 hget)))⟩
        · obtain ⟨r, h1, h2⟩ := hput
          exact ⟨r, h1, Ev.step (fun k => by simp only [quorumlaw10_step.j1]; rfl) (Ev.if_neg (by simp) (Ev.if_neg h8 (Ev.if_neg h9 h2)))⟩
  have hj0 : ∀ b, ∃ r : List Wr × List Int, Wf r.1 r.2 ∧ Ev (fun k => quorumlaw10_step.j0 k (decide (May l m)) 1 0 0 t b l m a n w.f0 w.f1 w.f2 w.f3 l m) (r.1, r.2, true) := fun b => by
    cases b with
    | true => exact hsave
    | false =>
      by_cases h6 : t = 6
      · obtain ⟨r, h1, h2⟩ := hj1 (t == 6)
        exact ⟨r, h1, Ev.step (fun k => by simp only [quorumlaw10_step.j0]; rfl) (Ev.if_neg (by simp) (Ev.if_pos h6 h2))⟩
      · obtain ⟨r, h1, h2⟩ := hj1 (t == 7)
        exact ⟨r, h1, Ev.step (fun k => by simp only [quorumlaw10_step.j0]; rfl) (Ev.if_neg (by simp) (Ev.if_neg h6 h2))⟩
  unfold quorumlaw10_step.f
  by_cases h4 : t = 4
  · obtain ⟨r, h1, h2⟩ := hj0 (t == 4)
    exact ⟨r, h1, Ev.bind (copy_ev l m hw) (Ev.bind (ref_ev l m) (Ev.bind0 ht (Ev.if_pos h4 h2)))⟩
  · obtain ⟨r, h1, h2⟩ := hj0 (t == 5)
    exact ⟨r, h1, Ev.bind (copy_ev l m hw) (Ev.bind (ref_ev l m) (Ev.bind0 ht (Ev.if_neg h4 h2)))⟩
end
end Go.Proofs.Ytbaecdcfefmcgaa.HPend
