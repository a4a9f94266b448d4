/- PlanLocks of commits: what it comes to, in plain Lean: every comparison that it makes is of one and the same. -/
import Derived.Test.YtbaecdcfefmcgaaPPlcx16
import Derived.Test.YtbaecdcfefmcgaaHSumJc
set_option linter.unusedSimpArgs false
set_option linter.unusedVariables false
set_option linter.unusedSectionVars false
namespace Go.Proofs.Ytbaecdcfefmcgaa.HPlan
open Go.RowKit Go.Proofs.Ytbaecdcfefmcgaa.PPlc Go.Proofs.Ytbaecdcfefmcgaa.HNum Go.Proofs.Ytbaecdcfefmcgaa.HPend Go.Proofs.YtbaecdcfefmcgaaW.PrintWords Go.Proofs.YtbaecdcfefmcgaaW.PrintLast
open Go.Proofs.Ytbaecdcfefmcgaa.HAll (allOf okT mem_all all_len all_mem)
abbrev Lk := S191
abbrev Pd := S34
abbrev Opx := S101
theorem rdl_at (l : List Lk) (j : Nat) (h : j < l.length) : rd_T191 l (j : Int) = l[j] := by simp [rd_T191, h]
theorem rdp_at (l : List Pd) (j : Nat) (h : j < l.length) : rd_T34 l (j : Int) = l[j] := by simp [rd_T34, h]
theorem rdo_at (l : List Opx) (j : Nat) (h : j < l.length) : rd_T101 l (j : Int) = l[j] := by simp [rd_T101, h]
-- what is copied is as it was; what is compared with itself is the same
theorem CopyWritesP_ev (l : List Wr) (hl : l.length ≤ 2932031007317) : Ev (fun k => quorumref0_CopyWrites.f k l) l := by
  have key : ∀ d j : Nat, ∀ acc : List Wr, j + d = l.length → acc = l.take j → Ev (fun k => quorumref0_CopyWrites.l0 k l acc (j : Int)) l := by
    intro d
    induction d with
    | zero =>
      intro j acc hj ha
      rw [List.take_of_length_le (by omega)] at ha
      subst ha
      exact Ev.step (fun k => by simp only [quorumref0_CopyWrites.l0]; rfl) (Ev.if_neg (by omega) (Ev.now _))
    | succ d ih =>
      intro j acc hj ha
      have hlt : j < l.length := by omega
      have hal : acc.length = j := by rw [ha, List.length_take]; omega
      refine Ev.step (fun k => by simp only [quorumref0_CopyWrites.l0]; rfl) (Ev.if_pos (by omega) (Ev.if_pos (by omega) (Ev.if_pos (by omega) ?_)))
      rw [rdw_at l j hlt, wrap_succ j (by omega)]
      exact ih (j + 1) _ (by omega) (by rw [ha, List.take_add_one, List.getElem?_eq_getElem hlt]; rfl)
  exact key l.length 0 [] (by omega) rfl
theorem CopyNumbers_ev (l : List Int) (hl : l.length ≤ 17592186043904) : Ev (fun k => quorumref0_CopyNumbers.f k l) l := by
  have key : ∀ d j : Nat, ∀ acc : List Int, j + d = l.length → acc = l.take j → Ev (fun k => quorumref0_CopyNumbers.l0 k l acc (j : Int)) l := by
    intro d
    induction d with
    | zero =>
      intro j acc hj ha
      rw [List.take_of_length_le (by omega)] at ha
      subst ha
      exact Ev.step (fun k => by simp only [quorumref0_CopyNumbers.l0]; rfl) (Ev.if_neg (by omega) (Ev.now _))
    | succ d ih =>
      intro j acc hj ha
      have hlt : j < l.length := by omega
      have hal : acc.length = j := by rw [ha, List.length_take]; omega
      refine Ev.step (fun k => by simp only [quorumref0_CopyNumbers.l0]; rfl) (Ev.if_pos (by omega) (Ev.if_pos (by omega) (Ev.if_pos (by omega) ?_)))
      rw [rdn_at l j hlt, wrap_succ j (by omega)]
      exact ih (j + 1) _ (by omega) (by rw [ha, List.take_add_one, List.getElem?_eq_getElem hlt]; rfl)
  exact key l.length 0 [] (by omega) rfl
theorem CopyPend_ev (l : List Wr) (m : List Int) (hl : l.length ≤ 2932031007317) (hm : m.length ≤ 17592186043904) : Ev (fun k => quorumref0_CopyPend.f k l m) (l, m) := by
  unfold quorumref0_CopyPend.f
  exact Ev.bind (CopyWritesP_ev l hl) (Ev.bind (CopyNumbers_ev m hm) (Ev.now _))
theorem EqLocks_same (l : List Lk) (hl : l.length ≤ 4611686018427387904) : Ev (fun k => quorumref0_EqLocks.f k l l) true := by
  have key : ∀ d j : Nat, j + d = l.length → Ev (fun k => quorumref0_EqLocks.l0 k l l (j : Int)) true := by
    intro d
    induction d with
    | zero =>
      intro j hj
      exact Ev.step (fun k => by simp only [quorumref0_EqLocks.l0]; rfl) (Ev.if_neg (by omega) (Ev.now true))
    | succ d ih =>
      intro j hj
      refine Ev.step (fun k => by simp only [quorumref0_EqLocks.l0]; rfl) ?_
      rw [wrap_succ j (by omega)]
      exact Ev.if_pos (by omega) (Ev.if_pos (by omega) (Ev.if_pos (by omega) (Ev.if_neg (by simp) (ih (j + 1) (by omega)))))
  unfold quorumref0_EqLocks.f
  exact Ev.if_pos rfl (key l.length 0 (by omega))
theorem Locks_ends (l : List Lk) (hl : l.length ≤ 4611686018427387904) : ∃ r, Ev (fun k => quorumlaw0_Locks.f k l) r := by
  have key : ∀ d j : Nat, ∀ m : List Lk, j + d = m.length → m.length ≤ 4611686018427387904 → ∃ r, Ev (fun k => quorumlaw0_Locks.l0 k m (j : Int)) r := by
    intro d
    induction d with
    | zero =>
      intro j m hj hm
      exact ⟨m, Ev.step (fun k => by simp only [quorumlaw0_Locks.l0]; rfl) (Ev.if_neg (by omega) (Ev.now m))⟩
    | succ d ih =>
      intro j m hj hm
      obtain ⟨r, hr⟩ := ih (j + 1) (m.set (j : Int).toNat (⟨(-9), 0, ⟨(⟨#[]⟩ : ByteArray), (⟨#[]⟩ : ByteArray), false⟩, 0⟩ : Lk)) (by rw [List.length_set]; omega) (by rw [List.length_set]; exact hm)
      refine ⟨r, Ev.step (fun k => by simp only [quorumlaw0_Locks.l0]; rfl) ?_⟩
      rw [wrap_succ j (by omega)]
      exact Ev.if_pos (by omega) (Ev.if_pos (by omega) hr)
  exact key l.length 0 l (by omega) hl
-- an op
theorem Is_some {k t : Int} {key v lo hi : ByteArray} {top : Bool} {n : Int} {back : Bool} {m : Int} (h6 : k ≠ 6) : plan_Is.f k t key v lo hi top n back m = some (plan_Is.ok k t key v lo hi top n back m) := by
  unfold plan_Is.f
  rw [if_neg h6]
theorem Op_some {k t : Int} {key v lo hi : ByteArray} {top : Bool} {n : Int} {back : Bool} {m : Int} (h6 : k ≠ 6) (h1 : 1 ≤ m) (h3 : m ≤ 3) : quorumref12_Op.f k t key v lo hi top n back m = some (plan_Is.ok k t key v lo hi top n back m) := by
  unfold quorumref12_Op.f
  rw [if_neg (by omega)]
theorem key_small {k t : Int} {key v lo hi : ByteArray} {top : Bool} {n : Int} {back : Bool} {m : Int} (h : plan_Is.ok k t key v lo hi top n back m = true) : key.size ≤ 12 := by
  unfold plan_Is.ok at h
  simp only [Bool.and_eq_true] at h
  have h1 := h.1.1.2
  split at h1
  · simp only [Bool.and_eq_true, decide_eq_true_eq] at h1
    omega
  · have h2 := (toList_nil key).1 (List.isEmpty_iff.1 h1)
    omega
theorem Check_ev {k t : Int} {key v lo hi : ByteArray} {top : Bool} {n : Int} {back : Bool} {m : Int} (h6 : k ≠ 6) : Ev (fun q => plan_Check.f q k t key v lo hi top n back m) (if (1 ≤ m ∧ m ≤ 3) ∧ plan_Is.ok k t key v lo hi top n back m = true then 0 else 1) := by
  have jn : ∀ b : Bool, (b = true ↔ ¬ ((1 ≤ m ∧ m ≤ 3) ∧ plan_Is.ok k t key v lo hi top n back m = true)) → Ev (fun q => plan_Check.j0 q b) (if (1 ≤ m ∧ m ≤ 3) ∧ plan_Is.ok k t key v lo hi top n back m = true then 0 else 1) := fun b hb => by
    refine Ev.step (fun k => by simp only [plan_Check.j0]; rfl) ?_
    cases b with
    | true => rw [if_neg (hb.1 rfl)]; exact Ev.if_pos rfl (Ev.now _)
    | false =>
      have hp : (1 ≤ m ∧ m ≤ 3) ∧ plan_Is.ok k t key v lo hi top n back m = true := Decidable.byContradiction fun h2 => by have := hb.2 h2; cases this
      rw [if_pos hp]
      exact Ev.if_neg (by simp) (Ev.now _)
  unfold plan_Check.f
  refine Ev.iff (fun h => jn true ⟨fun _ h2 => by omega, fun _ => rfl⟩) (fun h => Ev.iff (fun h3 => jn true ⟨fun _ h2 => by omega, fun _ => rfl⟩) (fun h3 => Ev.bind0 (Is_some h6) (jn _ ?_)))
  cases plan_Is.ok k t key v lo hi top n back m with
  | true => exact ⟨fun h => (by cases h), fun h2 => absurd ⟨⟨by omega, by omega⟩, rfl⟩ h2⟩
  | false => exact ⟨fun _ h2 => (by cases h2.2), fun _ => rfl⟩
theorem Writes_one {k t : Int} {key v lo hi : ByteArray} {top : Bool} {n : Int} {back : Bool} : plan_Writes.f k t key v lo hi top n back = some (decide (2 ≤ k ∧ k ≤ 5) || k == 7) := by
  unfold plan_Writes.f
  by_cases h : k ≥ 2
  · rw [if_pos h]
    by_cases h5 : k ≤ 5
    · rw [if_pos h5, decide_eq_true (show 2 ≤ k ∧ k ≤ 5 from ⟨h, h5⟩)]; rfl
    · rw [if_neg h5, decide_eq_false (by omega)]; rfl
  · rw [if_neg h, decide_eq_false (by omega)]; rfl
theorem Writes_two {k t : Int} {key v lo hi : ByteArray} {top : Bool} {n : Int} {back : Bool} : quorumref12_Writes.f k t key v lo hi top n back = some (decide (2 ≤ k ∧ k ≤ 5) || k == 7) := by
  unfold quorumref12_Writes.f
  rw [quorumref12_Op.bet]
  by_cases h : 2 ≤ k ∧ k ≤ 5
  · rw [decide_eq_true h, decide_eq_true h.1, decide_eq_true h.2]; rfl
  · rw [decide_eq_false h, show (decide (2 ≤ k) && decide (k ≤ 5)) = false by simp; omega]; rfl
/-- A commit's locks: one of each key that was written. -/
def lks (o : Int) (s : List Wr) : List Lk := s.map (fun w => (⟨o, w.f0, ⟨w.f1, w.f1 ++ (⟨#[0]⟩ : ByteArray), false⟩, 3⟩ : Lk))
theorem lks_take (o : Int) (s : List Wr) (j : Nat) (h : j < s.length) : lks o (s.take (j + 1)) = lks o (s.take j) ++ [(⟨o, (s[j]).f0, ⟨(s[j]).f1, (s[j]).f1 ++ (⟨#[0]⟩ : ByteArray), false⟩, 3⟩ : Lk)] := by
  unfold lks
  rw [List.take_succ_eq_append_getElem h, List.map_append]
  rfl
theorem certify_ev (o : Int) (s : List Wr) (hs : s.length ≤ 12) (hk : ∀ w ∈ s, w.f1.size ≤ 12) (d : Nat) : ∀ j, j + d = s.length → Ev (fun k => plan_certify.l0 k o (lks o (s.take j)) s (s.length : Int) (j : Int)) (lks o s) := by
  induction d with
  | zero =>
    intro j hj
    refine Ev.step (fun k => by simp only [plan_certify.l0]; rfl) (Ev.if_neg (by omega) (Ev.const ?_))
    rw [List.take_of_length_le (by omega)]
  | succ d ih =>
    intro j hj
    have hlt : j < s.length := by omega
    have hkj := hk s[j] (List.getElem_mem hlt)
    refine Ev.step (fun k => by simp only [plan_certify.l0]; rfl) ?_
    refine Ev.if_pos (by omega) ?_
    refine Ev.if_pos (by omega) ?_
    refine Ev.if_pos (by omega) ?_
    rw [rdw_at s j hlt, wrap_succ j (by omega)]
    refine Ev.bind0 (show key_Alone.f (s[j]).f1 = some ((s[j]).f1, (s[j]).f1 ++ (⟨#[0]⟩ : ByteArray), false) from by unfold key_Alone.f; rw [if_pos (by omega)]) ?_
    refine Ev.if_pos (by simp only [lks, List.length_map, List.length_take]; omega) ?_
    have := ih (j + 1) (by omega)
    rw [lks_take o s j hlt] at this
    exact this
theorem reflocks_ev (o : Int) (s : List Wr) (hs : s.length ≤ 12) (hk : ∀ w ∈ s, w.f1.size ≤ 12) (d : Nat) : ∀ j, j + d = s.length → Ev (fun k => quorumref12_Locks.l0 k o (lks o (s.take j)) s (j : Int)) (lks o s) := by
  induction d with
  | zero =>
    intro j hj
    refine Ev.step (fun k => by simp only [quorumref12_Locks.l0]; rfl) (Ev.if_neg (by omega) (Ev.const ?_))
    rw [List.take_of_length_le (by omega)]
  | succ d ih =>
    intro j hj
    have hlt : j < s.length := by omega
    have hkj := hk s[j] (List.getElem_mem hlt)
    refine Ev.step (fun k => by simp only [quorumref12_Locks.l0]; rfl) ?_
    refine Ev.if_pos (by omega) ?_
    refine Ev.if_pos (by omega) ?_
    rw [rdw_at s j hlt, wrap_succ j (by omega)]
    refine Ev.bind0 (show quorumref1_One.f (s[j]).f1 = some ((s[j]).f1, (s[j]).f1 ++ (⟨#[0]⟩ : ByteArray), false) from by unfold quorumref1_One.f; rw [if_pos (by omega)]) ?_
    refine Ev.if_pos (by simp only [lks, List.length_map, List.length_take]; omega) ?_
    have := ih (j + 1) (by omega)
    rw [lks_take o s j hlt] at this
    exact this
theorem all_small {L : List Wr} {M : List Int} (hm : May L M) : (allOf L).length ≤ 12 ∧ ∀ w ∈ allOf L, w.f1.size ≤ 12 := by
  have hok : ∀ x ∈ L, okT x := fun x hx => okT_of (hm.each x hx)
  refine ⟨Nat.le_trans (all_len L) hm.few, fun w hw => ?_⟩
  have h := hm.each w (all_mem L hok w hw)
  unfold wOK keyOK at h
  simp only [Bool.and_eq_true, decide_eq_true_eq] at h
  exact h.2.2.1.2
theorem Needs_ev {t : Int} {key v lo hi : ByteArray} {top : Bool} {n : Int} {back : Bool} (L : List Wr) (M : List Int) (o : Int) (hm : May L M) : Ev (fun k => plan_Needs.f k 11 t key v lo hi top n back L M o) (lks o (allOf L)) := by
  obtain ⟨h1, h2⟩ := all_small hm
  unfold plan_Needs.f
  refine Ev.if_pos (by first | rfl | trivial) ?_
  refine Ev.if_neg (by decide) ?_
  refine Ev.bind0 (show plan_keyed.f 11 t key v lo hi top n back = some false from by unfold plan_keyed.f; rfl) ?_
  refine Ev.if_neg (by simp) ?_
  refine Ev.if_neg (by decide) ?_
  refine Ev.if_neg (by decide) ?_
  refine Ev.if_pos (by first | rfl | trivial) ?_
  refine Ev.bind (a := lks o (allOf L)) ?_ (Ev.now _)
  unfold plan_certify.f
  refine Ev.bind0 (show pend_All.f L M = some (allOf L) from by unfold pend_All.f; rw [if_pos hm.few]) ?_
  exact certify_ev o (allOf L) h1 h2 (allOf L).length 0 (by omega)
theorem RefLocks_ev {t : Int} {key v lo hi : ByteArray} {top : Bool} {n : Int} {back : Bool} (L : List Wr) (M : List Int) (o : Int) (hm : May L M) (hk : key.size ≤ 12) : Ev (fun k => quorumref12_Locks.f k 11 t key v lo hi top n back L M o) (lks o (allOf L)) := by
  obtain ⟨h1, h2⟩ := all_small hm
  unfold quorumref12_Locks.f
  refine Ev.if_pos (by first | rfl | trivial) ?_
  refine Ev.bind0 (show quorumref1_One.f key = some (key, key ++ (⟨#[0]⟩ : ByteArray), false) from by unfold quorumref1_One.f; rw [if_pos (by omega)]) ?_
  refine Ev.if_neg (by decide) ?_
  refine Ev.if_neg (by decide) ?_
  refine Ev.if_neg (by decide) ?_
  refine Ev.if_neg (by decide) ?_
  refine Ev.step (fun k => by simp only [quorumref12_Locks.j0]; rfl) ?_
  refine Ev.if_neg (by decide) ?_
  refine Ev.if_neg (by decide) ?_
  refine Ev.if_neg (by decide) ?_
  refine Ev.if_pos (by first | rfl | trivial) ?_
  refine Ev.bind (Sum_ev L M hm) ?_
  exact reflocks_ev o (allOf L) h1 h2 (allOf L).length 0 (by omega)
theorem numP (a b : Int) : quorumref0_Num.f a b = some (decide (0 ≤ a ∧ a ≤ b)) := by
  unfold quorumref0_Num.f
  by_cases h : a ≥ 0
  · rw [if_pos h]; simp [h]
  · rw [if_neg h]; congr 1; symm; rw [decide_eq_false_iff_not]; omega
theorem lockIs_ev (o : Int) : Ev (fun k => lock_Is.f k o 0 (⟨#[]⟩ : ByteArray) (⟨#[]⟩ : ByteArray) false 1) (decide (0 ≤ o ∧ o ≤ 1073741824)) := by
  unfold lock_Is.f
  by_cases h0 : o ≥ 0
  · refine Ev.if_pos h0 ?_
    by_cases h1 : o ≤ 1073741824
    · rw [decide_eq_true (show 0 ≤ o ∧ o ≤ 1073741824 from ⟨h0, h1⟩)]
      refine Ev.if_pos h1 (Ev.if_pos (by omega) (Ev.if_pos (by omega) (Ev.bind (a := true) ?_ (Ev.if_pos rfl (Ev.bind0 (show mode_Is.f 1 = some true from rfl) (Ev.now true))))))
      exact Ev.of (fun k => key_May.mono _ _ _ k) (k := 9) (by decide +kernel)
    · rw [decide_eq_false (by omega)]
      exact Ev.if_neg h1 (Ev.now false)
  · rw [decide_eq_false (by omega)]
    exact Ev.if_neg h0 (Ev.now false)
section
variable (X : List Pd) (Y : List Int) (O : List Opx) (P : List Pd) (N : List Int) (x5 : Int) (a0 a1 : Int) (a2 a3 a4 a5 : ByteArray) (a6 : Bool) (a7 : Int) (a8 : Bool)
open Classical in
theorem locks_ev (h11 : a0 = 11) (L : List Wr) (M : List Int) (o : Int) :
    Ev (fun k => plan_Locks.f k a0 a1 a2 a3 a4 a5 a6 a7 a8 L M o) (if plan_Is.ok a0 a1 a2 a3 a4 a5 a6 a7 a8 3 = true ∧ May L M ∧ 0 ≤ o ∧ o ≤ 1073741824 then (lks o (allOf L), 0) else ([], 1)) := by
  have h6 : a0 ≠ 6 := by omega
  have no : ∀ h : ¬ (plan_Is.ok a0 a1 a2 a3 a4 a5 a6 a7 a8 3 = true ∧ May L M ∧ 0 ≤ o ∧ o ≤ 1073741824), Ev (fun k => plan_Locks.j0 k o true a0 a1 a2 a3 a4 a5 a6 a7 a8 L M) (if plan_Is.ok a0 a1 a2 a3 a4 a5 a6 a7 a8 3 = true ∧ May L M ∧ 0 ≤ o ∧ o ≤ 1073741824 then (lks o (allOf L), 0) else ([], 1)) := fun h => by
    rw [if_neg h]
    exact Ev.step (fun k => by simp only [plan_Locks.j0]; rfl) (Ev.if_pos (by first | rfl | trivial) (Ev.now _))
  unfold plan_Locks.f
  refine Ev.bind0 (Is_some h6) ?_
  by_cases ho : plan_Is.ok a0 a1 a2 a3 a4 a5 a6 a7 a8 3 = true
  · refine Ev.if_pos ho (Ev.bind (May_ev L M) ?_)
    by_cases hm : May L M
    · refine Ev.if_pos (decide_eq_true hm) (Ev.bind (lockIs_ev o) ?_)
      by_cases hr : 0 ≤ o ∧ o ≤ 1073741824
      · rw [if_pos ⟨ho, hm, hr⟩, decide_eq_true hr]
        refine Ev.step (fun k => by simp only [plan_Locks.j0]; rfl) ?_
        refine Ev.if_neg (by simp) ?_
        subst h11
        exact Ev.bind (Needs_ev L M o hm) (Ev.now _)
      · have := no (fun h => hr h.2.2)
        rw [decide_eq_false hr]
        exact this
    · exact Ev.if_neg (fun h => hm (of_decide_eq_true h)) (no (fun h => hm h.2.1))
  · exact Ev.if_neg ho (no (fun h => ho h.1))
theorem l1_step (h6 : a0 ≠ 6) (t : Int) (h0 : -1 ≤ t) (h5 : t ≤ 5) (h : Ev (fun k => quorumlaw12_PlanLocks.l1 k X Y x5 (t + 1) O P N a0 a1 a2 a3 a4 a5 a6 a7 a8) true) :
    Ev (fun k => quorumlaw12_PlanLocks.l1 k X Y x5 t O P N a0 a1 a2 a3 a4 a5 a6 a7 a8) true := by
  have hw : wrap64 (t + 1) = t + 1 := by unfold wrap64; omega
  have hj : ∀ b : Bool, b = decide ((1 ≤ t ∧ t ≤ 3) ∧ plan_Is.ok a0 a1 a2 a3 a4 a5 a6 a7 a8 t = true) → Ev (fun k => quorumlaw12_PlanLocks.j3 k X Y x5 t b O P N a0 a1 a2 a3 a4 a5 a6 a7 a8) true := by
    intro b hb
    refine Ev.step (fun k => by simp only [quorumlaw12_PlanLocks.j3]; rfl) (Ev.bind (Check_ev h6) (Ev.bind0 rfl ?_))
    rw [hw]
    refine Ev.if_neg ?_ h
    rw [hb]
    by_cases hc : (1 ≤ t ∧ t ≤ 3) ∧ plan_Is.ok a0 a1 a2 a3 a4 a5 a6 a7 a8 t = true
    · rw [if_pos hc, decide_eq_true hc]; decide
    · rw [if_neg hc, decide_eq_false hc]; decide
  refine Ev.step (fun k => by simp only [quorumlaw12_PlanLocks.l1]; rfl) (Ev.if_pos h5 (Ev.bind0 (quorumref12_Op.bet t 1 3) ?_))
  by_cases hin : 1 ≤ t ∧ t ≤ 3
  · refine Ev.if_pos (by simp [hin]) (Ev.bind0 (Op_some h6 hin.1 hin.2) (hj _ ?_))
    by_cases ho : plan_Is.ok a0 a1 a2 a3 a4 a5 a6 a7 a8 t = true
    · rw [ho, decide_eq_true ⟨hin, rfl⟩]
    · rw [decide_eq_false (fun h => ho h.2)]; simpa using ho
  · refine Ev.if_neg (by simp; omega) (hj _ ?_)
    rw [decide_eq_false (fun h => hin h.1)]
theorem l1_all (h6 : a0 ≠ 6) (h : Ev (fun k => quorumlaw12_PlanLocks.l2 k X Y x5 0 O P N a0 a1 a2 a3 a4 a5 a6 a7 a8) true) :
    Ev (fun k => quorumlaw12_PlanLocks.l1 k X Y x5 (-1) O P N a0 a1 a2 a3 a4 a5 a6 a7 a8) true := by
  have he : Ev (fun k => quorumlaw12_PlanLocks.l1 k X Y x5 6 O P N a0 a1 a2 a3 a4 a5 a6 a7 a8) true := by
    refine Ev.step (fun k => by simp only [quorumlaw12_PlanLocks.l1]; rfl) (Ev.if_neg (by omega) (Ev.bind0 Writes_one (Ev.bind0 Writes_two (Ev.if_neg ?_ h))))
    simp
  have s := fun t h0 h5 h => l1_step X Y O P N x5 a0 a1 a2 a3 a4 a5 a6 a7 a8 h6 t h0 h5 h
  exact s (-1) (by omega) (by omega) (s 0 (by omega) (by omega) (s 1 (by omega) (by omega) (s 2 (by omega) (by omega) (s 3 (by omega) (by omega) (s 4 (by omega) (by omega) (s 5 (by omega) (by omega) he))))))
theorem j9_ev (q j : Nat) (hq : q < X.length) (hq5 : q ≤ 4) (hj5 : j ≤ 5) (hX : ∀ p ∈ X, p.f0.length ≤ 2932031007317 ∧ p.f1.length ≤ 17592186043904) (l : List Lk) (hl : l.length ≤ 12) (c : Int)
    (h : Ev (fun k => quorumlaw12_PlanLocks.l3 k X Y x5 (q : Int) ((j + 1 : Nat) : Int) O P N a0 a1 a2 a3 a4 a5 a6 a7 a8) true) :
    Ev (fun k => quorumlaw12_PlanLocks.j9 k X Y x5 (q : Int) (j : Int) l c c l O P N a0 a1 a2 a3 a4 a5 a6 a7 a8 (X[q]).f0 (X[q]).f1) true := by
  have hx := hX X[q] (List.getElem_mem hq)
  obtain ⟨r, hr⟩ := Locks_ends l (by omega)
  refine Ev.step (fun k => by simp only [quorumlaw12_PlanLocks.j9]; rfl) ?_
  refine Ev.bind0 (show quorumlaw12_num.f c = some c from rfl) (Ev.if_pos (by first | rfl | trivial) (Ev.bind (EqLocks_same l (by omega)) (Ev.if_pos rfl ?_)))
  rw [rdp_at X q hq]
  refine Ev.if_pos (by omega) (Ev.if_pos (by omega) ?_)
  refine Ev.bind (EqPend_same _ _ (by omega) (by omega)) ?_
  refine Ev.step (fun k => by simp only [quorumlaw12_PlanLocks.j10]; rfl) ?_
  refine Ev.if_neg (by simp) ?_
  rw [wrap_succ j (by omega)]
  exact Ev.bind hr h
open Classical in
theorem j7_ev (h11 : a0 = 11) (q j : Nat) (hq : q < X.length) (hq5 : q ≤ 4) (hj : j < Y.length) (hj5 : j ≤ 4) (hX : ∀ p ∈ X, p.f0.length ≤ 2932031007317 ∧ p.f1.length ≤ 17592186043904)
    (h : Ev (fun k => quorumlaw12_PlanLocks.l3 k X Y x5 (q : Int) ((j + 1 : Nat) : Int) O P N a0 a1 a2 a3 a4 a5 a6 a7 a8) true) :
    Ev (fun k => quorumlaw12_PlanLocks.j7 k X Y x5 (q : Int) (j : Int) true O P N a0 a1 a2 a3 a4 a5 a6 a7 a8) true := by
  have h6 : a0 ≠ 6 := by omega
  have hx := hX X[q] (List.getElem_mem hq)
  have h9 := fun l hl c => j9_ev X Y O P N x5 a0 a1 a2 a3 a4 a5 a6 a7 a8 q j hq hq5 (by omega) hX l hl c h
  have hno : Ev (fun k => quorumlaw12_PlanLocks.j8 k X Y x5 (q : Int) (j : Int) [] 1 1 [] false O P N a0 a1 a2 a3 a4 a5 a6 a7 a8 (X[q]).f0 (X[q]).f1) true :=
    Ev.step (fun k => by simp only [quorumlaw12_PlanLocks.j8]; rfl) (Ev.if_neg (by simp) (h9 [] (by simp) 1))
  refine Ev.step (fun k => by simp only [quorumlaw12_PlanLocks.j7]; rfl) ?_
  refine Ev.if_pos (by first | rfl | trivial) (Ev.if_pos (by omega) (Ev.if_pos (by omega) ?_))
  rw [rdp_at X q hq, rdn_at Y j hj]
  refine Ev.bind (CopyPend_ev _ _ hx.1 hx.2) (Ev.if_pos (by omega) (Ev.if_pos (by omega) (Ev.bind (locks_ev a0 a1 a2 a3 a4 a5 a6 a7 a8 h11 (X[q]).f0 (X[q]).f1 Y[j]) (Ev.bind0 (Op_some h6 (by omega) (by omega)) ?_))))
  by_cases ho : plan_Is.ok a0 a1 a2 a3 a4 a5 a6 a7 a8 3 = true
  · refine Ev.if_pos ho (Ev.bind (ref_ev (X[q]).f0 (X[q]).f1) ?_)
    by_cases hm : May (X[q]).f0 (X[q]).f1
    · have hlen : (lks Y[j] (allOf (X[q]).f0)).length ≤ 12 := by
        unfold lks
        rw [List.length_map]
        exact (all_small hm).1
      refine Ev.if_pos (decide_eq_true hm) (Ev.bind0 (numP Y[j] 1073741824) ?_)
      by_cases hn : 0 ≤ Y[j] ∧ Y[j] ≤ 1073741824
      · rw [if_pos ⟨ho, hm, hn⟩, decide_eq_true hn]
        refine Ev.step (fun k => by simp only [quorumlaw12_PlanLocks.j8]; rfl) ?_
        refine Ev.if_pos (by first | rfl | trivial) (Ev.if_pos (by omega) (Ev.if_pos (by omega) (Ev.if_pos (by omega) (Ev.if_pos (by omega) ?_))))
        rw [rdp_at X q hq, rdn_at Y j hj]
        have hL := RefLocks_ev (t := a1) (v := a3) (lo := a4) (hi := a5) (top := a6) (n := a7) (back := a8) (X[q]).f0 (X[q]).f1 Y[j] hm (key_small ho)
        subst h11
        exact Ev.bind hL (h9 _ hlen 0)
      · rw [if_neg (fun h => hn h.2.2), decide_eq_false hn]
        exact hno
    · rw [if_neg (fun h => hm h.2.1)]
      exact Ev.if_neg (fun h => hm (of_decide_eq_true h)) hno
  · rw [if_neg (fun h => ho h.1)]
    exact Ev.if_neg ho hno
theorem j7_end (q : Nat) (hq5 : q ≤ 4) (x10 : Int) (h : Ev (fun k => quorumlaw12_PlanLocks.l2 k X Y x5 ((q + 1 : Nat) : Int) O P N a0 a1 a2 a3 a4 a5 a6 a7 a8) true) :
    Ev (fun k => quorumlaw12_PlanLocks.j7 k X Y x5 (q : Int) x10 false O P N a0 a1 a2 a3 a4 a5 a6 a7 a8) true := by
  refine Ev.step (fun k => by simp only [quorumlaw12_PlanLocks.j7]; rfl) (Ev.if_neg (by simp) ?_)
  rw [wrap_succ q (by omega)]
  exact h
theorem l3_all (h11 : a0 = 11) (q : Nat) (hq : q < X.length) (hq5 : q ≤ 4) (hX : ∀ p ∈ X, p.f0.length ≤ 2932031007317 ∧ p.f1.length ≤ 17592186043904)
    (h : Ev (fun k => quorumlaw12_PlanLocks.l2 k X Y x5 ((q + 1 : Nat) : Int) O P N a0 a1 a2 a3 a4 a5 a6 a7 a8) true) (d : Nat) :
    ∀ j : Nat, j + d = 5 → Ev (fun k => quorumlaw12_PlanLocks.l3 k X Y x5 (q : Int) (j : Int) O P N a0 a1 a2 a3 a4 a5 a6 a7 a8) true := by
  have hend := fun x10 => j7_end X Y O P N x5 a0 a1 a2 a3 a4 a5 a6 a7 a8 q hq5 x10 h
  induction d with
  | zero =>
    intro j hj
    refine Ev.step (fun k => by simp only [quorumlaw12_PlanLocks.l3]; rfl) (Ev.iff (fun _ => ?_) (fun _ => hend _))
    rw [decide_eq_false (by omega)]
    exact hend _
  | succ d ih =>
    intro j hj
    refine Ev.step (fun k => by simp only [quorumlaw12_PlanLocks.l3]; rfl) (Ev.iff (fun h1 => ?_) (fun _ => hend _))
    rw [decide_eq_true (by omega)]
    exact j7_ev X Y O P N x5 a0 a1 a2 a3 a4 a5 a6 a7 a8 h11 q j hq hq5 (by omega) (by omega) hX (ih (j + 1) (by omega))
theorem l2_all (h11 : a0 = 11) (i : Nat) (hi : i ≤ 8) (hX : ∀ p ∈ X, p.f0.length ≤ 2932031007317 ∧ p.f1.length ≤ 17592186043904)
    (h : Ev (fun k => quorumlaw12_PlanLocks.l0 k X Y ((i + 1 : Nat) : Int) O P N) true) (d : Nat) :
    ∀ q : Nat, q + d = 4 → Ev (fun k => quorumlaw12_PlanLocks.l2 k X Y (i : Int) (q : Int) O P N a0 a1 a2 a3 a4 a5 a6 a7 a8) true := by
  have hend : ∀ q : Int, Ev (fun k => quorumlaw12_PlanLocks.j5 k X Y (i : Int) q false O P N a0 a1 a2 a3 a4 a5 a6 a7 a8) true := by
    intro q
    refine Ev.step (fun k => by simp only [quorumlaw12_PlanLocks.j5]; rfl) (Ev.if_neg (by simp) ?_)
    rw [wrap_succ i (by omega)]
    exact h
  induction d with
  | zero =>
    intro q hq
    refine Ev.step (fun k => by simp only [quorumlaw12_PlanLocks.l2]; rfl) (Ev.iff (fun _ => ?_) (fun _ => hend _))
    rw [decide_eq_false (by omega)]
    exact hend _
  | succ d ih =>
    intro q hq
    refine Ev.step (fun k => by simp only [quorumlaw12_PlanLocks.l2]; rfl) (Ev.iff (fun h1 => ?_) (fun _ => hend _))
    rw [decide_eq_true (by omega)]
    refine Ev.step (fun k => by simp only [quorumlaw12_PlanLocks.j5]; rfl) ?_
    refine Ev.if_pos trivial ?_
    exact l3_all X Y O P N (i : Int) a0 a1 a2 a3 a4 a5 a6 a7 a8 h11 q (by omega) (by omega) hX (ih (q + 1) (by omega)) 5 0 (by omega)
end
section
variable (X : List Pd) (Y : List Int) (O : List Opx) (P : List Pd) (N : List Int)
theorem l0_all (hO : ∀ o ∈ O, o.f0 = 11) (hX : ∀ p ∈ X, p.f0.length ≤ 2932031007317 ∧ p.f1.length ≤ 17592186043904) (d : Nat) :
    ∀ i : Nat, i + d = 8 → Ev (fun k => quorumlaw12_PlanLocks.l0 k X Y (i : Int) O P N) true := by
  have hend : ∀ i : Int, Ev (fun k => quorumlaw12_PlanLocks.j1 k X Y i false O P N) true := fun i =>
    Ev.step (fun k => by simp only [quorumlaw12_PlanLocks.j1]; rfl) (Ev.if_neg (by simp) (Ev.bind0 (show quorumlaw12_wakes.f = some true from rfl) (Ev.now true)))
  induction d with
  | zero =>
    intro i hi
    refine Ev.step (fun k => by simp only [quorumlaw12_PlanLocks.l0]; rfl) (Ev.iff (fun _ => ?_) (fun _ => hend _))
    rw [decide_eq_false (by omega)]
    exact hend _
  | succ d ih =>
    intro i hi
    refine Ev.step (fun k => by simp only [quorumlaw12_PlanLocks.l0]; rfl) (Ev.iff (fun h1 => ?_) (fun _ => hend _))
    have hlt : i < O.length := by omega
    rw [decide_eq_true (by omega)]
    refine Ev.step (fun k => by simp only [quorumlaw12_PlanLocks.j1]; rfl) ?_
    refine Ev.if_pos trivial (Ev.if_pos (by omega) (Ev.if_pos (by omega) ?_))
    rw [rdo_at O i hlt]
    have ho := hO O[i] (List.getElem_mem hlt)
    exact l1_all X Y O P N (i : Int) _ _ _ _ _ _ _ _ _ (by omega) (l2_all X Y O P N _ _ _ _ _ _ _ _ _ ho i (by omega) hX (ih (i + 1) (by omega)) 4 0 (by omega))
end
-- whether it is heavy is told
theorem ex_step {α : Type} {F G : Nat → Option α} (h : ∀ k, F (k + 1) = G k) (hx : ∃ r, Ev G r) : ∃ r, Ev F r := let ⟨r, hr⟩ := hx; ⟨r, Ev.step h hr⟩
theorem ex_pos {α : Type} {c : Prop} [Decidable c] {f g : Nat → Option α} (h : c) (hx : ∃ r, Ev f r) : ∃ r, Ev (fun n => if c then f n else g n) r := let ⟨r, hr⟩ := hx; ⟨r, Ev.if_pos h hr⟩
theorem ex_neg {α : Type} {c : Prop} [Decidable c] {f g : Nat → Option α} (h : ¬ c) (hx : ∃ r, Ev g r) : ∃ r, Ev (fun n => if c then f n else g n) r := let ⟨r, hr⟩ := hx; ⟨r, Ev.if_neg h hr⟩
theorem ex_iff {α : Type} {c : Prop} [Decidable c] {f g : Nat → Option α} (h1 : c → ∃ r, Ev f r) (h2 : ¬ c → ∃ r, Ev g r) : ∃ r, Ev (fun n => if c then f n else g n) r := by
  by_cases h : c
  · exact ex_pos h (h1 h)
  · exact ex_neg h (h2 h)
theorem ex_bind {α β : Type} {o : Nat → Option α} {f : Nat → α → Option β} (hx : ∃ a, Ev o a) (h : ∀ a, ∃ r, Ev (fun n => f n a) r) : ∃ r, Ev (fun n => (o n).bind (f n)) r := let ⟨a, ha⟩ := hx; let ⟨r, hr⟩ := h a; ⟨r, Ev.bind ha hr⟩
theorem ops_from (l : List Opx) (hl : l.length ≤ 4611686018427387904) (d : Nat) : ∀ (j : Nat) (n : Int), j + d = l.length → ∃ r, Ev (fun k => quorumlaw0_OpsWeight.l0 k l n (j : Int)) r := by
  have stop : ∀ (n j : Int), ∃ r, Ev (fun k => quorumlaw0_OpsWeight.j1 k l n j false) r := fun n j => ex_step (fun k => by simp only [quorumlaw0_OpsWeight.j1]; rfl) (ex_neg (by simp) ⟨_, Ev.now _⟩)
  induction d with
  | zero =>
    intro j n hj
    exact ex_step (fun k => by simp only [quorumlaw0_OpsWeight.l0]; rfl) (ex_neg (by omega) (stop _ _))
  | succ d ih =>
    intro j n hj
    refine ex_step (fun k => by simp only [quorumlaw0_OpsWeight.l0]; rfl) (ex_pos (by omega) ?_)
    by_cases hn : n < 1048576
    · rw [decide_eq_true hn]
      refine ex_step (fun k => by simp only [quorumlaw0_OpsWeight.j1]; rfl) (ex_pos (by first | rfl | trivial) (ex_pos (by omega) (ex_pos (by omega) ?_)))
      rw [wrap_succ j (by omega)]
      exact ih (j + 1) _ (by omega)
    · rw [decide_eq_false hn]
      exact stop _ _
theorem heavy_from (O : List Opx) (P : List Pd) (N : List Int) (hP : P.length ≤ 4611686018427387904) (hL : ∀ x ∈ P, x.f0.length ≤ 4611686018427387904) (d : Nat) : ∀ (j : Nat) (n : Int), j + d = P.length → ∃ r, Ev (fun k => quorumlaw12_Heavy.l0 k n (j : Int) O P N) r := by
  have stop : ∀ (n j : Int), ∃ r, Ev (fun k => quorumlaw12_Heavy.j1 k n j false O P N) r := fun n j => ex_step (fun k => by simp only [quorumlaw12_Heavy.j1]; rfl) (ex_neg (by simp) ⟨_, Ev.now _⟩)
  induction d with
  | zero =>
    intro j n hj
    exact ex_step (fun k => by simp only [quorumlaw12_Heavy.l0]; rfl) (ex_neg (by omega) (stop _ _))
  | succ d ih =>
    intro j n hj
    have hlt : j < P.length := by omega
    refine ex_step (fun k => by simp only [quorumlaw12_Heavy.l0]; rfl) (ex_pos (by omega) ?_)
    by_cases hn : n < 1048576
    · rw [decide_eq_true hn]
      refine ex_step (fun k => by simp only [quorumlaw12_Heavy.j1]; rfl) (ex_pos (by first | rfl | trivial) (ex_pos (by omega) (ex_pos (by omega) ?_)))
      rw [wrap_succ j (by omega), rdp_at P j hlt]
      exact ex_bind (weight_ends _ (hL _ (List.getElem_mem hlt))) (fun a => ih (j + 1) _ (by omega))
    · rw [decide_eq_false hn]
      exact stop _ _
theorem heavy12_ends (O : List Opx) (P : List Pd) (N : List Int) (hO : O.length ≤ 4611686018427387904) (hP : P.length ≤ 4611686018427387904) (hL : ∀ x ∈ P, x.f0.length ≤ 4611686018427387904) : ∃ b, Ev (fun k => quorumlaw12_Heavy.f k O P N) b := by
  unfold quorumlaw12_Heavy.f
  exact ex_bind (ops_from O hO O.length 0 _ (by omega)) (fun a => heavy_from O P N hP hL P.length 0 _ (by omega))
theorem PlanLocks_true (O : List Opx) (P : List Pd) (N : List Int) (hO : O.length ≤ 4611686018427387904) (hk : ∀ o ∈ O, o.f0 = 11) (hP : P.length ≤ 2932031007317) (hL : ∀ p ∈ P, p.f0.length ≤ 2932031007317 ∧ p.f1.length ≤ 17592186043904) (hN : N.length ≤ 17592186043904) :
    Ev (fun k => quorumlaw12_PlanLocks.f k O P N) true := by
  obtain ⟨b, hb⟩ := heavy12_ends O P N hO (by omega) (fun x hx => by have := (hL x hx).1; omega)
  unfold quorumlaw12_PlanLocks.f
  refine Ev.bind hb (Ev.iff (fun _ => Ev.now true) (fun _ => Ev.bind0 rfl (Ev.if_pos (by simp only [List.length_cons, List.length_nil]; omega) (Ev.bind0 rfl (Ev.if_pos (by simp only [List.length_cons, List.length_nil]; omega) ?_)))))
  refine l0_all _ _ O P N hk (fun p hp => ?_) 8 0 (by omega)
  rcases List.mem_append.1 hp with h | h
  · obtain rfl := List.mem_singleton.1 h
    exact ⟨by simp, by simp⟩
  · exact hL p h
-- each: the script's ops, of one kind
theorem bare_some (a0 a1 : Int) (a2 a3 a4 a5 : ByteArray) (a6 : Bool) (a7 : Int) (a8 : Bool) (h6 : a0 ≠ 6) : ∃ r, quorumlaw12_Bare.f a0 a1 a2 a3 a4 a5 a6 a7 a8 = some r ∧ r.1 = a0 := by
  unfold quorumlaw12_Bare.f
  rw [if_neg h6]
  split
  · exact ⟨_, rfl, rfl⟩
  · split
    · exact ⟨_, rfl, rfl⟩
    · split
      · exact ⟨_, rfl, rfl⟩
      · split
        · exact ⟨_, rfl, rfl⟩
        · exact ⟨_, rfl, rfl⟩
theorem each_true (kind : Int) (h11 : kind = 11) (O : List Opx) (P : List Pd) (N : List Int) (hO : O.length ≤ 1048576) (hP : P.length ≤ 2932031007317) (hL : ∀ p ∈ P, p.f0.length ≤ 2932031007317 ∧ p.f1.length ≤ 17592186043904) (hN : N.length ≤ 17592186043904) :
    Ev (fun k => quorumlaw12_each.f k O P N kind) true := by
  have key : ∀ d j : Nat, ∀ acc : List Opx, j + d = O.length → acc.length = 2 * j → (∀ o ∈ acc, o.f0 = kind) → Ev (fun k => quorumlaw12_each.l0 k kind (j : Int) O P N acc P N) true := by
    intro d
    induction d with
    | zero =>
      intro j acc hj ha hk
      refine Ev.step (fun k => by simp only [quorumlaw12_each.l0]; rfl) (Ev.if_neg (by omega) ?_)
      refine Ev.bind (PlanLocks_true acc P N (by omega) (fun o ho => by rw [hk o ho]; exact h11) hP hL hN) (Ev.if_pos rfl (Ev.bind0 Writes_one (Ev.bind0 Writes_two ?_)))
      rw [beq_self_eq_true]
      exact Ev.now true
    | succ d ih =>
      intro j acc hj ha hk
      have hlt : j < O.length := by omega
      refine Ev.step (fun k => by simp only [quorumlaw12_each.l0]; rfl) (Ev.if_pos (by omega) (Ev.if_pos (by omega) ?_))
      rw [rdo_at O j hlt, wrap_succ j (by omega)]
      obtain ⟨r, hr, hr1⟩ := bare_some kind (O[j]).f1 (O[j]).f2 (O[j]).f3 (O[j]).f4.f0 (O[j]).f4.f1 (O[j]).f4.f2 (O[j]).f5 (O[j]).f6 (by omega)
      refine Ev.bind0 hr (Ev.bind0 rfl (Ev.if_pos (by simp only [List.length_cons, List.length_nil]; omega) (ih (j + 1) _ (by omega) (by simp only [List.length_append, List.length_cons, List.length_nil]; omega) (fun o ho => ?_))))
      rcases List.mem_append.1 ho with h | h
      · exact hk o h
      · rcases List.mem_cons.1 h with rfl | h
        · rfl
        · obtain rfl := List.mem_singleton.1 h
          exact hr1
  exact key O.length 0 [] (by omega) rfl (fun o ho => by cases ho)
end Go.Proofs.Ytbaecdcfefmcgaa.HPlan
