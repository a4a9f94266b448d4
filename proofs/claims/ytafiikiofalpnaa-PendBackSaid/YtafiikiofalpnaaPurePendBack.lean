/- PendBack: the pure statement's proof: back to a savepoint is as it was, whatever came after it, for every input within the reach. -/
import Derived.Test.YtafiikiofalpnaaOpPendBack
import Derived.Test.YtafiikiofalpnaaHPend
set_option linter.unusedSimpArgs false
set_option linter.unusedVariables false
namespace Go.Proofs.Ytafiikiofalpnaa.Pure
open Go.RowKit Go.Proofs.Ytafiikiofalpnaa.PPend Go.Proofs.Ytafiikiofalpnaa.OpPendBack Go.Proofs.Ytafiikiofalpnaa.HNum Go.Proofs.Ytafiikiofalpnaa.HPend Go.Proofs.YtafiikiofalpnaaW.PrintWords Go.Proofs.YtafiikiofalpnaaW.PrintLast
section
variable (P : List Wr) (M : List Int) (A : List S57)
structure Inv (l : List Wr) (m : List Int) : Prop where
  may : May l m
  wr : l.take P.length = P
  mark : m.take (M.length + 1) = M ++ [(P.length : Int)]
theorem Inv.longer {l : List Wr} {m : List Int} (h : Inv P M l m) : M.length < m.length := by
  have h1 := congrArg List.length h.mark
  simp only [List.length_take, List.length_append, List.length_cons, List.length_nil] at h1
  omega
theorem Inv.at {l : List Wr} {m : List Int} (h : Inv P M l m) (hn : M.length < m.length) : m[M.length] = (P.length : Int) := by
  have h1 : (m.take (M.length + 1))[M.length]? = (M ++ [(P.length : Int)])[M.length]? := by rw [h.mark]
  rw [List.getElem?_take_of_lt (Nat.lt_succ_self _), List.getElem?_append_right (Nat.le_refl _), Nat.sub_self, List.getElem?_eq_getElem hn] at h1
  simpa using h1
theorem May.put {l : List Wr} {m : List Int} {w : Wr} (h : May l m) (hl : l.length < 12) (hw : wOK w = true) : May (l ++ [w]) m := by
  refine ⟨by simp; omega, h.marks, fun x hx => ?_, fun i hi hj => ?_⟩
  · rcases List.mem_append.1 hx with h1 | h1
    · exact h.each x h1
    · rw [List.mem_singleton.1 h1]; exact hw
  · obtain ⟨h1, h2, h3⟩ := h.lie i hi hj
    exact ⟨h1, by simp; omega, h3⟩
theorem May.save {l : List Wr} {m : List Int} (h : May l m) (hm : m.length < 6) : May l (m ++ [(l.length : Int)]) := by
  refine ⟨h.few, by simp; omega, h.each, fun i hi hj => ?_⟩
  rw [List.length_append, List.length_singleton] at hi
  by_cases hlt : i < m.length
  · rw [List.getElem_append_left hlt]
    obtain ⟨h1, h2, h3⟩ := h.lie i hlt hj
    refine ⟨h1, h2, fun h0 h4 => ?_⟩
    rw [List.getElem_append_left (by omega)]
    exact h3 h0 (by omega)
  · have : i = m.length := by omega
    subst this
    rw [List.getElem_append_right (Nat.le_refl _)]
    simp only [Nat.sub_self, List.getElem_cons_zero]
    refine ⟨by omega, by omega, fun h0 h4 => ?_⟩
    rw [List.getElem_append_left (by omega)]
    exact (h.lie (m.length - 1) (by omega) (Nat.zero_le _)).2.1
theorem May.release {l : List Wr} {m : List Int} (h : May l m) (n : Nat) : May l (m.take n) := by
  refine ⟨h.few, by simp only [List.length_take]; have := h.marks; omega, h.each, fun i hi hj => ?_⟩
  rw [List.length_take] at hi
  simp only [List.getElem_take]
  obtain ⟨h1, h2, h3⟩ := h.lie i (by omega) hj
  exact ⟨h1, h2, fun h0 h4 => h3 h0 (by omega)⟩
theorem Inv.first (hm : May P M) (h6 : M.length < 6) : Inv P M P (M ++ [(P.length : Int)]) := ⟨May.save hm h6, List.take_length, List.take_of_length_le (by simp)⟩
theorem Inv.put {l : List Wr} {m : List Int} {w : Wr} (h : Inv P M l m) (hl : l.length < 12) (hw : wOK w = true) : Inv P M (l ++ [w]) m := by
  refine ⟨May.put h.may hl hw, ?_, h.mark⟩
  have h1 := congrArg List.length h.wr
  rw [List.length_take] at h1
  rw [List.take_append_of_le_length (by omega)]
  exact h.wr
theorem Inv.save {l : List Wr} {m : List Int} (h : Inv P M l m) (hm : m.length < 6) : Inv P M l (m ++ [(l.length : Int)]) := by
  refine ⟨May.save h.may hm, h.wr, ?_⟩
  have h1 := Inv.longer P M h
  rw [List.take_append_of_le_length (by omega)]
  exact h.mark
theorem Inv.release {l : List Wr} {m : List Int} (h : Inv P M l m) (n : Nat) (hn : M.length < n) : Inv P M l (m.take n) := by
  refine ⟨May.release h.may n, h.wr, ?_⟩
  rw [List.take_take, Nat.min_eq_left (by omega)]
  exact h.mark
open Classical in
theorem back (i : Nat) (hi : i < 20) (l : List Wr) (m : List Int) (h : Inv P M l m) (hn : Ev (fun k => quorumlaw10_PendBack.l0 k (M.length : Int) ((i + 1 : Nat) : Int) P M A P (M ++ [(P.length : Int)]) l m) true) :
    Ev (fun k => quorumlaw10_PendBack.j6 k (M.length : Int) (i : Int) P M A P (M ++ [(P.length : Int)]) l m) true := by
  refine Ev.step (fun k => by simp only [quorumlaw10_PendBack.j6]; rfl) ?_
  have hlt := Inv.longer P M h
  have hr := Return_ev l m M.length h.may hlt
  rw [Inv.at P M h hlt, h.mark, show ((P.length : Int)).toNat = P.length from by omega, h.wr] at hr
  have h6 := h.may.marks
  have h12 := h.may.few
  have h1 := congrArg List.length h.wr
  rw [List.length_take] at h1
  rw [wrap_succ i (by omega)]
  refine Ev.bind hr (Ev.bind0 (num_eq _) (Ev.if_pos rfl (Ev.bind (EqPend_same P (M ++ [(P.length : Int)]) (by omega) (by simp; omega)) (Ev.if_pos rfl hn))))
open Classical in
theorem done (i : Nat) (hi : i < 20) (l : List Wr) (m : List Int) (b : Bool) (hb : b = true → M.length + 1 < m.length) (h : Inv P M l m) (hn : ∀ l m, Inv P M l m → Ev (fun k => quorumlaw10_PendBack.l0 k (M.length : Int) ((i + 1 : Nat) : Int) P M A P (M ++ [(P.length : Int)]) l m) true) :
    Ev (fun k => quorumlaw10_PendBack.j5 k (M.length : Int) (i : Int) b P M A P (M ++ [(P.length : Int)]) l m) true := by
  refine Ev.step (fun k => by simp only [quorumlaw10_PendBack.j5]; rfl) ?_
  refine Ev.iff (fun h1 => ?_) (fun _ => back P M A i hi l m h (hn l m h))
  have hlt := hb h1
  have h6 := h.may.marks
  have h12 := h.may.few
  rw [wrap_pred m.length (by omega) (by omega)]
  have hx := Inv.release P M h (m.length - 1) (by omega)
  refine Ev.bind (Release_ev l m (m.length - 1) h.may (by omega)) (Ev.bind0 (num_eq _) (Ev.if_pos rfl (Ev.bind (EqWrites_same l (by omega)) (Ev.if_pos rfl ?_))))
  exact back P M A i hi l _ hx (hn l _ hx)
open Classical in
theorem told (i : Nat) (hi : i < 20) (hA : i < A.length) (l l' : List Wr) (m m' : List Int) (e : Int) (h : Inv P M l m) (h' : e = 0 → Inv P M l' m') (hn : ∀ l m, Inv P M l m → Ev (fun k => quorumlaw10_PendBack.l0 k (M.length : Int) ((i + 1 : Nat) : Int) P M A P (M ++ [(P.length : Int)]) l m) true) :
    Ev (fun k => quorumlaw10_PendBack.j4 k (M.length : Int) (i : Int) e P M A P (M ++ [(P.length : Int)]) l m l' m') true := by
  refine Ev.step (fun k => by simp only [quorumlaw10_PendBack.j4]; rfl) ?_
  refine Ev.bind0 (num_eq _) (Ev.iff (fun h0 => Ev.if_pos (by omega) (Ev.if_pos (by omega) ?_)) (fun _ => ?_))
  · have hx := h' h0
    have h6 := Inv.longer P M h
    have h7 := h.may.marks
    rw [wrap_succ M.length (by omega)]
    refine Ev.iff (fun _ => done P M A i hi l' m' _ (fun h3 => ?_) hx hn) (fun _ => done P M A i hi l' m' _ (fun h3 => by simp at h3) hx hn)
    rw [decide_eq_true_eq] at h3
    omega
  · rw [wrap_succ i (by omega)]
    exact hn l m h
open Classical in
theorem act (i : Nat) (hi : i < 20) (hA : i < A.length) (l : List Wr) (m : List Int) (b : Bool) (h : Inv P M l m) (hn : ∀ l m, Inv P M l m → Ev (fun k => quorumlaw10_PendBack.l0 k (M.length : Int) ((i + 1 : Nat) : Int) P M A P (M ++ [(P.length : Int)]) l m) true) :
    Ev (fun k => quorumlaw10_PendBack.j3 k (M.length : Int) (i : Int) b P M A P (M ++ [(P.length : Int)]) l m) true := by
  refine Ev.step (fun k => by simp only [quorumlaw10_PendBack.j3]; rfl) ?_
  refine Ev.iff (fun _ => Ev.if_pos (by omega) (Ev.if_pos (by omega) (Ev.bind (Put_ev l m (rd_T57 A (i : Int)).f2) ?_))) (fun _ => Ev.bind (Save_ev l m) ?_)
  · refine told P M A i hi hA l _ m _ _ h (fun h0 => ?_) hn
    revert h0
    by_cases hw : wOK (rd_T57 A (i : Int)).f2 = true
    · rw [if_pos ⟨h.may, hw⟩]
      by_cases h12 : 12 ≤ l.length
      · rw [if_pos h12]; intro h0; simp at h0
      · rw [if_neg h12]; exact fun _ => Inv.put P M h (by omega) hw
    · rw [if_neg (fun h2 => hw h2.2)]; intro h0; simp at h0
  · refine told P M A i hi hA l _ m _ _ h (fun h0 => ?_) hn
    revert h0
    rw [if_pos h.may]
    by_cases h6 : 6 ≤ m.length
    · rw [if_pos h6]; intro h0; simp at h0
    · rw [if_neg h6]; exact fun _ => Inv.save P M h (by omega)
theorem ends (i : Int) (l l' : List Wr) (m m' : List Int) (n : Int) : Ev (fun k => quorumlaw10_PendBack.j2 k n i false P M A l' m' l m) true := by
  refine Ev.step (fun k => by simp only [quorumlaw10_PendBack.j2]; rfl) (Ev.if_neg (by simp) (Ev.bind wakes_true (Ev.now true)))
theorem acts (d : Nat) : ∀ i : Nat, i + d = 20 → ∀ l m, Inv P M l m → Ev (fun k => quorumlaw10_PendBack.l0 k (M.length : Int) (i : Int) P M A P (M ++ [(P.length : Int)]) l m) true := by
  induction d with
  | zero =>
    intro i hi l m h
    refine Ev.step (fun k => by simp only [quorumlaw10_PendBack.l0]; rfl) (Ev.iff (fun _ => ?_) (fun _ => ends P M A _ _ _ _ _ _))
    rw [decide_eq_false (by omega)]
    exact ends P M A _ _ _ _ _ _
  | succ d ih =>
    intro i hi l m h
    refine Ev.step (fun k => by simp only [quorumlaw10_PendBack.l0]; rfl) (Ev.iff (fun hA => ?_) (fun _ => ends P M A _ _ _ _ _ _))
    rw [decide_eq_true (by omega)]
    refine Ev.step (fun k => by simp only [quorumlaw10_PendBack.j2]; rfl) (Ev.if_pos (by simp) (Ev.iff (fun _ => ?_) (fun _ => ?_)))
    · exact act P M A i (by omega) (by omega) l m _ h (ih (i + 1) (by omega))
    · exact act P M A i (by omega) (by omega) l m _ h (ih (i + 1) (by omega))
end
open Classical in
theorem PendBack : OpPendBack.Pure := by
  intro P M A hP hM hA
  obtain ⟨b, hb⟩ := heavy_ends P M A (by have := hP.2.1; omega) (by have := hA.2.1; omega)
  refine Ev.rounds ?_
  unfold quorumlaw10_PendBack.f
  have hyes : Ev (fun k => quorumlaw10_PendBack.j0 k true P M A) true := Ev.step (fun k => by simp only [quorumlaw10_PendBack.j0]; rfl) (Ev.if_pos (by simp) (Ev.now true))
  refine Ev.bind hb (Ev.iff (fun _ => hyes) (fun _ => Ev.bind (ref_ev P M) ?_))
  by_cases hm : May P M
  · rw [decide_eq_true hm]
    refine Ev.step (fun k => by simp only [quorumlaw10_PendBack.j0]; rfl) (Ev.if_neg (by simp) (Ev.bind (Save_ev P M) ?_))
    rw [if_pos hm]
    have h6 := hm.marks
    by_cases h : 6 ≤ M.length
    · rw [if_pos h]
      exact Ev.bind0 (num_eq _) (Ev.if_neg (by simp) (Ev.if_pos (by omega) (Ev.bind wakes_true (Ev.now true))))
    · rw [if_neg h]
      exact Ev.bind0 (num_eq _) (Ev.if_pos rfl (acts P M A 20 0 (by omega) P _ (Inv.first P M hm (by omega))))
  · rw [decide_eq_false hm]
    exact hyes
end Go.Proofs.Ytafiikiofalpnaa.Pure
