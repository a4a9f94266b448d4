/- What the functions of package page and the reference's page come to, in plain words over lists: whether a page may be, a record more, another one, one less. -/
import Derived.Test.YtoodkefpkgbjcaaPPgbx3
import Derived.Test.YtoodkefpkgbjcaaPPgbx4
import Derived.Test.YtoodkefpkgbjcaaPPgbx6
import Derived.Test.YtoodkefpkgbjcaaPPgbx8
import Derived.Test.YtoodkefpkgbjcaaPPgbx7
import Derived.Test.YtoodkefpkgbjcaaPPgbx4
import Derived.Test.YtoodkefpkgbjcaaPPgbx1
import Derived.Test.YtoodkefpkgbjcaaHNum
set_option linter.unusedSimpArgs false
set_option linter.unusedVariables false
namespace Go.Proofs.Ytoodkefpkgbjcaa.HPage
open Go.RowKit Go.Proofs.Ytoodkefpkgbjcaa.PPgb Go.Proofs.Ytoodkefpkgbjcaa.HNum Go.Proofs.YtoodkefpkgbjcaaW.PrintWords Go.Proofs.YtoodkefpkgbjcaaW.PrintLast
abbrev Bs := ByteArray
theorem rdn_at (l : List Int) (j : Nat) (h : j < l.length) : rd l (j : Int) = l[j] := by simp [rd, h]
theorem rds_at (l : List Bs) (j : Nat) (h : j < l.length) : rdOf ByteArray.empty l (j : Int) = l[j] := by simp [rdOf, h]
theorem wrap_less (n : Nat) (h : n ≤ 4611686018427387904) : wrap64 ((n : Int) - 1) = (n : Int) - 1 := by unfold wrap64; omega
theorem wrap_less2 (n : Nat) (h : n ≤ 4611686018427387904) : wrap64 ((n : Int) - 2) = (n : Int) - 2 := by unfold wrap64; omega
theorem num_eq (x : Int) : quorumlaw5_num.f x = some x := rfl
theorem toList_nil (s : Bs) : s.toList = ([] : List UInt8) ↔ s.size = 0 := by
  rw [ByteArray.toList_eq]
  have : s.data.toList.length = s.size := Array.length_toList
  constructor
  · intro h
    rw [h] at this
    simpa using this.symm
  · intro h
    exact List.eq_nil_of_length_eq_zero (by omega)

/-! how many bytes -/
def bd (S : List Bs) : Prop := ∀ s ∈ S, s.size ≤ 140737488351232
def sz (S : List Bs) : Nat := (S.map fun s => s.size + 4).sum
theorem sz_cons (s : Bs) (S : List Bs) : sz (s :: S) = s.size + 4 + sz S := by simp [sz]
theorem sz_bd (S : List Bs) (n : Nat) (h : sz S ≤ n) : ∀ s ∈ S, s.size ≤ n := by
  induction S with
  | nil => intro s hs; cases hs
  | cons a S ih =>
    rw [sz_cons] at h
    intro s hs
    rcases List.mem_cons.1 hs with rfl | hs
    · omega
    · have := ih (by omega) s hs; omega
theorem drop_at {α : Type} (S : List α) (j : Nat) (h : j < S.length) : S.drop j = S[j] :: S.drop (j + 1) := List.drop_eq_getElem_cons h
theorem size_from (S : List Bs) (h16 : S.length ≤ 16) (hb : bd S) (d : Nat) : ∀ (j acc : Nat), j + d = S.length → acc ≤ j * 140737488351236 → Ev (fun k => page_size.l0 k (acc : Int) S (S.length : Int) (j : Int)) ((acc + sz (S.drop j) : Nat) : Int) := by
  induction d with
  | zero =>
    intro j acc hj ha
    rw [List.drop_eq_nil_of_le (by omega)]
    exact Ev.step (fun k => by simp only [page_size.l0]; rfl) (Ev.if_neg (by omega) (Ev.now _))
  | succ d ih =>
    intro j acc hj ha
    have hlt : j < S.length := by omega
    have hs := hb _ (List.getElem_mem hlt)
    refine Ev.step (fun k => by simp only [page_size.l0]; rfl) (Ev.if_pos (by omega) (Ev.if_pos (by omega) (Ev.if_pos (by omega) ?_)))
    rw [rds_at S j hlt, wrap_succ j (by omega), show wrap64 ((acc : Int) + wrap64 ((S[j].size : Int) + 4)) = ((acc + (S[j].size + 4) : Nat) : Int) from by unfold wrap64; omega]
    have := ih (j + 1) (acc + (S[j].size + 4)) (by omega) (by omega)
    rw [drop_at S j hlt, sz_cons]
    rw [show acc + (S[j].size + 4 + sz (S.drop (j + 1))) = acc + (S[j].size + 4) + sz (S.drop (j + 1)) from by omega]
    exact this
theorem size_ev (S : List Bs) (h16 : S.length ≤ 16) (hb : bd S) : Ev (fun k => page_size.f k S) (sz S : Int) := by
  have := size_from S h16 hb S.length 0 0 (by omega) (by omega)
  simpa [page_size.f] using this
theorem bytes_from (S : List Bs) (F : List Int) (h16 : S.length ≤ 17) (hb : bd S) (d : Nat) : ∀ (j acc : Nat), j + d = S.length → acc ≤ 100 + j * 140737488351236 → Ev (fun k => quorumref4_Bytes.l0 k (acc : Int) (j : Int) S F) ((acc + (((S.drop j).map fun s => s.size).sum) : Nat) : Int) := by
  induction d with
  | zero =>
    intro j acc hj ha
    rw [List.drop_eq_nil_of_le (by omega)]
    exact Ev.step (fun k => by simp only [quorumref4_Bytes.l0]; rfl) (Ev.if_neg (by omega) (by simpa using Ev.now (acc : Int)))
  | succ d ih =>
    intro j acc hj ha
    have hlt : j < S.length := by omega
    have hs := hb _ (List.getElem_mem hlt)
    refine Ev.step (fun k => by simp only [quorumref4_Bytes.l0]; rfl) (Ev.if_pos (by omega) (Ev.if_pos (by omega) ?_))
    rw [rds_at S j hlt, wrap_succ j (by omega), show wrap64 ((acc : Int) + (S[j].size : Int)) = ((acc + S[j].size : Nat) : Int) from by unfold wrap64; omega]
    have := ih (j + 1) (acc + S[j].size) (by omega) (by omega)
    rw [drop_at S j hlt, List.map_cons, List.sum_cons, ← Nat.add_assoc]
    exact this
theorem sz_eq (S : List Bs) : sz S = 4 * S.length + (S.map fun s => s.size).sum := by
  induction S with
  | nil => rfl
  | cons a S ih => rw [sz_cons, ih]; simp; omega
theorem bytes_ev (S : List Bs) (F : List Int) (h16 : S.length ≤ 17) (hb : bd S) : Ev (fun k => quorumref4_Bytes.f k S F) (sz S : Int) := by
  have := bytes_from S F h16 hb S.length 0 (4 * S.length) (by omega) (by omega)
  rw [List.drop_zero, ← sz_eq] at this
  unfold quorumref4_Bytes.f
  rw [show wrap64 (4 * (S.length : Int)) = ((4 * S.length : Nat) : Int) from by unfold wrap64; omega]
  exact this

/-! is a number there -/
theorem index_from (F : List Int) (x : Int) (hF : F.length ≤ 4611686018427387904) (d : Nat) : ∀ j, j + d = F.length → ∃ r, Ev (fun k => slices_Index_int_int.l0 k F x (F.length : Int) (j : Int)) r ∧ (0 ≤ r ↔ x ∈ F.drop j) := by
  induction d with
  | zero =>
    intro j hj
    refine ⟨-1, Ev.step (fun k => by simp only [slices_Index_int_int.l0]; rfl) (Ev.if_neg (by omega) (Ev.now _)), ?_⟩
    rw [List.drop_eq_nil_of_le (by omega)]
    simp
  | succ d ih =>
    intro j hj
    have hlt : j < F.length := by omega
    by_cases h : x = F[j]
    · refine ⟨j, Ev.step (fun k => by simp only [slices_Index_int_int.l0]; rfl) (Ev.if_pos (by omega) (Ev.if_pos (by omega) (Ev.if_pos (by omega) (Ev.if_pos (by rw [rdn_at F j hlt]; exact h) (Ev.now _))))), ?_⟩
      rw [drop_at F j hlt, ← h]
      simp
    · obtain ⟨r, hr, hrx⟩ := ih (j + 1) (by omega)
      refine ⟨r, Ev.step (fun k => by simp only [slices_Index_int_int.l0]; rfl) (Ev.if_pos (by omega) (Ev.if_pos (by omega) (Ev.if_pos (by omega) (Ev.if_neg (by rw [rdn_at F j hlt]; exact h) ?_)))), ?_⟩
      · rw [wrap_succ j (by omega)]; exact hr
      · rw [hrx, drop_at F j hlt, List.mem_cons]
        exact ⟨fun h => .inr h, fun h2 => h2.resolve_left h⟩
theorem contains_ev (F : List Int) (x : Int) (hF : F.length ≤ 4611686018427387904) : Ev (fun k => slices_Contains_int_int.f k F x) (decide (x ∈ F)) := by
  obtain ⟨r, hr, hx⟩ := index_from F x hF F.length 0 (by omega)
  refine Ev.bind hr ?_
  rw [List.drop_zero] at hx
  have : decide (r ≥ 0) = decide (x ∈ F) := by rw [decide_eq_decide]; exact hx
  rw [this]
  exact Ev.now _

/-! may a page be -/
def FreeFrom (S : List Bs) (F : List Int) (j : Nat) : Prop := ∀ i (h : i < F.length), j ≤ i → 0 ≤ F[i] ∧ F[i] + 2 ≤ (S.length : Int) ∧ (rdOf ByteArray.empty S F[i]).toList = [] ∧ (0 < i → ∀ h2 : i - 1 < F.length, F[i - 1] < F[i])
def FreeP (S : List Bs) (F : List Int) (j : Nat) : Prop := ∀ i (h : i < F.length), j ≤ i → 0 ≤ F[i] ∧ F[i] < (S.length : Int) ∧ (rdOf ByteArray.empty S F[i]).toList = [] ∧ (0 < i → ∀ h2 : i - 1 < F.length, F[i - 1] < F[i])
theorem free_two (S : List Bs) (F : List Int) : FreeFrom S F 0 ↔ FreeP S F 0 ∧ ((S.length : Int) - 1) ∉ F := by
  constructor
  · intro h
    refine ⟨fun i hi hj => ?_, fun hm => ?_⟩
    · obtain ⟨h1, h2, h3, h4⟩ := h i hi hj
      exact ⟨h1, by omega, h3, h4⟩
    · obtain ⟨i, hi, e⟩ := List.mem_iff_getElem.1 hm
      have := (h i hi (Nat.zero_le _)).2.1
      omega
  · rintro ⟨h, hn⟩ i hi hj
    obtain ⟨h1, h2, h3, h4⟩ := h i hi hj
    refine ⟨h1, ?_, h3, h4⟩
    have : F[i] ≠ (S.length : Int) - 1 := fun e => hn (e ▸ List.getElem_mem hi)
    omega
structure May (S : List Bs) (F : List Int) : Prop where
  few : S.length ≤ 16
  room : sz S ≤ 200
  free : FreeFrom S F 0
theorem FreeP.step {S : List Bs} {F : List Int} {j : Nat} (hj : j < F.length) : FreeP S F j ↔ (0 ≤ F[j] ∧ F[j] < (S.length : Int) ∧ (rdOf ByteArray.empty S F[j]).toList = [] ∧ (0 < j → ∀ h2 : j - 1 < F.length, F[j - 1] < F[j])) ∧ FreeP S F (j + 1) := by
  constructor
  · intro h
    exact ⟨h j hj (Nat.le_refl _), fun i hi hji => h i hi (by omega)⟩
  · rintro ⟨h1, h2⟩ i hi hji
    rcases Nat.eq_or_lt_of_le hji with rfl | h3
    · exact h1
    · exact h2 i hi h3
theorem FreeFrom.step {S : List Bs} {F : List Int} {j : Nat} (hj : j < F.length) : FreeFrom S F j ↔ (0 ≤ F[j] ∧ F[j] + 2 ≤ (S.length : Int) ∧ (rdOf ByteArray.empty S F[j]).toList = [] ∧ (0 < j → ∀ h2 : j - 1 < F.length, F[j - 1] < F[j])) ∧ FreeFrom S F (j + 1) := by
  constructor
  · intro h
    exact ⟨h j hj (Nat.le_refl _), fun i hi hji => h i hi (by omega)⟩
  · rintro ⟨h1, h2⟩ i hi hji
    rcases Nat.eq_or_lt_of_le hji with rfl | h3
    · exact h1
    · exact h2 i hi h3
theorem free_true (F : List Int) (S : List Bs) (n j : Int) : Ev (fun k => page_free.j1 k F n j true S F) false := Ev.step (fun k => by simp only [page_free.j1]; rfl) (Ev.if_pos (by trivial) (Ev.now _))
theorem free_false {F : List Int} {S : List Bs} {n : Int} {j : Nat} {b : Bool} (hj : j < 9223372036854775807) (h : Ev (fun k => page_free.l0 k F n ((j + 1 : Nat) : Int) S F) b) : Ev (fun k => page_free.j1 k F n (j : Int) false S F) b :=
  Ev.step (fun k => by simp only [page_free.j1]; rfl) (Ev.if_neg (by simp) (by rw [wrap_succ j hj]; exact h))
theorem free_from (S : List Bs) (F : List Int) (hS : S.length ≤ 16) (hF : F.length ≤ 4611686018427387904) (b : Bool) (d : Nat) : ∀ j, j + d = F.length → (b = true ↔ FreeP S F j ∧ ((S.length : Int) - 1) ∉ F) → Ev (fun k => page_free.l0 k F (F.length : Int) (j : Int) S F) b := by
  induction d with
  | zero =>
    intro j hj hb
    refine Ev.step (fun k => by simp only [page_free.l0]; rfl) (Ev.if_neg (by omega) ?_)
    rw [wrap_less S.length (by omega)]
    refine Ev.bind (contains_ev F _ hF) ?_
    have : b = !decide (((S.length : Int) - 1) ∈ F) := by
      rw [Bool.eq_iff_iff, hb]
      simp only [Bool.not_eq_true', decide_eq_false_iff_not]
      exact ⟨fun h => h.2, fun h => ⟨fun i hi hji => by omega, h⟩⟩
    rw [this]
    exact Ev.now _
  | succ d ih =>
    intro j hj hb
    have hlt : j < F.length := by omega
    rw [FreeP.step hlt] at hb
    refine Ev.step (fun k => by simp only [page_free.l0]; rfl) (Ev.if_pos (by omega) (Ev.if_pos (by omega) (Ev.if_pos (by omega) ?_)))
    rw [rdn_at F j hlt]
    refine Ev.iff (fun h1 => ?_) (fun h1 => Ev.iff (fun h2 => ?_) (fun h2 => Ev.if_pos (by omega) (Ev.if_pos (by omega) (Ev.iff (fun h3 => ?_) (fun h3 => ?_)))))
    · have : b = false := by rw [← Bool.not_eq_true, hb]; rintro ⟨⟨h, _⟩, _⟩; omega
      subst this; exact free_true _ _ _ _
    · have : b = false := by rw [← Bool.not_eq_true, hb]; rintro ⟨⟨⟨_, h, _⟩, _⟩, _⟩; omega
      subst this; exact free_true _ _ _ _
    · refine Ev.iff (fun h0 => ?_) (fun h0 => free_false (by omega) (ih (j + 1) (by omega) ?_))
      · have h0' : 0 < j := by omega
        have hlt1 : j - 1 < F.length := by omega
        rw [wrap_pred j h0' (by omega), rdn_at F (j - 1) hlt1]
        refine Ev.if_pos (by omega) (Ev.if_pos (by omega) ?_)
        by_cases hc : F[j] ≤ F[j - 1]
        · have : b = false := by rw [← Bool.not_eq_true, hb]; rintro ⟨⟨⟨_, _, _, h⟩, _⟩, _⟩; have := h h0' hlt1; omega
          subst this
          rw [decide_eq_true hc]
          exact free_true _ _ _ _
        · rw [decide_eq_false hc]
          refine free_false (by omega) (ih (j + 1) (by omega) ?_)
          rw [hb]
          exact ⟨fun h => ⟨h.1.2, h.2⟩, fun h => ⟨⟨⟨by omega, by omega, h3, fun _ _ => by omega⟩, h.1⟩, h.2⟩⟩
      · rw [hb]
        exact ⟨fun h => ⟨h.1.2, h.2⟩, fun h => ⟨⟨⟨by omega, by omega, h3, fun _ _ => by omega⟩, h.1⟩, h.2⟩⟩
    · have : b = false := by rw [← Bool.not_eq_true, hb]; rintro ⟨⟨⟨_, _, h, _⟩, _⟩, _⟩; exact h3 h
      subst this; exact free_true _ _ _ _
open Classical in
theorem may_ev (S : List Bs) (F : List Int) (hb : bd S) (hF : F.length ≤ 4611686018427387904) : Ev (fun k => page_may.f k S F) (decide (May S F)) := by
  unfold page_may.f
  refine Ev.iff (fun h1 => Ev.bind (size_ev S (by omega) hb) (Ev.iff (fun h2 => ?_) (fun h2 => ?_))) (fun h1 => ?_)
  · refine Ev.bind (free_from S F (by omega) hF (decide (May S F)) F.length 0 (by omega) ?_) (Ev.now _)
    rw [decide_eq_true_eq, ← free_two]
    exact ⟨fun h => h.free, fun h => ⟨by omega, by omega, h⟩⟩
  · rw [decide_eq_false (fun h => by have := h.room; omega)]
    exact Ev.now _
  · rw [decide_eq_false (fun h => by have := h.few; omega)]
    exact Ev.now _
theorem refpage_true (S : List Bs) (F : List Int) (j : Int) : Ev (fun k => quorumref4_Page.j2 k j true S F) false := Ev.step (fun k => by simp only [quorumref4_Page.j2]; rfl) (Ev.if_pos (by trivial) (Ev.now _))
theorem refpage_false {S : List Bs} {F : List Int} {j : Nat} {b : Bool} (hj : j < 9223372036854775807) (h : Ev (fun k => quorumref4_Page.l0 k ((j + 1 : Nat) : Int) S F) b) : Ev (fun k => quorumref4_Page.j2 k (j : Int) false S F) b :=
  Ev.step (fun k => by simp only [quorumref4_Page.j2]; rfl) (Ev.if_neg (by simp) (by rw [wrap_succ j hj]; exact h))
theorem num2_eq (a b : Int) : quorumref0_Num.f a b = some (decide (0 ≤ a ∧ a ≤ b)) := by
  unfold quorumref0_Num.f
  by_cases h : a ≥ 0
  · rw [if_pos h]; simp [h]
  · rw [if_neg h]; congr 1; symm; rw [decide_eq_false_iff_not]; omega
theorem refpage_from (S : List Bs) (F : List Int) (hS : S.length ≤ 16) (hF : F.length ≤ 4611686018427387904) (b : Bool) (d : Nat) : ∀ j, j + d = F.length → (b = true ↔ FreeFrom S F j) → Ev (fun k => quorumref4_Page.l0 k (j : Int) S F) b := by
  induction d with
  | zero =>
    intro j hj hb
    have : b = true := hb.2 (fun i hi hji => by omega)
    subst this
    exact Ev.step (fun k => by simp only [quorumref4_Page.l0]; rfl) (Ev.if_neg (by omega) (Ev.now _))
  | succ d ih =>
    intro j hj hb
    have hlt : j < F.length := by omega
    rw [FreeFrom.step hlt] at hb
    refine Ev.step (fun k => by simp only [quorumref4_Page.l0]; rfl) (Ev.if_pos (by omega) (Ev.if_pos (by omega) ?_))
    rw [rdn_at F j hlt, wrap_less2 S.length (by omega)]
    refine Ev.bind0 (num2_eq _ _) (Ev.iff (fun h1 => ?_) (fun h1 => ?_))
    · rw [decide_eq_true_eq] at h1
      have last : ∀ (hp : 0 < j → ∀ h2 : j - 1 < F.length, F[j - 1] < F[j]), Ev (fun k => quorumref4_Page.j2 k (j : Int) ((rdOf ByteArray.empty S F[j]).toList != ([] : List UInt8)) S F) b := fun hp => by
        by_cases h3 : (rdOf ByteArray.empty S F[j]).toList = []
        · rw [show ((rdOf ByteArray.empty S F[j]).toList != ([] : List UInt8)) = false from by simp [h3]]
          refine refpage_false (by omega) (ih (j + 1) (by omega) ?_)
          rw [hb]
          exact ⟨fun h => h.2, fun h => ⟨⟨h1.1, by omega, h3, hp⟩, h⟩⟩
        · rw [show ((rdOf ByteArray.empty S F[j]).toList != ([] : List UInt8)) = true from by simp [h3]]
          have : b = false := by rw [← Bool.not_eq_true, hb]; rintro ⟨⟨_, _, h, _⟩, _⟩; exact h3 h
          subst this; exact refpage_true _ _ _
      refine Ev.iff (fun h0 => ?_) (fun h0 => Ev.if_pos (by omega) (Ev.if_pos (by omega) (last (fun h => by omega))))
      have h0' : 0 < j := by omega
      have hlt1 : j - 1 < F.length := by omega
      rw [wrap_pred j h0' (by omega), rdn_at F (j - 1) hlt1]
      refine Ev.if_pos (by omega) (Ev.if_pos (by omega) (Ev.iff (fun hc => ?_) (fun hc => Ev.if_pos (by omega) (Ev.if_pos (by omega) (last (fun _ _ => by omega))))))
      have : b = false := by rw [← Bool.not_eq_true, hb]; rintro ⟨⟨_, _, _, h⟩, _⟩; have := h h0' hlt1; omega
      subst this; exact refpage_true _ _ _
    · rw [decide_eq_true_eq] at h1
      have : b = false := by rw [← Bool.not_eq_true, hb]; rintro ⟨⟨h2, h3, _⟩, _⟩; omega
      subst this; exact refpage_true _ _ _
open Classical in
theorem refpage_ev (S : List Bs) (F : List Int) (hb : bd S) (hF : F.length ≤ 4611686018427387904) : Ev (fun k => quorumref4_Page.f k S F) (decide (May S F)) := by
  unfold quorumref4_Page.f
  have hno : ∀ (h : ¬ May S F), Ev (fun k => quorumref4_Page.j0 k true S F) (decide (May S F)) := fun h => by
    rw [decide_eq_false h]
    exact Ev.step (fun k => by simp only [quorumref4_Page.j0]; rfl) (Ev.if_pos (by trivial) (Ev.now _))
  refine Ev.iff (fun h => hno (fun h2 => by have := h2.few; omega)) (fun h1 => Ev.bind (bytes_ev S F (by omega) hb) ?_)
  by_cases h2 : (sz S : Int) > 200
  · rw [decide_eq_true h2]
    exact hno (fun h => by have := h.room; omega)
  · rw [decide_eq_false h2]
    refine Ev.step (fun k => by simp only [quorumref4_Page.j0]; rfl) (Ev.if_neg (by simp) (refpage_from S F (by omega) hF _ F.length 0 (by omega) ?_))
    rw [decide_eq_true_eq]
    exact ⟨fun h => h.free, fun h => ⟨by omega, by omega, h⟩⟩

/-! the same page -/
theorem eqs_from (S : List Bs) (hS : S.length ≤ 4611686018427387904) (d : Nat) : ∀ j, j + d = S.length → Ev (fun k => quorumref0_EqStrings.l0 k S S (j : Int)) true := by
  induction d with
  | zero => intro j hj; exact Ev.step (fun k => by simp only [quorumref0_EqStrings.l0]; rfl) (Ev.if_neg (by omega) (Ev.now _))
  | succ d ih =>
    intro j hj
    refine Ev.step (fun k => by simp only [quorumref0_EqStrings.l0]; rfl) (Ev.if_pos (by omega) (Ev.if_pos (by omega) (Ev.if_pos (by omega) (Ev.if_pos (by trivial) ?_))))
    rw [wrap_succ j (by omega)]
    exact ih (j + 1) (by omega)
theorem eqn_from (F : List Int) (hF : F.length ≤ 4611686018427387904) (d : Nat) : ∀ j, j + d = F.length → Ev (fun k => quorumref0_EqNumbers.l0 k F F (j : Int)) true := by
  induction d with
  | zero => intro j hj; exact Ev.step (fun k => by simp only [quorumref0_EqNumbers.l0]; rfl) (Ev.if_neg (by omega) (Ev.now _))
  | succ d ih =>
    intro j hj
    refine Ev.step (fun k => by simp only [quorumref0_EqNumbers.l0]; rfl) (Ev.if_pos (by omega) (Ev.if_pos (by omega) (Ev.if_pos (by omega) (Ev.if_pos (by trivial) ?_))))
    rw [wrap_succ j (by omega)]
    exact ih (j + 1) (by omega)
theorem eq_same (S : List Bs) (F : List Int) (hS : S.length ≤ 4611686018427387904) (hF : F.length ≤ 4611686018427387904) : Ev (fun k => quorumref0_EqPage.f k S F S F) true := by
  unfold quorumref0_EqPage.f quorumref0_EqStrings.f quorumref0_EqNumbers.f
  exact Ev.bind (Ev.if_pos (by trivial) (eqs_from S hS S.length 0 (by omega))) (Ev.if_pos (by trivial) (Ev.bind (Ev.if_pos (by trivial) (eqn_from F hF F.length 0 (by omega))) (Ev.now _)))
end Go.Proofs.Ytoodkefpkgbjcaa.HPage
