/- What package page's Add, Get and Cut come to on a page, as plain functions on lists, and that a page that may be stays one. -/
import Derived.Test.YtoodkefpkgbjcaaHPage
set_option linter.unusedSimpArgs false
set_option linter.unusedVariables false
namespace Go.Proofs.Ytoodkefpkgbjcaa.HPage
open Go.RowKit Go.Proofs.Ytoodkefpkgbjcaa.PPgb Go.Proofs.Ytoodkefpkgbjcaa.HNum Go.Proofs.YtoodkefpkgbjcaaW.PrintWords Go.Proofs.YtoodkefpkgbjcaaW.PrintLast
theorem clone_s (S : List Bs) (h : S.length < 8796093022208) : slices_Clone_string_string.f S = some S := by unfold slices_Clone_string_string.f; rw [if_pos h]
theorem clone_n (F : List Int) (h : F.length < 17592186044416) : slices_Clone_int_int.f F = some F := by unfold slices_Clone_int_int.f; rw [if_pos h]
/-- A page within the reach. -/
structure Wf (S : List Bs) (F : List Int) : Prop where
  ls : S.length ≤ 8796093022000
  lf : F.length ≤ 17592186044000
  b : bd S
/-! rising numbers -/
def Sorted (F : List Int) : Prop := ∀ i j (hi : i < F.length) (hj : j < F.length), i < j → F[i] < F[j]
theorem free_sorted {S : List Bs} {F : List Int} (h : FreeFrom S F 0) : Sorted F := by
  intro i j hi hj hij
  obtain ⟨d, rfl⟩ : ∃ d, j = i + 1 + d := ⟨j - (i + 1), by omega⟩
  induction d with
  | zero => exact (h (i + 1) hj (Nat.zero_le _)).2.2.2 (by omega) hi
  | succ d ih =>
    have h1 := ih (by omega) (by omega)
    have h2 := (h (i + 1 + (d + 1)) hj (Nat.zero_le _)).2.2.2 (by omega) (by omega)
    have e : i + 1 + (d + 1) - 1 = i + 1 + d := by omega
    simp only [e] at h2
    exact Int.lt_trans h1 h2
theorem free_range {S : List Bs} {F : List Int} (h : FreeFrom S F 0) : ∀ x ∈ F, 0 ≤ x ∧ x + 2 ≤ (S.length : Int) := by
  intro x hx
  obtain ⟨i, hi, rfl⟩ := List.mem_iff_getElem.1 hx
  obtain ⟨h1, h2, _⟩ := h i hi (Nat.zero_le _)
  exact ⟨h1, h2⟩
theorem free_empty {S : List Bs} {F : List Int} (h : FreeFrom S F 0) : ∀ x ∈ F, (rdOf ByteArray.empty S x).toList = [] := by
  intro x hx
  obtain ⟨i, hi, rfl⟩ := List.mem_iff_getElem.1 hx
  exact (h i hi (Nat.zero_le _)).2.2.1
theorem free_mk {S : List Bs} {F : List Int} (h1 : Sorted F) (h2 : ∀ x ∈ F, 0 ≤ x ∧ x + 2 ≤ (S.length : Int)) (h3 : ∀ x ∈ F, (rdOf ByteArray.empty S x).toList = []) : FreeFrom S F 0 := by
  intro i hi _
  have hm := List.getElem_mem hi
  exact ⟨(h2 _ hm).1, (h2 _ hm).2, h3 _ hm, fun h0 hl => h1 (i - 1) i hl hi (by omega)⟩
theorem rd_set (S : List Bs) (n : Nat) (s : Bs) (x : Int) (hx : 0 ≤ x) (h : x ≠ n) : rdOf ByteArray.empty (S.set n s) x = rdOf ByteArray.empty S x := by
  unfold rdOf
  rw [List.getD_eq_getElem?_getD, List.getD_eq_getElem?_getD, List.getElem?_set_ne (by omega)]
theorem rd_set_self (S : List Bs) (n : Nat) (s : Bs) (hn : n < S.length) : rdOf ByteArray.empty (S.set n s) (n : Int) = s := by
  simp [rdOf, hn]
theorem bd_set {S : List Bs} {n : Nat} {s : Bs} (h : bd S) (hs : s.size ≤ 140737488351232) : bd (S.set n s) := by
  intro x hx
  rcases List.mem_or_eq_of_mem_set hx with h1 | rfl
  · exact h x h1
  · exact hs
theorem bd_snoc {S : List Bs} {s : Bs} (h : bd S) (hs : s.size ≤ 140737488351232) : bd (S ++ [s]) := by
  intro x hx
  rcases List.mem_append.1 hx with h1 | h1
  · exact h x h1
  · rw [List.mem_singleton.1 h1]; exact hs
theorem bd_take {S : List Bs} (h : bd S) (n : Nat) : bd (S.take n) := fun x hx => h x (List.mem_of_mem_take hx)

/-! Add -/
def fits (S : List Bs) : Prop := S.length ≤ 16 ∧ sz S ≤ 200
def addTo (S : List Bs) (F : List Int) (s : Bs) : List Bs × List Int × Int :=
  match F with
  | [] => (S ++ [s], [], (S.length : Int))
  | f :: F' => (S.set f.toNat s, F', f)
theorem add_free {S : List Bs} {F : List Int} (h : FreeFrom S F 0) (s : Bs) : FreeFrom (addTo S F s).1 (addTo S F s).2.1 0 := by
  cases F with
  | nil => exact fun i hi => by simp [addTo] at hi
  | cons f F' =>
    have h1 := free_sorted h
    have h2 := free_range h
    have h3 := free_empty h
    have hne : ∀ x ∈ F', f < x := fun x hx => by
      obtain ⟨i, hi, rfl⟩ := List.mem_iff_getElem.1 hx
      have := h1 0 (i + 1) (by simp) (by simpa using hi) (by omega)
      simpa using this
    show FreeFrom (S.set f.toNat s) F' 0
    refine free_mk (fun i j hi hj hij => ?_) (fun x hx => ?_) (fun x hx => ?_)
    · have := h1 (i + 1) (j + 1) (by simpa using hi) (by simpa using hj) (by omega)
      simpa using this
    · rw [List.length_set]; exact h2 x (List.mem_cons_of_mem _ hx)
    · have hf := (h2 f (by simp)).1
      have hx0 := hne x hx
      rw [rd_set S f.toNat s x (by omega) (by omega)]
      exact h3 x (List.mem_cons_of_mem _ hx)
open Classical in
noncomputable def addRes (S : List Bs) (F : List Int) (s : Bs) : List Bs × List Int × Int × Int :=
  if May S F then (if fits (addTo S F s).1 then ((addTo S F s).1, (addTo S F s).2.1, (addTo S F s).2.2, 0) else ([], [], 0, 5)) else ([], [], 0, 1)
theorem may_fits {S : List Bs} {F : List Int} (h : FreeFrom S F 0) : May S F ↔ fits S := ⟨fun h => ⟨h.few, h.room⟩, fun h2 => ⟨h2.1, h2.2, h⟩⟩
open Classical in
theorem Add_ev (S : List Bs) (F : List Int) (s : Bs) (hw : Wf S F) (hs : s.size ≤ 140737488351232) : Ev (fun k => page_Add.f k S F s) (addRes S F s) := by
  unfold page_Add.f addRes
  have := hw.ls
  have := hw.lf
  refine Ev.bind (may_ev S F hw.b (by omega)) ?_
  by_cases hm : May S F
  · rw [decide_eq_true hm, if_pos hm]
    refine Ev.if_pos (by trivial) (Ev.bind0 (clone_s S (by omega)) (Ev.bind0 (clone_n F (by omega)) ?_))
    have hfree := add_free hm.free s
    have key : ∀ (S' : List Bs) (F' : List Int) (n : Int), FreeFrom S' F' 0 → bd S' → F'.length ≤ 17592186044000 → Ev (fun k => (page_may.f k S' F').bind fun t => if t = true then some (S', F', n, (0 : Int)) else some (([] : List Bs), ([] : List Int), (0 : Int), (5 : Int))) (if fits S' then (S', F', n, 0) else ([], [], 0, 5)) := fun S' F' n hf hb hl => by
      refine Ev.bind (may_ev S' F' hb (by omega)) ?_
      by_cases h : fits S'
      · rw [if_pos h, decide_eq_true ((may_fits hf).2 h)]; exact Ev.if_pos (by trivial) (Ev.now _)
      · rw [if_neg h, decide_eq_false (fun h2 => h ((may_fits hf).1 h2))]; exact Ev.if_neg (by simp) (Ev.now _)
    cases F with
    | nil =>
      have e : (S ++ [(⟨#[]⟩ : Bs)]).set ((S.length : Int)).toNat s = S ++ [s] := by
        rw [Int.toNat_natCast, List.set_append_right _ _ (Nat.le_refl _), Nat.sub_self]; rfl
      refine Ev.if_neg (by simp) (Ev.if_pos (by omega) (Ev.bind0 rfl (Ev.if_pos (by omega) (Ev.if_pos (by simp; omega) (Ev.bind0 rfl ?_)))))
      rw [e]
      exact key (S ++ [s]) [] _ hfree (bd_snoc hw.b hs) (by simp)
    | cons f F' =>
      have hr := free_range hm.free f (by simp)
      have e : rd (f :: F') 0 = f := rfl
      refine Ev.if_pos (by simp) (Ev.if_pos (by simp) (Ev.if_pos (by simp only [List.length_cons]; omega) (Ev.bind0 rfl ?_)))
      rw [e]
      refine Ev.if_pos (by omega) (Ev.if_pos (by omega) (Ev.bind0 rfl ?_))
      exact key (S.set f.toNat s) F' f hfree (bd_set hw.b hs) (by simp only [List.length_cons] at *; omega)
  · rw [decide_eq_false hm, if_neg hm]
    exact Ev.if_neg (by simp) (Ev.now _)

/-! a slot with a record -/
def There (S : List Bs) (F : List Int) (n : Int) : Prop := 0 ≤ n ∧ n < (S.length : Int) ∧ n ∉ F
open Classical in
noncomputable def askRes (S : List Bs) (F : List Int) (n : Int) : List Bs × List Int × Int := if May S F then (if There S F n then (S, F, 0) else ([], [], 3)) else ([], [], 1)
open Classical in
theorem asked_ev (S : List Bs) (F : List Int) (n : Int) (hw : Wf S F) : Ev (fun k => page_asked.f k S F n) (askRes S F n) := by
  unfold page_asked.f askRes
  have := hw.ls
  have := hw.lf
  refine Ev.bind (may_ev S F hw.b (by omega)) ?_
  by_cases hm : May S F
  · rw [decide_eq_true hm, if_pos hm]
    have hno : Ev (fun k => page_asked.j0 k true S F) (([] : List Bs), ([] : List Int), (3 : Int)) := Ev.step (fun k => by simp only [page_asked.j0]; rfl) (Ev.if_pos (by trivial) (Ev.now _))
    refine Ev.if_pos (by trivial) (Ev.iff (fun h1 => ?_) (fun h1 => Ev.iff (fun h2 => ?_) (fun h2 => Ev.bind (contains_ev F n (by omega)) ?_)))
    · rw [if_neg (fun h => by have := h.1; omega)]; exact hno
    · rw [if_neg (fun h => by have := h.2.1; omega)]; exact hno
    · by_cases h3 : n ∈ F
      · rw [decide_eq_true h3, if_neg (fun h => h.2.2 h3)]; exact hno
      · rw [decide_eq_false h3, if_pos ⟨by omega, by omega, h3⟩]
        refine Ev.step (fun k => by simp only [page_asked.j0]; rfl) (Ev.if_neg (by simp) (Ev.bind0 (clone_s S (by omega)) ?_))
        refine Ev.bind0 (clone_n F (by omega)) ?_
        exact Ev.now _
  · rw [decide_eq_false hm, if_neg hm]
    exact Ev.if_neg (by simp) (Ev.now _)
open Classical in
noncomputable def getRes (S : List Bs) (F : List Int) (n : Int) : Bs × Int := if May S F then (if There S F n then (rdOf ByteArray.empty S n, 0) else (⟨#[]⟩, 3)) else (⟨#[]⟩, 1)
open Classical in
theorem Get_ev (S : List Bs) (F : List Int) (n : Int) (hw : Wf S F) : Ev (fun k => page_Get.f k S F n) (getRes S F n) := by
  unfold page_Get.f
  refine Ev.bind (asked_ev S F n hw) ?_
  unfold askRes getRes
  by_cases hm : May S F
  · rw [if_pos hm, if_pos hm]
    by_cases ht : There S F n
    · rw [if_pos ht, if_pos ht]
      exact Ev.if_pos (by trivial) (Ev.if_pos ht.1 (Ev.if_pos ht.2.1 (Ev.now _)))
    · rw [if_neg ht, if_neg ht]
      exact Ev.if_neg (by simp) (Ev.now _)
  · rw [if_neg hm, if_neg hm]
    exact Ev.if_neg (by simp) (Ev.now _)

/-! a number among rising ones -/
def cnt (x : Int) (F : List Int) : Nat := (F.takeWhile (fun y => decide (y < x))).length
def ins (x : Int) (F : List Int) : List Int := F.take (cnt x F) ++ [x] ++ F.drop (cnt x F)
theorem cnt_le (x : Int) (F : List Int) : cnt x F ≤ F.length := by
  induction F with
  | nil => simp [cnt]
  | cons a F ih =>
    by_cases h : a < x
    · simp only [cnt, List.takeWhile_cons, h, decide_true, if_true, List.length_cons] at ih ⊢; omega
    · simp [cnt, List.takeWhile_cons, h]
theorem cnt_eq (x : Int) (F : List Int) : ∀ (k : Nat) (hk : k ≤ F.length), (∀ p (h : p < F.length), p < k → F[p] < x) → (∀ h : k < F.length, ¬ F[k] < x) → cnt x F = k := by
  induction F with
  | nil => intro k hk _ _; simp at hk; simp [cnt, hk]
  | cons a F ih =>
    intro k hk h1 h2
    cases k with
    | zero =>
      have := h2 (by simp)
      simp only [List.getElem_cons_zero] at this
      simp [cnt, List.takeWhile_cons, this]
    | succ k =>
      have ha := h1 0 (by simp) (by omega)
      simp only [List.getElem_cons_zero] at ha
      have := ih k (by simpa using hk) (fun p hp hpk => by have := h1 (p + 1) (by simpa using hp) (by omega); rwa [List.getElem_cons_succ] at this) (fun h => by have := h2 (by simpa using h); rwa [List.getElem_cons_succ] at this)
      simp only [cnt, List.takeWhile_cons, ha, decide_true, if_true, List.length_cons] at this ⊢
      omega
theorem cnt_lt (x : Int) (F : List Int) : ∀ p (h : p < F.length), p < cnt x F → F[p] < x := by
  induction F with
  | nil => intro p h; simp at h
  | cons a F ih =>
    intro p h hp
    by_cases ha : a < x
    · cases p with
      | zero => simpa using ha
      | succ p =>
        simp only [List.getElem_cons_succ]
        refine ih p (by simpa using h) ?_
        simp only [cnt, List.takeWhile_cons, ha, decide_true, if_true, List.length_cons] at hp ⊢
        omega
    · simp [cnt, List.takeWhile_cons, ha] at hp
theorem cnt_not (x : Int) (F : List Int) : ∀ h : cnt x F < F.length, ¬ F[cnt x F] < x := by
  induction F with
  | nil => intro h; simp at h
  | cons a F ih =>
    intro h
    by_cases ha : a < x
    · have e : cnt x (a :: F) = cnt x F + 1 := by simp [cnt, List.takeWhile_cons, ha]
      have h' : cnt x F < F.length := by rw [e] at h; simpa using h
      simp only [e, List.getElem_cons_succ]
      exact ih h'
    · have e : cnt x (a :: F) = 0 := by simp [cnt, List.takeWhile_cons, ha]
      simpa only [e, List.getElem_cons_zero] using ha
theorem ins_len (x : Int) (F : List Int) : (ins x F).length = F.length + 1 := by
  have := cnt_le x F
  simp only [ins, List.length_append, List.length_take, List.length_drop, List.length_singleton]; omega
theorem mem_ins (x y : Int) (F : List Int) : y ∈ ins x F ↔ y = x ∨ y ∈ F := by
  have h : y ∈ F ↔ y ∈ F.take (cnt x F) ∨ y ∈ F.drop (cnt x F) := by rw [← List.mem_append, List.take_append_drop]
  unfold ins
  simp only [List.mem_append, List.mem_singleton, h]
  constructor
  · rintro ((h | h) | h)
    · exact .inr (.inl h)
    · exact .inl h
    · exact .inr (.inr h)
  · rintro (h | h | h)
    · exact .inl (.inr h)
    · exact .inl (.inl h)
    · exact .inr h
theorem sorted_pw {F : List Int} : Sorted F ↔ F.Pairwise (· < ·) := by
  rw [List.pairwise_iff_getElem]
  exact ⟨fun h i j hi hj hij => h i j hi hj hij, fun h i j hi hj hij => h i j hi hj hij⟩
theorem ins_sorted {x : Int} {F : List Int} (h : Sorted F) (hx : x ∉ F) : Sorted (ins x F) := by
  rw [sorted_pw] at h ⊢
  unfold ins
  rw [List.append_assoc, List.pairwise_append]
  have hs := sorted_pw.2 h
  have h0 : ∀ y ∈ F.drop (cnt x F), x < y := fun y hy => by
    obtain ⟨i, hi, rfl⟩ := List.mem_iff_getElem.1 hy
    rw [List.length_drop] at hi
    rw [List.getElem_drop]
    have h1 := cnt_not x F (by omega)
    have h2 : F[cnt x F] ≠ x := fun e => hx (e ▸ List.getElem_mem _)
    rcases Nat.eq_zero_or_pos i with rfl | hp
    · simp only [Nat.add_zero]; omega
    · have := hs (cnt x F) (cnt x F + i) (by omega) (by omega) (by omega); omega
  refine ⟨h.sublist (List.take_sublist _ _), ?_, fun y hy z hz => ?_⟩
  · rw [List.singleton_append, List.pairwise_cons]
    exact ⟨h0, h.sublist (List.drop_sublist _ _)⟩
  · obtain ⟨i, hi, rfl⟩ := List.mem_iff_getElem.1 hy
    rw [List.length_take] at hi
    rw [List.getElem_take]
    have h1 := cnt_lt x F i (by omega) (by omega)
    rcases List.mem_append.1 hz with h2 | h2
    · rw [List.mem_singleton.1 h2]; exact h1
    · have := h0 z h2; omega
theorem cmp_eq (a b : Int) : cmp_Less_int.f a b = some (decide (a < b)) := by
  unfold cmp_Less_int.f cmp_isNaN_int.f
  simp
theorem mid_eq (i j : Nat) (h : i + j ≤ 4611686018427387904) : wrap64 (IntKind.u64.wrap (wrap64 ((i : Int) + (j : Int))) / 2) = (((i + j) / 2 : Nat) : Int) := by
  have e : IntKind.u64.wrap (wrap64 ((i : Int) + (j : Int))) = (i : Int) + (j : Int) := by
    simp only [IntKind.wrap, IntKind.signed, IntKind.bits]
    unfold wrap64
    simp
    omega
  rw [e]
  unfold wrap64
  omega
theorem bs_from (F : List Int) (x : Int) (hs : Sorted F) (hx : x ∉ F) (hF : F.length ≤ 17592186044416) (d : Nat) : ∀ i j, j - i ≤ d → i ≤ j → j ≤ F.length → (∀ p (h : p < F.length), p < i → F[p] < x) → (∀ p (h : p < F.length), j ≤ p → ¬ F[p] < x) → ∃ t, Ev (fun k => slices_BinarySearch_int_int.l0 k F x (F.length : Int) (i : Int) (j : Int)) ((cnt x F : Int), t) := by
  induction d with
  | zero =>
    intro i j hd hij hj h1 h2
    have hij2 : i = j := by omega
    subst hij2
    have hc := cnt_eq x F i hj h1 (fun h => h2 i h (Nat.le_refl _))
    by_cases hlt : i < F.length
    · have hne : ¬ F[i] = x := fun e => hx (e ▸ List.getElem_mem _)
      refine ⟨false, Ev.step (fun k => by simp only [slices_BinarySearch_int_int.l0]; rfl) (Ev.if_neg (by omega) (Ev.if_pos (by omega) (Ev.if_pos (by omega) (Ev.if_pos (by omega) ?_))))⟩
      rw [rdn_at F i hlt, hc]
      refine Ev.if_neg hne (Ev.bind0 rfl ?_)
      simp only [bne_self_eq_false]
      exact Ev.if_neg (by simp) (Ev.now _)
    · refine ⟨false, Ev.step (fun k => by simp only [slices_BinarySearch_int_int.l0]; rfl) (Ev.if_neg (by omega) (Ev.if_neg (by omega) ?_))⟩
      rw [hc]; exact Ev.now _
  | succ d ih =>
    intro i j hd hij hj h1 h2
    by_cases hlt : i < j
    · have hm : (i + j) / 2 < F.length := by omega
      have hm2 : i ≤ (i + j) / 2 ∧ (i + j) / 2 < j := by omega
      by_cases hc : F[(i + j) / 2] < x
      · obtain ⟨t, ht⟩ := ih ((i + j) / 2 + 1) j (by omega) (by omega) hj (fun p hp hpm => by
          rcases Nat.lt_or_ge p ((i + j) / 2) with h | h
          · have := hs p ((i + j) / 2) hp hm h; omega
          · have e : p = (i + j) / 2 := by omega
            subst e; exact hc) h2
        refine ⟨t, Ev.step (fun k => by simp only [slices_BinarySearch_int_int.l0]; rfl) (Ev.if_pos (by omega) ?_)⟩
        rw [mid_eq i j (by omega)]
        refine Ev.if_pos (by omega) (Ev.if_pos (by omega) (Ev.bind0 (cmp_eq _ _) ?_))
        rw [rdn_at F _ hm, decide_eq_true hc, wrap_succ _ (by omega)]
        exact Ev.if_pos (by trivial) ht
      · obtain ⟨t, ht⟩ := ih i ((i + j) / 2) (by omega) (by omega) (by omega) h1 (fun p hp hpm => by
          rcases Nat.eq_or_lt_of_le hpm with h | h
          · subst h; exact hc
          · have := hs ((i + j) / 2) p hm hp h; omega)
        refine ⟨t, Ev.step (fun k => by simp only [slices_BinarySearch_int_int.l0]; rfl) (Ev.if_pos (by omega) ?_)⟩
        rw [mid_eq i j (by omega)]
        refine Ev.if_pos (by omega) (Ev.if_pos (by omega) (Ev.bind0 (cmp_eq _ _) ?_))
        rw [rdn_at F _ hm, decide_eq_false hc]
        exact Ev.if_neg (by simp) ht
    · exact ih i j (by omega) hij hj h1 h2
theorem bs_ev (F : List Int) (x : Int) (hs : Sorted F) (hx : x ∉ F) (hF : F.length ≤ 17592186044416) : ∃ t, Ev (fun k => slices_BinarySearch_int_int.f k F x) ((cnt x F : Int), t) :=
  bs_from F x hs hx hF F.length 0 F.length (by omega) (by omega) (Nat.le_refl _) (fun p _ h => by omega) (fun p h1 h2 => by omega)
theorem insert_eq (F : List Int) (x : Int) (hF : F.length ≤ 17592186044000) : slices_Insert_int_int.f F (cnt x F : Int) [x] = some (ins x F) := by
  have := cnt_le x F
  unfold slices_Insert_int_int.f ins
  rw [if_pos ⟨rfl, by omega, by omega, by omega⟩, Int.toNat_natCast]

/-! Cut -/
open Classical in
noncomputable def trim : Nat → List Bs → List Int → List Bs × List Int
  | 0, S, F => (S, F)
  | n + 1, S, F => if rd F ((F.length : Int) - 1) = (S.length : Int) - 1 then trim n (S.take (S.length - 1)) (F.take (F.length - 1)) else (S, F)
theorem sorted_take {F : List Int} (h : Sorted F) (n : Nat) : Sorted (F.take n) := sorted_pw.2 ((sorted_pw.1 h).sublist (List.take_sublist _ _))
theorem last_at (F : List Int) (n : Nat) (h : F.length = n + 1) : rd F ((F.length : Int) - 1) = F[n] := by
  rw [show (F.length : Int) - 1 = (n : Int) from by omega]; exact rdn_at F n (by omega)
theorem take_less {F : List Int} {m : Nat} (hs : Sorted F) (n : Nat) (h : F.length = n + 1) (hl : F[n] = (m : Int) - 1) (hr : ∀ x ∈ F, 0 ≤ x ∧ x < (m : Int)) : ∀ x ∈ F.take (F.length - 1), 0 ≤ x ∧ x < ((m - 1 : Nat) : Int) := by
  intro x hx
  have hx' := List.mem_of_mem_take hx
  obtain ⟨i, hi, rfl⟩ := List.mem_iff_getElem.1 hx
  rw [List.length_take] at hi
  rw [List.getElem_take] at *
  have h1 := hs i n (by omega) (by omega) (by omega)
  have h0 := (hr _ hx').1
  have hm := hr F[n] (List.getElem_mem _)
  omega
theorem cut_from (n : Nat) : ∀ (S : List Bs) (F : List Int), F.length = n → F.length ≤ 17592186044416 → S.length ≤ 17592186044416 → Sorted F → (∀ x ∈ F, 0 ≤ x ∧ x < (S.length : Int)) → Ev (fun k => page_Cut.l0 k ((F.length : Int) - 1) S F) ((trim n S F).1, (trim n S F).2, 0) := by
  have stop : ∀ (x : Int) (S : List Bs) (F : List Int), Ev (fun k => page_Cut.j1 k x false S F) (S, F, 0) := fun x S F => Ev.step (fun k => by simp only [page_Cut.j1]; rfl) (Ev.if_neg (by simp) (Ev.now _))
  induction n with
  | zero =>
    intro S F hn _ _ _ _
    exact Ev.step (fun k => by simp only [page_Cut.l0]; rfl) (Ev.if_neg (by omega) (stop _ _ _))
  | succ n ih =>
    intro S F hn hF hS hs hr
    have hl := last_at F n hn
    have hm := hr F[n] (List.getElem_mem _)
    refine Ev.step (fun k => by simp only [page_Cut.l0]; rfl) (Ev.if_pos (by omega) (Ev.if_pos (by omega) (Ev.if_pos (by omega) ?_)))
    rw [wrap_less S.length (by omega), hl]
    unfold trim
    rw [hl]
    by_cases hc : F[n] = (S.length : Int) - 1
    · rw [if_pos hc, beq_iff_eq.2 hc]
      refine Ev.step (fun k => by simp only [page_Cut.j1]; rfl) (Ev.if_pos (by trivial) (Ev.if_pos (by omega) (Ev.if_pos (by omega) ?_)))
      rw [hl, hc]
      refine Ev.if_pos (by omega) (Ev.if_pos (by omega) (Ev.if_pos (by omega) ?_))
      have hlen : (F.take (F.length - 1)).length = n := by rw [List.length_take]; omega
      have := ih (S.take (S.length - 1)) (F.take (F.length - 1)) hlen (by rw [List.length_take]; omega) (by rw [List.length_take]; omega) (sorted_take hs _) (by
        have h2 := take_less hs n hn hc hr
        rw [List.length_take, Nat.min_eq_left (by omega)]
        exact h2)
      rw [hlen] at this
      rw [show ((S.length : Int) - 1).toNat = S.length - 1 from by omega, show ((F.length : Int) - 1).toNat = F.length - 1 from by omega, show wrap64 ((F.length : Int) - 1 - 1) = (n : Int) - 1 from by unfold wrap64; omega]
      exact this
    · rw [if_neg hc, show (F[n] == (S.length : Int) - 1) = false from by simpa using hc]
      exact stop _ _ _
open Classical in
noncomputable def cutTo (S : List Bs) (F : List Int) (n : Int) : List Bs × List Int := trim (F.length + 1) (S.set n.toNat ⟨#[]⟩) (ins n F)
open Classical in
noncomputable def cutRes (S : List Bs) (F : List Int) (n : Int) : List Bs × List Int × Int := if May S F then (if There S F n then ((cutTo S F n).1, (cutTo S F n).2, 0) else ([], [], 3)) else ([], [], 1)
theorem ins_range {S : List Bs} {F : List Int} {n : Int} (hm : May S F) (ht : There S F n) : ∀ x ∈ ins n F, 0 ≤ x ∧ x < ((S.set n.toNat (⟨#[]⟩ : Bs)).length : Int) := by
  intro x hx
  rw [List.length_set]
  rcases (mem_ins n x F).1 hx with rfl | h
  · exact ⟨ht.1, ht.2.1⟩
  · have := free_range hm.free x h; omega
open Classical in
theorem Cut_ev (S : List Bs) (F : List Int) (n : Int) (hw : Wf S F) : Ev (fun k => page_Cut.f k S F n) (cutRes S F n) := by
  unfold page_Cut.f
  have := hw.ls
  have := hw.lf
  refine Ev.bind (asked_ev S F n hw) ?_
  unfold askRes cutRes
  by_cases hm : May S F
  · rw [if_pos hm, if_pos hm]
    by_cases ht : There S F n
    · rw [if_pos ht, if_pos ht]
      have hs := free_sorted hm.free
      obtain ⟨t, hb⟩ := bs_ev F n hs ht.2.2 (by omega)
      refine Ev.if_pos (by trivial) (Ev.bind hb (Ev.bind0 (insert_eq F n (by omega)) (Ev.if_pos ht.1 (Ev.if_pos ht.2.1 ?_))))
      have hl := ins_len n F
      have := cut_from (F.length + 1) (S.set n.toNat ⟨#[]⟩) (ins n F) hl (by omega) (by rw [List.length_set]; omega) (ins_sorted hs ht.2.2) (ins_range hm ht)
      rw [wrap_less _ (by omega)]
      exact this
    · rw [if_neg ht, if_neg ht]
      exact Ev.if_neg (by simp) (Ev.now _)
  · rw [if_neg hm, if_neg hm]
    exact Ev.if_neg (by simp) (Ev.now _)
end Go.Proofs.Ytoodkefpkgbjcaa.HPage
