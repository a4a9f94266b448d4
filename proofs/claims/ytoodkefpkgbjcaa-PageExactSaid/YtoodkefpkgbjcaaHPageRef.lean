/- What the reference's Add, Set, Cut, and package page's Set, Check and Bytes come to on a page: the same plain functions on lists. -/
import Derived.Test.YtoodkefpkgbjcaaPPgbx10
import Derived.Test.YtoodkefpkgbjcaaPPgbx9
import Derived.Test.YtoodkefpkgbjcaaPPgbx10
import Derived.Test.YtoodkefpkgbjcaaPPgbx9
import Derived.Test.YtoodkefpkgbjcaaPPgbx4
import Derived.Test.YtoodkefpkgbjcaaPPgbx9
import Derived.Test.YtoodkefpkgbjcaaPPgbx8
import Derived.Test.YtoodkefpkgbjcaaPPgbx10
import Derived.Test.YtoodkefpkgbjcaaPPgbx10
import Derived.Test.YtoodkefpkgbjcaaHPageDo
set_option linter.unusedSimpArgs false
set_option linter.unusedVariables false
namespace Go.Proofs.Ytoodkefpkgbjcaa.HPage
open Go.RowKit Go.Proofs.Ytoodkefpkgbjcaa.PPgb Go.Proofs.Ytoodkefpkgbjcaa.HNum Go.Proofs.YtoodkefpkgbjcaaW.PrintWords Go.Proofs.YtoodkefpkgbjcaaW.PrintLast
theorem take_snoc {α : Type} (l : List α) (j : Nat) (h : j < l.length) : l.take j ++ [l[j]] = l.take (j + 1) := by rw [List.take_succ_eq_append_getElem h]
theorem copys_from (S : List Bs) (hS : S.length ≤ 8796093022208) (d : Nat) : ∀ j, j + d = S.length → Ev (fun k => quorumref0_CopyStrings.l0 k S (S.take j) (j : Int)) S := by
  induction d with
  | zero =>
    intro j hj
    rw [List.take_of_length_le (by omega)]
    exact Ev.step (fun k => by simp only [quorumref0_CopyStrings.l0]; rfl) (Ev.if_neg (by omega) (Ev.now _))
  | succ d ih =>
    intro j hj
    have hlt : j < S.length := by omega
    refine Ev.step (fun k => by simp only [quorumref0_CopyStrings.l0]; rfl) (Ev.if_pos (by omega) (Ev.if_pos (by omega) (Ev.if_pos (by rw [List.length_take]; omega) ?_)))
    rw [rds_at S j hlt, take_snoc S j hlt, wrap_succ j (by omega)]
    exact ih (j + 1) (by omega)
theorem copyn_from (F : List Int) (hF : F.length ≤ 17592186044416) (d : Nat) : ∀ j, j + d = F.length → Ev (fun k => quorumref0_CopyNumbers.l0 k F (F.take j) (j : Int)) F := by
  induction d with
  | zero =>
    intro j hj
    rw [List.take_of_length_le (by omega)]
    exact Ev.step (fun k => by simp only [quorumref0_CopyNumbers.l0]; rfl) (Ev.if_neg (by omega) (Ev.now _))
  | succ d ih =>
    intro j hj
    have hlt : j < F.length := by omega
    refine Ev.step (fun k => by simp only [quorumref0_CopyNumbers.l0]; rfl) (Ev.if_pos (by omega) (Ev.if_pos (by omega) (Ev.if_pos (by rw [List.length_take]; omega) ?_)))
    rw [rdn_at F j hlt, take_snoc F j hlt, wrap_succ j (by omega)]
    exact ih (j + 1) (by omega)
theorem copyn_ev (F : List Int) (hF : F.length ≤ 17592186044416) : Ev (fun k => quorumref0_CopyNumbers.f k F) F := copyn_from F hF F.length 0 (by omega)
theorem copy_ev (S : List Bs) (F : List Int) (hw : Wf S F) : Ev (fun k => quorumref0_CopyPage.f k S F) (S, F) := by
  have := hw.ls
  have := hw.lf
  exact Ev.bind (copys_from S (by omega) S.length 0 (by omega)) (Ev.bind (copyn_ev F (by omega)) (Ev.now _))
theorem in_from (F : List Int) (x : Int) (hF : F.length ≤ 4611686018427387904) (d : Nat) : ∀ j, j + d = F.length → ∃ r, Ev (fun k => quorumref0_In.l0 k F x (j : Int)) r ∧ (0 ≤ r ↔ x ∈ F.drop j) := by
  induction d with
  | zero =>
    intro j hj
    refine ⟨-1, Ev.step (fun k => by simp only [quorumref0_In.l0]; rfl) (Ev.if_neg (by omega) (Ev.now _)), ?_⟩
    rw [List.drop_eq_nil_of_le (by omega)]
    simp
  | succ d ih =>
    intro j hj
    have hlt : j < F.length := by omega
    by_cases h : F[j] = x
    · refine ⟨j, Ev.step (fun k => by simp only [quorumref0_In.l0]; rfl) (Ev.if_pos (by omega) (Ev.if_pos (by omega) (Ev.if_pos (by rw [rdn_at F j hlt]; exact h) (Ev.now _)))), ?_⟩
      rw [drop_at F j hlt, h]
      simp
    · obtain ⟨r, hr, hrx⟩ := ih (j + 1) (by omega)
      refine ⟨r, Ev.step (fun k => by simp only [quorumref0_In.l0]; rfl) (Ev.if_pos (by omega) (Ev.if_pos (by omega) (Ev.if_neg (by rw [rdn_at F j hlt]; exact h) ?_))), ?_⟩
      · rw [wrap_succ j (by omega)]; exact hr
      · rw [hrx, drop_at F j hlt, List.mem_cons]
        exact ⟨fun h => .inr h, fun h2 => h2.resolve_left (fun e => h e.symm)⟩
theorem in_ev (F : List Int) (x : Int) (hF : F.length ≤ 4611686018427387904) : ∃ r, Ev (fun k => quorumref0_In.f k F x) r ∧ (0 ≤ r ↔ x ∈ F) := by
  obtain ⟨r, h, hx⟩ := in_from F x hF F.length 0 (by omega)
  exact ⟨r, h, by simpa using hx⟩
open Classical in
theorem there_ev (S : List Bs) (F : List Int) (n : Int) (hw : Wf S F) : Ev (fun k => quorumref4_There.f k S F n) (decide (There S F n)) := by
  unfold quorumref4_There.f
  have := hw.ls
  have := hw.lf
  rw [wrap_less S.length (by omega)]
  refine Ev.bind0 (num2_eq _ _) (Ev.iff (fun h => ?_) (fun h => ?_))
  · rw [decide_eq_true_eq] at h
    obtain ⟨r, hr, hx⟩ := in_ev F n (by omega)
    refine Ev.bind hr ?_
    have : decide (r < 0) = decide (There S F n) := by
      rw [decide_eq_decide]
      exact ⟨fun h1 => ⟨h.1, by omega, fun h2 => by have := hx.2 h2; omega⟩, fun h1 => Int.not_le.1 (fun h2 => h1.2.2 (hx.1 h2))⟩
    rw [this]
    exact Ev.now _
  · rw [decide_eq_true_eq] at h
    rw [decide_eq_false (fun h1 => h ⟨h1.1, by have := h1.2.1; omega⟩)]
    exact Ev.now _
open Classical in
theorem refAdd_ev (S : List Bs) (F : List Int) (s : Bs) (hm : May S F) (hs : s.size ≤ 140737488351232) : Ev (fun k => quorumref4_Add.f k S F s) (addRes S F s) := by
  have h16 := hm.few
  have hb : bd S := fun x hx => by have := sz_bd S 200 hm.room x hx; omega
  have hsort := free_sorted hm.free
  have hFl : F.length ≤ 16 := by
    rcases Nat.lt_or_ge 16 F.length with h | h
    · exfalso
      have key : ∀ i (h : i < F.length), (i : Int) ≤ F[i] := fun i => by
        induction i with
        | zero => intro h; exact (free_range hm.free _ (List.getElem_mem h)).1
        | succ i ih => intro h; have h1 := ih (by omega); have h2 := hsort i (i + 1) (by omega) h (by omega); omega
      have h1 := key 16 h
      have h2 := (free_range hm.free _ (List.getElem_mem h)).2
      omega
    · exact h
  have hw : Wf S F := ⟨by omega, by omega, hb⟩
  unfold quorumref4_Add.f addRes
  rw [if_pos hm]
  refine Ev.bind (copy_ev S F hw) ?_
  have hfit : ∀ (S' : List Bs) (F' : List Int) (F2 : List Int) (n : Int) (l : Int), S'.length ≤ 17 → bd S' → (sz S' ≤ 200 → (l > 16 ↔ ¬ S'.length ≤ 16)) → Ev (fun k => (quorumref4_Bytes.f k S' F2).bind fun t => if t > 200 then some (([] : List Bs), ([] : List Int), (0 : Int), (5 : Int)) else if l > 16 then some (([] : List Bs), ([] : List Int), (0 : Int), (5 : Int)) else some (S', F', n, (0 : Int))) (if fits S' then (S', F', n, 0) else ([], [], 0, 5)) := fun S' F' F2 n l h17 hb' hl => by
    refine Ev.bind (bytes_ev S' F2 h17 hb') (Ev.iff (fun h => ?_) (fun h => ?_))
    · rw [if_neg (fun h2 => by have := h2.2; omega)]; exact Ev.now _
    · have hl' := hl (by omega)
      refine Ev.iff (fun h3 => ?_) (fun h3 => ?_)
      · rw [if_neg (fun h2 => hl'.1 h3 h2.1)]; exact Ev.now _
      · rw [if_pos ⟨Decidable.byContradiction fun h4 => h3 (hl'.2 h4), by omega⟩]; exact Ev.now _
  cases F with
  | nil =>
    dsimp only
    refine Ev.if_neg (by simp) (Ev.if_pos (by omega) (Ev.bind0 rfl ?_))
    refine hfit (S ++ [s]) [] [] _ _ (by simp; omega) (bd_snoc hb hs) (fun _ => by simp; omega)
  | cons f F' =>
    have hr := free_range hm.free f (by simp)
    have e : rd (f :: F') 0 = f := rfl
    refine Ev.if_pos (by simp) (Ev.if_pos (by simp) (Ev.if_pos (by simp only [List.length_cons]; omega) (Ev.bind (copyn_ev F' (by simp only [List.length_cons] at hFl; omega)) ?_)))
    simp only [e]
    refine Ev.if_pos (by omega) (Ev.if_pos (by omega) (Ev.bind0 rfl ?_))
    refine hfit (S.set f.toNat s) F' F' f _ (by simp; omega) (bd_set hb hs) (fun _ => by simp only [List.length_set]; omega)

/-! Set -/
theorem set_free {S : List Bs} {F : List Int} {n : Int} (h : FreeFrom S F 0) (ht : There S F n) (s : Bs) : FreeFrom (S.set n.toNat s) F 0 := by
  refine free_mk (free_sorted h) (fun x hx => ?_) (fun x hx => ?_)
  · rw [List.length_set]; exact free_range h x hx
  · have h0 := (free_range h x hx).1
    rw [rd_set S n.toNat s x h0 (fun e => ht.2.2 (by have := ht.1; rw [show n = x from by omega]; exact hx))]
    exact free_empty h x hx
open Classical in
noncomputable def setRes (S : List Bs) (F : List Int) (n : Int) (s : Bs) : List Bs × List Int × Int := if May S F then (if There S F n then (if fits (S.set n.toNat s) then (S.set n.toNat s, F, 0) else ([], [], 5)) else ([], [], 3)) else ([], [], 1)
open Classical in
theorem Set_ev (S : List Bs) (F : List Int) (n : Int) (s : Bs) (hw : Wf S F) (hs : s.size ≤ 140737488351232) : Ev (fun k => page_Set.f k S F n s) (setRes S F n s) := by
  unfold page_Set.f
  have := hw.ls
  have := hw.lf
  refine Ev.bind (asked_ev S F n hw) ?_
  unfold askRes setRes
  by_cases hm : May S F
  · rw [if_pos hm, if_pos hm]
    by_cases ht : There S F n
    · rw [if_pos ht, if_pos ht]
      refine Ev.if_pos (by trivial) (Ev.if_pos ht.1 (Ev.if_pos ht.2.1 (Ev.bind0 rfl (Ev.bind (may_ev _ F (bd_set hw.b hs) (by omega)) ?_))))
      by_cases h : fits (S.set n.toNat s)
      · rw [if_pos h, decide_eq_true ((may_fits (set_free hm.free ht s)).2 h)]; exact Ev.if_pos (by trivial) (Ev.now _)
      · rw [if_neg h, decide_eq_false (fun h2 => h ((may_fits (set_free hm.free ht s)).1 h2))]; exact Ev.if_neg (by simp) (Ev.now _)
    · rw [if_neg ht, if_neg ht]; exact Ev.if_neg (by simp) (Ev.now _)
  · rw [if_neg hm, if_neg hm]; exact Ev.if_neg (by simp) (Ev.now _)
open Classical in
theorem refSet_ev (S : List Bs) (F : List Int) (n : Int) (s : Bs) (hw : Wf S F) (hm : May S F) (hs : s.size ≤ 140737488351232) : Ev (fun k => quorumref4_Set.f k S F n s) (setRes S F n s) := by
  have h16 := hm.few
  unfold quorumref4_Set.f setRes
  rw [if_pos hm]
  refine Ev.bind (there_ev S F n hw) ?_
  by_cases ht : There S F n
  · rw [if_pos ht, decide_eq_true ht]
    refine Ev.if_pos (by trivial) (Ev.bind (copy_ev S F hw) ?_)
    dsimp only
    refine Ev.if_pos ht.1 (Ev.if_pos ht.2.1 (Ev.bind0 rfl (Ev.bind (bytes_ev (S.set n.toNat s) F (by rw [List.length_set]; omega) (bd_set hw.b hs)) (Ev.iff (fun h => ?_) (fun h => ?_)))))
    · rw [if_neg (fun h2 => by have := h2.2; omega)]; exact Ev.now _
    · rw [if_pos ⟨by rw [List.length_set]; omega, by omega⟩]; exact Ev.now _
  · rw [if_neg ht, decide_eq_false ht]; exact Ev.if_neg (by simp) (Ev.now _)

/-! Rising -/
theorem shift_from (l acc : List Int) (x : Int) (j c : Nat) (r : List Int) (hj : j < l.length) (hx : l[j] = x) (hc : c ≤ acc.length) (hl : acc.length ≤ 17592186044416) (hl2 : l.length ≤ 17592186044417)
    (hn : Ev (fun k => quorumref0_Rising.l0 k l (acc.take c ++ [x] ++ acc.drop c) ((j + 1 : Nat) : Int)) r) (d : Nat) : ∀ m y, c + d = m → m ≤ acc.length → Ev (fun k => quorumref0_Rising.l2 k l (acc.take m ++ [y] ++ acc.drop m) (j : Int) (c : Int) (m : Int)) r := by
  induction d with
  | zero =>
    intro m y hm hma
    obtain rfl : m = c := by omega
    refine Ev.step (fun k => by simp only [quorumref0_Rising.l2]; rfl) (Ev.if_neg (by omega) (Ev.if_pos (by omega) (Ev.if_pos (by omega) (Ev.if_pos (by omega) (Ev.if_pos ?_ ?_)))))
    · simp only [List.length_append, List.length_take, List.length_drop, List.length_singleton]; omega
    · rw [rdn_at l j hj, hx, wrap_succ j (by omega), Int.toNat_natCast]
      have e : (acc.take m ++ [y] ++ acc.drop m).set m x = acc.take m ++ [x] ++ acc.drop m := by
        have ht : (acc.take m).length = m := by rw [List.length_take]; omega
        rw [List.append_assoc, List.set_append_right _ _ (by omega), ht, Nat.sub_self]
        simp
      rw [e]
      exact hn
  | succ d ih =>
    intro m y hm hma
    have hml : (acc.take m ++ [y] ++ acc.drop m).length = acc.length + 1 := by simp only [List.length_append, List.length_take, List.length_drop, List.length_singleton]; omega
    have ht : (acc.take m).length = m := by rw [List.length_take]; omega
    refine Ev.step (fun k => by simp only [quorumref0_Rising.l2]; rfl) (Ev.if_pos (by omega) ?_)
    rw [wrap_pred m (by omega) (by omega)]
    refine Ev.if_pos (by omega) (Ev.if_pos (by omega) (Ev.if_pos (by omega) (Ev.if_pos (by omega) ?_)))
    have hg : rd (acc.take m ++ [y] ++ acc.drop m) ((m - 1 : Nat) : Int) = acc[m - 1] := by
      rw [rdn_at _ (m - 1) (by omega)]; simp only [List.append_assoc]; rw [List.getElem_append_left (by omega), List.getElem_take]
    have e : (acc.take m ++ [y] ++ acc.drop m).set m acc[m - 1] = acc.take (m - 1) ++ [acc[m - 1]] ++ acc.drop (m - 1) := by
      rw [List.append_assoc, List.set_append_right _ _ (by omega), ht, Nat.sub_self]
      have h1 : acc.take m = acc.take (m - 1) ++ [acc[m - 1]] := by
        rw [take_snoc acc (m - 1) (by omega)]; congr 1; omega
      have h2 : acc.drop (m - 1) = acc[m - 1] :: acc.drop m := by
        rw [drop_at acc (m - 1) (by omega)]; congr 2; omega
      rw [h2, h1]
      simp
    rw [hg, Int.toNat_natCast, e]
    exact ih (m - 1) _ (by omega) (by omega)
theorem find_from (l acc : List Int) (x : Int) (j : Nat) (r : List Int) (hj : j < l.length) (hx : l[j] = x) (hnot : x ∉ acc) (hl : acc.length < 17592186044416) (hl2 : l.length ≤ 17592186044417)
    (hn : Ev (fun k => quorumref0_Rising.l0 k l (ins x acc) ((j + 1 : Nat) : Int)) r) (d : Nat) : ∀ c, c + d = acc.length → (∀ p (h : p < acc.length), p < c → acc[p] < x) → Ev (fun k => quorumref0_Rising.l1 k l acc (j : Int) (c : Int)) r := by
  have last : ∀ c, c ≤ acc.length → cnt x acc = c → Ev (fun k => quorumref0_Rising.j3 k l acc (j : Int) (c : Int) false) r := fun c hc e => by
    refine Ev.step (fun k => by simp only [quorumref0_Rising.j3]; rfl) (Ev.if_neg (by simp) (Ev.if_pos (by omega) (Ev.bind0 rfl ?_)))
    have hl3 : (acc ++ [(0 : Int)]).length = acc.length + 1 := by simp
    rw [show wrap64 (((acc ++ [(0 : Int)]).length : Int) - 1) = (acc.length : Int) from by rw [hl3]; unfold wrap64; omega]
    have h0 : acc ++ [(0 : Int)] = acc.take acc.length ++ [0] ++ acc.drop acc.length := by simp
    rw [h0]
    unfold ins at hn
    rw [e] at hn
    exact shift_from l acc x j c r hj hx hc (by omega) hl2 hn (acc.length - c) acc.length 0 (by omega) (Nat.le_refl _)
  induction d with
  | zero =>
    intro c hc h1
    have e := cnt_eq x acc c (by omega) h1 (fun h => by omega)
    exact Ev.step (fun k => by simp only [quorumref0_Rising.l1]; rfl) (Ev.if_neg (by omega) (Ev.step (fun k => by simp only [quorumref0_Rising.j2]; rfl) (Ev.if_neg (by simp) (Ev.if_neg (by omega) (last c (by omega) e)))))
  | succ d ih =>
    intro c hc h1
    have hlt : c < acc.length := by omega
    refine Ev.step (fun k => by simp only [quorumref0_Rising.l1]; rfl) (Ev.if_pos (by omega) (Ev.if_pos (by omega) (Ev.if_pos (by omega) (Ev.if_pos (by omega) ?_))))
    rw [rdn_at acc c hlt, rdn_at l j hj, hx]
    by_cases hq : acc[c] < x
    · rw [decide_eq_true hq]
      refine Ev.step (fun k => by simp only [quorumref0_Rising.j2]; rfl) (Ev.if_pos (by trivial) ?_)
      rw [wrap_succ c (by omega)]
      refine ih (c + 1) (by omega) (fun p hp hpc => ?_)
      rcases Nat.lt_or_ge p c with h | h
      · exact h1 p hp h
      · have : p = c := by omega
        subst this; exact hq
    · rw [decide_eq_false hq]
      have e := cnt_eq x acc c (by omega) h1 (fun h => hq)
      have hne : acc[c] ≠ x := fun h => hnot (h ▸ List.getElem_mem _)
      refine Ev.step (fun k => by simp only [quorumref0_Rising.j2]; rfl) (Ev.if_neg (by simp) (Ev.if_pos (by omega) (Ev.if_pos (by omega) (Ev.if_pos (by omega) (Ev.if_pos (by omega) ?_)))))
      rw [rdn_at acc c hlt, rdn_at l j hj, hx, show (acc[c] == x) = false from by simpa using hne]
      exact last c (by omega) e
theorem rise_one (l acc : List Int) (x : Int) (j : Nat) (r : List Int) (hj : j < l.length) (hx : l[j] = x) (hnot : x ∉ acc) (hl : acc.length < 17592186044416) (hl2 : l.length ≤ 17592186044417)
    (hn : Ev (fun k => quorumref0_Rising.l0 k l (ins x acc) ((j + 1 : Nat) : Int)) r) : Ev (fun k => quorumref0_Rising.l0 k l acc (j : Int)) r :=
  Ev.step (fun k => by simp only [quorumref0_Rising.l0]; rfl) (Ev.if_pos (by omega) (find_from l acc x j r hj hx hnot hl hl2 hn acc.length 0 (by omega) (fun p _ h => by omega)))
theorem rising_ev (F : List Int) (x : Int) (hs : Sorted F) (hx : x ∉ F) (hF : F.length < 17592186044416) : Ev (fun k => quorumref0_Rising.f k (F ++ [x])) (ins x F) := by
  have hlen : (F ++ [x]).length = F.length + 1 := by simp
  have key : ∀ d j, j + d = F.length → Ev (fun k => quorumref0_Rising.l0 k (F ++ [x]) (F.take j) (j : Int)) (ins x F) := fun d => by
    induction d with
    | zero =>
      intro j hj
      rw [List.take_of_length_le (by omega)]
      refine rise_one (F ++ [x]) F x j _ (by omega) (by rw [List.getElem_append_right (by omega)]; simp) hx hF (by omega) ?_
      exact Ev.step (fun k => by simp only [quorumref0_Rising.l0]; rfl) (Ev.if_neg (by omega) (Ev.now _))
    | succ d ih =>
      intro j hj
      have hlt : j < F.length := by omega
      refine rise_one (F ++ [x]) (F.take j) F[j] j _ (by omega) (List.getElem_append_left hlt) (fun h => ?_) (by rw [List.length_take]; omega) (by omega) ?_
      · obtain ⟨i, hi, e⟩ := List.mem_iff_getElem.1 h
        rw [List.length_take] at hi
        rw [List.getElem_take] at e
        have := hs i j (by omega) hlt (by omega)
        omega
      · have hc : cnt F[j] (F.take j) = j := cnt_eq _ _ j (by rw [List.length_take]; omega) (fun p hp hpj => by
          rw [List.length_take] at hp
          rw [List.getElem_take]
          exact hs p j (by omega) hlt hpj) (fun h => by rw [List.length_take] at h; omega)
        have e : ins F[j] (F.take j) = F.take (j + 1) := by
          unfold ins
          rw [hc, List.take_take, Nat.min_self, List.drop_eq_nil_of_le (by rw [List.length_take]; omega), List.append_nil, take_snoc F j hlt]
        rw [e]
        exact ih (j + 1) (by omega)
  simpa [quorumref0_Rising.f] using key F.length 0 (by omega)

/-! Cut -/
theorem mem_last {F : List Int} {m : Nat} (hs : Sorted F) (n : Nat) (h : F.length = n + 1) (hr : ∀ x ∈ F, 0 ≤ x ∧ x < (m : Int)) : ((m : Int) - 1) ∈ F ↔ F[n] = (m : Int) - 1 := by
  constructor
  · intro hm
    obtain ⟨i, hi, e⟩ := List.mem_iff_getElem.1 hm
    rcases Nat.lt_or_ge i n with h1 | h1
    · have h2 := hs i n hi (by omega) h1
      have h3 := (hr F[n] (List.getElem_mem _)).2
      omega
    · have : i = n := by omega
      subst this; exact e
  · intro e; exact e ▸ List.getElem_mem _
theorem refcut_from (n : Nat) : ∀ (S : List Bs) (F : List Int), F.length = n → F.length ≤ 17592186044416 → S.length ≤ 17592186044416 → Sorted F → (∀ x ∈ F, 0 ≤ x ∧ x < (S.length : Int)) → Ev (fun k => quorumref4_Cut.l0 k S F) ((trim n S F).1, (trim n S F).2, 0) := by
  have stop : ∀ (S : List Bs) (F : List Int), Ev (fun k => quorumref4_Cut.j1 k false S F) (S, F, 0) := fun S F => Ev.step (fun k => by simp only [quorumref4_Cut.j1]; rfl) (Ev.if_neg (by simp) (Ev.now _))
  induction n with
  | zero =>
    intro S F hn hF hS _ _
    refine Ev.step (fun k => by simp only [quorumref4_Cut.l0]; rfl) (Ev.iff (fun h => ?_) (fun h => stop _ _))
    obtain ⟨r, hr, hx⟩ := in_ev F (wrap64 ((S.length : Int) - 1)) (by omega)
    refine Ev.bind hr ?_
    have : F = [] := List.eq_nil_of_length_eq_zero hn
    subst this
    rw [decide_eq_false (fun h2 => by have := hx.1 h2; simp at this)]
    exact stop _ _
  | succ n ih =>
    intro S F hn hF hS hs hr
    have hl := last_at F n hn
    have hm := hr F[n] (List.getElem_mem _)
    refine Ev.step (fun k => by simp only [quorumref4_Cut.l0]; rfl) (Ev.if_pos (by omega) ?_)
    rw [wrap_less S.length (by omega)]
    obtain ⟨r, hrr, hx⟩ := in_ev F ((S.length : Int) - 1) (by omega)
    refine Ev.bind hrr ?_
    have hml := mem_last hs n hn hr
    unfold trim
    rw [hl]
    by_cases hc : F[n] = (S.length : Int) - 1
    · rw [if_pos hc, decide_eq_true (hx.2 (hml.2 hc))]
      refine Ev.step (fun k => by simp only [quorumref4_Cut.j1]; rfl) (Ev.if_pos (by trivial) ?_)
      rw [wrap_less S.length (by omega), wrap_less F.length (by omega)]
      refine Ev.if_pos (by omega) (Ev.if_pos (by omega) (Ev.if_pos (by omega) (Ev.if_pos (by omega) ?_)))
      have hlen : (F.take (F.length - 1)).length = n := by rw [List.length_take]; omega
      have := ih (S.take (S.length - 1)) (F.take (F.length - 1)) hlen (by rw [List.length_take]; omega) (by rw [List.length_take]; omega) (sorted_take hs _) (by
        have h2 := take_less hs n hn hc hr
        rw [List.length_take, Nat.min_eq_left (by omega)]
        exact h2)
      rw [show ((S.length : Int) - 1).toNat = S.length - 1 from by omega, show ((F.length : Int) - 1).toNat = F.length - 1 from by omega]
      exact this
    · rw [if_neg hc, decide_eq_false (fun h2 => hc (hml.1 (hx.1 h2)))]
      exact stop _ _
open Classical in
theorem refCut_ev (S : List Bs) (F : List Int) (n : Int) (hw : Wf S F) (hm : May S F) : Ev (fun k => quorumref4_Cut.f k S F n) (cutRes S F n) := by
  have := hw.ls
  have := hw.lf
  unfold quorumref4_Cut.f cutRes
  rw [if_pos hm]
  refine Ev.bind (there_ev S F n hw) ?_
  by_cases ht : There S F n
  · rw [if_pos ht, decide_eq_true ht]
    have hs := free_sorted hm.free
    refine Ev.if_pos (by trivial) (Ev.bind (copy_ev S F hw) ?_)
    dsimp only
    refine Ev.if_pos ht.1 (Ev.if_pos ht.2.1 (Ev.if_pos (by omega) (Ev.bind (rising_ev F n hs ht.2.2 (by omega)) ?_)))
    have hl := ins_len n F
    exact refcut_from (F.length + 1) (S.set n.toNat ⟨#[]⟩) (ins n F) hl (by omega) (by rw [List.length_set]; omega) (ins_sorted hs ht.2.2) (ins_range hm ht)
  · rw [if_neg ht, decide_eq_false ht]; exact Ev.if_neg (by simp) (Ev.now _)

/-! Check, Bytes -/
open Classical in
theorem Check_ev (S : List Bs) (F : List Int) (hw : Wf S F) : Ev (fun k => page_Check.f k S F) (if May S F then 0 else 1) := by
  have := hw.lf
  refine Ev.bind (may_ev S F hw.b (by omega)) ?_
  by_cases h : May S F
  · rw [decide_eq_true h, if_pos h]; exact Ev.if_pos (by trivial) (Ev.now _)
  · rw [decide_eq_false h, if_neg h]; exact Ev.if_neg (by simp) (Ev.now _)
open Classical in
theorem Bytes_ev (S : List Bs) (F : List Int) (hw : Wf S F) : Ev (fun k => page_Bytes.f k S F) (if May S F then ((sz S : Int), 0) else (0, 1)) := by
  have := hw.lf
  refine Ev.bind (may_ev S F hw.b (by omega)) ?_
  by_cases h : May S F
  · rw [decide_eq_true h, if_pos h]; exact Ev.if_pos (by trivial) (Ev.bind (size_ev S h.few hw.b) (Ev.now _))
  · rw [decide_eq_false h, if_neg h]; exact Ev.if_neg (by simp) (Ev.now _)
end Go.Proofs.Ytoodkefpkgbjcaa.HPage
