/- pend.All keeps of each (table, key) the LAST write, in order: what it leaves is told by its members alone. -/
import Derived.Test.YtbaecdcfefmcgaaHSortr
set_option linter.unusedSimpArgs false
set_option linter.unusedVariables false
namespace Go.Proofs.Ytbaecdcfefmcgaa.HAll
open Go.Lib Go.Sort Go.RowKit Go.Proofs.Ytbaecdcfefmcgaa.PVrs
theorem list_swap (A B : List Wr) (x y : Wr) : ((A ++ x :: y :: B).set (A.length + 1) x).set A.length y = A ++ y :: x :: B := by
  induction A with
  | nil => rfl
  | cons a A ih => simp
theorem filter_swp (p : Wr → Bool) (d : Array Wr) (j : Nat) (hj : j + 1 < d.size) (h : ¬ (p d[j]! = true ∧ p d[j + 1]! = true)) : (swp d (j + 1) j).toList.filter p = d.toList.filter p := by
  have hl : d.toList.length = d.size := Array.length_toList
  have e1 : d[j]! = d.toList[j]'(by omega) := by rw [getElem!_pos d j (by omega), Array.getElem_toList]
  have e2 : d[j + 1]! = d.toList[j + 1]'(by omega) := by rw [getElem!_pos d (j + 1) hj, Array.getElem_toList]
  have hd : d.toList = d.toList.take j ++ d[j]! :: d[j + 1]! :: d.toList.drop (j + 2) := by
    rw [e1, e2, ← List.drop_eq_getElem_cons (by omega), ← List.drop_eq_getElem_cons (by omega), List.take_append_drop]
  have hs : (swp d (j + 1) j).toList = d.toList.take j ++ d[j + 1]! :: d[j]! :: d.toList.drop (j + 2) := by
    unfold swp
    rw [Array.toList_setIfInBounds, Array.toList_setIfInBounds]
    have ht : (d.toList.take j).length = j := by rw [List.length_take]; omega
    have := list_swap (d.toList.take j) (d.toList.drop (j + 2)) d[j]! d[j + 1]!
    rw [ht] at this
    rw [← this, ← hd]
  rw [hs]
  conv => rhs; rw [hd]
  simp only [List.filter_append, List.filter_cons]
  by_cases h1 : p d[j]! = true
  · by_cases h2 : p d[j + 1]! = true
    · exact absurd ⟨h1, h2⟩ h
    · simp [h1, h2]
  · simp [h1]
/-- Writes of one key are none ahead of another. -/
def OneKey (p : Wr → Bool) : Prop := ∀ x y, p x = true → p y = true → ltT y x = false
theorem inner_stable (p : Wr → Bool) (hp : OneKey p) (a : Nat) : ∀ (j : Nat) (d : Array Wr), j < d.size → (insInner ltT a j d).toList.filter p = d.toList.filter p
  | 0, d, _ => rfl
  | j + 1, d, hj => by
    unfold insInner
    split
    · rename_i hc
      simp only [Bool.and_eq_true] at hc
      rw [inner_stable p hp a j _ (by rw [size_swp]; omega)]
      refine filter_swp p d j hj (fun h => ?_)
      have := hp _ _ h.1 h.2
      rw [hc.2] at this
      cases this
    · rfl
theorem outer_stable (p : Wr → Bool) (hp : OneKey p) (a b : Nat) : ∀ (m i : Nat) (d : Array Wr), b - i ≤ m → b ≤ d.size → (insOuter ltT a b i d).toList.filter p = d.toList.filter p
  | 0, i, d, h, _ => by rw [insOuter_stop _ a b i d (by omega)]
  | m + 1, i, d, h, hb => by
    by_cases hi : i < b
    · rw [insOuter_go _ a b i d hi, outer_stable p hp a b m (i + 1) _ (by omega) (by rw [size_insInner]; exact hb), inner_stable p hp a i d (by omega)]
    · rw [insOuter_stop _ a b i d hi]
theorem sort_stable (l : List Wr) (hl : ∀ x ∈ l, okT x) (p : Wr → Bool) (hp : OneKey p) : (sortOf l).filter p = l.filter p := by
  have e : Sort.insertionSort (ltOf ordOf) l.toArray 0 l.length = Sort.insertionSort ltT l.toArray 0 l.length := outer_same 0 l.length _ _ l.toArray (Nat.le_refl _) (by simp) (by simpa [okA] using hl)
  unfold sortOf
  rw [e]
  exact outer_stable p hp 0 l.length _ _ l.toArray (Nat.le_refl _) (by simp)
def keyB (x y : Wr) : Bool := decide (y.f0 = x.f0 ∧ y.f1.data.toList = x.f1.data.toList)
theorem keyB_one (x : Wr) : OneKey (keyB x) := by
  intro a b ha hb
  unfold keyB at ha hb
  rw [decide_eq_true_iff] at ha hb
  unfold ltT cmpK
  rw [ha.2, hb.2, cB_refl, ha.1, hb.1]
  simp
theorem keyB_self (x : Wr) : keyB x x = true := by simp [keyB]
theorem keyB_congr {x y : Wr} (h : keyB x y = true) : keyB x = keyB y := by
  unfold keyB at *
  rw [decide_eq_true_iff] at h
  funext z
  rw [h.1, h.2]
/-- The members, by prefixes of a sorted list. -/
theorem mem_cmpUp (s : List Wr) (hok : ∀ x ∈ s, okT x) (hs : ∀ i j, i < j → j < s.length → ltT s[j]! s[i]! = false) (x : Wr) : ∀ n, n ≤ s.length → (x ∈ cmpUp eqO s.toArray n ↔ ((s.take n).filter (keyB x)).head? = some x)
  | 0, _ => by simp [cmpUp]
  | n + 1, hn => by
    have hg : s.toArray[n]! = s[n]! := by rw [getElem!_pos s.toArray n (by simp; omega), getElem!_pos s n (by omega)]; simp
    have ht : s.take (n + 1) = s.take n ++ [s[n]!] := by rw [List.take_succ_eq_append_getElem (by omega), getElem!_pos s n (by omega)]
    have ih := mem_cmpUp s hok hs x n (by omega)
    have hin : ∀ i, i < s.length → s[i]! ∈ s := fun i hi => by rw [getElem!_pos s i hi]; exact List.getElem_mem hi
    rw [cmpUp_succ, ht, List.filter_append, List.mem_append, ih, hg]
    have hmemT : ∀ y, y ∈ s.take n → ∃ i, i < n ∧ s[i]! = y := fun y hy => by
      obtain ⟨i, hi, e⟩ := List.mem_iff_getElem.1 hy
      rw [List.length_take] at hi
      exact ⟨i, by omega, by rw [getElem!_pos s i (by omega), ← e, List.getElem_take]⟩
    by_cases hk : keyB x s[n]! = true
    · have hkeep : kp eqO s.toArray n = true ↔ (s.take n).filter (keyB x) = [] := by
        constructor
        · intro h
          rw [List.filter_eq_nil_iff]
          intro y hy hky
          obtain ⟨i, hi, rfl⟩ := hmemT y hy
          -- s[i] and s[n] are of one key, so is s[n - 1]
          unfold kp at h
          have hgn : s.toArray[n - 1]! = s[n - 1]! := by rw [getElem!_pos s.toArray (n - 1) (by simp; omega), getElem!_pos s (n - 1) (by omega)]; simp
          rw [hg, hgn] at h
          have hne : n ≠ 0 := by omega
          have hsame : sameK s[n]! s[n - 1]! := by
            unfold keyB at hk hky
            rw [decide_eq_true_iff] at hk hky
            by_cases e : n - 1 = i
            · rw [e]; exact ⟨hk.1.trans hky.1.symm, hk.2.trans hky.2.symm⟩
            · have s1 := hs i (n - 1) (by omega) (by omega)
              have s2 := hs (n - 1) n (by omega) (by omega)
              unfold ltT cmpK at s1 s2
              rw [decide_eq_false_iff_not] at s1 s2
              rw [hky.1, hky.2] at s1
              rw [hk.1, hk.2] at s2
              have f1 : x.f0 = (s[n - 1]!).f0 := by
                by_cases a : (s[n - 1]!).f0 < x.f0
                · exact absurd (Or.inl a) s1
                · by_cases b : x.f0 < (s[n - 1]!).f0
                  · exact absurd (Or.inl b) s2
                  · omega
              have c1 : ¬ compareBytes (s[n - 1]!).f1.data.toList x.f1.data.toList < 0 := fun h => s1 (Or.inr ⟨f1.symm, h⟩)
              have c2 : ¬ compareBytes x.f1.data.toList (s[n - 1]!).f1.data.toList < 0 := fun h => s2 (Or.inr ⟨f1, h⟩)
              have c3 := cB_anti x.f1.data.toList (s[n - 1]!).f1.data.toList
              exact ⟨hk.1.trans f1, hk.2.trans (cB_zero _ _ (by omega))⟩
          have := (eq_ok (hok _ (hin n (by omega))) (hok _ (hin (n - 1) (by omega)))).2 hsame
          rw [this] at h
          simp [hne] at h
        · intro h
          unfold kp
          by_cases hne : n = 0
          · simp [hne]
          · have hgn : s.toArray[n - 1]! = s[n - 1]! := by rw [getElem!_pos s.toArray (n - 1) (by simp; omega), getElem!_pos s (n - 1) (by omega)]; simp
            rw [hg, hgn]
            have hno : ¬ eqO s[n]! s[n - 1]! = true := fun e => by
              have h2 := (eq_ok (hok _ (hin n (by omega))) (hok _ (hin (n - 1) (by omega)))).1 e
              have : s[n - 1]! ∈ (s.take n).filter (keyB x) := by
                rw [List.mem_filter]
                constructor
                · rw [getElem!_pos s (n - 1) (by omega)]
                  have : (s.take n)[n - 1]'(by rw [List.length_take]; omega) = s[n - 1] := List.getElem_take
                  rw [← this]
                  exact List.getElem_mem _
                · unfold keyB at hk ⊢
                  rw [decide_eq_true_iff] at hk ⊢
                  exact ⟨h2.1.symm.trans hk.1, h2.2.symm.trans hk.2⟩
              rw [h] at this
              simp at this
            rw [Bool.eq_false_iff.2 hno]
            simp
      have hf1 : [s[n]!].filter (keyB x) = [s[n]!] := by rw [List.filter_cons_of_pos hk]; rfl
      rw [hf1]
      by_cases hkp : kp eqO s.toArray n = true
      · have he := hkeep.1 hkp
        rw [he, if_pos hkp]
        simp only [List.nil_append, List.head?_cons, List.head?_nil, List.mem_singleton, Option.some.injEq]
        constructor
        · rintro (h | h)
          · simp at h
          · exact h.symm
        · intro h; exact Or.inr h.symm
      · have he : (s.take n).filter (keyB x) ≠ [] := fun h => hkp (hkeep.2 h)
        rw [if_neg hkp]
        obtain ⟨y, ys, hy⟩ := List.exists_cons_of_ne_nil he
        rw [hy]
        simp
    · have hf1 : [s[n]!].filter (keyB x) = [] := by rw [List.filter_cons_of_neg hk]; rfl
      rw [hf1, List.append_nil]
      constructor
      · rintro (h | h)
        · exact h
        · split at h
          · rw [List.mem_singleton] at h
            exact absurd (by rw [← h]; exact keyB_self x) hk
          · simp at h
      · intro h; exact Or.inl h
/-- What is left: of each key that was written the last write. -/
theorem mem_all (l : List Wr) (hl : ∀ x ∈ l, okT x) (x : Wr) : x ∈ allOf l ↔ (l.reverse.filter (keyB x)).head? = some x := by
  have hl' : ∀ x ∈ l.reverse, okT x := fun x h => hl x (List.mem_reverse.1 h)
  obtain ⟨hperm, hsort⟩ := sort_facts l.reverse hl'
  have hn : (sortOf l.reverse).length = l.reverse.length := sortOf_len _
  have h := mem_cmpUp (sortOf l.reverse) (fun x h => hl' x (hperm.mem_iff.1 h)) (fun i j hij hj => hsort i j hij (by omega)) x (sortOf l.reverse).length (Nat.le_refl _)
  rw [List.take_length, sort_stable l.reverse hl' _ (keyB_one x)] at h
  exact h
theorem ltT_of_not {x y : Wr} (h1 : ltT y x = false) (h2 : ¬ sameK y x) : ltT x y = true := by
  unfold ltT cmpK at *
  rw [decide_eq_false_iff_not] at h1
  rw [decide_eq_true_iff]
  by_cases a : x.f0 < y.f0
  · exact Or.inl a
  · by_cases b : y.f0 < x.f0
    · exact absurd (Or.inl b) h1
    · refine Or.inr ⟨by omega, ?_⟩
      have c1 : ¬ compareBytes y.f1.data.toList x.f1.data.toList < 0 := fun h => h1 (Or.inr ⟨by omega, h⟩)
      have c3 := cB_anti x.f1.data.toList y.f1.data.toList
      by_cases c : compareBytes x.f1.data.toList y.f1.data.toList = 0
      · exact absurd ⟨by omega, (cB_zero _ _ c).symm⟩ h2
      · omega
theorem ltT_lt_of_le {x y z : Wr} (h1 : ltT y x = false) (h2 : ltT y z = true) : ltT x z = true := by
  by_cases h : ltT x z = true
  · exact h
  · have := ltT_swo.ntrans y x z h1 (Bool.eq_false_iff.2 h)
    rw [h2] at this
    cases this
/-- .. in order. -/
theorem all_sorted (l : List Wr) (hl : ∀ x ∈ l, okT x) : (allOf l).Pairwise (fun x y => ltT x y = true) := by
  have hl' : ∀ x ∈ l.reverse, okT x := fun x h => hl x (List.mem_reverse.1 h)
  obtain ⟨hperm, hsort⟩ := sort_facts l.reverse hl'
  have hn : (sortOf l.reverse).length = l.reverse.length := sortOf_len _
  unfold allOf runsOf
  generalize sortOf l.reverse = s at hperm hsort hn
  have hok : ∀ x ∈ s, okT x := fun x h => hl' x (hperm.mem_iff.1 h)
  have hin : ∀ i, i < s.length → s[i]! ∈ s := fun i hi => by rw [getElem!_pos s i hi]; exact List.getElem_mem hi
  have hget : ∀ j, j < s.length → s.toArray[j]! = s[j]! := fun j hj => by rw [getElem!_pos s.toArray j (by simpa using hj), getElem!_pos s j hj]; simp
  suffices ∀ n, n ≤ s.length → (cmpUp eqO s.toArray n).Pairwise (fun x y => ltT x y = true) ∧ ∀ x ∈ cmpUp eqO s.toArray n, ∃ i, i < n ∧ s[i]! = x from (this s.length (Nat.le_refl _)).1
  intro n
  induction n with
  | zero => intro _; simp [cmpUp]
  | succ n ih =>
    intro hn1
    obtain ⟨h1, h2⟩ := ih (by omega)
    rw [cmpUp_succ, hget n (by omega)]
    refine ⟨?_, fun x hx => ?_⟩
    · rw [List.pairwise_append]
      refine ⟨h1, by split <;> simp, fun x hx y hy => ?_⟩
      split at hy
      · rename_i hk
        rw [List.mem_singleton] at hy
        subst hy
        obtain ⟨i, hi, rfl⟩ := h2 x hx
        unfold kp at hk
        rw [hget n (by omega), hget (n - 1) (by omega)] at hk
        have hne : n ≠ 0 := by omega
        have hns : ¬ sameK s[n]! s[n - 1]! := fun e => by
          rw [(eq_ok (hok _ (hin n (by omega))) (hok _ (hin (n - 1) (by omega)))).2 e] at hk
          simp [hne] at hk
        have hlt := ltT_of_not (hsort (n - 1) n (by omega) (by omega)) hns
        by_cases e : i = n - 1
        · rw [e]; exact hlt
        · exact ltT_lt_of_le (hsort i (n - 1) (by omega) (by omega)) hlt
      · simp at hy
    · rw [List.mem_append] at hx
      rcases hx with hx | hx
      · obtain ⟨i, hi, e⟩ := h2 x hx
        exact ⟨i, by omega, e⟩
      · split at hx
        · rw [List.mem_singleton] at hx
          exact ⟨n, by omega, hx.symm⟩
        · simp at hx
/-- Two lists in order with the same members are one. -/
theorem sorted_one : ∀ (a b : List Wr), a.Pairwise (fun x y => ltT x y = true) → b.Pairwise (fun x y => ltT x y = true) → (∀ x, x ∈ a ↔ x ∈ b) → a = b
  | [], [], _, _, _ => rfl
  | [], y :: b, _, _, h => by simpa using (h y).2 (by simp)
  | x :: a, [], _, _, h => by simpa using (h x).1 (by simp)
  | x :: a, y :: b, ha, hb, h => by
    rw [List.pairwise_cons] at ha hb
    have hxy : x = y := by
      rcases List.mem_cons.1 ((h x).1 (by simp)) with e | e
      · exact e
      · rcases List.mem_cons.1 ((h y).2 (by simp)) with e2 | e2
        · exact e2.symm
        · have h1 := hb.1 x e
          have h2 := ha.1 y e2
          have := ltT_swo.trans _ _ _ h1 h2
          rw [ltT_swo.irrefl] at this
          cases this
    subst hxy
    rw [sorted_one a b ha.2 hb.2 (fun z => ?_)]
    constructor
    · intro hz
      rcases List.mem_cons.1 ((h z).1 (List.mem_cons_of_mem _ hz)) with e | e
      · have := ha.1 z hz
        rw [e, ltT_swo.irrefl] at this
        cases this
      · exact e
    · intro hz
      rcases List.mem_cons.1 ((h z).2 (List.mem_cons_of_mem _ hz)) with e | e
      · have := hb.1 z hz
        rw [e, ltT_swo.irrefl] at this
        cases this
      · exact e
end Go.Proofs.Ytbaecdcfefmcgaa.HAll
