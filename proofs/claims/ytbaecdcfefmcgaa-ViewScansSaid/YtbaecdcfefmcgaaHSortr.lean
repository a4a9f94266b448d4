/- What pend.All leaves, in plain words: of each (table, key) that was written one write, and no more than were written. -/
import Derived.Test.YtbaecdcfefmcgaaHAllr
import Derived.Sort.LotA
set_option linter.unusedSimpArgs false
set_option linter.unusedVariables false
namespace Go.Proofs.Ytbaecdcfefmcgaa.HAll
open Go.Lib Go.Sort Go.RowKit Go.Proofs.Ytbaecdcfefmcgaa.PVrs
abbrev Wr := S36
theorem cB_cons (a b : UInt8) (xs ys : List UInt8) : compareBytes (a :: xs) (b :: ys) = if a.toNat < b.toNat then -1 else if b.toNat < a.toNat then 1 else compareBytes xs ys := by
  rw [compareBytes]
  simp only [UInt8.lt_iff_toNat_lt]
theorem cB_refl : ∀ a, compareBytes a a = 0
  | [] => rfl
  | a :: xs => by rw [cB_cons, if_neg (by omega), if_neg (by omega)]; exact cB_refl xs
theorem cB_anti : ∀ a b, compareBytes b a = - compareBytes a b
  | [], [] => rfl
  | [], _ :: _ => rfl
  | _ :: _, [] => rfl
  | a :: xs, b :: ys => by
    rw [cB_cons, cB_cons]
    by_cases h1 : a.toNat < b.toNat
    · rw [if_pos h1, if_neg (by omega), if_pos h1]; rfl
    · by_cases h2 : b.toNat < a.toNat
      · simp [h1, h2]
      · rw [if_neg h1, if_neg h2, if_neg h2, if_neg h1]; exact cB_anti xs ys
theorem cB_zero : ∀ a b, compareBytes a b = 0 → a = b
  | [], [] => fun _ => rfl
  | [], _ :: _ => fun h => by simp [compareBytes] at h
  | _ :: _, [] => fun h => by simp [compareBytes] at h
  | a :: xs, b :: ys => fun h => by
    rw [cB_cons] at h
    by_cases h1 : a.toNat < b.toNat
    · rw [if_pos h1] at h; simp at h
    · by_cases h2 : b.toNat < a.toNat
      · rw [if_neg h1, if_pos h2] at h; simp at h
      · rw [if_neg h1, if_neg h2] at h
        rw [UInt8.toNat_inj.1 (show a.toNat = b.toNat by omega), cB_zero xs ys h]
theorem cB_trans : ∀ a b c, compareBytes a b < 0 → compareBytes b c < 0 → compareBytes a c < 0
  | [], [], _ => fun h _ => by simp [compareBytes] at h
  | [], _ :: _, [] => fun _ h => by simp [compareBytes] at h
  | [], _ :: _, _ :: _ => fun _ _ => by simp [compareBytes]
  | _ :: _, [], _ => fun h _ => by simp [compareBytes] at h
  | _ :: _, _ :: _, [] => fun _ h => by simp [compareBytes] at h
  | a :: xs, b :: ys, c :: zs => fun h1 h2 => by
    rw [cB_cons] at h1 h2 ⊢
    by_cases e1 : a.toNat < b.toNat
    · by_cases e2 : b.toNat < c.toNat
      · rw [if_pos (by omega)]; decide
      · by_cases e3 : c.toNat < b.toNat
        · rw [if_neg e2, if_pos e3] at h2; omega
        · rw [if_pos (by omega)]; decide
    · by_cases e2 : b.toNat < a.toNat
      · rw [if_neg e1, if_pos e2] at h1; omega
      · rw [if_neg e1, if_neg e2] at h1
        by_cases e3 : b.toNat < c.toNat
        · rw [if_pos (by omega)]; decide
        · by_cases e4 : c.toNat < b.toNat
          · rw [if_neg e3, if_pos e4] at h2; omega
          · rw [if_neg e3, if_neg e4] at h2
            rw [if_neg (by omega), if_neg (by omega)]
            exact cB_trans xs ys zs h1 h2
def cmpK (x y : Wr) : Int := compareBytes x.f1.data.toList y.f1.data.toList
def ltT (x y : Wr) : Bool := decide (x.f0 < y.f0 ∨ (x.f0 = y.f0 ∧ cmpK x y < 0))
theorem cmpK_ntrans (x y z : Wr) (h1 : 0 ≤ cmpK x y) (h2 : 0 ≤ cmpK y z) : 0 ≤ cmpK x z := by
  unfold cmpK at *
  rcases Int.lt_or_eq_of_le h1 with h3 | h3
  · rcases Int.lt_or_eq_of_le h2 with h4 | h4
    · have a1 := cB_anti x.f1.data.toList y.f1.data.toList
      have a2 := cB_anti y.f1.data.toList z.f1.data.toList
      have a3 := cB_anti x.f1.data.toList z.f1.data.toList
      have := cB_trans _ _ _ (show compareBytes z.f1.data.toList y.f1.data.toList < 0 by omega) (show compareBytes y.f1.data.toList x.f1.data.toList < 0 by omega)
      omega
    · rw [← cB_zero _ _ h4.symm]; exact h1
  · rw [cB_zero _ _ h3.symm]; exact h2
theorem ltT_swo : SWO ltT where
  irrefl := fun x => by
    unfold ltT cmpK
    rw [cB_refl]
    simp
  trans := fun x y z h1 h2 => by
    unfold ltT at *
    rw [decide_eq_true_eq] at *
    rcases h1 with h1 | ⟨h1, h1'⟩
    · rcases h2 with h2 | ⟨h2, h2'⟩
      · exact Or.inl (by omega)
      · exact Or.inl (by omega)
    · rcases h2 with h2 | ⟨h2, h2'⟩
      · exact Or.inl (by omega)
      · exact Or.inr ⟨by omega, cB_trans _ _ _ h1' h2'⟩
  ntrans := fun x y z h1 h2 => by
    unfold ltT at *
    rw [decide_eq_false_iff_not] at *
    intro h3
    rcases h3 with h3 | ⟨h3, h3'⟩
    · by_cases e : x.f0 < y.f0
      · exact h1 (Or.inl e)
      · exact h2 (Or.inl (by omega))
    · by_cases e : x.f0 = y.f0
      · have k1 : 0 ≤ cmpK x y := by
          rcases Int.lt_or_le (cmpK x y) 0 with h | h
          · exact absurd (Or.inr ⟨e, h⟩) h1
          · exact h
        have k2 : 0 ≤ cmpK y z := by
          rcases Int.lt_or_le (cmpK y z) 0 with h | h
          · exact absurd (Or.inr ⟨by omega, h⟩) h2
          · exact h
        have := cmpK_ntrans x y z k1 k2
        omega
      · by_cases e2 : x.f0 < y.f0
        · exact h1 (Or.inl e2)
        · exact h2 (Or.inl (by omega))
/-- A write's table may be. -/
def okT (x : Wr) : Prop := 0 ≤ x.f0 ∧ x.f0 < 3
def sameK (x y : Wr) : Prop := x.f0 = y.f0 ∧ x.f1.data.toList = y.f1.data.toList
theorem wrap_ok {x y : Wr} (hx : okT x) (hy : okT y) : wrap64 (x.f0 - y.f0) = x.f0 - y.f0 := by
  obtain ⟨a, b⟩ := hx
  obtain ⟨c, d⟩ := hy
  unfold wrap64
  omega
theorem lt_ok {x y : Wr} (hx : okT x) (hy : okT y) : ltOf ordOf x y = ltT x y := by
  unfold ltOf ordOf ltT cmpK
  rw [wrap_ok hx hy, decide_eq_decide]
  by_cases h : x.f0 - y.f0 ≠ 0
  · rw [if_pos h]
    constructor
    · intro h2; exact Or.inl (by omega)
    · rintro (h2 | ⟨h2, _⟩)
      · omega
      · omega
  · rw [if_neg h]
    constructor
    · intro h2; exact Or.inr ⟨by omega, h2⟩
    · rintro (h2 | ⟨_, h2⟩)
      · omega
      · exact h2
theorem eq_ok {x y : Wr} (hx : okT x) (hy : okT y) : eqO x y = true ↔ sameK x y := by
  unfold eqO ordOf sameK
  rw [wrap_ok hx hy, beq_iff_eq]
  by_cases h : x.f0 - y.f0 ≠ 0
  · rw [if_pos h]
    constructor
    · intro h2; exact absurd h2 h
    · rintro ⟨h2, _⟩; omega
  · rw [if_neg h]
    constructor
    · intro h2; exact ⟨by omega, cB_zero _ _ h2⟩
    · rintro ⟨_, h2⟩; rw [h2]; exact cB_refl _
def okA (d : Array Wr) : Prop := ∀ x ∈ d.toList, okT x
theorem okA_get {d : Array Wr} (h : okA d) {i : Nat} (hi : i < d.size) : okT d[i]! := by
  rw [getElem!_pos d i hi]
  exact h _ (by rw [← Array.getElem_toList]; exact List.getElem_mem _)
theorem okA_perm {d d' : Array Wr} (h : okA d) (hp : PermIn 0 d.size d d') : okA d' := by
  obtain ⟨h1, _, h3⟩ := hp
  intro x hx
  have e1 : d'.extract 0 d.size = d' := by rw [← h1]; exact Array.extract_size
  have e2 : d.extract 0 d.size = d := Array.extract_size
  rw [e1, e2] at h3
  exact h x (h3.mem_iff.1 hx)
theorem inner_same (a : Nat) : ∀ (j : Nat) (d : Array Wr), j < d.size → okA d → insInner (ltOf ordOf) a j d = insInner ltT a j d
  | 0, d, _, _ => rfl
  | j + 1, d, hj, hd => by
    unfold insInner
    rw [lt_ok (okA_get hd hj) (okA_get hd (show j < d.size by omega))]
    split
    · refine inner_same a j _ (by rw [size_swp]; omega) (okA_perm hd ?_)
      exact swp_permIn d 0 d.size (j + 1) j (by omega) (by omega) (by omega) (by omega) (Nat.le_refl _)
    · rfl
theorem inner_ok (a : Nat) : ∀ (j : Nat) (d : Array Wr), j < d.size → okA d → okA (insInner ltT a j d)
  | 0, d, _, h => h
  | j + 1, d, hj, hd => by
    unfold insInner
    split
    · exact inner_ok a j _ (by rw [size_swp]; omega) (okA_perm hd (swp_permIn d 0 d.size (j + 1) j (by omega) (by omega) (by omega) (by omega) (Nat.le_refl _)))
    · exact hd
theorem outer_same (a b : Nat) : ∀ (m i : Nat) (d : Array Wr), b - i ≤ m → b ≤ d.size → okA d → insOuter (ltOf ordOf) a b i d = insOuter ltT a b i d
  | 0, i, d, h, _, _ => by rw [insOuter_stop _ a b i d (by omega), insOuter_stop _ a b i d (by omega)]
  | m + 1, i, d, h, hb, hd => by
    by_cases hi : i < b
    · rw [insOuter_go _ a b i d hi, insOuter_go _ a b i d hi, inner_same a i d (by omega) hd]
      exact outer_same a b m (i + 1) _ (by omega) (by rw [size_insInner]; exact hb) (inner_ok a i d (by omega) hd)
    · rw [insOuter_stop _ a b i d hi, insOuter_stop _ a b i d hi]
theorem sort_facts (l : List Wr) (hl : ∀ x ∈ l, okT x) : (sortOf l).Perm l ∧ ∀ i j, i < j → j < l.length → ltT (sortOf l)[j]! (sortOf l)[i]! = false := by
  have e : Sort.insertionSort (ltOf ordOf) l.toArray 0 l.length = Sort.insertionSort ltT l.toArray 0 l.length := outer_same 0 l.length _ _ l.toArray (Nat.le_refl _) (by simp) (by simpa [okA] using hl)
  obtain ⟨hp, hs⟩ := insertionSort_holds ltT_swo l.toArray 0 l.length (Nat.zero_le _) (by simp)
  have hsz : (Sort.insertionSort ltT l.toArray 0 l.length).size = l.length := by rw [size_ins]; simp
  unfold sortOf
  rw [e]
  generalize Sort.insertionSort ltT l.toArray 0 l.length = X at hp hs hsz ⊢
  constructor
  · obtain ⟨_, _, h3⟩ := hp
    have e1 : X.extract 0 l.length = X := by
      have h : X.extract 0 X.size = X := Array.extract_size
      rwa [hsz] at h
    have e2 : l.toArray.extract 0 l.length = l.toArray := by
      have h : l.toArray.extract 0 l.toArray.size = l.toArray := Array.extract_size
      rwa [List.size_toArray] at h
    rw [e1, e2] at h3
    exact h3
  · intro i j hij hj
    have h := hs i j (Nat.zero_le _) hij hj
    have g : ∀ k, k < l.length → X.toList[k]! = X[k]! := fun k hk => by
      rw [getElem!_pos X k (by omega), getElem!_pos X.toList k (by simpa [hsz] using hk), Array.getElem_toList]
    rw [g j hj, g i (by omega)]
    exact h
theorem count_one (r : Nat → Bool) (j0 : Nat) : ∀ n, (∀ j, j < n → r j = true → j = j0) → (List.range n).countP r = if j0 < n ∧ r j0 = true then 1 else 0
  | 0, _ => by simp
  | n + 1, h => by
    rw [List.range_succ, List.countP_append, count_one r j0 n (fun j hj => h j (by omega)), List.countP_cons, List.countP_nil]
    by_cases hn : r n = true
    · obtain rfl := h n (by omega) hn
      rw [if_neg (by omega), if_pos hn, if_pos ⟨by omega, hn⟩]
    · rw [if_neg hn]
      by_cases h2 : j0 < n ∧ r j0 = true
      · rw [if_pos h2, if_pos ⟨by omega, h2.2⟩]
      · rw [if_neg h2, if_neg]
        rintro ⟨h3, h4⟩
        by_cases e : j0 = n
        · exact hn (e ▸ h4)
        · exact h2 ⟨by omega, h4⟩
theorem all_len (l : List Wr) : (allOf l).length ≤ l.length := by
  unfold allOf runsOf cmpUp
  rw [List.length_map]
  refine Nat.le_trans (List.length_filter_le _ _) ?_
  rw [List.length_range, sortOf_len, List.length_reverse]
  exact Nat.le_refl _
theorem all_mem (l : List Wr) (hl : ∀ x ∈ l, okT x) : ∀ x ∈ allOf l, x ∈ l := by
  intro x hx
  unfold allOf runsOf cmpUp at hx
  obtain ⟨j, hj, rfl⟩ := List.mem_map.1 hx
  have hj2 := List.mem_range.1 (List.mem_filter.1 hj).1
  have hp := (sort_facts l.reverse (fun x h => hl x (List.mem_reverse.1 h))).1
  rw [getElem!_pos _ j (by simpa using hj2)]
  exact List.mem_reverse.1 (hp.mem_iff.1 (by simp))
theorem all_one (l : List Wr) (hl : ∀ x ∈ l, okT x) (w : Wr) (hw : w ∈ l) (p : Wr → Bool) (hp : ∀ x ∈ l, p x = true ↔ sameK x w) : (allOf l).countP p = 1 := by
  have hl' : ∀ x ∈ l.reverse, okT x := fun x h => hl x (List.mem_reverse.1 h)
  obtain ⟨hperm, hsort⟩ := sort_facts l.reverse hl'
  have hn : (sortOf l.reverse).length = l.reverse.length := sortOf_len _
  generalize hS : sortOf l.reverse = s at hperm hsort hn
  have hmem : ∀ x, x ∈ s ↔ x ∈ l := fun x => by rw [hperm.mem_iff, List.mem_reverse]
  have hget : ∀ j, j < s.length → s.toArray[j]! = s[j]! := fun j hj => by rw [getElem!_pos s.toArray j (by simpa using hj), getElem!_pos s j hj]; simp
  have hin : ∀ j, j < s.length → s[j]! ∈ l := fun j hj => by rw [getElem!_pos s j hj]; exact (hmem _).1 (List.getElem_mem hj)
  unfold allOf runsOf cmpUp
  rw [hS, List.countP_map, List.countP_filter]
  -- the first place of the key
  obtain ⟨i0, hi0, hw0⟩ : ∃ i, i < s.length ∧ p s[i]! = true := by
    obtain ⟨i, hi, e⟩ := List.mem_iff_getElem.1 ((hmem w).2 hw)
    exact ⟨i, hi, by rw [getElem!_pos s i hi, e]; exact (hp w hw).2 ⟨rfl, rfl⟩⟩
  obtain ⟨j0, hj0, hpj, hmin⟩ : ∃ j, j < s.length ∧ p s[j]! = true ∧ ∀ k, k < j → ¬ p s[k]! = true := by
    have hlt : s.findIdx p < s.length := List.findIdx_lt_length_of_exists ⟨s[i0]!, by rw [getElem!_pos s i0 hi0]; exact List.getElem_mem hi0, hw0⟩
    refine ⟨s.findIdx p, hlt, ?_, fun k hk => ?_⟩
    · rw [getElem!_pos s _ hlt]; exact List.findIdx_getElem (w := hlt)
    · rw [getElem!_pos s k (by omega)]
      have := List.not_of_lt_findIdx (p := p) (xs := s) hk
      simpa using this
  have hsame : ∀ i j, i < s.length → j < s.length → (p s[i]! = true) → (p s[j]! = true) → sameK s[i]! s[j]! := fun i j hi hj h1 h2 => by
    have a1 := (hp _ (hin i hi)).1 h1
    have a2 := (hp _ (hin j hj)).1 h2
    exact ⟨a1.1.trans a2.1.symm, a1.2.trans a2.2.symm⟩
  have hok : ∀ j, j < s.length → okT s[j]! := fun j hj => hl _ (hin j hj)
  have hkp0 : kp eqO s.toArray j0 = true := by
    unfold kp
    by_cases h0 : j0 = 0
    · rw [h0]; rfl
    · rw [hget j0 hj0, hget (j0 - 1) (by omega)]
      have hne : ¬ eqO s[j0]! s[j0 - 1]! = true := fun h => by
        have h2 := (eq_ok (hok j0 hj0) (hok (j0 - 1) (by omega))).1 h
        have h3 := (hp _ (hin j0 hj0)).1 hpj
        exact hmin (j0 - 1) (by omega) ((hp _ (hin (j0 - 1) (by omega))).2 ⟨h2.1.symm.trans h3.1, h2.2.symm.trans h3.2⟩)
      rw [Bool.eq_false_iff.2 hne]
      simp
  have huniq : ∀ j, j < s.length → p s[j]! = true → kp eqO s.toArray j = true → j = j0 := by
    intro j hj h1 h2
    rcases Nat.lt_trichotomy j j0 with h | h | h
    · exact absurd h1 (hmin j h)
    · exact h
    · exfalso
      have hlen : ∀ k, k < s.length → k < l.reverse.length := fun k hk => by omega
      have hk := hsame j0 j hj0 hj hpj h1
      have hb : sameK s[j]! s[j - 1]! := by
        by_cases e : j - 1 = j0
        · rw [e]; exact ⟨hk.1.symm, hk.2.symm⟩
        · have s1 := hsort j0 (j - 1) (by omega) (hlen _ (by omega))
          have s2 := hsort (j - 1) j (by omega) (hlen _ hj)
          unfold ltT cmpK at s1 s2
          rw [decide_eq_false_iff_not] at s1 s2
          rw [hk.1, hk.2] at s1
          have f1 : (s[j]!).f0 = (s[j - 1]!).f0 := by
            by_cases a : (s[j - 1]!).f0 < (s[j]!).f0
            · exact absurd (Or.inl a) s1
            · by_cases b : (s[j]!).f0 < (s[j - 1]!).f0
              · exact absurd (Or.inl b) s2
              · omega
          have c1 : ¬ compareBytes (s[j - 1]!).f1.data.toList (s[j]!).f1.data.toList < 0 := fun h => s1 (Or.inr ⟨f1.symm, h⟩)
          have c2 : ¬ compareBytes (s[j]!).f1.data.toList (s[j - 1]!).f1.data.toList < 0 := fun h => s2 (Or.inr ⟨f1, h⟩)
          have c3 := cB_anti (s[j]!).f1.data.toList (s[j - 1]!).f1.data.toList
          exact ⟨f1, cB_zero _ _ (by omega)⟩
      have heq := (eq_ok (hok j hj) (hok (j - 1) (by omega))).2 hb
      unfold kp at h2
      rw [hget j hj, hget (j - 1) (by omega), heq] at h2
      have : j ≠ 0 := by omega
      simp [this] at h2
  have hc := count_one (fun j => p s[j]! && kp eqO s.toArray j) j0 s.length (fun j hj h => by
    simp only [Bool.and_eq_true] at h
    exact huniq j hj h.1 h.2)
  rw [if_pos ⟨hj0, by simp only [Bool.and_eq_true]; exact ⟨hpj, hkp0⟩⟩] at hc
  rw [← hc]
  apply List.countP_congr
  intro j hj
  have hj2 := List.mem_range.1 hj
  simp only [Function.comp_apply, hget j hj2]
end Go.Proofs.Ytbaecdcfefmcgaa.HAll
