/- quorumref8.Sum and quorumref8.Last in plain words: the last write of each key, in order: what pend.All leaves. -/
import Derived.Test.YtbaecdcfefmcgaaPPlcx11
import Derived.Test.YtbaecdcfefmcgaaPPlcx10
import Derived.Test.YtbaecdcfefmcgaaHStablec
import Derived.Test.YtbaecdcfefmcgaaHPendMayJc
set_option linter.unusedSimpArgs false
set_option linter.unusedVariables false
set_option linter.unusedSectionVars false
namespace Go.Proofs.Ytbaecdcfefmcgaa.HPend
open Go.RowKit Go.Proofs.Ytbaecdcfefmcgaa.PPlc Go.Proofs.Ytbaecdcfefmcgaa.HNum Go.Proofs.YtbaecdcfefmcgaaW.PrintWords Go.Proofs.YtbaecdcfefmcgaaW.PrintLast
open Go.Proofs.Ytbaecdcfefmcgaa.HAll (ltT cmpK okT sameK keyB allOf cB_cons cB_refl cB_zero ltT_swo ltT_of_not keyB_self keyB_congr mem_all all_sorted sorted_one)
open Go.Lib (compareBytes)
theorem less_cmp : ∀ a b : List UInt8, Op.bytesLess a b = decide (compareBytes a b < 0)
  | [], [] => by simp [Op.bytesLess, compareBytes]
  | [], b :: ys => by simp [Op.bytesLess, compareBytes]
  | a :: xs, [] => by simp [Op.bytesLess, compareBytes]
  | a :: xs, b :: ys => by
    rw [cB_cons]
    simp only [Op.bytesLess]
    rw [less_cmp xs ys]
    by_cases h1 : a.toNat < b.toNat
    · have : a < b := h1
      rw [if_pos h1]
      simp [this]
    · have h1' : ¬ a < b := h1
      by_cases h2 : b.toNat < a.toNat
      · have : a ≠ b := fun e => by subst e; omega
        rw [if_neg h1, if_pos h2]
        simp [h1', this]
      · have : a = b := by apply UInt8.toNat_inj.1; omega
        rw [if_neg h1, if_neg h2]
        simp [h1', this]
theorem ltT_eq (x y : Wr) : ltT x y = decide (x.f0 < y.f0 ∨ (x.f0 = y.f0 ∧ Op.bytesLess x.f1.toList y.f1.toList = true)) := by
  unfold ltT cmpK
  simp only [ByteArray.toList_eq, less_cmp, decide_eq_true_eq]
/-- A write of a key. -/
def hitB (t : Int) (k : ByteArray) (x : Wr) : Bool := (x.f0 == t) && (x.f1.toList == k.toList)
def lastOut : Option Wr → (Int × ByteArray × ByteArray × Bool × Bool)
  | some x => (x.f0, x.f1, x.f2, x.f3, true)
  | none => (0, ⟨#[]⟩, ⟨#[]⟩, false, false)
theorem Last_from (l : List Wr) (m : List Int) (hl : l.length ≤ 12) (t : Int) (key : ByteArray) : ∀ j, j ≤ l.length → Ev (fun k => quorumref8_Last.l0 k t key ((j : Int) - 1) l m) (lastOut ((l.take j).reverse.find? (hitB t key))) := by
  intro j
  induction j with
  | zero =>
    intro _
    refine Ev.step (fun k => by simp only [quorumref8_Last.l0]; rfl) (Ev.if_neg (by omega) (Ev.const ?_))
    simp [lastOut]
  | succ j ih =>
    intro hj
    have hlt : j < l.length := by omega
    have e : ((j + 1 : Nat) : Int) - 1 = (j : Int) := by omega
    have et : (l.take (j + 1)).reverse = l[j] :: (l.take j).reverse := by
      rw [List.take_succ_eq_append_getElem hlt]; simp
    rw [e, et, List.find?_cons]
    have hw : wrap64 ((j : Int) - 1) = (j : Int) - 1 := by unfold wrap64; omega
    have go1 : ∀ (b : Bool) (r), (b = false → Ev (fun k => quorumref8_Last.l0 k t key ((j : Int) - 1) l m) r) → (b = true → r = lastOut (some l[j])) → Ev (fun k => quorumref8_Last.j1 k t key (j : Int) b l m) r := fun b r h1 h2 => by
      refine Ev.step (fun k => by simp only [quorumref8_Last.j1]; rfl) ?_
      cases b with
      | true =>
        refine Ev.if_pos rfl ?_
        refine Ev.if_pos (by omega) ?_
        refine Ev.if_pos (by omega) (Ev.const ?_)
        rw [rdw_at l j hlt, h2 rfl]
        rfl
      | false =>
        refine Ev.if_neg (by simp) ?_
        rw [hw]
        exact h1 rfl
    refine Ev.step (fun k => by simp only [quorumref8_Last.l0]; rfl) ?_
    refine Ev.if_pos (by omega) ?_
    refine Ev.if_pos (by omega) ?_
    refine Ev.if_pos (by omega) ?_
    rw [rdw_at l j hlt]
    refine Ev.iff (fun h0 => ?_) (fun h0 => ?_)
    · have hh : hitB t key l[j] = (l[j].f1.toList == key.toList) := by simp [hitB, h0]
      rw [hh]
      cases hb : (l[j].f1.toList == key.toList) with
      | true => exact go1 _ _ (fun h => by cases h) (fun _ => rfl)
      | false => exact go1 _ _ (fun _ => ih (by omega)) (fun h => by cases h)
    · have hh : hitB t key l[j] = false := by simp [hitB, h0]
      rw [hh]
      exact go1 _ _ (fun _ => ih (by omega)) (fun h => by cases h)
theorem Last_ev (l : List Wr) (m : List Int) (hl : l.length ≤ 12) (t : Int) (key : ByteArray) : Ev (fun k => quorumref8_Last.f k l m t key) (lastOut (l.reverse.find? (hitB t key))) := by
  have h := Last_from l m hl t key l.length (Nat.le_refl _)
  rw [List.take_length] at h
  unfold quorumref8_Last.f
  have hw : wrap64 ((l.length : Int) - 1) = (l.length : Int) - 1 := by unfold wrap64; omega
  rw [hw]
  exact h
theorem hitB_key (x : Wr) : hitB x.f0 x.f1 = keyB x := by
  funext y
  unfold hitB keyB
  rw [ByteArray.toList_eq, ByteArray.toList_eq]
  generalize y.f1.data.toList = a
  generalize x.f1.data.toList = b
  by_cases h1 : y.f0 = x.f0 <;> by_cases h2 : a = b <;> simp [h1, h2]
theorem last_head (l : List Wr) (x : Wr) : l.reverse.find? (hitB x.f0 x.f1) = (l.reverse.filter (keyB x)).head? := by
  rw [hitB_key, ← List.head?_filter]
/-- There is a last write of each key that was written. -/
theorem last_some (l : List Wr) (x : Wr) (hx : x ∈ l) : ∃ w, l.reverse.find? (hitB x.f0 x.f1) = some w ∧ keyB x w = true ∧ w ∈ l := by
  cases h : l.reverse.find? (hitB x.f0 x.f1) with
  | none =>
    rw [List.find?_eq_none] at h
    have := h x (List.mem_reverse.2 hx)
    rw [hitB_key, keyB_self] at this
    simp at this
  | some w =>
    refine ⟨w, rfl, ?_, ?_⟩
    · have := List.find?_some h
      rwa [hitB_key] at this
    · exact List.mem_reverse.1 (List.mem_of_find?_eq_some h)
theorem CopyWrites_ev (l : List Wr) (hl : l.length ≤ 100) : Ev (fun k => quorumref0_CopyWrites.f k l) l := by
  have key : ∀ d j : Nat, j + d = l.length → Ev (fun k => quorumref0_CopyWrites.l0 k l (l.take j) (j : Int)) l := by
    intro d
    induction d with
    | zero =>
      intro j hj
      refine Ev.step (fun k => by simp only [quorumref0_CopyWrites.l0]; rfl) (Ev.if_neg (by omega) (Ev.const ?_))
      rw [List.take_of_length_le (by omega)]
    | succ d ih =>
      intro j hj
      have hlt : j < l.length := by omega
      refine Ev.step (fun k => by simp only [quorumref0_CopyWrites.l0]; rfl) ?_
      refine Ev.if_pos (by omega) ?_
      refine Ev.if_pos (by omega) ?_
      refine Ev.if_pos (by rw [List.length_take]; omega) ?_
      rw [wrap_succ j (by omega), rdw_at l j hlt, show l.take j ++ [(⟨l[j].f0, l[j].f1, l[j].f2, l[j].f3⟩ : Wr)] = l.take (j + 1) from (List.take_succ_eq_append_getElem hlt).symm]
      exact ih (j + 1) (by omega)
  unfold quorumref0_CopyWrites.f
  exact key l.length 0 (by omega)

section
variable (l : List Wr) (m : List Int)
/-- What is told when the first i writes have been seen. -/
structure Seen (i : Nat) (s : List Wr) : Prop where
  len : s.length ≤ i
  sorted : s.Pairwise (fun x y => ltT x y = true)
  mem : ∀ x, x ∈ s ↔ ∃ y ∈ l.take i, l.reverse.find? (hitB y.f0 y.f1) = some x
theorem Seen.next {i : Nat} {s : List Wr} (hs : Seen l i s) (hi : i < l.length) (w : Wr) (hw : l.reverse.find? (hitB (l[i]).f0 (l[i]).f1) = some w) (hin : w ∈ s) : Seen l (i + 1) s := by
  refine ⟨by have := hs.len; omega, hs.sorted, fun x => ?_⟩
  rw [hs.mem, List.take_succ_eq_append_getElem hi]
  constructor
  · rintro ⟨y, hy, e⟩; exact ⟨y, List.mem_append_left _ hy, e⟩
  · rintro ⟨y, hy, e⟩
    rcases List.mem_append.1 hy with h | h
    · exact ⟨y, h, e⟩
    · obtain rfl := List.mem_singleton.1 h
      rw [hw] at e
      cases e
      exact (hs.mem w).1 hin
theorem Seen.put {i : Nat} {s : List Wr} (hs : Seen l i s) (hi : i < l.length) (w : Wr) (hw : l.reverse.find? (hitB (l[i]).f0 (l[i]).f1) = some w) (j : Nat) (hj : j ≤ s.length) (hlow : ∀ i' (h : i' < s.length), i' < j → ltT s[i'] w = true) (hat : ∀ h : j < s.length, ltT w s[j] = true) :
    Seen l (i + 1) (s.take j ++ [w] ++ s.drop j) := by
  refine ⟨?_, ?_, fun x => ?_⟩
  · have := hs.len
    simp only [List.length_append, List.length_take, List.length_drop, List.length_singleton]
    omega
  · have h1 : (s.take j).Pairwise (fun x y => ltT x y = true) := hs.sorted.sublist (List.take_sublist _ _)
    have h2 : (s.drop j).Pairwise (fun x y => ltT x y = true) := hs.sorted.sublist (List.drop_sublist _ _)
    have hlo : ∀ x ∈ s.take j, ltT x w = true := fun x hx => by
      obtain ⟨a, ha, rfl⟩ := List.mem_iff_getElem.1 hx
      rw [List.length_take] at ha
      rw [List.getElem_take]
      exact hlow a (by omega) (by omega)
    have hhi : ∀ x ∈ s.drop j, ltT w x = true := fun x hx => by
      obtain ⟨a, ha, rfl⟩ := List.mem_iff_getElem.1 hx
      rw [List.length_drop] at ha
      rw [List.getElem_drop]
      have hjl : j < s.length := by omega
      rcases Nat.eq_zero_or_pos a with rfl | h0
      · exact hat hjl
      · exact ltT_swo.trans _ _ _ (hat hjl) (List.pairwise_iff_getElem.1 hs.sorted j (j + a) hjl (by omega) (by omega))
    rw [List.append_assoc, List.pairwise_append]
    refine ⟨h1, ?_, fun x hx y hy => ?_⟩
    · rw [List.singleton_append, List.pairwise_cons]
      exact ⟨hhi, h2⟩
    · rcases List.mem_append.1 hy with h | h
      · obtain rfl := List.mem_singleton.1 h
        exact hlo x hx
      · exact ltT_swo.trans _ _ _ (hlo x hx) (hhi y h)
  · have e : x ∈ s.take j ++ [w] ++ s.drop j ↔ x ∈ s ∨ x = w := by
      rw [List.mem_append, List.mem_append, List.mem_singleton]
      constructor
      · rintro ((h | h) | h)
        · exact .inl (List.mem_of_mem_take h)
        · exact .inr h
        · exact .inl (List.mem_of_mem_drop h)
      · rintro (h | h)
        · rw [← List.take_append_drop j s, List.mem_append] at h
          rcases h with h | h
          · exact .inl (.inl h)
          · exact .inr h
        · exact .inl (.inr h)
    rw [e, hs.mem, List.take_succ_eq_append_getElem hi]
    constructor
    · rintro (⟨y, hy, e⟩ | rfl)
      · exact ⟨y, List.mem_append_left _ hy, e⟩
      · exact ⟨l[i], List.mem_append_right _ (List.mem_singleton.2 rfl), hw⟩
    · rintro ⟨y, hy, e⟩
      rcases List.mem_append.1 hy with h | h
      · exact .inl ⟨y, h, e⟩
      · obtain rfl := List.mem_singleton.1 h
        rw [hw] at e
        exact .inr (Option.some.inj e).symm
theorem Seen.all {s : List Wr} (hok : ∀ x ∈ l, okT x) (hs : Seen l l.length s) : s = allOf l := by
  refine sorted_one s (allOf l) hs.sorted (all_sorted l hok) (fun x => ?_)
  rw [hs.mem, mem_all l hok, List.take_length]
  constructor
  · rintro ⟨y, hy, e⟩
    have hk := List.find?_some e
    rw [hitB_key] at hk
    rw [last_head] at e
    rw [← keyB_congr hk]
    exact e
  · intro h
    have hx : x ∈ l := List.mem_reverse.1 ((List.mem_filter.1 (List.mem_of_mem_head? (by rw [h]; rfl))).1)
    exact ⟨x, hx, by rw [last_head]; exact h⟩
theorem Sum_from (hl : l.length ≤ 12) (hok : ∀ x ∈ l, okT x) (d : Nat) : ∀ (i : Nat) (s : List Wr), i + d = l.length → Seen l i s → Ev (fun k => quorumref8_Sum.l0 k s (i : Int) l m) (allOf l) := by
  induction d with
  | zero =>
    intro i s hi hs
    obtain rfl : i = l.length := by omega
    exact Ev.step (fun k => by simp only [quorumref8_Sum.l0]; rfl) (Ev.if_neg (by omega) (Ev.const (by rw [Seen.all l hok hs])))
  | succ d ih =>
    intro i s hi hs
    have hlt : i < l.length := by omega
    have hsl := hs.len
    obtain ⟨w, hw, hkw, hwl⟩ := last_some l l[i] (List.getElem_mem hlt)
    have hL := Last_ev l m hl (l[i]).f0 (l[i]).f1
    rw [hw] at hL
    refine Ev.step (fun k => by simp only [quorumref8_Sum.l0]; rfl) ?_
    refine Ev.if_pos (by omega) ?_
    refine Ev.if_pos (by omega) ?_
    rw [rdw_at l i hlt]
    refine Ev.bind hL ?_
    -- the place
    have hj3 : ∀ j (hj : j ≤ s.length), (∀ i' (h : i' < s.length), i' < j → ltT s[i'] w = true) → (∀ h : j < s.length, ltT s[j] w = false) → ∀ b : Bool, (b = true ↔ ∃ h : j < s.length, (s[j]).f0 = w.f0 ∧ (s[j]).f1.toList = w.f1.toList) →
        Ev (fun k => quorumref8_Sum.j3 k s (i : Int) (j : Int) b l m w.f0 w.f1 w.f2 w.f3) (allOf l) := fun j hj hlow hat b hb => by
      refine Ev.step (fun k => by simp only [quorumref8_Sum.j3]; rfl) ?_
      rw [wrap_succ i (by omega)]
      cases b with
      | true =>
        refine Ev.if_pos rfl (ih (i + 1) s (by omega) ?_)
        obtain ⟨h, e0, e1⟩ := hb.1 rfl
        refine Seen.next l hs hlt w hw ?_
        obtain ⟨y, hy, ey⟩ := (hs.mem s[j]).1 (List.getElem_mem h)
        have hk := List.find?_some ey
        rw [hitB_key] at hk
        rw [last_head, keyB_congr hk] at ey
        have hk2 : keyB s[j] w = true := by
          unfold keyB
          rw [ByteArray.toList_eq, ByteArray.toList_eq] at e1
          simp [e0, e1]
        rw [last_head, keyB_congr hkw, ← keyB_congr hk2, ey] at hw
        rw [← Option.some.inj hw]
        exact List.getElem_mem h
      | false =>
        refine Ev.if_neg (by simp) ?_
        refine Ev.if_pos (by omega) ?_
        refine Ev.if_pos (by omega) ?_
        refine Ev.bind (CopyWrites_ev _ (by rw [List.length_take]; omega)) ?_
        rw [Int.toNat_natCast]
        refine Ev.bind0 rfl ?_
        refine Ev.if_pos (by simp only [List.length_take, List.length_singleton]; omega) ?_
        refine Ev.bind0 rfl ?_
        refine Ev.bind0 rfl ?_
        refine Ev.if_pos (by simp only [List.length_append, List.length_take, List.length_drop, List.length_singleton]; omega) ?_
        refine ih (i + 1) _ (by omega) (Seen.put l hs hlt w hw j hj hlow (fun h => ltT_of_not (hat h) (fun hk => ?_)))
        have : false = true := hb.2 ⟨h, hk.1, by rw [ByteArray.toList_eq, ByteArray.toList_eq]; exact hk.2⟩
        cases this
    have stop : ∀ j (hj : j ≤ s.length), (∀ i' (h : i' < s.length), i' < j → ltT s[i'] w = true) → (∀ h : j < s.length, ltT s[j] w = false) → Ev (fun k => quorumref8_Sum.j2 k s (i : Int) (j : Int) false l m w.f0 w.f1 w.f2 w.f3) (allOf l) := fun j hj hlow hat => by
      refine Ev.step (fun k => by simp only [quorumref8_Sum.j2]; rfl) ?_
      refine Ev.if_neg (by simp) ?_
      refine Ev.iff (fun h => ?_) (fun h => hj3 j hj hlow hat false ⟨fun h2 => by (cases h2), fun ⟨h2, _⟩ => absurd h2 (by omega)⟩)
      have hjl : j < s.length := by omega
      refine Ev.if_pos (by omega) ?_
      rw [rdw_at s j hjl]
      refine Ev.iff (fun h0 => hj3 j hj hlow hat _ ⟨fun h2 => ⟨hjl, h0, by simpa using h2⟩, fun ⟨_, _, h2⟩ => by simpa using h2⟩) (fun h0 => hj3 j hj hlow hat false ⟨fun h2 => by (cases h2), fun ⟨_, h2, _⟩ => absurd h2 h0⟩)
    have place : ∀ (e j : Nat), j + e = s.length → (∀ i' (h : i' < s.length), i' < j → ltT s[i'] w = true) → Ev (fun k => quorumref8_Sum.l1 k s (i : Int) (j : Int) l m w.f0 w.f1 w.f2 w.f3) (allOf l) := by
      intro e
      induction e with
      | zero =>
        intro j hj hlow
        refine Ev.step (fun k => by simp only [quorumref8_Sum.l1]; rfl) ?_
        exact Ev.if_neg (by omega) (stop j (by omega) hlow (fun h => absurd h (by omega)))
      | succ e ihe =>
        intro j hj hlow
        have hjl : j < s.length := by omega
        have on : ltT s[j] w = true → Ev (fun k => quorumref8_Sum.j2 k s (i : Int) (j : Int) true l m w.f0 w.f1 w.f2 w.f3) (allOf l) := fun h => by
          refine Ev.step (fun k => by simp only [quorumref8_Sum.j2]; rfl) ?_
          refine Ev.if_pos trivial ?_
          rw [wrap_succ j (by omega)]
          refine ihe (j + 1) (by omega) (fun i' h1 h2 => ?_)
          rcases Nat.lt_or_ge i' j with h3 | h3
          · exact hlow i' h1 h3
          · obtain rfl : i' = j := by omega
            exact h
        refine Ev.step (fun k => by simp only [quorumref8_Sum.l1]; rfl) ?_
        refine Ev.if_pos (by omega) ?_
        refine Ev.if_pos (by omega) ?_
        rw [rdw_at s j hjl]
        refine Ev.iff (fun h0 => on (by rw [ltT_eq]; simp [h0])) (fun h0 => Ev.iff (fun h1 => ?_) (fun h1 => stop j (by omega) hlow (fun _ => by rw [ltT_eq]; simp [h0, h1])))
        cases hb : Op.bytesLess (s[j]).f1.toList w.f1.toList with
        | true => exact on (by rw [ltT_eq]; simp [h1, hb])
        | false => exact stop j (by omega) hlow (fun _ => by rw [ltT_eq]; simp [h0, hb])
    exact place s.length 0 (by omega) (fun i' h1 h2 => absurd h2 (by omega))
theorem okT_of {w : Wr} (h : wOK w = true) : okT w := by
  unfold wOK at h
  simp only [Bool.and_eq_true, decide_eq_true_eq] at h
  exact ⟨h.1, h.2.1⟩
theorem Sum_ev (hm : May l m) : Ev (fun k => quorumref8_Sum.f k l m) (allOf l) := by
  unfold quorumref8_Sum.f
  exact Sum_from l m hm.few (fun x hx => okT_of (hm.each x hx)) l.length 0 [] (by omega) ⟨Nat.le_refl _, List.Pairwise.nil, fun x => by simp⟩
end
end Go.Proofs.Ytbaecdcfefmcgaa.HPend
