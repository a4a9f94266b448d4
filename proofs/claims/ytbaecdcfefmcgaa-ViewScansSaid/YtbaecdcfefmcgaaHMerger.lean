/- package view's Merge, in plain words over lists: rows that rise by key, own last writes in the place of theirs. -/
import Derived.Test.YtbaecdcfefmcgaaPVrsx8
import Derived.Test.YtbaecdcfefmcgaaHTableMoreBr
import Derived.Test.YtbaecdcfefmcgaaHSeekBr
import Derived.Test.YtbaecdcfefmcgaaHStabler
set_option linter.unusedSimpArgs false
set_option linter.unusedVariables false
set_option linter.unusedSectionVars false
namespace Go.Proofs.Ytbaecdcfefmcgaa.HMerge
open Go.RowKit Go.Proofs.Ytbaecdcfefmcgaa.PVrs Go.Proofs.Ytbaecdcfefmcgaa.HNum Go.Proofs.Ytbaecdcfefmcgaa.HKeyV Go.Proofs.YtbaecdcfefmcgaaW.PrintWords Go.Proofs.YtbaecdcfefmcgaaW.PrintLast
open Go.Proofs.Ytbaecdcfefmcgaa.HTable (Rw rdr_at less_trans_l)
open Go.Proofs.Ytbaecdcfefmcgaa.HAll (Wr allOf)
def rless (a b : Rw) : Prop := Op.bytesLess a.f0.toList b.f0.toList = true
theorem less_irrefl (a : List UInt8) : Op.bytesLess a a = false := by rw [less_cmp, cB_refl]; rfl
theorem less_tri {a b : List UInt8} (h1 : Op.bytesLess a b = false) (h2 : a ≠ b) : Op.bytesLess b a = true := by
  rw [less_cmp] at h1 ⊢
  have h3 := of_decide_eq_false h1
  have h4 := cB_anti a b
  have h5 : Lib.compareBytes a b ≠ 0 := fun h => h2 (cB_zero _ _ h)
  exact decide_eq_true (by omega)
theorem less_ne {a b : List UInt8} (h : Op.bytesLess a b = true) : a ≠ b := fun e => by rw [e, less_irrefl] at h; cases h
theorem cmp_less (a k : ByteArray) : api_Row_string.cmp a k < 0 ↔ Op.bytesLess a.toList k.toList = true := by
  unfold api_Row_string.cmp
  rw [ByteArray.toList_eq, ByteArray.toList_eq, less_cmp, decide_eq_true_eq]
theorem cmp_same (a k : ByteArray) : (api_Row_string.cmp a k == 0) = (a.toList == k.toList) := by
  unfold api_Row_string.cmp
  rw [ByteArray.toList_eq, ByteArray.toList_eq]
  by_cases h : a.data.toList = k.data.toList
  · rw [h, cB_refl]; simp
  · have : Lib.compareBytes a.data.toList k.data.toList ≠ 0 := fun h2 => h (cB_zero _ _ h2)
    rw [beq_eq_false_iff_ne.2 this, beq_eq_false_iff_ne.2 h]
/-- Place p parts the rows of lower keys from the others. -/
structure Parts (l : List Rw) (k : ByteArray) (p : Nat) : Prop where
  le : p ≤ l.length
  low : ∀ m (h : m < l.length), m < p → Op.bytesLess (l[m]).f0.toList k.toList = true
  high : ∀ m (h : m < l.length), p ≤ m → Op.bytesLess (l[m]).f0.toList k.toList = false
section
variable (l : List Rw) (k : ByteArray)
theorem bs_parts (hs : l.Pairwise rless) : ∀ f i j, i ≤ j → j ≤ l.length → j - i ≤ f → (∀ m (h : m < l.length), m < i → Op.bytesLess (l[m]).f0.toList k.toList = true) → (∀ m (h : m < l.length), j ≤ m → Op.bytesLess (l[m]).f0.toList k.toList = false) →
    Parts l k (api_Row_string.bs l k f i j) := by
  intro f
  induction f with
  | zero =>
    intro i j hij hj hf hlo hhi
    obtain rfl : i = j := by omega
    exact ⟨hj, hlo, hhi⟩
  | succ f ih =>
    intro i j hij hj hf hlo hhi
    unfold api_Row_string.bs
    by_cases h : i < j
    · rw [if_pos h]
      have hm : (i + j) / 2 < l.length := by omega
      rw [rdr_at l _ hm]
      by_cases hc : api_Row_string.cmp (l[(i + j) / 2]).f0 k < 0
      · rw [if_pos hc]
        have hc2 := (cmp_less _ _).1 hc
        refine ih ((i + j) / 2 + 1) j (by omega) hj (by omega) (fun m h1 h2 => ?_) hhi
        rcases Nat.lt_or_ge m ((i + j) / 2) with h3 | h3
        · exact less_trans_l _ _ _ (List.pairwise_iff_getElem.1 hs m ((i + j) / 2) h1 hm h3) hc2
        · obtain rfl : m = (i + j) / 2 := by omega
          exact hc2
      · rw [if_neg hc]
        have hc2 : Op.bytesLess (l[(i + j) / 2]).f0.toList k.toList = false := by
          cases hb : Op.bytesLess (l[(i + j) / 2]).f0.toList k.toList with
          | true => exact absurd ((cmp_less _ _).2 hb) hc
          | false => rfl
        refine ih i ((i + j) / 2) (by omega) (by omega) (by omega) hlo (fun m h1 h2 => ?_)
        rcases Nat.eq_or_lt_of_le h2 with h3 | h3
        · subst h3; exact hc2
        · cases hb : Op.bytesLess (l[m]).f0.toList k.toList with
          | false => rfl
          | true =>
            have := less_trans_l _ _ _ (List.pairwise_iff_getElem.1 hs ((i + j) / 2) m hm h1 h3) hb
            rw [hc2] at this
            cases this
    · rw [if_neg h]
      obtain rfl : i = j := by omega
      exact ⟨hj, hlo, hhi⟩
/-- The place that is found: what is below, the key's own row, what is above. -/
theorem seek_ev (hs : l.Pairwise rless) : ∃ (A B C : List Rw) (f : Bool), l = A ++ (B ++ C) ∧ api_Row_string.f l k = some ((A.length : Int), f) ∧
    (∀ r ∈ A, Op.bytesLess r.f0.toList k.toList = true) ∧ (∀ r ∈ C, Op.bytesLess k.toList r.f0.toList = true) ∧ ((B = [] ∧ f = false) ∨ (∃ r, B = [r] ∧ r.f0.toList = k.toList ∧ f = true)) := by
  have hp := bs_parts l k hs l.length 0 l.length (Nat.zero_le _) (Nat.le_refl _) (by omega) (fun m h h2 => absurd h2 (by omega)) (fun m h h2 => absurd h2 (by omega))
  unfold api_Row_string.f
  generalize api_Row_string.bs l k l.length 0 l.length = p at hp ⊢
  have hA : (l.take p).length = p := by rw [List.length_take]; have := hp.le; omega
  have hlow : ∀ r ∈ l.take p, Op.bytesLess r.f0.toList k.toList = true := fun r hr => by
    obtain ⟨i, hi, rfl⟩ := List.mem_iff_getElem.1 hr
    rw [List.getElem_take]
    exact hp.low i (by rw [List.length_take] at hi; omega) (by omega)
  by_cases h : p < l.length
  · by_cases hk : (l[p]).f0.toList = k.toList
    · refine ⟨l.take p, [l[p]], l.drop (p + 1), true, ?_, ?_, hlow, fun r hr => ?_, .inr ⟨_, rfl, hk, rfl⟩⟩
      · rw [List.singleton_append, ← List.drop_eq_getElem_cons h, List.take_append_drop]
      · rw [hA, decide_eq_true h, rdr_at l p h, cmp_same, hk]
        simp
      · obtain ⟨i, hi, rfl⟩ := List.mem_iff_getElem.1 hr
        rw [List.length_drop] at hi
        rw [List.getElem_drop, ← hk]
        exact List.pairwise_iff_getElem.1 hs p (p + 1 + i) h (by omega) (by omega)
    · refine ⟨l.take p, [], l.drop p, false, ?_, ?_, hlow, fun r hr => ?_, .inl ⟨rfl, rfl⟩⟩
      · rw [List.nil_append, List.take_append_drop]
      · rw [hA, decide_eq_true h, rdr_at l p h, cmp_same, beq_eq_false_iff_ne.2 hk]
        simp
      · obtain ⟨i, hi, rfl⟩ := List.mem_iff_getElem.1 hr
        rw [List.length_drop] at hi
        rw [List.getElem_drop]
        have h1 := less_tri (hp.high p h (Nat.le_refl _)) hk
        rcases Nat.eq_zero_or_pos i with h0 | h0
        · subst h0; exact h1
        · exact less_trans_l _ _ _ h1 (List.pairwise_iff_getElem.1 hs p (p + i) h (by omega) (by omega))
  · refine ⟨l.take p, [], [], false, ?_, ?_, hlow, fun r hr => (by cases hr), .inl ⟨rfl, rfl⟩⟩
    · rw [List.nil_append, List.append_nil, List.take_of_length_le (by omega)]
    · rw [hA, decide_eq_false h]
      simp
end
/-- What one write makes of rows. -/
structure Made (l : List Rw) (w : Wr) (m : List Rw) : Prop where
  asc : m.Pairwise rless
  len : m.length ≤ l.length + 1
  mem : ∀ r, r ∈ m ↔ (r ∈ l ∧ r.f0.toList ≠ w.f1.toList) ∨ (w.f3 = false ∧ r = ⟨w.f1, w.f2⟩)
theorem asc_join {A D C : List Rw} (hA : A.Pairwise rless) (hC : C.Pairwise rless) (hD : D.Pairwise rless) (h1 : ∀ a ∈ A, ∀ d ∈ D, rless a d) (h2 : ∀ d ∈ D, ∀ c ∈ C, rless d c) (h3 : ∀ a ∈ A, ∀ c ∈ C, rless a c) : (A ++ (D ++ C)).Pairwise rless := by
  rw [List.pairwise_append, List.pairwise_append]
  exact ⟨hA, ⟨hD, hC, h2⟩, fun a ha b hb => (List.mem_append.1 hb).elim (h1 a ha b) (h3 a ha b)⟩
section
variable (t : Int) (ws : List Wr)
theorem one_ev (j : Nat) (hj : j < ws.length) (hw : ws.length ≤ 12) (ht : (ws[j]).f0 = t) (l : List Rw) (hs : l.Pairwise rless) (hl : l.length ≤ 1000000) :
    ∃ m, Made l ws[j] m ∧ ∀ r, Ev (fun k => view_Merge.l0 k m t ws (ws.length : Int) ((j + 1 : Nat) : Int)) r → Ev (fun k => view_Merge.l0 k l t ws (ws.length : Int) (j : Int)) r := by
  have rdw : rd_T36 ws (j : Int) = ws[j] := by simp [rd_T36, hj]
  obtain ⟨A, B, C, f, e, hf, hA, hC, hB⟩ := seek_ev l (ws[j]).f1 hs
  generalize ws[j] = w at *
  have hsl := hs
  rw [e] at hsl
  have hAs : A.Pairwise rless := (List.pairwise_append.1 hsl).1
  have hCs : C.Pairwise rless := (List.pairwise_append.1 (List.pairwise_append.1 hsl).2.1).2.1
  have hAC : ∀ a ∈ A, ∀ c ∈ C, rless a c := fun a ha c hc => (List.pairwise_append.1 hsl).2.2 a ha c (List.mem_append_right _ hc)
  have hlen : l.length = A.length + (B.length + C.length) := by rw [e, List.length_append, List.length_append]
  have hne : ∀ r, (r ∈ l ∧ r.f0.toList ≠ w.f1.toList) ↔ r ∈ A ∨ r ∈ C := fun r => by
    rw [e, List.mem_append, List.mem_append]
    constructor
    · rintro ⟨h | h | h, h2⟩
      · exact .inl h
      · rcases hB with ⟨rfl, _⟩ | ⟨b, rfl, hb, _⟩
        · cases h
        · rw [List.mem_singleton] at h; subst h; exact absurd hb h2
      · exact .inr h
    · rintro (h | h)
      · exact ⟨.inl h, less_ne (hA r h)⟩
      · exact ⟨.inr (.inr h), (less_ne (hC r h)).symm⟩
  -- with the key's own row gone
  have del : ∀ (P : Nat → List Rw → Int → Option (List Rw)) (r : List Rw), Ev (fun k => P k (A ++ C) (A.length : Int)) r →
      Ev (fun k => if f = true then ((api_Row_140.f l (A.length : Int) (wrap64 ((A.length : Int) + 1))).bind fun t227 => P k t227 (A.length : Int)) else P k l (A.length : Int)) r := fun P r h => by
    rcases hB with ⟨rfl, rfl⟩ | ⟨b, rfl, hb, rfl⟩
    · refine Ev.if_neg (by simp) ?_
      rw [e, List.nil_append]
      exact h
    · refine Ev.if_pos rfl (Ev.bind0 (a := A ++ C) ?_ h)
      rw [List.length_singleton] at hlen
      unfold api_Row_140.f
      rw [if_pos ⟨by omega, by omega, by unfold wrap64; omega⟩]
      congr 1
      rw [e, Int.toNat_natCast, List.eraseIdx_append_of_length_le (Nat.le_refl _), Nat.sub_self]
      rfl
  cases hg : w.f3 with
  | true =>
    refine ⟨A ++ C, ⟨?_, ?_, fun r => ?_⟩, fun r hr => ?_⟩
    · exact asc_join (D := []) hAs hCs List.Pairwise.nil (fun _ _ d hd => by cases hd) (fun d hd => by cases hd) hAC
    · rw [List.length_append]; omega
    · rw [List.mem_append, hne]
      simp [hg]
    · refine Ev.step (fun k => by simp only [view_Merge.l0]; rfl) (Ev.if_pos (by omega) (Ev.if_pos (by omega) (Ev.if_pos (by omega) ?_)))
      rw [rdw]
      refine Ev.if_pos ht (Ev.bind0 hf (del (fun k x p => view_Merge.j1 k x t p ws (ws.length : Int) (j : Int) w.f0 w.f1 w.f2 w.f3) r ?_))
      refine Ev.step (fun k => by simp only [view_Merge.j1]; rfl) (Ev.if_pos hg ?_)
      rw [wrap_succ j (by omega)]
      exact hr
  | false =>
    refine ⟨A ++ ([⟨w.f1, w.f2⟩] ++ C), ⟨?_, ?_, fun r => ?_⟩, fun r hr => ?_⟩
    · refine asc_join hAs hCs (List.pairwise_singleton _ _) (fun a ha d hd => ?_) (fun d hd c hc => ?_) hAC
      · rw [List.mem_singleton] at hd; subst hd; exact hA a ha
      · rw [List.mem_singleton] at hd; subst hd; exact hC c hc
    · rw [List.length_append, List.length_append, List.length_singleton]; omega
    · rw [List.mem_append, List.mem_append, List.mem_singleton, hne]
      simp only [hg, true_and]
      constructor
      · rintro (h | h | h)
        · exact .inl (.inl h)
        · exact .inr h
        · exact .inl (.inr h)
      · rintro ((h | h) | h)
        · exact .inl h
        · exact .inr (.inr h)
        · exact .inr (.inl h)
    · refine Ev.step (fun k => by simp only [view_Merge.l0]; rfl) (Ev.if_pos (by omega) (Ev.if_pos (by omega) (Ev.if_pos (by omega) ?_)))
      rw [rdw]
      refine Ev.if_pos ht (Ev.bind0 hf (del (fun k x p => view_Merge.j1 k x t p ws (ws.length : Int) (j : Int) w.f0 w.f1 w.f2 w.f3) r ?_))
      refine Ev.step (fun k => by simp only [view_Merge.j1]; rfl) (Ev.if_neg (by simp [hg]) ?_)
      refine Ev.bind0 (a := A ++ ([⟨w.f1, w.f2⟩] ++ C)) ?_ ?_
      · unfold api_Row_141.f
        rw [if_pos ⟨rfl, by omega, by rw [List.length_append]; omega, by rw [List.length_append]; omega⟩, Int.toNat_natCast, List.take_left' rfl, List.drop_left' rfl, List.append_assoc]
      · rw [wrap_succ j (by omega)]
        exact hr
/-- What is left of rows behind some writes, each of a key of its own. -/
structure Merged (l : List Rw) (us : List Wr) (m : List Rw) : Prop where
  asc : m.Pairwise rless
  len : m.length ≤ l.length + us.length
  mem : ∀ r, r ∈ m ↔ (r ∈ l ∧ ∀ w ∈ us, w.f0 = t → w.f1.toList ≠ r.f0.toList) ∨ ∃ w ∈ us, w.f0 = t ∧ w.f3 = false ∧ r = ⟨w.f1, w.f2⟩
theorem from_ev (hw : ws.length ≤ 12) (hd : ws.Pairwise (fun x y => x.f0 = y.f0 → x.f1.toList ≠ y.f1.toList)) (d : Nat) : ∀ (j : Nat) (l : List Rw), j + d = ws.length → l.Pairwise rless → l.length + d ≤ 1000000 →
    ∃ m, Ev (fun k => view_Merge.l0 k l t ws (ws.length : Int) (j : Int)) m ∧ Merged t l (ws.drop j) m := by
  induction d with
  | zero =>
    intro j l hj hs hl
    refine ⟨l, Ev.step (fun k => by simp only [view_Merge.l0]; rfl) (Ev.if_neg (by omega) (Ev.now _)), hs, by omega, fun r => ?_⟩
    rw [List.drop_eq_nil_of_le (by omega)]
    simp
  | succ d ih =>
    intro j l hj hs hl
    have hlt : j < ws.length := by omega
    have rdw : rd_T36 ws (j : Int) = ws[j] := by simp [rd_T36, hlt]
    have hdr : ws.drop j = ws[j] :: ws.drop (j + 1) := List.drop_eq_getElem_cons hlt
    have hapart : ∀ w ∈ ws.drop (j + 1), (ws[j]).f0 = w.f0 → (ws[j]).f1.toList ≠ w.f1.toList := fun w h => by
      have h2 := hd.sublist (List.drop_sublist j ws)
      rw [hdr, List.pairwise_cons] at h2
      exact h2.1 w h
    by_cases ht : (ws[j]).f0 = t
    · obtain ⟨l1, hm, hstep⟩ := one_ev t ws j hlt hw ht l hs (by omega)
      obtain ⟨m, he, hM⟩ := ih (j + 1) l1 (by omega) hm.asc (by have := hm.len; omega)
      refine ⟨m, hstep m he, hM.asc, ?_, fun r => ?_⟩
      · have h1 := hM.len
        have h2 := hm.len
        rw [hdr, List.length_cons]
        omega
      · rw [hM.mem, hm.mem, hdr]
        constructor
        · rintro (⟨⟨h1, h2⟩ | ⟨h1, rfl⟩, h3⟩ | ⟨w, h1, h2⟩)
          · refine .inl ⟨h1, fun w hw2 hwt => ?_⟩
            rcases List.mem_cons.1 hw2 with rfl | h4
            · exact h2.symm
            · exact h3 w h4 hwt
          · exact .inr ⟨_, List.mem_cons_self .., ht, h1, rfl⟩
          · exact .inr ⟨w, List.mem_cons_of_mem _ h1, h2⟩
        · rintro (⟨h1, h2⟩ | ⟨w, h1, h2, h3, rfl⟩)
          · exact .inl ⟨.inl ⟨h1, (h2 _ (List.mem_cons_self ..) ht).symm⟩, fun w hw2 => h2 w (List.mem_cons_of_mem _ hw2)⟩
          · rcases List.mem_cons.1 h1 with rfl | h4
            · exact .inl ⟨.inr ⟨h3, rfl⟩, fun w hw2 hwt => (hapart w hw2 (ht.trans hwt.symm)).symm⟩
            · exact .inr ⟨w, h4, h2, h3, rfl⟩
    · obtain ⟨m, he, hM⟩ := ih (j + 1) l (by omega) hs (by omega)
      refine ⟨m, ?_, hM.asc, ?_, fun r => ?_⟩
      · refine Ev.step (fun k => by simp only [view_Merge.l0]; rfl) (Ev.if_pos (by omega) (Ev.if_pos (by omega) (Ev.if_pos (by omega) ?_)))
        rw [rdw, wrap_succ j (by omega)]
        exact Ev.if_neg ht he
      · have h1 := hM.len
        rw [hdr, List.length_cons]
        omega
      · rw [hM.mem, hdr]
        constructor
        · rintro (⟨h1, h2⟩ | ⟨w, h1, h2⟩)
          · refine .inl ⟨h1, fun w hw2 hwt => ?_⟩
            rcases List.mem_cons.1 hw2 with rfl | h4
            · exact absurd hwt ht
            · exact h2 w h4 hwt
          · exact .inr ⟨w, List.mem_cons_of_mem _ h1, h2⟩
        · rintro (⟨h1, h2⟩ | ⟨w, h1, h2, h3⟩)
          · exact .inl ⟨h1, fun w hw2 => h2 w (List.mem_cons_of_mem _ hw2)⟩
          · rcases List.mem_cons.1 h1 with rfl | h4
            · exact absurd h2 ht
            · exact .inr ⟨w, h4, h2, h3⟩
end
open Go.Proofs.Ytbaecdcfefmcgaa.HAll (okT ltT all_sorted all_len all_mem mem_all keyB cmpK) in
theorem all_apart (l : List Wr) (hl : ∀ x ∈ l, okT x) : (allOf l).Pairwise (fun x y => x.f0 = y.f0 → x.f1.toList ≠ y.f1.toList) := by
  refine (all_sorted l hl).imp (fun {x y} h e e2 => ?_)
  unfold ltT cmpK at h
  rw [decide_eq_true_iff] at h
  rcases h with h | ⟨_, h⟩
  · omega
  · rw [ByteArray.toList_eq, ByteArray.toList_eq] at e2
    rw [e2, cB_refl] at h
    omega
open Go.Proofs.Ytbaecdcfefmcgaa.HAll (okT all_len) in
/-- Merge: own last writes in the place of the rows of their keys. -/
theorem Merge_ev (t : Int) (l : List Rw) (hs : l.Pairwise rless) (hl : l.length ≤ 900000) (ws : List Wr) (ms : List Int) (hw : ws.length ≤ 12) (hok : ∀ x ∈ ws, okT x) :
    ∃ m, Ev (fun k => view_Merge.f k l ws ms t) m ∧ Merged t l (allOf ws) m := by
  have h12 := all_len ws
  obtain ⟨m, he, hM⟩ := from_ev t (allOf ws) (by omega) (all_apart ws hok) (allOf ws).length 0 l (by omega) hs (by omega)
  refine ⟨m, ?_, by rw [List.drop_zero] at hM; exact hM⟩
  unfold view_Merge.f
  refine Ev.bind0 (a := l) (by unfold api_Row_133.f; rw [if_pos (by omega)]) (Ev.bind0 (a := allOf ws) (by unfold pend_All.f; rw [if_pos hw]) he)
end Go.Proofs.Ytbaecdcfefmcgaa.HMerge
