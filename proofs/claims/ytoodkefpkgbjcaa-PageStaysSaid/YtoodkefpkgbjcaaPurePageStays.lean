/- PageStays: the pure statement's proof: what was put stays till it is cut, and in the end nothing is left. -/
import Derived.Test.YtoodkefpkgbjcaaOpPageStays
import Derived.Test.YtoodkefpkgbjcaaHPageStays
set_option linter.unusedSimpArgs false
set_option linter.unusedVariables false
namespace Go.Proofs.Ytoodkefpkgbjcaa.HPage
open Go.RowKit Go.Proofs.Ytoodkefpkgbjcaa.PPgb Go.Proofs.Ytoodkefpkgbjcaa.HNum Go.Proofs.YtoodkefpkgbjcaaW.PrintWords Go.Proofs.YtoodkefpkgbjcaaW.PrintLast
open Classical
theorem rdb_set (L : List Bool) (n m : Int) (b : Bool) (hn : 0 ≤ n) (hl : n < (L.length : Int)) (hm : 0 ≤ m) : rdOf false (L.set n.toNat b) m = if m = n then b else rdOf false L m := by
  unfold rdOf
  rw [List.getD_eq_getElem?_getD, List.getD_eq_getElem?_getD]
  by_cases h : m = n
  · subst h
    rw [if_pos rfl, List.getElem?_set_self (by omega)]
    rfl
  · rw [if_neg h, List.getElem?_set_ne (by omega)]
theorem rds_set (L : List Bs) (n m : Int) (b : Bs) (hn : 0 ≤ n) (hl : n < (L.length : Int)) (hm : 0 ≤ m) : rdOf ByteArray.empty (L.set n.toNat b) m = if m = n then b else rdOf ByteArray.empty L m := by
  unfold rdOf
  rw [List.getD_eq_getElem?_getD, List.getD_eq_getElem?_getD]
  by_cases h : m = n
  · subst h
    rw [if_pos rfl, List.getElem?_set_self (by omega)]
    rfl
  · rw [if_neg h, List.getElem?_set_ne (by omega)]
/-- What the statement's two lists say of the page. -/
structure Inv (T : List Bs) (L : List Bool) (S : List Bs) (F : List Int) : Prop where
  may : May S F
  b : bd S
  lt : T.length = 16
  ll : L.length = 16
  th : ∀ m : Int, 0 ≤ m → m < 16 → (rdOf false L m = true ↔ There S F m)
  tx : ∀ m : Int, There S F m → rdOf ByteArray.empty S m = rdOf ByteArray.empty T m
theorem Inv.lt16 {T : List Bs} {L : List Bool} {S : List Bs} {F : List Int} (h : Inv T L S F) {m : Int} (ht : There S F m) : m < 16 := by
  have := h.may.few; have := ht.2.1; omega
theorem Inv.flag {T : List Bs} {L : List Bool} {S : List Bs} {F : List Int} (h : Inv T L S F) {m : Int} (h0 : 0 ≤ m) (h1 : m < 16) : rdOf false L m = decide (There S F m) := by
  by_cases ht : There S F m
  · rw [decide_eq_true ht]; exact (h.th m h0 h1).2 ht
  · rw [decide_eq_false ht]; exact Bool.eq_false_iff.2 fun e => ht ((h.th m h0 h1).1 e)
theorem Inv.add {T : List Bs} {L : List Bool} {S : List Bs} {F : List Int} (h : Inv T L S F) (s : Bs) (hs : s.size ≤ 140737488351232) (hf : fits (addTo S F s).1) : Inv (T.set (addTo S F s).2.2.toNat s) (L.set (addTo S F s).2.2.toNat true) (addTo S F s).1 (addTo S F s).2.1 := by
  obtain ⟨⟨h0, h1, h2⟩, h3, h4, h5⟩ := add_there h.may s
  have hfree := add_free h.may.free s
  have := hf.1
  refine ⟨(may_fits hfree).2 hf, add_bd h.b s hs, by rw [List.length_set]; exact h.lt, by rw [List.length_set]; exact h.ll, fun m hm0 hm1 => ?_, fun m hm => ?_⟩
  · rw [rdb_set L _ m true h0 (by rw [h.ll]; omega) hm0, h3]
    by_cases e : m = (addTo S F s).2.2
    · rw [if_pos e]; exact ⟨fun _ => .inl e, fun _ => rfl⟩
    · rw [if_neg e, h.th m hm0 hm1]; exact ⟨.inr, fun x => x.resolve_left e⟩
  · rw [rds_set T _ m s h0 (by rw [h.lt]; omega) hm.1]
    by_cases e : m = (addTo S F s).2.2
    · rw [if_pos e, e]; exact h4
    · rw [if_neg e]
      have ht := ((h3 m).1 hm).resolve_left e
      rw [h5 m ht]; exact h.tx m ht
theorem Inv.cut {T : List Bs} {L : List Bool} {S : List Bs} {F : List Int} (h : Inv T L S F) {n : Int} (ht : There S F n) : Inv T (L.set n.toNat false) (cutTo S F n).1 (cutTo S F n).2 := by
  obtain ⟨h1, h2, h3, h4⟩ := cut_there h.may ht
  have hn := h.lt16 ht
  refine ⟨h1, h2 h.b, h.lt, by rw [List.length_set]; exact h.ll, fun m hm0 hm1 => ?_, fun m hm => ?_⟩
  · rw [rdb_set L n m false ht.1 (by rw [h.ll]; omega) hm0, h3]
    by_cases e : m = n
    · rw [if_pos e]; exact ⟨fun x => absurd x (by simp), fun x => absurd e x.1⟩
    · rw [if_neg e, h.th m hm0 hm1]; exact ⟨fun x => ⟨e, x⟩, fun x => x.2⟩
  · have := (h3 m).1 hm
    rw [h4 m this.1 this.2]; exact h.tx m this.2
/-- The end: all that is left is cut. -/
theorem ends (L : List Bool) (hl : L.length = 16) (d : Nat) : ∀ (S : List Bs) (F : List Int), d ≤ 16 → May S F → bd S → (∀ m : Int, There S F m ↔ 0 ≤ m ∧ m < (d : Int) ∧ rdOf false L m = true) → Ev (fun k => quorumlaw5_PageStays.l2 k L ((d : Int) - 1) S F) true := by
  induction d with
  | zero =>
    intro S F hd hm hb ht
    obtain ⟨rfl, rfl⟩ := none_there hm (fun m h => by have := (ht m).1 h; omega)
    refine Ev.step (fun k => by simp only [quorumlaw5_PageStays.l2]; rfl) ?_
    refine Ev.if_neg (by omega) ?_
    refine Ev.bind (eq_same [] [] (by simp) (by simp)) ?_
    refine Ev.if_pos rfl ?_
    refine Ev.bind (refpage_ev [] [] hb (by simp)) ?_
    refine Ev.if_pos (decide_eq_true hm) ?_
    exact Ev.bind wakes_true (Ev.now _)
  | succ d ih =>
    intro S F hd hm hb ht
    have hw : wrap64 (((d + 1 : Nat) : Int) - 1 - 1) = (d : Int) - 1 := by unfold wrap64; omega
    refine Ev.step (fun k => by simp only [quorumlaw5_PageStays.l2]; rfl) ?_
    refine Ev.if_pos (by omega) ?_
    refine Ev.if_pos (by omega) ?_
    refine Ev.if_pos (by omega) ?_
    rw [hw]
    by_cases hL : rdOf false L (((d + 1 : Nat) : Int) - 1) = true
    · have hth : There S F (((d + 1 : Nat) : Int) - 1) := (ht _).2 ⟨by omega, by omega, hL⟩
      obtain ⟨h1, h2, h3, h4⟩ := cut_there hm hth
      have hc := Cut_ev S F (((d + 1 : Nat) : Int) - 1) (may_wf hm hb)
      unfold cutRes at hc
      rw [if_pos hm, if_pos hth] at hc
      refine Ev.if_pos hL ?_
      refine Ev.bind hc ?_
      refine Ev.bind0 (num_eq _) ?_
      refine Ev.if_pos (by first | rfl | trivial) ?_
      refine ih _ _ (by omega) h1 (h2 hb) fun m => ?_
      rw [h3, ht]
      constructor
      · rintro ⟨e, a, b, c⟩; exact ⟨a, by omega, c⟩
      · rintro ⟨a, b, c⟩; exact ⟨by omega, a, by omega, c⟩
    · refine Ev.if_neg hL ?_
      refine ih S F (by omega) hm hb fun m => ?_
      rw [ht]
      constructor
      · rintro ⟨a, b, c⟩
        refine ⟨a, ?_, c⟩
        have : m ≠ ((d + 1 : Nat) : Int) - 1 := fun e => hL (e ▸ c)
        omega
      · rintro ⟨a, b, c⟩; exact ⟨a, by omega, c⟩
section
variable (P : List Bs) (M : List Int) (A : List S64)
/-- Each number is asked: the page says what the lists say. -/
theorem asks {T : List Bs} {L : List Bool} {S : List Bs} {F : List Int} (h : Inv T L S F) (x : Int) (go : Ev (fun k => quorumlaw5_PageStays.l0 k T L (wrap64 (x + 1)) P M A S F) true) (d : Nat) : ∀ (n : Nat), n + d = 16 → Ev (fun k => quorumlaw5_PageStays.l1 k T L x (n : Int) P M A S F) true := by
  induction d with
  | zero =>
    intro n hn
    refine Ev.step (fun k => by simp only [quorumlaw5_PageStays.l1]; rfl) ?_
    exact Ev.if_neg (by omega) go
  | succ d ih =>
    intro n hn
    have hi := ih (n + 1) (by omega)
    have h7 : Ev (fun k => quorumlaw5_PageStays.j7 k T L x (n : Int) false P M A S F) true := by
      refine Ev.step (fun k => by simp only [quorumlaw5_PageStays.j7]; rfl) ?_
      refine Ev.if_neg (by simp) ?_
      rw [wrap_succ n (by omega)]
      exact hi
    have hg := Get_ev S F (n : Int) (may_wf h.may h.b)
    have hf := h.flag (m := (n : Int)) (by omega) (by omega)
    have hlt := h.lt
    have hll := h.ll
    refine Ev.step (fun k => by simp only [quorumlaw5_PageStays.l1]; rfl) ?_
    refine Ev.if_pos (by omega) ?_
    refine Ev.bind hg ?_
    refine Ev.bind0 (num_eq _) ?_
    refine Ev.if_pos (by omega) ?_
    refine Ev.if_pos (by omega) ?_
    unfold getRes
    rw [if_pos h.may, hf]
    by_cases ht : There S F (n : Int)
    · rw [if_pos ht, decide_eq_true ht]
      refine Ev.if_neg (by simp) ?_
      refine Ev.if_pos rfl ?_
      refine Ev.if_pos (by omega) ?_
      have e : ((rdOf ByteArray.empty S (n : Int)).toList != (rdOf ByteArray.empty T (n : Int)).toList) = false := by rw [h.tx _ ht]; simp
      simp only [e]
      exact h7
    · rw [if_neg ht, decide_eq_false ht]
      refine Ev.if_neg (by simp) ?_
      refine Ev.if_neg (by simp) ?_
      exact h7
theorem asked_all {T : List Bs} {L : List Bool} {S : List Bs} {F : List Int} (h : Inv T L S F) (x : Int) (go : Ev (fun k => quorumlaw5_PageStays.l0 k T L (wrap64 (x + 1)) P M A S F) true) : Ev (fun k => quorumlaw5_PageStays.j5 k T L x P M A S F) true :=
  Ev.step (fun k => by simp only [quorumlaw5_PageStays.j5]; rfl) (asks P M A h x go 16 0 (by omega))
theorem stays (hA : ∀ a ∈ A, a.f2.size ≤ 140737488351232) (d : Nat) : ∀ (i : Nat) (T : List Bs) (L : List Bool) (S : List Bs) (F : List Int), i + d = 30 → Inv T L S F → Ev (fun k => quorumlaw5_PageStays.l0 k T L (i : Int) P M A S F) true := by
  have stop : ∀ (i : Int) (T : List Bs) (L : List Bool) (S : List Bs) (F : List Int), Inv T L S F → Ev (fun k => quorumlaw5_PageStays.j1 k T L i false P M A S F) true := fun i T L S F h => by
    refine Ev.step (fun k => by simp only [quorumlaw5_PageStays.j1]; rfl) ?_
    refine Ev.if_neg (by simp) ?_
    exact ends L h.ll 16 S F (by omega) h.may h.b fun m => ⟨fun ht => ⟨ht.1, h.lt16 ht, (h.th m ht.1 (h.lt16 ht)).2 ht⟩, fun ⟨a, b, c⟩ => (h.th m a b).1 c⟩
  induction d with
  | zero =>
    intro i T L S F hi h
    refine Ev.step (fun k => by simp only [quorumlaw5_PageStays.l0]; rfl) (Ev.iff (fun _ => ?_) (fun _ => stop _ _ _ _ _ h))
    rw [decide_eq_false (by omega)]
    exact stop _ _ _ _ _ h
  | succ d ih =>
    intro i T L S F hi h
    have hw := may_wf h.may h.b
    have hll := h.ll
    have hlt := h.lt
    have next : ∀ (T : List Bs) (L : List Bool) (S : List Bs) (F : List Int), Inv T L S F → Ev (fun k => quorumlaw5_PageStays.j5 k T L (i : Int) P M A S F) true := fun T L S F h => asked_all P M A h _ (by rw [wrap_succ i (by omega)]; exact ih (i + 1) T L S F (by omega) h)
    refine Ev.step (fun k => by simp only [quorumlaw5_PageStays.l0]; rfl) (Ev.iff (fun hlt1 => ?_) (fun _ => stop _ _ _ _ _ h))
    rw [decide_eq_true (by omega)]
    have hs : (rd_T64 A (i : Int)).f2.size ≤ 140737488351232 := by
      have hm : i < A.length := by omega
      have : rd_T64 A (i : Int) = A[i] := by simp [rd_T64, hm]
      rw [this]
      exact hA _ (List.getElem_mem hm)
    -- a text is put
    have hadd : Ev (fun k => quorumlaw5_PageStays.j2 k T L (i : Int) false P M A S F) true := by
      have ha := Add_ev S F (rd_T64 A (i : Int)).f2 hw hs
      refine Ev.step (fun k => by simp only [quorumlaw5_PageStays.j2]; rfl) ?_
      refine Ev.if_neg (by simp) ?_
      refine Ev.if_pos (by omega) ?_
      refine Ev.if_pos (by omega) ?_
      refine Ev.bind ha ?_
      refine Ev.bind0 (num_eq _) ?_
      unfold addRes
      rw [if_pos h.may]
      by_cases hf : fits (addTo S F (rd_T64 A (i : Int)).f2).1
      · rw [if_pos hf]
        obtain ⟨⟨h0, h1, h2⟩, h3, h4, h5⟩ := add_there h.may (rd_T64 A (i : Int)).f2
        have h16 := hf.1
        have hnew := h.add _ hs hf
        refine Ev.if_pos (by first | rfl | trivial) ?_
        refine Ev.bind0 (num2_eq _ _) ?_
        refine Ev.if_pos (decide_eq_true ⟨h0, by show (addTo S F _).2.2 ≤ 15; omega⟩) ?_
        refine Ev.if_pos h0 ?_
        refine Ev.if_pos (by show (addTo S F _).2.2 < _; omega) ?_
        have hfl : rdOf false L (addTo S F (rd_T64 A (i : Int)).f2).2.2 = false := by
          rw [h.flag h0 (by omega)]; exact decide_eq_false h1
        simp only [hfl]
        refine Ev.step (fun k => by simp only [quorumlaw5_PageStays.j4]; rfl) ?_
        refine Ev.if_neg (by simp) ?_
        refine Ev.if_pos (by omega) ?_
        refine Ev.if_pos (by omega) ?_
        refine Ev.if_pos h0 ?_
        refine Ev.if_pos (by omega) ?_
        refine Ev.if_pos (by omega) ?_
        exact next _ _ _ _ hnew
      · rw [if_neg hf]
        refine Ev.if_neg (by simp) ?_
        refine Ev.bind0 (num_eq _) ?_
        refine Ev.if_pos (by first | rfl | trivial) ?_
        exact next _ _ _ _ h
    refine Ev.step (fun k => by simp only [quorumlaw5_PageStays.j1]; rfl) ?_
    refine Ev.if_pos (by first | rfl | trivial) ?_
    refine Ev.iff (fun _ => ?_) (fun _ => hadd)
    by_cases hS : (S.length : Int) > 0
    · rw [decide_eq_true hS]
      have hfew := h.may.few
      obtain ⟨t, he, t0, t1⟩ := within_ok (rd_T64 A (i : Int)).f1 S.length (by omega) hfew
      have hc := Cut_ev S F t hw
      refine Ev.step (fun k => by simp only [quorumlaw5_PageStays.j2]; rfl) ?_
      refine Ev.if_pos (by first | rfl | trivial) ?_
      refine Ev.if_pos (by omega) ?_
      refine Ev.if_pos (by omega) ?_
      refine Ev.bind0 he ?_
      refine Ev.bind hc ?_
      refine Ev.if_neg (by omega) ?_
      refine Ev.bind0 (num_eq _) ?_
      refine Ev.if_pos t0 ?_
      refine Ev.if_pos (by omega) ?_
      have hf := h.flag (m := t) t0 (by omega)
      unfold cutRes
      rw [if_pos h.may, hf]
      by_cases ht : There S F t
      · rw [if_pos ht, decide_eq_true ht]
        have e : ((((cutTo S F t).1, (cutTo S F t).2, (0 : Int)).2.2 == 0) != true) = false := by simp
        simp only [e]
        refine Ev.step (fun k => by simp only [quorumlaw5_PageStays.j3]; rfl) ?_
        refine Ev.if_neg (by simp) ?_
        refine Ev.bind0 (num_eq _) ?_
        refine Ev.if_pos (by first | rfl | trivial) ?_
        refine Ev.if_pos t0 ?_
        refine Ev.if_pos (by omega) ?_
        exact next _ _ _ _ (h.cut ht)
      · rw [if_neg ht, decide_eq_false ht]
        have e : ((((([] : List Bs), ([] : List Int), (3 : Int)).2.2 == 0)) != false) = false := by simp
        simp only [e]
        refine Ev.step (fun k => by simp only [quorumlaw5_PageStays.j3]; rfl) ?_
        refine Ev.if_neg (by simp) ?_
        refine Ev.bind0 (num_eq _) ?_
        refine Ev.if_neg (by simp) ?_
        exact next _ _ _ _ h
    · rw [decide_eq_false hS]
      exact hadd
theorem stays_ev (hw : Wf P M) (hA : ∀ a ∈ A, a.f2.size ≤ 140737488351232) (hl : A.length ≤ 4611686018427387904) : Ev (fun k => quorumlaw5_PageStays.f k P M A) true := by
  have := hw.ls
  obtain ⟨b, hb⟩ := heavy_ends P M A (by omega) hl
  unfold quorumlaw5_PageStays.f
  refine Ev.bind hb ?_
  cases b with
  | true => exact Ev.if_pos (by first | rfl | trivial) (Ev.now _)
  | false =>
    refine Ev.if_neg (by simp) ?_
    refine Ev.if_pos (by omega) ?_
    refine Ev.if_pos (by omega) ?_
    refine stays P M A hA 30 0 _ _ [] [] (by omega) ⟨may_nil, fun s hs => (by cases hs), (by simp), (by simp), fun m h0 h1 => ?_, fun m ht => ?_⟩
    · constructor
      · intro e
        unfold rdOf at e
        rw [List.getD_eq_getElem?_getD, List.getElem?_replicate_of_lt (by omega)] at e
        cases e
      · intro ht; have := ht.2.1; simp at this; omega
    · have h2 := ht.2.1; have h1 := ht.1; simp at h2; omega
end
end Go.Proofs.Ytoodkefpkgbjcaa.HPage
namespace Go.Proofs.Ytoodkefpkgbjcaa.Pure
open Go.RowKit Go.Proofs.Ytoodkefpkgbjcaa.HPage Go.Proofs.YtoodkefpkgbjcaaW.PrintWords
theorem PageStays : OpPageStays.Pure := by
  intro P M A hP hM hA
  refine Ev.rounds (stays_ev P M A ⟨by have := hP.2.1; omega, by have := hM.2.1; omega, hP.2.2⟩ (fun a ha => (hA.2.2 a ha).2.2) (by have := hA.2.1; omega))
end Go.Proofs.Ytoodkefpkgbjcaa.Pure
