/- ViewOwn: the pure statement's proof: one's own last write is what one gets, and without own writes what is committed, for every input within the reach. -/
import Derived.Test.YtbaecdcfefmcgaaOpViewOwn
import Derived.Test.YtbaecdcfefmcgaaPVowx8
import Derived.Test.YtbaecdcfefmcgaaHSeekVv
import Derived.Test.YtbaecdcfefmcgaaHWeightVv
import Derived.Test.YtbaecdcfefmcgaaHLastVv
set_option linter.unusedSimpArgs false
set_option linter.unusedVariables false
set_option linter.unusedSectionVars false
namespace Go.Proofs.Ytbaecdcfefmcgaa.HView
open Go.RowKit Go.Proofs.Ytbaecdcfefmcgaa.PVow Go.Proofs.Ytbaecdcfefmcgaa.HNum Go.Proofs.YtbaecdcfefmcgaaW.PrintWords Go.Proofs.YtbaecdcfefmcgaaW.PrintLast
open Go.Proofs.Ytbaecdcfefmcgaa.HTable (Tb Pd TabOK tabMay_ev refTab_ev TbSmall TbIn PdIn rdb_at rdp_at look_get heavy_ev)
open Go.Proofs.Ytbaecdcfefmcgaa.HPend (May May_ev ref_ev wOK keyOK key_Is_eq Last_ev hitB last_there rdw_at Wr)
theorem num_eq (e : Int) : quorumlaw11_num.f e = some e := rfl
theorem wakes_true : Ev (fun k => quorumlaw11_wakes.f k) true := by
  refine Ev.of quorumlaw11_wakes.mono (k := 60) ?_
  decide +kernel
section
variable (L : List Tb) (P : List Pd) (T : List Int) (K : List ByteArray) (R : List S74) (N : List Int)
open Classical in
theorem tabMay (t : Tb) (h : TbSmall t) : Ev (fun k => table_May.f k t.f0) (decide (TabOK t.f0)) := tabMay_ev t.f0 (by have := h.1; omega) (fun c hc => by have := h.2 c hc; omega)
open Classical in
theorem refTab (t : Tb) (h : TbSmall t) : Ev (fun k => quorumref8_Table.f k t.f0) (decide (TabOK t.f0)) := refTab_ev t.f0 (by have := h.1; omega) (fun c hc => by have := h.2 c hc; omega)
open Classical in
/-- Whether all tables may be, by the page. -/
theorem tables_from (hs : ∀ t ∈ L, TbSmall t) (hl : L.length ≤ 10000000000000) (d : Nat) : ∀ j, j + d = L.length → ∃ b, Ev (fun k => quorumref8_Tables.l0 k L (j : Int)) b ∧ (b = true → L.length ≤ 3 ∧ ∀ i (h : i < L.length), j ≤ i → TabOK (L[i]).f0) := by
  have stop : ∀ j : Int, Ev (fun k => quorumref8_Tables.j1 k L j false) (decide ((L.length : Int) ≤ 3)) := fun j => Ev.step (fun k => by simp only [quorumref8_Tables.j1]; rfl) (Ev.if_neg (by simp) (Ev.now _))
  induction d with
  | zero =>
    intro j hj
    refine ⟨decide ((L.length : Int) ≤ 3), Ev.step (fun k => by simp only [quorumref8_Tables.l0]; rfl) (Ev.if_neg (by omega) (stop _)), fun h => ⟨by have := of_decide_eq_true h; omega, fun i hi hji => by omega⟩⟩
  | succ d ih =>
    intro j hj
    have hlt : j < L.length := by omega
    by_cases h3 : (j : Int) ≤ 3
    · have hR := refTab L[j] (hs _ (List.getElem_mem hlt))
      by_cases ht : TabOK (L[j]).f0
      · obtain ⟨b, hb, h2⟩ := ih (j + 1) (by omega)
        refine ⟨b, Ev.step (fun k => by simp only [quorumref8_Tables.l0]; rfl) (Ev.if_pos (by omega) ?_), fun h => ⟨(h2 h).1, fun i hi hji => ?_⟩⟩
        · rw [decide_eq_true h3]
          refine Ev.step (fun k => by simp only [quorumref8_Tables.j1]; rfl) (Ev.if_pos (by first | rfl | trivial) (Ev.if_pos (by omega) (Ev.if_pos (by omega) ?_)))
          rw [rdb_at L j hlt, wrap_succ j (by omega)]
          exact Ev.bind hR (Ev.if_pos (decide_eq_true ht) hb)
        · rcases Nat.eq_or_lt_of_le hji with rfl | h
          · exact ht
          · exact (h2 ‹_›).2 i hi (by omega)
      · refine ⟨false, Ev.step (fun k => by simp only [quorumref8_Tables.l0]; rfl) (Ev.if_pos (by omega) ?_), fun h => by cases h⟩
        rw [decide_eq_true h3]
        refine Ev.step (fun k => by simp only [quorumref8_Tables.j1]; rfl) (Ev.if_pos (by first | rfl | trivial) (Ev.if_pos (by omega) (Ev.if_pos (by omega) ?_)))
        rw [rdb_at L j hlt]
        exact Ev.bind hR (Ev.if_neg (fun h => ht (of_decide_eq_true h)) (Ev.now _))
    · refine ⟨decide ((L.length : Int) ≤ 3), Ev.step (fun k => by simp only [quorumref8_Tables.l0]; rfl) (Ev.if_pos (by omega) ?_), fun h => by have := of_decide_eq_true h; omega⟩
      rw [decide_eq_false h3]
      exact stop _
open Classical in
/-- The tables and what is pending may be. -/
theorem view_may (hs : ∀ t ∈ L, TbSmall t) (hok : ∀ t ∈ L, TabOK t.f0) (h3 : L.length ≤ 3) (l : List Wr) (m : List Int) (hm : May l m) : Ev (fun k => view_May.f k L l m) true := by
  have bad : ∀ L' : List Tb, (∀ t ∈ L', TbSmall t) → (∀ t ∈ L', TabOK t.f0) → Ev (fun k => api_Table_96.l0 k L') false := by
    intro L'
    induction L' with
    | nil => exact fun _ _ => Ev.const rfl
    | cons t ts ih =>
      intro h1 h2
      have hM := tabMay t (h1 t (by simp))
      rw [decide_eq_true (h2 t (by simp))] at hM
      have hC : Ev (fun k => view_May_1.f k t.f0) false := by unfold view_May_1.f; exact Ev.bind hM (Ev.now _)
      exact Ev.bind hC (Ev.if_neg (by simp) (ih (fun x hx => h1 x (by simp [hx])) (fun x hx => h2 x (by simp [hx]))))
  unfold view_May.f
  refine Ev.if_pos (by omega) (Ev.bind (a := false) (by unfold api_Table_96.f; exact bad L hs hok) (Ev.if_neg (by simp) (Ev.bind (May_ev l m) ?_)))
  rw [decide_eq_true hm]
  exact Ev.now _
theorem may_nil : May [] [] := ⟨by simp, by simp, fun w hw => (by cases hw), fun i hi hj => absurd hi (by simp)⟩
/-- One gets what view.Look tells. -/
theorem get_ev (hs : ∀ t ∈ L, TbSmall t) (hok : ∀ t ∈ L, TabOK t.f0) (h3 : L.length ≤ 3) (l : List Wr) (m : List Int) (hm : May l m) (t : Int) (key : ByteArray) (n : Int) (h0 : 0 ≤ t) (hl : t < L.length) (hk : keyOK key = true) (r : ByteArray × Bool) (hr : view_Look.f L l m t key n = some r) :
    Ev (fun k => view_Get.f k L l m t key n) (if r.2 = true then (r.1, 0) else (⟨#[]⟩, 3)) := by
  unfold view_Get.f
  refine Ev.bind (view_may L hs hok h3 l m hm) (Ev.if_pos (by first | rfl | trivial) ?_)
  refine Ev.bind0 (show view_there.f L t = some true from by unfold view_there.f; rw [if_pos h0, decide_eq_true hl]) (Ev.if_pos (by first | rfl | trivial) ?_)
  refine Ev.bind0 (key_Is_eq key) ?_
  rw [hk]
  refine Ev.step (fun k => by simp only [view_Get.j0]; rfl) (Ev.if_neg (by simp) (Ev.bind0 hr ?_))
  cases h : r.2 with
  | true => exact Ev.if_pos (by first | rfl | trivial) (Ev.now _)
  | false => exact Ev.if_neg (by simp) (Ev.now _)
theorem j4_ev (hs : ∀ t ∈ L, TbSmall t) (hok : ∀ t ∈ L, TabOK t.f0) (h3 : L.length ≤ 3) (i j : Nat) (hj : j ≤ 12) (w : Wr) (h0 : 0 ≤ w.f0) (hl : w.f0 < L.length) (hk : keyOK w.f1 = true) (h : Ev (fun k => quorumlaw11_ViewOwn.l1 k (i : Int) ((j + 1 : Nat) : Int) L P T K R N) true) :
    Ev (fun k => quorumlaw11_ViewOwn.j4 k (i : Int) (j : Int) false L P T K R N w.f0 w.f1 w.f2 w.f3) true := by
  obtain ⟨t, ht⟩ : ∃ t : Nat, w.f0 = t := ⟨w.f0.toNat, by omega⟩
  have htl : t < L.length := by omega
  have hsm := hs L[t] (List.getElem_mem htl)
  have htab := hok L[t] (List.getElem_mem htl)
  obtain ⟨r, e1, e2, e3⟩ := look_get (L[t]).f0 w.f1 5 (by have := hsm.1; omega) (fun c hc => by have := hsm.2 c hc; omega) htab.asc
  have hlook : view_Look.f L [] [] w.f0 w.f1 5 = some (r.1, r.2) := by
    unfold view_Look.f pend_Look.f
    rw [if_pos (by simp)]
    simp only [Option.bind_some]
    rw [show pend_Look.last ([] : List Wr) w.f0 w.f1 = none from rfl, if_neg (by simp [pend_Look.out]), if_pos h0, if_pos hl, ht, rdb_at L t htl, e1]
    rfl
  have hG := get_ev L hs hok h3 [] [] may_nil w.f0 w.f1 5 h0 hl hk _ hlook
  have on : Ev (fun k => quorumlaw11_ViewOwn.j5 k (i : Int) (j : Int) false L P T K R N) true := by
    refine Ev.step (fun k => by simp only [quorumlaw11_ViewOwn.j5]; rfl) (Ev.if_neg (by simp) ?_)
    rw [wrap_succ j (by omega)]
    exact h
  refine Ev.step (fun k => by simp only [quorumlaw11_ViewOwn.j4]; rfl) (Ev.if_neg (by simp) (Ev.bind hG (Ev.if_pos h0 (Ev.if_pos hl ?_))))
  rw [ht, rdb_at L t htl]
  refine Ev.bind e2 (Ev.bind0 (num_eq _) ?_)
  cases hr : r.2 with
  | true =>
    refine Ev.if_neg (by simp [hr]) ?_
    rw [if_pos (by first | rfl | trivial)]
    have e : ((r.1, (0 : Int)).1.toList != r.1.toList) = false := by simp
    rw [e]
    exact on
  | false =>
    refine Ev.if_neg (by simp [hr]) ?_
    rw [if_neg (by simp)]
    have e : (((⟨#[]⟩ : ByteArray), (3 : Int)).1.toList != r.1.toList) = false := by rw [e3 hr]; simp
    rw [e]
    exact on
theorem l1_all (hs : ∀ t ∈ L, TbSmall t) (hok : ∀ t ∈ L, TabOK t.f0) (h3 : L.length ≤ 3) (i : Nat) (hi : i < P.length) (hi6 : i < 6) (hm : May (P[i]).f0 (P[i]).f1) (h : Ev (fun k => quorumlaw11_ViewOwn.l0 k ((i + 1 : Nat) : Int) L P T K R N) true) (d : Nat) :
    ∀ j, j + d = (P[i]).f0.length → Ev (fun k => quorumlaw11_ViewOwn.l1 k (i : Int) (j : Int) L P T K R N) true := by
  have h12 := hm.few
  induction d with
  | zero =>
    intro j hj
    refine Ev.step (fun k => by simp only [quorumlaw11_ViewOwn.l1]; rfl) (Ev.if_pos (by omega) (Ev.if_pos (by omega) ?_))
    rw [rdp_at P i hi, wrap_succ i (by omega)]
    exact Ev.if_neg (by omega) h
  | succ d ih =>
    intro j hj
    have hlt : j < (P[i]).f0.length := by omega
    refine Ev.step (fun k => by simp only [quorumlaw11_ViewOwn.l1]; rfl) (Ev.if_pos (by omega) (Ev.if_pos (by omega) ?_))
    rw [rdp_at P i hi]
    refine Ev.if_pos (by omega) (Ev.if_pos (by omega) ?_)
    rw [rdw_at (P[i]).f0 j hlt]
    have hmem : (P[i]).f0[j] ∈ (P[i]).f0 := List.getElem_mem hlt
    generalize hw : (P[i]).f0[j] = w at hmem ⊢
    have hnext := ih (j + 1) (by omega)
    refine Ev.iff (fun hge => ?_) (fun hge => ?_)
    · rw [wrap_succ j (by omega)]
      exact hnext
    · have hok1 := hm.each w hmem
      have h0 : 0 ≤ w.f0 := by
        unfold wOK at hok1
        simp only [Bool.and_eq_true, decide_eq_true_eq] at hok1
        exact hok1.1
      have hk : keyOK w.f1 = true := by
        unfold wOK at hok1
        simp only [Bool.and_eq_true, decide_eq_true_eq] at hok1
        exact hok1.2.2.1
      have hl : w.f0 < (L.length : Int) := by omega
      obtain ⟨y, hy⟩ := last_there (P[i]).f0 w hmem
      have hL := Last_ev (P[i]).f0 (P[i]).f1 h12 w.f0 w.f1
      rw [hy] at hL
      have hlook : view_Look.f L (P[i]).f0 (P[i]).f1 w.f0 w.f1 5 = some (y.f2, !y.f3) := by
        unfold view_Look.f pend_Look.f
        rw [if_pos h12]
        simp only [Option.bind_some]
        rw [show pend_Look.last (P[i]).f0 w.f0 w.f1 = some y from hy]
        rfl
      have hG := get_ev L hs hok h3 (P[i]).f0 (P[i]).f1 hm w.f0 w.f1 5 h0 hl hk _ hlook
      have on := j4_ev L P T K R N hs hok h3 i j (by omega) w h0 hl hk hnext
      refine Ev.bind hL (Ev.bind hG ?_)
      cases hy3 : y.f3 with
      | true =>
        refine Ev.if_pos (by simp [pend_Look.out, hy3]) (Ev.bind0 (num_eq _) ?_)
        exact Ev.if_pos (by simp) on
      | false =>
        refine Ev.if_neg (by simp [pend_Look.out, hy3]) (Ev.bind0 (num_eq _) ?_)
        refine Ev.if_pos (by simp) ?_
        have e : ((if (!false) = true then (y.f2, (0 : Int)) else ((⟨#[]⟩ : ByteArray), 3)).1.toList != (pend_Look.out (some y)).2.2.1.toList) = false := by simp [pend_Look.out]
        rw [e]
        exact on
open Classical in
theorem l0_all (hs : ∀ t ∈ L, TbSmall t) (hok : ∀ t ∈ L, TabOK t.f0) (h3 : L.length ≤ 3) (d : Nat) : ∀ i, i + d = 6 → Ev (fun k => quorumlaw11_ViewOwn.l0 k (i : Int) L P T K R N) true := by
  have stop : ∀ i : Int, Ev (fun k => quorumlaw11_ViewOwn.j2 k i false L P T K R N) true := fun i => Ev.step (fun k => by simp only [quorumlaw11_ViewOwn.j2]; rfl) (Ev.if_neg (by simp) (Ev.bind wakes_true (Ev.now _)))
  induction d with
  | zero =>
    intro i hi
    refine Ev.step (fun k => by simp only [quorumlaw11_ViewOwn.l0]; rfl) (Ev.iff (fun _ => ?_) (fun _ => stop _))
    rw [decide_eq_false (by omega)]
    exact stop _
  | succ d ih =>
    intro i hi
    refine Ev.step (fun k => by simp only [quorumlaw11_ViewOwn.l0]; rfl) (Ev.iff (fun hlt => ?_) (fun _ => stop _))
    have hi2 : i < P.length := by omega
    rw [decide_eq_true (by omega)]
    refine Ev.step (fun k => by simp only [quorumlaw11_ViewOwn.j2]; rfl) (Ev.if_pos (by first | rfl | trivial) (Ev.if_pos (by omega) (Ev.if_pos (by omega) ?_)))
    rw [rdp_at P i hi2]
    refine Ev.bind (ref_ev (P[i]).f0 (P[i]).f1) ?_
    by_cases hm : May (P[i]).f0 (P[i]).f1
    · exact Ev.if_pos (decide_eq_true hm) (l1_all L P T K R N hs hok h3 i hi2 (by omega) hm (ih (i + 1) (by omega)) (P[i]).f0.length 0 (by omega))
    · refine Ev.if_neg (fun h => hm (of_decide_eq_true h)) ?_
      rw [wrap_succ i (by omega)]
      exact ih (i + 1) (by omega)
theorem own_ev (hL : L.length ≤ 10000000000000) (hT : ∀ t ∈ L, TbIn t) (hP : P.length ≤ 10000000000000) (hp : ∀ p ∈ P, PdIn p) (hTl : T.length ≤ 20000000000000) (hK : K.length ≤ 10000000000000) (hk : ∀ t ∈ K, t.size ≤ 140737488351232) (hR : R.length ≤ 10000000000000) (hN : N.length ≤ 20000000000000) :
    Ev (fun k => quorumlaw11_ViewOwn.f k L P T K R N) true := by
  obtain ⟨b, hb, hs⟩ := heavy_ev L P T K R N hL hT hP hp hTl hK hk hR hN
  have out : Ev (fun k => quorumlaw11_ViewOwn.j0 k true L P T K R N) true := Ev.step (fun k => by simp only [quorumlaw11_ViewOwn.j0]; rfl) (Ev.if_pos (by first | rfl | trivial) (Ev.now _))
  unfold quorumlaw11_ViewOwn.f
  refine Ev.bind hb ?_
  cases b with
  | true => exact Ev.if_pos (by first | rfl | trivial) out
  | false =>
    refine Ev.if_neg (by simp) ?_
    have hsm := hs rfl
    obtain ⟨c, hc, h2⟩ := tables_from L hsm hL L.length 0 (by omega)
    refine Ev.bind (a := c) (by unfold quorumref8_Tables.f; exact hc) ?_
    cases c with
    | false => exact out
    | true =>
      obtain ⟨h3, hok⟩ := h2 rfl
      refine Ev.step (fun k => by simp only [quorumlaw11_ViewOwn.j0]; rfl) (Ev.if_neg (by simp) ?_)
      exact l0_all L P T K R N hsm (fun t ht => by obtain ⟨i, hi, rfl⟩ := List.mem_iff_getElem.1 ht; exact hok i hi (Nat.zero_le _)) h3 6 0 (by omega)
end
end Go.Proofs.Ytbaecdcfefmcgaa.HView
namespace Go.Proofs.Ytbaecdcfefmcgaa.Pure
open Go.RowKit Go.Proofs.Ytbaecdcfefmcgaa.HView Go.Proofs.YtbaecdcfefmcgaaW.PrintWords
theorem ViewOwn : OpViewOwn.Pure := by
  intro L P T K R N hL hP hT hK hR hN
  refine Ev.rounds (own_ev L P T K R N (by have := hL.2.1; omega) (fun t ht => ?_) (by have := hP.2.1; omega) (fun p hp => ?_) (by have := hT.2.1; omega) (by have := hK.2.1; omega) (fun t ht => hK.2.2 t ht) (by have := hR.2.1; omega) (by have := hN.2.1; omega))
  · have h := hL.2.2 t ht
    refine ⟨by have := h.2.1; omega, fun c hc => ?_⟩
    have h2 := h.2.2 c hc
    exact ⟨by have := h2.2.2.1; omega, h2.1, fun v hv => (h2.2.2.2 v hv).2.1⟩
  · have h := hP.2.2 p hp
    exact ⟨by have := h.1.2.1; omega, by have := h.2.2.1; omega, fun w hw => ⟨(h.1.2.2 w hw).2.1, (h.1.2.2 w hw).2.2.1⟩⟩
end Go.Proofs.Ytbaecdcfefmcgaa.Pure
