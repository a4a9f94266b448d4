/- ViewScans: the pure statement's proof: each row of a scan of all is what one gets by its key, in order, and what is got is among them, for every input within the reach. -/
import Derived.Test.YtbaecdcfefmcgaaOpViewScans
import Derived.Test.YtbaecdcfefmcgaaPVrsx7
import Derived.Test.YtbaecdcfefmcgaaPVrsx9
import Derived.Test.YtbaecdcfefmcgaaPVrsx10
import Derived.Test.YtbaecdcfefmcgaaHMerger
import Derived.Test.YtbaecdcfefmcgaaHPendMayJr
import Derived.Test.YtbaecdcfefmcgaaHWeightRr
set_option linter.unusedSimpArgs false
set_option linter.unusedVariables false
set_option linter.unusedSectionVars false
namespace Go.Proofs.Ytbaecdcfefmcgaa.HView
open Go.RowKit Go.Proofs.Ytbaecdcfefmcgaa.PVrs Go.Proofs.Ytbaecdcfefmcgaa.HNum Go.Proofs.YtbaecdcfefmcgaaW.PrintWords Go.Proofs.YtbaecdcfefmcgaaW.PrintLast
open Go.Proofs.Ytbaecdcfefmcgaa.HTable (Tb Pd TabOK tabMay_ev TbSmall TbIn PdIn rdb_at rdp_at heavy_ev less rowsT Rows_ev rowsT_len seek_ev Asks_ev asksOK Rw rdr_at sums)
open Go.Proofs.Ytbaecdcfefmcgaa.HChain (Ch)
open Go.Proofs.Ytbaecdcfefmcgaa.HPend (May May_ev wOK keyOK key_Is_eq Wr)
open Go.Proofs.Ytbaecdcfefmcgaa.HMerge (rless Merged Merge_ev less_ne less_irrefl)
open Go.Proofs.Ytbaecdcfefmcgaa.HAll (allOf okT all_mem mem_all keyB)
theorem num_eq (e : Int) : quorumlaw11_num.f e = some e := rfl
theorem wakes_true : Ev (fun k => quorumlaw11_wakes.f k) true := by
  refine Ev.of quorumlaw11_wakes.mono (k := 60) ?_
  decide +kernel
theorem okT_of {w : Wr} (h : wOK w = true) : okT w := by
  unfold wOK at h
  simp only [Bool.and_eq_true, decide_eq_true_eq] at h
  exact ⟨h.1, h.2.1⟩
theorem bytes_ext {a b : ByteArray} (h : a.toList = b.toList) : a = b := by
  rw [ByteArray.toList_eq, ByteArray.toList_eq] at h
  exact ByteArray.ext (Array.ext' h)
/-! a table's own rows -/
theorem rows_asc (l : List Ch) (n : Int) (hs : l.Pairwise less) : (rowsT l n).Pairwise rless := by
  unfold rowsT
  refine List.Pairwise.filterMap _ (S := rless) (R := less) (fun a a' h b hb b' hb' => ?_) hs
  obtain ⟨v, hv, rfl⟩ := Option.map_eq_some_iff.1 hb
  obtain ⟨v', hv', rfl⟩ := Option.map_eq_some_iff.1 hb'
  exact h
theorem tlook (l : List Ch) (k : ByteArray) (n : Int) (hs : l.Pairwise less) :
    ∃ r : ByteArray × Bool, Ev (fun q => table_Look.f q l k n) r ∧ (r.2 = true → ∃ row ∈ rowsT l n, row.f0.toList = k.toList ∧ row.f1 = r.1) ∧ (r.2 = false → ∀ row ∈ rowsT l n, row.f0.toList ≠ k.toList) := by
  obtain ⟨p, hp, e⟩ := seek_ev l k hs
  have asc := List.pairwise_iff_getElem.1 hs
  have away : (∀ h : p < l.length, (l[p]).f0.toList ≠ k.toList ∨ HChain.look (l[p]).f1 n = none) → ∀ row ∈ rowsT l n, row.f0.toList ≠ k.toList := fun h row hr hk => by
    obtain ⟨c, hc, h2⟩ := List.mem_filterMap.1 hr
    obtain ⟨v, hv, rfl⟩ := Option.map_eq_some_iff.1 h2
    obtain ⟨i, hi, rfl⟩ := List.mem_iff_getElem.1 hc
    have hk2 : (l[i]).f0.toList = k.toList := hk
    rcases Nat.lt_trichotomy i p with h3 | h3 | h3
    · exact less_ne (hp.low i hi h3) hk2
    · subst h3
      rcases h hi with h4 | h4
      · exact h4 hk2
      · rw [h4] at hv; cases hv
    · have h4 : Op.bytesLess (l[p]).f0.toList (l[i]).f0.toList = true := asc p i (by omega) hi h3
      rw [hk2, hp.high p (by omega) (Nat.le_refl _)] at h4
      cases h4
  by_cases h : p < l.length
  · rw [dif_pos h] at e
    cases hk : ((l[p]).f0.toList == k.toList) with
    | true =>
      rw [hk] at e
      have hk2 : (l[p]).f0.toList = k.toList := by simpa using hk
      have hE : Ev (fun q => table_Look.f q l k n) ((match HChain.look (l[p]).f1 n with | some x => x.f1 | none => ⟨#[]⟩), (HChain.look (l[p]).f1 n).isSome) := by
        unfold table_Look.f
        refine Ev.bind0 e (Ev.if_pos (by first | rfl | trivial) (Ev.if_pos (by omega) (Ev.if_pos (by omega) ?_)))
        rw [show rd_T99 l (p : Int) = l[p] by simp [rd_T99, h]]
        refine Ev.bind (HChain.Look_ev _ _ n) ?_
        cases HChain.look (l[p]).f1 n <;> exact Ev.now _
      refine ⟨_, hE, fun h2 => ?_, fun h2 => away (fun _ => .inr ?_)⟩
      · cases hl : HChain.look (l[p]).f1 n with
        | none => rw [hl] at h2; cases h2
        | some x => exact ⟨⟨(l[p]).f0, x.f1⟩, List.mem_filterMap.2 ⟨l[p], List.getElem_mem h, by rw [hl]; rfl⟩, hk2, rfl⟩
      · cases hl : HChain.look (l[p]).f1 n with
        | none => rfl
        | some x => rw [hl] at h2; cases h2
    | false =>
      rw [hk] at e
      refine ⟨(⟨#[]⟩, false), ?_, fun h2 => (by cases h2), fun _ => away (fun _ => .inl (by simpa using hk))⟩
      unfold table_Look.f
      exact Ev.bind0 e (Ev.if_neg (by simp) (Ev.now _))
  · rw [dif_neg h] at e
    refine ⟨(⟨#[]⟩, false), ?_, fun h2 => (by cases h2), fun _ => away (fun h2 => absurd h2 h)⟩
    unfold table_Look.f
    exact Ev.bind0 e (Ev.if_neg (by simp) (Ev.now _))
/-! with own writes over it -/
def hitB (t : Int) (k : ByteArray) (x : Wr) : Bool := (x.f0 == t) && (x.f1.toList == k.toList)
theorem hit_key {t : Int} {k : ByteArray} {y : Wr} (h : hitB t k y = true) : hitB t k = keyB y := by
  unfold hitB at h
  simp only [Bool.and_eq_true, beq_iff_eq] at h
  funext x
  unfold hitB keyB
  rw [← h.1, ← h.2, ByteArray.toList_eq, ByteArray.toList_eq, Bool.eq_iff_iff]
  simp only [Bool.and_eq_true, beq_iff_eq, decide_eq_true_eq]
section
variable (L : List Tb)
theorem vlook (l : List Wr) (m : List Int) (h12 : l.length ≤ 12) (hok : ∀ x ∈ l, okT x) (t : Nat) (ht : t < L.length) (k : ByteArray) (n : Int) (hs : (L[t]).f0.Pairwise less) (M : List Rw) (hM : Merged (t : Int) (rowsT (L[t]).f0 n) (allOf l) M) :
    ∃ r : ByteArray × Bool, Ev (fun q => view_Look.f q L l m (t : Int) k n) r ∧ (r.2 = true → ∃ row ∈ M, row.f0.toList = k.toList ∧ row.f1 = r.1) ∧ (r.2 = false → ∀ row ∈ M, row.f0.toList ≠ k.toList) := by
  have hlk : pend_Look.f l m (t : Int) k = some (pend_Look.out (l.reverse.find? (hitB (t : Int) k))) := by
    unfold pend_Look.f
    rw [if_pos h12]
    rfl
  cases hy : l.reverse.find? (hitB (t : Int) k) with
  | some y =>
    have hh := List.find?_some hy
    have hh2 := hh
    unfold hitB at hh2
    simp only [Bool.and_eq_true, beq_iff_eq] at hh2
    have hall : y ∈ allOf l := (mem_all l hok y).2 (by rw [List.head?_filter, ← hit_key hh]; exact hy)
    refine ⟨(y.f2, !y.f3), ?_, fun h => ?_, fun h row hr hk => ?_⟩
    · unfold view_Look.f
      refine Ev.bind0 hlk ?_
      rw [hy]
      exact Ev.if_pos rfl (Ev.now _)
    · have h3 : y.f3 = false := by simpa using h
      exact ⟨⟨y.f1, y.f2⟩, (hM.mem _).2 (.inr ⟨y, hall, hh2.1, h3, rfl⟩), hh2.2, rfl⟩
    · have h3 : y.f3 = true := by simpa using h
      rcases (hM.mem row).1 hr with ⟨_, h4⟩ | ⟨w, hw, hwt, hw3, rfl⟩
      · exact h4 y hall hh2.1 (hh2.2.trans hk.symm)
      · have hwk : hitB (t : Int) k w = true := by
          unfold hitB
          simp only [Bool.and_eq_true, beq_iff_eq]
          exact ⟨hwt, hk⟩
        have e1 := (mem_all l hok w).1 hw
        rw [List.head?_filter, ← hit_key hwk, hy] at e1
        obtain rfl := Option.some.inj e1
        rw [hw3] at h3
        cases h3
  | none =>
    have hno : ∀ w ∈ allOf l, w.f0 = (t : Int) → w.f1.toList ≠ k.toList := fun w hw hwt hwk => by
      have := List.find?_eq_none.1 hy w (List.mem_reverse.2 (all_mem l hok w hw))
      simp [hitB, hwt, hwk] at this
    obtain ⟨r, e, h1, h2⟩ := tlook (L[t]).f0 k n hs
    refine ⟨r, ?_, fun h => ?_, fun h row hr hk => ?_⟩
    · unfold view_Look.f
      refine Ev.bind0 hlk ?_
      rw [hy]
      refine Ev.if_neg (by simp [pend_Look.out]) (Ev.if_pos (by omega) (Ev.if_pos (by omega) ?_))
      rw [rdb_at L t ht]
      exact Ev.bind e (Ev.now _)
    · obtain ⟨row, hr, hk, hv⟩ := h1 h
      exact ⟨row, (hM.mem row).2 (.inl ⟨hr, fun w hw hwt => by rw [hk]; exact hno w hw hwt⟩), hk, hv⟩
    · rcases (hM.mem row).1 hr with ⟨h3, _⟩ | ⟨w, hw, hwt, _, rfl⟩
      · exact h2 h row h3 hk
      · exact hno w hw hwt hk
variable (hsm : ∀ t ∈ L, TbSmall t)
include hsm
open Classical in
theorem tabMay (t : Tb) (h : TbSmall t) : Ev (fun k => table_May.f k t.f0) (decide (TabOK t.f0)) := tabMay_ev t.f0 (by have := h.1; omega) (fun c hc => by have := h.2 c hc; omega)
open Classical in
/-- Whether tables and what is pending may be. -/
theorem may_ev (l : List Wr) (m : List Int) : ∃ b, Ev (fun k => view_May.f k L l m) b ∧ (b = true → L.length ≤ 3 ∧ (∀ t ∈ L, TabOK t.f0) ∧ May l m) := by
  have bad : ∀ L' : List Tb, (∀ t ∈ L', TbSmall t) → ∃ b, Ev (fun k => api_Table_96.l0 k L') b ∧ (b = false → ∀ t ∈ L', TabOK t.f0) := by
    intro L'
    induction L' with
    | nil => exact fun _ => ⟨false, Ev.const rfl, fun _ t ht => (by cases ht)⟩
    | cons t ts ih =>
      intro h1
      obtain ⟨b, hb, h2⟩ := ih (fun x hx => h1 x (by simp [hx]))
      have hM := tabMay L hsm t (h1 t (by simp))
      by_cases ht : TabOK t.f0
      · rw [decide_eq_true ht] at hM
        have hC : Ev (fun k => view_May_1.f k t.f0) false := by unfold view_May_1.f; exact Ev.bind hM (Ev.now _)
        exact ⟨b, Ev.bind hC (Ev.if_neg (by simp) hb), fun h x hx => (List.mem_cons.1 hx).elim (fun e => by rw [e]; exact ht) (h2 h x)⟩
      · rw [decide_eq_false ht] at hM
        have hC : Ev (fun k => view_May_1.f k t.f0) true := by unfold view_May_1.f; exact Ev.bind hM (Ev.now _)
        exact ⟨true, Ev.bind hC (Ev.if_pos (by first | rfl | trivial) (Ev.now _)), fun h => (by cases h)⟩
  obtain ⟨b, hb, h1⟩ := bad L hsm
  have hC : Ev (fun k => api_Table_96.f k L) b := by unfold api_Table_96.f; exact hb
  by_cases h3 : (L.length : Int) ≤ 3
  · cases b with
    | true => exact ⟨false, by unfold view_May.f; exact Ev.if_pos h3 (Ev.bind hC (Ev.if_pos (by first | rfl | trivial) (Ev.now _))), fun h => (by cases h)⟩
    | false =>
      refine ⟨decide (May l m), by unfold view_May.f; exact Ev.if_pos h3 (Ev.bind hC (Ev.if_neg (by simp) (Ev.bind (May_ev l m) (Ev.now _)))), fun h => ⟨by omega, h1 rfl, of_decide_eq_true h⟩⟩
  · exact ⟨false, by unfold view_May.f; exact Ev.if_neg h3 (Ev.now _), fun h => (by cases h)⟩
section
variable (l : List Wr) (m : List Int) (hv : Ev (fun k => view_May.f k L l m) true) (t : Nat) (ht : t < L.length)
include hv ht
/-- What Get tells. -/
theorem get_ev (key : ByteArray) (n : Int) (r : ByteArray × Bool) (hr : Ev (fun q => view_Look.f q L l m (t : Int) key n) r) :
    Ev (fun k => view_Get.f k L l m (t : Int) key n) (if keyOK key = true then (if r.2 = true then (r.1, 0) else (⟨#[]⟩, 3)) else (⟨#[]⟩, 1)) := by
  unfold view_Get.f
  refine Ev.bind hv (Ev.if_pos (by first | rfl | trivial) ?_)
  refine Ev.bind0 (show view_there.f L (t : Int) = some true from by unfold view_there.f; rw [if_pos (by omega), decide_eq_true (by omega)]) (Ev.if_pos (by first | rfl | trivial) ?_)
  refine Ev.bind0 (key_Is_eq key) ?_
  cases hk : keyOK key with
  | true =>
    rw [if_pos rfl]
    refine Ev.step (fun k => by simp only [view_Get.j0]; rfl) (Ev.if_neg (by simp) (Ev.bind hr ?_))
    cases h : r.2 with
    | true => exact Ev.if_pos (by first | rfl | trivial) (Ev.now _)
    | false => exact Ev.if_neg (by simp) (Ev.now _)
  | false =>
    rw [if_neg (by simp)]
    exact Ev.step (fun k => by simp only [view_Get.j0]; rfl) (Ev.if_pos (by simp) (Ev.now _))
end
end
theorem chains_few (l : List Ch) (h : TabOK l) : l.length ≤ 64 := by
  have key : ∀ l : List Ch, (∀ c ∈ l, 0 < c.f1.length) → l.length ≤ sums l := by
    intro l
    induction l with
    | nil => intro _; simp
    | cons c l ih =>
      intro h
      have h1 := ih (fun x hx => h x (by simp [hx]))
      have h2 := h c (by simp)
      rw [HTable.sums_cons, List.length_cons]
      omega
  have h1 := key l (fun c hc => (h.each c hc).2.2)
  have h2 := h.few
  omega
/-! the statement -/
section
variable (L : List Tb) (P : List Pd) (T : List Int) (K : List ByteArray) (R : List S74) (N : List Int)
section
variable (hsm : ∀ t ∈ L, TbSmall t) (i t : Nat) (hi : i < P.length) (hi6 : i < 6) (ht : t < L.length) (ht3 : t < 3)
  (hv : Ev (fun k => view_May.f k L (P[i]).f0 (P[i]).f1) true) (hm : May (P[i]).f0 (P[i]).f1) (htab : TabOK (L[t]).f0) (M : List Rw) (hM : Merged (t : Int) (rowsT (L[t]).f0 4) (allOf (P[i]).f0) M) (hlen : M.length ≤ 100)
  (next : Ev (fun k => quorumlaw11_ViewScans.l1 k (i : Int) ((t + 1 : Nat) : Int) L P T K R N) true)
include hsm hi hi6 ht ht3 hv hm htab hM hlen next
theorem rows_key (row : Rw) (hr : row ∈ M) : keyOK row.f0 = true := by
  rcases (hM.mem row).1 hr with ⟨h1, _⟩ | ⟨w, hw, _, _, rfl⟩
  · obtain ⟨c, hc, h2⟩ := List.mem_filterMap.1 h1
    obtain ⟨v, hv, rfl⟩ := Option.map_eq_some_iff.1 h2
    exact (htab.each c hc).2.1
  · have h1 := hm.each w (all_mem _ (fun x hx => okT_of (hm.each x hx)) w hw)
    unfold wOK at h1
    simp only [Bool.and_eq_true, decide_eq_true_eq] at h1
    exact h1.2.2.1
theorem look_row (k : ByteArray) : ∃ r : ByteArray × Bool, Ev (fun q => view_Get.f q L (P[i]).f0 (P[i]).f1 (t : Int) k 4) (if keyOK k = true then (if r.2 = true then (r.1, 0) else (⟨#[]⟩, 3)) else (⟨#[]⟩, 1)) ∧ (r.2 = true → ∃ row ∈ M, row.f0.toList = k.toList ∧ row.f1 = r.1) ∧ (r.2 = false → ∀ row ∈ M, row.f0.toList ≠ k.toList) := by
  obtain ⟨r, e, h1, h2⟩ := vlook L (P[i]).f0 (P[i]).f1 hm.few (fun x hx => okT_of (hm.each x hx)) t ht k 4 htab.asc M hM
  exact ⟨r, get_ev L hsm (P[i]).f0 (P[i]).f1 hv t ht k 4 r e, h1, h2⟩
theorem l4_ev (q : Nat) (hq : q < K.length) (hq12 : q < 12) (v : ByteArray) (on : Ev (fun k => quorumlaw11_ViewScans.l3 k (i : Int) (t : Int) M ((q + 1 : Nat) : Int) L P T K R N) true) (d : Nat) : ∀ (j : Nat) (b : Bool), j + d = M.length →
    (b = true ∨ ∃ x, ∃ h : x < M.length, j ≤ x ∧ (M[x]).f0.toList = (K[q]).toList ∧ (M[x]).f1.toList = v.toList) → Ev (fun k => quorumlaw11_ViewScans.l4 k (i : Int) (t : Int) M (q : Int) v b (j : Int) L P T K R N) true := by
  have erd : rdOf ByteArray.empty K (q : Int) = K[q] := by simp [rdOf, hq]
  induction d with
  | zero =>
    intro j b hj hb
    have hb2 : b = true := by
      rcases hb with h | ⟨x, h, h2, _⟩
      · exact h
      · omega
    refine Ev.step (fun k => by simp only [quorumlaw11_ViewScans.l4]; rfl) (Ev.if_neg (by omega) (Ev.if_pos hb2 ?_))
    rw [wrap_succ q (by omega)]
    exact on
  | succ d ih =>
    intro j b hj hb
    have hlt : j < M.length := by omega
    refine Ev.step (fun k => by simp only [quorumlaw11_ViewScans.l4]; rfl) (Ev.if_pos (by omega) ?_)
    rw [wrap_succ j (by omega)]
    cases b with
    | true => exact Ev.if_pos rfl (ih (j + 1) true (by omega) (.inl rfl))
    | false =>
      refine Ev.if_neg (by simp) (Ev.if_pos (by omega) (Ev.if_pos (by omega) (Ev.if_pos (by omega) ?_)))
      rw [rdr_at M j hlt, erd]
      refine ih (j + 1) _ (by omega) ?_
      rcases hb with h | ⟨x, h, h2, h3, h4⟩
      · cases h
      · rcases Nat.eq_or_lt_of_le h2 with rfl | h5
        · left; simp [h3, h4]
        · exact .inr ⟨x, h, h5, h3, h4⟩
theorem l3_ev (d : Nat) : ∀ q, q + d = 12 → Ev (fun k => quorumlaw11_ViewScans.l3 k (i : Int) (t : Int) M (q : Int) L P T K R N) true := by
  have stop : ∀ q : Int, Ev (fun k => quorumlaw11_ViewScans.j7 k (i : Int) (t : Int) M q false L P T K R N) true := fun q => by
    refine Ev.step (fun k => by simp only [quorumlaw11_ViewScans.j7]; rfl) (Ev.if_neg (by simp) ?_)
    rw [wrap_succ t (by omega)]
    exact next
  induction d with
  | zero =>
    intro q hq
    refine Ev.step (fun k => by simp only [quorumlaw11_ViewScans.l3]; rfl) (Ev.iff (fun _ => ?_) (fun _ => stop _))
    rw [decide_eq_false (by omega)]
    exact stop _
  | succ d ih =>
    intro q hq
    refine Ev.step (fun k => by simp only [quorumlaw11_ViewScans.l3]; rfl) (Ev.iff (fun hlt => ?_) (fun _ => stop _))
    have hq2 : q < K.length := by omega
    have on := ih (q + 1) (by omega)
    rw [decide_eq_true (by omega)]
    refine Ev.step (fun k => by simp only [quorumlaw11_ViewScans.j7]; rfl) (Ev.if_pos (by first | rfl | trivial) (Ev.if_pos (by omega) (Ev.if_pos (by omega) (Ev.if_pos (by omega) (Ev.if_pos (by omega) ?_)))))
    rw [rdp_at P i hi, show rdOf ByteArray.empty K (q : Int) = K[q] by simp [rdOf, hq2]]
    obtain ⟨r, e, h1, h2⟩ := look_row L P T K R N hsm i t hi hi6 ht ht3 hv hm htab M hM hlen next K[q]
    refine Ev.bind e (Ev.bind0 (num_eq _) ?_)
    have skip : Ev (fun k => quorumlaw11_ViewScans.l3 k (i : Int) (t : Int) M (wrap64 ((q : Int) + 1)) L P T K R N) true := by
      rw [wrap_succ q (by omega)]
      exact on
    by_cases hk : keyOK K[q] = true
    · rw [if_pos hk]
      cases hr : r.2 with
      | true =>
        rw [if_pos rfl]
        refine Ev.if_pos rfl ?_
        obtain ⟨row, hrow, hkey, hval⟩ := h1 hr
        obtain ⟨x, hx, rfl⟩ := List.mem_iff_getElem.1 hrow
        exact l4_ev L P T K R N hsm i t hi hi6 ht ht3 hv hm htab M hM hlen next q hq2 (by omega) r.1 on M.length 0 false (by omega) (.inr ⟨x, hx, Nat.zero_le _, hkey, by rw [hval]⟩)
      | false =>
        rw [if_neg (by simp)]
        exact Ev.if_neg (by simp) skip
    · rw [if_neg hk]
      exact Ev.if_neg (by simp) skip
theorem l2_ev (d : Nat) : ∀ j, j + d = M.length → Ev (fun k => quorumlaw11_ViewScans.l2 k (i : Int) (t : Int) M (j : Int) L P T K R N) true := by
  induction d with
  | zero =>
    intro j hj
    exact Ev.step (fun k => by simp only [quorumlaw11_ViewScans.l2]; rfl) (Ev.if_neg (by omega) (l3_ev L P T K R N hsm i t hi hi6 ht ht3 hv hm htab M hM hlen next 12 0 rfl))
  | succ d ih =>
    intro j hj
    have hlt : j < M.length := by omega
    have asc := List.pairwise_iff_getElem.1 hM.asc
    refine Ev.step (fun k => by simp only [quorumlaw11_ViewScans.l2]; rfl) (Ev.if_pos (by omega) (Ev.if_pos (by omega) (Ev.if_pos (by omega) (Ev.if_pos (by omega) ?_))))
    rw [rdp_at P i hi, rdr_at M j hlt]
    have hmem : M[j] ∈ M := List.getElem_mem hlt
    obtain ⟨r, e, h1, h2⟩ := look_row L P T K R N hsm i t hi hi6 ht ht3 hv hm htab M hM hlen next (M[j]).f0
    have hk := rows_key L P T K R N hsm i t hi hi6 ht ht3 hv hm htab M hM hlen next M[j] hmem
    have hr : r.2 = true := by
      cases h : r.2 with
      | true => rfl
      | false => exact absurd rfl (h2 h M[j] hmem)
    obtain ⟨row, hrow, hkey, hval⟩ := h1 hr
    have hsame : row = M[j] := by
      obtain ⟨x, hx, rfl⟩ := List.mem_iff_getElem.1 hrow
      rcases Nat.lt_trichotomy x j with h | h | h
      · exact absurd hkey (less_ne (asc x j hx hlt h))
      · subst h; rfl
      · exact absurd hkey.symm (less_ne (asc j x hlt hx h))
    rw [if_pos hk, if_pos hr] at e
    refine Ev.bind e (Ev.bind0 (num_eq _) (Ev.if_pos rfl (Ev.if_pos (by rw [← hsame, ← hval]) ?_)))
    have on : Ev (fun k => quorumlaw11_ViewScans.j5 k (i : Int) (t : Int) M (j : Int) false L P T K R N) true := by
      refine Ev.step (fun k => by simp only [quorumlaw11_ViewScans.j5]; rfl) (Ev.if_neg (by simp) ?_)
      rw [wrap_succ j (by omega)]
      exact ih (j + 1) (by omega)
    refine Ev.iff (fun h0 => ?_) (fun h0 => on)
    have h0' : 0 < j := by omega
    rw [wrap_pred j h0' (by omega), rdr_at M (j - 1) (by omega)]
    refine Ev.if_pos (by omega) (Ev.if_pos (by omega) ?_)
    have hasc : Op.bytesLess (M[j - 1]).f0.toList (M[j]).f0.toList = true := asc (j - 1) j (by omega) hlt (by omega)
    rw [hasc]
    exact on
end
theorem someOf_all (l : List Rw) (h : l.length ≤ 1073741824) : HSome.someOf l ⟨#[]⟩ ⟨#[]⟩ true 1073741824 false = l := by
  unfold HSome.someOf
  have hk : ∀ x ∈ l, HSome.keep ⟨#[]⟩ ⟨#[]⟩ true x = true := fun x hx => by
    unfold HSome.keep
    have e : (⟨#[]⟩ : ByteArray).toList = [] := by rw [ByteArray.toList_eq]
    rw [e]
    cases x.f0.toList <;> simp [Op.bytesLess]
  rw [if_neg (by simp), List.filter_eq_self.2 hk, List.take_of_length_le (by omega)]
theorem asks_all : asksOK ⟨#[]⟩ ⟨#[]⟩ true 1073741824 = true := by decide +kernel
open Classical in
theorem l1_ev (hsm : ∀ t ∈ L, TbSmall t) (i : Nat) (hi : i < P.length) (hi6 : i < 6) (next : Ev (fun k => quorumlaw11_ViewScans.l0 k ((i + 1 : Nat) : Int) L P T K R N) true) (d : Nat) : ∀ t, t + d = 3 → Ev (fun k => quorumlaw11_ViewScans.l1 k (i : Int) (t : Int) L P T K R N) true := by
  have stop : ∀ t : Int, Ev (fun k => quorumlaw11_ViewScans.j3 k (i : Int) t false L P T K R N) true := fun t => by
    refine Ev.step (fun k => by simp only [quorumlaw11_ViewScans.j3]; rfl) (Ev.if_neg (by simp) ?_)
    rw [wrap_succ i (by omega)]
    exact next
  induction d with
  | zero =>
    intro t ht
    refine Ev.step (fun k => by simp only [quorumlaw11_ViewScans.l1]; rfl) (Ev.iff (fun _ => ?_) (fun _ => stop _))
    rw [decide_eq_false (by omega)]
    exact stop _
  | succ d ih =>
    intro t ht
    refine Ev.step (fun k => by simp only [quorumlaw11_ViewScans.l1]; rfl) (Ev.iff (fun hlt => ?_) (fun _ => stop _))
    have ht2 : t < L.length := by omega
    have on := ih (t + 1) (by omega)
    rw [decide_eq_true (by omega)]
    refine Ev.step (fun k => by simp only [quorumlaw11_ViewScans.j3]; rfl) (Ev.if_pos (by first | rfl | trivial) (Ev.if_pos (by omega) (Ev.if_pos (by omega) ?_)))
    rw [rdp_at P i hi]
    obtain ⟨b, hb, hfacts⟩ := may_ev L hsm (P[i]).f0 (P[i]).f1
    cases b with
    | false =>
      refine Ev.bind (a := ([], 1)) ?_ (Ev.bind0 (num_eq _) (Ev.if_neg (by simp) ?_))
      · unfold view_Scan.f
        exact Ev.bind hb (Ev.if_neg (by simp) (Ev.step (fun k => by simp only [view_Scan.j0]; rfl) (Ev.if_pos (by first | rfl | trivial) (Ev.now _))))
      · rw [wrap_succ t (by omega)]
        exact on
    | true =>
      obtain ⟨h3, hok, hm⟩ := hfacts rfl
      have htab := hok L[t] (List.getElem_mem ht2)
      have hts := hsm L[t] (List.getElem_mem ht2)
      have hfew := chains_few (L[t]).f0 htab
      have hrl := rowsT_len (L[t]).f0 4
      obtain ⟨M, hMe, hM⟩ := Merge_ev (t : Int) (rowsT (L[t]).f0 4) (rows_asc (L[t]).f0 4 htab.asc) (by omega) (P[i]).f0 (P[i]).f1 hm.few (fun x hx => okT_of (hm.each x hx))
      have hml : M.length ≤ 100 := by
        have h1 := hM.len
        have h2 := HAll.all_len (P[i]).f0
        have h4 := hm.few
        omega
      refine Ev.bind (a := (M, 0)) ?_ (Ev.bind0 (num_eq _) (Ev.if_pos rfl ?_))
      · unfold view_Scan.f
        refine Ev.bind hb (Ev.if_pos (by first | rfl | trivial) ?_)
        refine Ev.bind0 (show view_there.f L (t : Int) = some true from by unfold view_there.f; rw [if_pos (by omega), decide_eq_true (by omega)]) (Ev.if_pos (by first | rfl | trivial) ?_)
        have hA := Asks_ev ⟨#[]⟩ ⟨#[]⟩ true 1073741824
        rw [asks_all] at hA
        refine Ev.bind hA (Ev.step (fun k => by simp only [view_Scan.j0]; rfl) (Ev.if_neg (by simp) (Ev.if_pos (by omega) (Ev.if_pos (by omega) ?_))))
        rw [rdb_at L t ht2]
        refine Ev.bind (Rows_ev (L[t]).f0 4 (by omega) (fun c hc => by have := hts.2 c hc; omega)) (Ev.bind hMe (Ev.bind0 (a := M) ?_ (Ev.now _)))
        unfold table_Some.f
        rw [if_pos ⟨by omega, by omega⟩, someOf_all M (by omega)]
      · exact l2_ev L P T K R N hsm i t hi hi6 ht2 (by omega) hb hm htab M hM hml on M.length 0 (by omega)
theorem l0_ev (hsm : ∀ t ∈ L, TbSmall t) (d : Nat) : ∀ i, i + d = 6 → Ev (fun k => quorumlaw11_ViewScans.l0 k (i : Int) L P T K R N) true := by
  have stop : ∀ i : Int, Ev (fun k => quorumlaw11_ViewScans.j1 k i false L P T K R N) true := fun i => Ev.step (fun k => by simp only [quorumlaw11_ViewScans.j1]; rfl) (Ev.if_neg (by simp) (Ev.bind wakes_true (Ev.now _)))
  induction d with
  | zero =>
    intro i hi
    refine Ev.step (fun k => by simp only [quorumlaw11_ViewScans.l0]; rfl) (Ev.iff (fun _ => ?_) (fun _ => stop _))
    rw [decide_eq_false (by omega)]
    exact stop _
  | succ d ih =>
    intro i hi
    refine Ev.step (fun k => by simp only [quorumlaw11_ViewScans.l0]; rfl) (Ev.iff (fun hlt => ?_) (fun _ => stop _))
    rw [decide_eq_true (by omega)]
    exact Ev.step (fun k => by simp only [quorumlaw11_ViewScans.j1]; rfl) (Ev.if_pos (by first | rfl | trivial) (l1_ev L P T K R N hsm i (by omega) (by omega) (ih (i + 1) (by omega)) 3 0 rfl))
theorem scans_ev (hL : L.length ≤ 10000000000000) (hT : ∀ t ∈ L, TbIn t) (hP : P.length ≤ 10000000000000) (hp : ∀ p ∈ P, PdIn p) (hTl : T.length ≤ 20000000000000) (hK : K.length ≤ 10000000000000) (hk : ∀ t ∈ K, t.size ≤ 140737488351232) (hR : R.length ≤ 10000000000000) (hN : N.length ≤ 20000000000000) :
    Ev (fun k => quorumlaw11_ViewScans.f k L P T K R N) true := by
  obtain ⟨b, hb, hs⟩ := heavy_ev L P T K R N hL hT hP hp hTl hK hk hR hN
  unfold quorumlaw11_ViewScans.f
  refine Ev.bind hb ?_
  cases b with
  | true => exact Ev.if_pos (by first | rfl | trivial) (Ev.now _)
  | false => exact Ev.if_neg (by simp) (l0_ev L P T K R N (hs rfl) 6 0 rfl)
end
end Go.Proofs.Ytbaecdcfefmcgaa.HView
namespace Go.Proofs.Ytbaecdcfefmcgaa.Pure
open Go.RowKit Go.Proofs.Ytbaecdcfefmcgaa.HView Go.Proofs.YtbaecdcfefmcgaaW.PrintWords
theorem ViewScans : OpViewScans.Pure := by
  intro L P T K R N hL hP hT hK hR hN
  refine Ev.rounds (scans_ev L P T K R N (by have := hL.2.1; omega) (fun t ht => ?_) (by have := hP.2.1; omega) (fun p hp => ?_) (by have := hT.2.1; omega) (by have := hK.2.1; omega) (fun t ht => hK.2.2 t ht) (by have := hR.2.1; omega) (by have := hN.2.1; omega))
  · have h := hL.2.2 t ht
    refine ⟨by have := h.2.1; omega, fun c hc => ?_⟩
    have h2 := h.2.2 c hc
    exact ⟨by have := h2.2.2.1; omega, h2.1, fun v hv => (h2.2.2.2 v hv).2.1⟩
  · have h := hP.2.2 p hp
    exact ⟨by have := h.1.2.1; omega, by have := h.2.2.1; omega, fun w hw => ⟨(h.1.2.2 w hw).2.1, (h.1.2.2 w hw).2.2.1⟩⟩
end Go.Proofs.Ytbaecdcfefmcgaa.Pure
