/- How much is asked in the statement of one's own last write: what is let in has small tables. -/
import Derived.Test.YtbaecdcfefmcgaaPVrsx5
import Derived.Test.YtbaecdcfefmcgaaHTableBr
set_option linter.unusedSimpArgs false
set_option linter.unusedVariables false
set_option linter.unusedSectionVars false
namespace Go.Proofs.Ytbaecdcfefmcgaa.HTable
open Go.RowKit Go.Proofs.Ytbaecdcfefmcgaa.PVrs Go.Proofs.Ytbaecdcfefmcgaa.HNum Go.Proofs.Ytbaecdcfefmcgaa.HChain Go.Proofs.YtbaecdcfefmcgaaW.PrintWords Go.Proofs.YtbaecdcfefmcgaaW.PrintLast
abbrev Tb := S47
abbrev Pd := S34
abbrev Wt := S36
theorem rdb_at (l : List Tb) (j : Nat) (h : j < l.length) : rd_T47 l (j : Int) = l[j] := by simp [rd_T47, h]
theorem rdp_at (l : List Pd) (j : Nat) (h : j < l.length) : rd_T34 l (j : Int) = l[j] := by simp [rd_T34, h]
theorem rdw_at (l : List Wt) (j : Nat) (h : j < l.length) : rd_T36 l (j : Int) = l[j] := by simp [rd_T36, h]
section
variable (l : List Ch) (hl : l.length ≤ 10000000000000) (hv : ∀ c ∈ l, c.f1.length ≤ 10000000000000 ∧ c.f0.size ≤ 140737488351232 ∧ ∀ v ∈ c.f1, v.f1.size ≤ 140737488351232)
include hl hv
theorem weight_in (j : Nat) (hj : j < l.length) (p : Prop)
    (h : ∀ n : Int, 0 ≤ n → n ≤ 1000000000000000 → ∃ r, Ev (fun k => quorumlaw0_TableWeight.l0 k n ((j + 1 : Nat) : Int) l) r ∧ n ≤ r ∧ r ≤ 1000000000000000 ∧ (r ≤ 700 → p)) (d : Nat) :
    ∀ (i : Nat), i + d = (l[j]).f1.length → ∀ n : Int, 0 ≤ n → n ≤ 1000000000000000 → ∃ r, Ev (fun k => quorumlaw0_TableWeight.l1 k n (j : Int) (i : Int) l) r ∧ n ≤ r ∧ r ≤ 1000000000000000 ∧ (r ≤ 700 → p) := by
  have hb := hv l[j] (List.getElem_mem hj)
  have stop : ∀ (n : Int) (i : Int), 0 ≤ n → n ≤ 1000000000000000 → ∃ r, Ev (fun k => quorumlaw0_TableWeight.j3 k n (j : Int) i false l) r ∧ n ≤ r ∧ r ≤ 1000000000000000 ∧ (r ≤ 700 → p) := fun n i h0 h1 => by
    obtain ⟨r, hr, h2⟩ := h n h0 h1
    refine ⟨r, Ev.step (fun k => by simp only [quorumlaw0_TableWeight.j3]; rfl) (Ev.if_neg (by simp) ?_), h2⟩
    rw [wrap_succ j (by omega)]
    exact hr
  induction d with
  | zero =>
    intro i hi n h0 h1
    obtain ⟨r, hr, h2⟩ := stop n (i : Int) h0 h1
    refine ⟨r, Ev.step (fun k => by simp only [quorumlaw0_TableWeight.l1]; rfl) ?_, h2⟩
    rw [rdc_at l j hj]
    exact Ev.if_pos (by omega) (Ev.if_pos (by omega) (Ev.if_neg (by omega) hr))
  | succ d ih =>
    intro i hi n h0 h1
    have hlt : i < (l[j]).f1.length := by omega
    have hs := hb.2.2 _ (List.getElem_mem hlt)
    by_cases hn : n < 1048576
    · have e : wrap64 (n + (wrap64 ((((rd_T72 (l[j].f1) (i : Int)).f1).size : Int) / 8))) = n + ((((l[j]).f1[i]).f1.size : Int) / 8) := by
        rw [rd_at _ i hlt]; unfold wrap64; omega
      obtain ⟨r, hr, h2, h3, h4⟩ := ih (i + 1) (by omega) (n + ((((l[j]).f1[i]).f1.size : Int) / 8)) (by omega) (by omega)
      refine ⟨r, Ev.step (fun k => by simp only [quorumlaw0_TableWeight.l1]; rfl) ?_, by omega, h3, h4⟩
      rw [rdc_at l j hj, decide_eq_true hn]
      refine Ev.if_pos (by omega) (Ev.if_pos (by omega) (Ev.if_pos (by omega) ?_))
      refine Ev.step (fun k => by simp only [quorumlaw0_TableWeight.j3]; rfl) (Ev.if_pos (by first | rfl | trivial) ?_)
      rw [rdc_at l j hj, wrap_succ i (by omega), e]
      exact Ev.if_pos (by omega) (Ev.if_pos (by omega) (Ev.if_pos (by omega) (Ev.if_pos (by omega) hr)))
    · obtain ⟨r, hr, h2⟩ := stop n (i : Int) h0 h1
      refine ⟨r, Ev.step (fun k => by simp only [quorumlaw0_TableWeight.l1]; rfl) ?_, h2⟩
      rw [rdc_at l j hj, decide_eq_false hn]
      exact Ev.if_pos (by omega) (Ev.if_pos (by omega) (Ev.if_pos (by omega) hr))
theorem weight_from (d : Nat) : ∀ (j : Nat), j + d = l.length → ∀ n : Int, 0 ≤ n → n ≤ 1000000000000000 →
    ∃ r, Ev (fun k => quorumlaw0_TableWeight.l0 k n (j : Int) l) r ∧ n ≤ r ∧ r ≤ 1000000000000000 ∧ (r ≤ 700 → ∀ i (h : i < l.length), j ≤ i → (l[i]).f1.length ≤ 700) := by
  induction d with
  | zero =>
    intro j hj n h0 h1
    refine ⟨n, Ev.step (fun k => by simp only [quorumlaw0_TableWeight.l0]; rfl) (Ev.if_neg (by omega) ?_), Int.le_refl _, h1, fun _ i hi hji => by omega⟩
    refine Ev.step (fun k => by simp only [quorumlaw0_TableWeight.j1]; rfl) ?_
    exact Ev.if_neg (by simp) (Ev.now n)
  | succ d ih =>
    intro j hj n h0 h1
    have hlt : j < l.length := by omega
    have hb := hv l[j] (List.getElem_mem hlt)
    by_cases hn : n < 1048576
    · have e : wrap64 ((wrap64 (n + (((l[j]).f1).length : Int))) + (wrap64 ((((l[j]).f0).size : Int) / 8))) = n + (((l[j]).f1).length : Int) + ((((l[j]).f0).size : Int) / 8) := by unfold wrap64; omega
      obtain ⟨r, hr, h2, h3, h4⟩ := weight_in l hl hv j hlt _ (ih (j + 1) (by omega)) (l[j]).f1.length 0 (by omega) (n + (((l[j]).f1).length : Int) + ((((l[j]).f0).size : Int) / 8)) (by omega) (by omega)
      refine ⟨r, Ev.step (fun k => by simp only [quorumlaw0_TableWeight.l0]; rfl) (Ev.if_pos (by omega) ?_), by omega, h3, fun hr7 i hi hji => ?_⟩
      · refine Ev.step (fun k => by simp only [quorumlaw0_TableWeight.j1]; rfl) ?_
        rw [rdc_at l j hlt, e]
        exact Ev.if_pos (by simpa using hn) (Ev.if_pos (by omega) (Ev.if_pos (by omega) hr))
      · rcases Nat.eq_or_lt_of_le hji with rfl | h
        · omega
        · exact h4 hr7 i hi (by omega)
    · refine ⟨n, Ev.step (fun k => by simp only [quorumlaw0_TableWeight.l0]; rfl) (Ev.if_pos (by omega) ?_), Int.le_refl _, h1, fun h => by omega⟩
      refine Ev.step (fun k => by simp only [quorumlaw0_TableWeight.j1]; rfl) ?_
      exact Ev.if_neg (by simpa using hn) (Ev.now n)
theorem weight_ends : ∃ r, Ev (fun k => quorumlaw0_TableWeight.f k l) r ∧ (l.length : Int) ≤ r ∧ r ≤ 1000000000000000 ∧ (r ≤ 700 → ∀ c ∈ l, c.f1.length ≤ 700) := by
  obtain ⟨r, h1, h2, h3, h4⟩ := weight_from l hl hv l.length 0 (by omega) (l.length : Int) (by omega) (by omega)
  refine ⟨r, h1, h2, h3, fun h c hc => ?_⟩
  obtain ⟨i, hi, rfl⟩ := List.mem_iff_getElem.1 hc
  exact h4 h i hi (by omega)
end
/-- The sizes that the form lets in. -/
structure TbIn (t : Tb) : Prop where
  len : t.f0.length ≤ 10000000000000
  each : ∀ c ∈ t.f0, c.f1.length ≤ 10000000000000 ∧ c.f0.size ≤ 140737488351232 ∧ ∀ v ∈ c.f1, v.f1.size ≤ 140737488351232
def TbSmall (t : Tb) : Prop := t.f0.length ≤ 700 ∧ ∀ c ∈ t.f0, c.f1.length ≤ 700
theorem tables_from (L : List Tb) (hL : L.length ≤ 10000000000000) (hT : ∀ t ∈ L, TbIn t) (d : Nat) : ∀ (j : Nat), j + d = L.length → ∀ n : Int, 0 ≤ n → n ≤ 2000000000000000 →
    ∃ r, Ev (fun k => quorumlaw0_TablesWeight.l0 k L n (j : Int)) r ∧ n ≤ r ∧ r ≤ 2000000000000000 ∧ (r ≤ 700 → ∀ i (h : i < L.length), j ≤ i → TbSmall L[i]) := by
  have stop : ∀ (n : Int) (j : Int), Ev (fun k => quorumlaw0_TablesWeight.j1 k L n j false) n := fun n j => Ev.step (fun k => by simp only [quorumlaw0_TablesWeight.j1]; rfl) (Ev.if_neg (by simp) (Ev.now n))
  induction d with
  | zero =>
    intro j hj n h0 h1
    exact ⟨n, Ev.step (fun k => by simp only [quorumlaw0_TablesWeight.l0]; rfl) (Ev.if_neg (by omega) (stop n _)), Int.le_refl _, h1, fun _ i hi hji => by omega⟩
  | succ d ih =>
    intro j hj n h0 h1
    have hlt : j < L.length := by omega
    have hb := hT L[j] (List.getElem_mem hlt)
    by_cases hn : n < 1048576
    · obtain ⟨rw, e1, e2, e3, e4⟩ := weight_ends (L[j]).f0 hb.len hb.each
      have ew : wrap64 (n + rw) = n + rw := by unfold wrap64; omega
      obtain ⟨r, hr, h2, h3, h4⟩ := ih (j + 1) (by omega) (n + rw) (by omega) (by omega)
      refine ⟨r, Ev.step (fun k => by simp only [quorumlaw0_TablesWeight.l0]; rfl) (Ev.if_pos (by omega) ?_), by omega, h3, fun hr7 i hi hji => ?_⟩
      · rw [decide_eq_true hn]
        refine Ev.step (fun k => by simp only [quorumlaw0_TablesWeight.j1]; rfl) ?_
        refine Ev.if_pos (by first | rfl | trivial) (Ev.if_pos (by omega) (Ev.if_pos (by omega) ?_))
        rw [rdb_at L j hlt, wrap_succ j (by omega)]
        refine Ev.bind e1 ?_
        rw [ew]
        exact hr
      · rcases Nat.eq_or_lt_of_le hji with rfl | h
        · exact ⟨by omega, e4 (by omega)⟩
        · exact h4 hr7 i hi (by omega)
    · refine ⟨n, Ev.step (fun k => by simp only [quorumlaw0_TablesWeight.l0]; rfl) (Ev.if_pos (by omega) ?_), Int.le_refl _, h1, fun h => by omega⟩
      rw [decide_eq_false hn]
      exact stop n _
theorem texts_from (L : List ByteArray) (hL : L.length ≤ 10000000000000) (hT : ∀ t ∈ L, t.size ≤ 140737488351232) (d : Nat) : ∀ (j : Nat), j + d = L.length → ∀ n : Int, 0 ≤ n → n ≤ 2000000000000000 →
    ∃ r, Ev (fun k => quorumlaw0_Texts.l0 k L n (j : Int)) r ∧ 0 ≤ r ∧ r ≤ 2000000000000000 := by
  have stop : ∀ (n : Int) (j : Int), Ev (fun k => quorumlaw0_Texts.j1 k L n j false) n := fun n j => Ev.step (fun k => by simp only [quorumlaw0_Texts.j1]; rfl) (Ev.if_neg (by simp) (Ev.now n))
  induction d with
  | zero =>
    intro j hj n h0 h1
    exact ⟨n, Ev.step (fun k => by simp only [quorumlaw0_Texts.l0]; rfl) (Ev.if_neg (by omega) (stop n _)), h0, h1⟩
  | succ d ih =>
    intro j hj n h0 h1
    have hlt : j < L.length := by omega
    have hb := hT L[j] (List.getElem_mem hlt)
    by_cases hn : n < 1048576
    · have er : rdOf ByteArray.empty L (j : Int) = L[j] := by simp [rdOf, hlt]
      have ew : wrap64 (n + ((L[j]).size : Int)) = n + ((L[j]).size : Int) := by unfold wrap64; omega
      obtain ⟨r, hr, h2, h3⟩ := ih (j + 1) (by omega) (n + ((L[j]).size : Int)) (by omega) (by omega)
      refine ⟨r, Ev.step (fun k => by simp only [quorumlaw0_Texts.l0]; rfl) (Ev.if_pos (by omega) ?_), h2, h3⟩
      rw [decide_eq_true hn]
      refine Ev.step (fun k => by simp only [quorumlaw0_Texts.j1]; rfl) ?_
      refine Ev.if_pos (by first | rfl | trivial) (Ev.if_pos (by omega) (Ev.if_pos (by omega) ?_))
      rw [er, ew, wrap_succ j (by omega)]
      exact hr
    · refine ⟨n, Ev.step (fun k => by simp only [quorumlaw0_Texts.l0]; rfl) (Ev.if_pos (by omega) ?_), h0, h1⟩
      rw [decide_eq_false hn]
      exact stop n _
theorem writes_from (L : List Wt) (hL : L.length ≤ 10000000000000) (hT : ∀ t ∈ L, t.f1.size ≤ 140737488351232 ∧ t.f2.size ≤ 140737488351232) (d : Nat) : ∀ (j : Nat), j + d = L.length → ∀ n : Int, 0 ≤ n → n ≤ 2000000000000000 →
    ∃ r, Ev (fun k => quorumlaw0_WritesWeight.l0 k L n (j : Int)) r ∧ 0 ≤ r ∧ r ≤ 2000000000000000 := by
  have stop : ∀ (n : Int) (j : Int), Ev (fun k => quorumlaw0_WritesWeight.j1 k L n j false) n := fun n j => Ev.step (fun k => by simp only [quorumlaw0_WritesWeight.j1]; rfl) (Ev.if_neg (by simp) (Ev.now n))
  induction d with
  | zero =>
    intro j hj n h0 h1
    exact ⟨n, Ev.step (fun k => by simp only [quorumlaw0_WritesWeight.l0]; rfl) (Ev.if_neg (by omega) (stop n _)), h0, h1⟩
  | succ d ih =>
    intro j hj n h0 h1
    have hlt : j < L.length := by omega
    have hb := hT L[j] (List.getElem_mem hlt)
    by_cases hn : n < 1048576
    · have e1 : wrap64 ((((L[j]).f1).size : Int) + (((L[j]).f2).size : Int)) = (((L[j]).f1).size : Int) + (((L[j]).f2).size : Int) := by unfold wrap64; omega
      have e2 : Int.tdiv ((((L[j]).f1).size : Int) + (((L[j]).f2).size : Int)) 8 = ((((L[j]).f1).size : Int) + (((L[j]).f2).size : Int)) / 8 := Int.tdiv_eq_ediv_of_nonneg (by omega)
      have e3 : wrap64 (((((L[j]).f1).size : Int) + (((L[j]).f2).size : Int)) / 8) = ((((L[j]).f1).size : Int) + (((L[j]).f2).size : Int)) / 8 := by unfold wrap64; omega
      have ew : wrap64 (n + ((((L[j]).f1).size : Int) + (((L[j]).f2).size : Int)) / 8) = n + ((((L[j]).f1).size : Int) + (((L[j]).f2).size : Int)) / 8 := by unfold wrap64; omega
      obtain ⟨r, hr, h2, h3⟩ := ih (j + 1) (by omega) (n + ((((L[j]).f1).size : Int) + (((L[j]).f2).size : Int)) / 8) (by omega) (by omega)
      refine ⟨r, Ev.step (fun k => by simp only [quorumlaw0_WritesWeight.l0]; rfl) (Ev.if_pos (by omega) ?_), h2, h3⟩
      rw [decide_eq_true hn]
      refine Ev.step (fun k => by simp only [quorumlaw0_WritesWeight.j1]; rfl) ?_
      refine Ev.if_pos (by first | rfl | trivial) (Ev.if_pos (by omega) (Ev.if_pos (by omega) ?_))
      rw [rdw_at L j hlt, e1, e2, e3, ew, wrap_succ j (by omega)]
      exact hr
    · refine ⟨n, Ev.step (fun k => by simp only [quorumlaw0_WritesWeight.l0]; rfl) (Ev.if_pos (by omega) ?_), h0, h1⟩
      rw [decide_eq_false hn]
      exact stop n _
structure PdIn (p : Pd) : Prop where
  ll : p.f0.length ≤ 2932031007317
  lm : p.f1.length ≤ 17592186043904
  each : ∀ t ∈ p.f0, t.f1.size ≤ 140737488351232 ∧ t.f2.size ≤ 140737488351232
section
variable (L : List Tb) (P : List Pd) (T : List Int) (K : List ByteArray) (R : List S74) (N : List Int)
theorem heavy_from (hP : P.length ≤ 10000000000000) (hp : ∀ p ∈ P, PdIn p) (d : Nat) : ∀ (j : Nat), j + d = P.length → ∀ n : Int, 0 ≤ n → n ≤ 9000000000000000 → ∃ b, Ev (fun k => quorumlaw11_Heavy.l0 k n (j : Int) L P T K R N) b ∧ (b = false → n ≤ 700) := by
  have stop : ∀ (n : Int) (j : Int), Ev (fun k => quorumlaw11_Heavy.j1 k n j false L P T K R N) (decide (n > 700)) := fun n j => Ev.step (fun k => by simp only [quorumlaw11_Heavy.j1]; rfl) (Ev.if_neg (by simp) (Ev.now _))
  have small : ∀ n : Int, decide (n > 700) = false → n ≤ 700 := fun n h => by have := of_decide_eq_false h; omega
  induction d with
  | zero =>
    intro j hj n h0 h1
    exact ⟨decide (n > 700), Ev.step (fun k => by simp only [quorumlaw11_Heavy.l0]; rfl) (Ev.if_neg (by omega) (stop n _)), small n⟩
  | succ d ih =>
    intro j hj n h0 h1
    have hlt : j < P.length := by omega
    have hb := hp P[j] (List.getElem_mem hlt)
    by_cases hn : n < 1048576
    · obtain ⟨rw, e1, e2, e3⟩ := writes_from (P[j]).f0 (by have := hb.ll; omega) hb.each (P[j]).f0.length 0 (by omega) ((P[j]).f0.length : Int) (by omega) (by have := hb.ll; omega)
      have hm := hb.lm
      have ew : wrap64 (wrap64 (n + rw) + (((P[j]).f1).length : Int)) = n + rw + (((P[j]).f1).length : Int) := by unfold wrap64; omega
      obtain ⟨b, hr, h2⟩ := ih (j + 1) (by omega) (n + rw + (((P[j]).f1).length : Int)) (by omega) (by omega)
      refine ⟨b, Ev.step (fun k => by simp only [quorumlaw11_Heavy.l0]; rfl) (Ev.if_pos (by omega) ?_), fun h => by have := h2 h; omega⟩
      rw [decide_eq_true hn]
      refine Ev.step (fun k => by simp only [quorumlaw11_Heavy.j1]; rfl) ?_
      refine Ev.if_pos (by first | rfl | trivial) (Ev.if_pos (by omega) (Ev.if_pos (by omega) ?_))
      rw [rdp_at P j hlt, wrap_succ j (by omega)]
      refine Ev.bind (a := rw) (by unfold quorumlaw0_WritesWeight.f; exact e1) ?_
      rw [ew]
      exact hr
    · refine ⟨decide (n > 700), Ev.step (fun k => by simp only [quorumlaw11_Heavy.l0]; rfl) (Ev.if_pos (by omega) ?_), small n⟩
      rw [decide_eq_false hn]
      exact stop n _
theorem heavy_ev (hL : L.length ≤ 10000000000000) (hT : ∀ t ∈ L, TbIn t) (hP : P.length ≤ 10000000000000) (hp : ∀ p ∈ P, PdIn p) (hTl : T.length ≤ 20000000000000) (hK : K.length ≤ 10000000000000) (hk : ∀ t ∈ K, t.size ≤ 140737488351232) (hR : R.length ≤ 10000000000000) (hN : N.length ≤ 20000000000000) :
    ∃ b, Ev (fun k => quorumlaw11_Heavy.f k L P T K R N) b ∧ (b = false → ∀ t ∈ L, TbSmall t) := by
  obtain ⟨rt, e1, e2, e3, e4⟩ := tables_from L hL hT L.length 0 (by omega) (L.length : Int) (by omega) (by omega)
  obtain ⟨rx, x1, x2, x3⟩ := texts_from K hK hk K.length 0 (by omega) (K.length : Int) (by omega) (by omega)
  have d1 : Int.tdiv rx 8 = rx / 8 := Int.tdiv_eq_ediv_of_nonneg x2
  have d2 : wrap64 (rx / 8) = rx / 8 := by unfold wrap64; omega
  have d3 : wrap64 (rt + rx / 8) = rt + rx / 8 := by unfold wrap64; omega
  have d4 : wrap64 (rt + rx / 8 + (P.length : Int)) = rt + rx / 8 + (P.length : Int) := by unfold wrap64; omega
  have d5 : wrap64 (rt + rx / 8 + (P.length : Int) + (T.length : Int)) = rt + rx / 8 + (P.length : Int) + (T.length : Int) := by unfold wrap64; omega
  have d6 : wrap64 (rt + rx / 8 + (P.length : Int) + (T.length : Int) + (R.length : Int)) = rt + rx / 8 + (P.length : Int) + (T.length : Int) + (R.length : Int) := by unfold wrap64; omega
  have d7 : wrap64 (rt + rx / 8 + (P.length : Int) + (T.length : Int) + (R.length : Int) + (N.length : Int)) = rt + rx / 8 + (P.length : Int) + (T.length : Int) + (R.length : Int) + (N.length : Int) := by unfold wrap64; omega
  obtain ⟨b, hb, h7⟩ := heavy_from L P T K R N hP hp P.length 0 (by omega) (rt + rx / 8 + (P.length : Int) + (T.length : Int) + (R.length : Int) + (N.length : Int)) (by omega) (by omega)
  refine ⟨b, ?_, fun h t ht => ?_⟩
  · unfold quorumlaw11_Heavy.f
    refine Ev.bind (a := rt) (by unfold quorumlaw0_TablesWeight.f; exact e1) (Ev.bind (a := rx) (by unfold quorumlaw0_Texts.f; exact x1) ?_)
    rw [d1, d2, d3, d4, d5, d6, d7]
    exact hb
  · obtain ⟨i, hi, rfl⟩ := List.mem_iff_getElem.1 ht
    exact e4 (by have := h7 h; omega) i hi (by omega)
end
end Go.Proofs.Ytbaecdcfefmcgaa.HTable
