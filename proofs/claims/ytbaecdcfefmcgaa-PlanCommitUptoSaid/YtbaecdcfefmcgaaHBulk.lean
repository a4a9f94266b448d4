/- What the bound of an '..UptoSaid' statement gives: the length of the slice that is an argument's first field. -/
import Derived.Test.YtbaecdcfefmcgaaRows
import Derived.Test.YtbaecdcfefmcgaaHOpen
namespace Go.Proofs.Ytbaecdcfefmcgaa.HBulk
theorem one_le {H : Type} (d : DataW H) : 1 ≤ Rows.uptoBulk d := by
  cases d with
  | lit l => cases l <;> simp [Rows.uptoBulk]
  | nil => simp [Rows.uptoBulk]
  | ptr d => simp [Rows.uptoBulk]
  | slice elems spare => simp [Rows.uptoBulk]
  | agg parts => simp [Rows.uptoBulk]
  | iface t d => simp [Rows.uptoBulk]
  | map entries => simp [Rows.uptoBulk]
  | held h => simp [Rows.uptoBulk]
theorem part_le {H : Type} {d : DataW H} {l : List (DataW H)} (h : d ∈ l) : Rows.uptoBulk d ≤ Rows.uptoBulkAll l := by
  induction l with
  | nil => cases h
  | cons x r ih =>
    simp only [Rows.uptoBulkAll]
    cases List.mem_cons.1 h with
    | inl e => subst e; omega
    | inr e => have := ih e; omega
theorem length_le {H : Type} (l : List (DataW H)) : l.length ≤ Rows.uptoBulkAll l := by
  induction l with
  | nil => simp [Rows.uptoBulkAll]
  | cons x r ih => have := one_le x; simp only [Rows.uptoBulkAll, List.length_cons]; omega
theorem first_len {H : Type} {enc : TypeId × Value → H} {P : Program} {w : World} {t e : TypeId} {fuel : Nat} {A : Option Addr} {n c : Nat} {cs : List Value} {x : DataW H × List MemPlace} {fs : Array Field} {f : Field}
    (hu : P.underlying t = some (.struct fs)) (h0 : fs[0]? = some f) (ho : f.offset = 0) (hc : P.cellsOf f.type = 1) (hs : P.underlying f.type = some (.slice e))
    (h : DataW.trod enc P w 0 (fun _ => true) true fuel t (.slice A n c :: cs) = some x) : n ≤ Rows.uptoBulk x.1 := by
  obtain ⟨ys, m, _, rfl, hcl, hyl, hg⟩ := DataW.trod_struct hu h
  have h1 := hg 0 f h0
  rw [ho, hc, List.drop_zero, List.take_succ_cons, List.take_zero] at h1
  cases hy : ys with
  | nil => rw [hy] at hyl; have := (Array.getElem?_eq_some_iff.1 h0).1; simp at hyl; omega
  | cons y r =>
    rw [hy] at h1
    simp only [List.getElem?_cons_zero] at h1
    simp only [List.map_cons, Rows.uptoBulk, Rows.uptoBulkAll]
    rcases Go.Deep.open_slice hs h1 with ⟨he, hx⟩ | ⟨a, len, cap, m2, n2, D, Pl, he, _, hl, hm, hmm, hx, hi⟩
    · simp only [List.cons.injEq, Value.slice.injEq, and_true] at he
      omega
    · simp only [List.cons.injEq, Value.slice.injEq, and_true] at he
      have hb := length_le (List.map D (List.range len))
      rw [List.length_map, List.length_range] at hb
      have hy1 : y.1 = DataW.slice (List.map D (List.range len)) (List.map (fun j => D (len + j)) (List.range (m2 - len))) := by rw [hx]
      rw [hy1]
      simp only [Rows.uptoBulk]
      omega
theorem bound {H : Type} {l : List (DataW H)} (hk : Rows.uptoSmall H l = true) : Rows.uptoBulkAll l ≤ 1048576 := of_decide_eq_true hk
end Go.Proofs.Ytbaecdcfefmcgaa.HBulk
