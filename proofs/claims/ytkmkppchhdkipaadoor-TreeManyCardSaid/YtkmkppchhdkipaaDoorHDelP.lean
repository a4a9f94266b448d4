/- The library's Delete of one row out of a row of the call's own: walked by hand. -/
import Derived.Test.YtkmkppchhdkipaaDoorPTrx0
import Derived.Test.YtkmkppchhdkipaaDoorHCopy
namespace Go.Proofs.YtkmkppchhdkipaaDoor.HDelP
open Go.Shelf Go.Lib Go.Sort Go.RowKit Go.Proofs.YtkmkppchhdkipaaDoorW.PrintWords Go.Proofs.YtkmkppchhdkipaaDoorW.PrintLast Go.Proofs.YtkmkppchhdkipaaDoorW.PrintMore Go.Proofs.YtkmkppchhdkipaaDoor.PTr Go.Proofs.YtkmkppchhdkipaaDoor.HCopy Go.Proofs
set_option linter.unusedSimpArgs false
set_option linter.unusedVariables false
abbrev Rw := S91
theorem run_clear_k {P : Program} (w : World) (t e ty : TypeId) (z : Value) (ht : P.underlying t = some (.slice e)) (hv : ∀ w, (zeroValue e).run P w = .ok z w) (b o n c : Nat) (hn : 0 < n)
    (h1 : ∀ v ∈ (Builtin.zeroCells z.cells n).toList, v.oneCell' = true) (hc : ∀ j, j < (Builtin.zeroCells z.cells n).toList.length → (w.cell? ⟨b, o + j, none⟩).isSome = true) (hf : ∀ j, j < (Builtin.zeroCells z.cells n).toList.length → w.frozen? ⟨b, o + j, none⟩ = false) :
    (Builtin.clear_ #[t] ty #[.slice (some ⟨b, o, none⟩) n c]).run P w = .ok (.tuple #[]) (w.setCells b o (Builtin.zeroCells z.cells n).toList) := by
  have hst := run_storeCells_cells (P := P) b o (Builtin.zeroCells z.cells n).toList 0 w (by simpa using hc) (by simpa using hf) h1
  simp only [Nat.add_zero] at hst
  obtain ⟨m, rfl⟩ : ∃ m, n = m + 1 := ⟨n - 1, by omega⟩
  simp [Builtin.clear_, run_underlying ht, hv, hst]
theorem zero_one (n : Nat) : ∀ v ∈ (Builtin.zeroCells (Value.agg #[.string ⟨#[]⟩, .int .i64 0]).cells n).toList, v.oneCell' = true := by
  intro v hv
  simp only [Builtin.zeroCells, Value.cells, Array.toList_map, List.mem_map] at hv
  obtain ⟨i, _, rfl⟩ := hv
  have h4 : i % 2 < 2 := Nat.mod_lt _ (by omega)
  show (#[Value.string ⟨#[]⟩, .int .i64 0][i % 2]!).oneCell' = true
  have : i % 2 = 0 ∨ i % 2 = 1 := by omega
  rcases this with h | h <;> rw [h] <;> rfl
theorem zero_len (n : Nat) : (Builtin.zeroCells (Value.agg #[.string ⟨#[]⟩, .int .i64 0]).cells n).toList.length = n * 2 := by simp [Builtin.zeroCells, Value.cells]
theorem below_cells {w0 W : World} {g : Nat} (hB : Below w0.heap.size w0 W) (hg : w0.heap.size ≤ g) (o : Nat) (vs : List Value) : Below w0.heap.size w0 (W.setCells g o vs) := by
  obtain ⟨s1, s2, s3, s4⟩ := setCells_same g vs o W
  exact hB.trans ⟨s1, s2, s3, by rw [s4]; exact Nat.le_refl _, fun k hk => setCells_far vs o k (by omega)⟩
/-- What is cut off is written over. -/
theorem cut_R {W : World} {base : Nat} {ok : Nat → Prop} {g n cap : Nat} {x : List Rw} (h : k91.R 91 W base ok (.slice (some ⟨g, 0, none⟩) n cap) x) (i : Nat) (hi : i ≤ n) (vs : List Value) (hv : vs.length ≤ (cap - i) * 2) :
    k91.R 91 (W.setCells g (i * 2) vs) base ok (.slice (some ⟨g, 0, none⟩) i cap) (x.take i) ∧ base ≤ g := by
  obtain ⟨hn, hnc, _⟩ := Kd.R_reads' h
  obtain ⟨hok, inner, ⟨hlen, hcase⟩, hr⟩ := h
  rcases hcase with ⟨h0, _⟩ | ⟨g', cap', cur, he, hbg, hg, hnc', hcm, hsz, ht⟩
  · cases h0
  injection he with ha _ hc
  injection ha with ha
  injection ha with hgg
  subst hgg; subst hc
  have hs2 : cur.size = cap * 2 := hsz
  have hl2 : inner.length = x.length * 2 := hlen
  obtain ⟨cur', h3, h4, h5⟩ := setCells_row vs (i * 2) W cur hg (by omega)
  have ht2 : cur.toList.take (x.length * 2) = inner := ht
  refine ⟨row_R k91 rfl (w0 := W) (base0 := base) (ok0 := fun _ => True) (Nat.le_refl _) h3 hbg (by rw [List.length_take]; omega) (by omega) hcm (by rw [h4]; exact hsz) (inner := inner.take (i * 2)) ?_ ⟨?_, fun j q hj => ?_⟩ (hok _ rfl), hbg⟩
  · show cur'.toList.take (i * 2) = inner.take (i * 2)
    rw [h5, ← ht2, List.take_take, List.append_assoc, List.take_append_of_le_length (by rw [List.length_take, Array.length_toList]; omega), List.take_take]
    congr 1
    omega
  · show (inner.take (i * 2)).length = (x.take i).length * 2
    rw [List.length_take, List.length_take]; omega
  · have hjl : j < (x.take i).length := (List.getElem?_eq_some_iff.1 hj).1
    rw [List.length_take] at hjl
    have hj2 : x[j]? = some q := by rwa [List.getElem?_take_of_lt (by omega)] at hj
    have h6 := hr.2 j q hj2
    have e : ((inner.take (i * 2)).drop (j * k91.sz)).take k91.sz = (inner.drop (j * k91.sz)).take k91.sz := by
      show ((inner.take (i * 2)).drop (j * 2)).take 2 = (inner.drop (j * 2)).take 2
      rw [List.drop_take, List.take_take]
      congr 1
      omega
    rw [e]
    exact Kd.M_mono _ (fun _ _ => trivial) h6
theorem cap_le {W : World} {base : Nat} {ok : Nat → Prop} {g n cap : Nat} {x : List Rw} (h : k91.R 91 W base ok (.slice (some ⟨g, 0, none⟩) n cap) x) : cap ≤ 9223372036854775807 := by
  obtain ⟨hok, inner, ⟨hlen, hcase⟩, hr⟩ := h
  rcases hcase with ⟨h0, _⟩ | ⟨g', cap', cur, he, hbg, hg, hnc', hcm, hsz, ht⟩
  · cases h0
  injection he with ha _ hc
  subst hc
  unfold maxLen at hcm
  omega
theorem row_size {W : World} {base : Nat} {ok : Nat → Prop} {g n cap : Nat} {x : List Rw} (h : k91.R 91 W base ok (.slice (some ⟨g, 0, none⟩) n cap) x) : ∃ cur, W.heap[g]? = some (.cells cur 91 (0, 0)) ∧ cur.size = cap * 2 := by
  obtain ⟨hok, inner, ⟨hlen, hcase⟩, hr⟩ := h
  rcases hcase with ⟨h0, _⟩ | ⟨g', cap', cur, he, hbg, hg, hnc', hcm, hsz, ht⟩
  · cases h0
  injection he with ha _ hc
  injection ha with ha
  injection ha with hgg
  subst hgg; subst hc
  exact ⟨cur, hg, hsz⟩
theorem clear_last {w0 w w1 : World} {ok : Nat → Prop} {l : List Rw} {g c i : Nat} (hi : i < l.length) (hlc : l.length ≤ c) (hbg : w0.heap.size ≤ g) (hB1 : Below w0.heap.size w0 w1) (hg1 : w.grownBy w1 (some g)) (hR1 : k91.R 91 w1 w0.heap.size ok (.slice (some ⟨g, 0, none⟩) (l.length - 1) c) (l.eraseIdx i)) :
    ∃ W2, (∀ ty k, (Builtin.clear_ #[75] ty #[.slice (some ⟨g, (l.length - 1) * 2, none⟩) 1 k]).run Tryd.prog w1 = .ok (.tuple #[]) W2) ∧ k91.R 91 W2 w0.heap.size ok (.slice (some ⟨g, 0, none⟩) (l.length - 1) c) (l.eraseIdx i) ∧ Below w0.heap.size w0 W2 ∧ Kept w W2 (fun k => some k = (Value.slice (some ⟨g, 0, none⟩) l.length c).ownBlock) := by
  obtain ⟨cur, hcur, hsize⟩ := row_size hR1
  have hz : (Builtin.zeroCells (Value.agg #[.string ⟨#[]⟩, .int .i64 0]).cells 1).toList.length = 2 := by rw [zero_len]
  obtain ⟨hR2, _⟩ := cut_R hR1 (l.length - 1) (Nat.le_refl _) (Builtin.zeroCells (Value.agg #[.string ⟨#[]⟩, .int .i64 0]).cells 1).toList (by rw [hz]; omega)
  rw [List.take_of_length_le (by rw [List.length_eraseIdx_of_lt hi]; omega)] at hR2
  refine ⟨w1.setCells g ((l.length - 1) * 2) (Builtin.zeroCells (Value.agg #[.string ⟨#[]⟩, .int .i64 0]).cells 1).toList, fun ty k => ?_, hR2, below_cells hB1 hbg ((l.length - 1) * 2) _, ?_⟩
  · exact run_clear_k w1 75 91 ty (Value.agg #[.string ⟨#[]⟩, .int .i64 0]) Tryd.underlying75 Tryd.zeroValue91 g ((l.length - 1) * 2) 1 k (by omega) (zero_one _) (fun j' hj' => by
      rw [hz] at hj'
      rw [blk_cell hcur, Array.getElem?_eq_getElem (by omega)]
      rfl) (fun j' hj' => blk_frozen hcur _)
  · obtain ⟨s1, s2, s3, s4⟩ := setCells_same g (Builtin.zeroCells (Value.agg #[.string ⟨#[]⟩, .int .i64 0]).cells 1).toList ((l.length - 1) * 2) w1
    refine ⟨by rw [s4]; exact hg1.size, fun k hk hn => ?_⟩
    have hkg : k ≠ g := fun e => hn (by rw [e]; rfl)
    rw [setCells_far _ _ k hkg]
    exact hg1.block k hk (fun e => hkg (by injection e))
set_option maxHeartbeats 4000000 in
set_option maxRecDepth 100000 in
theorem delete_one {w0 w : World} {ok : Nat → Prop} {u : Value} {l : List Rw} (hB : Below w0.heap.size w0 w) (ho : k91.R 91 w w0.heap.size ok u l) (i : Nat) (hi : i < l.length) :
    Calls Tryd.prog 54 #[u, .int .i64 i, .int .i64 ((i : Int) + 1)] w fun e w' => ∃ u', e = .returned u' ∧ k91.R 91 w' w0.heap.size ok u' (l.eraseIdx i) ∧ Below w0.heap.size w0 w' ∧ Kept w w' (fun k => some k = u.ownBlock) := by
  obtain ⟨g, c, rfl, hbg, hgl, hcells⟩ := Kd.R_form ho (by omega)
  have hcm := cap_le ho
  have hlc := (Kd.R_reads' ho).2.1
  have hinfo := info91
  obtain ⟨ti, hti, hsz⟩ : ∃ ti, Tryd.prog.info? 91 = some ti ∧ ti.size = 2 := by
    cases hq : Tryd.prog.info? 91 with
    | none => rw [hq] at hinfo; simp at hinfo
    | some z => rw [hq] at hinfo; simp at hinfo; exact ⟨z, rfl, hinfo.2.1⟩
  have HO := Aside0.mk ho
  have HB := Aside0.mk hB
  have HI := Aside0.mk hi
  have HC := Aside0.mk hlc
  have HG := Aside0.mk hbg
  have HT := Aside0.mk hti
  have HZ := Aside0.mk hsz
  have q1 : (i : Int) < (l.length : Int) := by omega
  have q2 : (i : Int) + 1 ≤ (l.length : Int) := by omega
  have q3 : (0 : Int) ≤ (i : Int) := by omega
  have q4 : (l.length : Int) ≤ (c : Int) := by omega
  have q5 : ¬ ((i : Int) = (i : Int) + 1) := by omega
  have q6 : ¬ (c = l.length - 1) := by omega
  have q7 : ¬ (c - (l.length - 1) = 0) := by omega
  have q8 : l.length - 1 < c := by omega
  have q9 : l.length - (l.length - 1) = 1 := by omega
  have q11 : i ≤ c := by omega
  have q12 : i + 1 ≤ l.length := by omega
  have q13 : i + 1 ≤ c := by omega
  have q14 : ((i : Int) + 1).toNat = i + 1 := by omega
  have q15 : l.length - 1 ≤ c := by omega
  have q16 : l.length - 1 ≤ l.length := by omega
  have q17 : (0 : Int) ≤ (i : Int) + 1 := by omega
  have q10 : ((l.length - 1 : Nat) : Int) ≤ (l.length : Int) := by omega
  clear hinfo hti hsz ho hB hcells
  have HO := Aside0.mk (Kd.R_drew HO.out)
  have HB := Aside0.mk (below_drew HB.out)
  by_cases hc1 : c = i + 1
  · subst hc1
    have hle : l.length = i + 1 := by omega
    obtain ⟨hrc, _⟩ := cut_R HO.out i (by omega) (Builtin.zeroCells (Value.agg #[.string ⟨#[]⟩, .int .i64 0]).cells (l.length - i)).toList (by rw [zero_len]; exact Nat.mul_le_mul_right _ (by omega))
    have he : l.take i = l.eraseIdx i := by rw [List.eraseIdx_eq_take_drop_succ, List.drop_eq_nil_of_le (by omega), List.append_nil]
    rw [he] at hrc
    obtain ⟨cur, hcur, hsize⟩ := row_size HO.out
    have hclear : ∀ ty k, (Builtin.clear_ #[75] ty #[.slice (some ⟨g, i * 2, none⟩) (l.length - i) k]).run Tryd.prog w.drew = .ok (.tuple #[]) (w.drew.setCells g (i * 2) (Builtin.zeroCells (Value.agg #[.string ⟨#[]⟩, .int .i64 0]).cells (l.length - i)).toList) := fun ty k =>
      run_clear_k w.drew 75 91 ty (Value.agg #[.string ⟨#[]⟩, .int .i64 0]) Tryd.underlying75 Tryd.zeroValue91 g (i * 2) (l.length - i) k (by omega) (zero_one _) (fun j' hj' => by
        rw [zero_len] at hj'
        rw [blk_cell hcur, Array.getElem?_eq_getElem (by omega)]
        rfl) (fun j' hj' => blk_frozen hcur _)
    have HB2 := Aside0.mk (below_cells HB.out HG.out (i * 2) (Builtin.zeroCells (Value.agg #[.string ⟨#[]⟩, .int .i64 0]).cells (l.length - i)).toList)
    have HK2 := Aside0.mk (show Kept w (w.drew.setCells g (i * 2) (Builtin.zeroCells (Value.agg #[.string ⟨#[]⟩, .int .i64 0]).cells (l.length - i)).toList) (fun k => some k = (Value.slice (some ⟨g, 0, none⟩) l.length (i + 1)).ownBlock) from by
      obtain ⟨s1, s2, s3, s4⟩ := setCells_same g (Builtin.zeroCells (Value.agg #[.string ⟨#[]⟩, .int .i64 0]).cells (l.length - i)).toList (i * 2) w.drew
      exact ⟨by rw [s4]; exact Nat.le_refl _, fun k hk hn => setCells_far _ _ k (fun e => hn (by rw [e]; rfl))⟩)
    have HR2 := Aside0.mk hrc
    clear hrc hcur hsize he
    have q18 : (i : Int) ≤ (i : Int) + 1 := by omega
    have q19 : i ≤ i + 1 := by omega
    have q20 : (i : Int) + 1 ≤ (i : Int) + 1 := by omega
    generalize (Builtin.zeroCells (Value.agg #[.string ⟨#[]⟩, .int .i64 0]).cells (l.length - i)).toList = zs at hclear HR2 HB2 HK2
    generalize w.drew.setCells g (i * 2) zs = W2 at hclear HR2 HB2 HK2
    clear hle
    go_enter Tryd.func54, Tryd.ntmps54
    go_wp2
    go_region
    go_wp2
    go_ret
    exact ⟨_, rfl, HR2.out, HB2.out, HK2.out⟩
  · go_enter Tryd.func54, Tryd.ntmps54
    go_wp2
    go_region_law (refine Kd.R_delete_step k91 (w0 := w0) w0.heap.size (by rfl) (.tmp 22) (.tmp 25) 75 91 rfl Tryd.underlying75 (by rw [HT.out]; exact congrArg some HZ.out) (g := g) (n := l.length) (c := c) (k := i) (m := l.length - (i + 1)) (c2 := c - (i + 1))  (A := some ⟨g, (i + 1) * 2, none⟩) (xs := l) (ok := ok) (by simp [Act.eval, Act.put]) (by simp [Act.eval, Act.put]) (by rw [if_neg hc1]; simp [Addr.add]; rfl) rfl HO.out HI.out HB.out HB.out.size ?_; intro w1 ho1 hb1 hg1; obtain ⟨W2, hclear, hR2, hB2, hK2⟩ := clear_last HI.out HC.out HG.out hb1 hg1 ho1; have HR2 := Aside0.mk hR2; have HB2 := Aside0.mk hB2; have HK2 := Aside0.mk hK2; clear ho1 hb1 hg1 hR2 hB2 hK2)
    go_wp2
    go_ret
    exact ⟨_, rfl, HR2.out, HB2.out, HK2.out⟩
end Go.Proofs.YtkmkppchhdkipaaDoor.HDelP
