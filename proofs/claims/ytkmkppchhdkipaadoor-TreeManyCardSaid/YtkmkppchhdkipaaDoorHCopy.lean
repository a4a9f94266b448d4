/- Laws of no program that the hand-made contracts lean on: copy over elements of any number of cells; append of zeros that grows; rows put together out of parts. -/
import Derived.Test.YtkmkppchhdkipaaDoorWMore
import Derived.Lib.AppendZeros
import Derived.Lib.Overlaps
import Derived.Laws.CopyOwn
import Derived.Laws.Externs
set_option linter.unusedSimpArgs false
set_option linter.unusedVariables false
namespace Go.Proofs.YtkmkppchhdkipaaDoor.HCopy
open Go.RowKit Go.Proofs.YtkmkppchhdkipaaDoorW.PrintWords Go.Proofs.YtkmkppchhdkipaaDoorW.PrintLast

theorem run_copy_k {P : Program} (w : World) (dT sT ty elem : TypeId) (g o dLen dCap : Nat) (a : Addr) (sLen sCap : Nat) (cur : Array Value) (t : TypeId) (cs : List Value) (k n : Nat)
    (hu : P.underlying dT = some (.slice elem)) (hs : (P.info? elem).map (·.size) = some k)
    (hg : w.heap[g]? = some (.cells cur t (0, 0))) (hn : n = Nat.min sLen dLen) (hlen : cs.length = n * k)
    (hsrc : ∀ j v, cs[j]? = some v → w.cell? (a.add j) = some v) (hfit : o + cs.length ≤ cur.size) (h1 : ∀ v ∈ cs, v.oneCell' = true) :
    (Builtin.copy_ #[dT, sT] ty #[.slice (some ⟨g, o, none⟩) dLen dCap, .slice (some a) sLen sCap]).run P w =
      .ok (goInt n) (w.setRow g (cur.toList.take o ++ cs ++ cur.toList.drop (o + cs.length)).toArray) := by
  have hl := run_loadCells_list (P := P) w a cs hsrc
  have hst := run_storeCells_at P g o t cs 0 cur w hg (by simpa using hfit) h1
  rw [hlen] at hl
  cases hq : P.info? elem with
  | none => simp [hq] at hs
  | some i =>
    have hi : i.size = k := by simpa [hq] using hs
    simp [Builtin.copy_, run_underlying hu, Builtin.lenOf, Builtin.firstCells, sizeOf, typeInfo, hq, hi, ← hn, hl, hst]

/-- The operation 'copy(d, s)' for the walk, where its run is known by an equation. -/
theorem wp_copy_run {P : Program} (w : World) {o : Oper} {a : Act} {K : Act → World → Prop} {Q : Exit → Act → World → Prop} (d s : Operand) (t t' : TypeId)
    (ho : o.op = .call { callee := .builtin .copy, args := #[d, s], argTypes := #[t, t'] }) (v u : Value) (hd : a.eval d = v) (hs : a.eval s = u) {v' : Value} {w' : World}
    (hr : (Builtin.copy_ #[t, t'] o.type #[v, u]).run P w = .ok v' w') (h : K (a.put o.dst v') w') : o.wp P a w K Q := by
  unfold Oper.wp execOp
  simp only [ho, resolve, invoke, builtin, Sem.run_bind, Sem.run_pure, Result.andThen_ok, List.map_toArray, List.map_cons, List.map_nil, hd, hs, hr]
  exact h
theorem wpList_copy_run {P : Program} (w : World) {ops : Array Oper} {rest : List Oper} {o : Oper} {a : Act} {Q : Exit → Act → World → Prop} (hgd : o.guard = none) (d s : Operand) (t t' : TypeId)
    (ho : o.op = .call { callee := .builtin .copy, args := #[d, s], argTypes := #[t, t'] }) (v u : Value) (hd : a.eval d = v) (hs : a.eval s = u) {v' : Value} {w' : World}
    (hr : (Builtin.copy_ #[t, t'] o.type #[v, u]).run P w = .ok v' w') (h : wpList P ops Q rest (a.put o.dst v') w') : wpList P ops Q (o :: rest) a w :=
  wpList_plain hgd fun _ hK => wp_copy_run w d s t t' ho v u hd hs hr (hK _ _ h)
theorem step_copy_run {P : Program} {ops : Array Oper} {o : Oper} {a : Act} {w : World} {K : Act → World → Prop} {Q : Exit → Act → World → Prop} {E : Prop}
    (hg : o.guard = none) (d x : Operand) (dT sT : TypeId) (hop : o.op = Op.call { callee := Callee.builtin Builtin.copy, args := #[d, x], argTypes := #[dT, sT] })
    (v u : Value) (hd : a.eval d = v) (hx : a.eval x = u) {v' : Value} {w' : World} (hr : (Builtin.copy_ #[dT, sT] o.type #[v, u]).run P w = .ok v' w') (hK : K (a.put o.dst v') w') :
    if Region.wanted o (yielded ops a.tmps) = true then Oper.wp P o a w K Q else E := by
  have hw : Region.wanted o (yielded ops a.tmps) = true := by simp [Region.wanted, hg]
  rw [if_pos hw]
  exact wp_copy_run w d x dT sT hop v u hd hx hr hK
theorem wpList_append_run {P : Program} (w : World) {ops : Array Oper} {rest : List Oper} {o : Oper} {a : Act} {Q : Exit → Act → World → Prop} (hgd : o.guard = none) (s x : Operand) (t tn : TypeId)
    (ho : o.op = .call { callee := .builtin .append, args := #[s, x], argTypes := #[t, tn] }) (vs vx : Value) (hs : a.eval s = vs) (hx : a.eval x = vx)
    (v' : Value) (w' : World) (hr : (Builtin.append_ #[t, tn] o.type #[vs, vx]).run P w = .ok v' w') (h : wpList P ops Q rest (a.put o.dst v') w') : wpList P ops Q (o :: rest) a w :=
  Lib.wpList_append_run w hgd s x t tn ho vs vx hs hx v' w' hr h

/-- append(s, make([]T, m)...) where there is no room: a new row. -/
theorem run_append_zeros_grow {P : Program} (w : World) (t ti ty e : TypeId) (i : TypeInfo) (z : Value) (size bytes : Nat) (ht : P.underlying t = some (.slice e)) {k : IntKind} (hti : P.underlying ti = some (.int k)) (hi : P.info? e = some i) (hz : i.zero = some z)
    (hsize : i.size = size) (hby : i.bytes = bytes) (hzs : z.cells.size = size) (hsz : 0 < size) (hb0 : 0 < bytes)
    (g : Nat) (n cap : Nat) (cur : Array Value) (hg : w.heap[g]? = some (.cells cur e (0, 0))) (hfit : n * size ≤ cur.size) (kx : IntKind) (m : Nat) (hm : 0 < m) (hcap : cap < n + m)
    (hbytes : (n + m) * bytes ≤ 140737488355328) :
    ∃ cap' : Nat, n + m ≤ cap' ∧ cap' ≤ maxLen ∧ (Builtin.append_ #[t, ti] ty #[.slice (some ⟨g, 0, none⟩) n cap, .int kx m]).run P w =
      .ok (.slice (some ⟨w.heap.size, 0, none⟩) (n + m) cap') (w.drew.alloc (.cells ((cur.toList.take (n * size)).toArray ++ Builtin.zeroCells z.cells m ++ Builtin.zeroCells z.cells (cap' - (n + m))) e)) := by
  subst hsize
  subst hby
  have hle : n + m ≤ 140737488355328 := Nat.le_trans (Nat.le_mul_of_pos_right _ hb0) hbytes
  have h63 : n + m ≤ maxLen := by simp only [maxLen]; omega
  have hw : IntKind.i64.wrap (m : Int) = m := by rw [IntKind.wrap_i64]; omega
  have hneg : ¬ ((m : Int) < 0) := by omega
  have hmb : m * i.bytes ≤ 140737488355328 := Nat.le_trans (Nat.mul_le_mul_right _ (Nat.le_add_left m n)) hbytes
  have hbig : ¬ (281474976710656 < (m : Int) * (i.bytes : Int)) := by
    rw [← Int.natCast_mul]
    omega
  have hsn : i.size ≠ 0 := by omega
  have hn : ¬ (n + m ≤ cap) := by omega
  have h63' : ¬ (9223372036854775807 < ((n : Int) + (m : Int))) := by omega
  have hfit2 := growslice_fits hcap hbytes
  have h48' : ¬ (281474976710656 < Builtin.nextslicecap (n + m) cap * i.bytes) := by omega
  have hmz : ¬ (m * i.size = 0) := Nat.mul_ne_zero (by omega) hsn
  have hfo : (Builtin.firstCells i.size n (.slice (some ⟨g, 0, none⟩) n cap)).run P w.drew = .ok (cur.toList.take (n * i.size)).toArray w.drew := by
    refine run_firstCells_some (P := P) w.drew i.size n _ n cap _ ?_ ?_
    · rw [List.length_take, Array.length_toList]; omega
    · intro j u hu
      have hj : j < n * i.size := by
        rcases Nat.lt_or_ge j (n * i.size) with h | h
        · exact h
        · rw [List.getElem?_eq_none (by rw [List.length_take, Array.length_toList]; omega)] at hu; cases hu
      rw [add_plain]
      have h2 := cell_of_row w g j cur e (0, 0) hg
      rw [List.getElem?_take_of_lt hj] at hu
      show w.drew.cell? _ = _
      exact h2.trans (by rw [← hu]; simp)
  refine ⟨grownCap w (n + m) cap e, grownCap_ge w (n + m) cap e, grownCap_le_maxLen w (n + m) cap e h63, ?_⟩
  simp [Builtin.append_, run_underlying ht, run_underlying hti, sizeOf, typeInfo, zeroValue, hi, hz, asInt, asIntOf, hw, hneg, hbig, hn, h63', h48', Question.forced, hfo, newRow, grownCap, hmz]

/-- Elements without rows inside are the same in every world. -/
theorem flat_move {α : Type} {d : Kd α} (hE : d.E = []) {w w1 : World} {base base1 : Nat} {ok ok1 : Nat → Prop} {x : α} {cs : List Value} (hb : base1 ≤ base) (h : d.M w base ok x cs) : d.M w1 base1 ok1 x cs := by
  have h1 := d.M_mono (ok' := fun _ => False) (fun k hk => by obtain ⟨_, _, _, q, hq, _⟩ := hk; rw [hE] at hq; simp at hq) (d.M_bound h)
  have h2 := d.M_move (w1 := w1) (fun _ hk => hk.elim) h1
  exact d.M_mono (fun _ hk => hk.elim) (d.M_lower hb h2)
theorem Reps.append {α : Type} {R : α → List Value → Prop} {sz : Nat} {ps qs : List α} {cs ds : List Value} (h : Reps R sz ps cs) (k : Reps R sz qs ds) : Reps R sz (ps ++ qs) (cs ++ ds) := by
  refine ⟨by rw [List.length_append, h.1, k.1, List.length_append, Nat.add_mul], fun j p hj => ?_⟩
  rcases Nat.lt_or_ge j ps.length with hl | hl
  · rw [List.getElem?_append_left hl] at hj
    have h1 : j * sz + sz ≤ cs.length := by rw [h.1, ← Nat.succ_mul]; exact Nat.mul_le_mul_right _ hl
    rw [List.drop_append_of_le_length (by omega), List.take_append_of_le_length (by rw [List.length_drop]; omega)]
    exact h.2 j p hj
  · rw [List.getElem?_append_right hl] at hj
    have h1 : cs.length ≤ j * sz := by rw [h.1]; exact Nat.mul_le_mul_right _ hl
    rw [List.drop_append, List.drop_eq_nil_of_le h1, List.nil_append, h.1, ← Nat.sub_mul]
    exact k.2 _ p hj
theorem Reps.take {α : Type} {R : α → List Value → Prop} {sz : Nat} {ps : List α} {cs : List Value} (h : Reps R sz ps cs) (i : Nat) (hi : i ≤ ps.length) : Reps R sz (ps.take i) (cs.take (i * sz)) := by
  have hc : i * sz ≤ cs.length := by rw [h.1]; exact Nat.mul_le_mul_right _ hi
  refine ⟨by rw [List.length_take, List.length_take, Nat.min_eq_left hi, Nat.min_eq_left hc], fun j p hj => ?_⟩
  have hji : j < i := by
    rcases Nat.lt_or_ge j i with h1 | h1
    · exact h1
    · rw [List.getElem?_eq_none (by rw [List.length_take]; omega)] at hj; cases hj
  rw [List.getElem?_take_of_lt hji] at hj
  have h1 : (j + 1) * sz ≤ i * sz := Nat.mul_le_mul_right _ hji
  rw [Nat.succ_mul] at h1
  rw [List.drop_take, List.take_take, Nat.min_eq_left (by omega)]
  exact h.2 j p hj
theorem Reps.drop {α : Type} {R : α → List Value → Prop} {sz : Nat} {ps : List α} {cs : List Value} (h : Reps R sz ps cs) (i : Nat) : Reps R sz (ps.drop i) (cs.drop (i * sz)) := by
  refine ⟨by rw [List.length_drop, List.length_drop, h.1, Nat.sub_mul], fun j p hj => ?_⟩
  rw [List.getElem?_drop] at hj
  rw [List.drop_drop, ← Nat.add_mul]
  exact h.2 _ p hj
/-- A row known by its block. -/
theorem row_R {α : Type} (d : Kd α) (hE : d.E = []) {e : Nat} {w w0 : World} {base base0 : Nat} {ok ok0 : Nat → Prop} {g n cap : Nat} {cur : Array Value} {inner : List Value} {l : List α}
    (hb : base ≤ base0) (hg : w.heap[g]? = some (.cells cur e (0, 0))) (hbg : base ≤ g) (hn : n = l.length) (hnc : n ≤ cap) (hcm : cap ≤ maxLen) (hsz : cur.size = cap * d.sz) (ht : cur.toList.take (n * d.sz) = inner) (hr : Reps (d.M w0 base0 ok0) d.sz l inner) (hok : ok g) :
    d.R e w base ok (.slice (some ⟨g, 0, none⟩) n cap) l := by
  subst hn
  refine ⟨fun k hk => ?_, inner, ⟨by rw [hr.1], .inr ⟨g, cap, cur, rfl, hbg, hg, hnc, hcm, hsz, ht⟩⟩, hr.imp_ fun p c h => flat_move hE hb h⟩
  have : g = k := by simpa [Value.ownBlock] using hk
  exact this ▸ hok
end Go.Proofs.YtkmkppchhdkipaaDoor.HCopy
