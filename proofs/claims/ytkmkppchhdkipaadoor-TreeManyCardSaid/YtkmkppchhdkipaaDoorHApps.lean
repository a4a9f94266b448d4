/- A region that builds two rows of one and appends each to a row of its own, in any order that the region may draw: law of no program. -/
import Derived.Test.YtkmkppchhdkipaaDoorWMore
import Derived.Great.BuildSlice
import Derived.Great.FillDense
set_option linter.unusedSimpArgs false
set_option linter.unusedVariables false
namespace Go.Proofs.YtkmkppchhdkipaaDoor.HApps
open Go.Lib Go.RowKit Go.Proofs.YtkmkppchhdkipaaDoorW.PrintWords Go.Proofs.YtkmkppchhdkipaaDoorW.PrintLast Go.Proofs.YtkmkppchhdkipaaDoorW.PrintMore
theorem ev_ne {a : Act} {n m : Tmp} {v : Value} (h : n ≠ m) : (a.put (some n) v).eval (.tmp m) = a.eval (.tmp m) := by
  unfold Act.put Act.eval
  simp only [Array.getD_eq_getD_getElem?, Array.getElem?_setIfInBounds, if_neg h]
theorem ev_eq {a : Act} {n : Tmp} {v : Value} (h : n < a.tmps.size) : (a.put (some n) v).eval (.tmp n) = v := by
  unfold Act.put Act.eval
  simp [Array.getD_eq_getD_getElem?, Array.getElem?_setIfInBounds, h]
theorem sz_put {a : Act} {n : Tmp} {v : Value} : (a.put (some n) v).tmps.size = a.tmps.size := by unfold Act.put; simp
theorem put_comm {a : Act} {n m : Tmp} {v u : Value} (h : n ≠ m) : (a.put (some n) v).put (some m) u = (a.put (some m) u).put (some n) v := by
  unfold Act.put
  simp only [Act.mk.injEq, and_true]
  apply Array.ext
  · simp
  · intro i h1 h2
    simp only [Array.getElem_setIfInBounds, Array.size_setIfInBounds] at h1 h2 ⊢
    by_cases e1 : n = i <;> by_cases e2 : m = i <;> simp_all
/-- Between the region's start and its end: all but the two rows' blocks stands. -/
structure Mid (W0 W : World) (v1 v2 : Value) : Prop where
  size : W0.heap.size ≤ W.heap.size
  keep : ∀ k, k < W0.heap.size → some k ≠ v1.ownBlock → some k ≠ v2.ownBlock → W.heap[k]? = W0.heap[k]?
theorem Mid.alloc {W0 W : World} {v1 v2 : Value} (h : Mid W0 W v1 v2) (o : Obj) : Mid W0 (W.alloc o) v1 v2 :=
  ⟨Nat.le_trans h.size (below_alloc (Below.refl _ _) o).size, fun k hk h1 h2 => ((below_alloc (Below.refl _ _) o).block k (Nat.lt_of_lt_of_le hk h.size)).trans (h.keep k hk h1 h2)⟩
theorem Mid.grown1 {W0 W W' : World} {v1 v2 : Value} (h : Mid W0 W v1 v2) (hg : W.grownBy W' v1.ownBlock) : Mid W0 W' v1 v2 :=
  ⟨Nat.le_trans h.size hg.size, fun k hk h1 h2 => (hg.block k (Nat.lt_of_lt_of_le hk h.size) h1).trans (h.keep k hk h1 h2)⟩
theorem Mid.grown2 {W0 W W' : World} {v1 v2 : Value} (h : Mid W0 W v1 v2) (hg : W.grownBy W' v2.ownBlock) : Mid W0 W' v1 v2 :=
  ⟨Nat.le_trans h.size hg.size, fun k hk h1 h2 => (hg.block k (Nat.lt_of_lt_of_le hk h.size) h2).trans (h.keep k hk h1 h2)⟩
theorem lit_reads {α : Type} {d : Kd α} {W : World} {b e : Nat} {x : α} {c : Value} (h : W.heap[b]? = some (.cells #[c] e (0, 0))) (hs : d.sz = 1) : ReadsRow (fun y cs => y = x ∧ cs = [c]) d.sz W (some ⟨b, 0, none⟩) 1 [x] := by
  refine ⟨rfl, by decide, fun _ => ⟨_, rfl, fun j p hj => ?_⟩⟩
  cases j with
  | succ j => simp at hj
  | zero =>
    simp only [List.getElem?_cons_zero, Option.some.injEq] at hj
    refine ⟨[c], by rw [hs]; rfl, ⟨hj.symm, rfl⟩, fun i u hu => ?_⟩
    cases i with
    | succ i => simp at hu
    | zero =>
      simp only [List.getElem?_cons_zero, Option.some.injEq] at hu
      subst hu
      have e : (⟨b, 0, none⟩ : Addr).add (0 * d.sz + 0) = ⟨b, 0, none⟩ := by simp [Addr.add]
      rw [e]
      exact blk_cell h 0
def Fin {α β : Type} (d1 : Kd α) (d2 : Kd β) (e1 e2 : Nat) (w0 W0 : World) (base : Nat) (v1 v2 : Value) (xs1 : List α) (xs2 : List β) (u1 u2 : Value) (W : World) : Prop :=
  d1.R e1 W base (fun k => some k = v1.ownBlock ∨ W0.heap.size ≤ k) u1 xs1 ∧ d2.R e2 W base (fun k => some k = v2.ownBlock ∨ W0.heap.size ≤ k) u2 xs2 ∧ Below base w0 W ∧ Mid W0 W v1 v2
theorem Mid.cell {W0 W : World} {v1 v2 : Value} (h : Mid W0 W v1 v2) {p : Addr} (hlt : p.block < W0.heap.size) (h1 : some p.block ≠ v1.ownBlock) (h2 : some p.block ≠ v2.ownBlock) : W.cell? p = W0.cell? p := by
  unfold World.cell?
  rw [h.keep _ hlt h1 h2]
theorem Mid.blk {W0 W : World} {v1 v2 : Value} (h : Mid W0 W v1 v2) {g : Nat} {o : Obj} (hg : W0.heap[g]? = some o) (h1 : some g ≠ v1.ownBlock) (h2 : some g ≠ v2.ownBlock) : W.heap[g]? = some o :=
  (h.keep g (Array.getElem?_eq_some_iff.1 hg).1 h1 h2).trans hg
section
variable {α β γ : Type} {d1 : Kd α} {d2 : Kd β} {d : Kd γ} {e1 e2 e : Nat} {w0 W0 W : World} {base b : Nat} {v1 v2 v : Value} {xs1 : List α} {xs2 : List β} {xs : List γ} {u1 u2 : Value} {ok : Nat → Prop}
theorem Fin.far (h : Fin d1 d2 e1 e2 w0 W0 base v1 v2 xs1 xs2 u1 u2 W) {k : Nat} (hk : k < W0.heap.size) (h1 : some k ≠ v1.ownBlock) (h2 : some k ≠ v2.ownBlock) : some k ≠ u1.ownBlock ∧ some k ≠ u2.ownBlock :=
  ⟨fun e => (h.1.1 k e.symm).elim h1 (fun hh => absurd hk (Nat.not_lt.2 hh)), fun e => (h.2.1.1 k e.symm).elim h2 (fun hh => absurd hk (Nat.not_lt.2 hh))⟩
theorem Fin.R (h : Fin d1 d2 e1 e2 w0 W0 base v1 v2 xs1 xs2 u1 u2 W) (hr : d.R e W0 b ok v xs) (hu : ∀ k, ok k → some k ≠ v1.ownBlock ∧ some k ≠ v2.ownBlock) : d.R e W b (fun k => ok k ∧ some k ≠ u1.ownBlock ∧ some k ≠ u2.ownBlock) v xs :=
  Kd.R_mono (Kd.R_step (Kd.R_bound hr) (fun k hk hlt => h.2.2.2.keep k hlt (hu k hk.1).1 (hu k hk.1).2)) (fun k hk => ⟨hk.1, h.far hk.2.2.1 (hu k hk.1).1 (hu k hk.1).2⟩)
theorem Fin.S (h : Fin d1 d2 e1 e2 w0 W0 base v1 v2 xs1 xs2 u1 u2 W) (hr : d.S e W0 b ok v xs) (hu : ∀ k, ok k → some k ≠ v1.ownBlock ∧ some k ≠ v2.ownBlock) : d.S e W b (fun k => ok k ∧ some k ≠ u1.ownBlock ∧ some k ≠ u2.ownBlock) v xs :=
  Kd.S_mono (Kd.S_step (Kd.S_bound hr) (fun k hk hlt => h.2.2.2.keep k hlt (hu k hk.1).1 (hu k hk.1).2)) (fun k hk => ⟨hk.1, h.far hk.2.2.1 (hu k hk.1).1 (hu k hk.1).2⟩)
theorem Fin.one (h : Fin d1 d2 e1 e2 w0 W0 base v1 v2 xs1 xs2 u1 u2 W) (ho : ∀ k, v1.ownBlock = some k → ok k) (hn : ∀ k, W0.heap.size ≤ k → ok k) : d1.R e1 W base ok u1 xs1 := Kd.R_mono h.1 (fun k hk => hk.elim (fun e => ho k e.symm) (hn k))
theorem Fin.two (h : Fin d1 d2 e1 e2 w0 W0 base v1 v2 xs1 xs2 u1 u2 W) (ho : ∀ k, v2.ownBlock = some k → ok k) (hn : ∀ k, W0.heap.size ≤ k → ok k) : d2.R e2 W base ok u2 xs2 := Kd.R_mono h.2.1 (fun k hk => hk.elim (fun e => ho k e.symm) (hn k))
end
theorem lit_run {P : Program} {a : Act} {o : Oper} {W : World} {t e : TypeId} {y : Tmp} {c z : Value} {by_ : Nat} (ho : o.op = .buildSlice t 1 #[(0, .tmp y)]) (hu : P.underlying t = some (.slice e)) (hi : (P.info? e).map (fun i => (i.zero, i.size, i.bytes)) = some (some z, 1, by_)) (hc : c.cells = #[c]) (h : a.eval (.tmp y) = c) :
    (execOp a.eval o).run P W = .ok (.value (.slice (some ⟨W.heap.size, 0, none⟩) 1 1)) (W.alloc (.cells #[c] e)) := by
  obtain ⟨ie, h1, h2⟩ := Option.map_eq_some_iff.1 hi
  simp only [Prod.mk.injEq] at h2
  obtain ⟨h3, h4, _⟩ := h2
  have hf : Instr.fill (fun i => some (i * ie.size, ie.size)) ((Array.range (1 * ie.size)).map (z.cells[· % z.cells.size]!)) ((#[(0, Operand.tmp y)] : Array (Nat × Operand)).map fun (i, x) => (i, a.eval x)).toList = some #[c] := by
    rw [h4]
    have hh := Go.Great.fill_whole (s := 1) (by decide) [c] ((Array.range (1 * 1)).map (z.cells[· % z.cells.size]!)) (fun v hv => by obtain rfl := List.mem_singleton.1 hv; rw [hc]; rfl) (by simp)
    simpa [hc, h] using hh
  unfold execOp
  simp only [ho, Sem.run_bind, run_buildSlice W t e 1 _ #[c] ie z hu h1 h3 (by rw [h4]; decide) (by rw [h4]; decide) hf, Result.andThen_ok, Sem.run_pure]
section
variable {P : Program} {ops : Array Oper} {md : Region.Mode} {Q : Exit → Act → World → Prop} {S : World → Prop} {ds : List Nat}
/-- One append: of a literal that lies in a block of its own. -/
theorem app_step {α : Type} (d : Kd α) {w0 W : World} {base b : Nat} {o : Oper} {a : Act} {Kc : Act → World → Prop} {N s n : Tmp} {t e : TypeId} {z : Value} {bytes : Nat} {ok : Nat → Prop} {v : Value} {xs : List α} {x : α} {c : Value}
    (hg : o.guard = none) (hd : o.dst = some N) (ho : o.op = .call { callee := .builtin .append, args := #[.tmp s, .tmp n], argTypes := #[t, t] })
    (ht : P.underlying t = some (.slice e)) (hinfo : (P.info? e).map (fun i => (i.zero, i.size, i.bytes)) = some (some z, d.sz, bytes)) (hz : z.cells.size = d.sz) (hs1 : d.sz = 1) (hb0 : 0 < bytes)
    (hM : ∀ W, d.M W base (fun _ => False) x [c]) (hs : a.eval (.tmp s) = v) (hx : a.eval (.tmp n) = .slice (some ⟨b, 0, none⟩) 1 1) (hl : W.heap[b]? = some (.cells #[c] e (0, 0)))
    (HO : d.R e W base ok v xs) (hfresh : ∀ k, W.heap.size ≤ k → ok k) (HB : Below base w0 W) (hbase : base ≤ W.heap.size) (hlen : (xs.length + 1) * bytes ≤ 140737488355328)
    (h : ∀ v1 w1, d.R e w1 base ok v1 (xs ++ [x]) → Below base w0 w1 → W.grownBy w1 v.ownBlock → (v1.ownBlock = v.ownBlock ∨ ∃ b, v1.ownBlock = some b ∧ W.heap.size ≤ b) → Kc (a.put (some N) v1) w1) :
    if Region.wanted o (yielded ops a.tmps) = true then Oper.wp P o a W Kc Q else Kc (a.put (some N) undef) W := by
  have hw : Region.wanted o (yielded ops a.tmps) = true := by unfold Region.wanted; rw [hg]
  rw [← hd] at h ⊢
  exact Kd.R_append_rows_step d base hw (.tmp s) (.tmp n) t e z bytes ho ht hinfo hz (by omega) hb0 v xs [x] (some ⟨b, 0, none⟩) 1 1 ok (fun _ => False) hs hx HO (lit_reads hl hs1) (fun y cs hy => by rw [hy.1, hy.2]; exact hM W) (fun _ hk => hk.elim) hfresh HB hbase hlen h
theorem two_apps {α β : Type} (d1 : Kd α) (d2 : Kd β) {w0 W0 : World} {base : Nat} (i1 j1 i2 j2 : Nat) {b1 p1 b2 p2 : Oper} (N1 M1 N2 M2 s1 s2 y1 y2 : Tmp) {l : Array Bool} {a : Act} {fuel : Nat} (l1 l2 l1j l12 l1j2 L : Array Bool)
    {t1 e1 t2 e2 : TypeId} {z1 z2 : Value} {bytes1 bytes2 : Nat} {v1 v2 : Value} {xs1 : List α} {xs2 : List β} {x1 : α} {x2 : β} {c1 c2 : Value} {ok1 ok2 : Nat → Prop}
    (h1 : ops[i1]? = some b1) (g1 : ops[j1]? = some p1) (h2 : ops[i2]? = some b2) (g2 : ops[j2]? = some p2)
    (hd1 : b1.dst = some N1) (gd1 : p1.dst = some M1) (hd2 : b2.dst = some N2) (gd2 : p2.dst = some M2) (hg1 : b1.guard = none) (gg1 : p1.guard = none) (hg2 : b2.guard = none) (gg2 : p2.guard = none)
    (r0 : (Region.ready md ops l == [i1, i2] && l.setIfInBounds i1 true == l1 && l.setIfInBounds i2 true == l2) = true)
    (r1 : (Region.ready md ops l1 == [j1, i2] && l1.setIfInBounds j1 true == l1j && l1.setIfInBounds i2 true == l12) = true)
    (r2 : (Region.ready md ops l2 == [i1] && l2.setIfInBounds i1 true == l12) = true)
    (r3 : (Region.ready md ops l1j == [i2] && l1j.setIfInBounds i2 true == l1j2) = true)
    (r4 : (Region.ready md ops l12 == [j1] && l12.setIfInBounds j1 true == l1j2) = true)
    (r5 : (Region.ready md ops l1j2 == [j2] && l1j2.setIfInBounds j2 true == L) = true)
    (nd : i1 ∉ ds ∧ j1 ∉ ds ∧ i2 ∉ ds ∧ j2 ∉ ds)
    (hp1 : p1.op = .call { callee := .builtin .append, args := #[.tmp s1, .tmp N1], argTypes := #[t1, t1] }) (hp2 : p2.op = .call { callee := .builtin .append, args := #[.tmp s2, .tmp N2], argTypes := #[t2, t2] })
    (hb1 : ∀ a' : Act, a'.eval (.tmp y1) = c1 → ∀ W, (execOp a'.eval b1).run P W = .ok (.value (.slice (some ⟨W.heap.size, 0, none⟩) 1 1)) (W.alloc (.cells #[c1] e1)))
    (hb2 : ∀ a' : Act, a'.eval (.tmp y2) = c2 → ∀ W, (execOp a'.eval b2).run P W = .ok (.value (.slice (some ⟨W.heap.size, 0, none⟩) 1 1)) (W.alloc (.cells #[c2] e2)))
    (hy1 : a.eval (.tmp y1) = c1) (hy2 : a.eval (.tmp y2) = c2) (hs1 : a.eval (.tmp s1) = v1) (hs2 : a.eval (.tmp s2) = v2)
    (hne : N1 < a.tmps.size ∧ N2 < a.tmps.size ∧ N1 ≠ y2 ∧ N1 ≠ s1 ∧ N1 ≠ s2 ∧ N1 ≠ N2 ∧ N1 ≠ M1 ∧ N2 ≠ y1 ∧ N2 ≠ s1 ∧ N2 ≠ s2 ∧ N2 ≠ M1 ∧ M1 ≠ y2 ∧ M1 ≠ s2)
    (ht1 : P.underlying t1 = some (.slice e1)) (ht2 : P.underlying t2 = some (.slice e2)) (hi1 : (P.info? e1).map (fun i => (i.zero, i.size, i.bytes)) = some (some z1, d1.sz, bytes1)) (hi2 : (P.info? e2).map (fun i => (i.zero, i.size, i.bytes)) = some (some z2, d2.sz, bytes2))
    (hz1 : z1.cells.size = d1.sz) (hz2 : z2.cells.size = d2.sz) (hsz : d1.sz = 1 ∧ d2.sz = 1 ∧ 0 < bytes1 ∧ 0 < bytes2) (hE : d1.E = [] ∧ d2.E = [] ∧ e1 ≠ e2)
    (hM1 : ∀ W, d1.M W base (fun _ => False) x1 [c1]) (hM2 : ∀ W, d2.M W base (fun _ => False) x2 [c2])
    (HO1 : d1.R e1 W0 base ok1 v1 xs1) (HO2 : d2.R e2 W0 base ok2 v2 xs2) (HB : Below base w0 W0) (hbase : base ≤ W0.heap.size) (hl1 : (xs1.length + 1) * bytes1 ≤ 140737488355328) (hl2 : (xs2.length + 1) * bytes2 ≤ 140737488355328)
    (hS : ∀ W, Mid W0 W v1 v2 → S W)
    (hK : ∀ k1 k2 u1 u2 W, Fin d1 d2 e1 e2 w0 W0 base v1 v2 (xs1 ++ [x1]) (xs2 ++ [x2]) u1 u2 W → S W → wpAnyLast P md ops Q S ds fuel L ((((a.put (some N1) k1).put (some M1) u1).put (some N2) k2).put (some M2) u2) W) :
    wpAnyLast P md ops Q S ds (fuel + 1 + 1 + 1 + 1) l a W0 := by
  obtain ⟨n1, n2, n3, n4⟩ := nd
  obtain ⟨q1, q2, q3, q4, q5, q6, q7, q8, q9, q10, q11, q12, q13⟩ := hne
  obtain ⟨z11, z12, z13, z14⟩ := hsz
  obtain ⟨E1, E2, E3⟩ := hE
  have wt : ∀ {o : Oper} {tm : Array Value}, o.guard = none → Region.wanted o (yielded ops tm) = true := fun {o tm} hg => by unfold Region.wanted; rw [hg]
  have M0 : Mid W0 W0 v1 v2 := ⟨Nat.le_refl _, fun _ _ _ _ => rfl⟩
  have R1 : d1.R e1 W0 base (fun k => some k = v1.ownBlock ∨ W0.heap.size ≤ k) v1 xs1 := Kd.R_mono (Kd.R_tight E1 HO1) (fun k hk => .inl hk)
  have R2 : d2.R e2 W0 base (fun k => some k = v2.ownBlock ∨ W0.heap.size ≤ k) v2 xs2 := Kd.R_mono (Kd.R_tight E2 HO2) (fun k hk => .inl hk)
  -- the second append, behind all else
  have last : ∀ (k1 k2 : Value) (b : Nat) (u1 : Value) (W : World), k2 = .slice (some ⟨b, 0, none⟩) 1 1 → W.heap[b]? = some (.cells #[c2] e2 (0, 0)) → d1.R e1 W base (fun k => some k = v1.ownBlock ∨ W0.heap.size ≤ k) u1 (xs1 ++ [x1]) → d2.R e2 W base (fun k => some k = v2.ownBlock ∨ W0.heap.size ≤ k) v2 xs2 → Below base w0 W → Mid W0 W v1 v2 →
      wpAnyLast P md ops Q S ds (fuel + 1) l1j2 (((a.put (some N1) k1).put (some M1) u1).put (some N2) k2) W := by
    intro k1 k2 b u1 W hk2 hb hr1 hr2 HB2 HM2
    refine one_ (i := j2) (N := some M2) L g2 gd2 r5 n4 (fun K hKK => ?_)
    refine app_step d2 (b := b) gg2 gd2 hp2 ht2 hi2 hz2 z12 z14 hM2 (v := v2) ?_ ?_ hb hr2 (fun k hk => .inr (Nat.le_trans HM2.size hk)) HB2 (Nat.le_trans hbase HM2.size) hl2 (fun u2 w2 ho hb2 hg hat => ?_)
    · rw [ev_ne q10, ev_ne q13, ev_ne q5, hs2]
    · rw [ev_eq (by rw [sz_put, sz_put]; exact q2), hk2]
    · have HM3 := HM2.grown2 hg
      exact hKK.out _ _ (hS _ HM3) (fun hh => hK _ _ _ _ _ ⟨Kd.R_over' hr1 (Kd.R_typed hr2) (fun q hq => by rw [E1] at hq; simp at hq; rw [hq]; exact E3) hg, ho, hb2, HM3⟩ hh)
  -- the first append, behind both builds
  have both : ∀ (k1 k2 : Value) (b b' : Nat) (W : World), k1 = .slice (some ⟨b, 0, none⟩) 1 1 → k2 = .slice (some ⟨b', 0, none⟩) 1 1 → W.heap[b]? = some (.cells #[c1] e1 (0, 0)) → W.heap[b']? = some (.cells #[c2] e2 (0, 0)) → d1.R e1 W base (fun k => some k = v1.ownBlock ∨ W0.heap.size ≤ k) v1 xs1 → d2.R e2 W base (fun k => some k = v2.ownBlock ∨ W0.heap.size ≤ k) v2 xs2 → Below base w0 W → Mid W0 W v1 v2 →
      wpAnyLast P md ops Q S ds (fuel + 1 + 1) l12 ((a.put (some N1) k1).put (some N2) k2) W := by
    intro k1 k2 b b' W hk1 hk2 hb hb' hr1 hr2 HB2 HM2
    refine one_ (i := j1) (N := some M1) l1j2 g1 gd1 r4 n2 (fun K hKK => ?_)
    refine app_step d1 (b := b) gg1 gd1 hp1 ht1 hi1 hz1 z11 z13 hM1 (v := v1) ?_ ?_ hb hr1 (fun k hk => .inr (Nat.le_trans HM2.size hk)) HB2 (Nat.le_trans hbase HM2.size) hl1 (fun u1 w2 ho hb2 hg hat => ?_)
    · rw [ev_ne q9, ev_ne q4, hs1]
    · rw [ev_ne (Ne.symm q6), ev_eq q1, hk1]
    · have HM3 := HM2.grown1 hg
      have ne1 : some b' ≠ v1.ownBlock := fun e => by
        obtain ⟨cells, hc⟩ := Kd.R_typed hr1 b' e.symm
        rw [hb'] at hc
        simp only [Option.some.injEq, Obj.cells.injEq] at hc
        exact E3 hc.2.1.symm
      refine hKK.out _ _ (hS _ HM3) (fun hh => norm_ (a' := ((a.put (some N1) k1).put (some M1) u1).put (some N2) k2) (put_comm q11) (last k1 k2 b' u1 w2 hk2 (blk_grown hb' hg ne1) ho (Kd.R_over' hr2 (Kd.R_typed hr1) (fun q hq => by rw [E2] at hq; simp at hq; rw [hq]; exact Ne.symm E3) hg) hb2 HM3))
  have al : ∀ {W : World} (o : Obj), Below W.heap.size W (W.alloc o) := fun {W} o => below_alloc (Below.refl _ _) o
  refine two_ (i := i1) (j := i2) (Ni := some N1) (Nj := some N2) l1 l2 h1 h2 hd1 hd2 r0 n1 n3 (fun K hKK => ?_) (fun K hKK => ?_)
  · refine value_ (wt hg1) hd1 (hb1 a hy1 W0) ?_
    have HM1 := M0.alloc (.cells #[c1] e1)
    have hL1 := heap_alloc_new W0 (.cells #[c1] e1)
    have R1' := Kd.R_below R1 (al (.cells #[c1] e1))
    have R2' := Kd.R_below R2 (al (.cells #[c1] e1))
    have HB1 : Below base w0 (W0.alloc (.cells #[c1] e1)) := HB.trans ((al _).mono hbase)
    generalize W0.alloc (.cells #[c1] e1) = W1 at *
    refine hKK.out _ _ (hS _ HM1) (fun _ => ?_)
    refine two_ (i := j1) (j := i2) (Ni := some M1) (Nj := some N2) l1j l12 g1 h2 gd1 hd2 r1 n2 n3 (fun K2 hK2 => ?_) (fun K2 hK2 => ?_)
    · refine app_step d1 (b := W0.heap.size) gg1 gd1 hp1 ht1 hi1 hz1 z11 z13 hM1 (v := v1) ?_ ?_ hL1 R1' (fun k hk => .inr (Nat.le_trans HM1.size hk)) HB1 (Nat.le_trans hbase HM1.size) hl1 (fun u1 w2 ho hB2 hg hat => ?_)
      · rw [ev_ne q4, hs1]
      · rw [ev_eq q1]
      · have HM2 := HM1.grown1 hg
        have R2'' := Kd.R_over' R2' (Kd.R_typed R1') (fun q hq => by rw [E2] at hq; simp at hq; rw [hq]; exact Ne.symm E3) hg
        refine hK2.out _ _ (hS _ HM2) (fun _ => ?_)
        refine one_ (i := i2) (N := some N2) l1j2 h2 hd2 r3 n3 (fun K3 hK3 => ?_)
        refine value_ (wt hg2) hd2 (hb2 _ (by rw [ev_ne q12, ev_ne q3, hy2]) w2) ?_
        exact hK3.out _ _ (hS _ (HM2.alloc _)) (fun _ => last _ _ w2.heap.size u1 _ rfl (heap_alloc_new w2 _) (Kd.R_below ho (al _)) (Kd.R_below R2'' (al _)) (hB2.trans ((al _).mono (Nat.le_trans hbase HM2.size))) (HM2.alloc _))
    · refine value_ (wt hg2) hd2 (hb2 _ (by rw [ev_ne q3, hy2]) W1) ?_
      exact hK2.out _ _ (hS _ (HM1.alloc _)) (fun _ => both _ _ W0.heap.size W1.heap.size _ rfl rfl (blk_below hL1 (al _)) (heap_alloc_new W1 _) (Kd.R_below R1' (al _)) (Kd.R_below R2' (al _)) (HB1.trans ((al _).mono (Nat.le_trans hbase HM1.size))) (HM1.alloc _))
  · refine value_ (wt hg2) hd2 (hb2 a hy2 W0) ?_
    have HM1 := M0.alloc (.cells #[c2] e2)
    have hL1 := heap_alloc_new W0 (.cells #[c2] e2)
    have R1' := Kd.R_below R1 (al (.cells #[c2] e2))
    have R2' := Kd.R_below R2 (al (.cells #[c2] e2))
    have HB1 : Below base w0 (W0.alloc (.cells #[c2] e2)) := HB.trans ((al _).mono hbase)
    generalize W0.alloc (.cells #[c2] e2) = W1 at *
    refine hKK.out _ _ (hS _ HM1) (fun _ => ?_)
    refine one_ (i := i1) (N := some N1) l12 h1 hd1 r2 n1 (fun K3 hK3 => ?_)
    refine value_ (wt hg1) hd1 (hb1 _ (by rw [ev_ne q8, hy1]) W1) ?_
    exact hK3.out _ _ (hS _ (HM1.alloc _)) (fun _ => norm_ (a' := (a.put (some N1) _).put (some N2) _) (put_comm (Ne.symm q6)) (both _ _ W1.heap.size W0.heap.size _ rfl rfl (heap_alloc_new W1 _) (blk_below hL1 (al _)) (Kd.R_below R1' (al _)) (Kd.R_below R2' (al _)) (HB1.trans ((al _).mono (Nat.le_trans hbase HM1.size))) (HM1.alloc _)))
/-- The same, where one operation more, that yields in every world, comes up behind the first append. -/
theorem two_appsX {α β : Type} (d1 : Kd α) (d2 : Kd β) {w0 W0 : World} {base : Nat} (i1 j1 i2 j2 ix : Nat) {b1 p1 b2 p2 ox : Oper} (N1 M1 N2 M2 Nx s1 s2 y1 y2 yx : Tmp) (vx : Value) {cx : Value} {l : Array Bool} {a : Act} {fuel : Nat} (l1 l2 l1j l12 l1j2 l1jx l1j2x L : Array Bool)
    {t1 e1 t2 e2 : TypeId} {z1 z2 : Value} {bytes1 bytes2 : Nat} {v1 v2 : Value} {xs1 : List α} {xs2 : List β} {x1 : α} {x2 : β} {c1 c2 : Value} {ok1 ok2 : Nat → Prop}
    (h1 : ops[i1]? = some b1) (g1 : ops[j1]? = some p1) (h2 : ops[i2]? = some b2) (g2 : ops[j2]? = some p2) (hx : ops[ix]? = some ox) (hdx : ox.dst = some Nx) (hgx : ox.guard = none)
    (hX : ∀ a' : Act, a'.eval (.tmp yx) = cx → ∀ W, (execOp a'.eval ox).run P W = .ok (.value vx) W) (hyx : a.eval (.tmp yx) = cx) (hQ : ∀ c a w, Q (.panic c) (a.put ox.dst vx) w → Q (.panic c) a w)
    (rx1 : anyB md ops l1j l1jx ix = true) (rx2 : anyB md ops l1j2 l1j2x ix = true) (hnx : N1 ≠ yx ∧ N2 ≠ yx ∧ M1 ≠ yx ∧ Nx ≠ y2 ∧ Nx ≠ s2 ∧ Nx ≠ N2)
    (hd1 : b1.dst = some N1) (gd1 : p1.dst = some M1) (hd2 : b2.dst = some N2) (gd2 : p2.dst = some M2) (hg1 : b1.guard = none) (gg1 : p1.guard = none) (hg2 : b2.guard = none) (gg2 : p2.guard = none)
    (r0 : (Region.ready md ops l == [i1, i2] && l.setIfInBounds i1 true == l1 && l.setIfInBounds i2 true == l2) = true)
    (r1 : (Region.ready md ops l1 == [j1, i2] && l1.setIfInBounds j1 true == l1j && l1.setIfInBounds i2 true == l12) = true)
    (r2 : (Region.ready md ops l2 == [i1] && l2.setIfInBounds i1 true == l12) = true)
    (r3 : (Region.ready md ops l1jx == [i2] && l1jx.setIfInBounds i2 true == l1j2x) = true)
    (r4 : (Region.ready md ops l12 == [j1] && l12.setIfInBounds j1 true == l1j2) = true)
    (r5 : (Region.ready md ops l1j2x == [j2] && l1j2x.setIfInBounds j2 true == L) = true)
    (nd : i1 ∉ ds ∧ j1 ∉ ds ∧ i2 ∉ ds ∧ j2 ∉ ds)
    (hp1 : p1.op = .call { callee := .builtin .append, args := #[.tmp s1, .tmp N1], argTypes := #[t1, t1] }) (hp2 : p2.op = .call { callee := .builtin .append, args := #[.tmp s2, .tmp N2], argTypes := #[t2, t2] })
    (hb1 : ∀ a' : Act, a'.eval (.tmp y1) = c1 → ∀ W, (execOp a'.eval b1).run P W = .ok (.value (.slice (some ⟨W.heap.size, 0, none⟩) 1 1)) (W.alloc (.cells #[c1] e1)))
    (hb2 : ∀ a' : Act, a'.eval (.tmp y2) = c2 → ∀ W, (execOp a'.eval b2).run P W = .ok (.value (.slice (some ⟨W.heap.size, 0, none⟩) 1 1)) (W.alloc (.cells #[c2] e2)))
    (hy1 : a.eval (.tmp y1) = c1) (hy2 : a.eval (.tmp y2) = c2) (hs1 : a.eval (.tmp s1) = v1) (hs2 : a.eval (.tmp s2) = v2)
    (hne : N1 < a.tmps.size ∧ N2 < a.tmps.size ∧ N1 ≠ y2 ∧ N1 ≠ s1 ∧ N1 ≠ s2 ∧ N1 ≠ N2 ∧ N1 ≠ M1 ∧ N2 ≠ y1 ∧ N2 ≠ s1 ∧ N2 ≠ s2 ∧ N2 ≠ M1 ∧ M1 ≠ y2 ∧ M1 ≠ s2)
    (ht1 : P.underlying t1 = some (.slice e1)) (ht2 : P.underlying t2 = some (.slice e2)) (hi1 : (P.info? e1).map (fun i => (i.zero, i.size, i.bytes)) = some (some z1, d1.sz, bytes1)) (hi2 : (P.info? e2).map (fun i => (i.zero, i.size, i.bytes)) = some (some z2, d2.sz, bytes2))
    (hz1 : z1.cells.size = d1.sz) (hz2 : z2.cells.size = d2.sz) (hsz : d1.sz = 1 ∧ d2.sz = 1 ∧ 0 < bytes1 ∧ 0 < bytes2) (hE : d1.E = [] ∧ d2.E = [] ∧ e1 ≠ e2)
    (hM1 : ∀ W, d1.M W base (fun _ => False) x1 [c1]) (hM2 : ∀ W, d2.M W base (fun _ => False) x2 [c2])
    (HO1 : d1.R e1 W0 base ok1 v1 xs1) (HO2 : d2.R e2 W0 base ok2 v2 xs2) (HB : Below base w0 W0) (hbase : base ≤ W0.heap.size) (hl1 : (xs1.length + 1) * bytes1 ≤ 140737488355328) (hl2 : (xs2.length + 1) * bytes2 ≤ 140737488355328)
    (hS : ∀ W, Mid W0 W v1 v2 → S W)
    (hK : ∀ k1 k2 u1 u2 W, Fin d1 d2 e1 e2 w0 W0 base v1 v2 (xs1 ++ [x1]) (xs2 ++ [x2]) u1 u2 W → S W → wpAnyLast P md ops Q S ds fuel L (((((a.put (some N1) k1).put (some M1) u1).put (some Nx) vx).put (some N2) k2).put (some M2) u2) W) :
    wpAnyLast P md ops Q S ds (fuel + 1 + 1 + 1 + 1 + 1) l a W0 := by
  obtain ⟨X1, X2, X3, X4, X5, X6⟩ := hnx
  obtain ⟨n1, n2, n3, n4⟩ := nd
  obtain ⟨q1, q2, q3, q4, q5, q6, q7, q8, q9, q10, q11, q12, q13⟩ := hne
  obtain ⟨z11, z12, z13, z14⟩ := hsz
  obtain ⟨E1, E2, E3⟩ := hE
  have wt : ∀ {o : Oper} {tm : Array Value}, o.guard = none → Region.wanted o (yielded ops tm) = true := fun {o tm} hg => by unfold Region.wanted; rw [hg]
  have M0 : Mid W0 W0 v1 v2 := ⟨Nat.le_refl _, fun _ _ _ _ => rfl⟩
  have R1 : d1.R e1 W0 base (fun k => some k = v1.ownBlock ∨ W0.heap.size ≤ k) v1 xs1 := Kd.R_mono (Kd.R_tight E1 HO1) (fun k hk => .inl hk)
  have R2 : d2.R e2 W0 base (fun k => some k = v2.ownBlock ∨ W0.heap.size ≤ k) v2 xs2 := Kd.R_mono (Kd.R_tight E2 HO2) (fun k hk => .inl hk)
  -- the second append, behind all else
  have last : ∀ (k1 k2 : Value) (b : Nat) (u1 : Value) (W : World), k2 = .slice (some ⟨b, 0, none⟩) 1 1 → W.heap[b]? = some (.cells #[c2] e2 (0, 0)) → d1.R e1 W base (fun k => some k = v1.ownBlock ∨ W0.heap.size ≤ k) u1 (xs1 ++ [x1]) → d2.R e2 W base (fun k => some k = v2.ownBlock ∨ W0.heap.size ≤ k) v2 xs2 → Below base w0 W → Mid W0 W v1 v2 →
      wpAnyLast P md ops Q S ds (fuel + 1) l1j2x ((((a.put (some N1) k1).put (some M1) u1).put (some Nx) vx).put (some N2) k2) W := by
    intro k1 k2 b u1 W hk2 hb hr1 hr2 HB2 HM2
    refine one_ (i := j2) (N := some M2) L g2 gd2 r5 n4 (fun K hKK => ?_)
    refine app_step d2 (b := b) gg2 gd2 hp2 ht2 hi2 hz2 z12 z14 hM2 (v := v2) ?_ ?_ hb hr2 (fun k hk => .inr (Nat.le_trans HM2.size hk)) HB2 (Nat.le_trans hbase HM2.size) hl2 (fun u2 w2 ho hb2 hg hat => ?_)
    · rw [ev_ne q10, ev_ne X5, ev_ne q13, ev_ne q5, hs2]
    · rw [ev_eq (by rw [sz_put, sz_put, sz_put]; exact q2), hk2]
    · have HM3 := HM2.grown2 hg
      exact hKK.out _ _ (hS _ HM3) (fun hh => hK _ _ _ _ _ ⟨Kd.R_over' hr1 (Kd.R_typed hr2) (fun q hq => by rw [E1] at hq; simp at hq; rw [hq]; exact E3) hg, ho, hb2, HM3⟩ hh)
  -- the first append, behind both builds
  have both : ∀ (k1 k2 : Value) (b b' : Nat) (W : World), k1 = .slice (some ⟨b, 0, none⟩) 1 1 → k2 = .slice (some ⟨b', 0, none⟩) 1 1 → W.heap[b]? = some (.cells #[c1] e1 (0, 0)) → W.heap[b']? = some (.cells #[c2] e2 (0, 0)) → d1.R e1 W base (fun k => some k = v1.ownBlock ∨ W0.heap.size ≤ k) v1 xs1 → d2.R e2 W base (fun k => some k = v2.ownBlock ∨ W0.heap.size ≤ k) v2 xs2 → Below base w0 W → Mid W0 W v1 v2 →
      wpAnyLast P md ops Q S ds (fuel + 1 + 1 + 1) l12 ((a.put (some N1) k1).put (some N2) k2) W := by
    intro k1 k2 b b' W hk1 hk2 hb hb' hr1 hr2 HB2 HM2
    refine one_ (i := j1) (N := some M1) l1j2 g1 gd1 r4 n2 (fun K hKK => ?_)
    refine app_step d1 (b := b) gg1 gd1 hp1 ht1 hi1 hz1 z11 z13 hM1 (v := v1) ?_ ?_ hb hr1 (fun k hk => .inr (Nat.le_trans HM2.size hk)) HB2 (Nat.le_trans hbase HM2.size) hl1 (fun u1 w2 ho hb2 hg hat => ?_)
    · rw [ev_ne q9, ev_ne q4, hs1]
    · rw [ev_ne (Ne.symm q6), ev_eq q1, hk1]
    · have HM3 := HM2.grown1 hg
      have ne1 : some b' ≠ v1.ownBlock := fun e => by
        obtain ⟨cells, hc⟩ := Kd.R_typed hr1 b' e.symm
        rw [hb'] at hc
        simp only [Option.some.injEq, Obj.cells.injEq] at hc
        exact E3 hc.2.1.symm
      refine hKK.out _ _ (hS _ HM3) (fun hh => pure_ (i := ix) (N := some Nx) l1j2x hx hdx rx2 hQ (Or.inl ⟨wt hgx, hX _ (by rw [ev_ne X3, ev_ne X2, ev_ne X1, hyx])⟩) rfl (norm_ (a' := (((a.put (some N1) k1).put (some M1) u1).put (some Nx) vx).put (some N2) k2) (by rw [put_comm q11, put_comm (Ne.symm X6)]) (last k1 k2 b' u1 w2 hk2 (blk_grown hb' hg ne1) ho (Kd.R_over' hr2 (Kd.R_typed hr1) (fun q hq => by rw [E2] at hq; simp at hq; rw [hq]; exact Ne.symm E3) hg) hb2 HM3)))
  have al : ∀ {W : World} (o : Obj), Below W.heap.size W (W.alloc o) := fun {W} o => below_alloc (Below.refl _ _) o
  refine two_ (i := i1) (j := i2) (Ni := some N1) (Nj := some N2) l1 l2 h1 h2 hd1 hd2 r0 n1 n3 (fun K hKK => ?_) (fun K hKK => ?_)
  · refine value_ (wt hg1) hd1 (hb1 a hy1 W0) ?_
    have HM1 := M0.alloc (.cells #[c1] e1)
    have hL1 := heap_alloc_new W0 (.cells #[c1] e1)
    have R1' := Kd.R_below R1 (al (.cells #[c1] e1))
    have R2' := Kd.R_below R2 (al (.cells #[c1] e1))
    have HB1 : Below base w0 (W0.alloc (.cells #[c1] e1)) := HB.trans ((al _).mono hbase)
    generalize W0.alloc (.cells #[c1] e1) = W1 at *
    refine hKK.out _ _ (hS _ HM1) (fun _ => ?_)
    refine two_ (i := j1) (j := i2) (Ni := some M1) (Nj := some N2) l1j l12 g1 h2 gd1 hd2 r1 n2 n3 (fun K2 hK2 => ?_) (fun K2 hK2 => ?_)
    · refine app_step d1 (b := W0.heap.size) gg1 gd1 hp1 ht1 hi1 hz1 z11 z13 hM1 (v := v1) ?_ ?_ hL1 R1' (fun k hk => .inr (Nat.le_trans HM1.size hk)) HB1 (Nat.le_trans hbase HM1.size) hl1 (fun u1 w2 ho hB2 hg hat => ?_)
      · rw [ev_ne q4, hs1]
      · rw [ev_eq q1]
      · have HM2 := HM1.grown1 hg
        have R2'' := Kd.R_over' R2' (Kd.R_typed R1') (fun q hq => by rw [E2] at hq; simp at hq; rw [hq]; exact Ne.symm E3) hg
        refine hK2.out _ _ (hS _ HM2) (fun _ => ?_)
        refine pure_ (i := ix) (N := some Nx) l1jx hx hdx rx1 hQ (Or.inl ⟨wt hgx, hX _ (by rw [ev_ne X3, ev_ne X1, hyx])⟩) rfl ?_
        refine one_ (i := i2) (N := some N2) l1j2x h2 hd2 r3 n3 (fun K3 hK3 => ?_)
        refine value_ (wt hg2) hd2 (hb2 _ (by rw [ev_ne X4, ev_ne q12, ev_ne q3, hy2]) w2) ?_
        exact hK3.out _ _ (hS _ (HM2.alloc _)) (fun _ => last _ _ w2.heap.size u1 _ rfl (heap_alloc_new w2 _) (Kd.R_below ho (al _)) (Kd.R_below R2'' (al _)) (hB2.trans ((al _).mono (Nat.le_trans hbase HM2.size))) (HM2.alloc _))
    · refine value_ (wt hg2) hd2 (hb2 _ (by rw [ev_ne q3, hy2]) W1) ?_
      exact hK2.out _ _ (hS _ (HM1.alloc _)) (fun _ => both _ _ W0.heap.size W1.heap.size _ rfl rfl (blk_below hL1 (al _)) (heap_alloc_new W1 _) (Kd.R_below R1' (al _)) (Kd.R_below R2' (al _)) (HB1.trans ((al _).mono (Nat.le_trans hbase HM1.size))) (HM1.alloc _))
  · refine value_ (wt hg2) hd2 (hb2 a hy2 W0) ?_
    have HM1 := M0.alloc (.cells #[c2] e2)
    have hL1 := heap_alloc_new W0 (.cells #[c2] e2)
    have R1' := Kd.R_below R1 (al (.cells #[c2] e2))
    have R2' := Kd.R_below R2 (al (.cells #[c2] e2))
    have HB1 : Below base w0 (W0.alloc (.cells #[c2] e2)) := HB.trans ((al _).mono hbase)
    generalize W0.alloc (.cells #[c2] e2) = W1 at *
    refine hKK.out _ _ (hS _ HM1) (fun _ => ?_)
    refine one_ (i := i1) (N := some N1) l12 h1 hd1 r2 n1 (fun K3 hK3 => ?_)
    refine value_ (wt hg1) hd1 (hb1 _ (by rw [ev_ne q8, hy1]) W1) ?_
    exact hK3.out _ _ (hS _ (HM1.alloc _)) (fun _ => norm_ (a' := (a.put (some N1) _).put (some N2) _) (put_comm (Ne.symm q6)) (both _ _ W1.heap.size W0.heap.size _ rfl rfl (heap_alloc_new W1 _) (blk_below hL1 (al _)) (Kd.R_below R1' (al _)) (Kd.R_below R2' (al _)) (HB1.trans ((al _).mono (Nat.le_trans hbase HM1.size))) (HM1.alloc _)))
end
end Go.Proofs.YtkmkppchhdkipaaDoor.HApps
