/- What an argument of a law holds, out of its reading as data: for each kind of value, that whatever reads as data of the type is a value of the kind, within the reach. Conditions: none beyond the theorems' own hypotheses. -/
import Derived.Test.YtkmkppchhdkipaaDoorWWords
import Derived.SizedLaws
import Derived.Deep.Slices
import Derived.ChangeSame
namespace Go.Proofs.YtkmkppchhdkipaaDoor.HOpen
open Go.RowKit Go.ChangeShapes Go.WideShapes Go.Proofs.YtkmkppchhdkipaaDoorW.PrintWords

/-- Whatever reads as data of type t, each string and slice within the reach, is of kind d, and what wf says of it holds. -/
structure Opens {α : Type} (P : Program) (t : TypeId) (d : Kd α) (wf : α → Prop) : Prop where
  sz : P.cellsOf t = d.sz
  get : ∀ {H : Type} (enc : TypeId × Value → H) (w : World) (fuel : Nat) (cs : List Value) (x : DataW H × List MemPlace),
    DataW.trod enc P w 0 (fun _ => true) true fuel t cs = some x → (∀ n ∈ x.1.weights P t, n ≤ reachBytes) → ∃ a, d.K w a cs ∧ wf a

theorem opens_int {P : Program} {t : TypeId} {k : IntKind} (hu : P.underlying t = some (.int k)) (hc : P.cellsOf t = 1) : Opens P t (Kd.int k) (fun n => (Lit.int k n).wf = true) :=
  ⟨hc, fun enc w fuel cs x h _ => by
    obtain ⟨n, rfl, _, hw⟩ := DataW.trod_int hu h
    exact ⟨n, rfl, hw⟩⟩
theorem opens_bool {P : Program} {t : TypeId} (hu : P.underlying t = some .bool) (hc : P.cellsOf t = 1) : Opens P t Kd.bool (fun _ => True) :=
  ⟨hc, fun enc w fuel cs x h _ => by
    obtain ⟨n, rfl, _⟩ := DataW.trod_bool hu h
    exact ⟨n, rfl, trivial⟩⟩
theorem opens_string {P : Program} {t : TypeId} (hu : P.underlying t = some .string) (hc : P.cellsOf t = 1) : Opens P t Kd.string (fun s => s.size ≤ 140737488351232) :=
  ⟨hc, fun enc w fuel cs x h hz => by
    obtain ⟨s, rfl, rfl, hw⟩ := DataW.trod_string hu h
    refine ⟨s, rfl, ?_⟩
    have := hz s.data.toList.length (by simp [DataW.weights])
    simpa [reachBytes] using this⟩

theorem list_of {α : Type} {n : Nat} {p : Nat → α → Prop} (h : ∀ i, i < n → ∃ a, p i a) : ∃ l : List α, l.length = n ∧ ∀ i (hi : i < l.length), p i l[i] := by
  induction n with
  | zero => exact ⟨[], rfl, fun i hi => by simp at hi⟩
  | succ n ih =>
    obtain ⟨l, hl, hp⟩ := ih fun i hi => h i (by omega)
    obtain ⟨a, ha⟩ := h n (by omega)
    refine ⟨l ++ [a], by simp [hl], fun i hi => ?_⟩
    rcases Nat.lt_or_ge i l.length with h1 | h1
    · rw [List.getElem_append_left h1]; exact hp i h1
    · have : i = n := by simp at hi; omega
      subst this
      rw [List.getElem_append_right h1]
      simpa [hl] using ha

theorem weights_mem_all {H : Type} {P : Program} {e : TypeId} : ∀ {ds : List (DataW H)} {d : DataW H}, d ∈ ds → ∀ n ∈ d.weights P e, n ∈ DataW.weightsAll P e ds
  | d0 :: ds, d, hd, n, hn => by
    simp only [DataW.weightsAll, List.mem_append]
    rcases List.mem_cons.1 hd with rfl | hd
    · exact .inl hn
    · exact .inr (weights_mem_all hd n hn)
  | [], _, hd, _, _ => by simp at hd

theorem opens_slice {α : Type} {P : Program} {t e : TypeId} {d : Kd α} {wf : α → Prop} (T : Nat) {B : Nat} (hu : P.underlying t = some (.slice e)) (hc : P.cellsOf t = 1) (hB : P.bytesOf e = B) (ho : Opens P e d wf) :
    Opens P t (Kd.slice T d) (fun l => l.length ≤ 9223372036854775807 ∧ l.length * B ≤ 140737488351232 ∧ ∀ x ∈ l, wf x) := by
  refine ⟨hc, fun enc w fuel cs x h hz => ?_⟩
  rcases Go.Deep.open_slice hu h with ⟨rfl, rfl⟩ | ⟨a, len, cap, m, n, D, Pl, rfl, _, hl, hm, hmm, rfl, hi⟩
  · exact ⟨[], ⟨none, 0, rfl, Nat.le_refl _, rfl, by simp, fun h => absurd h (by simp)⟩, by simp, by simp, fun x hx => by simp at hx⟩
  · simp only [if_true] at hmm
    subst hmm
    simp only [DataW.weights, hu] at hz
    have hlen : len * B ≤ 140737488351232 := by
      have h1 := hz _ (List.mem_cons_self ..)
      simp only [List.length_map, List.length_range, hB, reachBytes] at h1
      exact Nat.le_trans (Nat.mul_le_mul_right _ (by omega)) h1
    have hel : ∀ i, i < len → ∃ b, (∃ c, d.K w b c ∧ c.length = d.sz ∧ ∀ j u, c[j]? = some u → w.cell? (a.add (i * d.sz + j)) = some u) ∧ wf b := fun i hil => by
      obtain ⟨cs', hcs, htr⟩ := hi i (by omega)
      obtain ⟨_, hcl, hat⟩ := World.cells?_some hcs
      obtain ⟨b, hb, hw⟩ := ho.get enc w _ _ _ htr (fun q hq => hz q (List.mem_cons_of_mem _ (List.mem_append_left _ (weights_mem_all (List.mem_map.2 ⟨i, by simpa using hil, rfl⟩) q hq))))
      refine ⟨b, ⟨cs', hb, d.K_len hb, fun j u hu2 => ?_⟩, hw⟩
      have hj : j < P.cellsOf e := by
        rcases Nat.lt_or_ge j cs'.length with h1 | h1
        · omega
        · rw [List.getElem?_eq_none h1] at hu2; cases hu2
      have h2 := hat j hj
      rw [Go.Deep.add_add, ho.sz] at h2
      rw [h2, hu2]
    obtain ⟨l, hll, hp⟩ := list_of hel
    have hmx : len ≤ 9223372036854775807 := by unfold maxLen at hm; omega
    refine ⟨l, ⟨some a, m, by rw [hll], by omega, rfl, by omega, fun h0 => ⟨a, rfl, fun j p hj => ?_⟩⟩, by omega, by rw [hll]; exact hlen, fun x hx => ?_⟩
    · obtain ⟨hjl, rfl⟩ := List.getElem?_eq_some_iff.1 hj
      obtain ⟨⟨c, hK, hcl, hc3⟩, _⟩ := hp j hjl
      exact ⟨c, hcl, hK, hc3⟩
    · obtain ⟨i, hil, rfl⟩ := List.mem_iff_getElem.1 hx
      exact (hp i hil).2

/-- Of some fields in a row, the first at place off. -/
structure OpensF {α : Type} (P : Program) (fs : List Field) (off : Nat) (d : Kd α) (wf : α → Prop) : Prop where
  get : ∀ {H : Type} (enc : TypeId × Value → H) (w : World) (n : Nat) (cs : List Value) (ys : List (DataW H × List MemPlace)), ys.length = fs.length →
    (∀ (i : Nat) (f : Field), fs[i]? = some f → DataW.trod enc P w 0 (fun _ => true) true n f.type ((cs.drop f.offset).take (P.cellsOf f.type)) = ys[i]?) →
    (∀ m ∈ DataW.weightsEach P (fs.map (·.type)) (ys.map (·.1)), m ≤ reachBytes) → cs.length = off + d.sz → ∃ a, d.K w a (cs.drop off) ∧ wf a

theorem opensF_one {α : Type} {P : Program} {f : Field} {off : Nat} {d : Kd α} {wf : α → Prop} (hf : f.offset = off) (ho : Opens P f.type d wf) : OpensF P [f] off d wf :=
  ⟨fun enc w n cs ys hl h hz hcs => by
    match ys, hl with
    | [y], _ =>
      have h0 := h 0 f rfl
      rw [hf, ho.sz, List.take_of_length_le (by rw [List.length_drop]; omega)] at h0
      exact ho.get enc w n _ y h0 (fun q hq => hz q (by simp only [List.map_cons, DataW.weightsEach, List.mem_append]; exact .inl hq))⟩
theorem opensF_cons {α β : Type} {P : Program} {f : Field} {fs : List Field} {off off' : Nat} {d : Kd α} {d' : Kd β} {wf : α → Prop} {wf' : β → Prop} (hf : f.offset = off) (ho : Opens P f.type d wf) (hoff : off' = off + d.sz) (hr : OpensF P fs off' d' wf') :
    OpensF P (f :: fs) off (Kd.pair d d') (fun x => wf x.1 ∧ wf' x.2) :=
  ⟨fun enc w n cs ys hl h hz hcs => by
    match ys, hl with
    | y :: ys, hl =>
      have h0 := h 0 f rfl
      rw [hf, ho.sz] at h0
      obtain ⟨a, ha, hwa⟩ := ho.get enc w n _ y h0 (fun q hq => hz q (by simp only [List.map_cons, DataW.weightsEach, List.mem_append]; exact .inl hq))
      have hcs2 : cs.length = off' + d'.sz := by rw [hcs, hoff]; show off + (d.sz + d'.sz) = _; omega
      obtain ⟨b, hb, hwb⟩ := hr.get enc w n cs ys (by simpa using hl) (fun i g hg => h (i + 1) g (by simpa using hg)) (fun q hq => hz q (by simp only [List.map_cons, DataW.weightsEach, List.mem_append]; exact .inr hq)) hcs2
      refine ⟨(a, b), ⟨_, _, ?_, ha, hb⟩, hwa, hwb⟩
      rw [hoff, ← List.drop_drop, List.take_append_drop]⟩

theorem opens_struct {α β : Type} {P : Program} {t : TypeId} {fs : Array Field} {d : Kd α} {wf : α → Prop} (f : β → α) (g : α → β) (hfg : ∀ a, f (g a) = a) (hu : P.underlying t = some (.struct fs)) (hc : P.cellsOf t = d.sz) (ho : OpensF P fs.toList 0 d wf) :
    Opens P t (Kd.iso d f) (fun b => wf (f b)) := by
  refine ⟨hc, fun enc w fuel cs x h hz => ?_⟩
  obtain ⟨ys, n, _, rfl, hcl, hyl, hg⟩ := DataW.trod_struct hu h
  simp only [DataW.weights, hu] at hz
  obtain ⟨a, ha, hw⟩ := ho.get enc w n cs ys (by simpa using hyl) (fun i q hq => hg i q (by simpa using hq)) hz (by rw [hcl, hc, Nat.zero_add])
  rw [List.drop_zero] at ha
  exact ⟨g a, by show d.K w (f (g a)) cs; rw [hfg]; exact ha, by show wf (f (g a)); rw [hfg]; exact hw⟩
/-- The same, the fields side by side without a name of their own. -/
theorem opens_fields {α : Type} {P : Program} {t : TypeId} {fs : Array Field} {d : Kd α} {wf : α → Prop} (hu : P.underlying t = some (.struct fs)) (hc : P.cellsOf t = d.sz) (ho : OpensF P fs.toList 0 d wf) : Opens P t d wf := by
  refine ⟨hc, fun enc w fuel cs x h hz => ?_⟩
  obtain ⟨ys, n, _, rfl, hcl, hyl, hg⟩ := DataW.trod_struct hu h
  simp only [DataW.weights, hu] at hz
  obtain ⟨a, ha, hw⟩ := ho.get enc w n cs ys (by simpa using hyl) (fun i q hq => hg i q (by simpa using hq)) hz (by rw [hcl, hc, Nat.zero_add])
  rw [List.drop_zero] at ha
  exact ⟨a, ha, hw⟩
end Go.Proofs.YtkmkppchhdkipaaDoor.HOpen
