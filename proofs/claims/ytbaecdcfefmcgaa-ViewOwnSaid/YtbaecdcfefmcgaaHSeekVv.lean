/- A key's place in a table: the search by halves and the page's own search from the first on find the same, where the keys rise; and what is there at a commit is the same. -/
import Derived.Test.YtbaecdcfefmcgaaPVowx8
import Derived.Test.YtbaecdcfefmcgaaPVowx9
import Derived.Test.YtbaecdcfefmcgaaHTableVv
import Derived.Test.YtbaecdcfefmcgaaHKeyVv
set_option linter.unusedSimpArgs false
set_option linter.unusedVariables false
set_option linter.unusedSectionVars false
namespace Go.Proofs.Ytbaecdcfefmcgaa.HTable
open Go.RowKit Go.Proofs.Ytbaecdcfefmcgaa.PVow Go.Proofs.Ytbaecdcfefmcgaa.HNum Go.Proofs.Ytbaecdcfefmcgaa.HChain Go.Proofs.Ytbaecdcfefmcgaa.HKeyV Go.Proofs.YtbaecdcfefmcgaaW.PrintWords Go.Proofs.YtbaecdcfefmcgaaW.PrintLast
theorem rdt_at (l : List Ch) (j : Nat) (h : j < l.length) : rd_T99 l (j : Int) = l[j] := by simp [rd_T99, h]
/-- Place p parts the chains of lower keys from the others. -/
structure Parts (l : List Ch) (k : ByteArray) (p : Nat) : Prop where
  le : p ≤ l.length
  low : ∀ m (h : m < l.length), m < p → Op.bytesLess (l[m]).f0.toList k.toList = true
  high : ∀ m (h : m < l.length), p ≤ m → Op.bytesLess (l[m]).f0.toList k.toList = false
theorem Parts.one {l : List Ch} {k : ByteArray} {p q : Nat} (hp : Parts l k p) (hq : Parts l k q) : p = q := by
  rcases Nat.lt_trichotomy p q with h | h | h
  · have h1 := hp.high p (by have := hq.le; omega) (Nat.le_refl _)
    rw [hq.low p (by have := hq.le; omega) h] at h1
    cases h1
  · exact h
  · have h1 := hq.high q (by have := hp.le; omega) (Nat.le_refl _)
    rw [hp.low q (by have := hp.le; omega) h] at h1
    cases h1
theorem cmp_less (a k : ByteArray) : api_Chain_string.cmp a k < 0 ↔ Op.bytesLess a.toList k.toList = true := by
  unfold api_Chain_string.cmp
  rw [ByteArray.toList_eq, ByteArray.toList_eq, less_cmp, decide_eq_true_eq]
theorem cmp_same (a k : ByteArray) : (api_Chain_string.cmp a k == 0) = (a.toList == k.toList) := by
  unfold api_Chain_string.cmp
  rw [ByteArray.toList_eq, ByteArray.toList_eq]
  by_cases h : a.data.toList = k.data.toList
  · rw [h, cB_refl]; simp
  · have : Lib.compareBytes a.data.toList k.data.toList ≠ 0 := fun h2 => h (cB_zero _ _ h2)
    rw [beq_eq_false_iff_ne.2 this, beq_eq_false_iff_ne.2 h]
theorem less_le {a b k : List UInt8} (h1 : Op.bytesLess a b = true) (h2 : Op.bytesLess b k = true) : Op.bytesLess a k = true := less_trans_l _ _ _ h1 h2
section
variable (l : List Ch) (k : ByteArray)
theorem bs_parts (hs : l.Pairwise less) : ∀ f i j, i ≤ j → j ≤ l.length → j - i ≤ f → (∀ m (h : m < l.length), m < i → Op.bytesLess (l[m]).f0.toList k.toList = true) → (∀ m (h : m < l.length), j ≤ m → Op.bytesLess (l[m]).f0.toList k.toList = false) →
    Parts l k (api_Chain_string.bs l k f i j) := by
  intro f
  induction f with
  | zero =>
    intro i j hij hj hf hlo hhi
    obtain rfl : i = j := by omega
    exact ⟨hj, hlo, hhi⟩
  | succ f ih =>
    intro i j hij hj hf hlo hhi
    unfold api_Chain_string.bs
    by_cases h : i < j
    · rw [if_pos h]
      have hm : (i + j) / 2 < l.length := by omega
      rw [rdt_at l _ hm]
      by_cases hc : api_Chain_string.cmp (l[(i + j) / 2]).f0 k < 0
      · rw [if_pos hc]
        have hc2 := (cmp_less _ _).1 hc
        refine ih ((i + j) / 2 + 1) j (by omega) hj (by omega) (fun m h1 h2 => ?_) hhi
        rcases Nat.lt_or_ge m ((i + j) / 2) with h3 | h3
        · exact less_le (List.pairwise_iff_getElem.1 hs m ((i + j) / 2) h1 hm h3) hc2
        · obtain rfl : m = (i + j) / 2 := by omega
          exact hc2
      · rw [if_neg hc]
        have hc2 : Op.bytesLess (l[(i + j) / 2]).f0.toList k.toList = false := by
          cases hb : Op.bytesLess (l[(i + j) / 2]).f0.toList k.toList with
          | true => exact absurd ((cmp_less _ _).2 hb) hc
          | false => rfl
        refine ih i ((i + j) / 2) (by omega) (by omega) (by omega) hlo (fun m h1 h2 => ?_)
        rcases Nat.eq_or_lt_of_le h2 with h3 | h3
        · subst h3; exact hc2
        · cases hb : Op.bytesLess (l[m]).f0.toList k.toList with
          | false => rfl
          | true =>
            have := less_le (List.pairwise_iff_getElem.1 hs ((i + j) / 2) m hm h1 h3) hb
            rw [hc2] at this
            cases this
    · rw [if_neg h]
      obtain rfl : i = j := by omega
      exact ⟨hj, hlo, hhi⟩
/-- The place that is found, and whether the key is there. -/
theorem seek_ev (hs : l.Pairwise less) : ∃ p, Parts l k p ∧ table_seek.f l k = some ((p : Int), if h : p < l.length then ((l[p]).f0.toList == k.toList) else false) := by
  refine ⟨_, bs_parts l k hs l.length 0 l.length (Nat.zero_le _) (Nat.le_refl _) (by omega) (fun m h h2 => absurd h2 (by omega)) (fun m h h2 => absurd h2 (by omega)), ?_⟩
  unfold table_seek.f api_Chain_string.f
  generalize api_Chain_string.bs l k l.length 0 l.length = p
  simp only [Option.bind_some, Option.some.injEq, Prod.mk.injEq, true_and]
  by_cases h : p < l.length
  · rw [dif_pos h, decide_eq_true h, rdt_at l p h, cmp_same, Bool.true_and]
  · rw [dif_neg h, decide_eq_false h, Bool.false_and]
theorem place_from (hl : l.length ≤ 1000000) (d : Nat) : ∀ i, i + d = l.length → (∀ m (h : m < l.length), m < i → Op.bytesLess (l[m]).f0.toList k.toList = true) → l.Pairwise less →
    ∃ p, Parts l k p ∧ Ev (fun n => quorumref8_place.l0 n k (i : Int) l) ((p : Int), if h : p < l.length then ((l[p]).f0.toList == k.toList) else false) := by
  induction d with
  | zero =>
    intro i hi hlo hs
    obtain rfl : i = l.length := by omega
    refine ⟨l.length, ⟨Nat.le_refl _, hlo, fun m h h2 => absurd h (by omega)⟩, ?_⟩
    rw [dif_neg (by omega)]
    refine Ev.step (fun n => by simp only [quorumref8_place.l0]; rfl) (Ev.if_neg (by omega) ?_)
    refine Ev.step (fun n => by simp only [quorumref8_place.j1]; rfl) (Ev.if_neg (by simp) (Ev.if_neg (by omega) (Ev.now _)))
  | succ d ih =>
    intro i hi hlo hs
    have hlt : i < l.length := by omega
    cases hb : Op.bytesLess (l[i]).f0.toList k.toList with
    | true =>
      obtain ⟨p, hp, he⟩ := ih (i + 1) (by omega) (fun m h h2 => by
        rcases Nat.lt_or_ge m i with h3 | h3
        · exact hlo m h h3
        · obtain rfl : m = i := by omega
          exact hb) hs
      refine ⟨p, hp, Ev.step (fun n => by simp only [quorumref8_place.l0]; rfl) ?_⟩
      refine Ev.if_pos (by omega) (Ev.if_pos (by omega) ?_)
      rw [rdt_at l i hlt, hb]
      refine Ev.step (fun n => by simp only [quorumref8_place.j1]; rfl) (Ev.if_pos (by first | rfl | trivial) ?_)
      rw [wrap_succ i (by omega)]
      exact he
    | false =>
      refine ⟨i, ⟨by omega, hlo, fun m h h2 => ?_⟩, Ev.step (fun n => by simp only [quorumref8_place.l0]; rfl) ?_⟩
      · rcases Nat.eq_or_lt_of_le h2 with h3 | h3
        · subst h3; exact hb
        · cases hb2 : Op.bytesLess (l[m]).f0.toList k.toList with
          | false => rfl
          | true =>
            have := less_le (List.pairwise_iff_getElem.1 hs i m hlt h h3) hb2
            rw [hb] at this
            cases this
      · refine Ev.if_pos (by omega) (Ev.if_pos (by omega) ?_)
        rw [rdt_at l i hlt, hb, dif_pos hlt]
        refine Ev.step (fun n => by simp only [quorumref8_place.j1]; rfl) (Ev.if_neg (by simp) (Ev.if_pos (by omega) (Ev.if_pos (by omega) ?_)))
        rw [rdt_at l i hlt]
        exact Ev.now _
end
/-- What the reference tells of a chain at a commit is what the chain's own does. -/
theorem newest_from (key : ByteArray) (v : List V) (n : Int) (hv : v.length ≤ 1000000) (d : Nat) : ∀ i, i + d = v.length → (∀ m (h : m < v.length), m < i → n < (v[m]).f0) → Ev (fun q => quorumref8_newest.l0 q n (i : Int) key v) (if place v n < v.length then (place v n : Int) else -1) := by
  induction d with
  | zero =>
    intro i hi hlo
    have hp : place v n = v.length := place_spec v n v.length (Nat.le_refl _) (fun m h _ => hlo m h (by omega)) (fun h => absurd h (by omega))
    rw [if_neg (by omega)]
    exact Ev.step (fun q => by simp only [quorumref8_newest.l0]; rfl) (Ev.if_neg (by omega) (Ev.now _))
  | succ d ih =>
    intro i hi hlo
    have hlt : i < v.length := by omega
    refine Ev.step (fun q => by simp only [quorumref8_newest.l0]; rfl) (Ev.if_pos (by omega) (Ev.if_pos (by omega) ?_))
    rw [HChain.rd_at v i hlt]
    refine Ev.iff (fun h => ?_) (fun h => ?_)
    · have hp : place v n = i := place_spec v n i (by omega) hlo (fun _ => h)
      rw [hp, if_pos hlt]
      exact Ev.now _
    · rw [wrap_succ i (by omega)]
      refine ih (i + 1) (by omega) (fun m h2 h3 => ?_)
      rcases Nat.lt_or_ge m i with h4 | h4
      · exact hlo m h2 h4
      · obtain rfl : m = i := by omega
        omega
theorem At_ev (key : ByteArray) (v : List V) (n : Int) (hv : v.length ≤ 1000000) : Ev (fun q => quorumref8_At.f q key v n) (match HChain.look v n with | some x => (x.f0, x.f1, x.f2, true) | none => (0, ⟨#[]⟩, false, false)) := by
  unfold quorumref8_At.f
  refine Ev.bind (a := if place v n < v.length then (place v n : Int) else -1) (by unfold quorumref8_newest.f; exact newest_from key v n hv v.length 0 (by omega) (fun m h h2 => absurd h2 (by omega))) ?_
  unfold HChain.look
  by_cases h : place v n < v.length
  · rw [if_pos h, dif_pos h]
    refine Ev.if_neg (by omega) (Ev.if_pos (by omega) (Ev.if_pos (by omega) ?_))
    rw [HChain.rd_at v _ h]
    refine Ev.step (fun q => by simp only [quorumref8_At.j0]; rfl) ?_
    by_cases hg : (v[place v n]).f2 = true
    · have e : (if (v[place v n]).f2 = true then (none : Option V) else some v[place v n]) = none := if_pos hg
      rw [e]
      exact Ev.if_pos hg (Ev.now _)
    · have e : (if (v[place v n]).f2 = true then (none : Option V) else some v[place v n]) = some v[place v n] := if_neg hg
      rw [e]
      refine Ev.if_neg hg (Ev.if_pos (by omega) (Ev.if_pos (by omega) ?_))
      rw [HChain.rd_at v _ h]
      exact Ev.now _
  · rw [if_neg h, dif_neg h]
    refine Ev.if_pos (by omega) ?_
    exact Ev.step (fun q => by simp only [quorumref8_At.j0]; rfl) (Ev.if_pos (by first | rfl | trivial) (Ev.now _))
/-- A key's value at a commit: both tell the same. -/
theorem look_get (l : List Ch) (k : ByteArray) (n : Int) (hl : l.length ≤ 1000000) (hv : ∀ c ∈ l, c.f1.length ≤ 1000000) (hs : l.Pairwise less) :
    ∃ r : ByteArray × Bool, table_Look.f l k n = some r ∧ Ev (fun q => quorumref8_Get.f q l k n) r ∧ (r.2 = false → r.1 = ⟨#[]⟩) := by
  obtain ⟨p, hp, e⟩ := seek_ev l k hs
  obtain ⟨p2, hp2, e2⟩ := place_from l k hl l.length 0 (by omega) (fun m h h2 => absurd h2 (by omega)) hs
  obtain rfl := hp.one hp2
  have e2' : Ev (fun q => quorumref8_place.f q l k) ((p : Int), if h : p < l.length then ((l[p]).f0.toList == k.toList) else false) := by unfold quorumref8_place.f; exact e2
  by_cases h : p < l.length
  · rw [dif_pos h] at e e2'
    cases hk : ((l[p]).f0.toList == k.toList) with
    | true =>
      rw [hk] at e e2'
      have hc := hv l[p] (List.getElem_mem h)
      refine ⟨((match HChain.look (l[p]).f1 n with | some x => x.f1 | none => ⟨#[]⟩), (HChain.look (l[p]).f1 n).isSome), ?_, ?_, fun hn => ?_⟩
      · unfold table_Look.f
        rw [e]
        simp only [Option.bind_some]
        rw [if_pos (by first | rfl | trivial), if_pos (by omega), if_pos (by omega), rdt_at l p h, Look_eq]
        cases HChain.look (l[p]).f1 n <;> rfl
      · unfold quorumref8_Get.f
        refine Ev.bind e2' (Ev.if_pos (by first | rfl | trivial) (Ev.if_pos (by omega) (Ev.if_pos (by omega) ?_)))
        rw [rdt_at l p h]
        refine Ev.bind (At_ev _ _ n hc) ?_
        cases HChain.look (l[p]).f1 n <;> exact Ev.now _
      · cases hlk : HChain.look (l[p]).f1 n with
        | none => rfl
        | some x => rw [hlk] at hn; simp at hn
    | false =>
      rw [hk] at e e2'
      refine ⟨(⟨#[]⟩, false), ?_, ?_, fun _ => rfl⟩
      · unfold table_Look.f
        rw [e]
        simp only [Option.bind_some]
        rw [if_neg (by simp)]
      · unfold quorumref8_Get.f
        exact Ev.bind e2' (Ev.if_neg (by simp) (Ev.now _))
  · rw [dif_neg h] at e e2'
    refine ⟨(⟨#[]⟩, false), ?_, ?_, fun _ => rfl⟩
    · unfold table_Look.f
      rw [e]
      simp only [Option.bind_some]
      rw [if_neg (by simp)]
    · unfold quorumref8_Get.f
      exact Ev.bind e2' (Ev.if_neg (by simp) (Ev.now _))
end Go.Proofs.Ytbaecdcfefmcgaa.HTable
