/- A key's place in a table: the search by halves and the page's own search from the first on find the same, where the keys rise; and what is there at a commit is the same. -/
import Derived.Test.YtbaecdcfefmcgaaPVrsx7
import Derived.Test.YtbaecdcfefmcgaaHTableBr
import Derived.Test.YtbaecdcfefmcgaaHKeyVr
set_option linter.unusedSimpArgs false
set_option linter.unusedVariables false
set_option linter.unusedSectionVars false
namespace Go.Proofs.Ytbaecdcfefmcgaa.HTable
open Go.RowKit Go.Proofs.Ytbaecdcfefmcgaa.PVrs Go.Proofs.Ytbaecdcfefmcgaa.HNum Go.Proofs.Ytbaecdcfefmcgaa.HChain Go.Proofs.Ytbaecdcfefmcgaa.HKeyV Go.Proofs.YtbaecdcfefmcgaaW.PrintWords Go.Proofs.YtbaecdcfefmcgaaW.PrintLast
theorem rdt_at (l : List Ch) (j : Nat) (h : j < l.length) : rd_T99 l (j : Int) = l[j] := by simp [rd_T99, h]
/-- Place p parts the chains of lower keys from the others. -/
structure Parts (l : List Ch) (k : ByteArray) (p : Nat) : Prop where
  le : p ≤ l.length
  low : ∀ m (h : m < l.length), m < p → Op.bytesLess (l[m]).f0.toList k.toList = true
  high : ∀ m (h : m < l.length), p ≤ m → Op.bytesLess (l[m]).f0.toList k.toList = false
theorem Parts.one {l : List Ch} {k : ByteArray} {p q : Nat} (hp : Parts l k p) (hq : Parts l k q) : p = q := by
  rcases Nat.lt_trichotomy p q with h | h | h
  · have h1 := hp.high p (by have := hq.le; omega) (Nat.le_refl _)
    rw [hq.low p (by have := hq.le; omega) h] at h1
    cases h1
  · exact h
  · have h1 := hq.high q (by have := hp.le; omega) (Nat.le_refl _)
    rw [hp.low q (by have := hp.le; omega) h] at h1
    cases h1
theorem cmp_less (a k : ByteArray) : api_Chain_string.cmp a k < 0 ↔ Op.bytesLess a.toList k.toList = true := by
  unfold api_Chain_string.cmp
  rw [ByteArray.toList_eq, ByteArray.toList_eq, less_cmp, decide_eq_true_eq]
theorem cmp_same (a k : ByteArray) : (api_Chain_string.cmp a k == 0) = (a.toList == k.toList) := by
  unfold api_Chain_string.cmp
  rw [ByteArray.toList_eq, ByteArray.toList_eq]
  by_cases h : a.data.toList = k.data.toList
  · rw [h, cB_refl]; simp
  · have : Lib.compareBytes a.data.toList k.data.toList ≠ 0 := fun h2 => h (cB_zero _ _ h2)
    rw [beq_eq_false_iff_ne.2 this, beq_eq_false_iff_ne.2 h]
theorem less_le {a b k : List UInt8} (h1 : Op.bytesLess a b = true) (h2 : Op.bytesLess b k = true) : Op.bytesLess a k = true := less_trans_l _ _ _ h1 h2
section
variable (l : List Ch) (k : ByteArray)
theorem bs_parts (hs : l.Pairwise less) : ∀ f i j, i ≤ j → j ≤ l.length → j - i ≤ f → (∀ m (h : m < l.length), m < i → Op.bytesLess (l[m]).f0.toList k.toList = true) → (∀ m (h : m < l.length), j ≤ m → Op.bytesLess (l[m]).f0.toList k.toList = false) →
    Parts l k (api_Chain_string.bs l k f i j) := by
  intro f
  induction f with
  | zero =>
    intro i j hij hj hf hlo hhi
    obtain rfl : i = j := by omega
    exact ⟨hj, hlo, hhi⟩
  | succ f ih =>
    intro i j hij hj hf hlo hhi
    unfold api_Chain_string.bs
    by_cases h : i < j
    · rw [if_pos h]
      have hm : (i + j) / 2 < l.length := by omega
      rw [rdt_at l _ hm]
      by_cases hc : api_Chain_string.cmp (l[(i + j) / 2]).f0 k < 0
      · rw [if_pos hc]
        have hc2 := (cmp_less _ _).1 hc
        refine ih ((i + j) / 2 + 1) j (by omega) hj (by omega) (fun m h1 h2 => ?_) hhi
        rcases Nat.lt_or_ge m ((i + j) / 2) with h3 | h3
        · exact less_le (List.pairwise_iff_getElem.1 hs m ((i + j) / 2) h1 hm h3) hc2
        · obtain rfl : m = (i + j) / 2 := by omega
          exact hc2
      · rw [if_neg hc]
        have hc2 : Op.bytesLess (l[(i + j) / 2]).f0.toList k.toList = false := by
          cases hb : Op.bytesLess (l[(i + j) / 2]).f0.toList k.toList with
          | true => exact absurd ((cmp_less _ _).2 hb) hc
          | false => rfl
        refine ih i ((i + j) / 2) (by omega) (by omega) (by omega) hlo (fun m h1 h2 => ?_)
        rcases Nat.eq_or_lt_of_le h2 with h3 | h3
        · subst h3; exact hc2
        · cases hb : Op.bytesLess (l[m]).f0.toList k.toList with
          | false => rfl
          | true =>
            have := less_le (List.pairwise_iff_getElem.1 hs ((i + j) / 2) m hm h1 h3) hb
            rw [hc2] at this
            cases this
    · rw [if_neg h]
      obtain rfl : i = j := by omega
      exact ⟨hj, hlo, hhi⟩
/-- The place that is found, and whether the key is there. -/
theorem seek_ev (hs : l.Pairwise less) : ∃ p, Parts l k p ∧ table_seek.f l k = some ((p : Int), if h : p < l.length then ((l[p]).f0.toList == k.toList) else false) := by
  refine ⟨_, bs_parts l k hs l.length 0 l.length (Nat.zero_le _) (Nat.le_refl _) (by omega) (fun m h h2 => absurd h2 (by omega)) (fun m h h2 => absurd h2 (by omega)), ?_⟩
  unfold table_seek.f api_Chain_string.f
  generalize api_Chain_string.bs l k l.length 0 l.length = p
  simp only [Option.bind_some, Option.some.injEq, Prod.mk.injEq, true_and]
  by_cases h : p < l.length
  · rw [dif_pos h, decide_eq_true h, rdt_at l p h, cmp_same, Bool.true_and]
  · rw [dif_neg h, decide_eq_false h, Bool.false_and]
end
end Go.Proofs.Ytbaecdcfefmcgaa.HTable
