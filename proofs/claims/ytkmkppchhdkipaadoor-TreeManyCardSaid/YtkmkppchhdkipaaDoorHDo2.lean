import Derived.Test.YtkmkppchhdkipaaDoorPTrx22
import Derived.Test.YtkmkppchhdkipaaDoorHTr0
import Derived.Test.YtkmkppchhdkipaaDoorPTrx33
import Derived.Test.YtkmkppchhdkipaaDoorPTrx4
import Derived.Test.YtkmkppchhdkipaaDoorPTrx1
import Derived.Test.YtkmkppchhdkipaaDoorPTrx44
/- What Pairs tells of a tree that may be: its pairs. -/
namespace Go.Proofs.YtkmkppchhdkipaaDoor.HTree
open Go.Lib Go.RowKit Go.Proofs.YtkmkppchhdkipaaDoorW.PrintWords Go.Proofs.YtkmkppchhdkipaaDoorW.PrintLast Go.Proofs.YtkmkppchhdkipaaDoor.PTr Go.Proofs.YtkmkppchhdkipaaDoor.HNum
set_option linter.unusedSimpArgs false
set_option linter.unusedVariables false
section
variable (N : List SN) (r : Int) (fr : List Int)
theorem kids_from (ks : List Nat) (rr : List (List SP)) (hl : rr.length = ks.length) (h5 : ks.length ≤ 1000) (hk : ∀ (i k : Nat) (q : List SP), ks[i]? = some k → rr[i]? = some q → Ev (fun f => tree_pairs.f f N r fr (k : Int)) q) (d : Nat) :
    ∀ (i : Nat) (acc : List SP), i + d = ks.length → acc.length + (rr.drop i).flatten.length ≤ 100 → Ev (fun f => tree_pairs.l1 f acc (ks.map (fun k : Nat => (k : Int))) ((ks.map (fun k : Nat => (k : Int))).length : Int) (i : Int) N r fr) (acc ++ (rr.drop i).flatten) := by
  induction d with
  | zero =>
    intro i acc hid hb
    rw [List.drop_eq_nil_of_le (by omega), List.flatten_nil, List.append_nil]
    exact Ev.step (fun f => by rw [tree_pairs.l1, if_neg (by rw [List.length_map]; omega)]) (Ev.now _)
  | succ d ih =>
    intro i acc hid hb
    have hi : i < ks.length := by omega
    have hi2 : i < rr.length := by omega
    rw [List.drop_eq_getElem_cons hi2, List.flatten_cons] at hb ⊢
    rw [List.length_append] at hb
    have e1 : rd (ks.map (fun k : Nat => (k : Int))) (i : Int) = ((ks[i] : Nat) : Int) := by simp [rd, List.getD_eq_getElem?_getD, hi]
    refine Ev.step (fun f => by rw [tree_pairs.l1, if_pos (by rw [List.length_map]; omega), if_pos (by omega), if_pos (by rw [List.length_map]; omega), e1]) ?_
    refine Ev.bind (hk i _ _ (List.getElem?_eq_getElem hi) (List.getElem?_eq_getElem hi2)) ?_
    refine Ev.if_pos (by omega) ?_
    rw [wrap_succ i (by omega), ← List.append_assoc]
    exact ih (i + 1) (acc ++ rr[i]) (by omega) (by rw [List.length_append]; omega)
theorem leaf_from (l : List SP) (x : SN) (h0 : x.f0 = l.map (·.f0)) (h1 : x.f1 = l.map (·.f1)) (h2 : x.f2 = []) (h100 : l.length ≤ 100) (d : Nat) :
    ∀ (i : Nat) (acc : List SP), i + d = l.length → acc.length = i → Ev (fun f => tree_pairs.l0 f acc x.f0 (x.f0.length : Int) (i : Int) N r fr x.f0 x.f1 x.f2 true) (acc ++ l.drop i) := by
  have e0 : x.f0.length = l.length := by rw [h0, List.length_map]
  have e1 : x.f1.length = l.length := by rw [h1, List.length_map]
  induction d with
  | zero =>
    intro i acc hid ha
    rw [List.drop_eq_nil_of_le (by omega), List.append_nil]
    refine Ev.step (fun f => by rw [tree_pairs.l0, if_neg (by omega)]) (Ev.step (fun f => by rw [tree_pairs.l1, h2, if_neg (by simp)]) (Ev.now _))
  | succ d ih =>
    intro i acc hid ha
    have hi : i < l.length := by omega
    have e2 : (⟨rdOf ByteArray.empty x.f0 (i : Int), rd x.f1 (i : Int)⟩ : SP) = l[i] := by
      rw [h0, h1]
      simp [rdOf, rd, List.getD_eq_getElem?_getD, hi]
    refine Ev.step (fun f => by rw [tree_pairs.l0, if_pos (by omega), if_pos (by omega), if_pos (by omega), if_pos rfl, if_pos (by omega), if_pos (by omega), e2, wrap_succ i (by omega)]) ?_
    rw [List.drop_eq_getElem_cons hi, show acc ++ l[i] :: l.drop (i + 1) = (acc ++ [l[i]]) ++ l.drop (i + 1) from by simp]
    exact ih (i + 1) (acc ++ [l[i]]) (by omega) (by simp [ha])
theorem inner_from (x : SN) (q : List SP) (h5 : x.f0.length ≤ 1000) (hk : Ev (fun f => tree_pairs.l1 f [] x.f2 (x.f2.length : Int) 0 N r fr) q) (d : Nat) :
    ∀ i : Nat, i + d = x.f0.length → Ev (fun f => tree_pairs.l0 f [] x.f0 (x.f0.length : Int) (i : Int) N r fr x.f0 x.f1 x.f2 false) q := by
  induction d with
  | zero =>
    intro i hid
    exact Ev.step (fun f => by rw [tree_pairs.l0, if_neg (by omega)]) hk
  | succ d ih =>
    intro i hid
    exact Ev.step (fun f => by rw [tree_pairs.l0, if_pos (by omega), if_pos (by omega), if_pos (by omega), if_neg (by decide), wrap_succ i (by omega)]) (ih (i + 1) (by omega))
theorem pairs_ev : ∀ {h : Nat} {rt : Bool} {n : Nat} {lo hi : ByteArray} {top : Bool} {vis : List Nat} {rs : List SP}, Sub N h rt n lo hi top vis rs → rs.length ≤ 100 → Ev (fun f => tree_pairs.f f N r fr (n : Int)) rs
  | 0, _, _, _, _, _, _, _, h, _ => h.elim
  | h + 1, rt, n, lo, hi, top, vis, rs, ⟨x, hx, hk, hl, hc⟩, h100 => by
    have hn := (List.getElem?_eq_some_iff.1 hx).1
    have hrd : rd_T85 N (n : Int) = x := by simp [rd_T85, List.getD_eq_getElem?_getD, hx]
    refine Ev.step (fun f => by rw [tree_pairs.f, if_pos (by omega), if_pos (by omega), hrd]) ?_
    rcases hc with ⟨h3, _, h2, _, h0, h1, _⟩ | ⟨h3, h1, h0, ks, vs, rr, hks, e1, e2, e3, _, rfl, hsub⟩
    · rw [h3]
      have := leaf_from N r fr rs x h0 h1 h2 h100 rs.length 0 [] (by omega) rfl
      simpa using this
    · rw [h3]
      have h4 := hk.1
      have hkid : ∀ (i k : Nat) (q : List SP), ks[i]? = some k → rr[i]? = some q → Ev (fun f => tree_pairs.f f N r fr (k : Int)) q := by
        intro i k q a b
        have hi : i < ks.length := (List.getElem?_eq_some_iff.1 a).1
        have hq : q.length ≤ rr.flatten.length := (List.sublist_flatten_of_mem (List.mem_of_getElem? b)).length_le
        exact pairs_ev (hsub i k (vs[i]'(by omega)) q a (List.getElem?_eq_getElem _) b) (by omega)
      have := kids_from N r fr ks rr e3 (by omega) hkid ks.length 0 [] (by omega) (by simpa using h100)
      refine inner_from N r fr x rr.flatten (by omega) ?_ x.f0.length 0 (by omega)
      rw [hks]
      simpa using this
theorem Pairs_ev {l : List SP} {hh : Nat} (h : Is N r fr l hh) (h100 : l.length ≤ 100) : Ev (fun f => tree_Pairs.f f N r fr) l := by
  obtain ⟨_, _, n, vis, rfl, _, hs, _⟩ := h
  exact Ev.bind (pairs_ev N _ fr hs h100) (Ev.now _)
end
end Go.Proofs.YtkmkppchhdkipaaDoor.HTree
/- Where a key is among pairs that rise. -/
namespace Go.Proofs.YtkmkppchhdkipaaDoor.HTree
open Go.Lib Go.RowKit Go.Proofs.YtkmkppchhdkipaaDoorW.PrintWords Go.Proofs.YtkmkppchhdkipaaDoorW.PrintLast Go.Proofs.YtkmkppchhdkipaaDoor.PTr Go.Proofs.YtkmkppchhdkipaaDoor.HNum
set_option linter.unusedSimpArgs false
set_option linter.unusedVariables false
noncomputable abbrev bsP := tree_Pair_string.bs
theorem rdp_at (l : List SP) (j : Nat) (h : j < l.length) : rd_T91 l (j : Int) = l[j] := by simp [rd_T91, List.getD_eq_getElem?_getD, h]
theorem cmp_lt (a b : ByteArray) : tree_Pair_string.cmp a b < 0 ↔ lt a b = true := by
  unfold tree_Pair_string.cmp
  rw [lt_iff, ByteArray.toList_eq, ByteArray.toList_eq, decide_eq_true_eq]
structure Part (l : List SP) (k : ByteArray) (p : Nat) : Prop where
  le : p ≤ l.length
  lo : ∀ m (h : m < l.length), m < p → lt l[m].f0 k = true
  hi : ∀ m (h : m < l.length), p ≤ m → lt l[m].f0 k = false
theorem bs_part {l : List SP} {k : ByteArray} (hs : Asc l) : ∀ f i j, i ≤ j → j ≤ l.length → j - i ≤ f → (∀ m (h : m < l.length), m < i → lt l[m].f0 k = true) → (∀ m (h : m < l.length), j ≤ m → lt l[m].f0 k = false) → Part l k (bsP l k f i j) := by
  intro f
  induction f with
  | zero =>
    intro i j hij hj hf hlo hhi
    obtain rfl : i = j := by omega
    exact ⟨hj, hlo, hhi⟩
  | succ f ih =>
    intro i j hij hj hf hlo hhi
    unfold bsP tree_Pair_string.bs
    by_cases h : i < j
    · rw [if_pos h]
      have hm : (i + j) / 2 < l.length := by omega
      rw [rdp_at l _ hm]
      by_cases hc : tree_Pair_string.cmp (l[(i + j) / 2]).f0 k < 0
      · rw [if_pos hc]
        have hc2 := (cmp_lt _ _).1 hc
        refine ih ((i + j) / 2 + 1) j (by omega) hj (by omega) (fun m h1 h2 => ?_) hhi
        rcases Nat.lt_or_ge m ((i + j) / 2) with h3 | h3
        · exact lt_tr _ _ _ (List.pairwise_iff_getElem.1 hs m ((i + j) / 2) h1 hm h3) hc2
        · obtain rfl : m = (i + j) / 2 := by omega
          exact hc2
      · rw [if_neg hc]
        have hc2 : lt (l[(i + j) / 2]).f0 k = false := by
          cases hb : lt (l[(i + j) / 2]).f0 k with
          | true => exact absurd ((cmp_lt _ _).2 hb) hc
          | false => rfl
        refine ih i ((i + j) / 2) (by omega) (by omega) (by omega) hlo (fun m h1 h2 => ?_)
        rcases Nat.eq_or_lt_of_le h2 with h3 | h3
        · subst h3; exact hc2
        · cases hb : lt (l[m]).f0 k with
          | false => rfl
          | true =>
            have := lt_tr _ _ _ (List.pairwise_iff_getElem.1 hs ((i + j) / 2) m hm h1 h3) hb
            rw [hc2] at this
            cases this
    · rw [if_neg h]
      obtain rfl : i = j := by omega
      exact ⟨hj, hlo, hhi⟩
/-- Seek: the place, and whether the key is there. -/
theorem Seek_eq {l : List SP} {k : ByteArray} (hs : Asc l) : ∃ (p : Nat) (b : Bool), tree_Seek.f l k = some ((p : Int), b) ∧ p ≤ l.length ∧ (∀ q ∈ l.take p, lt q.f0 k = true) ∧ (b = true → ∃ h : p < l.length, l[p].f0 = k) ∧ (b = false → (∀ q ∈ l, q.f0 ≠ k) ∧ ∀ q ∈ l.drop p, lt k q.f0 = true) := by
  have hp := bs_part (k := k) hs l.length 0 l.length (by omega) (Nat.le_refl _) (by omega) (fun m h1 h2 => by omega) (fun m h1 h2 => by omega)
  refine ⟨bsP l k l.length 0 l.length, _, rfl, hp.le, fun q hq => ?_, fun hb => ?_, fun hb => ?_⟩
  · obtain ⟨m, hm, rfl⟩ := List.mem_iff_getElem.1 hq
    rw [List.length_take] at hm
    rw [List.getElem_take]
    exact hp.lo m (by omega) (by omega)
  · simp only [Bool.and_eq_true, decide_eq_true_eq, beq_iff_eq] at hb
    refine ⟨hb.1, ?_⟩
    have h2 := hb.2
    rw [rdp_at l _ hb.1] at h2
    exact bytes_ext (by rw [ByteArray.toList_eq, ByteArray.toList_eq]; exact cB_zero _ _ h2)
  · have hne : ∀ q ∈ l, q.f0 ≠ k := by
      intro q hq e
      obtain ⟨m, hm, rfl⟩ := List.mem_iff_getElem.1 hq
      rcases Nat.lt_trichotomy m (bsP l k l.length 0 l.length) with h | h | h
      · have := hp.lo m hm h; rw [e, lt_self] at this; cases this
      · subst h
        rw [Bool.and_eq_false_iff] at hb
        rcases hb with hb | hb
        · simp only [decide_eq_false_iff_not] at hb; exact hb hm
        · rw [rdp_at l _ hm, e] at hb
          unfold tree_Pair_string.cmp at hb
          rw [cB_refl] at hb
          cases hb
      · have h1 : bsP l k l.length 0 l.length < l.length := by omega
        have h2 := hp.hi _ h1 (Nat.le_refl _)
        have h3 := List.pairwise_iff_getElem.1 hs _ m h1 hm h
        rw [e] at h3
        rw [h2] at h3
        cases h3
    refine ⟨hne, fun q hq => ?_⟩
    have hql : q ∈ l := List.mem_of_mem_drop hq
    obtain ⟨m, hm, rfl⟩ := List.mem_iff_getElem.1 hq
    rw [List.length_drop] at hm
    rw [List.getElem_drop] at hql ⊢
    exact lt_tri _ _ (hp.hi _ (by omega) (by omega)) (hne _ hql)
end Go.Proofs.YtkmkppchhdkipaaDoor.HTree
/- What Add, Cut and Find tell of a tree that is laid of pairs. -/
namespace Go.Proofs.YtkmkppchhdkipaaDoor.HTree
open Go.Lib Go.RowKit Go.Proofs.YtkmkppchhdkipaaDoorW.PrintWords Go.Proofs.YtkmkppchhdkipaaDoorW.PrintLast Go.Proofs.YtkmkppchhdkipaaDoor.PTr Go.Proofs.YtkmkppchhdkipaaDoor.HNum
set_option linter.unusedSimpArgs false
set_option linter.unusedVariables false
theorem key_is {k : ByteArray} (h : isKey k) : key_Is.f k = some true := by
  unfold key_Is.f
  rw [if_neg (fun e => by
    have : k.toList.length = k.size := by rw [ByteArray.toList_eq]; rfl
    rw [e] at this
    have := h.1
    simp at *; omega), decide_eq_true (by have := h.2; omega)]
theorem may_made {l : List SP} (h : Pairs l) : tree_May.f (madeN l) (madeR l : Int) [] = some true := by
  obtain ⟨hh, _, his⟩ := made_is h
  unfold tree_May.f
  exact if_pos ⟨l, hh, his⟩
theorem asked_ev {l : List SP} (h : Pairs l) {k : ByteArray} (hk : isKey k) : ∃ (p : Nat) (b : Bool), Ev (fun f => tree_asked.f f (madeN l) (madeR l : Int) [] k) (l, (p : Int), b, 0) ∧ p ≤ l.length ∧ (∀ q ∈ l.take p, lt q.f0 k = true) ∧ (b = true → ∃ h : p < l.length, l[p].f0 = k) ∧ (b = false → (∀ q ∈ l, q.f0 ≠ k) ∧ ∀ q ∈ l.drop p, lt k q.f0 = true) := by
  obtain ⟨p, b, hs, hr⟩ := Seek_eq (k := k) h.1
  obtain ⟨hh, _, his⟩ := made_is h
  refine ⟨p, b, ?_, hr⟩
  unfold tree_asked.f
  refine Ev.bind0 (may_made h) ?_
  refine Ev.if_pos rfl (Ev.bind0 (key_is hk) ?_)
  refine Ev.step (fun f => by rw [tree_asked.j0, if_neg (by decide)]) ?_
  refine Ev.bind (Pairs_ev _ _ _ his h.2.2) ?_
  rw [hs]
  exact Ev.now _
theorem Find_ev {l : List SP} (h : Pairs l) {k : ByteArray} (hk : isKey k) {r : Int} (hin : (⟨k, r⟩ : SP) ∈ l) : Ev (fun f => tree_Find.f f (madeN l) (madeR l : Int) [] k) (r, 0) := by
  obtain ⟨p, b, he, hp, hlo, ht, hf⟩ := asked_ev h hk
  cases b with
  | false => exact absurd rfl ((hf rfl).1 _ hin)
  | true =>
    obtain ⟨hpl, hkey⟩ := ht rfl
    unfold tree_Find.f
    refine Ev.bind he ?_
    dsimp only
    rw [if_pos rfl, if_pos rfl, if_pos (by omega), if_pos (by omega), rdp_at l p hpl]
    have e : l[p] = ⟨k, r⟩ := by
      obtain ⟨m, hm, e⟩ := List.mem_iff_getElem.1 hin
      rcases Nat.lt_trichotomy m p with hlt | rfl | hlt
      · have := List.pairwise_iff_getElem.1 h.1 m p hm hpl hlt; rw [e, hkey, lt_self] at this; cases this
      · exact e
      · have := List.pairwise_iff_getElem.1 h.1 p m hpl hm hlt; rw [e, hkey, lt_self] at this; cases this
    rw [e]
    exact Ev.now _
theorem Add_ev {key : Nat → ByteArray} {l : List SP} {S : Nat → Prop} (h : Has key l S) {k : Nat} (hk : isKey (key k)) (hr : k ≤ 1073741824) (hl : l.length < 100) (hno : ∀ q ∈ l, q.f0 ≠ key k) : ∃ l', Has key l' (fun j => S j ∨ j = k) ∧ l'.length = l.length + 1 ∧ Ev (fun f => tree_Add.f f (madeN l) (madeR l : Int) [] (key k) (k : Int)) (madeN l', (madeR l' : Int), [], 0) := by
  obtain ⟨p, b, he, hp, hlo, ht, hf⟩ := asked_ev h.1 hk
  cases b with
  | true => obtain ⟨hpl, e⟩ := ht rfl; exact absurd e (hno _ (List.getElem_mem hpl))
  | false =>
    have hins := h.ins hk hr hl p hlo (hf rfl).2 lt_tr
    refine ⟨_, hins, by simp only [List.length_append, List.length_cons, List.length_take, List.length_drop]; omega, ?_⟩
    unfold tree_Add.f
    refine Ev.bind he ?_
    dsimp only
    refine Ev.if_pos rfl (Ev.if_neg (by omega) ?_)
    rw [decide_eq_false (by omega)]
    refine Ev.step (fun f => by rw [tree_Add.j0, if_neg (by decide), if_neg (by decide)]) ?_
    have e1 : tree_Pair_51.f l (p : Int) [⟨key k, (k : Int)⟩] = some (l.take p ++ ⟨key k, (k : Int)⟩ :: l.drop p) := by
      unfold tree_Pair_51.f
      rw [if_pos ⟨rfl, by omega, by omega, by omega⟩]
      simp
    refine Ev.bind0 e1 ?_
    have e2 : tree_made.f (l.take p ++ ⟨key k, (k : Int)⟩ :: l.drop p) = some (madeN (l.take p ++ ⟨key k, (k : Int)⟩ :: l.drop p), (madeR (l.take p ++ ⟨key k, (k : Int)⟩ :: l.drop p) : Int), []) := by
      unfold tree_made.f; exact if_pos hins.1.2.2
    refine Ev.bind0 e2 ?_
    obtain ⟨_, _, _, _, _, h31, _⟩ := made_sub lt_anti lt_self lt_nil hins.1
    rw [if_neg (by simp only; omega)]
    exact Ev.now _
theorem Cut_ev {key : Nat → ByteArray} {l : List SP} {S : Nat → Prop} (h : Has key l S) {k : Nat} (hk : isKey (key k)) (hin : S k) (inj : ∀ j, S j → key j = key k → j = k) : ∃ l', Has key l' (fun j => S j ∧ j ≠ k) ∧ l'.length + 1 = l.length ∧ Ev (fun f => tree_Cut.f f (madeN l) (madeR l : Int) [] (key k)) (madeN l', (madeR l' : Int), [], 0) := by
  obtain ⟨p, b, he, hp, hlo, ht, hf⟩ := asked_ev h.1 hk
  cases b with
  | false => exact absurd rfl ((hf rfl).1 ⟨key k, (k : Int)⟩ ((h.2 _).2 ⟨k, hin, rfl⟩))
  | true =>
    obtain ⟨hpl, hkey⟩ := ht rfl
    have hdel := h.del lt_self hpl hkey inj
    refine ⟨_, hdel, by rw [List.length_eraseIdx_of_lt hpl]; omega, ?_⟩
    unfold tree_Cut.f
    refine Ev.bind he ?_
    dsimp only
    rw [if_pos rfl, if_pos rfl, wrap_succ p (by have := h.1.2.2; omega)]
    have e1 : tree_Pair_54.f l (p : Int) ((p + 1 : Nat) : Int) = some (l.eraseIdx p) := by
      unfold tree_Pair_54.f
      rw [if_pos ⟨by omega, by omega, by omega⟩]
      rfl
    refine Ev.bind0 e1 ?_
    have e2 : tree_made.f (l.eraseIdx p) = some (madeN (l.eraseIdx p), (madeR (l.eraseIdx p) : Int), []) := by
      unfold tree_made.f; exact if_pos hdel.1.2.2
    exact Ev.bind0 e2 (Ev.now _)
end Go.Proofs.YtkmkppchhdkipaaDoor.HTree
/- The keys of the laws: what digits tells of 100 + k and of 1000 + k. -/
namespace Go.Proofs.YtkmkppchhdkipaaDoor.HTree
open Go.Lib Go.RowKit Go.Proofs.YtkmkppchhdkipaaDoorW.PrintWords Go.Proofs.YtkmkppchhdkipaaDoorW.PrintLast Go.Proofs.YtkmkppchhdkipaaDoor.PTr Go.Proofs.YtkmkppchhdkipaaDoor.HNum
set_option linter.unusedSimpArgs false
set_option linter.unusedVariables false
set_option maxRecDepth 100000
theorem digA_all : ∀ k : Nat, k < 100 → (quorumlaw6_digits.f 5 (100 + (k : Int))).map (fun t => ((⟨#[107]⟩ : ByteArray) ++ t).data.toList) = some (keyA k).data.toList ∧ (quorumlaw6_digits.f 5 (100 + (k : Int))).map (fun t => t.size) = some 3 := by decide +kernel
theorem digB_all : ∀ k : Nat, k < 100 → (quorumlaw6_digits.f 6 (1000 + (k : Int))).map (fun t => ((⟨#[107]⟩ : ByteArray) ++ t).data.toList) = some (keyB k).data.toList ∧ (quorumlaw6_digits.f 6 (1000 + (k : Int))).map (fun t => t.size) = some 4 := by decide +kernel
theorem dig_ev {z : Int} {n : Nat} {key : ByteArray} {s : Nat} (h1 : (quorumlaw6_digits.f n z).map (fun t => ((⟨#[107]⟩ : ByteArray) ++ t).data.toList) = some key.data.toList) (h2 : (quorumlaw6_digits.f n z).map (fun t => t.size) = some s) : ∃ t, Ev (fun f => quorumlaw6_digits.f f z) t ∧ (⟨#[107]⟩ : ByteArray) ++ t = key ∧ t.size = s := by
  obtain ⟨t, ht, e1⟩ := Option.map_eq_some_iff.1 h1
  rw [ht] at h2
  refine ⟨t, Ev.of (fun k => quorumlaw6_digits.mono z k) ht, bytes_ext (by rw [ByteArray.toList_eq, ByteArray.toList_eq]; exact e1), Option.some.inj h2⟩
theorem digA {k : Nat} (h : k < 100) : ∃ t, Ev (fun f => quorumlaw6_digits.f f (wrap64 (100 + (k : Int)))) t ∧ (⟨#[107]⟩ : ByteArray) ++ t = keyA k ∧ t.size = 3 := by
  rw [show wrap64 (100 + (k : Int)) = 100 + (k : Int) from by unfold wrap64; omega]
  exact dig_ev (digA_all k h).1 (digA_all k h).2
theorem digB {k : Nat} (h : k < 100) : ∃ t, Ev (fun f => quorumlaw6_digits.f f (wrap64 (1000 + (k : Int)))) t ∧ (⟨#[107]⟩ : ByteArray) ++ t = keyB k ∧ t.size = 4 := by
  rw [show wrap64 (1000 + (k : Int)) = 1000 + (k : Int) from by unfold wrap64; omega]
  exact dig_ev (digB_all k h).1 (digB_all k h).2
end Go.Proofs.YtkmkppchhdkipaaDoor.HTree
/- What a law on trees needs of the tree's functions beside its own loops (the parts of HGrown and HEach that need no more of the program). -/
namespace Go.Proofs.YtkmkppchhdkipaaDoor.HTree
open Go.Lib Go.RowKit Go.Proofs.YtkmkppchhdkipaaDoorW.PrintWords Go.Proofs.YtkmkppchhdkipaaDoorW.PrintLast Go.Proofs.YtkmkppchhdkipaaDoor.PTr Go.Proofs.YtkmkppchhdkipaaDoor.HNum
set_option linter.unusedSimpArgs false
set_option linter.unusedVariables false
theorem sp_ext : ∀ {l m : List SP}, l.map (·.f0) = m.map (·.f0) → l.map (·.f1) = m.map (·.f1) → l = m
  | [], [], _, _ => rfl
  | [], _ :: _, h, _ => by simp at h
  | _ :: _, [], h, _ => by simp at h
  | a :: l, b :: m, h, h' => by
    simp only [List.map_cons, List.cons.injEq] at h h'
    have := sp_ext h.2 h'.2
    obtain ⟨a0, a1⟩ := a
    obtain ⟨b0, b1⟩ := b
    simp only at h h'
    rw [h.1, h'.1, this]
/-- What is below a node is one. -/
theorem sub_one {N : List SN} : ∀ {h1 h2 : Nat} {a1 a2 : Bool} {n : Nat} {lo1 hi1 lo2 hi2 : ByteArray} {t1 t2 : Bool} {v1 v2 : List Nat} {r1 r2 : List SP}, Sub N h1 a1 n lo1 hi1 t1 v1 r1 → Sub N h2 a2 n lo2 hi2 t2 v2 r2 → r1 = r2 ∧ h1 = h2
  | 0, _, _, _, _, _, _, _, _, _, _, _, _, _, _, h, _ => h.elim
  | _ + 1, 0, _, _, _, _, _, _, _, _, _, _, _, _, _, _, h => h.elim
  | h1 + 1, h2 + 1, _, _, _, _, _, _, _, _, _, _, _, _, _, ⟨x, hx, _, _, hc⟩, ⟨y, hy, _, _, hd⟩ => by
    rw [hx] at hy
    obtain rfl := Option.some.inj hy
    rcases hc with ⟨e3, rfl, _, _, b0, b1, _⟩ | ⟨e3, _, _, ks, vs, rr, bk, b1, b2, b3, _, rfl, bs⟩
    · rcases hd with ⟨_, rfl, _, _, c0, c1, _⟩ | ⟨f3, _⟩
      · exact ⟨sp_ext (b0.symm.trans c0) (b1.symm.trans c1), rfl⟩
      · rw [e3] at f3; cases f3
    · rcases hd with ⟨f3, _⟩ | ⟨f3, _, _, ks', vs', rr', ck, c1, c2, c3, _, rfl, cs⟩
      · rw [e3] at f3; cases f3
      · have hks : ks = ks' := by
          have := bk.symm.trans ck
          exact (List.map_inj_right (fun a b h => by omega)).1 this
        subst hks
        have each : ∀ i (h : i < ks.length), rr[i]'(by omega) = rr'[i]'(by omega) ∧ h1 = h2 := fun i h =>
          sub_one (bs i _ _ _ (List.getElem?_eq_getElem h) (List.getElem?_eq_getElem (show i < vs.length by omega)) (List.getElem?_eq_getElem (show i < rr.length by omega))) (cs i _ _ _ (List.getElem?_eq_getElem h) (List.getElem?_eq_getElem (show i < vs'.length by omega)) (List.getElem?_eq_getElem (show i < rr'.length by omega)))
        have e : rr = rr' := List.ext_getElem (by omega) (fun i h _ => (each i (by omega)).1)
        exact ⟨by rw [e], by rw [(each 0 (by omega)).2]⟩
theorem ref_made {l : List SP} (h : Pairs l) (h99 : ∀ p ∈ l, p.f1 < 100) : ∃ hh : Nat, hh ≤ 3 ∧ quorumref6_Tree.f (madeN l) (madeR l : Int) [] = some (rowsOf l, (hh : Int), true) := by
  obtain ⟨hh, h3, his⟩ := made_is h
  have hex : ∃ p : List SP × Nat, Small (madeN l) (madeR l : Int) [] p.1 p.2 := ⟨(l, hh), his, h99⟩
  have hsp := hex.choose_spec
  have e : hex.choose.1 = l ∧ hex.choose.2 = hh := by
    obtain ⟨_, _, n, _, e1, _, hs, _⟩ := his
    obtain ⟨⟨_, _, m, _, e2, _, hs', _⟩, _⟩ := hsp
    have : m = n := by rw [e1] at e2; omega
    subst this
    exact sub_one hs' hs
  refine ⟨hh, h3, ?_⟩
  unfold quorumref6_Tree.f
  rw [dif_pos hex, e.1, e.2]
theorem num_ev (e : Int) : quorumlaw6_num.f e = some e := rfl
theorem way_ev {f i n : Nat} (hf : f ≤ 2) (hi : i < n) (hn : n ≤ 1000) : quorumlaw6_way_at.f (f : Int) (i : Int) (n : Int) = some ((wayAt f i n : Nat) : Int) := by
  have e : Int.tmod (i : Int) 2 = ((i % 2 : Nat) : Int) := by rw [Int.tmod_eq_emod_of_nonneg (by omega)]; rfl
  have e2 : Int.tdiv (i : Int) 2 = ((i / 2 : Nat) : Int) := by rw [Int.tdiv_eq_ediv_of_nonneg (by omega)]; rfl
  have hc : f = 0 ∨ f = 1 ∨ f = 2 := by omega
  unfold quorumlaw6_way_at.f
  rcases hc with rfl | rfl | rfl
  · rfl
  · rw [show wayAt 1 i n = n - 1 - i from rfl, if_neg (by decide), if_pos (by decide)]
    congr 1
    unfold wrap64; omega
  · rw [show wayAt 2 i n = (if i % 2 = 0 then i / 2 else n - 1 - i / 2) from rfl, if_neg (by decide), if_neg (by decide), e, e2]
    by_cases h3 : i % 2 = 0
    · rw [if_pos (by omega), if_pos h3]
      congr 1
      unfold wrap64; omega
    · rw [if_neg (by omega), if_neg h3]
      congr 1
      unfold wrap64; omega
theorem Has.new (key : Nat → ByteArray) : Has key [] (fun _ => False) := ⟨⟨List.Pairwise.nil, by simp, by simp⟩, fun q => by simp⟩
theorem Has.rows {key : Nat → ByteArray} {l : List SP} {S : Nat → Prop} (h : Has key l S) (hS : ∀ k, S k → k < 100) : ∀ p ∈ l, p.f1 < 100 := fun p hp => by
  obtain ⟨k, hk, rfl⟩ := (h.2 p).1 hp
  have := hS k hk
  simp only; omega
def keyW (_ : Nat) : ByteArray := ⟨#[97]⟩
theorem wakes_ev : Ev (fun q => quorumlaw6_wakes.f q) true := by
  have hk : isKey (keyW 7) := by constructor <;> simp [keyW, ByteArray.size]
  obtain ⟨l, h, _, he⟩ := Add_ev (Has.new keyW) (k := 7) hk (by omega) (by simp) (by simp)
  have hf := Find_ev h.1 hk (r := 7) ((h.2 _).2 ⟨7, .inr rfl, rfl⟩)
  have e : tree_New.f = some (madeN [], (madeR [] : Int), []) := by simp [tree_New.f, madeN, madeR, leafOf]
  unfold quorumlaw6_wakes.f
  refine Ev.bind0 e ?_
  refine Ev.bind he ?_
  dsimp only
  refine Ev.bind hf ?_
  refine Ev.bind0 (num_ev _) (Ev.if_pos rfl ?_)
  refine Ev.bind0 (num_ev _) (Ev.if_pos rfl ?_)
  exact Ev.now _
end Go.Proofs.YtkmkppchhdkipaaDoor.HTree
