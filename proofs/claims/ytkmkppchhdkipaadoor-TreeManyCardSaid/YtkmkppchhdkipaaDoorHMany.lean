/- The law TreeMany, in plain Lean: it holds. -/
import Derived.Test.YtkmkppchhdkipaaDoorHDo2
import Derived.Test.YtkmkppchhdkipaaDoorPTrx9
namespace Go.Proofs.YtkmkppchhdkipaaDoor.HTree
open Go.Lib Go.RowKit Go.Proofs.YtkmkppchhdkipaaDoorW.PrintWords Go.Proofs.YtkmkppchhdkipaaDoorW.PrintLast Go.Proofs.YtkmkppchhdkipaaDoor.PTr Go.Proofs.YtkmkppchhdkipaaDoor.HNum
set_option linter.unusedSimpArgs false
set_option linter.unusedVariables false
theorem within_any (z : Int) (m : Nat) (h0 : 0 < m) (hm : m ≤ 1000) : ∃ q : Nat, q < m ∧ quorumlaw0_Within.f z (m : Int) = some (q : Int) := by
  unfold quorumlaw0_Within.f
  have e1 : IntKind.u64.wrap (m : Int) = (m : Int) := by
    simp only [IntKind.wrap, IntKind.signed, IntKind.bits]
    simp
    omega
  have h0' : 0 ≤ IntKind.u64.wrap z := by
    simp only [IntKind.wrap, IntKind.signed, IntKind.bits]
    simp
    omega
  rw [e1, if_neg (by omega)]
  generalize IntKind.u64.wrap z = y at h0'
  have e : Int.tmod y (m : Int) = y % (m : Int) := Int.tmod_eq_emod_of_nonneg h0'
  have h1 := Int.emod_nonneg y (show (m : Int) ≠ 0 by omega)
  have h2 := Int.emod_lt_of_pos y (show (0 : Int) < m by omega)
  rw [e]
  generalize y % (m : Int) = q at h1 h2
  refine ⟨q.toNat, by omega, ?_⟩
  congr 1
  unfold wrap64; omega
/-- What a tree weighs is told, whatever it is. -/
theorem weight_in (N : List SN) (r : Int) (fr : List Int) (hN : N.length < 9223372036854775807) (hw : ∀ x ∈ N, x.f0.length < 9223372036854775807) (d : Nat) : ∀ j, j + d = N.length → ∀ s : Int, ∃ v, Ev (fun k => quorumlaw0_TreeWeight.l0 k s (j : Int) N r fr) v := by
  induction d with
  | zero =>
    intro j hj s
    exact ⟨s, Ev.step (fun k => by rw [quorumlaw0_TreeWeight.l0, if_neg (by omega)]) (Ev.step (g := fun k => quorumlaw0_TreeWeight.j1 k s (j : Int) false N r fr) (fun k => by rw [quorumlaw0_TreeWeight.j1, if_neg (by decide)]) (Ev.now _))⟩
  | succ d ih =>
    intro j hj s
    have hjn : j < N.length := by omega
    have er : rd_T85 N (j : Int) = N[j] := by simp [rd_T85, List.getD_eq_getElem?_getD, hjn]
    have hx := hw N[j] (List.getElem_mem hjn)
    have keys : ∀ e i, i + e = (N[j]).f0.length → ∀ s : Int, ∃ v, Ev (fun k => quorumlaw0_TreeWeight.l1 k s (j : Int) (i : Int) N r fr) v := by
      intro e
      induction e with
      | zero =>
        intro i hi s
        obtain ⟨v, hv⟩ := ih (j + 1) (by omega) s
        exact ⟨v, Ev.step (fun k => by rw [quorumlaw0_TreeWeight.l1, if_pos (by omega), if_pos (by omega), er, if_neg (by omega)]) (Ev.step (g := fun k => quorumlaw0_TreeWeight.j3 k s (j : Int) (i : Int) false N r fr) (fun k => by rw [quorumlaw0_TreeWeight.j3, if_neg (by decide), wrap_succ j (by omega)]) hv)⟩
      | succ e ihe =>
        intro i hi s
        by_cases hs : s < 1048576
        · obtain ⟨v, hv⟩ := ihe (i + 1) (by omega) (wrap64 (s + (wrap64 (((rdOf ByteArray.empty ((N[j]).f0) (i : Int)).size : Int) / 8))))
          exact ⟨v, Ev.step (fun k => by rw [quorumlaw0_TreeWeight.l1, if_pos (by omega), if_pos (by omega), er, if_pos (by omega), decide_eq_true hs]) (Ev.step (g := fun k => quorumlaw0_TreeWeight.j3 k s (j : Int) (i : Int) true N r fr) (fun k => by rw [quorumlaw0_TreeWeight.j3, if_pos rfl, if_pos (by omega), if_pos (by omega), if_pos (by omega), er, if_pos (by omega), wrap_succ i (by omega)]) hv)⟩
        · obtain ⟨v, hv⟩ := ih (j + 1) (by omega) s
          exact ⟨v, Ev.step (fun k => by rw [quorumlaw0_TreeWeight.l1, if_pos (by omega), if_pos (by omega), er, if_pos (by omega), decide_eq_false hs]) (Ev.step (g := fun k => quorumlaw0_TreeWeight.j3 k s (j : Int) (i : Int) false N r fr) (fun k => by rw [quorumlaw0_TreeWeight.j3, if_neg (by decide), wrap_succ j (by omega)]) hv)⟩
    by_cases hs : s < 1048576
    · obtain ⟨v, hv⟩ := keys (N[j]).f0.length 0 (by omega) (wrap64 ((wrap64 ((wrap64 (s + (((N[j]).f0).length : Int))) + (((N[j]).f1).length : Int))) + (((N[j]).f2).length : Int)))
      exact ⟨v, Ev.step (fun k => by rw [quorumlaw0_TreeWeight.l0, if_pos (by omega), decide_eq_true hs]) (Ev.step (g := fun k => quorumlaw0_TreeWeight.j1 k s (j : Int) true N r fr) (fun k => by rw [quorumlaw0_TreeWeight.j1, if_pos rfl, if_pos (by omega), if_pos (by omega), er]; rfl) hv)⟩
    · exact ⟨s, Ev.step (fun k => by rw [quorumlaw0_TreeWeight.l0, if_pos (by omega), decide_eq_false hs]) (Ev.step (g := fun k => quorumlaw0_TreeWeight.j1 k s (j : Int) false N r fr) (fun k => by rw [quorumlaw0_TreeWeight.j1, if_neg (by decide)]) (Ev.now _))⟩
theorem heavy_in (N : List SN) (r : Int) (fr : List Int) (A : List S70) (hA : A.length < 9223372036854775807) (d : Nat) : ∀ j, j + d = A.length → ∀ s : Int, ∃ b, Ev (fun k => quorumlaw6_Heavy.l0 k s (j : Int) N r fr A) b := by
  induction d with
  | zero =>
    intro j hj s
    exact ⟨_, Ev.step (fun k => by rw [quorumlaw6_Heavy.l0, if_neg (by omega)]) (Ev.step (g := fun k => quorumlaw6_Heavy.j1 k s (j : Int) false N r fr A) (fun k => by rw [quorumlaw6_Heavy.j1, if_neg (by decide)]) (Ev.now _))⟩
  | succ d ih =>
    intro j hj s
    by_cases hs : s < 1048576
    · obtain ⟨v, hv⟩ := ih (j + 1) (by omega) (wrap64 (s + (wrap64 ((((rd_T70 A (j : Int)).f2).size : Int) / 8))))
      exact ⟨v, Ev.step (fun k => by rw [quorumlaw6_Heavy.l0, if_pos (by omega), decide_eq_true hs]) (Ev.step (g := fun k => quorumlaw6_Heavy.j1 k s (j : Int) true N r fr A) (fun k => by rw [quorumlaw6_Heavy.j1, if_pos rfl, if_pos (by omega), if_pos (by omega), wrap_succ j (by omega)]) hv)⟩
    · exact ⟨_, Ev.step (fun k => by rw [quorumlaw6_Heavy.l0, if_pos (by omega), decide_eq_false hs]) (Ev.step (g := fun k => quorumlaw6_Heavy.j1 k s (j : Int) false N r fr A) (fun k => by rw [quorumlaw6_Heavy.j1, if_neg (by decide)]) (Ev.now _))⟩
theorem heavy_ev (N : List SN) (r : Int) (fr : List Int) (A : List S70) (hN : N.length < 9223372036854775807) (hw : ∀ x ∈ N, x.f0.length < 9223372036854775807) (hA : A.length < 9223372036854775807) : ∃ b, Ev (fun k => quorumlaw6_Heavy.f k N r fr A) b := by
  obtain ⟨v, hv⟩ := weight_in N r fr hN hw N.length 0 (by omega) (wrap64 ((N.length : Int) + (fr.length : Int)))
  obtain ⟨b, hb⟩ := heavy_in N r fr A hA A.length 0 (by omega) (wrap64 (v + (A.length : Int)))
  refine ⟨b, ?_⟩
  unfold quorumlaw6_Heavy.f quorumlaw0_TreeWeight.f
  exact Ev.bind (f := fun k t => quorumlaw6_Heavy.l0 k (wrap64 (t + (A.length : Int))) 0 N r fr A) hv hb
/-- The key of a round: by steps of b. -/
def stepAt (n b i : Nat) : Nat := if n % b = 0 then i else (i * b) % n
def bys : List Nat := [1, 7, 11, 37, 101]
theorem stepInv : ∀ n, n < 100 → ∀ b ∈ bys, (n < 2 ∨ n % b = 0 ∨ (List.range n).any (fun c => (b * c) % n == 1) = true) := by decide +kernel
theorem inv_of {n b : Nat} (h2 : 2 ≤ n) (h : n < 100) (hb : b ∈ bys) (h0 : n % b ≠ 0) : ∃ c, (b * c) % n = 1 := by
  rcases stepInv n h b hb with h | h | h
  · omega
  · exact absurd h h0
  · obtain ⟨c, _, hc⟩ := List.any_eq_true.1 h
    exact ⟨c, by simpa using hc⟩
theorem back {n b c i : Nat} (hc : (b * c) % n = 1) (hi : i < n) : (((i * b) % n) * c) % n = i := by
  rw [Nat.mod_mul_mod, Nat.mul_assoc, Nat.mul_mod, hc, Nat.mul_one, Nat.mod_mod, Nat.mod_eq_of_lt hi]
theorem step_lt {n b i : Nat} (h : i < n) : stepAt n b i < n := by
  unfold stepAt; split
  · exact h
  · exact Nat.mod_lt _ (by omega)
theorem step_inj {n b i j : Nat} (h2 : 2 ≤ n) (hn : n < 100) (hb : b ∈ bys) (hi : i < n) (hj : j < n) (h : stepAt n b i = stepAt n b j) : i = j := by
  unfold stepAt at h
  split at h
  · exact h
  · rename_i h0
    obtain ⟨c, hc⟩ := inv_of h2 hn hb h0
    rw [← back hc hi, h, back hc hj]
theorem step_all {n b k : Nat} (h2 : 2 ≤ n) (hn : n < 100) (hb : b ∈ bys) (hk : k < n) : ∃ i, i < n ∧ stepAt n b i = k := by
  unfold stepAt
  split
  · exact ⟨k, hk, rfl⟩
  · rename_i h0
    obtain ⟨c, hc⟩ := inv_of h2 hn hb h0
    refine ⟨(k * c) % n, Nat.mod_lt _ (by omega), ?_⟩
    exact back (b := c) (c := b) (by rw [Nat.mul_comm]; exact hc) hk
/-- How deep a tree is. -/
theorem deep_from {N : List SN} (r : Int) (fr : List Int) : ∀ {h : Nat} {rt : Bool} {n : Nat} {lo hi : ByteArray} {top : Bool} {vis : List Nat} {rs : List SP}, Sub N h rt n lo hi top vis rs → ∀ c : Nat, c + h ≤ 1000 → ∀ x, N[n]? = some x → Ev (fun k => tree_Deep.l0 k (c : Int) N r fr x.f0 x.f1 x.f2 x.f3) (((c + h - 1 : Nat) : Int), 0)
  | 0, _, _, _, _, _, _, _, h, _, _, _, _ => h.elim
  | h + 1, _, _, _, _, _, _, _, ⟨y, hy, h4, _, hc⟩, c, hb, x, hx => by
    obtain rfl : y = x := by rw [hy] at hx; exact Option.some.inj hx
    rcases hc with ⟨f3, rfl, _⟩ | ⟨f3, _, _, ks, vs, rr, gk, gl, glv, glr, _, _, hs⟩
    · exact Ev.step (f := fun _ => some ((c : Int), (0 : Int))) (fun k => by rw [tree_Deep.l0, if_pos f3]) (Ev.const (by rw [show c + (0 + 1) - 1 = c from by omega]))
    · have h0 : 0 < ks.length := by omega
      have hsub := hs 0 _ _ _ (List.getElem?_eq_getElem h0) (List.getElem?_eq_getElem (show 0 < vs.length by omega)) (List.getElem?_eq_getElem (show 0 < rr.length by omega))
      have hz : ∃ z, N[ks[0]]? = some z := by
        cases h with
        | zero => exact hsub.elim
        | succ h => obtain ⟨z, hz, _⟩ := hsub; exact ⟨z, hz⟩
      obtain ⟨z, hz⟩ := hz
      have hlt : ks[0] < N.length := (List.getElem?_eq_some_iff.1 hz).1
      have e1 : rd y.f2 0 = ((ks[0] : Nat) : Int) := by rw [gk]; simp [rd, List.getD_eq_getElem?_getD, h0]
      have e2 : rd_T85 N ((ks[0] : Nat) : Int) = z := by simp [rd_T85, List.getD_eq_getElem?_getD, hz]
      have hr := deep_from r fr hsub (c + 1) (by omega) z hz
      rw [show c + 1 + h - 1 = c + (h + 1) - 1 from by omega] at hr
      exact Ev.step (fun k => by rw [tree_Deep.l0, if_neg (by rw [f3]; decide), if_pos (by rw [gk, List.length_map]; omega), e1, if_pos (by omega), if_pos (by omega), e2, wrap_succ c (by omega)]) hr
theorem deep_ev {l : List SP} (h : Pairs l) : ∃ hh : Nat, hh ≤ 3 ∧ Ev (fun k => tree_Deep.f k (madeN l) (madeR l : Int) []) ((hh : Int), 0) := by
  obtain ⟨hh, h3, his⟩ := made_is h
  refine ⟨hh, h3, ?_⟩
  have hmay := may_made h
  obtain ⟨_, _, n, vis, e, hn, hs, _⟩ := his
  have en : madeR l = n := by omega
  have hx : (madeN l)[n]? = some ((madeN l)[n]) := List.getElem?_eq_getElem hn
  have er : rd_T85 (madeN l) ((n : Nat) : Int) = (madeN l)[n] := by simp [rd_T85, List.getD_eq_getElem?_getD, hn]
  have hd := deep_from (madeR l : Int) [] hs 1 (by omega) _ hx
  rw [show 1 + hh - 1 = hh from by omega] at hd
  refine Ev.congr (fun k => ?_) hd
  rw [tree_Deep.f, hmay, Option.bind_some, if_pos rfl, if_pos (by omega), if_pos (by omega), en, er]
  rfl
theorem count_ev {l : List SP} (h : Pairs l) : Ev (fun k => tree_Count.f k (madeN l) (madeR l : Int) []) ((l.length : Int), 0) := by
  obtain ⟨hh, _, his⟩ := made_is h
  have hp := Pairs_ev (madeN l) (madeR l : Int) [] his h.2.2
  have hb := Ev.bind (f := fun k (t : List SP) => some ((t.length : Int), (0 : Int))) hp (Ev.now _)
  refine Ev.congr (fun k => ?_) hb
  rw [tree_Count.f, may_made h, Option.bind_some, if_pos rfl]
theorem ref_is {N : List SN} {r : Int} {fr : List Int} {l : List SP} {hh : Nat} (his : Is N r fr l hh) (h99 : ∀ p ∈ l, p.f1 < 100) : quorumref6_Tree.f N r fr = some (rowsOf l, (hh : Int), true) := by
  have hex : ∃ p : List SP × Nat, Small N r fr p.1 p.2 := ⟨(l, hh), his, h99⟩
  have hsp := hex.choose_spec
  have e : hex.choose.1 = l ∧ hex.choose.2 = hh := by
    obtain ⟨_, _, n, _, e1, _, hs, _⟩ := his
    obtain ⟨⟨_, _, m, _, e2, _, hs', _⟩, _⟩ := hsp
    have : m = n := by rw [e1] at e2; omega
    subst this
    exact sub_one hs' hs
  unfold quorumref6_Tree.f
  rw [dif_pos hex, e.1, e.2]
theorem ref_nil : quorumref6_Tree.f (madeN []) (madeR [] : Int) [] = some ([], 1, true) := by
  obtain ⟨hh, _, his⟩ := made_is (Has.new keyB).1
  have h1 : hh = 1 := by
    obtain ⟨_, _, n, _, _, hn, hs, _⟩ := his
    cases hh with
    | zero => exact hs.elim
    | succ h =>
      obtain ⟨x, hx, _, _, hc⟩ := hs
      rcases hc with ⟨_, rfl, _⟩ | ⟨f3, _⟩
      · rfl
      · have em : madeN [] = [leafOf []] := by simp [madeN]
        rw [em] at hx hn
        obtain rfl : n = 0 := by simpa using hn
        simp only [List.getElem?_cons_zero, Option.some.injEq] at hx
        rw [← hx] at f3
        simp [leafOf] at f3
  subst h1
  have := ref_is his (by simp)
  simpa [rowsOf] using this
/-- All are cut. -/
theorem many_cut (n : Nat) (h20 : 20 ≤ n) (hn : n ≤ 99) (d : Nat) : ∀ i l, i + d = n → l.length + i = n → Has keyB l (fun k => k < n ∧ ∀ j, j < i → k ≠ wayAt 2 j n) →
    Ev (fun q => quorumlaw6_TreeMany.l2 q (n : Int) (i : Int) (madeN l) (madeR l : Int) []) true := by
  induction d with
  | zero =>
    intro i l hid hl h
    obtain rfl : l = [] := List.eq_nil_of_length_eq_zero (by omega)
    refine Ev.step (fun q => by rw [quorumlaw6_TreeMany.l2, if_neg (by omega), ref_nil, Option.bind_some]) ?_
    exact Ev.if_pos rfl (Ev.if_pos rfl (Ev.if_pos rfl (Ev.bind wakes_ev (Ev.now _))))
  | succ d ih =>
    intro i l hid hl h
    have hin : i < n := by omega
    have hw := way_lt (f := 2) hin
    obtain ⟨t, ht, hkey, hs⟩ := digB (k := wayAt 2 i n) (by omega)
    obtain ⟨l2, h2, hl2, he⟩ := Cut_ev h (keyB_is (wayAt 2 i n)) ⟨hw, fun j hj e => by have := way_inj hin (by omega) e; omega⟩ (fun j hj e => keyB_inj (by omega) (by omega) e)
    have h3 : Has keyB l2 (fun k => k < n ∧ ∀ j, j < i + 1 → k ≠ wayAt 2 j n) := ⟨h2.1, fun q => (h2.2 q).trans ⟨fun ⟨k, hk, e⟩ => ⟨k, ⟨hk.1.1, fun j hj => by
      rcases Nat.lt_or_ge j i with hj3 | hj3
      · exact hk.1.2 j hj3
      · obtain rfl : j = i := by omega
        exact hk.2⟩, e⟩, fun ⟨k, hk, e⟩ => ⟨k, ⟨⟨hk.1, fun j hj => hk.2 j (by omega)⟩, hk.2 i (by omega)⟩, e⟩⟩⟩
    have hj := ih (i + 1) l2 (by omega) (by omega) h3
    have hj6 : Ev (fun q => quorumlaw6_TreeMany.j6 q (n : Int) (i : Int) ((wayAt 2 i n : Nat) : Int) (madeN l) (madeR l : Int) []) true := by
      refine Ev.step (fun q => by rw [quorumlaw6_TreeMany.j6]) ?_
      refine Ev.bind ht ?_
      refine Ev.if_pos (by omega) ?_
      rw [hkey]
      refine Ev.bind he ?_
      dsimp only
      refine Ev.bind0 (num_ev _) (Ev.if_pos rfl ?_)
      rw [wrap_succ i (by omega)]
      exact hj
    have e : Int.tmod (i : Int) 2 = ((i % 2 : Nat) : Int) := by rw [Int.tmod_eq_emod_of_nonneg (by omega)]; rfl
    have e2 : Int.tdiv (i : Int) 2 = ((i / 2 : Nat) : Int) := by rw [Int.tdiv_eq_ediv_of_nonneg (by omega)]; rfl
    refine Ev.step (fun q => ?_) hj6
    rw [quorumlaw6_TreeMany.l2, if_pos (by omega), e, e2, show wayAt 2 i n = (if i % 2 = 0 then i / 2 else n - 1 - i / 2) from rfl]
    by_cases h3 : i % 2 = 0
    · rw [if_pos (by omega), if_pos h3]
      congr 1
      unfold wrap64; omega
    · rw [if_neg (by omega), if_neg h3]
      congr 1
      unfold wrap64; omega
/-- All are found. -/
theorem many_find (n : Nat) (h20 : 20 ≤ n) (hn : n ≤ 99) {l : List SP} (h : Has keyB l (fun k => k < n)) (hl : l.length = n) (d : Nat) : ∀ i, i + d = n →
    Ev (fun q => quorumlaw6_TreeMany.l1 q (n : Int) (i : Int) (madeN l) (madeR l : Int) []) true := by
  induction d with
  | zero =>
    intro i hid
    have := many_cut n h20 hn n 0 l (by omega) (by omega) ⟨h.1, fun q => (h.2 q).trans ⟨fun ⟨k, hk, e⟩ => ⟨k, ⟨hk, fun j hj => by omega⟩, e⟩, fun ⟨k, hk, e⟩ => ⟨k, hk.1, e⟩⟩⟩
    exact Ev.step (fun q => by rw [quorumlaw6_TreeMany.l1, if_neg (by omega)]; rfl) this
  | succ d ih =>
    intro i hid
    obtain ⟨t, ht, hkey, hs⟩ := digB (k := i) (by omega)
    have hf := Find_ev h.1 (keyB_is i) (r := (i : Int)) ((h.2 _).2 ⟨i, by omega, rfl⟩)
    have hj := ih (i + 1) (by omega)
    have hj4 : Ev (fun q => quorumlaw6_TreeMany.j4 q (n : Int) (i : Int) false (madeN l) (madeR l : Int) []) true := Ev.step (fun q => by rw [quorumlaw6_TreeMany.j4, if_neg (by decide), wrap_succ i (by omega)]) hj
    refine Ev.step (fun q => by rw [quorumlaw6_TreeMany.l1, if_pos (by omega)]) ?_
    refine Ev.bind ht ?_
    refine Ev.if_pos (by omega) ?_
    rw [hkey]
    refine Ev.bind hf ?_
    dsimp only
    refine Ev.bind0 (num_ev _) (Ev.if_pos rfl ?_)
    rw [bne_self_eq_false]
    exact hj4
/-- All are added. -/
theorem many_add (n b : Nat) (h20 : 20 ≤ n) (hn : n ≤ 99) (hb : b ∈ bys) (d : Nat) : ∀ i l, i + d = n → l.length = i → Has keyB l (fun k => ∃ j, j < i ∧ k = stepAt n b j) →
    Ev (fun q => quorumlaw6_TreeMany.l0 q (n : Int) (b : Int) (i : Int) (madeN l) (madeR l : Int) []) true := by
  have hb0 : 0 < b ∧ b ≤ 101 := by
    simp only [bys, List.mem_cons, List.not_mem_nil, or_false] at hb
    omega
  induction d with
  | zero =>
    intro i l hid hl h
    obtain rfl : i = n := by omega
    have h2 : Has keyB l (fun k => k < i) := ⟨h.1, fun q => (h.2 q).trans ⟨fun ⟨k, ⟨j, hj, e⟩, e2⟩ => ⟨k, by rw [e]; exact step_lt hj, e2⟩, fun ⟨k, hk, e⟩ => by
      obtain ⟨j, hj, e2⟩ := step_all (b := b) (by omega) (by omega) hb hk
      exact ⟨k, ⟨j, hj, e2.symm⟩, e⟩⟩⟩
    obtain ⟨hh, h3, hd⟩ := deep_ev h.1
    have hj2 : Ev (fun q => quorumlaw6_TreeMany.j2 q (i : Int) false (madeN l) (madeR l : Int) []) true := Ev.step (fun q => by rw [quorumlaw6_TreeMany.j2, if_neg (by decide)]; rfl) (many_find i h20 hn h2 hl i 0 (by omega))
    refine Ev.step (fun q => by rw [quorumlaw6_TreeMany.l0, if_neg (by omega)]) ?_
    refine Ev.bind (count_ev h.1) ?_
    refine Ev.bind hd ?_
    dsimp only
    refine Ev.bind0 (num_ev _) (Ev.if_pos rfl ?_)
    refine Ev.bind0 (num_ev _) (Ev.if_pos rfl (Ev.if_pos (by omega) ?_))
    rw [decide_eq_false (by omega)]
    exact hj2
  | succ d ih =>
    intro i l hid hl h
    have hin : i < n := by omega
    have hw := step_lt (b := b) hin
    obtain ⟨t, ht, hkey, hs⟩ := digB (k := stepAt n b i) (by omega)
    have hno : ∀ q ∈ l, q.f0 ≠ keyB (stepAt n b i) := by
      intro q hq e
      obtain ⟨k, ⟨j, hj, rfl⟩, rfl⟩ := (h.2 q).1 hq
      have hj2 := step_lt (b := b) (show j < n by omega)
      have := step_inj (by omega) (by omega) hb (by omega) hin (keyB_inj (by omega) (by omega) e)
      omega
    obtain ⟨l2, h2, hl2, he⟩ := Add_ev h (keyB_is _) (by omega) (by omega) hno
    have h3 : Has keyB l2 (fun k => ∃ j, j < i + 1 ∧ k = stepAt n b j) := ⟨h2.1, fun q => (h2.2 q).trans ⟨fun ⟨k, hk, e⟩ => ⟨k, by rcases hk with ⟨j, hj, e2⟩ | e2; exact ⟨j, by omega, e2⟩; exact ⟨i, by omega, e2⟩, e⟩, fun ⟨k, ⟨j, hj, e2⟩, e⟩ => ⟨k, by
      rcases Nat.lt_or_ge j i with hj3 | hj3
      · exact .inl ⟨j, hj3, e2⟩
      · obtain rfl : j = i := by omega
        exact .inr e2, e⟩⟩⟩
    have hj := ih (i + 1) l2 (by omega) (by omega) h3
    have hj1 : Ev (fun q => quorumlaw6_TreeMany.j1 q (n : Int) (b : Int) (i : Int) ((stepAt n b i : Nat) : Int) (madeN l) (madeR l : Int) []) true := by
      refine Ev.step (fun q => by rw [quorumlaw6_TreeMany.j1]) ?_
      refine Ev.bind ht ?_
      refine Ev.if_pos (by omega) ?_
      rw [hkey]
      refine Ev.bind he ?_
      dsimp only
      refine Ev.bind0 (num_ev _) (Ev.if_pos rfl ?_)
      rw [wrap_succ i (by omega)]
      exact hj
    have e : Int.tmod (n : Int) (b : Int) = ((n % b : Nat) : Int) := by rw [Int.tmod_eq_emod_of_nonneg (by omega)]; rfl
    have hm : i * b ≤ 99 * 101 := Nat.mul_le_mul (by omega) (by omega)
    have e2 : wrap64 ((i : Int) * (b : Int)) = ((i * b : Nat) : Int) := by
      rw [← Int.natCast_mul]
      generalize i * b = z at hm
      unfold wrap64; omega
    have e3 : ∀ z : Nat, Int.tmod (z : Int) (n : Int) = ((z % n : Nat) : Int) := fun z => by rw [Int.tmod_eq_emod_of_nonneg (by omega)]; rfl
    refine Ev.step (fun q => ?_) hj1
    rw [quorumlaw6_TreeMany.l0, if_pos (by omega), if_neg (by omega), if_neg (by omega), e, e2, e3]
    unfold stepAt
    by_cases h4 : n % b = 0
    · rw [if_pos (by omega), if_pos h4]
    · rw [if_neg (by omega), if_neg h4]
theorem TreeMany_ev (N : List SN) (r : Int) (fr : List Int) (A : List S70) (hN : N.length < 9223372036854775807) (hw : ∀ x ∈ N, x.f0.length < 9223372036854775807) (hA : A.length < 9223372036854775807) : Ev (fun q => quorumlaw6_TreeMany.f q N r fr A) true := by
  obtain ⟨hv, hh⟩ := heavy_ev N r fr A hN hw hA
  unfold quorumlaw6_TreeMany.f
  refine Ev.bind hh ?_
  cases hv with
  | true => exact Ev.if_pos rfl (Ev.now _)
  | false =>
    obtain ⟨m, hm, em⟩ := within_any (wrap64 ((A.length : Int) * 13)) 80 (by omega) (by omega)
    obtain ⟨w, hw5, ew⟩ := within_any (A.length : Int) 5 (by omega) (by omega)
    have e : tree_New.f = some (madeN [], (madeR [] : Int), []) := by simp [tree_New.f, madeN, madeR, leafOf]
    have eb : ∃ b, b ∈ bys ∧ rd ([1, 7, 11, 37, 101] : List Int) (w : Int) = (b : Int) := by
      have : w = 0 ∨ w = 1 ∨ w = 2 ∨ w = 3 ∨ w = 4 := by omega
      rcases this with rfl | rfl | rfl | rfl | rfl
      · exact ⟨1, by decide, rfl⟩
      · exact ⟨7, by decide, rfl⟩
      · exact ⟨11, by decide, rfl⟩
      · exact ⟨37, by decide, rfl⟩
      · exact ⟨101, by decide, rfl⟩
    obtain ⟨b, hb, eb⟩ := eb
    have e20 : wrap64 (20 + (m : Int)) = ((20 + m : Nat) : Int) := by unfold wrap64; omega
    have h0 := many_add (20 + m) b (by omega) (by omega) hb (20 + m) 0 [] (by omega) rfl ⟨(Has.new keyB).1, fun q => by simp⟩
    refine Ev.if_neg (by decide) ?_
    refine Ev.bind0 em ?_
    refine Ev.bind0 (a := ([1, 7, 11, 37, 101] : List Int)) rfl ?_
    refine Ev.bind0 ew ?_
    refine Ev.if_pos (by omega) (Ev.if_pos (by simp; omega) ?_)
    refine Ev.bind0 e ?_
    dsimp only
    rw [eb, e20]
    exact h0
end Go.Proofs.YtkmkppchhdkipaaDoor.HTree
