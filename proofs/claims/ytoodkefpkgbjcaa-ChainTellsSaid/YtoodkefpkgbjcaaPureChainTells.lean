/- ChainTells: the pure statement's proof: each call of package chain tells what the reference says. -/
import Derived.Test.YtoodkefpkgbjcaaOpChainTells
import Derived.Test.YtoodkefpkgbjcaaHChainMore
import Derived.Test.YtoodkefpkgbjcaaHChainHeavy
set_option linter.unusedSimpArgs false
set_option linter.unusedVariables false
set_option linter.unusedSectionVars false
namespace Go.Proofs.Ytoodkefpkgbjcaa.Pure
open Go.RowKit Go.Proofs.Ytoodkefpkgbjcaa.PCht Go.Proofs.Ytoodkefpkgbjcaa.HNum Go.Proofs.Ytoodkefpkgbjcaa.HChain Go.Proofs.YtoodkefpkgbjcaaW.PrintWords Go.Proofs.YtoodkefpkgbjcaaW.PrintLast
section
variable (c : List Ch) (v : List V) (ns : List Int) (s : List ByteArray)
/-! ### new chains -/
theorem tells_new (hv : v.length ≤ 4611686018427387904) (i : Nat) (hi : i < s.length) (hs : s.length ≤ 4611686018427387904) (go : Ev (fun k => quorumlaw8_ChainTells.l4 k ((i + 1 : Nat) : Int) c v ns s) true) (d : Nat) : ∀ j : Nat, j + d = v.length → Ev (fun k => quorumlaw8_ChainTells.l5 k (i : Int) (j : Int) c v ns s) true := by
  have stop : ∀ j : Int, Ev (fun k => quorumlaw8_ChainTells.j18 k (i : Int) j false c v ns s) true := fun j => by
    refine Ev.step (fun k => by simp only [quorumlaw8_ChainTells.j18]; rfl) ?_
    refine Ev.if_neg (by simp) ?_
    rw [wrap_succ i (by omega)]
    exact go
  induction d with
  | zero =>
    intro j hj
    refine Ev.step (fun k => by simp only [quorumlaw8_ChainTells.l5]; rfl) ?_
    exact Ev.if_neg (by omega) (stop _)
  | succ d ih =>
    intro j hj
    have hlt : j < v.length := by omega
    refine Ev.step (fun k => by simp only [quorumlaw8_ChainTells.l5]; rfl) ?_
    refine Ev.if_pos (by omega) ?_
    by_cases h6 : (j : Int) < 6
    · rw [decide_eq_true h6]
      have next : Ev (fun k => quorumlaw8_ChainTells.j21 k (i : Int) (j : Int) false c v ns s) true := by
        refine Ev.step (fun k => by simp only [quorumlaw8_ChainTells.j21]; rfl) ?_
        refine Ev.if_neg (by simp) ?_
        rw [wrap_succ j (by omega)]
        exact ih (j + 1) (by omega)
      have same : ∀ (a : Int) (x : ByteArray) (l : List V), l.length ≤ 1 → Ev (fun k => quorumlaw8_ChainTells.j20 k (i : Int) (j : Int) a a c v ns s x l x l) true := fun a x l hl => by
        refine Ev.step (fun k => by simp only [quorumlaw8_ChainTells.j20]; rfl) ?_
        refine Ev.bind0 (num_eq _) ?_
        refine Ev.if_pos (by first | rfl | trivial) ?_
        refine Ev.bind (EqChain_same x l (by omega)) ?_
        exact next
      have no : ∀ b : Bool, b = false → Ev (fun k => quorumlaw8_ChainTells.j19 k (i : Int) (j : Int) 1 1 b c v ns s ⟨#[]⟩ [] ⟨#[]⟩) true := fun b hb => by
        subst hb
        refine Ev.step (fun k => by simp only [quorumlaw8_ChainTells.j19]; rfl) ?_
        refine Ev.if_neg (by simp) ?_
        exact same 1 _ [] (by simp)
      refine Ev.step (fun k => by simp only [quorumlaw8_ChainTells.j18]; rfl) ?_
      rw [rd_at v j hlt]
      refine Ev.if_pos (by first | rfl | trivial) ?_
      refine Ev.if_pos (by omega) ?_
      refine Ev.if_pos (by omega) ?_
      refine Ev.if_pos (by omega) ?_
      refine Ev.if_pos (by omega) ?_
      refine Ev.bind (New_ev _ _) ?_
      refine Ev.bind0 (ref_Key_eq _) ?_
      by_cases h : keyOK (rdOf ByteArray.empty s (i : Int)) = true ∧ vOK v[j] = true
      · rw [if_pos h]
        refine Ev.if_pos h.1 ?_
        refine Ev.bind0 (ref_Version_eq _) ?_
        rw [h.2]
        refine Ev.step (fun k => by simp only [quorumlaw8_ChainTells.j19]; rfl) ?_
        rw [rd_at v j hlt]
        refine Ev.if_pos (by first | rfl | trivial) ?_
        refine Ev.if_pos (by omega) ?_
        refine Ev.if_pos (by omega) ?_
        refine Ev.if_pos (by omega) ?_
        refine Ev.if_pos (by omega) ?_
        exact same 0 _ [v[j]] (by simp)
      · rw [if_neg h]
        by_cases hk : keyOK (rdOf ByteArray.empty s (i : Int)) = true
        · refine Ev.if_pos hk ?_
          refine Ev.bind0 (ref_Version_eq _) ?_
          exact no _ (Bool.eq_false_iff.2 fun e => h ⟨hk, e⟩)
        · refine Ev.if_neg hk ?_
          exact no _ rfl
    · rw [decide_eq_false h6]
      exact stop _
theorem tells_keys (hv : v.length ≤ 4611686018427387904) (hs : s.length ≤ 4611686018427387904) (d : Nat) : ∀ i : Nat, i + d = s.length → Ev (fun k => quorumlaw8_ChainTells.l4 k (i : Int) c v ns s) true := by
  have stop : ∀ i : Int, Ev (fun k => quorumlaw8_ChainTells.j16 k i false c v ns s) true := fun i => by
    refine Ev.step (fun k => by simp only [quorumlaw8_ChainTells.j16]; rfl) ?_
    refine Ev.if_neg (by simp) ?_
    exact Ev.bind wakes_true (Ev.now _)
  induction d with
  | zero =>
    intro i hi
    refine Ev.step (fun k => by simp only [quorumlaw8_ChainTells.l4]; rfl) ?_
    exact Ev.if_neg (by omega) (stop _)
  | succ d ih =>
    intro i hi
    refine Ev.step (fun k => by simp only [quorumlaw8_ChainTells.l4]; rfl) ?_
    refine Ev.if_pos (by omega) ?_
    by_cases h6 : (i : Int) < 6
    · rw [decide_eq_true h6]
      refine Ev.step (fun k => by simp only [quorumlaw8_ChainTells.j16]; rfl) ?_
      refine Ev.if_pos (by first | rfl | trivial) ?_
      exact tells_new c v ns s hv i (by omega) hs (ih (i + 1) (by omega)) v.length 0 (by omega)
    · rw [decide_eq_false h6]
      exact stop _
section
variable (N : List Int) (i : Nat) (hi : i < c.length) (hc : c.length ≤ 4611686018427387904) (key : ByteArray) (l : List V) (hk : (c[i]).f0 = key) (hl0 : (c[i]).f1 = l) (hl : l.length + 1 < 4398046511104) (b : Bool)
include hi hc hk hl0 hl
/-! ### one version more -/
theorem tells_row (j : Int) (x : ByteArray) (n : Nat) (hn : n ≤ 4398046511104) (go : Ev (fun k => quorumlaw8_ChainTells.l2 k N (i : Int) b (wrap64 (j + 1)) c v ns s key l) true) (d : Nat) : ∀ (m : Nat) (R : List V), R.length = n → m + d = n → Ev (fun k => quorumlaw8_ChainTells.l3 k N (i : Int) b j (m : Int) c v ns s key l x R) true := by
  induction d with
  | zero =>
    intro m R hR hm
    refine Ev.step (fun k => by simp only [quorumlaw8_ChainTells.l3]; rfl) ?_
    refine Ev.if_neg (by omega) ?_
    refine Ev.if_pos (by omega) ?_
    refine Ev.if_pos (by omega) ?_
    rw [rdc_at c i hi, hk, hl0]
    refine Ev.bind (EqChain_same key l (by omega)) ?_
    refine Ev.if_pos (by first | rfl | trivial) ?_
    exact go
  | succ d ih =>
    intro m R hR hm
    refine Ev.step (fun k => by simp only [quorumlaw8_ChainTells.l3]; rfl) ?_
    rw [wrap_succ m (by omega)]
    refine Ev.if_pos (by omega) ?_
    refine Ev.if_pos (by omega) ?_
    exact ih (m + 1) _ (by rw [List.length_set]; exact hR) (by omega)
theorem tells_add (hv : v.length ≤ 4611686018427387904) (hb : b = true ↔ May key l) (go : Ev (fun k => quorumlaw8_ChainTells.l0 k N ((i + 1 : Nat) : Int) c v ns s) true) (d : Nat) : ∀ j : Nat, j + d = v.length → Ev (fun k => quorumlaw8_ChainTells.l2 k N (i : Int) b (j : Int) c v ns s key l) true := by
  classical
  have stop : ∀ j : Int, Ev (fun k => quorumlaw8_ChainTells.j10 k N (i : Int) b j false c v ns s key l) true := fun j => by
    refine Ev.step (fun k => by simp only [quorumlaw8_ChainTells.j10]; rfl) ?_
    refine Ev.if_neg (by simp) ?_
    rw [wrap_succ i (by omega)]
    exact go
  induction d with
  | zero =>
    intro j hj
    refine Ev.step (fun k => by simp only [quorumlaw8_ChainTells.l2]; rfl) ?_
    exact Ev.if_neg (by omega) (stop _)
  | succ d ih =>
    intro j hj
    have hlt : j < v.length := by omega
    refine Ev.step (fun k => by simp only [quorumlaw8_ChainTells.l2]; rfl) ?_
    refine Ev.if_pos (by omega) ?_
    by_cases h6 : (j : Int) < 6
    · rw [decide_eq_true h6]
      have next : ∀ (x : ByteArray) (R : List V), R.length ≤ 4398046511104 → Ev (fun k => quorumlaw8_ChainTells.j13 k N (i : Int) b (j : Int) false c v ns s key l x R) true := fun x R hR => by
        refine Ev.step (fun k => by simp only [quorumlaw8_ChainTells.j13]; rfl) ?_
        refine Ev.if_neg (by simp) ?_
        exact tells_row c v ns s N i hi hc key l hk hl0 hl b (j : Int) x R.length hR (by rw [wrap_succ j (by omega)]; exact ih (j + 1) (by omega)) R.length 0 R rfl (by omega)
      have same : ∀ (a : Int) (x : ByteArray) (R : List V), R.length ≤ 4398046511104 → Ev (fun k => quorumlaw8_ChainTells.j12 k N (i : Int) b (j : Int) a a c v ns s key l x R x R) true := fun a x R hR => by
        refine Ev.step (fun k => by simp only [quorumlaw8_ChainTells.j12]; rfl) ?_
        rw [rdc_at c i hi, hk, hl0]
        refine Ev.bind0 (num_eq _) ?_
        refine Ev.if_pos (by first | rfl | trivial) ?_
        refine Ev.bind (EqChain_same x R (by omega)) ?_
        refine Ev.if_pos (by first | rfl | trivial) ?_
        refine Ev.if_pos (by omega) ?_
        refine Ev.if_pos (by omega) ?_
        refine Ev.bind (EqChain_same key l (by omega)) ?_
        exact next x R hR
      have no : ∀ t : Bool, t = false → Ev (fun k => quorumlaw8_ChainTells.j11 k N (i : Int) b (j : Int) 1 1 t c v ns s key l ⟨#[]⟩ [] ⟨#[]⟩) true := fun t ht => by
        subst ht
        refine Ev.step (fun k => by simp only [quorumlaw8_ChainTells.j11]; rfl) ?_
        refine Ev.if_neg (by simp) ?_
        exact same 1 _ [] (by simp)
      refine Ev.step (fun k => by simp only [quorumlaw8_ChainTells.j10]; rfl) ?_
      rw [rd_at v j hlt, rdc_at c i hi, hk, hl0]
      refine Ev.if_pos (by first | rfl | trivial) ?_
      refine Ev.if_pos (by omega) ?_
      refine Ev.if_pos (by omega) ?_
      refine Ev.bind (Add_ev key l v[j] hl) ?_
      by_cases hm : May key l
      · refine Ev.if_pos (hb.2 hm) ?_
        refine Ev.if_pos (by omega) ?_
        refine Ev.if_pos (by omega) ?_
        refine Ev.bind (refAdd_ev key l v[j] hl) ?_
        refine Ev.bind (ref_ev key (v[j] :: l) (by simp; omega)) ?_
        by_cases h2 : May key (v[j] :: l)
        · rw [if_pos (show May key l ∧ May key (v[j] :: l) from ⟨hm, h2⟩), decide_eq_true h2]
          refine Ev.step (fun k => by simp only [quorumlaw8_ChainTells.j11]; rfl) ?_
          rw [rd_at v j hlt, rdc_at c i hi, hk, hl0]
          refine Ev.if_pos (by first | rfl | trivial) ?_
          refine Ev.if_pos (by omega) ?_
          refine Ev.if_pos (by omega) ?_
          refine Ev.if_pos (by omega) ?_
          refine Ev.if_pos (by omega) ?_
          refine Ev.bind (refAdd_ev key l v[j] hl) ?_
          exact same 0 _ _ (by simp; omega)
        · rw [if_neg (fun e : May key l ∧ May key (v[j] :: l) => h2 e.2)]
          exact no _ (decide_eq_false h2)
      · refine Ev.if_neg (fun e => hm (hb.1 e)) ?_
        rw [if_neg (fun e : May key l ∧ May key (v[j] :: l) => hm e.1)]
        exact no _ rfl
    · rw [decide_eq_false h6]
      exact stop _
/-! ### at commits, and purged -/
theorem tells_at (hN : N.length ≤ 4611686018427387904) (bad : Int) (hb : b = true ↔ May key l) (hbad : bad = if b = true then 0 else 1) (go : Ev (fun k => quorumlaw8_ChainTells.l2 k N (i : Int) b 0 c v ns s key l) true) (d : Nat) : ∀ j : Nat, j + d = N.length → Ev (fun k => quorumlaw8_ChainTells.l1 k N (i : Int) b bad (j : Int) c v ns s key l) true := by
  have stop : ∀ j : Int, Ev (fun k => quorumlaw8_ChainTells.j5 k N (i : Int) b bad j false c v ns s key l) true := fun j => by
    refine Ev.step (fun k => by simp only [quorumlaw8_ChainTells.j5]; rfl) ?_
    exact Ev.if_neg (by simp) go
  induction d with
  | zero =>
    intro j hj
    refine Ev.step (fun k => by simp only [quorumlaw8_ChainTells.l1]; rfl) ?_
    exact Ev.if_neg (by omega) (stop _)
  | succ d ih =>
    intro j hj
    refine Ev.step (fun k => by simp only [quorumlaw8_ChainTells.l1]; rfl) ?_
    refine Ev.if_pos (by omega) ?_
    by_cases h11 : (j : Int) < 11
    · rw [decide_eq_true h11]
      have next : Ev (fun k => quorumlaw8_ChainTells.j8 k N (i : Int) b bad (j : Int) false c v ns s key l) true := by
        refine Ev.step (fun k => by simp only [quorumlaw8_ChainTells.j8]; rfl) ?_
        refine Ev.if_neg (by simp) ?_
        rw [wrap_succ j (by omega)]
        exact ih (j + 1) (by omega)
      have same : ∀ (a : Int) (x : Int) (y : ByteArray) (z : Bool) (q : ByteArray) (R : List V), R.length ≤ 4398046511104 → Ev (fun k => quorumlaw8_ChainTells.j7 k N (i : Int) b bad (j : Int) a bad a c v ns s key l x y z q R x y z q R) true := fun a x y z q R hR => by
        refine Ev.step (fun k => by simp only [quorumlaw8_ChainTells.j7]; rfl) ?_
        rw [rdc_at c i hi, hk, hl0]
        refine Ev.bind0 (num_eq _) ?_
        refine Ev.if_pos (by first | rfl | trivial) ?_
        refine Ev.if_neg (by simp) ?_
        refine Ev.bind0 (num_eq _) ?_
        refine Ev.if_pos (by first | rfl | trivial) ?_
        refine Ev.bind (EqChain_same q R (by omega)) ?_
        refine Ev.if_pos (by first | rfl | trivial) ?_
        refine Ev.if_pos (by omega) ?_
        refine Ev.if_pos (by omega) ?_
        refine Ev.bind (EqChain_same key l (by omega)) ?_
        exact next
      refine Ev.step (fun k => by simp only [quorumlaw8_ChainTells.j5]; rfl) ?_
      rw [rdc_at c i hi, hk, hl0]
      refine Ev.if_pos (by first | rfl | trivial) ?_
      refine Ev.if_pos (by omega) ?_
      refine Ev.if_pos (by omega) ?_
      generalize hn : rd N (j : Int) = n
      refine Ev.bind (At_ev key l n (by omega)) ?_
      refine Ev.bind (Purge_ev key l n (by omega)) ?_
      by_cases hm : May key l
      · have hb1 := hb.2 hm
        have hbad0 : bad = 0 := by rw [hbad, if_pos hb1]
        have hlen : (left l n).length ≤ 4398046511104 := by
          obtain ⟨p, hp⟩ := left_take l n
          rw [hp, List.length_take]; omega
        -- purged
        have six : ∀ (a : Int) (x : Int) (y : ByteArray) (z : Bool), Ev (fun k => quorumlaw8_ChainTells.j6 k N (i : Int) b bad (j : Int) a (if (left l n).length = 0 then ((⟨#[]⟩ : ByteArray), ([] : List V), (0 : Int)) else (key, left l n, 0)).2.2 a c v ns s key l x y z (if (left l n).length = 0 then ((⟨#[]⟩ : ByteArray), ([] : List V), (0 : Int)) else (key, left l n, 0)).1 (if (left l n).length = 0 then ((⟨#[]⟩ : ByteArray), ([] : List V), (0 : Int)) else (key, left l n, 0)).2.1 x y z) true := fun a x y z => by
          refine Ev.step (fun k => by simp only [quorumlaw8_ChainTells.j6]; rfl) ?_
          rw [rdc_at c i hi, hk, hl0, hn]
          refine Ev.if_pos (by omega) ?_
          refine Ev.if_pos (by omega) ?_
          refine Ev.if_pos (by omega) ?_
          refine Ev.if_pos (by omega) ?_
          refine Ev.bind (refPurge_ev key l n (by omega)) ?_
          have e2 := same a x y z
          rw [hbad0] at e2 ⊢
          by_cases hz : (left l n).length = 0
          · rw [if_pos hz, if_pos hz]; exact e2 _ _ (by simp)
          · rw [if_neg hz, if_neg hz]; exact e2 _ _ hlen
        refine Ev.if_pos hb1 ?_
        refine Ev.if_pos (by omega) ?_
        refine Ev.if_pos (by omega) ?_
        refine Ev.bind (refAt_ev key l n (by omega)) ?_
        rw [if_pos hm, if_pos hm]
        cases hlk : HChain.look l n with
        | some w =>
          refine Ev.if_pos (by first | rfl | trivial) ?_
          exact six 0 w.f0 w.f1 w.f2
        | none =>
          refine Ev.if_neg (by simp) ?_
          exact six 3 0 ⟨#[]⟩ false
      · have hb0 : ¬ b = true := fun e => hm (hb.1 e)
        have hbad1 : bad = 1 := by rw [hbad, if_neg hb0]
        refine Ev.if_neg hb0 ?_
        rw [if_neg hm, if_neg hm]
        have e2 := same 1 0 ⟨#[]⟩ false ⟨#[]⟩ [] (by simp)
        rw [hbad1] at e2 ⊢
        exact e2
    · rw [decide_eq_false h11]
      exact stop _
end
theorem tells_all (N : List Int) (hN : N.length ≤ 4611686018427387904) (hc : c.length ≤ 4611686018427387904) (hv : v.length ≤ 4611686018427387904) (hs : s.length ≤ 4611686018427387904) (hb : ∀ x ∈ c, x.f1.length + 1 < 4398046511104) (d : Nat) : ∀ i : Nat, i + d = c.length → Ev (fun k => quorumlaw8_ChainTells.l0 k N (i : Int) c v ns s) true := by
  classical
  have stop : ∀ i : Int, Ev (fun k => quorumlaw8_ChainTells.j1 k N i false c v ns s) true := fun i => by
    refine Ev.step (fun k => by simp only [quorumlaw8_ChainTells.j1]; rfl) ?_
    refine Ev.if_neg (by simp) ?_
    exact tells_keys c v ns s hv hs s.length 0 (by omega)
  induction d with
  | zero =>
    intro i hi
    refine Ev.step (fun k => by simp only [quorumlaw8_ChainTells.l0]; rfl) ?_
    exact Ev.if_neg (by omega) (stop _)
  | succ d ih =>
    intro i hi
    have hlt : i < c.length := by omega
    refine Ev.step (fun k => by simp only [quorumlaw8_ChainTells.l0]; rfl) ?_
    refine Ev.if_pos (by omega) ?_
    by_cases h6 : (i : Int) < 6
    · rw [decide_eq_true h6]
      have hl := hb _ (List.getElem_mem hlt)
      generalize hk : (c[i]).f0 = key
      generalize hl0 : (c[i]).f1 = l at hl
      have three : ∀ (b : Bool) (bad : Int), (b = true ↔ May key l) → (bad = if b = true then 0 else 1) → Ev (fun k => quorumlaw8_ChainTells.j3 k N (i : Int) b bad false c v ns s key l) true := fun b bad h1 h2 => by
        refine Ev.step (fun k => by simp only [quorumlaw8_ChainTells.j3]; rfl) ?_
        refine Ev.if_neg (by simp) ?_
        exact tells_at c v ns s N i hlt hc key l hk hl0 hl b hN bad h1 h2 (tells_add c v ns s N i hlt hc key l hk hl0 hl b hv h1 (ih (i + 1) (by omega)) v.length 0 (by omega)) N.length 0 (by omega)
      refine Ev.step (fun k => by simp only [quorumlaw8_ChainTells.j1]; rfl) ?_
      rw [rdc_at c i hlt, hk, hl0]
      refine Ev.if_pos (by first | rfl | trivial) ?_
      refine Ev.if_pos (by omega) ?_
      refine Ev.if_pos (by omega) ?_
      refine Ev.bind (copyc_ev key l (by omega)) ?_
      refine Ev.bind (ref_ev key l (by omega)) ?_
      refine Ev.bind (Count_ev key l (by omega)) ?_
      have hC := Check_ev key l (by omega)
      by_cases hm : May key l
      · rw [if_pos hm] at hC
        rw [if_pos hm, decide_eq_true hm]
        refine Ev.if_pos (by first | rfl | trivial) ?_
        refine Ev.step (fun k => by simp only [quorumlaw8_ChainTells.j2]; rfl) ?_
        refine Ev.bind hC ?_
        refine Ev.bind0 (num_eq _) ?_
        refine Ev.if_pos (by first | rfl | trivial) ?_
        refine Ev.bind0 (num_eq _) ?_
        refine Ev.if_pos (by first | rfl | trivial) ?_
        have e : ((((l.length : Int), (0 : Int)).1) != (l.length : Int)) = false := by simp
        have := three true 0 (by simp [hm]) (by simp)
        simpa using this
      · rw [if_neg hm] at hC
        rw [if_neg hm, decide_eq_false hm]
        refine Ev.if_neg (by simp) ?_
        refine Ev.step (fun k => by simp only [quorumlaw8_ChainTells.j2]; rfl) ?_
        refine Ev.bind hC ?_
        refine Ev.bind0 (num_eq _) ?_
        refine Ev.if_pos (by first | rfl | trivial) ?_
        refine Ev.bind0 (num_eq _) ?_
        refine Ev.if_pos (by first | rfl | trivial) ?_
        have := three false 1 (by simp [hm]) (by simp)
        simpa using this
    · rw [decide_eq_false h6]
      exact stop _
end
theorem ChainTells : OpChainTells.Pure := by
  intro c v ns s hc hv hn hs
  have hlen : ∀ x ∈ c, x.f1.length + 1 < 4398046511104 := fun x hx => by
    have h1 := (hc.2.2 x hx).2.2.1
    omega
  obtain ⟨b, hb⟩ := HChainHeavy.heavy_ends c v ns s (by have := hc.2.1; omega) (fun x hx => by have := hlen x hx; omega) (by have := hs.2.1; omega)
  refine Ev.rounds (g := fun k => quorumlaw8_ChainTells.f k c v ns s) ?_
  unfold quorumlaw8_ChainTells.f
  refine Ev.bind hb ?_
  refine Ev.iff (fun _ => Ev.now true) (fun _ => ?_)
  refine Ev.bind0 rfl ?_
  refine Ev.if_pos (by have := hn.2.1; simp; omega) ?_
  exact tells_all c v ns s _ (by have := hn.2.1; simp; omega) (by have := hc.2.1; omega) (by have := hv.2.1; omega) (by have := hs.2.1; omega) hlen c.length 0 (by omega)
end Go.Proofs.Ytoodkefpkgbjcaa.Pure
