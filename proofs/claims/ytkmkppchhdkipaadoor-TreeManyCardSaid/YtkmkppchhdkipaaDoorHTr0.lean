import Derived.Lib.Bytealg
import Derived.Lib.ItoaNum
import Derived.Test.YtkmkppchhdkipaaDoorPTrx0
import Derived.Test.YtkmkppchhdkipaaDoorWWords
/- Trees, in plain Lean: what a node, and all below it, may be; what is laid of pairs may be (package tree's made); one pair more, one less; the orders and keys of the laws. -/
set_option linter.unusedVariables false
set_option linter.unusedSimpArgs false
namespace Go.Proofs.YtkmkppchhdkipaaDoor.HTree
open Go.Lib Go.RowKit Go.Proofs.YtkmkppchhdkipaaDoor.PTr
abbrev SN := S85
abbrev SP := S91
def lt (a b : ByteArray) : Bool := Op.bytesLess a.toList b.toList
theorem cB_cons (a b : UInt8) (xs ys : List UInt8) : compareBytes (a :: xs) (b :: ys) = if a.toNat < b.toNat then -1 else if b.toNat < a.toNat then 1 else compareBytes xs ys := by
  rw [compareBytes]
  simp only [UInt8.lt_iff_toNat_lt]
theorem cB_refl : ∀ a, compareBytes a a = 0
  | [] => rfl
  | a :: xs => by rw [cB_cons, if_neg (by omega), if_neg (by omega)]; exact cB_refl xs
theorem cB_anti : ∀ a b, compareBytes b a = - compareBytes a b
  | [], [] => rfl
  | [], _ :: _ => rfl
  | _ :: _, [] => rfl
  | a :: xs, b :: ys => by
    rw [cB_cons, cB_cons]
    by_cases h1 : a.toNat < b.toNat
    · rw [if_pos h1, if_neg (by omega), if_pos h1]; rfl
    · by_cases h2 : b.toNat < a.toNat
      · simp [h1, h2]
      · rw [if_neg h1, if_neg h2, if_neg h2, if_neg h1]; exact cB_anti xs ys
theorem cB_zero : ∀ a b, compareBytes a b = 0 → a = b
  | [], [] => fun _ => rfl
  | [], _ :: _ => fun h => by simp [compareBytes] at h
  | _ :: _, [] => fun h => by simp [compareBytes] at h
  | a :: xs, b :: ys => fun h => by
    rw [cB_cons] at h
    by_cases h1 : a.toNat < b.toNat
    · rw [if_pos h1] at h; simp at h
    · by_cases h2 : b.toNat < a.toNat
      · rw [if_neg h1, if_pos h2] at h; simp at h
      · rw [if_neg h1, if_neg h2] at h
        rw [UInt8.toNat_inj.1 (show a.toNat = b.toNat by omega), cB_zero xs ys h]
theorem less_cmp : ∀ a b : List UInt8, Op.bytesLess a b = decide (compareBytes a b < 0)
  | [], [] => by simp [Op.bytesLess, compareBytes]
  | [], b :: ys => by simp [Op.bytesLess, compareBytes]
  | a :: xs, [] => by simp [Op.bytesLess, compareBytes]
  | a :: xs, b :: ys => by
    rw [cB_cons]
    simp only [Op.bytesLess]
    rw [less_cmp xs ys]
    by_cases h1 : a.toNat < b.toNat
    · have : a < b := h1
      rw [if_pos h1]
      simp [this]
    · have h1' : ¬ a < b := h1
      by_cases h2 : b.toNat < a.toNat
      · have : a ≠ b := fun e => by subst e; omega
        rw [if_neg h1, if_pos h2]
        simp [h1', this]
      · have : a = b := by apply UInt8.toNat_inj.1; omega
        rw [if_neg h1, if_neg h2]
        simp [h1', this]
theorem less_trans_l : ∀ a b c : List UInt8, Op.bytesLess a b = true → Op.bytesLess b c = true → Op.bytesLess a c = true := by
  intro a
  induction a with
  | nil =>
    intro b c h1 h2
    cases c with
    | nil => cases b <;> simp [Op.bytesLess] at h2
    | cons y c => rfl
  | cons x a ih =>
    intro b c h1 h2
    cases b with
    | nil => simp [Op.bytesLess] at h1
    | cons y b =>
      cases c with
      | nil => simp [Op.bytesLess] at h2
      | cons z c =>
        simp only [Op.bytesLess, Bool.or_eq_true, Bool.and_eq_true, decide_eq_true_eq, beq_iff_eq] at h1 h2 ⊢
        rcases h1 with h1 | ⟨rfl, h1⟩ <;> rcases h2 with h2 | ⟨rfl, h2⟩
        · exact .inl (UInt8.lt_trans h1 h2)
        · exact .inl h1
        · exact .inl h2
        · exact .inr ⟨rfl, ih b c h1 h2⟩
theorem lt_iff (a b : ByteArray) : lt a b = decide (compareBytes a.toList b.toList < 0) := less_cmp _ _
theorem lt_self (a : ByteArray) : lt a a = false := by rw [lt_iff, cB_refl]; rfl
theorem lt_anti (a b : ByteArray) (h : lt a b = true) : lt b a = false := by
  rw [lt_iff] at h ⊢
  rw [cB_anti]
  simp only [decide_eq_true_eq, decide_eq_false_iff_not] at h ⊢
  omega
theorem lt_tr (a b c : ByteArray) (h1 : lt a b = true) (h2 : lt b c = true) : lt a c = true := less_trans_l _ _ _ h1 h2
theorem lt_nil (a : ByteArray) : lt a ⟨#[]⟩ = false := by
  unfold lt
  rw [show (⟨#[]⟩ : ByteArray).toList = [] from by rw [ByteArray.toList_eq]]
  cases a.toList <;> rfl
theorem bytes_ext {a b : ByteArray} (h : a.toList = b.toList) : a = b := by
  rw [ByteArray.toList_eq, ByteArray.toList_eq] at h
  cases a; cases b
  simp only at h
  rw [Array.toList_inj.1 h]
theorem lt_tri (a b : ByteArray) (h1 : lt a b = false) (h2 : a ≠ b) : lt b a = true := by
  rw [lt_iff] at h1 ⊢
  rw [cB_anti]
  simp only [decide_eq_true_eq, decide_eq_false_iff_not] at h1 ⊢
  have : compareBytes a.toList b.toList ≠ 0 := fun e => h2 (bytes_ext (cB_zero _ _ e))
  omega
def isKey (k : ByteArray) : Prop := 1 ≤ k.size ∧ k.size ≤ 12
def KeysOk (l : List ByteArray) (lo hi : ByteArray) (top : Bool) : Prop :=
  l.length ≤ 4 ∧ l.Pairwise (fun a b => lt a b = true) ∧ ∀ k ∈ l, lt k lo = false ∧ (top = true ∨ lt k hi = true)
def lowAt (ks : List ByteArray) (lo : ByteArray) (i : Nat) : ByteArray := if i = 0 then lo else ks.getD (i - 1) lo
def highAt (ks : List ByteArray) (hi : ByteArray) (i : Nat) : ByteArray := if i < ks.length then ks.getD i hi else hi
def topAt (ks : List ByteArray) (top : Bool) (i : Nat) : Bool := if i < ks.length then false else top
/-- Node n, so high, in its part of the keys: what is visited, and the pairs below. -/
def Sub (N : List SN) : Nat → Bool → Nat → ByteArray → ByteArray → Bool → List Nat → List SP → Prop
  | 0, _, _, _, _, _, _, _ => False
  | h + 1, root, n, lo, hi, top, vis, rs => ∃ x, N[n]? = some x ∧ KeysOk x.f0 lo hi top ∧ (root = false → 2 ≤ x.f0.length) ∧
      ((x.f3 = true ∧ h = 0 ∧ x.f2 = [] ∧ vis = [n] ∧ x.f0 = rs.map (·.f0) ∧ x.f1 = rs.map (·.f1) ∧ ∀ p ∈ rs, isKey p.f0 ∧ 0 ≤ p.f1 ∧ p.f1 ≤ 1073741824) ∨
       (x.f3 = false ∧ x.f1 = [] ∧ x.f0 ≠ [] ∧ ∃ (ks : List Nat) (vs : List (List Nat)) (rr : List (List SP)), x.f2 = ks.map (fun k : Nat => (k : Int)) ∧ ks.length = x.f0.length + 1 ∧ vs.length = ks.length ∧ rr.length = ks.length ∧ vis = n :: vs.flatten ∧ rs = rr.flatten ∧
          ∀ i k v r, ks[i]? = some k → vs[i]? = some v → rr[i]? = some r → Sub N h false k (lowAt x.f0 lo i) (highAt x.f0 hi i) (topAt x.f0 top i) v r))
theorem Sub.more {N M : List SN} : ∀ {h root n lo hi top vis rs}, Sub N h root n lo hi top vis rs → Sub (N ++ M) h root n lo hi top vis rs
  | 0, _, _, _, _, _, _, _, h => h.elim
  | h + 1, root, n, lo, hi, top, vis, rs, ⟨x, hx, h1, h2, h3⟩ => by
    have hn : n < N.length := (List.getElem?_eq_some_iff.1 hx).1
    refine ⟨x, by rw [List.getElem?_append_left hn]; exact hx, h1, h2, ?_⟩
    rcases h3 with h3 | ⟨a, b, c, ks, vs, rr, d, e, f, g, i, j, k⟩
    · exact .inl h3
    · exact .inr ⟨a, b, c, ks, vs, rr, d, e, f, g, i, j, fun i' k' v r q1 q2 q3 => (k i' k' v r q1 q2 q3).more⟩
theorem Sub.root {N : List SN} : ∀ {h n lo hi top vis rs}, Sub N h false n lo hi top vis rs → Sub N h true n lo hi top vis rs
  | 0, _, _, _, _, _, _, h => h.elim
  | h + 1, n, lo, hi, top, vis, rs, ⟨x, hx, h1, h2, h3⟩ => ⟨x, hx, h1, fun e => (by cases e), h3⟩
/-! parts -/
def cut (n many i : Nat) : Nat := i * n / many
def many (n most : Nat) : Nat := (n + most - 1) / most
def piece {α : Type} (l : List α) (n m i : Nat) : List α := (l.drop (cut n m i)).take (cut n m (i + 1) - cut n m i)
theorem cut_mono (n m i : Nat) : cut n m i ≤ cut n m (i + 1) := Nat.div_le_div_right (Nat.mul_le_mul_right _ (Nat.le_succ i))
theorem cut_end (n m : Nat) (h : 0 < m) : cut n m m = n := by unfold cut; rw [Nat.mul_comm]; exact Nat.mul_div_cancel _ h
theorem pieces_take {α : Type} (l : List α) (n m : Nat) : ∀ k, ((List.range k).map (piece l n m)).flatten = l.take (cut n m k)
  | 0 => by simp [cut]
  | k + 1 => by
    rw [List.range_succ, List.map_append, List.flatten_append, pieces_take l n m k]
    simp only [List.map_cons, List.map_nil, List.flatten_cons, List.flatten_nil, List.append_nil, piece]
    have h := cut_mono n m k
    obtain ⟨d, hd⟩ : ∃ d, cut n m (k + 1) = cut n m k + d := ⟨_, (Nat.add_sub_cancel' h).symm⟩
    rw [hd, Nat.add_sub_cancel_left, List.take_add]
theorem pieces {α : Type} (l : List α) (m : Nat) (h : 0 < m) : ((List.range m).map (piece l l.length m)).flatten = l := by
  rw [pieces_take, cut_end _ _ h, List.take_length]
/-- How long a part is: of at most a hundred. -/
theorem parts4 : ∀ n < 101, ∀ i < many n 4, 1 ≤ cut n (many n 4) (i + 1) - cut n (many n 4) i ∧ cut n (many n 4) (i + 1) - cut n (many n 4) i ≤ 4 ∧ (1 < many n 4 → 2 ≤ cut n (many n 4) (i + 1) - cut n (many n 4) i) ∧ cut n (many n 4) (i + 1) ≤ n := by decide +kernel
theorem parts5 : ∀ n < 101, 2 ≤ n → ∀ i < many n 5, 2 ≤ cut n (many n 5) (i + 1) - cut n (many n 5) i ∧ cut n (many n 5) (i + 1) - cut n (many n 5) i ≤ 5 ∧ (1 < many n 5 → 3 ≤ cut n (many n 5) (i + 1) - cut n (many n 5) i) ∧ cut n (many n 5) (i + 1) ≤ n := by decide +kernel
theorem piece_length {α : Type} (l : List α) (m i : Nat) (h : cut l.length m (i + 1) ≤ l.length) : (piece l l.length m i).length = cut l.length m (i + 1) - cut l.length m i := by
  have := cut_mono l.length m i
  simp only [piece, List.length_take, List.length_drop]; omega
/-! the order of keys -/
def Asc (l : List SP) : Prop := l.Pairwise (fun a b => lt a.f0 b.f0 = true)
def nodeOf (keys : List ByteArray) (kids : List Nat) : SN := ⟨keys, [], kids.map (fun k : Nat => (k : Int)), false⟩
def leafOf (l : List SP) : SN := ⟨l.map (·.f0), l.map (·.f1), [], true⟩
structure Forest (N : List SN) (h : Nat) (kids : List Nat) (lows : List ByteArray) (vss : List (List Nat)) (rss : List (List SP)) : Prop where
  ll : lows.length = kids.length
  lv : vss.length = kids.length
  lr : rss.length = kids.length
  asc : Asc rss.flatten
  sub : ∀ (i k : Nat) (v : List Nat) (r : List SP) (b : ByteArray), kids[i]? = some k → vss[i]? = some v → rss[i]? = some r → lows[i]? = some b → (∃ p r', r = p :: r' ∧ b = p.f0) ∧ ∀ lo hi top, (∀ p ∈ r, lt p.f0 lo = false ∧ (top = true ∨ lt p.f0 hi = true)) → Sub N h (decide (kids.length = 1)) k lo hi top v r
  perm : vss.flatten.Perm (List.range N.length)
theorem get_map_range {α : Type} {f : Nat → α} {m i : Nat} {x : α} (h : ((List.range m).map f)[i]? = some x) : i < m ∧ x = f i := by
  rw [List.getElem?_map] at h
  by_cases hi : i < m
  · rw [List.getElem?_range hi] at h; exact ⟨hi, by injection h with h; exact h.symm⟩
  · rw [List.getElem?_eq_none (by simpa using hi)] at h; cases h
theorem piece_get {α : Type} {l : List α} {n m i j : Nat} {x : α} (h : (piece l n m i)[j]? = some x) : l[cut n m i + j]? = some x ∧ j < cut n m (i + 1) - cut n m i := by
  unfold piece at h
  rw [List.getElem?_take] at h
  split at h
  · rw [List.getElem?_drop] at h; exact ⟨h, by assumption⟩
  · cases h
theorem asc_flat {rss : List (List SP)} (h : Asc rss.flatten) {i j : Nat} {r s : List SP} (hi : rss[i]? = some r) (hj : rss[j]? = some s) (hij : i < j) : ∀ p ∈ r, ∀ q ∈ s, lt p.f0 q.f0 = true := by
  have h2 := (List.pairwise_flatten.1 h).2
  have hi' := List.getElem?_eq_some_iff.1 hi
  have hj' := List.getElem?_eq_some_iff.1 hj
  obtain ⟨a, rfl⟩ := hi'
  obtain ⟨b, rfl⟩ := hj'
  exact (List.pairwise_iff_getElem.1 h2) i j a b hij
theorem asc_in {rss : List (List SP)} (h : Asc rss.flatten) {i : Nat} {r : List SP} (hi : rss[i]? = some r) : Asc r :=
  (List.pairwise_flatten.1 h).1 r (List.mem_of_getElem? hi)
theorem level_forest {N : List SN} {h : Nat} {kids : List Nat} {lows : List ByteArray} {vss : List (List Nat)} {rss : List (List SP)} (lt_anti : ∀ a b, lt a b = true → lt b a = false) (lt_self : ∀ a, lt a a = false) (F : Forest N h kids lows vss rss) (h2 : 2 ≤ kids.length) (h100 : kids.length ≤ 100) :
    Forest (N ++ (List.range (many kids.length 5)).map (fun i => nodeOf (piece lows kids.length (many kids.length 5) i).tail (piece kids kids.length (many kids.length 5) i))) (h + 1)
      ((List.range (many kids.length 5)).map (fun i => N.length + i)) ((List.range (many kids.length 5)).map (fun i => lows.getD (cut kids.length (many kids.length 5) i) default))
      ((List.range (many kids.length 5)).map (fun i => (N.length + i) :: (piece vss kids.length (many kids.length 5) i).flatten))
      ((List.range (many kids.length 5)).map (fun i => (piece rss kids.length (many kids.length 5) i).flatten)) := by
  have hm : 0 < many kids.length 5 := by unfold many; omega
  have hp5 := parts5 kids.length (by omega) h2
  generalize hM : many kids.length 5 = m at *
  generalize hn : kids.length = n at *
  have Fll : lows.length = n := F.ll.trans hn
  have Flv : vss.length = n := F.lv.trans hn
  have Flr : rss.length = n := F.lr.trans hn
  have hflat : (((List.range m).map (fun i => (piece rss n m i).flatten)).flatten) = rss.flatten := by
    have e := pieces rss m hm
    rw [Flr] at e
    conv => rhs; rw [← e]
    rw [List.flatten_flatten, List.map_map]; rfl
  refine ⟨by simp, by simp, by simp, by rw [hflat]; exact F.asc, ?_, ?_⟩
  · intro i k v r b hk hv hr hb
    obtain ⟨him, rfl⟩ := get_map_range hk
    obtain ⟨_, rfl⟩ := get_map_range hv
    obtain ⟨_, rfl⟩ := get_map_range hr
    obtain ⟨_, rfl⟩ := get_map_range hb
    obtain ⟨p1, p2, p3, p4⟩ := hp5 i him
    have lk : (piece kids n m i).length = cut n m (i + 1) - cut n m i := by have := piece_length kids m i (by rw [hn]; exact p4); rwa [hn] at this
    have ll : (piece lows n m i).length = cut n m (i + 1) - cut n m i := by have := piece_length lows m i (by rw [Fll]; exact p4); rwa [Fll] at this
    have lv : (piece vss n m i).length = cut n m (i + 1) - cut n m i := by have := piece_length vss m i (by rw [Flv]; exact p4); rwa [Flv] at this
    have lr : (piece rss n m i).length = cut n m (i + 1) - cut n m i := by have := piece_length rss m i (by rw [Flr]; exact p4); rwa [Flr] at this
    -- what each kid of the group is
    have each : ∀ j < cut n m (i + 1) - cut n m i, ∃ k v p r' , (piece kids n m i)[j]? = some k ∧ (piece vss n m i)[j]? = some v ∧ (piece rss n m i)[j]? = some (p :: r') ∧ (piece lows n m i)[j]? = some p.f0 ∧ rss[cut n m i + j]? = some (p :: r') ∧ ∀ lo hi top, (∀ q ∈ p :: r', lt q.f0 lo = false ∧ (top = true ∨ lt q.f0 hi = true)) → Sub N h false k lo hi top v (p :: r') := by
      intro j hj
      have ek := List.getElem?_eq_getElem (show j < (piece kids n m i).length by omega)
      have ev := List.getElem?_eq_getElem (show j < (piece vss n m i).length by omega)
      have er := List.getElem?_eq_getElem (show j < (piece rss n m i).length by omega)
      have el := List.getElem?_eq_getElem (show j < (piece lows n m i).length by omega)
      obtain ⟨⟨p, r', e1, e2⟩, hs⟩ := F.sub _ _ _ _ _ (piece_get ek).1 (piece_get ev).1 (piece_get er).1 (piece_get el).1
      rw [e1] at er hs
      rw [e2] at el
      refine ⟨_, _, p, r', ek, ev, er, el, (piece_get er).1, fun lo hi top hq => ?_⟩
      have := hs lo hi top hq
      rwa [show decide (kids.length = 1) = false from decide_eq_false (by omega)] at this
    obtain ⟨k0, v0, q0, r0, _, _, er0, el0, _, _⟩ := each 0 (by omega)
    have hr0 : (piece rss n m i) = (q0 :: r0) :: (piece rss n m i).tail := by
      cases hc : piece rss n m i with
      | nil => rw [hc] at lr; simp at lr; omega
      | cons a t => rw [hc] at er0; simp at er0; rw [er0]; rfl
    have hl0 : lows.getD (cut n m i) default = q0.f0 := by
      have := (piece_get el0).1
      rw [Nat.add_zero] at this
      rw [List.getD_eq_getElem?_getD, this]; rfl
    refine ⟨⟨q0, r0 ++ (piece rss n m i).tail.flatten, by rw [hr0]; rfl, hl0⟩, fun lo hi top hq => ?_⟩
    have tl : ∀ j, (piece lows n m i).tail[j]? = (piece lows n m i)[j + 1]? := fun j => by rw [List.getElem?_tail]
    have mem : ∀ j r p, (piece rss n m i)[j]? = some r → p ∈ r → p ∈ (piece rss n m i).flatten := fun j r p e hp => List.mem_flatten.2 ⟨r, List.mem_of_getElem? e, hp⟩
    refine ⟨nodeOf (piece lows n m i).tail (piece kids n m i), by rw [List.getElem?_append_right (by omega)]; simp [him], ⟨?_, ?_, ?_⟩, ?_, .inr ⟨rfl, rfl, ?_, piece kids n m i, piece vss n m i, piece rss n m i, rfl, ?_, by omega, by omega, rfl, rfl, ?_⟩⟩
    · simp only [nodeOf, List.length_tail]; omega
    · simp only [nodeOf]
      rw [List.pairwise_iff_getElem]
      intro a b ha hb hab
      simp only [List.length_tail] at ha hb
      obtain ⟨_, _, p, r', _, _, e3, e4, e5, _⟩ := each (a + 1) (by omega)
      obtain ⟨_, _, p2, r2, _, _, f3, f4, f5, _⟩ := each (b + 1) (by omega)
      have g1 := tl a
      have g2 := tl b
      rw [List.getElem?_eq_getElem (by simpa using ha), e4] at g1
      rw [List.getElem?_eq_getElem (by simpa using hb), f4] at g2
      injection g1 with g1
      injection g2 with g2
      rw [g1, g2]
      exact asc_flat F.asc e5 f5 (by omega) p List.mem_cons_self p2 List.mem_cons_self
    · intro k hk
      simp only [nodeOf] at hk
      obtain ⟨a, ha, rfl⟩ := List.mem_iff_getElem.1 hk
      simp only [List.length_tail] at ha
      obtain ⟨_, _, p, r', _, _, e3, e4, e5, _⟩ := each (a + 1) (by omega)
      have g1 := tl a
      rw [List.getElem?_eq_getElem (by simpa using ha), e4] at g1
      injection g1 with g1
      rw [g1]
      exact hq p (mem _ _ p e3 List.mem_cons_self)
    · intro e
      simp only [nodeOf, List.length_tail]
      have : 1 < m := by
        simp only [List.length_map, List.length_range, decide_eq_false_iff_not] at e; omega
      have := p3 this; omega
    · simp only [nodeOf]
      intro e
      have := congrArg List.length e
      simp only [List.length_tail, List.length_nil] at this; omega
    · simp only [nodeOf, List.length_tail]; omega
    · intro j k v r ek ev er
      have hj := (piece_get ek).2
      obtain ⟨k', v', p, r', e1, e2, e3, e4, e5, hs⟩ := each j hj
      rw [e1] at ek; rw [e2] at ev; rw [e3] at er
      injection ek with ek; injection ev with ev; injection er with er
      subst ek; subst ev; subst er
      refine (hs _ _ _ fun q hqm => ⟨?_, ?_⟩).more
      · unfold lowAt
        split
        · exact (hq q (mem _ _ q e3 hqm)).1
        · rename_i hj0
          simp only [nodeOf]
          have g1 := tl (j - 1)
          rw [show j - 1 + 1 = j by omega, e4] at g1
          rw [List.getD_eq_getElem?_getD, g1]
          show lt q.f0 p.f0 = false
          rcases List.mem_cons.1 hqm with rfl | hqm
          · exact lt_self _
          · exact lt_anti _ _ ((List.pairwise_cons.1 (asc_in F.asc e5)).1 q hqm)
      · unfold topAt highAt
        split
        · rename_i hjl
          simp only [nodeOf, List.length_tail] at hjl
          right
          obtain ⟨_, _, p2, r2, _, _, f3, f4, f5, _⟩ := each (j + 1) (by omega)
          simp only [nodeOf]
          rw [List.getD_eq_getElem?_getD, tl j, f4]
          exact asc_flat F.asc e5 f5 (by omega) q hqm p2 List.mem_cons_self
        · exact (hq q (mem _ _ q e3 hqm)).2
  · have e := pieces vss m hm
    rw [Flv] at e
    have h1 : (((List.range m).map (fun i => (N.length + i) :: (piece vss n m i).flatten)).flatten).Perm (((List.range m).map (fun i => N.length + i)) ++ vss.flatten) := by
      have key : ∀ (f : Nat → Nat) (g : Nat → List Nat) (l : List Nat), ((l.map (fun i => f i :: g i)).flatten).Perm (l.map f ++ (l.map g).flatten) := by
        intro f g l
        induction l with
        | nil => exact .refl _
        | cons a t ih =>
          simp only [List.map_cons, List.flatten_cons, List.cons_append]
          refine List.Perm.cons _ (((List.Perm.refl (g a)).append ih).trans ?_)
          rw [← List.append_assoc, ← List.append_assoc]
          exact List.perm_append_comm.append_right _
      refine (key _ _ _).trans ?_
      conv => rhs; rw [← e]
      rw [List.flatten_flatten, List.map_map]
      exact .refl _
    refine h1.trans ?_
    have h3 : List.range (N ++ (List.range m).map (fun i => nodeOf (piece lows n m i).tail (piece kids n m i))).length = List.range N.length ++ (List.range m).map (fun i => N.length + i) := by
      simp only [List.length_append, List.length_map, List.length_range]
      rw [List.range_add]
    rw [h3]
    exact List.perm_append_comm.trans (F.perm.append_right _)
abbrev Lv := List SN × List Nat × List ByteArray
def low0 (l : List SP) (i : Nat) : ByteArray := match l[i]? with | some p => p.f0 | none => default
def leaves (l : List SP) : Lv := ((List.range (many l.length 4)).map (fun i => leafOf (piece l l.length (many l.length 4) i)), List.range (many l.length 4), (List.range (many l.length 4)).map (fun i => low0 l (cut l.length (many l.length 4) i)))
def lift (T : Lv) : Lv := (T.1 ++ (List.range (many T.2.1.length 5)).map (fun i => nodeOf (piece T.2.2 T.2.1.length (many T.2.1.length 5) i).tail (piece T.2.1 T.2.1.length (many T.2.1.length 5) i)), (List.range (many T.2.1.length 5)).map (fun i => T.1.length + i), (List.range (many T.2.1.length 5)).map (fun i => T.2.2.getD (cut T.2.1.length (many T.2.1.length 5) i) default))
def tops : Nat → Lv → Lv
  | 0, T => T
  | f + 1, T => if 1 < T.2.1.length then tops f (lift T) else T
def madeN (l : List SP) : List SN := if l = [] then [leafOf []] else (tops 2 (leaves l)).1
def madeR (l : List SP) : Nat := if l = [] then 0 else (tops 2 (leaves l)).2.1.getD 0 0
def Pairs (l : List SP) : Prop := Asc l ∧ (∀ p ∈ l, isKey p.f0 ∧ 0 ≤ p.f1 ∧ p.f1 ≤ 1073741824) ∧ l.length ≤ 100
theorem leaves_forest {l : List SP} (h : Pairs l) (hne : l ≠ []) : ∃ vss rss, Forest (leaves l).1 1 (leaves l).2.1 (leaves l).2.2 vss rss ∧ rss.flatten = l := by
  obtain ⟨hs, hk, h100⟩ := h
  have hpos : 0 < l.length := List.length_pos_iff.2 hne
  have hm : 0 < many l.length 4 := by unfold many; omega
  have hp4 := parts4 l.length (by omega)
  have hfl : ((List.range (many l.length 4)).map (piece l l.length (many l.length 4))).flatten = l := pieces l _ hm
  unfold leaves
  generalize many l.length 4 = m at *
  refine ⟨(List.range m).map (fun i => [i]), (List.range m).map (piece l l.length m), ⟨by simp, by simp, by simp, by rw [hfl]; exact hs, ?_, ?_⟩, hfl⟩
  · intro i k v r b hk1 hv hr hb
    obtain ⟨him, rfl⟩ := get_map_range hv
    obtain ⟨_, rfl⟩ := get_map_range hr
    obtain ⟨_, rfl⟩ := get_map_range hb
    have hk2 : k = i := by rw [List.getElem?_range him] at hk1; injection hk1 with hk1; exact hk1.symm
    subst hk2
    obtain ⟨p1, p2, p3, p4⟩ := hp4 k him
    have ln := piece_length l m k p4
    have hin : ∀ p ∈ piece l l.length m k, p ∈ l := fun p hp => List.mem_of_mem_drop (List.mem_of_mem_take hp)
    have hasc : Asc (piece l l.length m k) := (hs.sublist (List.drop_sublist _ _)).sublist (List.take_sublist _ _)
    refine ⟨?_, fun lo hi top hq => ?_⟩
    · cases hc : piece l l.length m k with
      | nil => rw [hc] at ln; simp at ln; omega
      | cons a t =>
        refine ⟨a, t, rfl, ?_⟩
        have := (piece_get (l := l) (n := l.length) (m := m) (i := k) (j := 0) (x := a) (by rw [hc]; rfl)).1
        rw [Nat.add_zero] at this
        unfold low0; rw [this]
    · refine ⟨leafOf (piece l l.length m k), by simp [him], ⟨by simp only [leafOf, List.length_map]; omega, ?_, ?_⟩, ?_, .inl ⟨rfl, rfl, rfl, rfl, rfl, rfl, fun p hp => hk p (hin p hp)⟩⟩
      · simp only [leafOf]; rw [List.pairwise_map]; exact hasc
      · intro q hq2
        simp only [leafOf, List.mem_map] at hq2
        obtain ⟨p, hp, rfl⟩ := hq2
        exact hq p hp
      · intro e
        simp only [leafOf, List.length_map]
        have : 1 < m := by simp only [List.length_range, decide_eq_false_iff_not] at e; omega
        have := p3 this; omega
  · have : ((List.range m).map (fun i => [i])).flatten = List.range m := by
      have : ∀ l : List Nat, (l.map (fun i => [i])).flatten = l := by
        intro l; induction l with
        | nil => rfl
        | cons a t ih => simp [ih]
      exact this _
    rw [this]; simp
theorem one_list {α : Type} (l : List α) (h : l.length = 1) : l = [l[0]'(by omega)] := by
  cases l with
  | nil => simp at h
  | cons a t => cases t with
    | nil => rfl
    | cons b t => simp at h
theorem many5_lt (n : Nat) (h : 2 ≤ n) : many n 5 < n ∧ 1 ≤ many n 5 := by unfold many; omega
theorem made_sub {l : List SP} (lt_anti : ∀ a b, lt a b = true → lt b a = false) (lt_self : ∀ a, lt a a = false) (lt_nil : ∀ a, lt a ⟨#[]⟩ = false) (h : Pairs l) : ∃ hh vis, hh ≤ 3 ∧ Sub (madeN l) hh true (madeR l) ⟨#[]⟩ ⟨#[]⟩ true vis l ∧ vis.Perm (List.range (madeN l).length) ∧ (madeN l).length ≤ 31 ∧ madeR l < (madeN l).length := by
  by_cases hne : l = []
  · subst hne
    refine ⟨1, [0], by omega, ⟨leafOf [], rfl, ⟨by simp [leafOf], by simp [leafOf], by simp [leafOf]⟩, by simp, .inl ⟨rfl, rfl, rfl, rfl, rfl, rfl, by simp⟩⟩, .refl _, by simp [madeN], by simp [madeN, madeR]⟩
  · have key : ∀ (f hh : Nat) (T : Lv) vss rss, Forest T.1 hh T.2.1 T.2.2 vss rss → rss.flatten = l → T.2.1.length ≤ 5 ^ f → T.2.1.length ≤ 100 → 1 ≤ T.2.1.length → ∃ h2 vis, h2 ≤ hh + f ∧ Sub (tops f T).1 h2 true ((tops f T).2.1.getD 0 0) ⟨#[]⟩ ⟨#[]⟩ true vis l ∧ vis.Perm (List.range (tops f T).1.length) := by
      intro f
      induction f with
      | zero =>
        intro hh T vss rss F hfl h5 _ h1
        have h1' : T.2.1.length = 1 := by simp at h5; omega
        have ek := List.getElem?_eq_getElem (show 0 < T.2.1.length by omega)
        have ev := List.getElem?_eq_getElem (show 0 < vss.length by rw [F.lv]; omega)
        have er := List.getElem?_eq_getElem (show 0 < rss.length by rw [F.lr]; omega)
        have el := List.getElem?_eq_getElem (show 0 < T.2.2.length by rw [F.ll]; omega)
        have hs := (F.sub 0 _ _ _ _ ek ev er el).2 ⟨#[]⟩ ⟨#[]⟩ true (fun p _ => ⟨lt_nil _, .inl rfl⟩)
        rw [show decide (T.2.1.length = 1) = true from decide_eq_true h1'] at hs
        have e1 := one_list vss (by rw [F.lv]; exact h1')
        have e2 := one_list rss (by rw [F.lr]; exact h1')
        have e3 : rss[0]'(by rw [F.lr]; omega) = l := by rw [← hfl]; conv => rhs; rw [e2]; simp
        have e4 := F.perm
        rw [e1] at e4
        simp only [List.flatten_cons, List.flatten_nil, List.append_nil] at e4
        rw [e3] at hs
        refine ⟨hh, _, by omega, ?_, e4⟩
        rw [List.getD_eq_getElem?_getD, show (tops 0 T) = T from rfl, ek]
        exact hs
      | succ f ih =>
        intro hh T vss rss F hfl h5 h100 h1
        unfold tops
        split
        · rename_i h2
          have F2 := level_forest lt_anti lt_self F (by omega) h100
          have hm := many5_lt T.2.1.length (by omega)
          obtain ⟨h3, vis, a, b, c⟩ := ih (hh + 1) (lift T) _ _ F2 (by
            have e := pieces rss (many T.2.1.length 5) (by omega)
            rw [F.lr] at e
            conv => rhs; rw [← hfl, ← e]
            rw [List.flatten_flatten, List.map_map]; rfl) (by
            simp only [lift, List.length_map, List.length_range]
            have : T.2.1.length ≤ 5 * 5 ^ f := by rw [Nat.pow_succ] at h5; omega
            unfold many; omega) (by simp only [lift, List.length_map, List.length_range]; omega) (by simp only [lift, List.length_map, List.length_range]; omega)
          exact ⟨h3, vis, by omega, b, c⟩
        · rename_i h2
          have := ih hh T vss rss F hfl (by have : 1 ≤ 5 ^ f := Nat.one_le_pow _ _ (by omega); omega) h100 h1
          have e : ∀ f, tops f T = T := fun f => by cases f with | zero => rfl | succ f => unfold tops; rw [if_neg h2]
          rw [e] at this
          obtain ⟨h3, vis, a, b, c⟩ := this
          exact ⟨h3, vis, by omega, b, c⟩
    obtain ⟨vss, rss, F, hfl⟩ := leaves_forest h hne
    have hpos : 0 < l.length := List.length_pos_iff.2 hne
    have h100 := h.2.2
    have hl : (leaves l).2.1.length = many l.length 4 := by simp [leaves]
    have hb : many l.length 4 ≤ 25 ∧ 1 ≤ many l.length 4 := by unfold many; omega
    obtain ⟨h3, vis, a, b, c⟩ := key 2 1 (leaves l) vss rss F hfl (by rw [hl]; omega) (by rw [hl]; omega) (by rw [hl]; omega)
    have hlen : (madeN l).length ≤ 31 := by
      unfold madeN
      rw [if_neg hne]
      have g1 : (leaves l).1.length = many l.length 4 := by simp [leaves]
      have gl : ∀ T : Lv, (lift T).1.length = T.1.length + many T.2.1.length 5 ∧ (lift T).2.1.length = many T.2.1.length 5 := fun T => by simp [lift]
      unfold tops
      split
      · unfold tops
        split
        · unfold tops
          rw [(gl _).1, (gl _).1, (gl _).2, g1, hl]; unfold many; omega
        · rw [(gl _).1, g1, hl]; unfold many; omega
      · rw [g1]; omega
    refine ⟨h3, vis, by omega, ?_, ?_, hlen, ?_⟩
    · unfold madeN madeR; rw [if_neg hne, if_neg hne]; exact b
    · unfold madeN; rw [if_neg hne]; exact c
    · unfold madeN madeR; rw [if_neg hne, if_neg hne]
      cases h3 with
      | zero => exact b.elim
      | succ q => obtain ⟨x, hx, _⟩ := b; exact (List.getElem?_eq_some_iff.1 hx).1
/-! one pair more, one less -/
theorem asc_ins {l : List SP} {k : ByteArray} {r : Int} (h : Asc l) (i : Nat) (h1 : ∀ q ∈ l.take i, lt q.f0 k = true) (h2 : ∀ q ∈ l.drop i, lt k q.f0 = true) (tr : ∀ a b c, lt a b = true → lt b c = true → lt a c = true) : Asc (l.take i ++ ⟨k, r⟩ :: l.drop i) := by
  unfold Asc
  rw [List.pairwise_append]
  refine ⟨h.sublist (List.take_sublist _ _), ?_, ?_⟩
  · rw [List.pairwise_cons]
    exact ⟨fun q hq => h2 q hq, h.sublist (List.drop_sublist _ _)⟩
  · intro a ha b hb
    rcases List.mem_cons.1 hb with rfl | hb
    · exact h1 a ha
    · exact tr _ _ _ (h1 a ha) (h2 b hb)
theorem mem_ins {l : List SP} {p q : SP} (i : Nat) : q ∈ l.take i ++ p :: l.drop i ↔ q = p ∨ q ∈ l := by
  conv => rhs; rw [← List.take_append_drop i l]
  simp only [List.mem_append, List.mem_cons]
  constructor
  · rintro (h | h | h) <;> simp [h]
  · rintro (h | h | h) <;> simp [h]
theorem pairs_ins {l : List SP} {k : ByteArray} {r : Int} (h : Pairs l) (i : Nat) (h1 : ∀ q ∈ l.take i, lt q.f0 k = true) (h2 : ∀ q ∈ l.drop i, lt k q.f0 = true) (tr : ∀ a b c, lt a b = true → lt b c = true → lt a c = true) (hk : isKey k) (hr : 0 ≤ r ∧ r ≤ 1073741824) (hl : l.length < 100) : Pairs (l.take i ++ ⟨k, r⟩ :: l.drop i) := by
  refine ⟨asc_ins h.1 i h1 h2 tr, fun p hp => ?_, ?_⟩
  · rcases (mem_ins i).1 hp with rfl | hp
    · exact ⟨hk, hr⟩
    · exact h.2.1 p hp
  · have : (l.take i ++ ⟨k, r⟩ :: l.drop i).length = l.length + 1 := by
      simp only [List.length_append, List.length_cons, List.length_take, List.length_drop]; omega
    omega
theorem pairs_del {l : List SP} (h : Pairs l) (i : Nat) : Pairs (l.eraseIdx i) := by
  refine ⟨h.1.sublist (List.eraseIdx_sublist _ _), fun p hp => h.2.1 p (List.mem_of_mem_eraseIdx hp), ?_⟩
  have := (List.eraseIdx_sublist l i).length_le
  have := h.2.2; omega
theorem mem_del {l : List SP} (h : Asc l) (lt_self : ∀ a, lt a a = false) {i : Nat} (hi : i < l.length) (q : SP) : q ∈ l.eraseIdx i ↔ q ∈ l ∧ q.f0 ≠ l[i].f0 := by
  rw [List.mem_eraseIdx_iff_getElem]
  constructor
  · rintro ⟨j, hj, hne, rfl⟩
    refine ⟨List.getElem_mem _, fun e => ?_⟩
    have hp := List.pairwise_iff_getElem.1 h
    rcases Nat.lt_or_gt_of_ne hne with hlt | hlt
    · have := hp j i hj hi hlt; rw [e, lt_self] at this; cases this
    · have := hp i j hi hj hlt; rw [e, lt_self] at this; cases this
  · rintro ⟨hq, hne⟩
    obtain ⟨j, hj, rfl⟩ := List.mem_iff_getElem.1 hq
    exact ⟨j, hj, fun e => hne (by subst e; rfl), rfl⟩
/-- Two rows of pairs that rise, with the same pairs, are one. -/
theorem asc_nodup {l : List SP} (h : Asc l) (lt_self : ∀ a, lt a a = false) : l.Nodup := by
  refine List.Pairwise.imp (fun {a b} hab e => ?_) h
  subst e
  rw [lt_self] at hab
  cases hab
/-! the orders in which keys come and go -/
def wayAt (f i n : Nat) : Nat := if f = 0 then i else if f = 1 then n - 1 - i else if i % 2 = 0 then i / 2 else n - 1 - i / 2
theorem way_lt {f i n : Nat} (h : i < n) : wayAt f i n < n := by unfold wayAt; split; · exact h
                                                                 split; · omega
                                                                 split <;> omega
theorem way_inj {f i j n : Nat} (hi : i < n) (hj : j < n) (h : wayAt f i n = wayAt f j n) : i = j := by
  unfold wayAt at h
  split at h
  · exact h
  split at h
  · omega
  split at h <;> split at h <;> omega
theorem way_all {f k n : Nat} (h : k < n) : ∃ i, i < n ∧ wayAt f i n = k := by
  unfold wayAt
  split
  · exact ⟨k, h, rfl⟩
  split
  · exact ⟨n - 1 - k, by omega, by omega⟩
  by_cases hk : 2 * k < n
  · exact ⟨2 * k, hk, by rw [if_pos (by omega)]; omega⟩
  · exact ⟨2 * (n - 1 - k) + 1, by omega, by rw [if_neg (by omega)]; omega⟩
def steps : List Nat := [1, 7, 11, 37, 101]
theorem inv_ex : ∀ n < 100, 20 ≤ n → ∀ s ∈ steps, n % s ≠ 0 → ∃ v < n, s * v % n = 1 := by decide +kernel
def mulAt (s i n : Nat) : Nat := if n % s = 0 then i else i * s % n
theorem mul_lt {s i n : Nat} (h : i < n) : mulAt s i n < n := by unfold mulAt; split; · exact h
                                                                 exact Nat.mod_lt _ (by omega)
theorem mul_back {s v n i : Nat} (h1 : s * v % n = 1) (hi : i < n) : (i * s % n) * v % n = i := by
  rw [Nat.mod_mul_mod, Nat.mul_assoc, Nat.mul_mod, h1, Nat.mul_one, Nat.mod_mod, Nat.mod_eq_of_lt hi]
theorem mul_inj {s i j n : Nat} (h20 : 20 ≤ n) (h100 : n < 100) (hs : s ∈ steps) (hi : i < n) (hj : j < n) (h : mulAt s i n = mulAt s j n) : i = j := by
  unfold mulAt at h
  split at h
  · exact h
  · rename_i hn
    obtain ⟨v, _, h1⟩ := inv_ex n h100 h20 s hs hn
    have := mul_back (i := i) h1 hi
    rw [h, mul_back h1 hj] at this
    exact this.symm
theorem mul_all {s k n : Nat} (h20 : 20 ≤ n) (h100 : n < 100) (hs : s ∈ steps) (h : k < n) : ∃ i, i < n ∧ mulAt s i n = k := by
  unfold mulAt
  split
  · exact ⟨k, h, rfl⟩
  · rename_i hn
    obtain ⟨v, _, h1⟩ := inv_ex n h100 h20 s hs hn
    exact ⟨k * v % n, Nat.mod_lt _ (by omega), mul_back (by rw [Nat.mul_comm]; exact h1) h⟩
def backAt (i n : Nat) : Nat := if i % 2 = 0 then i / 2 else n - 1 - i / 2
theorem back_way (i n : Nat) : backAt i n = wayAt 2 i n := rfl
/-! the keys of the laws: "k" and the digits of 100 + k (of 1000 + k) -/
def dig (n : Nat) : UInt8 := UInt8.ofNat (48 + n)
def keyA (k : Nat) : ByteArray := ⟨#[107, 49, dig (k / 10), dig (k % 10)]⟩
def keyB (k : Nat) : ByteArray := ⟨#[107, 49, 48, dig (k / 10), dig (k % 10)]⟩
theorem dig_inj {a b : Nat} (ha : a < 10) (hb : b < 10) (h : dig a = dig b) : a = b := by
  have := congrArg UInt8.toNat h
  simp only [dig, UInt8.toNat_ofNat'] at this
  omega
theorem keyA_inj {i j : Nat} (hi : i < 100) (hj : j < 100) (h : keyA i = keyA j) : i = j := by
  simp only [keyA, ByteArray.mk.injEq, Array.mk.injEq, List.cons.injEq, and_true, true_and] at h
  have h1 := dig_inj (by omega) (by omega) h.1
  have h2 := dig_inj (by omega) (by omega) h.2
  omega
theorem keyB_inj {i j : Nat} (hi : i < 100) (hj : j < 100) (h : keyB i = keyB j) : i = j := by
  simp only [keyB, ByteArray.mk.injEq, Array.mk.injEq, List.cons.injEq, and_true, true_and] at h
  have h1 := dig_inj (by omega) (by omega) h.1
  have h2 := dig_inj (by omega) (by omega) h.2
  omega
theorem keyA_is (k : Nat) : isKey (keyA k) := by constructor <;> simp [keyA, ByteArray.size]
theorem keyB_is (k : Nat) : isKey (keyB k) := by constructor <;> simp [keyB, ByteArray.size]
/-- Just these are in it: of each k of S its key and k. -/
def Has (key : Nat → ByteArray) (l : List SP) (S : Nat → Prop) : Prop := Pairs l ∧ ∀ q : SP, q ∈ l ↔ ∃ k, S k ∧ q = ⟨key k, (k : Int)⟩
theorem Has.ins {key : Nat → ByteArray} {l : List SP} {S : Nat → Prop} (h : Has key l S) {k : Nat} (hk : isKey (key k)) (hr : k ≤ 1073741824) (hl : l.length < 100) (i : Nat) (h1 : ∀ q ∈ l.take i, lt q.f0 (key k) = true) (h2 : ∀ q ∈ l.drop i, lt (key k) q.f0 = true) (tr : ∀ a b c, lt a b = true → lt b c = true → lt a c = true) : Has key (l.take i ++ ⟨key k, (k : Int)⟩ :: l.drop i) (fun j => S j ∨ j = k) := by
  refine ⟨pairs_ins h.1 i h1 h2 tr hk (by omega) hl, fun q => ?_⟩
  rw [mem_ins, h.2]
  constructor
  · rintro (rfl | ⟨j, hj, rfl⟩)
    · exact ⟨k, .inr rfl, rfl⟩
    · exact ⟨j, .inl hj, rfl⟩
  · rintro ⟨j, hj | rfl, rfl⟩
    · exact .inr ⟨j, hj, rfl⟩
    · exact .inl rfl
theorem Has.del {key : Nat → ByteArray} {l : List SP} {S : Nat → Prop} (h : Has key l S) (lt_self : ∀ a, lt a a = false) {i k : Nat} (hi : i < l.length) (hk : l[i].f0 = key k) (inj : ∀ j, S j → key j = key k → j = k) : Has key (l.eraseIdx i) (fun j => S j ∧ j ≠ k) := by
  refine ⟨pairs_del h.1 i, fun q => ?_⟩
  rw [mem_del h.1.1 lt_self hi, h.2, hk]
  constructor
  · rintro ⟨⟨j, hj, rfl⟩, hne⟩
    exact ⟨j, ⟨hj, fun e => hne (by rw [e])⟩, rfl⟩
  · rintro ⟨j, ⟨hj, hne⟩, rfl⟩
    exact ⟨⟨j, hj, rfl⟩, fun e => hne (inj j hj e)⟩
/-- A tree that may be: it has these pairs, so deep; no node is free. -/
def Is (N : List SN) (r : Int) (fr : List Int) (l : List SP) (hh : Nat) : Prop := fr = [] ∧ N.length ≤ 200 ∧ ∃ (n : Nat) (vis : List Nat), r = (n : Int) ∧ n < N.length ∧ Sub N hh true n ⟨#[]⟩ ⟨#[]⟩ true vis l ∧ vis.Perm (List.range N.length)
def Valid (N : List SN) (r : Int) (fr : List Int) : Prop := ∃ l hh, Is N r fr l hh
def Small (N : List SN) (r : Int) (fr : List Int) (l : List SP) (hh : Nat) : Prop := Is N r fr l hh ∧ ∀ p ∈ l, p.f1 < 100
def rowsOf (l : List SP) : List S41 := l.map (fun p => ⟨p.f0, ⟨(decDigits p.f1.toNat).toArray⟩⟩)
theorem made_is {l : List SP} (h : Pairs l) : ∃ hh, hh ≤ 3 ∧ Is (madeN l) (madeR l : Int) [] l hh := by
  obtain ⟨hh, vis, a, b, c, d, e⟩ := made_sub lt_anti lt_self lt_nil h
  exact ⟨hh, a, rfl, by omega, madeR l, vis, rfl, e, b, c⟩
end Go.Proofs.YtkmkppchhdkipaaDoor.HTree
/- Small facts on whole numbers and rounds that the pure proofs share. -/
namespace Go.Proofs.YtkmkppchhdkipaaDoor.HNum
open Go.RowKit Go.Proofs.YtkmkppchhdkipaaDoorW.PrintWords

theorem wrap_succ (j : Nat) (h : j < 9223372036854775807) : wrap64 ((j : Int) + 1) = ((j + 1 : Nat) : Int) := by
  unfold wrap64
  omega
theorem wrap_pred (j : Nat) (h0 : 0 < j) (h : j < 9223372036854775807) : wrap64 ((j : Int) - 1) = ((j - 1 : Nat) : Int) := by
  unfold wrap64
  omega
theorem Ev.const {α : Type} {o : Option α} {r : α} (h : o = some r) : Ev (fun _ => o) r := ⟨0, fun _ _ => h⟩
/-- A call without rounds in the midst. -/
theorem Ev.bind0 {α β : Type} {o : Option α} {f : Nat → α → Option β} {a : α} {r : β} (h : o = some a) (k : Ev (fun n => f n a) r) : Ev (fun n => o.bind (f n)) r := by
  subst h
  exact k
theorem Ev.if_pos {α : Type} {c : Prop} [Decidable c] {f g : Nat → Option α} {r : α} (h : c) (k : Ev f r) : Ev (fun n => if c then f n else g n) r := by
  simpa only [h, if_true] using k
theorem Ev.if_neg {α : Type} {c : Prop} [Decidable c] {f g : Nat → Option α} {r : α} (h : ¬ c) (k : Ev g r) : Ev (fun n => if c then f n else g n) r := by
  simpa only [h, if_false] using k
theorem Ev.iff {α : Type} {c : Prop} [Decidable c] {f g : Nat → Option α} {r : α} (h1 : c → Ev f r) (h2 : ¬ c → Ev g r) : Ev (fun n => if c then f n else g n) r := by
  by_cases h : c
  · exact Ev.if_pos h (h1 h)
  · exact Ev.if_neg h (h2 h)
/-- Two bools of two propositions that are one. -/
theorem decide_of {p : Prop} [Decidable p] {b : Bool} (h : b = true ↔ p) : b = decide p := by
  by_cases hp : p <;> simp_all
end Go.Proofs.YtkmkppchhdkipaaDoor.HNum
