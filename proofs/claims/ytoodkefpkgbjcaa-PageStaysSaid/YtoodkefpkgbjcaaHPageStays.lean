/- PageStays, the plain part: what an added and a cut text do to what the page has. -/
import Derived.Test.YtoodkefpkgbjcaaHPageRef
import Derived.Test.YtoodkefpkgbjcaaHPageEnd
set_option linter.unusedSimpArgs false
set_option linter.unusedVariables false
namespace Go.Proofs.Ytoodkefpkgbjcaa.HPage
open Go.RowKit Go.Proofs.Ytoodkefpkgbjcaa.PPgb Go.Proofs.Ytoodkefpkgbjcaa.HNum Go.Proofs.YtoodkefpkgbjcaaW.PrintWords Go.Proofs.YtoodkefpkgbjcaaW.PrintLast
theorem short_free {S : List Bs} {F : List Int} (hm : May S F) : F.length ≤ 16 := by
  have hsort := free_sorted hm.free
  have h16 := hm.few
  rcases Nat.lt_or_ge 16 F.length with h | h
  · exfalso
    have key : ∀ i (h : i < F.length), (i : Int) ≤ F[i] := fun i => by
      induction i with
      | zero => intro h; exact (free_range hm.free _ (List.getElem_mem h)).1
      | succ i ih => intro h; have h1 := ih (by omega); have h2 := hsort i (i + 1) (by omega) h (by omega); omega
    have h1 := key 16 h
    have h2 := (free_range hm.free _ (List.getElem_mem h)).2
    omega
  · exact h
theorem may_wf {S : List Bs} {F : List Int} (hm : May S F) (hb : bd S) : Wf S F := ⟨by have := hm.few; omega, by have := short_free hm; omega, hb⟩
theorem within_ok (a : Int) (n : Nat) (h0 : 0 < n) (hn : n ≤ 16) : ∃ t, quorumlaw0_Within.f a (n : Int) = some t ∧ 0 ≤ t ∧ t < (n : Int) := by
  have e : IntKind.u64.wrap (n : Int) = (n : Int) := by
    simp only [IntKind.wrap, IntKind.signed, IntKind.bits]
    simp
    omega
  have p : 0 ≤ IntKind.u64.wrap a := by
    simp only [IntKind.wrap, IntKind.signed, IntKind.bits]
    simp
    omega
  unfold quorumlaw0_Within.f
  rw [e, if_neg (by omega)]
  have h1 := Int.tmod_nonneg (n : Int) p
  have h2 := Int.tmod_lt_of_pos (IntKind.u64.wrap a) (b := (n : Int)) (by omega)
  refine ⟨_, rfl, ?_, ?_⟩ <;> (unfold wrap64; omega)
theorem rd_snoc (S : List Bs) (s : Bs) (x : Int) (hx : 0 ≤ x) (h : x < (S.length : Int)) : rdOf ByteArray.empty (S ++ [s]) x = rdOf ByteArray.empty S x := by
  unfold rdOf
  rw [List.getD_eq_getElem?_getD, List.getD_eq_getElem?_getD, List.getElem?_append_left (by omega)]
theorem rd_snoc_self (S : List Bs) (s : Bs) : rdOf ByteArray.empty (S ++ [s]) (S.length : Int) = s := by simp [rdOf]
/-- What Add does, where it has room. -/
theorem add_there {S : List Bs} {F : List Int} (hm : May S F) (s : Bs) : (0 ≤ (addTo S F s).2.2 ∧ ¬ There S F (addTo S F s).2.2 ∧ (addTo S F s).2.2 < ((addTo S F s).1.length : Int)) ∧ (∀ m, There (addTo S F s).1 (addTo S F s).2.1 m ↔ m = (addTo S F s).2.2 ∨ There S F m) ∧ rdOf ByteArray.empty (addTo S F s).1 (addTo S F s).2.2 = s ∧ ∀ m, There S F m → rdOf ByteArray.empty (addTo S F s).1 m = rdOf ByteArray.empty S m := by
  cases F with
  | nil =>
    simp only [addTo]
    refine ⟨⟨by omega, fun h => by have := h.2.1; omega, by simp; omega⟩, fun m => ?_, rd_snoc_self S s, fun m h => rd_snoc S s m h.1 h.2.1⟩
    unfold There
    simp
    omega
  | cons f F' =>
    have hs := free_sorted hm.free
    have hr := free_range hm.free f (by simp)
    have hne : ∀ x ∈ F', f < x := fun x hx => by
      obtain ⟨i, hi, rfl⟩ := List.mem_iff_getElem.1 hx
      have := hs 0 (i + 1) (by simp) (by simpa using hi) (by omega)
      simpa using this
    simp only [addTo]
    refine ⟨⟨hr.1, fun h => h.2.2 (by simp), by rw [List.length_set]; omega⟩, fun m => ?_, ?_, fun m h => rd_set S f.toNat s m h.1 (fun e => h.2.2 (by rw [show m = f from by omega]; simp))⟩
    · unfold There
      rw [List.length_set]
      constructor
      · intro h
        by_cases e : m = f
        · exact .inl e
        · exact .inr ⟨h.1, h.2.1, fun hx => by
            rcases List.mem_cons.1 hx with h1 | h1
            · exact e h1
            · exact h.2.2 h1⟩
      · rintro (rfl | h)
        · exact ⟨hr.1, by omega, fun hx => by have := hne _ hx; omega⟩
        · exact ⟨h.1, h.2.1, fun hx => h.2.2 (List.mem_cons_of_mem _ hx)⟩
    · have := rd_set_self S f.toNat s (by omega)
      rw [show ((f.toNat : Nat) : Int) = f from by omega] at this
      exact this
theorem add_bd {S : List Bs} {F : List Int} (hb : bd S) (s : Bs) (hs : s.size ≤ 140737488351232) : bd (addTo S F s).1 := by
  cases F with
  | nil => exact bd_snoc hb hs
  | cons f F' => exact bd_set hb hs
theorem sz_take (S : List Bs) : ∀ n, sz (S.take n) ≤ sz S := by
  induction S with
  | nil => intro n; simp
  | cons s S ih =>
    intro n
    cases n with
    | zero => simp [sz]
    | succ n => rw [List.take_succ_cons, sz_cons, sz_cons]; have := ih n; omega
theorem sz_empty (S : List Bs) : ∀ n, sz (S.set n ⟨#[]⟩) ≤ sz S := by
  induction S with
  | nil => intro n; simp
  | cons s S ih =>
    intro n
    cases n with
    | zero => rw [List.set_cons_zero, sz_cons, sz_cons]; have : (⟨#[]⟩ : Bs).size = 0 := rfl; omega
    | succ n => rw [List.set_cons_succ, sz_cons, sz_cons]; have := ih n; omega
theorem rd_take (S : List Bs) (n : Nat) (x : Int) (hx : 0 ≤ x) (h : x < (n : Int)) : rdOf ByteArray.empty (S.take n) x = rdOf ByteArray.empty S x := by
  unfold rdOf
  rw [List.getD_eq_getElem?_getD, List.getD_eq_getElem?_getD, List.getElem?_take_of_lt (by omega)]
/-- What is left when the empty end is struck off. -/
theorem trim_ok (n : Nat) : ∀ (S : List Bs) (F : List Int), F.length = n → Sorted F → (∀ x ∈ F, 0 ≤ x ∧ x < (S.length : Int)) → (∀ x ∈ F, (rdOf ByteArray.empty S x).toList = []) →
    FreeFrom (trim n S F).1 (trim n S F).2 0 ∧ (trim n S F).1.length ≤ S.length ∧ sz (trim n S F).1 ≤ sz S ∧ (bd S → bd (trim n S F).1) ∧ (∀ m, There (trim n S F).1 (trim n S F).2 m ↔ There S F m) ∧ ∀ m, There S F m → rdOf ByteArray.empty (trim n S F).1 m = rdOf ByteArray.empty S m := by
  induction n with
  | zero =>
    intro S F hn hs hr he
    obtain rfl : F = [] := List.eq_nil_of_length_eq_zero hn
    exact ⟨fun i hi => by simp [trim] at hi, Nat.le_refl _, Nat.le_refl _, fun h => h, fun m => Iff.rfl, fun m h => rfl⟩
  | succ n ih =>
    intro S F hn hs hr he
    have hl := last_at F n hn
    have hm := hr F[n] (List.getElem_mem _)
    unfold trim
    rw [hl]
    by_cases hc : F[n] = (S.length : Int) - 1
    · rw [if_pos hc]
      have hsp : F = F.take (F.length - 1) ++ [F[n]] := by
        have := take_snoc F n (by omega)
        rw [show F.length - 1 = n from by omega, this, List.take_of_length_le (by omega)]
      have hr' := take_less (m := S.length) hs n hn hc hr
      have hlen : (S.take (S.length - 1)).length = S.length - 1 := by rw [List.length_take]; omega
      have hth : ∀ m, There (S.take (S.length - 1)) (F.take (F.length - 1)) m ↔ There S F m := fun m => by
        unfold There
        rw [hlen]
        constructor
        · intro h
          refine ⟨h.1, by omega, fun hx => ?_⟩
          rw [hsp] at hx
          rcases List.mem_append.1 hx with h1 | h1
          · exact h.2.2 h1
          · have := List.mem_singleton.1 h1; omega
        · intro h
          have hne : m ≠ F[n] := fun e => h.2.2 (e ▸ List.getElem_mem _)
          exact ⟨h.1, by omega, fun hx => h.2.2 (List.mem_of_mem_take hx)⟩
      obtain ⟨h1, h2, h3, h4, h5, h6⟩ := ih (S.take (S.length - 1)) (F.take (F.length - 1)) (by rw [List.length_take]; omega) (sorted_take hs _) (fun x hx => by rw [hlen]; exact hr' x hx) (fun x hx => by
        rw [rd_take S _ x (hr' x hx).1 (hr' x hx).2]
        exact he x (List.mem_of_mem_take hx))
      refine ⟨h1, by omega, by have := sz_take S (S.length - 1); omega, fun hb => h4 (bd_take hb _), fun m => (h5 m).trans (hth m), fun m h => ?_⟩
      have h' := (hth m).2 h
      rw [h6 m h', rd_take S _ m h.1 (by have := h'.2.1; rw [hlen] at this; exact this)]
    · rw [if_neg hc]
      refine ⟨free_mk hs (fun x hx => ?_) he, Nat.le_refl _, Nat.le_refl _, fun h => h, fun m => Iff.rfl, fun m h => rfl⟩
      have h1 := hr x hx
      show 0 ≤ x ∧ x + 2 ≤ (S.length : Int)
      refine ⟨h1.1, ?_⟩
      have : x ≠ (S.length : Int) - 1 := fun e => hc ((mem_last hs n hn hr).1 (e ▸ hx))
      omega
/-- What Cut does to what there is. -/
theorem cut_there {S : List Bs} {F : List Int} {n : Int} (hm : May S F) (ht : There S F n) : May (cutTo S F n).1 (cutTo S F n).2 ∧ (bd S → bd (cutTo S F n).1) ∧ (∀ m, There (cutTo S F n).1 (cutTo S F n).2 m ↔ m ≠ n ∧ There S F m) ∧ ∀ m, m ≠ n → There S F m → rdOf ByteArray.empty (cutTo S F n).1 m = rdOf ByteArray.empty S m := by
  have hs := free_sorted hm.free
  have hn0 := ht.1
  have hn1 := ht.2.1
  obtain ⟨h1, h2, h3, h4, h5, h6⟩ := trim_ok (F.length + 1) (S.set n.toNat ⟨#[]⟩) (ins n F) (ins_len n F) (ins_sorted hs ht.2.2) (ins_range hm ht) (fun x hx => by
    rcases (mem_ins n x F).1 hx with rfl | h
    · have := rd_set_self S x.toNat ⟨#[]⟩ (by omega)
      rw [show ((x.toNat : Nat) : Int) = x from by omega] at this
      rw [this]; exact (toList_nil _).2 rfl
    · have h0 := (free_range hm.free x h).1
      rw [rd_set S n.toNat ⟨#[]⟩ x h0 (fun e => ht.2.2 (by rw [show n = x from by omega]; exact h))]
      exact free_empty hm.free x h)
  rw [List.length_set] at h2
  have hth : ∀ m, There (S.set n.toNat ⟨#[]⟩) (ins n F) m ↔ m ≠ n ∧ There S F m := fun m => by
    unfold There
    rw [List.length_set, mem_ins]
    constructor
    · intro h; exact ⟨fun e => h.2.2 (.inl e), h.1, h.2.1, fun e => h.2.2 (.inr e)⟩
    · rintro ⟨e, h⟩; exact ⟨h.1, h.2.1, fun hx => hx.elim e h.2.2⟩
  refine ⟨⟨by have := hm.few; exact Nat.le_trans h2 this, by have := hm.room; have := sz_empty S n.toNat; exact Nat.le_trans (Nat.le_trans h3 this) hm.room, h1⟩, fun hb => h4 (bd_set hb (by decide)), fun m => (h5 m).trans (hth m), fun m e h => ?_⟩
  show rdOf ByteArray.empty (trim (F.length + 1) (S.set n.toNat ⟨#[]⟩) (ins n F)).1 m = _
  rw [h6 m ((hth m).2 ⟨e, h⟩), rd_set S n.toNat ⟨#[]⟩ m h.1 (by omega)]
/-- A page that has nothing is the empty page. -/
theorem none_there {S : List Bs} {F : List Int} (hm : May S F) (h : ∀ m, ¬ There S F m) : S = [] ∧ F = [] := by
  have hr := free_range hm.free
  have hS : S = [] := by
    cases S with
    | nil => rfl
    | cons s S' => exact absurd ⟨by first | (simp; done) | (simp; omega), by first | (simp; done) | (simp; omega), fun hx => by have := (hr _ hx).2; revert this; first | (simp; done) | (simp; omega)⟩ (h ((s :: S').length - 1 : Int))
  subst hS
  refine ⟨rfl, ?_⟩
  cases F with
  | nil => rfl
  | cons f F' => have := hr f (by simp); simp at this; omega
end Go.Proofs.Ytoodkefpkgbjcaa.HPage
