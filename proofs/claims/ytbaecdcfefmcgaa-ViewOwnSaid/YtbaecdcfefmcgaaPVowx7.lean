-- PRINTED by print.py (a twelfth state) out of the translation. Not trusted: Lean checks it.
import Derived.Test.YtbaecdcfefmcgaaPVowx0
import Derived.Test.YtbaecdcfefmcgaaPVowx1
import Derived.Test.YtbaecdcfefmcgaaPVowx2
namespace Go.Proofs.Ytbaecdcfefmcgaa.PVow
open Go.RowKit Go.Proofs.YtbaecdcfefmcgaaW.PrintWords Go.Proofs.YtbaecdcfefmcgaaW.PrintLast Go.Proofs.YtbaecdcfefmcgaaW.PrintMore
attribute [local go_sem] max2_int min2_int max_two min_two max_three min_three max_four min_four   -- for this text's walks alone
set_option linter.unusedVariables false
set_option linter.unusedSimpArgs false

/-! ### api_Table_96: function 96 (by hand) -/
set_option maxHeartbeats 800000 in
set_option maxRecDepth 100000 in
theorem idx_ct.calls_ (pred : S47 → Bool) (F : Nat) (A0 : Option Addr) (c0 : Nat) (l0 : List S47) (w : World) (hr0 : Kd.C k47 w A0 l0.length l0) (hc0 : l0.length ≤ c0)
    (eg : ∀ args w, (callFunc F args).run Try.prog w = .ok (.enter F args) w)
    (HP : ∀ i : Nat, i < l0.length → (∀ j : Nat, j < i → pred (rd_T47 l0 j) = false) → ∀ (W : World), Below w.heap.size w W → ∀ A1 c1, (rd_T47 l0 i).f0.length ≤ c1 → Kd.C k99 W A1 (rd_T47 l0 i).f0.length (rd_T47 l0 i).f0 →
      Calls Try.prog F #[.agg #[.slice A1 (rd_T47 l0 i).f0.length c1]] W fun e W' => e = .returned (.bool (pred (rd_T47 l0 i))) ∧ Below w.heap.size w W') :
    Calls Try.prog 145 #[.slice A0 l0.length c0, .func (Fn.func F) #[] #[]] w fun e w' => ∃ q : Int, e = .returned (.int .i64 q) ∧ decide ((0 : Int) ≤ q) = l0.any pred ∧ Below w.heap.size w w' := by
  have HR0 := Aside0.mk hr0
  have HC0 := Aside0.mk hc0
  have hlen := hr0.2.1
  have hrd : ∀ i : Nat, ∀ h : i < l0.length, rd_T47 l0 (i : Int) = l0[i] := fun i h => by simp [rd_T47, h]
  have HY := Aside0.mk (show ∀ i : Nat, i < l0.length → pred (rd_T47 l0 i) = true → true = l0.any pred from fun i h hp => by rw [hrd i h] at hp; exact (List.any_eq_true.2 ⟨_, List.getElem_mem h, hp⟩).symm)
  have HZ := Aside0.mk (show (∀ i : Nat, i < l0.length → pred (rd_T47 l0 i) = false) → false = l0.any pred from fun h => by
    symm
    rw [List.any_eq_false]
    intro x hx
    obtain ⟨j, hj, rfl⟩ := List.mem_iff_getElem.1 hx
    have := h j hj
    rw [hrd j hj] at this
    simp [this])
  clear hr0 hc0 hrd
  have HPA := Aside0.mk HP
  clear HP
  have HB := Aside0.mk (Below.refl w.heap.size w)
  go_enter Try.func145, Try.ntmps145
  go_wp2
  go_loopg [5, 8] l0.length (fun kq _ v8 w' => ∃ (i : Nat), v8 = .int .i64 i ∧ Aside0 (kq + i = l0.length) ∧ Aside0 (∀ j : Nat, j < i → pred (rd_T47 l0 j) = false) ∧ Aside0 (Below w.heap.size w w'))
  case atStart => exact ⟨0, rfl, ⟨by omega⟩, ⟨fun j h => by omega⟩, HB⟩
  case round =>
    clear HB
    obtain ⟨i, rfl, HK, HN, HB⟩ := hrel
    by_cases hi : i < l0.length
    · have p200 : (0:Int) ≤ (i : Int) := by omega
      have q200 : (i:Int) < (l0.length : Int) := by omega
      obtain ⟨ad200, A200, c200, e200, hx200_0, hl200, hC200⟩ := at_T47 HR0.out (i:Int) p200 q200
      cases e200
      replace hx200_0 := (HB.out.cell (World.block_lt_of_cell? w _ hx200_0)).trans hx200_0
      simp only [Int.toNat_natCast] at hx200_0
      have hcall := HPA.out i hi HN.out wr HB.out A200 c200 hl200 (Kd.C_below hC200 HB.out)
      clear hl200 hC200
      cases hq : pred (rd_T47 l0 i) with
      | true =>
        rw [hq] at hcall
        have HQ := Aside0.mk hq
        clear hq
        go_wp2_with ((with_reducible refine hcall.mono ?_); rintro e w' ⟨rfl, hb'⟩)
        go_ret
        exact ⟨_, rfl, by rw [← HY.out i hi HQ.out, decide_eq_true_eq]; omega, hb'⟩
      | false =>
        rw [hq] at hcall
        have HQ := Aside0.mk hq
        clear hq
        go_wp2_with ((with_reducible refine hcall.mono ?_); rintro e w' ⟨rfl, hb'⟩)
        go_roundg (gk - 1)
        case measure => have := HK.out; omega
        case rel =>
          refine ⟨i + 1, by go_num, ⟨by have := HK.out; omega⟩, ⟨fun j h => ?_⟩, ⟨hb'⟩⟩
          rcases Nat.lt_or_ge j i with hj | hj
          · exact HN.out j hj
          · obtain rfl : j = i := by omega
            exact HQ.out
    · have hltz : ¬ (i : Int) < (l0.length : Int) := by omega
      go_wp2
      go_ret
      refine ⟨_, rfl, ?_, HB.out⟩
      rw [← HZ.out (fun j hj => HN.out j (by omega))]
      decide
def api_Table_96.l0 (k : Nat) : List S47 → Option Bool
  | [] => some false
  | t :: ts => (view_May_1.f k t.f0).bind fun b => if b = true then some true else api_Table_96.l0 k ts
def api_Table_96.f (k : Nat) (l0 : List S47) : Option Bool := api_Table_96.l0 k l0
theorem api_Table_96.mono : ∀ a0 k, LeO (api_Table_96.f k a0) (api_Table_96.f (k + 1) a0) := by
  intro a0 k
  unfold api_Table_96.f
  induction a0 with
  | nil => exact LeO.refl _
  | cons t ts ih =>
    simp only [api_Table_96.l0]
    exact LeO.bind (view_May_1.mono _ _) (fun b => LeO.ite (LeO.refl _) ih)
def api_Table_96.p (k : Nat) (x : S47) : Bool := (view_May_1.f k x.f0).getD false
theorem api_Table_96.any_ (k : Nat) : ∀ (l : List S47) (r : Bool), api_Table_96.l0 k l = some r → r = l.any (api_Table_96.p k) ∧ ∀ i (h : i < l.length), (∀ j (h2 : j < l.length), j < i → api_Table_96.p k l[j] = false) → view_May_1.f k (l[i]).f0 = some (api_Table_96.p k l[i])
  | [], r, h => by
    obtain rfl := Option.some.inj h
    exact ⟨rfl, fun i h => absurd h (by simp)⟩
  | t :: ts, r, h => by
    simp only [api_Table_96.l0] at h
    obtain ⟨b, hb, h⟩ := Option.bind_eq_some_iff.1 h
    have hp : api_Table_96.p k t = b := by unfold api_Table_96.p; rw [hb]; rfl
    cases b with
    | true =>
      rw [if_pos rfl] at h
      obtain rfl := Option.some.inj h
      refine ⟨by simp [hp], fun i hi hj => ?_⟩
      cases i with
      | zero => show _ = some (api_Table_96.p k t); rw [hp]; exact hb
      | succ i => have := hj 0 (by simp) (by omega); rw [List.getElem_cons_zero, hp] at this; cases this
    | false =>
      rw [if_neg (by simp)] at h
      obtain ⟨h1, h2⟩ := api_Table_96.any_ k ts r h
      refine ⟨by rw [List.any_cons, hp, Bool.false_or]; exact h1, fun i hi hj => ?_⟩
      cases i with
      | zero => show _ = some (api_Table_96.p k t); rw [hp]; exact hb
      | succ i => exact h2 i (by simpa using hi) (fun j h3 h4 => by have := hj (j + 1) (by simpa using h3) (by omega); simpa using this)
set_option maxHeartbeats 800000 in
set_option maxRecDepth 100000 in
theorem api_Table_96.calls (k : Nat) (A0 : Option Addr) (c0 : Nat) (l0 : List S47) (r : Bool) (w : World) (hr0 : Kd.C k47 w A0 l0.length l0) (hc0 : l0.length ≤ c0) (h : api_Table_96.f k l0 = some r) :
    Calls Try.prog 96 #[.slice A0 l0.length c0, .func (Fn.func 94) #[] #[]] w fun e w' => e = .returned (.bool r) ∧ Below w.heap.size w w' := by
  have eg : ∀ args w, (callFunc 94 args).run Try.prog w = .ok (.enter 94 args) w := enters_of Try.func94 (by kernel_rfl) rfl
  obtain ⟨hany, hat⟩ := api_Table_96.any_ k l0 r h
  have hrd : ∀ i : Nat, ∀ h : i < l0.length, rd_T47 l0 (i : Int) = l0[i] := fun i h => by simp [rd_T47, h]
  have hcon := idx_ct.calls_ (api_Table_96.p k) 94 A0 c0 l0 w hr0 hc0 eg (fun i hi hn W hb A1 c1 hl1 hC1 => (view_May_1.calls k A1 c1 (rd_T47 l0 i).f0 (api_Table_96.p k (rd_T47 l0 i)) W hC1 hl1 (by
      rw [hrd i hi]
      exact hat i hi (fun j h2 h3 => by have := hn j h3; rwa [hrd j h2] at this))).mono fun e W' h => ⟨h.1, hb.trans (h.2.mono hb.size)⟩)
  subst hany
  clear hr0 hc0 eg h hat hrd
  generalize l0.any (api_Table_96.p k) = r at hcon ⊢
  go_enter Try.func96, Try.ntmps96
  go_wp2_with ((with_reducible refine hcon.mono ?_); rintro e w' ⟨q, rfl, hq, hb'⟩; subst hq)
  go_ret
  exact ⟨rfl, hb'⟩


/-! ### pend_Table: function 113 -/
def pend_Table.f (a0 : Int) : Option (Bool) := if a0 ≥ 0 then (some (decide (a0 < 3))) else (some false)
set_option maxHeartbeats 8000000 in
set_option maxRecDepth 100000 in
theorem pend_Table.calls (a0 : Int) (r : Bool) (w : World) (h : pend_Table.f a0 = some r) :
  Calls Try.prog 113 #[.int .i64 a0] w fun e w' => e = .returned (.bool r) ∧ Drawn0 w w' := by
 have H : (if a0 ≥ 0 then (some (decide (a0 < 3))) else (some false)) = some r := h
 clear h
 by_cases c2 : a0 ≥ 0
 ·rw [if_pos c2] at H
  have c2b0 : decide (0 ≤ a0) = true := decide_eq_true c2
  clear c2
  obtain rfl := Option.some.inj H
  go_enter Try.func113, Try.ntmps113
  go_wp2
  go_ret
  exact ⟨by first | rfl | (simp; done) | (simp [*]; done), by repeat (first | exact Drawn0.refl _ | apply Drawn0.step)⟩
 ·rw [if_neg c2] at H
  have c2b0 : decide (0 ≤ a0) = false := decide_eq_false c2
  clear c2
  obtain rfl := Option.some.inj H
  go_enter Try.func113, Try.ntmps113
  go_wp2
  go_ret
  exact ⟨by first | rfl | (simp; done) | (simp [*]; done), by repeat (first | exact Drawn0.refl _ | apply Drawn0.step)⟩

/-! ### pend_Is: function 116 -/
def pend_Is.f (a0_0 : Int) (a0_1 : ByteArray) (a0_2 : ByteArray) (a0_3 : Bool) : Option (Bool) := (pend_Table.f a0_0).bind fun t174 => (if t174 = true then ((key_Is.f a0_1).bind fun t175 => (if t175 = true then ((key_Fits.f a0_2).bind fun t176 => (if t176 = true then (if a0_3 = true then (some (a0_2.toList == ([] : List UInt8))) else (some true)) else (some false))) else (some false))) else (some false))
set_option maxHeartbeats 8000000 in
set_option maxRecDepth 100000 in
theorem pend_Is.calls (a0_0 : Int) (a0_1 : ByteArray) (a0_2 : ByteArray) (a0_3 : Bool) (r : Bool) (w : World) (h : pend_Is.f a0_0 a0_1 a0_2 a0_3 = some r) :
  Calls Try.prog 116 #[.agg #[.int .i64 a0_0, .string a0_1, .string a0_2, .bool a0_3]] w fun e w' => e = .returned (.bool r) ∧ Below w.heap.size w w' := by
 have hu36 := Try.underlying36
 have HB := mk0 (Below.refl w.heap.size w)
 have H : ((pend_Table.f a0_0).bind fun t174 => (if t174 = true then ((key_Is.f a0_1).bind fun t175 => (if t175 = true then ((key_Fits.f a0_2).bind fun t176 => (if t176 = true then (if a0_3 = true then (some (a0_2.toList == ([] : List UInt8))) else (some true)) else (some false))) else (some false))) else (some false))) = some r := h
 clear h
 replace H := Option.bind_eq_some_iff.mp H
 obtain ⟨t174, A20, H⟩ := H
 try dsimp only at H
 have A2 := mk0 A20
 clear A20
 by_cases c3 : t174 = true
 ·subst c3
  rw [if_pos rfl] at H
  replace H := Option.bind_eq_some_iff.mp H
  obtain ⟨t175, A40, H⟩ := H
  try dsimp only at H
  have A4 := mk0 A40
  clear A40
  by_cases c5 : t175 = true
  ·subst c5
   rw [if_pos rfl] at H
   replace H := Option.bind_eq_some_iff.mp H
   obtain ⟨t176, A60, H⟩ := H
   try dsimp only at H
   have A6 := mk0 A60
   clear A60
   by_cases c7 : t176 = true
   ·subst c7
    rw [if_pos rfl] at H
    by_cases c8 : a0_3 = true
    ·subst c8
     rw [if_pos rfl] at H
     obtain rfl := Option.some.inj H
     go_enter Try.func116, Try.ntmps116
     go_wp2_with (first | ((with_reducible refine gate_dst (N := 1) rfl ?_); refine bx_ (N := 1) (cs := #[.int .i64 a0_0, .string a0_1, .string a0_2, .bool true]) (t := 36) (h := ?_); intro gb173 hg w9 hbox hb; have n2_ := mk0 (gz_ HB hg); have n3_ := mk0 (gz_ HB hg); replace HB := mk0 (bt_ (b_ HB) hb); have BK173 := mk0 (hbox); have GW173 := n2_; have GE173 := n3_; clear n2_ n3_ hb hbox hg; obtain ⟨hcz10_0, hcz10_1, hcz10_2, hcz10_3, hfz10_0, hfz10_1, hfz10_2, hfz10_3⟩ := c4_ BK173) | ((with_reducible refine gate_callee (f := 113) rfl ?_); refine gL_ (some 5) Try.func113 #[.int .i64 a0_0] (h := ?_); (with_reducible refine (pend_Table.calls a0_0 true _ A2.out).mono ?_); rintro e w' ⟨rfl, ⟨nd, rfl⟩⟩; refine ⟨_, rfl, ?_⟩) | (go_at_call 42; (with_reducible refine (key_Is.calls a0_1 true _ A4.out).mono ?_); rintro e w' ⟨rfl, ⟨nd, rfl⟩⟩) | (go_at_call 163; (with_reducible refine (key_Fits.calls a0_2 true _ A6.out).mono ?_); rintro e w' ⟨rfl, ⟨nd, rfl⟩⟩))
     go_ret
     exact ⟨by first | rfl | (simp [errW_none, errW_some] <;> rfl) | (simp [*, errW_none, errW_some] <;> rfl), b_ HB⟩
    ·replace c8 := Bool.eq_false_iff.mpr c8
     subst c8
     rw [if_neg (show ¬ (false = true) by decide)] at H
     obtain rfl := Option.some.inj H
     go_enter Try.func116, Try.ntmps116
     go_wp2_with (first | ((with_reducible refine gate_dst (N := 1) rfl ?_); refine bx_ (N := 1) (cs := #[.int .i64 a0_0, .string a0_1, .string a0_2, .bool false]) (t := 36) (h := ?_); intro gb173 hg w11 hbox hb; have n2_ := mk0 (gz_ HB hg); have n3_ := mk0 (gz_ HB hg); replace HB := mk0 (bt_ (b_ HB) hb); have BK173 := mk0 (hbox); have GW173 := n2_; have GE173 := n3_; clear n2_ n3_ hb hbox hg; obtain ⟨hcz12_0, hcz12_1, hcz12_2, hcz12_3, hfz12_0, hfz12_1, hfz12_2, hfz12_3⟩ := c4_ BK173) | ((with_reducible refine gate_callee (f := 113) rfl ?_); refine gL_ (some 5) Try.func113 #[.int .i64 a0_0] (h := ?_); (with_reducible refine (pend_Table.calls a0_0 true _ A2.out).mono ?_); rintro e w' ⟨rfl, ⟨nd, rfl⟩⟩; refine ⟨_, rfl, ?_⟩) | (go_at_call 42; (with_reducible refine (key_Is.calls a0_1 true _ A4.out).mono ?_); rintro e w' ⟨rfl, ⟨nd, rfl⟩⟩) | (go_at_call 163; (with_reducible refine (key_Fits.calls a0_2 true _ A6.out).mono ?_); rintro e w' ⟨rfl, ⟨nd, rfl⟩⟩))
     go_ret
     exact ⟨by first | rfl | (simp [errW_none, errW_some] <;> rfl) | (simp [*, errW_none, errW_some] <;> rfl), b_ HB⟩
   ·replace c7 := Bool.eq_false_iff.mpr c7
    subst c7
    rw [if_neg (show ¬ (false = true) by decide)] at H
    obtain rfl := Option.some.inj H
    go_enter Try.func116, Try.ntmps116
    go_wp2_with (first | ((with_reducible refine gate_dst (N := 1) rfl ?_); refine bx_ (N := 1) (cs := #[.int .i64 a0_0, .string a0_1, .string a0_2, .bool a0_3]) (t := 36) (h := ?_); intro gb173 hg w13 hbox hb; have n2_ := mk0 (gz_ HB hg); have n3_ := mk0 (gz_ HB hg); replace HB := mk0 (bt_ (b_ HB) hb); have BK173 := mk0 (hbox); have GW173 := n2_; have GE173 := n3_; clear n2_ n3_ hb hbox hg; obtain ⟨hcz14_0, hcz14_1, hcz14_2, hcz14_3, hfz14_0, hfz14_1, hfz14_2, hfz14_3⟩ := c4_ BK173) | ((with_reducible refine gate_callee (f := 113) rfl ?_); refine gL_ (some 5) Try.func113 #[.int .i64 a0_0] (h := ?_); (with_reducible refine (pend_Table.calls a0_0 true _ A2.out).mono ?_); rintro e w' ⟨rfl, ⟨nd, rfl⟩⟩; refine ⟨_, rfl, ?_⟩) | (go_at_call 42; (with_reducible refine (key_Is.calls a0_1 true _ A4.out).mono ?_); rintro e w' ⟨rfl, ⟨nd, rfl⟩⟩) | (go_at_call 163; (with_reducible refine (key_Fits.calls a0_2 false _ A6.out).mono ?_); rintro e w' ⟨rfl, ⟨nd, rfl⟩⟩))
    go_ret
    exact ⟨by first | rfl | (simp [errW_none, errW_some] <;> rfl) | (simp [*, errW_none, errW_some] <;> rfl), b_ HB⟩
  ·replace c5 := Bool.eq_false_iff.mpr c5
   subst c5
   rw [if_neg (show ¬ (false = true) by decide)] at H
   obtain rfl := Option.some.inj H
   go_enter Try.func116, Try.ntmps116
   go_wp2_with (first | ((with_reducible refine gate_dst (N := 1) rfl ?_); refine bx_ (N := 1) (cs := #[.int .i64 a0_0, .string a0_1, .string a0_2, .bool a0_3]) (t := 36) (h := ?_); intro gb173 hg w15 hbox hb; have n2_ := mk0 (gz_ HB hg); have n3_ := mk0 (gz_ HB hg); replace HB := mk0 (bt_ (b_ HB) hb); have BK173 := mk0 (hbox); have GW173 := n2_; have GE173 := n3_; clear n2_ n3_ hb hbox hg; obtain ⟨hcz16_0, hcz16_1, hcz16_2, hcz16_3, hfz16_0, hfz16_1, hfz16_2, hfz16_3⟩ := c4_ BK173) | ((with_reducible refine gate_callee (f := 113) rfl ?_); refine gL_ (some 5) Try.func113 #[.int .i64 a0_0] (h := ?_); (with_reducible refine (pend_Table.calls a0_0 true _ A2.out).mono ?_); rintro e w' ⟨rfl, ⟨nd, rfl⟩⟩; refine ⟨_, rfl, ?_⟩) | (go_at_call 42; (with_reducible refine (key_Is.calls a0_1 false _ A4.out).mono ?_); rintro e w' ⟨rfl, ⟨nd, rfl⟩⟩))
   go_ret
   exact ⟨by first | rfl | (simp [errW_none, errW_some] <;> rfl) | (simp [*, errW_none, errW_some] <;> rfl), b_ HB⟩
 ·replace c3 := Bool.eq_false_iff.mpr c3
  subst c3
  rw [if_neg (show ¬ (false = true) by decide)] at H
  obtain rfl := Option.some.inj H
  go_enter Try.func116, Try.ntmps116
  go_wp2_with (first | ((with_reducible refine gate_dst (N := 1) rfl ?_); refine bx_ (N := 1) (cs := #[.int .i64 a0_0, .string a0_1, .string a0_2, .bool a0_3]) (t := 36) (h := ?_); intro gb173 hg w17 hbox hb; have n2_ := mk0 (gz_ HB hg); have n3_ := mk0 (gz_ HB hg); replace HB := mk0 (bt_ (b_ HB) hb); have BK173 := mk0 (hbox); have GW173 := n2_; have GE173 := n3_; clear n2_ n3_ hb hbox hg; obtain ⟨hcz18_0, hcz18_1, hcz18_2, hcz18_3, hfz18_0, hfz18_1, hfz18_2, hfz18_3⟩ := c4_ BK173) | ((with_reducible refine gate_callee (f := 113) rfl ?_); refine gL_ (some 5) Try.func113 #[.int .i64 a0_0] (h := ?_); (with_reducible refine (pend_Table.calls a0_0 false _ A2.out).mono ?_); rintro e w' ⟨rfl, ⟨nd, rfl⟩⟩; refine ⟨_, rfl, ?_⟩))
  go_ret
  exact ⟨by first | rfl | (simp [errW_none, errW_some] <;> rfl) | (simp [*, errW_none, errW_some] <;> rfl), b_ HB⟩

/-! ### pend_May_1: function 147 -/
def pend_May_1.f (a0_0 : Int) (a0_1 : ByteArray) (a0_2 : ByteArray) (a0_3 : Bool) : Option (Bool) := (pend_Is.f a0_0 a0_1 a0_2 a0_3).bind fun t178 => (some (!t178))
set_option maxHeartbeats 8000000 in
set_option maxRecDepth 100000 in
theorem pend_May_1.calls (a0_0 : Int) (a0_1 : ByteArray) (a0_2 : ByteArray) (a0_3 : Bool) (r : Bool) (w : World) (h : pend_May_1.f a0_0 a0_1 a0_2 a0_3 = some r) :
  Calls Try.prog 147 #[.agg #[.int .i64 a0_0, .string a0_1, .string a0_2, .bool a0_3]] w fun e w' => e = .returned (.bool r) ∧ Below w.heap.size w w' := by
 have hu36 := Try.underlying36
 have HB := mk0 (Below.refl w.heap.size w)
 have H : ((pend_Is.f a0_0 a0_1 a0_2 a0_3).bind fun t178 => (some (!t178))) = some r := h
 clear h
 replace H := Option.bind_eq_some_iff.mp H
 obtain ⟨t178, A20, H⟩ := H
 try dsimp only at H
 have A2 := mk0 A20
 clear A20
 obtain rfl := Option.some.inj H
 go_enter Try.func147, Try.ntmps147
 go_wp2_with (first | ((with_reducible refine gate_dst (N := 1) rfl ?_); refine bx_ (N := 1) (cs := #[.int .i64 a0_0, .string a0_1, .string a0_2, .bool a0_3]) (t := 36) (h := ?_); intro gb177 hg w3 hbox hb; have n2_ := mk0 (gz_ HB hg); have n3_ := mk0 (gz_ HB hg); replace HB := mk0 (bt_ (b_ HB) hb); have BK177 := mk0 (hbox); have GW177 := n2_; have GE177 := n3_; clear n2_ n3_ hb hbox hg; obtain ⟨hcz4_0, hcz4_1, hcz4_2, hcz4_3, hfz4_0, hfz4_1, hfz4_2, hfz4_3⟩ := c4_ BK177) | ((with_reducible refine gate_callee (f := 116) rfl ?_); refine gL_ (some 4) Try.func116 #[.agg #[.int .i64 a0_0, .string a0_1, .string a0_2, .bool a0_3]] (h := ?_); (with_reducible refine (pend_Is.calls a0_0 a0_1 a0_2 a0_3 t178 _ A2.out).mono ?_); rintro e w5 ⟨rfl, hb⟩; refine ⟨_, rfl, ?_⟩; replace BK177 := mk0 (u_ BK177 hb); replace HB := mk0 (bt_ (b_ HB) hb); (try clear hb)))
 go_ret
 exact ⟨by first | rfl | (simp [errW_none, errW_some] <;> rfl) | (simp [*, errW_none, errW_some] <;> rfl), b_ HB⟩

-- NOT PRINTED: function 180 (api_Write_180)

/-! ### api_Write_146: function 146 (by hand) -/
def idxRes_cw {α : Type} (pred : α → Bool) (l : List α) : Int := if l.findIdx pred < l.length then (l.findIdx pred : Int) else -1
set_option maxHeartbeats 800000 in
set_option maxRecDepth 100000 in
theorem idx_cw.calls_ (pred : S36 → Bool) (F : Nat) (A0 : Option Addr) (c0 : Nat) (l0 : List S36) (w : World) (hr0 : Kd.C k36 w A0 l0.length l0) (hc0 : l0.length ≤ c0)
    (eg : ∀ args w, (callFunc F args).run Try.prog w = .ok (.enter F args) w)
    (HP : ∀ (x : S36) (W : World), Below w.heap.size w W → Calls Try.prog F #[.agg #[.int .i64 x.f0, .string x.f1, .string x.f2, .bool x.f3]] W fun e W' => e = .returned (.bool (pred x)) ∧ Below w.heap.size w W') :
    Calls Try.prog 180 #[.slice A0 l0.length c0, .func (Fn.func F) #[] #[]] w fun e w' => e = .returned (.int .i64 (idxRes_cw pred l0)) ∧ Below w.heap.size w w' := by
  have HR0 := Aside0.mk hr0
  have HC0 := Aside0.mk hc0
  have hlen := hr0.2.1
  clear hr0 hc0
  have HPA := Aside0.mk HP
  clear HP
  have HB := Aside0.mk (Below.refl w.heap.size w)
  go_enter Try.func180, Try.ntmps180
  go_wp2
  go_loopg [5, 8] l0.length (fun kq _ v8 w' => ∃ (i : Nat), v8 = .int .i64 i ∧ Aside0 (kq + i = l0.length) ∧ Aside0 (∀ j (h2 : j < l0.length) (h : j < i), pred (l0[j]) = false) ∧ Aside0 (Below w.heap.size w w'))
  case atStart => exact ⟨0, rfl, ⟨by omega⟩, ⟨fun j _ h => by omega⟩, HB⟩
  case round =>
    clear HB
    obtain ⟨i, rfl, HK, HN, HB⟩ := hrel
    by_cases hi : i < l0.length
    · have p200 : (0:Int) ≤ (i : Int) := by omega
      have q200 : (i:Int) < (l0.length : Int) := by omega
      obtain ⟨ad200, e200, hx200_0, hx200_1, hx200_2, hx200_3⟩ := at_T36 HR0.out (i:Int) p200 q200
      cases e200
      replace hx200_0 := (HB.out.cell (World.block_lt_of_cell? w _ hx200_0)).trans hx200_0
      replace hx200_1 := (HB.out.cell (World.block_lt_of_cell? w _ hx200_1)).trans hx200_1
      replace hx200_2 := (HB.out.cell (World.block_lt_of_cell? w _ hx200_2)).trans hx200_2
      replace hx200_3 := (HB.out.cell (World.block_lt_of_cell? w _ hx200_3)).trans hx200_3
      simp only [Int.toNat_natCast] at hx200_0 hx200_1 hx200_2 hx200_3
      have hcall := HPA.out (rd_T36 l0 i) wr HB.out
      have hrd : rd_T36 l0 i = l0[i] := by simp [rd_T36, hi]
      have HRD := Aside0.mk hrd
      clear hrd
      cases hq : pred (rd_T36 l0 i) with
      | true =>
        rw [hq] at hcall
        have HQ := Aside0.mk hq
        clear hq
        go_wp2_with ((with_reducible refine hcall.mono ?_); rintro e w' ⟨rfl, hb'⟩)
        go_ret
        have e1 : l0.findIdx pred = i := (List.findIdx_eq hi).2 ⟨by rw [← HRD.out]; exact HQ.out, fun j hj => HN.out j (by omega) hj⟩
        exact ⟨by unfold idxRes_cw; rw [e1, if_pos hi]; rfl, hb'⟩
      | false =>
        rw [hq] at hcall
        have HQ := Aside0.mk hq
        clear hq
        go_wp2_with ((with_reducible refine hcall.mono ?_); rintro e w' ⟨rfl, hb'⟩)
        go_roundg (gk - 1)
        case measure => have := HK.out; omega
        case rel =>
          refine ⟨i + 1, by go_num, ⟨by have := HK.out; omega⟩, ⟨fun j h2 h => ?_⟩, ⟨hb'⟩⟩
          rcases Nat.lt_or_ge j i with hj | hj
          · exact HN.out j h2 hj
          · obtain rfl : j = i := by omega
            rw [← HRD.out]; exact HQ.out
    · have hltz : ¬ (i : Int) < (l0.length : Int) := by omega
      go_wp2
      go_ret
      have hil : i = l0.length := by have := HK.out; omega
      have e1 : l0.findIdx pred = l0.length := List.findIdx_eq_length.2 (fun x hx => by
        obtain ⟨j, hj, rfl⟩ := List.mem_iff_getElem.1 hx
        exact HN.out j hj (by omega))
      exact ⟨by unfold idxRes_cw; rw [e1, if_neg (Nat.lt_irrefl _)]; rfl, HB.out⟩
def api_Write_146.p (x : S36) : Bool := (pend_May_1.f x.f0 x.f1 x.f2 x.f3).getD true
theorem api_Write_146.tot (x : S36) : pend_May_1.f x.f0 x.f1 x.f2 x.f3 = some (api_Write_146.p x) := by
  unfold api_Write_146.p
  have : ∃ b, pend_May_1.f x.f0 x.f1 x.f2 x.f3 = some b := by
    obtain ⟨b1, h1⟩ : ∃ b, pend_Table.f x.f0 = some b := by unfold pend_Table.f; split <;> exact ⟨_, rfl⟩
    obtain ⟨b2, h2⟩ : ∃ b, key_Is.f x.f1 = some b := by unfold key_Is.f; split <;> exact ⟨_, rfl⟩
    obtain ⟨b3, h3⟩ : ∃ b, key_Fits.f x.f2 = some b := ⟨_, rfl⟩
    unfold pend_May_1.f pend_Is.f
    rw [h1, h2, h3]
    simp only [Option.bind_some]
    cases b1 <;> cases b2 <;> cases b3 <;> cases x.f3 <;> exact ⟨_, rfl⟩
  obtain ⟨b, hb⟩ := this
  rw [hb]; rfl
def api_Write_146.f (l0 : List S36) : Option Bool := some (l0.any api_Write_146.p)
theorem api_Write_146.any_idx {α : Type} (p : α → Bool) (l : List α) : decide ((0 : Int) ≤ idxRes_cw p l) = l.any p := by
  unfold idxRes_cw
  by_cases h : l.findIdx p < l.length
  · rw [if_pos h]
    have h1 := List.findIdx_getElem (p := p) (xs := l) (w := h)
    have h2 : l.any p = true := List.any_eq_true.2 ⟨_, List.getElem_mem h, h1⟩
    rw [h2]; simp
  · rw [if_neg h]
    have h1 : l.findIdx p = l.length := Nat.le_antisymm List.findIdx_le_length (by omega)
    have h2 : l.any p = false := by
      rw [List.any_eq_false]
      intro x hx
      have := List.findIdx_eq_length.1 h1 x hx
      simp [this]
    rw [h2]; simp
set_option maxHeartbeats 800000 in
set_option maxRecDepth 100000 in
theorem api_Write_146.calls (A0 : Option Addr) (c0 : Nat) (l0 : List S36) (r : Bool) (w : World) (hr0 : Kd.C k36 w A0 l0.length l0) (hc0 : l0.length ≤ c0) (h : api_Write_146.f l0 = some r) :
    Calls Try.prog 146 #[.slice A0 l0.length c0, .func (Fn.func 147) #[] #[]] w fun e w' => e = .returned (.bool r) ∧ Below w.heap.size w w' := by
  have eg : ∀ args w, (callFunc 147 args).run Try.prog w = .ok (.enter 147 args) w := enters_of Try.func147 (by kernel_rfl) rfl
  have hcon := idx_cw.calls_ api_Write_146.p 147 A0 c0 l0 w hr0 hc0 eg (fun x W hb => ((pend_May_1.calls x.f0 x.f1 x.f2 x.f3 _ W (api_Write_146.tot x)).mono fun e W' h => ⟨h.1, hb.trans (h.2.mono hb.size)⟩))
  have hr : decide ((0 : Int) ≤ idxRes_cw api_Write_146.p l0) = r := by rw [api_Write_146.any_idx]; exact Option.some.inj h
  clear hr0 hc0 eg h
  generalize idxRes_cw api_Write_146.p l0 = q at hcon hr
  subst hr
  go_enter Try.func146, Try.ntmps146
  go_wp2_with ((with_reducible refine hcon.mono ?_); rintro e w' ⟨rfl, hb'⟩)
  go_ret
  exact ⟨rfl, hb'⟩


/-! ### pend_May: function 97 -/
mutual
def pend_May.j0 : Nat → Bool → List (S36) → List Int → Option (Bool)
 | 0, _, _, _ => none
 | k + 1, x19, x180000, x180001 => if x19 = true then (some false) else (pend_May.l0 k x180001 (x180001.length : Int) 0 x180000 x180001)
def pend_May.l0 : Nat → List Int → Int → Int → List (S36) → List Int → Option (Bool)
 | 0, _, _, _, _, _ => none
 | k + 1, x21, x22, x23, x180000, x180001 => if x23 < x22 then (if 0 ≤ x23 then (if x23 < (x21.length : Int) then (if (rd x21 x23) < 0 then (pend_May.j2 k x21 x22 x23 true x180000 x180001) else (if (rd x21 x23) > (x180000.length : Int) then (pend_May.j2 k x21 x22 x23 true x180000 x180001) else (if x23 > 0 then (if 0 ≤ (wrap64 (x23 - 1)) then (if (wrap64 (x23 - 1)) < (x180001.length : Int) then (pend_May.j2 k x21 x22 x23 (decide ((rd x21 x23) < (rd x180001 (wrap64 (x23 - 1))))) x180000 x180001) else (none)) else (none)) else (pend_May.j2 k x21 x22 x23 false x180000 x180001)))) else (none)) else (none)) else (some true)
def pend_May.j2 : Nat → List Int → Int → Int → Bool → List (S36) → List Int → Option (Bool)
 | 0, _, _, _, _, _, _ => none
 | k + 1, x21, x22, x23, x50, x180000, x180001 => if x50 = true then (some false) else (pend_May.l0 k x21 x22 (wrap64 (x23 + 1)) x180000 x180001)
end
def pend_May.f (k : Nat) (l0_0 : List (S36)) (l0_1 : List Int) : Option (Bool) := if (l0_0.length : Int) > 12 then (pend_May.j0 k true l0_0 l0_1) else (if (l0_1.length : Int) > 6 then (pend_May.j0 k true l0_0 l0_1) else ((api_Write_146.f l0_0).bind fun t180 => (pend_May.j0 k t180 l0_0 l0_1)))
theorem pend_May.mono_l : ∀ k, (∀ y0 y1 y2, LeO (pend_May.j0 k y0 y1 y2) (pend_May.j0 (k + 1) y0 y1 y2)) ∧ (∀ y0 y1 y2 y3 y4, LeO (pend_May.l0 k y0 y1 y2 y3 y4) (pend_May.l0 (k + 1) y0 y1 y2 y3 y4)) ∧ (∀ y0 y1 y2 y3 y4 y5, LeO (pend_May.j2 k y0 y1 y2 y3 y4 y5) (pend_May.j2 (k + 1) y0 y1 y2 y3 y4 y5))
 | 0 => ⟨fun _ _ _ r h => by simp [pend_May.j0] at h, fun _ _ _ _ _ r h => by simp [pend_May.l0] at h, fun _ _ _ _ _ _ r h => by simp [pend_May.j2] at h⟩
 | k + 1 => by
  obtain ⟨ih0, ih1, ih2⟩ := pend_May.mono_l k
  refine ⟨?_, ?_, ?_⟩
  ·intro y0 y1 y2
   unfold pend_May.j0
   repeat' first
   | (with_reducible exact ih0 _ _ _)
   | (with_reducible exact ih1 _ _ _ _ _)
   | (with_reducible exact ih2 _ _ _ _ _ _)
   | (with_reducible exact LeO.refl _)
   | (with_reducible exact LeO.none _)
   | (with_reducible refine LeO.ite ?_ ?_)
   | (with_reducible refine LeO.bind ?_ (fun _ => ?_))
   | exact ih0 _ _ _
   | exact ih1 _ _ _ _ _
   | exact ih2 _ _ _ _ _ _
   | exact LeO.none _
   | refine LeO.ite ?_ ?_
   | refine LeO.bind ?_ (fun _ => ?_)
  ·intro y0 y1 y2 y3 y4
   unfold pend_May.l0
   repeat' first
   | (with_reducible exact ih0 _ _ _)
   | (with_reducible exact ih1 _ _ _ _ _)
   | (with_reducible exact ih2 _ _ _ _ _ _)
   | (with_reducible exact LeO.refl _)
   | (with_reducible exact LeO.none _)
   | (with_reducible refine LeO.ite ?_ ?_)
   | (with_reducible refine LeO.bind ?_ (fun _ => ?_))
   | exact ih0 _ _ _
   | exact ih1 _ _ _ _ _
   | exact ih2 _ _ _ _ _ _
   | exact LeO.none _
   | refine LeO.ite ?_ ?_
   | refine LeO.bind ?_ (fun _ => ?_)
  ·intro y0 y1 y2 y3 y4 y5
   unfold pend_May.j2
   repeat' first
   | (with_reducible exact ih0 _ _ _)
   | (with_reducible exact ih1 _ _ _ _ _)
   | (with_reducible exact ih2 _ _ _ _ _ _)
   | (with_reducible exact LeO.refl _)
   | (with_reducible exact LeO.none _)
   | (with_reducible refine LeO.ite ?_ ?_)
   | (with_reducible refine LeO.bind ?_ (fun _ => ?_))
   | exact ih0 _ _ _
   | exact ih1 _ _ _ _ _
   | exact ih2 _ _ _ _ _ _
   | exact LeO.none _
   | refine LeO.ite ?_ ?_
   | refine LeO.bind ?_ (fun _ => ?_)
theorem pend_May.mono : ∀ a0 a1 k, LeO (pend_May.f k a0 a1) (pend_May.f (k + 1) a0 a1) := by
 intro a0 a1 k
 obtain ⟨ih0, ih1, ih2⟩ := pend_May.mono_l k
 unfold pend_May.f
 repeat' first
   | (with_reducible exact ih0 _ _ _)
   | (with_reducible exact ih1 _ _ _ _ _)
   | (with_reducible exact ih2 _ _ _ _ _ _)
   | (with_reducible exact LeO.refl _)
   | (with_reducible exact LeO.none _)
   | (with_reducible refine LeO.ite ?_ ?_)
   | (with_reducible refine LeO.bind ?_ (fun _ => ?_))
   | exact ih0 _ _ _
   | exact ih1 _ _ _ _ _
   | exact ih2 _ _ _ _ _ _
   | exact LeO.none _
   | refine LeO.ite ?_ ?_
   | refine LeO.bind ?_ (fun _ => ?_)
set_option maxHeartbeats 8000000 in
set_option maxRecDepth 100000 in
theorem pend_May.calls (k : Nat) (A0_0 : Option Addr) (c0_0 : Nat) (l0_0 : List (S36)) (A0_1 : Option Addr) (c0_1 : Nat) (l0_1 : List Int) (r : Bool) (w : World) (hr0_0 : Kd.C k36 w A0_0 l0_0.length l0_0) (hc0_0 : l0_0.length ≤ c0_0) (hr0_1 : Kd.C (Kd.int .i64) w A0_1 l0_1.length l0_1) (hc0_1 : l0_1.length ≤ c0_1) (h : pend_May.f k l0_0 l0_1 = some r) :
  Calls Try.prog 97 #[.agg #[.slice A0_0 l0_0.length c0_0, .slice A0_1 l0_1.length c0_1]] w fun e w' => e = .returned (.bool r) ∧ Below w.heap.size w w' := by
 have hu34 := Try.underlying34
 have HR0_0 := mk0 hr0_0
 have HC0_0 := mk0 hc0_0
 clear hr0_0 hc0_0
 have HR0_1 := mk0 hr0_1
 have HC0_1 := mk0 hc0_1
 clear hr0_1 hc0_1
 have HB := mk0 (Below.refl w.heap.size w)
 have H : (if (l0_0.length : Int) > 12 then (pend_May.j0 k true l0_0 l0_1) else (if (l0_1.length : Int) > 6 then (pend_May.j0 k true l0_0 l0_1) else ((api_Write_146.f l0_0).bind fun t180 => (pend_May.j0 k t180 l0_0 l0_1)))) = some r := h
 clear h
 have HC2 := mk0 H
 clear H
 go_enter Try.func97, Try.ntmps97
 go_upto_region 1 with (first | ((with_reducible refine gate_dst (N := 1) rfl ?_); (try (refine gate_guard (by rfl) ?_; dsimp only)); refine bx_ (N := 1) (cs := #[.slice A0_0 l0_0.length c0_0, .slice A0_1 l0_1.length c0_1]) (t := 34) (h := ?_); intro gb179 hg w3 hbox hb; have n2_ := mk0 (gz_ HB hg); have n3_ := mk0 (gz_ HB hg); replace HB := mk0 (bt_ (b_ HB) hb); have BK179 := mk0 (hbox); have GW179 := n2_; have GE179 := n3_; clear n2_ n3_; clear hb hbox hg))
 (try simp only [Act.put, List.setIfInBounds_toArray, List.set_cons_zero, List.set_cons_succ])
 go_cut [19] (fun v19 wc => ∃ (kq : Nat) (x19_1 : Bool), v19 = .bool x19_1 ∧ Fc (pend_May.j0 kq x19_1 l0_0 l0_1 = some r) ∧ Fc (kq ≤ k) ∧ Fc (wc.heap[gb179]? = some (.cells #[(.slice A0_0 l0_0.length c0_0), (.slice A0_1 l0_1.length c0_1)] 34 (0, 0))) ∧ Fc (Below w.heap.size w wc))
 case first =>
  have H := HC2.out
  clear HC2
  by_cases c4 : (l0_0.length : Int) > 12
  ·rw [if_pos c4] at H
   have c4b0 : decide (12 < (l0_0.length : Int)) = true := decide_eq_true c4
   have c4b1 : decide (12 < l0_0.length) = true := decide_eq_true (by omega)
   clear c4
   (first | rw [c4b0] | (simp only [i64_w, i32_w]; rw [c4b0]) | skip)
   have H' := mk0 H
   clear H
   obtain ⟨hcz5_0, hcz5_1, hfz5_0, hfz5_1⟩ := c2_ BK179
   go_wp2
   go_meet
   case rel => exact ⟨_, (true), (by first | rfl | (simp; done) | (simp [*]; done)), H', ⟨by first | omega | exact Nat.le_refl _⟩, ⟨h_ BK179⟩, ⟨b_ HB⟩⟩
  ·rw [if_neg c4] at H
   have c4b0 : decide (12 < (l0_0.length : Int)) = false := decide_eq_false c4
   have c4b1 : decide (12 < l0_0.length) = false := decide_eq_false (by omega)
   clear c4
   (first | rw [c4b0] | (simp only [i64_w, i32_w]; rw [c4b0]) | skip)
   by_cases c6 : (l0_1.length : Int) > 6
   ·rw [if_pos c6] at H
    have c6b0 : decide (6 < (l0_1.length : Int)) = true := decide_eq_true c6
    have c6b1 : decide (6 < l0_1.length) = true := decide_eq_true (by omega)
    clear c6
    have H' := mk0 H
    clear H
    obtain ⟨hcz7_0, hcz7_1, hfz7_0, hfz7_1⟩ := c2_ BK179
    go_wp2
    go_meet
    case rel => exact ⟨_, (true), (by first | rfl | (simp; done) | (simp [*]; done)), H', ⟨by first | omega | exact Nat.le_refl _⟩, ⟨h_ BK179⟩, ⟨b_ HB⟩⟩
   ·rw [if_neg c6] at H
    have c6b0 : decide (6 < (l0_1.length : Int)) = false := decide_eq_false c6
    have c6b1 : decide (6 < l0_1.length) = false := decide_eq_false (by omega)
    clear c6
    replace H := Option.bind_eq_some_iff.mp H
    obtain ⟨t180, A80, H⟩ := H
    try dsimp only at H
    have A8 := mk0 A80
    clear A80
    have H' := mk0 H
    clear H
    obtain ⟨hcz9_0, hcz9_1, hfz9_0, hfz9_1⟩ := c2_ BK179
    go_wp2_with (first | (go_at_call 146; (with_reducible refine (api_Write_146.calls _ _ l0_0  t180 _ ?side1 ?side2 A8.out).mono ?_); (case side1 => exact cb_ HR0_0 HB); (case side2 => exact HC0_0.out); rintro e w10 ⟨rfl, hb⟩; replace BK179 := mk0 (u_ BK179 hb); replace HB := mk0 (bt_ (b_ HB) hb); (try clear hb)))
    go_meet
    case rel => exact ⟨_, (t180), (by first | rfl | (simp; done) | (simp [*]; done)), H', ⟨by first | omega | exact Nat.le_refl _⟩, ⟨h_ BK179⟩, ⟨b_ HB⟩⟩
 case rest =>
  clear HC2
  try clear c4
  try clear c4b0
  try clear c4b1
  try clear c6
  try clear c6b0
  try clear c6b1
  try clear hcz5_0
  try clear hcz5_1
  try clear hcz7_0
  try clear hcz7_1
  try clear hcz9_0
  try clear hcz9_1
  try clear hfz5_0
  try clear hfz5_1
  try clear hfz7_0
  try clear hfz7_1
  try clear hfz9_0
  try clear hfz9_1
  obtain ⟨kq, x19_1, rfl, HA, HJ1, BK179, HB⟩ := hcut
  cases kq with
  | zero => exact absurd HA.out (by simp [pend_May.j0])
  | succ kj1 =>
   have H := HA.out
   clear HA
   simp only [pend_May.j0] at H
   as_aux_lemma =>
    by_cases c11 : x19_1 = true
    ·subst c11
     rw [if_pos rfl] at H
     obtain rfl := Option.some.inj H
     go_wp2
     go_ret
     exact ⟨by first | rfl | (simp [errW_none, errW_some] <;> rfl) | (simp [*, errW_none, errW_some] <;> rfl), b_ HB⟩
    ·replace c11 := Bool.eq_false_iff.mpr c11
     subst c11
     rw [if_neg (show ¬ (false = true) by decide)] at H
     have H' := mk0 H
     clear H
     obtain ⟨hcz12_0, hcz12_1, hfz12_0, hfz12_1⟩ := c2_ BK179
     go_wp2
     go_loopg [23] kj1 (fun kq v23 w' => ∃ (x23_2 : Int), v23 = .int .i64 x23_2 ∧ Fc (pend_May.l0 kq l0_1 (l0_1.length : Int) x23_2 l0_0 l0_1 = some r) ∧ Fc (kq ≤ kj1) ∧ Fc (w'.heap[gb179]? = some (.cells #[(.slice A0_0 l0_0.length c0_0), (.slice A0_1 l0_1.length c0_1)] 34 (0, 0))) ∧ Fc (Below w.heap.size w w'))
     case atStart => exact ⟨(0), (by first | rfl | (simp; done) | (simp [*]; done)), H', ⟨Nat.le_refl _⟩, ⟨h_ BK179⟩, ⟨b_ HB⟩⟩
     case round =>
      clear H'
      try clear c4
      try clear c4b0
      try clear c4b1
      try clear c6
      try clear c6b0
      try clear c6b1
      try clear c11
      try clear hcz12_0
      try clear hcz12_1
      try clear hcz5_0
      try clear hcz5_1
      try clear hcz7_0
      try clear hcz7_1
      try clear hcz9_0
      try clear hcz9_1
      try clear hfz12_0
      try clear hfz12_1
      try clear hfz5_0
      try clear hfz5_1
      try clear hfz7_0
      try clear hfz7_1
      try clear hfz9_0
      try clear hfz9_1
      obtain ⟨x23_2, rfl, HA, HK2, BK179, HB⟩ := hrel
      cases gk with
      | zero => exact absurd HA.out (by simp [pend_May.l0])
      | succ k2 =>
       have H := HA.out
       clear HA
       simp only [pend_May.l0] at H
       as_aux_lemma =>
        by_cases c13 : x23_2 < (l0_1.length : Int)
        ·rw [if_pos c13] at H
         have c13b0 : decide (x23_2 < (l0_1.length : Int)) = true := decide_eq_true c13
         clear c13
         by_cases c14 : 0 ≤ x23_2
         ·rw [if_pos c14] at H
          have c14b0 : decide (0 ≤ x23_2) = true := decide_eq_true c14
          clear c14
          by_cases c15 : x23_2 < (l0_1.length : Int)
          ·rw [if_pos c15] at H
           have c15b0 : decide (x23_2 < (l0_1.length : Int)) = true := decide_eq_true c15
           clear c15
           have HC16 := mk0 H
           clear H
           have p181 : 0 ≤ (x23_2 : Int) := of_decide_eq_true (by first | (with_reducible assumption) | assumption)
           have q181 : x23_2 < (l0_1.length : Int) := of_decide_eq_true (by first | (with_reducible assumption) | assumption)
           obtain ⟨ad181, e181, hx181_0⟩ := Kd.at_int HR0_1.out x23_2 p181 q181
           cases e181
           replace hx181_0 := (bc_ HB hx181_0 :)
           replace p181 := eq_true p181
           replace q181 := eq_true q181
           go_upto_region 6 with (fail)
           go_cut [50] (fun v50 wc => ∃ (kq : Nat) (x50_15 : Bool), v50 = .bool x50_15 ∧ Fc (pend_May.j2 kq l0_1 (l0_1.length : Int) x23_2 x50_15 l0_0 l0_1 = some r) ∧ Fc (kq ≤ k2) ∧ Fc (wc.heap[gb179]? = some (.cells #[(.slice A0_0 l0_0.length c0_0), (.slice (some ad181) l0_1.length c0_1)] 34 (0, 0))) ∧ Fc (Below w.heap.size w wc))
           case first =>
            have H := HC16.out
            clear HC16
            by_cases c17 : (rd l0_1 x23_2) < 0
            ·rw [if_pos c17] at H
             have c17b0 : decide ((rd l0_1 x23_2) < 0) = true := decide_eq_true c17
             clear c17
             (first | rw [c17b0] | (simp only [i64_w, i32_w]; rw [c17b0]) | skip)
             have H' := mk0 H
             clear H
             go_wp2
             go_meet
             case rel => exact ⟨_, (true), (by first | rfl | (simp; done) | (simp [*]; done)), H', ⟨by have := HJ1.out; have := HK2.out; first | omega | exact Nat.le_refl _⟩, ⟨h_ BK179⟩, ⟨b_ HB⟩⟩
            ·rw [if_neg c17] at H
             have c17b0 : decide ((rd l0_1 x23_2) < 0) = false := decide_eq_false c17
             clear c17
             (first | rw [c17b0] | (simp only [i64_w, i32_w]; rw [c17b0]) | skip)
             by_cases c18 : (rd l0_1 x23_2) > (l0_0.length : Int)
             ·rw [if_pos c18] at H
              have c18b0 : decide ((l0_0.length : Int) < (rd l0_1 x23_2)) = true := decide_eq_true c18
              clear c18
              have H' := mk0 H
              clear H
              obtain ⟨hcz19_0, hcz19_1, hfz19_0, hfz19_1⟩ := c2_ BK179
              go_wp2
              go_meet
              case rel => exact ⟨_, (true), (by first | rfl | (simp; done) | (simp [*]; done)), H', ⟨by have := HJ1.out; have := HK2.out; first | omega | exact Nat.le_refl _⟩, ⟨h_ BK179⟩, ⟨b_ HB⟩⟩
             ·rw [if_neg c18] at H
              have c18b0 : decide ((l0_0.length : Int) < (rd l0_1 x23_2)) = false := decide_eq_false c18
              clear c18
              by_cases c20 : x23_2 > 0
              ·rw [if_pos c20] at H
               have c20b0 : decide (0 < x23_2) = true := decide_eq_true c20
               clear c20
               obtain ⟨ji21, hji21⟩ : ∃ j_ : Int, (wrap64 (x23_2 - 1)) = j_ := ⟨_, rfl⟩
               replace H : (if 0 ≤ (ji21) then (if (ji21) < (l0_1.length : Int) then (pend_May.j2 k2 l0_1 (l0_1.length : Int) x23_2 (decide ((rd l0_1 x23_2) < (rd l0_1 (ji21)))) l0_0 l0_1) else (none)) else (none)) = some r := by first | (rw [hji21] at H; exact H) | (simp only [hji21] at H ⊢; exact H)
               have hji21w : (IntKind.i64.wrap (x23_2 - 1)) = ji21 := (i64_w _).trans hji21
               by_cases c22 : 0 ≤ (ji21)
               ·rw [if_pos c22] at H
                have c22b0 : decide (0 ≤ (ji21)) = true := decide_eq_true c22
                clear c22
                by_cases c23 : (ji21) < (l0_1.length : Int)
                ·rw [if_pos c23] at H
                 have c23b0 : decide ((ji21) < (l0_1.length : Int)) = true := decide_eq_true c23
                 clear c23
                 have H' := mk0 H
                 clear H
                 obtain ⟨hcz24_0, hcz24_1, hfz24_0, hfz24_1⟩ := c2_ BK179
                 have p182 : 0 ≤ ((ji21) : Int) := of_decide_eq_true (by first | (with_reducible assumption) | assumption)
                 have q182 : (ji21) < (l0_1.length : Int) := of_decide_eq_true (by first | (with_reducible assumption) | assumption)
                 obtain ⟨ad182, e182, hx182_0⟩ := Kd.at_int HR0_1.out (ji21) p182 q182
                 obtain rfl : ad181 = ad182 := (by injection e182)
                 replace hx182_0 := (bc_ HB hx182_0 :)
                 replace p182 := eq_true p182
                 replace q182 := eq_true q182
                 go_wp2
                 go_meet
                 case rel => exact ⟨_, (decide ((rd l0_1 x23_2) < (rd l0_1 (ji21)))), (by first | rfl | (simp; done) | (simp only [← hji21] <;> (first | rfl | (simp [leq_]; done) | (simp; done))) | (simp [*]; done)), H', ⟨by have := HJ1.out; have := HK2.out; first | omega | exact Nat.le_refl _⟩, ⟨h_ BK179⟩, ⟨b_ HB⟩⟩
                ·rw [if_neg c23] at H
                 exact absurd H (by simp)
               ·rw [if_neg c22] at H
                exact absurd H (by simp)
              ·rw [if_neg c20] at H
               have c20b0 : decide (0 < x23_2) = false := decide_eq_false c20
               clear c20
               have H' := mk0 H
               clear H
               obtain ⟨hcz25_0, hcz25_1, hfz25_0, hfz25_1⟩ := c2_ BK179
               go_wp2
               go_meet
               case rel => exact ⟨_, (false), (by first | rfl | (simp; done) | (simp [*]; done)), H', ⟨by have := HJ1.out; have := HK2.out; first | omega | exact Nat.le_refl _⟩, ⟨h_ BK179⟩, ⟨b_ HB⟩⟩
           case rest =>
            clear HC16
            try clear c4
            try clear c4b0
            try clear c4b1
            try clear c6
            try clear c6b0
            try clear c6b1
            try clear c11
            try clear c13
            try clear c13b0
            try clear c14
            try clear c14b0
            try clear c15
            try clear c15b0
            try clear c17
            try clear c17b0
            try clear c18
            try clear c18b0
            try clear c20
            try clear c20b0
            try clear c22
            try clear c22b0
            try clear c23
            try clear c23b0
            try clear hcz12_0
            try clear hcz12_1
            try clear hcz19_0
            try clear hcz19_1
            try clear hcz24_0
            try clear hcz24_1
            try clear hcz25_0
            try clear hcz25_1
            try clear hcz5_0
            try clear hcz5_1
            try clear hcz7_0
            try clear hcz7_1
            try clear hcz9_0
            try clear hcz9_1
            try clear hfz12_0
            try clear hfz12_1
            try clear hfz19_0
            try clear hfz19_1
            try clear hfz24_0
            try clear hfz24_1
            try clear hfz25_0
            try clear hfz25_1
            try clear hfz5_0
            try clear hfz5_1
            try clear hfz7_0
            try clear hfz7_1
            try clear hfz9_0
            try clear hfz9_1
            try clear hx181_0
            try clear hx182_0
            try clear p181
            try clear p182
            try clear q181
            try clear q182
            obtain ⟨kq, x50_15, rfl, HA, HJ15, BK179, HB⟩ := hcut
            cases kq with
            | zero => exact absurd HA.out (by simp [pend_May.j2])
            | succ kj15 =>
             have H := HA.out
             clear HA
             simp only [pend_May.j2] at H
             as_aux_lemma =>
              by_cases c26 : x50_15 = true
              ·subst c26
               rw [if_pos rfl] at H
               obtain rfl := Option.some.inj H
               go_wp2
               go_ret
               exact ⟨by first | rfl | (simp [errW_none, errW_some] <;> rfl) | (simp [*, errW_none, errW_some] <;> rfl), b_ HB⟩
              ·replace c26 := Bool.eq_false_iff.mpr c26
               subst c26
               rw [if_neg (show ¬ (false = true) by decide)] at H
               have H' := mk0 H
               clear H
               go_wp2
               go_roundg kj15
               case measure => have := HJ1.out; have := HK2.out; have := HJ15.out; omega
               case rel => exact ⟨(wrap64 (x23_2 + 1)), (by first | rfl | (simp; done) | (simp [*]; done)), H', ⟨by have := HJ1.out; have := HK2.out; have := HJ15.out; omega⟩, ⟨h_ BK179⟩, ⟨b_ HB⟩⟩
          ·rw [if_neg c15] at H
           exact absurd H (by simp)
         ·rw [if_neg c14] at H
          exact absurd H (by simp)
        ·rw [if_neg c13] at H
         have c13b0 : decide (x23_2 < (l0_1.length : Int)) = false := decide_eq_false c13
         clear c13
         obtain rfl := Option.some.inj H
         go_wp2
         go_ret
         exact ⟨by first | rfl | (simp [errW_none, errW_some] <;> rfl) | (simp [*, errW_none, errW_some] <;> rfl), b_ HB⟩

/-! ### view_May: function 40 -/
def view_May.f (k : Nat) (l0 : List (S47)) (l1_0 : List (S36)) (l1_1 : List Int) : Option (Bool) := if (l0.length : Int) ≤ 3 then ((api_Table_96.f k l0).bind fun t184 => (if t184 = true then (some false) else ((pend_May.f k l1_0 l1_1).bind fun t185 => (some t185)))) else (some false)
theorem view_May.mono : ∀ a0 a1 a2 k, LeO (view_May.f k a0 a1 a2) (view_May.f (k + 1) a0 a1 a2) := by
 intro a0 a1 a2 k
 unfold view_May.f
 repeat' first
   | (with_reducible exact api_Table_96.mono _ _)
   | (with_reducible exact pend_May.mono _ _ _)
   | (with_reducible exact LeO.refl _)
   | (with_reducible exact LeO.none _)
   | (with_reducible refine LeO.ite ?_ ?_)
   | (with_reducible refine LeO.bind ?_ (fun _ => ?_))
   | exact api_Table_96.mono _ _
   | exact pend_May.mono _ _ _
   | exact LeO.none _
   | refine LeO.ite ?_ ?_
   | refine LeO.bind ?_ (fun _ => ?_)
set_option maxHeartbeats 8000000 in
set_option maxRecDepth 100000 in
theorem view_May.calls (k : Nat) (A0 : Option Addr) (c0 : Nat) (l0 : List (S47)) (A1_0 : Option Addr) (c1_0 : Nat) (l1_0 : List (S36)) (A1_1 : Option Addr) (c1_1 : Nat) (l1_1 : List Int) (r : Bool) (w : World) (hr0 : Kd.C k47 w A0 l0.length l0) (hc0 : l0.length ≤ c0) (hr1_0 : Kd.C k36 w A1_0 l1_0.length l1_0) (hc1_0 : l1_0.length ≤ c1_0) (hr1_1 : Kd.C (Kd.int .i64) w A1_1 l1_1.length l1_1) (hc1_1 : l1_1.length ≤ c1_1) (h : view_May.f k l0 l1_0 l1_1 = some r) :
  Calls Try.prog 40 #[.slice A0 l0.length c0, .agg #[.slice A1_0 l1_0.length c1_0, .slice A1_1 l1_1.length c1_1]] w fun e w' => e = .returned (.bool r) ∧ Below w.heap.size w w' := by
 have hu34 := Try.underlying34
 have HR0 := mk0 hr0
 have HC0 := mk0 hc0
 clear hr0 hc0
 have HR1_0 := mk0 hr1_0
 have HC1_0 := mk0 hc1_0
 clear hr1_0 hc1_0
 have HR1_1 := mk0 hr1_1
 have HC1_1 := mk0 hc1_1
 clear hr1_1 hc1_1
 have HB := mk0 (Below.refl w.heap.size w)
 have H : (if (l0.length : Int) ≤ 3 then ((api_Table_96.f k l0).bind fun t184 => (if t184 = true then (some false) else ((pend_May.f k l1_0 l1_1).bind fun t185 => (some t185)))) else (some false)) = some r := h
 clear h
 by_cases c3 : (l0.length : Int) ≤ 3
 ·rw [if_pos c3] at H
  have c3b0 : decide ((l0.length : Int) ≤ 3) = true := decide_eq_true c3
  have c3b1 : decide (l0.length ≤ 3) = true := decide_eq_true (by omega)
  clear c3
  replace H := Option.bind_eq_some_iff.mp H
  obtain ⟨t184, A40, H⟩ := H
  try dsimp only at H
  have A4 := mk0 A40
  clear A40
  by_cases c5 : t184 = true
  ·subst c5
   rw [if_pos rfl] at H
   obtain rfl := Option.some.inj H
   go_enter Try.func40, Try.ntmps40
   go_wp2_with (first | ((with_reducible refine gate_dst (N := 3) rfl ?_); refine bx_ (N := 3) (cs := #[.slice A1_0 l1_0.length c1_0, .slice A1_1 l1_1.length c1_1]) (t := 34) (h := ?_); intro gb183 hg w6 hbox hb; have n2_ := mk0 (gz_ HB hg); have n3_ := mk0 (gz_ HB hg); replace HB := mk0 (bt_ (b_ HB) hb); have BK183 := mk0 (hbox); have GW183 := n2_; have GE183 := n3_; clear n2_ n3_; clear hb hbox hg) | (go_at_call 96; (with_reducible refine (api_Table_96.calls k _ _ l0  true _ ?side1 ?side2 A4.out).mono ?_); (case side1 => exact cb_ HR0 HB); (case side2 => exact HC0.out); rintro e w7 ⟨rfl, hb⟩; replace BK183 := mk0 (u_ BK183 hb); replace HB := mk0 (bt_ (b_ HB) hb); (try clear hb)))
   go_ret
   exact ⟨by first | rfl | (simp [errW_none, errW_some] <;> rfl) | (simp [*, errW_none, errW_some] <;> rfl), b_ HB⟩
  ·replace c5 := Bool.eq_false_iff.mpr c5
   subst c5
   rw [if_neg (show ¬ (false = true) by decide)] at H
   replace H := Option.bind_eq_some_iff.mp H
   obtain ⟨t185, A80, H⟩ := H
   try dsimp only at H
   have A8 := mk0 A80
   clear A80
   obtain rfl := Option.some.inj H
   go_enter Try.func40, Try.ntmps40
   go_wp2_with (first | ((with_reducible refine gate_dst (N := 3) rfl ?_); refine bx_ (N := 3) (cs := #[.slice A1_0 l1_0.length c1_0, .slice A1_1 l1_1.length c1_1]) (t := 34) (h := ?_); intro gb183 hg w9 hbox hb; have n2_ := mk0 (gz_ HB hg); have n3_ := mk0 (gz_ HB hg); replace HB := mk0 (bt_ (b_ HB) hb); have BK183 := mk0 (hbox); have GW183 := n2_; have GE183 := n3_; clear n2_ n3_; clear hb hbox hg) | (go_at_call 96; (with_reducible refine (api_Table_96.calls k _ _ l0  false _ ?side1 ?side2 A4.out).mono ?_); (case side1 => exact cb_ HR0 HB); (case side2 => exact HC0.out); rintro e w10 ⟨rfl, hb⟩; replace BK183 := mk0 (u_ BK183 hb); replace HB := mk0 (bt_ (b_ HB) hb); (try clear hb); obtain ⟨hcz11_0, hcz11_1, hfz11_0, hfz11_1⟩ := c2_ BK183) | (go_at_call 97; (with_reducible refine (pend_May.calls k _ _ l1_0 _ _ l1_1 t185 _ ?side1 ?side2 ?side3 ?side4 A8.out).mono ?_); (case side1 => exact cb_ HR1_0 HB); (case side2 => exact HC1_0.out); (case side3 => exact cb_ HR1_1 HB); (case side4 => exact HC1_1.out); rintro e w12 ⟨rfl, hb⟩; replace BK183 := mk0 (u_ BK183 hb); replace HB := mk0 (bt_ (b_ HB) hb); (try clear hb)))
   go_ret
   exact ⟨by first | rfl | (simp [errW_none, errW_some] <;> rfl) | (simp [*, errW_none, errW_some] <;> rfl), b_ HB⟩
 ·rw [if_neg c3] at H
  have c3b0 : decide ((l0.length : Int) ≤ 3) = false := decide_eq_false c3
  have c3b1 : decide (l0.length ≤ 3) = false := decide_eq_false (by omega)
  clear c3
  obtain rfl := Option.some.inj H
  go_enter Try.func40, Try.ntmps40
  go_wp2_with (first | ((with_reducible refine gate_dst (N := 3) rfl ?_); refine bx_ (N := 3) (cs := #[.slice A1_0 l1_0.length c1_0, .slice A1_1 l1_1.length c1_1]) (t := 34) (h := ?_); intro gb183 hg w13 hbox hb; have n2_ := mk0 (gz_ HB hg); have n3_ := mk0 (gz_ HB hg); replace HB := mk0 (bt_ (b_ HB) hb); have BK183 := mk0 (hbox); have GW183 := n2_; have GE183 := n3_; clear n2_ n3_; clear hb hbox hg))
  go_ret
  exact ⟨by first | rfl | (simp [errW_none, errW_some] <;> rfl) | (simp [*, errW_none, errW_some] <;> rfl), b_ HB⟩

/-! ### view_there: function 41 -/
def view_there.f (l0 : List (S47)) (a1 : Int) : Option (Bool) := if a1 ≥ 0 then (some (decide (a1 < (l0.length : Int)))) else (some false)
set_option maxHeartbeats 8000000 in
set_option maxRecDepth 100000 in
theorem view_there.calls (A0 : Option Addr) (c0 : Nat) (l0 : List (S47)) (a1 : Int) (r : Bool) (w : World) (hr0 : Kd.C k47 w A0 l0.length l0) (hc0 : l0.length ≤ c0) (h : view_there.f l0 a1 = some r) :
  Calls Try.prog 41 #[.slice A0 l0.length c0, .int .i64 a1] w fun e w' => e = .returned (.bool r) ∧ Drawn0 w w' := by
 have HR0 := mk0 hr0
 have HC0 := mk0 hc0
 clear hr0 hc0
 have H : (if a1 ≥ 0 then (some (decide (a1 < (l0.length : Int)))) else (some false)) = some r := h
 clear h
 by_cases c3 : a1 ≥ 0
 ·rw [if_pos c3] at H
  have c3b0 : decide (0 ≤ a1) = true := decide_eq_true c3
  clear c3
  obtain rfl := Option.some.inj H
  go_enter Try.func41, Try.ntmps41
  go_wp2
  go_ret
  exact ⟨by first | rfl | (simp; done) | (simp [*]; done), by repeat (first | exact Drawn0.refl _ | apply Drawn0.step)⟩
 ·rw [if_neg c3] at H
  have c3b0 : decide (0 ≤ a1) = false := decide_eq_false c3
  clear c3
  obtain rfl := Option.some.inj H
  go_enter Try.func41, Try.ntmps41
  go_wp2
  go_ret
  exact ⟨by first | rfl | (simp; done) | (simp [*]; done), by repeat (first | exact Drawn0.refl _ | apply Drawn0.step)⟩

end Go.Proofs.Ytbaecdcfefmcgaa.PVow
