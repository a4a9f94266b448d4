-- PRINTED by print.py (a twelfth state) out of the translation. Not trusted: Lean checks it.
import Derived.Shelf.SlSorted.Search
import Derived.Test.YtbaecdcfefmcgaaPPlcx0
import Derived.Test.YtbaecdcfefmcgaaPPlcx6
import Derived.Test.YtbaecdcfefmcgaaPPlcx7
import Derived.Test.YtbaecdcfefmcgaaHAllc
import Derived.Great.BuildSlice
namespace Go.Proofs.Ytbaecdcfefmcgaa.PPlc
open Go.RowKit Go.Proofs.YtbaecdcfefmcgaaW.PrintWords Go.Proofs.YtbaecdcfefmcgaaW.PrintLast Go.Proofs.YtbaecdcfefmcgaaW.PrintMore
attribute [local go_sem] max2_int min2_int max_two min_two max_three min_three max_four min_four   -- for this text's walks alone
set_option linter.unusedVariables false
set_option linter.unusedSimpArgs false

/-! ### lock_Is: function 151 -/
def lock_Is.f (k : Nat) (a0_0 : Int) (a0_1 : Int) (a0_2 : ByteArray) (a0_3 : ByteArray) (a0_4 : Bool) (a0_5 : Int) : Option (Bool) := if a0_0 ≥ 0 then (if a0_0 ≤ 1073741824 then (if a0_1 ≥ 0 then (if a0_1 < 3 then ((key_May.f k a0_2 a0_3 a0_4).bind fun t167 => (if t167 = true then ((mode_Is.f a0_5).bind fun t168 => (some t168)) else (some false))) else (some false)) else (some false)) else (some false)) else (some false)
theorem lock_Is.mono : ∀ a0 a1 a2 a3 a4 a5 k, LeO (lock_Is.f k a0 a1 a2 a3 a4 a5) (lock_Is.f (k + 1) a0 a1 a2 a3 a4 a5) := by
 intro a0 a1 a2 a3 a4 a5 k
 unfold lock_Is.f
 repeat' first
   | (with_reducible exact key_May.mono _ _ _ _)
   | (with_reducible exact LeO.refl _)
   | (with_reducible exact LeO.none _)
   | (with_reducible refine LeO.ite ?_ ?_)
   | (with_reducible refine LeO.bind ?_ (fun _ => ?_))
   | exact key_May.mono _ _ _ _
   | exact LeO.none _
   | refine LeO.ite ?_ ?_
   | refine LeO.bind ?_ (fun _ => ?_)
set_option maxHeartbeats 8000000 in
set_option maxRecDepth 100000 in
theorem lock_Is.calls (k : Nat) (a0_0 : Int) (a0_1 : Int) (a0_2 : ByteArray) (a0_3 : ByteArray) (a0_4 : Bool) (a0_5 : Int) (r : Bool) (w : World) (h : lock_Is.f k a0_0 a0_1 a0_2 a0_3 a0_4 a0_5 = some r) :
  Calls Try.prog 151 #[.agg #[.int .i64 a0_0, .int .i64 a0_1, .string a0_2, .string a0_3, .bool a0_4, .int .i64 a0_5]] w fun e w' => e = .returned (.bool r) ∧ Below w.heap.size w w' := by
 have hu191 := Try.underlying191
 have hu74 := Try.underlying74
 have HB := mk0 (Below.refl w.heap.size w)
 have H : (if a0_0 ≥ 0 then (if a0_0 ≤ 1073741824 then (if a0_1 ≥ 0 then (if a0_1 < 3 then ((key_May.f k a0_2 a0_3 a0_4).bind fun t167 => (if t167 = true then ((mode_Is.f a0_5).bind fun t168 => (some t168)) else (some false))) else (some false)) else (some false)) else (some false)) else (some false)) = some r := h
 clear h
 by_cases c2 : a0_0 ≥ 0
 ·rw [if_pos c2] at H
  have c2b0 : decide (0 ≤ a0_0) = true := decide_eq_true c2
  clear c2
  by_cases c3 : a0_0 ≤ 1073741824
  ·rw [if_pos c3] at H
   have c3b0 : decide (a0_0 ≤ 1073741824) = true := decide_eq_true c3
   clear c3
   by_cases c4 : a0_1 ≥ 0
   ·rw [if_pos c4] at H
    have c4b0 : decide (0 ≤ a0_1) = true := decide_eq_true c4
    clear c4
    by_cases c5 : a0_1 < 3
    ·rw [if_pos c5] at H
     have c5b0 : decide (a0_1 < 3) = true := decide_eq_true c5
     clear c5
     replace H := Option.bind_eq_some_iff.mp H
     obtain ⟨t167, A60, H⟩ := H
     try dsimp only at H
     have A6 := mk0 A60
     clear A60
     by_cases c7 : t167 = true
     ·subst c7
      rw [if_pos rfl] at H
      replace H := Option.bind_eq_some_iff.mp H
      obtain ⟨t168, A80, H⟩ := H
      try dsimp only at H
      have A8 := mk0 A80
      clear A80
      obtain rfl := Option.some.inj H
      go_enter Try.func151, Try.ntmps151
      go_wp2_with (first | ((with_reducible refine gate_dst (N := 1) rfl ?_); refine bx_ (N := 1) (cs := #[.int .i64 a0_0, .int .i64 a0_1, .string a0_2, .string a0_3, .bool a0_4, .int .i64 a0_5]) (t := 191) (h := ?_); intro gb166 hg w9 hbox hb; have n2_ := mk0 (gz_ HB hg); have n3_ := mk0 (gz_ HB hg); replace HB := mk0 (bt_ (b_ HB) hb); have BK166 := mk0 (hbox); have GW166 := n2_; have GE166 := n3_; clear n2_ n3_ hb hbox hg; obtain ⟨hcz10_0, hcz10_1, hcz10_2, hcz10_3, hcz10_4, hcz10_5, hfz10_0, hfz10_1, hfz10_2, hfz10_3, hfz10_4, hfz10_5⟩ := c6_ BK166) | (go_at_call 131; (with_reducible refine (key_May.calls k a0_2 a0_3 a0_4 true _ A6.out).mono ?_); rintro e w11 ⟨rfl, hb⟩; replace BK166 := mk0 (u_ BK166 hb); replace HB := mk0 (bt_ (b_ HB) hb); (try clear hb); obtain ⟨hcz12_0, hcz12_1, hcz12_2, hcz12_3, hcz12_4, hcz12_5, hfz12_0, hfz12_1, hfz12_2, hfz12_3, hfz12_4, hfz12_5⟩ := c6_ BK166) | (go_at_call 186; (with_reducible refine (mode_Is.calls a0_5 t168 _ A8.out).mono ?_); rintro e w' ⟨rfl, ⟨nd, rfl⟩⟩))
      go_ret
      exact ⟨by first | rfl | (simp [errW_none, errW_some] <;> rfl) | (simp [*, errW_none, errW_some] <;> rfl), b_ HB⟩
     ·replace c7 := Bool.eq_false_iff.mpr c7
      subst c7
      rw [if_neg (show ¬ (false = true) by decide)] at H
      obtain rfl := Option.some.inj H
      go_enter Try.func151, Try.ntmps151
      go_wp2_with (first | ((with_reducible refine gate_dst (N := 1) rfl ?_); refine bx_ (N := 1) (cs := #[.int .i64 a0_0, .int .i64 a0_1, .string a0_2, .string a0_3, .bool a0_4, .int .i64 a0_5]) (t := 191) (h := ?_); intro gb166 hg w13 hbox hb; have n2_ := mk0 (gz_ HB hg); have n3_ := mk0 (gz_ HB hg); replace HB := mk0 (bt_ (b_ HB) hb); have BK166 := mk0 (hbox); have GW166 := n2_; have GE166 := n3_; clear n2_ n3_ hb hbox hg; obtain ⟨hcz14_0, hcz14_1, hcz14_2, hcz14_3, hcz14_4, hcz14_5, hfz14_0, hfz14_1, hfz14_2, hfz14_3, hfz14_4, hfz14_5⟩ := c6_ BK166) | (go_at_call 131; (with_reducible refine (key_May.calls k a0_2 a0_3 a0_4 false _ A6.out).mono ?_); rintro e w15 ⟨rfl, hb⟩; replace BK166 := mk0 (u_ BK166 hb); replace HB := mk0 (bt_ (b_ HB) hb); (try clear hb)))
      go_ret
      exact ⟨by first | rfl | (simp [errW_none, errW_some] <;> rfl) | (simp [*, errW_none, errW_some] <;> rfl), b_ HB⟩
    ·rw [if_neg c5] at H
     have c5b0 : decide (a0_1 < 3) = false := decide_eq_false c5
     clear c5
     obtain rfl := Option.some.inj H
     go_enter Try.func151, Try.ntmps151
     go_wp2_with (first | ((with_reducible refine gate_dst (N := 1) rfl ?_); refine bx_ (N := 1) (cs := #[.int .i64 a0_0, .int .i64 a0_1, .string a0_2, .string a0_3, .bool a0_4, .int .i64 a0_5]) (t := 191) (h := ?_); intro gb166 hg w16 hbox hb; have n2_ := mk0 (gz_ HB hg); have n3_ := mk0 (gz_ HB hg); replace HB := mk0 (bt_ (b_ HB) hb); have BK166 := mk0 (hbox); have GW166 := n2_; have GE166 := n3_; clear n2_ n3_ hb hbox hg; obtain ⟨hcz17_0, hcz17_1, hcz17_2, hcz17_3, hcz17_4, hcz17_5, hfz17_0, hfz17_1, hfz17_2, hfz17_3, hfz17_4, hfz17_5⟩ := c6_ BK166))
     go_ret
     exact ⟨by first | rfl | (simp [errW_none, errW_some] <;> rfl) | (simp [*, errW_none, errW_some] <;> rfl), b_ HB⟩
   ·rw [if_neg c4] at H
    have c4b0 : decide (0 ≤ a0_1) = false := decide_eq_false c4
    clear c4
    obtain rfl := Option.some.inj H
    go_enter Try.func151, Try.ntmps151
    go_wp2_with (first | ((with_reducible refine gate_dst (N := 1) rfl ?_); refine bx_ (N := 1) (cs := #[.int .i64 a0_0, .int .i64 a0_1, .string a0_2, .string a0_3, .bool a0_4, .int .i64 a0_5]) (t := 191) (h := ?_); intro gb166 hg w18 hbox hb; have n2_ := mk0 (gz_ HB hg); have n3_ := mk0 (gz_ HB hg); replace HB := mk0 (bt_ (b_ HB) hb); have BK166 := mk0 (hbox); have GW166 := n2_; have GE166 := n3_; clear n2_ n3_ hb hbox hg; obtain ⟨hcz19_0, hcz19_1, hcz19_2, hcz19_3, hcz19_4, hcz19_5, hfz19_0, hfz19_1, hfz19_2, hfz19_3, hfz19_4, hfz19_5⟩ := c6_ BK166))
    go_ret
    exact ⟨by first | rfl | (simp [errW_none, errW_some] <;> rfl) | (simp [*, errW_none, errW_some] <;> rfl), b_ HB⟩
  ·rw [if_neg c3] at H
   have c3b0 : decide (a0_0 ≤ 1073741824) = false := decide_eq_false c3
   clear c3
   obtain rfl := Option.some.inj H
   go_enter Try.func151, Try.ntmps151
   go_wp2_with (first | ((with_reducible refine gate_dst (N := 1) rfl ?_); refine bx_ (N := 1) (cs := #[.int .i64 a0_0, .int .i64 a0_1, .string a0_2, .string a0_3, .bool a0_4, .int .i64 a0_5]) (t := 191) (h := ?_); intro gb166 hg w20 hbox hb; have n2_ := mk0 (gz_ HB hg); have n3_ := mk0 (gz_ HB hg); replace HB := mk0 (bt_ (b_ HB) hb); have BK166 := mk0 (hbox); have GW166 := n2_; have GE166 := n3_; clear n2_ n3_ hb hbox hg; obtain ⟨hcz21_0, hcz21_1, hcz21_2, hcz21_3, hcz21_4, hcz21_5, hfz21_0, hfz21_1, hfz21_2, hfz21_3, hfz21_4, hfz21_5⟩ := c6_ BK166))
   go_ret
   exact ⟨by first | rfl | (simp [errW_none, errW_some] <;> rfl) | (simp [*, errW_none, errW_some] <;> rfl), b_ HB⟩
 ·rw [if_neg c2] at H
  have c2b0 : decide (0 ≤ a0_0) = false := decide_eq_false c2
  clear c2
  obtain rfl := Option.some.inj H
  go_enter Try.func151, Try.ntmps151
  go_wp2_with (first | ((with_reducible refine gate_dst (N := 1) rfl ?_); refine bx_ (N := 1) (cs := #[.int .i64 a0_0, .int .i64 a0_1, .string a0_2, .string a0_3, .bool a0_4, .int .i64 a0_5]) (t := 191) (h := ?_); intro gb166 hg w22 hbox hb; have n2_ := mk0 (gz_ HB hg); have n3_ := mk0 (gz_ HB hg); replace HB := mk0 (bt_ (b_ HB) hb); have BK166 := mk0 (hbox); have GW166 := n2_; have GE166 := n3_; clear n2_ n3_ hb hbox hg; obtain ⟨hcz23_0, hcz23_1, hcz23_2, hcz23_3, hcz23_4, hcz23_5, hfz23_0, hfz23_1, hfz23_2, hfz23_3, hfz23_4, hfz23_5⟩ := c6_ BK166))
  go_ret
  exact ⟨by first | rfl | (simp [errW_none, errW_some] <;> rfl) | (simp [*, errW_none, errW_some] <;> rfl), b_ HB⟩

/-! ### key_Alone: function 187 -/
def key_Alone.f (a0 : ByteArray) : Option (ByteArray × ByteArray × Bool) := if a0.size + 1 ≤ 9223372036854775807 then (some (a0, a0 ++ (⟨#[0]⟩ : ByteArray), false)) else (none)
set_option maxHeartbeats 8000000 in
set_option maxRecDepth 100000 in
theorem key_Alone.calls (a0 : ByteArray) (r1 : ByteArray) (r2 : ByteArray) (r3 : Bool) (w : World) (h : key_Alone.f a0 = some (r1, r2, r3)) :
  Calls Try.prog 187 #[.string a0] w fun e w' => e = .returned (.agg #[.string r1, .string r2, .bool r3]) ∧ Below w.heap.size w w' := by
 have hu74 := Try.underlying74
 have HB := mk0 (Below.refl w.heap.size w)
 have H : (if a0.size + 1 ≤ 9223372036854775807 then (some (a0, a0 ++ (⟨#[0]⟩ : ByteArray), false)) else (none)) = some (r1, r2, r3) := h
 clear h
 by_cases c2 : a0.size + 1 ≤ 9223372036854775807
 ·rw [if_pos c2] at H
  have c2b0 := eq_true c2
  have c2b1 : decide (a0.size + 1 ≤ 9223372036854775807) = true := decide_eq_true c2
  try have c2b2 : (9223372036854775807 < a0.size + 1) = False := eq_false (Nat.not_lt.2 c2)
  simp only [Option.some.injEq, Prod.mk.injEq] at H
  obtain ⟨rfl, rfl, rfl⟩ := H
  go_enter Try.func187, Try.ntmps187
  go_wp2_with (first | ((with_reducible refine gate_dst (N := 2) rfl ?_); refine bx_ (N := 2) (cs := #[.string (⟨#[]⟩ : ByteArray), .string (⟨#[]⟩ : ByteArray), .bool false]) (t := 74) (h := ?_); intro gb169 hg w3 hbox hb; have n2_ := mk0 (gz_ HB hg); have n3_ := mk0 (gz_ HB hg); replace HB := mk0 (bt_ (b_ HB) hb); have BK169 := mk0 (hbox); have GW169 := n2_; have GE169 := n3_; clear n2_ n3_ hb hbox hg; obtain ⟨hcz4_0, hcz4_1, hcz4_2, hfz4_0, hfz4_1, hfz4_2⟩ := c3_ BK169))
  refine bodyPost_ret (results_cell_row rfl _ _ gb169 74 #[.string a0, .string (a0 ++ (⟨#[0]⟩ : ByteArray)), .bool false] (0, 0) _ rfl (pu_ (cs := #[.string a0, .string (a0 ++ (⟨#[0]⟩ : ByteArray)), .bool false]) (pu_ (cs := #[.string a0, .string (⟨#[]⟩ : ByteArray), .bool false]) (pu_ (cs := #[.string (⟨#[]⟩ : ByteArray), .string (⟨#[]⟩ : ByteArray), .bool false]) (h_ BK169)))) Try.underlying74 rfl (by kernel_rfl)) rfl ?_
  exact ⟨by first | rfl | (simp [errW_none, errW_some] <;> rfl) | (simp [*, errW_none, errW_some] <;> rfl), b_ HB⟩
 ·rw [if_neg c2] at H
  exact absurd H (by simp)

/-! ### key_All: function 188 -/
def key_All.f  : Option (ByteArray × ByteArray × Bool) := some ((⟨#[]⟩ : ByteArray), (⟨#[]⟩ : ByteArray), true)
set_option maxHeartbeats 8000000 in
set_option maxRecDepth 100000 in
theorem key_All.calls  (r1 : ByteArray) (r2 : ByteArray) (r3 : Bool) (w : World) (h : key_All.f  = some (r1, r2, r3)) :
  Calls Try.prog 188 #[] w fun e w' => e = .returned (.agg #[.string r1, .string r2, .bool r3]) ∧ Below w.heap.size w w' := by
 have hu74 := Try.underlying74
 have HB := mk0 (Below.refl w.heap.size w)
 have H : (some ((⟨#[]⟩ : ByteArray), (⟨#[]⟩ : ByteArray), true)) = some (r1, r2, r3) := h
 clear h
 simp only [Option.some.injEq, Prod.mk.injEq] at H
 obtain ⟨rfl, rfl, rfl⟩ := H
 go_enter Try.func188, Try.ntmps188
 go_wp2_with (first | ((with_reducible refine gate_dst (N := 0) rfl ?_); refine bx_ (N := 0) (cs := #[.string (⟨#[]⟩ : ByteArray), .string (⟨#[]⟩ : ByteArray), .bool false]) (t := 74) (h := ?_); intro gb170 hg w1 hbox hb; have n2_ := mk0 (gz_ HB hg); have n3_ := mk0 (gz_ HB hg); replace HB := mk0 (bt_ (b_ HB) hb); have BK170 := mk0 (hbox); have GW170 := n2_; have GE170 := n3_; clear n2_ n3_ hb hbox hg; obtain ⟨hcz2_0, hcz2_1, hcz2_2, hfz2_0, hfz2_1, hfz2_2⟩ := c3_ BK170))
 refine bodyPost_ret (results_cell_row rfl _ _ gb170 74 #[.string (⟨#[]⟩ : ByteArray), .string (⟨#[]⟩ : ByteArray), .bool true] (0, 0) _ rfl (pu_ (cs := #[.string (⟨#[]⟩ : ByteArray), .string (⟨#[]⟩ : ByteArray), .bool false]) (pu_ (cs := #[.string (⟨#[]⟩ : ByteArray), .string (⟨#[]⟩ : ByteArray), .bool false]) (pu_ (cs := #[.string (⟨#[]⟩ : ByteArray), .string (⟨#[]⟩ : ByteArray), .bool false]) (h_ BK170)))) Try.underlying74 rfl (by kernel_rfl)) rfl ?_
 exact ⟨by first | rfl | (simp [errW_none, errW_some] <;> rfl) | (simp [*, errW_none, errW_some] <;> rfl), b_ HB⟩

/-! ### api_Write_156: function 156 (by hand) -/
def api_Write_156.f (l0 : List (S36)) : Option (List (S36)) := if l0.length < 2932031007402 then some l0 else none
theorem kd_empty_36 (w : World) : k36.R 36 (w.alloc (.cells #[] 36)) w.heap.size (fun _ => True) (.slice (some ⟨w.heap.size, 0, none⟩) 0 0) [] := by
  refine ⟨fun _ _ => trivial, [], ⟨by simp, .inr ⟨w.heap.size, 0, #[], rfl, Nat.le_refl _, heap_alloc_new w _, Nat.le_refl _, by decide, by simp, by simp⟩⟩, ?_⟩
  exact Reps.none _ _
set_option maxHeartbeats 800000 in
set_option maxRecDepth 100000 in
theorem api_Write_156.calls (A0 : Option Addr) (c0 : Nat) (l0 : List (S36)) (r : List (S36)) (w : World) (hr0 : Kd.C k36 w A0 l0.length l0) (hc0 : l0.length ≤ c0) (h : api_Write_156.f l0 = some r) :
    Calls Try.prog 156 #[.slice A0 l0.length c0] w fun e w' => ∃ v0_ : Value, e = .returned (v0_) ∧ Kd.R k36 36 w' w.heap.size (fun _ => True) v0_ r ∧ Below w.heap.size w w' := by
  have HC0 := Aside0.mk hc0
  clear hc0
  unfold api_Write_156.f at h
  split at h
  · obtain rfl := Option.some.inj h
    rename_i hlt
    clear h
    rcases A0 with _ | ad
    · have hl : l0 = [] := by
        rcases Nat.eq_zero_or_pos l0.length with h0 | h0
        · exact List.eq_nil_of_length_eq_zero h0
        · obtain ⟨ad, e, _⟩ := hr0.2.2 h0
          cases e
      subst hl
      have HN := fun w : World => Lib.run_eql_slice_nil (P := Try.prog) w 32 36 none 0 c0 0 0 Try.underlying32
      go_enter Try.func156, Try.ntmps156
      go_wp2
      go_ret
      exact ⟨_, rfl, Kd.R_nil _ _ _ _ _, Below.refl _ _⟩
    · have HN := fun w : World => Lib.run_eql_slice_nil (P := Try.prog) w 32 36 (some ad) l0.length c0 0 0 Try.underlying32
      have HR0 := Aside0.mk hr0
      clear hr0
      have HO := Aside0.mk (kd_empty_36 w)
      go_enter Try.func156, Try.ntmps156
      go_wp2_with (first | ((with_reducible refine gate_builtin (b := .append) (xs := #[.tmp 5, .tmp 6]) rfl ?_); at_builtin; refine Kd.R_append_rows k36 (w0 := w) w.heap.size rfl (.tmp 5) (.tmp 6) 32 36 (.agg #[(.int .i64 0), (.string ⟨#[]⟩), (.string ⟨#[]⟩), (.bool false)]) 48 rfl Try.underlying32 info36 rfl (by decide) (by omega) (.slice (some ⟨w.heap.size, 0, none⟩) 0 0) ([] : List (S36)) l0 _ _ _ (fun _ => True) (fun _ => False) rfl rfl ?aO ?aR (fun _ _ h => h) (fun _ h => h.elim) ?aF ?aB ?aS ?aL ?_; (case aR => exact (Kd.C_below HR0.out (below_alloc (Below.refl _ _) _))); (case aB => exact (below_alloc (Below.refl _ _) _)); (case aF => exact (fun _ _ => trivial)); (case aO => exact HO.out); (case aS => simp); (case aL => simp; omega); intro v1 w1 ho hb hg hat; clear hg hat))
      go_ret
      exact ⟨_, rfl, ho, hb⟩
  · cases h


-- NOT PRINTED: function 201 (api_Write_201)

-- NOT PRINTED: function 208 (api_Write_208)

-- NOT PRINTED: function 206 (api_Write_206)

-- NOT PRINTED: function 202 (api_Write_202)

-- NOT PRINTED: function 191 (api_Write_191)

-- NOT PRINTED: function 159 (api_Write_159)

-- NOT PRINTED: function 197 (bytealg_abigen_runtime_cmpstring)

-- NOT PRINTED: function 175 (bytealg_CompareString)

-- NOT PRINTED: function 139 (strings_Compare)

/-! ### cmp_Or_int: function 192 -/
def cmp_Or_int.l0 : Nat → Int → List Int → Int → Int → Option (Int)
 | 0, _, _, _, _ => none
 | k + 1, x3, x6, x7, x8 => if x8 < x7 then (if 0 ≤ x8 then (if x8 < (x6.length : Int) then (if (rd x6 x8) = x3 then (cmp_Or_int.l0 k x3 x6 x7 (wrap64 (x8 + 1))) else (some (rd x6 x8))) else (none)) else (none)) else (some x3)
def cmp_Or_int.f (k : Nat) (l0 : List Int) : Option (Int) := cmp_Or_int.l0 k 0 l0 (l0.length : Int) 0
theorem cmp_Or_int.mono_l : ∀ k, (∀ y0 y1 y2 y3, LeO (cmp_Or_int.l0 k y0 y1 y2 y3) (cmp_Or_int.l0 (k + 1) y0 y1 y2 y3))
 | 0 => fun _ _ _ _ r h => by simp [cmp_Or_int.l0] at h
 | k + 1 => by
  have ih0 := cmp_Or_int.mono_l k
  ·intro y0 y1 y2 y3
   unfold cmp_Or_int.l0
   repeat' first
   | (with_reducible exact ih0 _ _ _ _)
   | (with_reducible exact LeO.refl _)
   | (with_reducible exact LeO.none _)
   | (with_reducible refine LeO.ite ?_ ?_)
   | (with_reducible refine LeO.bind ?_ (fun _ => ?_))
   | exact ih0 _ _ _ _
   | exact LeO.none _
   | refine LeO.ite ?_ ?_
   | refine LeO.bind ?_ (fun _ => ?_)
theorem cmp_Or_int.mono : ∀ a0 k, LeO (cmp_Or_int.f k a0) (cmp_Or_int.f (k + 1) a0) := by
 intro a0 k
 have ih0 := cmp_Or_int.mono_l k
 unfold cmp_Or_int.f
 repeat' first
   | (with_reducible exact ih0 _ _ _ _)
   | (with_reducible exact LeO.refl _)
   | (with_reducible exact LeO.none _)
   | (with_reducible refine LeO.ite ?_ ?_)
   | (with_reducible refine LeO.bind ?_ (fun _ => ?_))
   | exact ih0 _ _ _ _
   | exact LeO.none _
   | refine LeO.ite ?_ ?_
   | refine LeO.bind ?_ (fun _ => ?_)
set_option maxHeartbeats 8000000 in
set_option maxRecDepth 100000 in
theorem cmp_Or_int.calls (k : Nat) (A0 : Option Addr) (c0 : Nat) (l0 : List Int) (r : Int) (w : World) (hr0 : Kd.C (Kd.int .i64) w A0 l0.length l0) (hc0 : l0.length ≤ c0) (h : cmp_Or_int.f k l0 = some r) :
  Calls Try.prog 192 #[.slice A0 l0.length c0] w fun e w' => e = .returned (.int .i64 r) ∧ Drawn0 w w' := by
 have HR0 := mk0 hr0
 have HC0 := mk0 hc0
 clear hr0 hc0
 have H : (cmp_Or_int.l0 k 0 l0 (l0.length : Int) 0) = some r := h
 clear h
 have H' := mk0 H
 clear H
 go_enter Try.func192, Try.ntmps192
 go_wp2
 go_loopg [8] k (fun kq v8 w' => ∃ (x8_1 : Int), v8 = .int .i64 x8_1 ∧ Fc (cmp_Or_int.l0 kq 0 l0 (l0.length : Int) x8_1 = some r) ∧ Fc (kq ≤ k) ∧ Drawn0 w w')
 case atStart => exact ⟨(0), (by first | rfl | (simp; done) | (simp [*]; done)), H', ⟨Nat.le_refl _⟩, by repeat (first | exact Drawn0.refl _ | apply Drawn0.step)⟩
 case round =>
  clear H'
  obtain ⟨x8_1, rfl, HA, HK1, ⟨m1, rfl⟩⟩ := hrel
  cases gk with
  | zero => exact absurd HA.out (by simp [cmp_Or_int.l0])
  | succ k1 =>
   have H := HA.out
   clear HA
   simp only [cmp_Or_int.l0] at H
   as_aux_lemma =>
    by_cases c2 : x8_1 < (l0.length : Int)
    ·rw [if_pos c2] at H
     have c2b0 : decide (x8_1 < (l0.length : Int)) = true := decide_eq_true c2
     clear c2
     by_cases c3 : 0 ≤ x8_1
     ·rw [if_pos c3] at H
      have c3b0 : decide (0 ≤ x8_1) = true := decide_eq_true c3
      clear c3
      by_cases c4 : x8_1 < (l0.length : Int)
      ·rw [if_pos c4] at H
       have c4b0 : decide (x8_1 < (l0.length : Int)) = true := decide_eq_true c4
       clear c4
       by_cases c5 : (rd l0 x8_1) = 0
       ·rw [if_pos c5] at H
        have c5b0 : ((rd l0 x8_1) == 0) = true := beq_iff_eq.mpr c5
        have c5b1 : ((rd l0 x8_1) != 0) = false := bne_eq_false_iff_eq.mpr c5
        clear c5
        have H' := mk0 H
        clear H
        have p171 : 0 ≤ (x8_1 : Int) := of_decide_eq_true (by first | (with_reducible assumption) | assumption)
        have q171 : x8_1 < (l0.length : Int) := of_decide_eq_true (by first | (with_reducible assumption) | assumption)
        obtain ⟨ad171, e171, hx171_0⟩ := Kd.at_int HR0.out x8_1 p171 q171
        cases e171
        replace p171 := eq_true p171
        replace q171 := eq_true q171
        go_wp2
        go_roundg k1
        case measure => have := HK1.out; omega
        case rel => exact ⟨(wrap64 (x8_1 + 1)), (by first | rfl | (simp; done) | (simp [*]; done)), H', ⟨by have := HK1.out; omega⟩, by repeat (first | exact Drawn0.refl _ | apply Drawn0.step)⟩
       ·rw [if_neg c5] at H
        have c5b0 : ((rd l0 x8_1) == 0) = false := beq_eq_false_iff_ne.mpr c5
        have c5b1 : ((rd l0 x8_1) != 0) = true := bne_iff_ne.mpr c5
        obtain rfl := Option.some.inj H
        have p171 : 0 ≤ (x8_1 : Int) := of_decide_eq_true (by first | (with_reducible assumption) | assumption)
        have q171 : x8_1 < (l0.length : Int) := of_decide_eq_true (by first | (with_reducible assumption) | assumption)
        obtain ⟨ad171, e171, hx171_0⟩ := Kd.at_int HR0.out x8_1 p171 q171
        cases e171
        replace p171 := eq_true p171
        replace q171 := eq_true q171
        go_wp2
        go_ret
        exact ⟨by first | rfl | (simp; done) | (simp [*]; done), by repeat (first | exact Drawn0.refl _ | apply Drawn0.step)⟩
      ·rw [if_neg c4] at H
       exact absurd H (by simp)
     ·rw [if_neg c3] at H
      exact absurd H (by simp)
    ·rw [if_neg c2] at H
     have c2b0 : decide (x8_1 < (l0.length : Int)) = false := decide_eq_false c2
     clear c2
     obtain rfl := Option.some.inj H
     go_wp2
     go_ret
     exact ⟨by first | rfl | (simp; done) | (simp [*]; done), by repeat (first | exact Drawn0.refl _ | apply Drawn0.step)⟩

-- NOT PRINTED: function 160 (pend_order)

-- NOT PRINTED: function 161 (api_Write_161)

/-! ### pend_All: function 114 (by hand) -/
def pend_All.f (l0_0 : List (S36)) (l0_1 : List Int) : Option (List (S36)) := if l0_0.length ≤ 12 then some (HAll.allOf l0_0) else none
theorem pend_All.calls (A0_0 : Option Addr) (c0_0 : Nat) (l0_0 : List (S36)) (A0_1 : Option Addr) (c0_1 : Nat) (l0_1 : List Int) (r : List (S36)) (w : World) (hr0_0 : Kd.C k36 w A0_0 l0_0.length l0_0) (hc0_0 : l0_0.length ≤ c0_0) (hr0_1 : Kd.C (Kd.int .i64) w A0_1 l0_1.length l0_1) (hc0_1 : l0_1.length ≤ c0_1) (h : pend_All.f l0_0 l0_1 = some r) :
    Calls Try.prog 114 #[.agg #[.slice A0_0 l0_0.length c0_0, .slice A0_1 l0_1.length c0_1]] w fun e w' => ∃ v0_ : Value, e = .returned (v0_) ∧ Kd.R k36 36 w' w.heap.size (fun _ => True) v0_ r ∧ Below w.heap.size w w' := by
  unfold pend_All.f at h
  split at h
  · rename_i h12
    obtain rfl := Option.some.inj h
    exact HAll.All_calls A0_0 c0_0 l0_0 A0_1 c0_1 l0_1 w hr0_0 hc0_0 h12
  · cases h


theorem lock_built_ (a b : Int) (lo hi : ByteArray) (tp : Bool) (m : Int) : Try.prog.built 191 [(0, .int .i64 a), (1, .int .i64 b), (2, .agg #[.string lo, .string hi, .bool tp]), (3, .int .i64 m)] = some #[.int .i64 a, .int .i64 b, .string lo, .string hi, .bool tp, .int .i64 m] := by kernel_rfl
theorem fill6_ (z c0 c1 c2 c3 c4 c5 : Value) : Instr.fill (fun i => some (i * 6, 6)) ((Array.range (1 * 6)).map (z.cells[· % z.cells.size]!)) [(0, .agg #[c0, c1, c2, c3, c4, c5])] = some #[c0, c1, c2, c3, c4, c5] := by
  have h := Go.Great.fill_whole (s := 6) (by decide) [Value.agg #[c0, c1, c2, c3, c4, c5]] ((Array.range (1 * 6)).map (z.cells[· % z.cells.size]!)) (fun v hv => by obtain rfl := List.mem_singleton.1 hv; rfl) (by simp)
  simpa [Value.cells] using h
theorem bu_run_ {P : Program} {a : Act} {o : Oper} {w : World} (t : TypeId) (parts : Array (Nat × Operand)) (cells : Array Value) (ho : o.op = .build t parts) (hb : P.built t (parts.map fun (i, x) => (i, a.eval x)).toList = some cells) : (execOp a.eval o).run P w = .ok (.value (.agg cells)) w := by
  unfold execOp
  simp only [ho, Sem.run_bind, run_build w t _ cells hb, Result.andThen_ok, Sem.run_pure]
theorem bs_run_ {P : Program} {a : Act} {o : Oper} {w : World} (t e : TypeId) (parts : Array (Nat × Operand)) (cells : Array Value) (z : Value) (sz by_ : Nat) (ho : o.op = .buildSlice t 1 parts) (hu : P.underlying t = some (.slice e)) (hi : (P.info? e).map (fun i => (i.zero, i.size, i.bytes)) = some (some z, sz, by_)) (hsm : ¬ 1 * sz > 2 ^ 24) (hp : ¬ 1 * sz = 0)
    (hf : Instr.fill (fun i => some (i * sz, sz)) ((Array.range (1 * sz)).map (z.cells[· % z.cells.size]!)) (parts.map fun (i, x) => (i, a.eval x)).toList = some cells) : (execOp a.eval o).run P w = .ok (.value (.slice (some ⟨w.heap.size, 0, none⟩) 1 1)) (w.alloc (.cells cells e)) := by
  obtain ⟨ie, h1, h2⟩ := Option.map_eq_some_iff.1 hi
  simp only [Prod.mk.injEq] at h2
  obtain ⟨h3, rfl, _⟩ := h2
  unfold execOp
  simp only [ho, Sem.run_bind, run_buildSlice w t e 1 _ cells ie z hu h1 h3 hsm hp hf, Result.andThen_ok, Sem.run_pure]
/-! ### plan_certify: function 189 -/
def plan_certify.l0 : Nat → Int → List (S191) → List (S36) → Int → Int → Option ((List (S191)))
 | 0, _, _, _, _, _ => none
 | k + 1, x1, x4, x8, x9, x10 => if x10 < x9 then (if 0 ≤ x10 then (if x10 < (x8.length : Int) then ((key_Alone.f ((rd_T36 x8 x10).f1)).bind fun bt180 => (if x4.length < 2199023255552 then (plan_certify.l0 k x1 (x4 ++ [(⟨x1, (rd_T36 x8 x10).f0, (⟨bt180.1, bt180.2.1, bt180.2.2⟩ : S74), 3⟩ : S191)]) x8 x9 (wrap64 (x10 + 1))) else (none))) else (none)) else (none)) else (some x4)
def plan_certify.f (k : Nat) (l0_0 : List (S36)) (l0_1 : List Int) (a1 : Int) : Option ((List (S191))) := (pend_All.f l0_0 l0_1).bind fun t175 => (plan_certify.l0 k a1 ([] : List (S191)) t175 (t175.length : Int) 0)
theorem plan_certify.mono_l : ∀ k, (∀ y0 y1 y2 y3 y4, LeO (plan_certify.l0 k y0 y1 y2 y3 y4) (plan_certify.l0 (k + 1) y0 y1 y2 y3 y4))
 | 0 => fun _ _ _ _ _ r h => by simp [plan_certify.l0] at h
 | k + 1 => by
  have ih0 := plan_certify.mono_l k
  ·intro y0 y1 y2 y3 y4
   unfold plan_certify.l0
   repeat' first
   | (with_reducible exact ih0 _ _ _ _ _)
   | (with_reducible exact LeO.refl _)
   | (with_reducible exact LeO.none _)
   | (with_reducible refine LeO.ite ?_ ?_)
   | (with_reducible refine LeO.bind ?_ (fun _ => ?_))
   | exact ih0 _ _ _ _ _
   | exact LeO.none _
   | refine LeO.ite ?_ ?_
   | refine LeO.bind ?_ (fun _ => ?_)
theorem plan_certify.mono : ∀ a0 a1 a2 k, LeO (plan_certify.f k a0 a1 a2) (plan_certify.f (k + 1) a0 a1 a2) := by
 intro a0 a1 a2 k
 have ih0 := plan_certify.mono_l k
 unfold plan_certify.f
 repeat' first
   | (with_reducible exact ih0 _ _ _ _ _)
   | (with_reducible exact LeO.refl _)
   | (with_reducible exact LeO.none _)
   | (with_reducible refine LeO.ite ?_ ?_)
   | (with_reducible refine LeO.bind ?_ (fun _ => ?_))
   | exact ih0 _ _ _ _ _
   | exact LeO.none _
   | refine LeO.ite ?_ ?_
   | refine LeO.bind ?_ (fun _ => ?_)
def plan_certify.T4 : Bool × List (List Nat × List Nat) := (true, [([], []), ([], []), ([], []), ([2], [2]), ([], []), ([4], [4]), ([5], [5]), ([1, 3, 6], [1, 3, 6]), ([7], [7]), ([0, 8, 6], [0, 8]), ([9, 9, 0, 1, 2, 3, 4, 5, 6, 7, 8, 9], [0, 9])])
def plan_certify.B4 : List Nat := [0, 0, 0, 4, 0, 16, 48, 126, 254, 511, 1023]
theorem plan_certify.tab4 : rtab .any (opsOf Try.f189 4) = plan_certify.T4 := by kernel_rfl
theorem plan_certify.bits4 : waitsOk plan_certify.T4.2 plan_certify.B4 = true := by kernel_rfl
set_option maxHeartbeats 8000000 in
set_option maxRecDepth 100000 in
theorem plan_certify.calls (k : Nat) (A0_0 : Option Addr) (c0_0 : Nat) (l0_0 : List (S36)) (A0_1 : Option Addr) (c0_1 : Nat) (l0_1 : List Int) (a1 : Int) (r : List (S191)) (w : World) (hr0_0 : Kd.C k36 w A0_0 l0_0.length l0_0) (hc0_0 : l0_0.length ≤ c0_0) (hr0_1 : Kd.C (Kd.int .i64) w A0_1 l0_1.length l0_1) (hc0_1 : l0_1.length ≤ c0_1) (h : plan_certify.f k l0_0 l0_1 a1 = some r) :
  Calls Try.prog 189 #[.agg #[.slice A0_0 l0_0.length c0_0, .slice A0_1 l0_1.length c0_1], .int .i64 a1] w fun e w' => ∃ v0_ : Value, e = .returned (v0_) ∧ Kd.R k191 191 w' w.heap.size (fun _ => True) v0_ r ∧ Below w.heap.size w w' := by
 have hu34 := Try.underlying34
 have hu36 := Try.underlying36
 have hu191 := Try.underlying191
 have HR0_0 := mk0 hr0_0
 have HC0_0 := mk0 hc0_0
 clear hr0_0 hc0_0
 have HR0_1 := mk0 hr0_1
 have HC0_1 := mk0 hc0_1
 clear hr0_1 hc0_1
 have HB := mk0 (Below.refl w.heap.size w)
 have H : ((pend_All.f l0_0 l0_1).bind fun t175 => (plan_certify.l0 k a1 ([] : List (S191)) t175 (t175.length : Int) 0)) = some r := h
 clear h
 replace H := Option.bind_eq_some_iff.mp H
 obtain ⟨t175, A30, H⟩ := H
 try dsimp only at H
 have A3 := mk0 A30
 clear A30
 have H' := mk0 H
 clear H
 go_enter Try.func189, Try.ntmps189
 go_wp2_with (first | ((with_reducible refine gate_dst (N := 2) rfl ?_); refine bx_ (N := 2) (cs := #[.slice A0_0 l0_0.length c0_0, .slice A0_1 l0_1.length c0_1]) (t := 34) (h := ?_); intro gb174 hg w4 hbox hb; have n2_ := mk0 (gz_ HB hg); have n3_ := mk0 (gz_ HB hg); replace HB := mk0 (bt_ (b_ HB) hb); have BK174 := mk0 (hbox); have GW174 := n2_; have GE174 := n3_; clear n2_ n3_ hb hbox hg; obtain ⟨hcz5_0, hcz5_1, hfz5_0, hfz5_1⟩ := c2_ BK174) | ((with_reducible refine gate_callee (f := 114) rfl ?_); refine gL_ (some 8) Try.func114 #[.agg #[.slice A0_0 l0_0.length c0_0, .slice A0_1 l0_1.length c0_1]] (h := ?_); (with_reducible refine (pend_All.calls _ _ l0_0 _ _ l0_1 t175 _ ?side1 ?side2 ?side3 ?side4 A3.out).mono ?_); (case side1 => exact cb_ HR0_0 HB); (case side2 => exact HC0_0.out); (case side3 => exact cb_ HR0_1 HB); (case side4 => exact HC0_1.out); rintro e w6 ⟨v176, rfl, ho0, hb⟩; refine ⟨_, rfl, ?_⟩; have n0_ := mk0 (Kd.R_lower ho0 (bz_ (b_ HB))); replace BK174 := mk0 (u_ BK174 hb); replace HB := mk0 (bt_ (b_ HB) hb); have HO177 := n0_; clear n0_; (try clear hb); (try clear ho0); obtain ⟨Ao7, co7, eo7⟩ := Kd.R_slice HO177.out; subst eo7))
 go_loopg [4, 10] k (fun kq v4 v10 w' => ∃ (x4_1 : List (S191)) (x10_1 : Int), v10 = .int .i64 x10_1 ∧ Fc (plan_certify.l0 kq a1 x4_1 t175 (t175.length : Int) x10_1 = some r) ∧ Fc (kq ≤ k) ∧ Fc (Kd.R k191 191 w' w.heap.size (fun _ => True) v4 x4_1) ∧ Fc (Kd.R k36 36 w' w.heap.size (fun _ => True) (.slice Ao7 t175.length co7) t175) ∧ Fc (w'.heap[gb174]? = some (.cells #[(.slice A0_0 l0_0.length c0_0), (.slice A0_1 l0_1.length c0_1)] 34 (0, 0))) ∧ Fc (Below w.heap.size w w'))
 case atStart => exact ⟨(([] : List (S191))), (0), (by first | rfl | (simp; done) | (simp [*]; done)), H', ⟨Nat.le_refl _⟩, ⟨by first | exact Kd.R_nil _ _ _ _ _ | exact Kd.N_nil _ _ _ _ _ | exact Kd.V_nil _ _ _ _ _ | exact Kd.Q_nil _ _ _ _ _ | exact Kd.S_nil _ _ _ _ _⟩, ⟨by (with_reducible repeat (first | apply Ra_ | apply Rn_ | apply Rd_)); exact HO177.out⟩, ⟨h_ BK174⟩, ⟨b_ HB⟩⟩
 case round =>
  clear H'
  try clear hcz5_0
  try clear hcz5_1
  try clear hfz5_0
  try clear hfz5_1
  obtain ⟨x4_1, x10_1, rfl, HA, HK1, HO_4, HO_8, BK174, HB⟩ := hrel
  cases gk with
  | zero => exact absurd HA.out (by simp [plan_certify.l0])
  | succ k1 =>
   have H := HA.out
   clear HA
   simp only [plan_certify.l0] at H
   as_aux_lemma =>
    by_cases c8 : x10_1 < (t175.length : Int)
    ·rw [if_pos c8] at H
     have c8b0 : decide (x10_1 < (t175.length : Int)) = true := decide_eq_true c8
     clear c8
     by_cases c9 : 0 ≤ x10_1
     ·rw [if_pos c9] at H
      have c9b0 : decide (0 ≤ x10_1) = true := decide_eq_true c9
      clear c9
      by_cases c10 : x10_1 < (t175.length : Int)
      ·rw [if_pos c10] at H
       have c10b0 : decide (x10_1 < (t175.length : Int)) = true := decide_eq_true c10
       clear c10
       replace H := Option.bind_eq_some_iff.mp H
       obtain ⟨⟨t180, t181, t182⟩, A110, H⟩ := H
       try dsimp only at H
       have A11 := mk0 A110
       clear A110
       by_cases c12 : x4_1.length < 2199023255552
       ·rw [if_pos c12] at H
        have LMc12 := mk0 c12
        clear c12
        obtain ⟨y183, hy183⟩ : ∃ y_ : List (S191), y_ = (x4_1 ++ [(⟨a1, (rd_T36 t175 x10_1).f0, (⟨t180, t181, t182⟩ : S74), 3⟩ : S191)]) := ⟨_, rfl⟩
        replace H : (plan_certify.l0 k1 a1 y183 t175 (t175.length : Int) (wrap64 (x10_1 + 1))) = some r := by first | (rw [hy183]; with_reducible exact H) | (have H2_ := (Option.bind_some _ _).symm.trans H; rw [hy183]; with_reducible exact H2_) | (have H2_ := (Option.bind_some _ _).symm.trans H; with_reducible exact H2_) | with_reducible exact H | (rw [hy183]; exact H) | exact H
        have Ny183 := mk0 hy183
        clear hy183
        have H' := mk0 H
        clear H
        have p178 : 0 ≤ (x10_1 : Int) := of_decide_eq_true (by first | (with_reducible assumption) | assumption)
        have q178 : x10_1 < (t175.length : Int) := of_decide_eq_true (by first | (with_reducible assumption) | assumption)
        (try (obtain ⟨Aq_, cq_, eq_⟩ := Kd.R_slice HO_8.out; subst eq_))
        obtain ⟨ad178, e178, hx178_0, hx178_1, hx178_2, hx178_3⟩ := at_T36 (Kd.R_reads' HO_8.out).2.2 x10_1 p178 q178
        cases e178
        replace p178 := eq_true p178
        replace q178 := eq_true q178
        try go_wp2_with (first | ((with_reducible refine gate_dst (N := 6) rfl ?_); refine bx_ (N := 6) (cs := #[.int .i64 0, .string (⟨#[]⟩ : ByteArray), .string (⟨#[]⟩ : ByteArray), .bool false]) (t := 36) (h := ?_); intro gb179 hg w13 hbox hb; have n5_ := mk0 (gz_ HB hg); have n6_ := mk0 (gz_ HB hg); have n7_ := mk0 (ne1_ BK174 hg); have n8_ := mk0 (ne2_ BK174 hg); replace HO_4 := mk0 (Kd.R_below (r_ HO_4) hb); replace HO_8 := mk0 (Kd.R_below (Kd.R_elderB (r_ HO_8) gb179 (Nat.le_of_eq hg.symm)) hb); replace BK174 := mk0 (u_ BK174 hb); replace HB := mk0 (bt_ (b_ HB) hb); have BK179 := mk0 (hbox); have GW179 := n5_; have GE179 := n6_; have NB174_179 := n7_; have NB179_174 := n8_; clear n5_ n6_ n7_ n8_ hb hbox hg; have hnb14 := NB179_174.out; have hnc14 := NB174_179.out; obtain ⟨hcz15_0, hcz15_1, hcz15_2, hcz15_3, hfz15_0, hfz15_1, hfz15_2, hfz15_3⟩ := c4_ BK179))
        have n0_ : Fc (Kd.R k191 191 ((((w13.setCell ⟨gb179, 0, none⟩ (.int .i64 ((rd_T36 t175 x10_1).f0))).setCell ⟨gb179, 1, none⟩ (.string ((rd_T36 t175 x10_1).f1))).setCell ⟨gb179, 2, none⟩ (.string ((rd_T36 t175 x10_1).f2))).setCell ⟨gb179, 3, none⟩ (.bool ((rd_T36 t175 x10_1).f3))) w.heap.size (fun _ => True) u4 x4_1) := ⟨by (with_reducible repeat (first | apply Ra_ | apply Rn_ | apply Rd_)); exact Kd.R_mono (Kd.R_far (p := ⟨gb179, 3, none⟩) (Kd.R_far (p := ⟨gb179, 2, none⟩) (Kd.R_far (p := ⟨gb179, 1, none⟩) (Kd.R_far (p := ⟨gb179, 0, none⟩) (Kd.R_types HO_4.out BK179.out (by decide)) (fun _ hk => hk.2) (.int .i64 ((rd_T36 t175 x10_1).f0))) (fun _ hk => hk.2) (.string ((rd_T36 t175 x10_1).f1))) (fun _ hk => hk.2) (.string ((rd_T36 t175 x10_1).f2))) (fun _ hk => hk.2) (.bool ((rd_T36 t175 x10_1).f3))) (fun _ hk => trivial)⟩
        have n1_ : Fc (Kd.R k36 36 ((((w13.setCell ⟨gb179, 0, none⟩ (.int .i64 ((rd_T36 t175 x10_1).f0))).setCell ⟨gb179, 1, none⟩ (.string ((rd_T36 t175 x10_1).f1))).setCell ⟨gb179, 2, none⟩ (.string ((rd_T36 t175 x10_1).f2))).setCell ⟨gb179, 3, none⟩ (.bool ((rd_T36 t175 x10_1).f3))) w.heap.size (fun k_ => k_ ≠ gb179) (.slice (some ad178) t175.length co7) t175) := ⟨by (with_reducible repeat (first | apply Ra_ | apply Rn_ | apply Rd_)); exact Kd.R_mono (Kd.R_far (p := ⟨gb179, 3, none⟩) (Kd.R_far (p := ⟨gb179, 2, none⟩) (Kd.R_far (p := ⟨gb179, 1, none⟩) (Kd.R_far (p := ⟨gb179, 0, none⟩) (Kd.R_mono HO_8.out (fun k_ hk => (⟨hk, hk.2⟩ : _ ∧ k_ ≠ gb179))) (fun _ hk => hk.2) (.int .i64 ((rd_T36 t175 x10_1).f0))) (fun _ hk => hk.2) (.string ((rd_T36 t175 x10_1).f1))) (fun _ hk => hk.2) (.string ((rd_T36 t175 x10_1).f2))) (fun _ hk => hk.2) (.bool ((rd_T36 t175 x10_1).f3))) (fun _ hk => hk.1.2)⟩
        have n2_ : Fc (((((w13.setCell ⟨gb179, 0, none⟩ (.int .i64 ((rd_T36 t175 x10_1).f0))).setCell ⟨gb179, 1, none⟩ (.string ((rd_T36 t175 x10_1).f1))).setCell ⟨gb179, 2, none⟩ (.string ((rd_T36 t175 x10_1).f2))).setCell ⟨gb179, 3, none⟩ (.bool ((rd_T36 t175 x10_1).f3))).heap[gb174]? = some (.cells #[.slice A0_0 l0_0.length c0_0, .slice A0_1 l0_1.length c0_1] 34 (0, 0))) := ⟨(fa_ (fa_ (fa_ (fa_ (h_ BK174) NB174_179.out) NB174_179.out) NB174_179.out) NB174_179.out)⟩
        have n3_ : Fc (((((w13.setCell ⟨gb179, 0, none⟩ (.int .i64 ((rd_T36 t175 x10_1).f0))).setCell ⟨gb179, 1, none⟩ (.string ((rd_T36 t175 x10_1).f1))).setCell ⟨gb179, 2, none⟩ (.string ((rd_T36 t175 x10_1).f2))).setCell ⟨gb179, 3, none⟩ (.bool ((rd_T36 t175 x10_1).f3))).heap[gb179]? = some (.cells #[.int .i64 ((rd_T36 t175 x10_1).f0), .string ((rd_T36 t175 x10_1).f1), .string ((rd_T36 t175 x10_1).f2), .bool ((rd_T36 t175 x10_1).f3)] 36 (0, 0))) := ⟨(pu_ (cs := #[.int .i64 ((rd_T36 t175 x10_1).f0), .string ((rd_T36 t175 x10_1).f1), .string ((rd_T36 t175 x10_1).f2), .bool false]) (pu_ (cs := #[.int .i64 ((rd_T36 t175 x10_1).f0), .string ((rd_T36 t175 x10_1).f1), .string (⟨#[]⟩ : ByteArray), .bool false]) (pu_ (cs := #[.int .i64 ((rd_T36 t175 x10_1).f0), .string (⟨#[]⟩ : ByteArray), .string (⟨#[]⟩ : ByteArray), .bool false]) (pu_ (cs := #[.int .i64 0, .string (⟨#[]⟩ : ByteArray), .string (⟨#[]⟩ : ByteArray), .bool false]) (h_ BK179)))))⟩
        have n4_ : Fc (Below w.heap.size w ((((w13.setCell ⟨gb179, 0, none⟩ (.int .i64 ((rd_T36 t175 x10_1).f0))).setCell ⟨gb179, 1, none⟩ (.string ((rd_T36 t175 x10_1).f1))).setCell ⟨gb179, 2, none⟩ (.string ((rd_T36 t175 x10_1).f2))).setCell ⟨gb179, 3, none⟩ (.bool ((rd_T36 t175 x10_1).f3)))) := ⟨b_ HB⟩
        (try clear HO_4)
        (try clear HO_8)
        (try clear BK174)
        (try clear BK179)
        (try clear HB)
        generalize ((((w13.setCell ⟨gb179, 0, none⟩ (.int .i64 ((rd_T36 t175 x10_1).f0))).setCell ⟨gb179, 1, none⟩ (.string ((rd_T36 t175 x10_1).f1))).setCell ⟨gb179, 2, none⟩ (.string ((rd_T36 t175 x10_1).f2))).setCell ⟨gb179, 3, none⟩ (.bool ((rd_T36 t175 x10_1).f3))) = w16 at n0_ n1_ n2_ n3_ n4_ ⊢
        have HO_4 := n0_
        have HO_8 := n1_
        have BK174 := n2_
        have BK179 := n3_
        have HB := n4_
        clear n0_ n1_ n2_ n3_ n4_
        replace HO_4 := mk0 (Rd_ HO_4.out)
        replace HO_8 := mk0 (Rd_ HO_8.out)
        replace BK174 := mk0 (bD_ BK174.out)
        replace BK179 := mk0 (bD_ BK179.out)
        replace HB := mk0 (b1_ HB.out)
        refine start_ (n := 11) (S := fun w' => w'.cell? ⟨gb179, 0, none⟩ = some (.int .i64 ((rd_T36 t175 x10_1).f0)) ∧ w'.cell? ⟨gb179, 1, none⟩ = some (.string ((rd_T36 t175 x10_1).f1)) ∧ w'.cell? ⟨gb179, 2, none⟩ = some (.string ((rd_T36 t175 x10_1).f2)) ∧ w'.cell? ⟨gb179, 3, none⟩ = some (.bool ((rd_T36 t175 x10_1).f3))) (ds := []) (bt 11 0) (by kernel_rfl) rfl rfl ⟨bk_ BK179 0, bk_ BK179 1, bk_ BK179 2, bk_ BK179 3⟩ (fun hHeld => ?_); refine with_tabW plan_certify.tab4 plan_certify.bits4 (fun HT_ HW_ => ?_)
        generalize w16.drew = w17 at HO_4 HO_8 BK174 BK179 HB hHeld ⊢
        refine pq_ HT_.out 0 14 (bt 11 1) (h := ?_)
        refine pq_ HT_.out 1 15 (bt 11 3) (h := ?_)
        refine pq_ HT_.out 2 16 (bt 11 7) (h := ?_)
        refine pq_ HT_.out 4 18 (bt 11 23) (h := ?_)
        refine tq4_ HT_.out HW_.out 3 17 (bt 11 31) hHeld (h := ?_)
        refine tq4_ HT_.out HW_.out 5 19 (bt 11 63) hHeld (h := ?_)
        refine one_ (i := 6) (N := some 20) (bt 11 127) rfl rfl (one_of HT_.out (by kernel_rfl)) (by decide) (fun K hK => ?_)
        refine goes_ Try.func187 (by kernel_rfl) rfl #[.string ((rd_T36 t175 x10_1).f1)] (by rfl) rfl rfl (by (try simp only [List.map_toArray, List.map_cons, List.map_nil]); first | done | rfl | (simp only [List.length_drop, List.length_take]; rfl)) ?_
        with_reducible refine (key_Alone.calls ((rd_T36 t175 x10_1).f1) t180 t181 t182 _ A11.out).mono ?_
        rintro e w18 ⟨rfl, hb⟩
        refine ⟨_, rfl, ?_⟩
        replace HO_4 := mk0 (Kd.R_below (r_ HO_4) hb)
        replace HO_8 := mk0 (Kd.R_below (r_ HO_8) hb)
        replace BK174 := mk0 (u_ BK174 hb)
        replace BK179 := mk0 (u_ BK179 hb)
        replace HB := mk0 (bt_ (b_ HB) hb)
        (try clear hb)
        (try clear hb2)
        (try clear hk)
        (try clear hi)
        refine hK.out _ _ ⟨bk_ BK179 0, bk_ BK179 1, bk_ BK179 2, bk_ BK179 3⟩ (fun hHeld => ?_)
        clear hK K
        refine norm_ (a' := ?_) ?_ ?_
        rotate_left
        ·show Act.put _ (some 20) _ = _
         simp only [z_]
         rfl
        refine pq_ HT_.out 7 21 (bt 11 255) (v := .agg #[.int .i64 a1, .int .i64 ((rd_T36 t175 x10_1).f0), .string t180, .string t181, .bool t182, .int .i64 3]) (hy := by (intro w'; apply bu_run_ 191; (case ho => rfl); (case hb => (simp only [List.map_toArray, List.map_cons, List.map_nil]; exact lock_built_ a1 ((rd_T36 t175 x10_1).f0) t180 t181 t182 3)))) (h := ?_)
        refine one_ (i := 8) (N := some 22) (bt 11 511) rfl rfl (one_of HT_.out (by kernel_rfl)) (by decide) (fun K hK => ?_)
        refine value_ (w1 := w18.alloc (.cells #[.int .i64 a1, .int .i64 ((rd_T36 t175 x10_1).f0), .string t180, .string t181, .bool t182, .int .i64 3] 191)) (v := .slice (some ⟨w18.heap.size, 0, none⟩) 1 1) (by rfl) rfl ?_ ?_
        ·apply bs_run_ 152 191 _ #[.int .i64 a1, .int .i64 ((rd_T36 t175 x10_1).f0), .string t180, .string t181, .bool t182, .int .i64 3] (.agg #[(.int .i64 0), (.int .i64 0), (.string ⟨#[]⟩), (.string ⟨#[]⟩), (.bool false), (.int .i64 0)]) 6 64
         case ho => rfl
         case hu => exact Try.underlying152
         case hi => exact info191
         case hsm => decide
         case hp => decide
         case hf => simp only [List.map_toArray, List.map_cons, List.map_nil]; exact fill6_ _ _ _ _ _ _ _
        refine hK.out _ _ ⟨(blk_cell (bA_ BK179.out _) 0).trans rfl, (blk_cell (bA_ BK179.out _) 1).trans rfl, (blk_cell (bA_ BK179.out _) 2).trans rfl, (blk_cell (bA_ BK179.out _) 3).trans rfl⟩ (fun hHeld => ?_)
        clear hK K
        refine norm_ (a' := ?_) ?_ ?_
        rotate_left
        ·show Act.put _ (some 22) _ = _
         simp only [z_]
         rfl
        refine one_ (i := 9) (N := some 23) (bt 11 1023) rfl rfl (one_of HT_.out (by kernel_rfl)) (by decide) (fun K hK => ?_)
        refine Kd.R_append_step k191 (w0 := w) w.heap.size (by rfl) (.tmp 14) (.tmp 22) 152 191 (.agg #[(.int .i64 0), (.int .i64 0), (.string ⟨#[]⟩), (.string ⟨#[]⟩), (.bool false), (.int .i64 0)]) 64 rfl Try.underlying152 info191 rfl (by decide) (by omega) u4 x4_1 (⟨a1, (rd_T36 t175 x10_1).f0, (⟨t180, t181, t182⟩ : S74), 3⟩ : S191) [.int .i64 a1, .int .i64 ((rd_T36 t175 x10_1).f0), .string t180, .string t181, .bool t182, .int .i64 3] (fun _ => True) (fun _ => False) rfl rfl ?aP (fun _ hk => hk.elim) ?aF ?aO ?aB ?aS ?aL ?_
        (case aP => exact k191_mkM _ _ _ (⟨a1, (rd_T36 t175 x10_1).f0, (⟨t180, t181, t182⟩ : S74), 3⟩ : S191))
        (case aB => exact (b_ HB))
        (case aF => exact (fun _ _ => trivial))
        (case aO => exact (r_ HO_4))
        (case aS => exact (bz_ (b_ HB)))
        (case aL => have := LMc12.out; omega)
        intro v184 w19 ho hb hg hat
        rw [← Ny183.out] at ho
        replace HO_8 := mk0 (Kd.R_over' (r_ HO_8) (Kd.R_typed (r_ HO_4)) (by decide) hg)
        replace BK174 := mk0 (blk_grown (g := gb174) (o := .cells #[.slice A0_0 l0_0.length c0_0, .slice A0_1 l0_1.length c0_1] 34 (0, 0)) (h_ BK174) hg (Kd.R_ne HO_4.out BK174.out (by decide)))
        replace BK179 := mk0 (blk_grown (g := gb179) (o := .cells #[.int .i64 ((rd_T36 t175 x10_1).f0), .string ((rd_T36 t175 x10_1).f1), .string ((rd_T36 t175 x10_1).f2), .bool ((rd_T36 t175 x10_1).f3)] 36 (0, 0)) (h_ BK179) hg (Kd.R_ne HO_4.out BK179.out (by decide)))
        replace HB := mk0 (hb)
        have HO185 := mk0 (ho)
        clear HO_4
        clear ho hb hg hat
        refine hK.out _ _ ⟨bk_ BK179 0, bk_ BK179 1, bk_ BK179 2, bk_ BK179 3⟩ (fun hHeld => ?_)
        clear hK K
        refine norm_ (a' := ?_) ?_ ?_
        rotate_left
        ·show Act.put _ (some 23) _ = _
         simp only [z_]
         rfl
        refine pq_ HT_.out 10 4 (bt 11 2047) (h := ?_)
        refine done_ (done_of HT_.out (by kernel_rfl)) ?_
        try go_wp2
        go_roundg k1
        case measure => have := HK1.out; omega
        case rel => exact ⟨(y183), (wrap64 (x10_1 + 1)), (by first | rfl | (simp; done) | (simp [*]; done)), H', ⟨by have := HK1.out; omega⟩, ⟨by (with_reducible repeat (first | apply Ra_ | apply Rn_ | apply Rd_)); exact HO185.out⟩, ⟨by (with_reducible repeat (first | apply Ra_ | apply Rn_ | apply Rd_)); exact Kd.R_mono HO_8.out (fun _ hk => trivial)⟩, ⟨h_ BK174⟩, ⟨b_ HB⟩⟩
       ·rw [if_neg c12] at H
        exact absurd H (by simp)
      ·rw [if_neg c10] at H
       exact absurd H (by simp)
     ·rw [if_neg c9] at H
      exact absurd H (by simp)
    ·rw [if_neg c8] at H
     have c8b0 : decide (x10_1 < (t175.length : Int)) = false := decide_eq_false c8
     clear c8
     obtain rfl := Option.some.inj H
     go_wp2
     go_ret
     exact ⟨_, by first | rfl | (simp [errW_none, errW_some] <;> rfl) | (simp [*, errW_none, errW_some] <;> rfl), by (with_reducible repeat (first | apply Ra_ | apply Rn_ | apply Rd_)); exact HO_4.out, b_ HB⟩

/-! ### key_below: function 174 -/
def key_below.f (a0 : ByteArray) (a1_0 : ByteArray) (a1_1 : ByteArray) (a1_2 : Bool) : Option (Bool) := if a1_2 = true then (some true) else (some (Op.bytesLess a0.toList a1_1.toList))
set_option maxHeartbeats 8000000 in
set_option maxRecDepth 100000 in
theorem key_below.calls (a0 : ByteArray) (a1_0 : ByteArray) (a1_1 : ByteArray) (a1_2 : Bool) (r : Bool) (w : World) (h : key_below.f a0 a1_0 a1_1 a1_2 = some r) :
  Calls Try.prog 174 #[.string a0, .agg #[.string a1_0, .string a1_1, .bool a1_2]] w fun e w' => e = .returned (.bool r) ∧ Below w.heap.size w w' := by
 have hu74 := Try.underlying74
 have HB := mk0 (Below.refl w.heap.size w)
 have H : (if a1_2 = true then (some true) else (some (Op.bytesLess a0.toList a1_1.toList))) = some r := h
 clear h
 by_cases c3 : a1_2 = true
 ·subst c3
  rw [if_pos rfl] at H
  obtain rfl := Option.some.inj H
  go_enter Try.func174, Try.ntmps174
  go_wp2_with (first | ((with_reducible refine gate_dst (N := 3) rfl ?_); refine bx_ (N := 3) (cs := #[.string a1_0, .string a1_1, .bool true]) (t := 74) (h := ?_); intro gb186 hg w4 hbox hb; have n2_ := mk0 (gz_ HB hg); have n3_ := mk0 (gz_ HB hg); replace HB := mk0 (bt_ (b_ HB) hb); have BK186 := mk0 (hbox); have GW186 := n2_; have GE186 := n3_; clear n2_ n3_ hb hbox hg; obtain ⟨hcz5_0, hcz5_1, hcz5_2, hfz5_0, hfz5_1, hfz5_2⟩ := c3_ BK186))
  go_ret
  exact ⟨by first | rfl | (simp [errW_none, errW_some] <;> rfl) | (simp [*, errW_none, errW_some] <;> rfl), b_ HB⟩
 ·replace c3 := Bool.eq_false_iff.mpr c3
  subst c3
  rw [if_neg (show ¬ (false = true) by decide)] at H
  obtain rfl := Option.some.inj H
  go_enter Try.func174, Try.ntmps174
  go_wp2_with (first | ((with_reducible refine gate_dst (N := 3) rfl ?_); refine bx_ (N := 3) (cs := #[.string a1_0, .string a1_1, .bool false]) (t := 74) (h := ?_); intro gb186 hg w6 hbox hb; have n2_ := mk0 (gz_ HB hg); have n3_ := mk0 (gz_ HB hg); replace HB := mk0 (bt_ (b_ HB) hb); have BK186 := mk0 (hbox); have GW186 := n2_; have GE186 := n3_; clear n2_ n3_ hb hbox hg; obtain ⟨hcz7_0, hcz7_1, hcz7_2, hfz7_0, hfz7_1, hfz7_2⟩ := c3_ BK186))
  go_ret
  exact ⟨by first | rfl | (simp [errW_none, errW_some] <;> rfl) | (simp [*, errW_none, errW_some] <;> rfl), b_ HB⟩

/-! ### key_Empty: function 190 -/
def key_Empty.f (a0_0 : ByteArray) (a0_1 : ByteArray) (a0_2 : Bool) : Option (Bool) := (key_below.f a0_0 a0_0 a0_1 a0_2).bind fun t188 => (some (!t188))
set_option maxHeartbeats 8000000 in
set_option maxRecDepth 100000 in
theorem key_Empty.calls (a0_0 : ByteArray) (a0_1 : ByteArray) (a0_2 : Bool) (r : Bool) (w : World) (h : key_Empty.f a0_0 a0_1 a0_2 = some r) :
  Calls Try.prog 190 #[.agg #[.string a0_0, .string a0_1, .bool a0_2]] w fun e w' => e = .returned (.bool r) ∧ Below w.heap.size w w' := by
 have hu74 := Try.underlying74
 have HB := mk0 (Below.refl w.heap.size w)
 have H : ((key_below.f a0_0 a0_0 a0_1 a0_2).bind fun t188 => (some (!t188))) = some r := h
 clear h
 replace H := Option.bind_eq_some_iff.mp H
 obtain ⟨t188, A20, H⟩ := H
 try dsimp only at H
 have A2 := mk0 A20
 clear A20
 obtain rfl := Option.some.inj H
 go_enter Try.func190, Try.ntmps190
 go_wp2_with (first | ((with_reducible refine gate_dst (N := 1) rfl ?_); refine bx_ (N := 1) (cs := #[.string a0_0, .string a0_1, .bool a0_2]) (t := 74) (h := ?_); intro gb187 hg w3 hbox hb; have n2_ := mk0 (gz_ HB hg); have n3_ := mk0 (gz_ HB hg); replace HB := mk0 (bt_ (b_ HB) hb); have BK187 := mk0 (hbox); have GW187 := n2_; have GE187 := n3_; clear n2_ n3_ hb hbox hg; obtain ⟨hcz4_0, hcz4_1, hcz4_2, hfz4_0, hfz4_1, hfz4_2⟩ := c3_ BK187) | ((with_reducible refine gate_callee (f := 174) rfl ?_); refine gL_ (some 6) Try.func174 #[.string a0_0, .agg #[.string a0_0, .string a0_1, .bool a0_2]] (h := ?_); (with_reducible refine (key_below.calls a0_0 a0_0 a0_1 a0_2 t188 _ A2.out).mono ?_); rintro e w5 ⟨rfl, hb⟩; refine ⟨_, rfl, ?_⟩; replace BK187 := mk0 (u_ BK187 hb); replace HB := mk0 (bt_ (b_ HB) hb); (try clear hb)))
 go_ret
 exact ⟨by first | rfl | (simp [errW_none, errW_some] <;> rfl) | (simp [*, errW_none, errW_some] <;> rfl), b_ HB⟩

end Go.Proofs.Ytbaecdcfefmcgaa.PPlc
