-- PRINTED by print.py (a twelfth state) out of the translation. Not trusted: Lean checks it.
import Derived.Test.YtbaecdcfefmcgaaPVrsx0
import Derived.Test.YtbaecdcfefmcgaaPVrsx7
import Derived.Test.YtbaecdcfefmcgaaHAllr
import Derived.Test.YtbaecdcfefmcgaaHSome
import Derived.Test.YtbaecdcfefmcgaaShelfP
import Derived.Test.YtbaecdcfefmcgaaHDelete
namespace Go.Proofs.Ytbaecdcfefmcgaa.PVrs
open Go.RowKit Go.Proofs.YtbaecdcfefmcgaaW.PrintWords Go.Proofs.YtbaecdcfefmcgaaW.PrintLast Go.Proofs.YtbaecdcfefmcgaaW.PrintMore
attribute [local go_sem] max2_int min2_int max_two min_two max_three min_three max_four min_four   -- for this text's walks alone
set_option linter.unusedVariables false
set_option linter.unusedSimpArgs false

/-! ### cmp_Or_int: function 192 -/
def cmp_Or_int.l0 : Nat → Int → List Int → Int → Int → Option (Int)
 | 0, _, _, _, _ => none
 | k + 1, x3, x6, x7, x8 => if x8 < x7 then (if 0 ≤ x8 then (if x8 < (x6.length : Int) then (if (rd x6 x8) = x3 then (cmp_Or_int.l0 k x3 x6 x7 (wrap64 (x8 + 1))) else (some (rd x6 x8))) else (none)) else (none)) else (some x3)
def cmp_Or_int.f (k : Nat) (l0 : List Int) : Option (Int) := cmp_Or_int.l0 k 0 l0 (l0.length : Int) 0
theorem cmp_Or_int.mono_l : ∀ k, (∀ y0 y1 y2 y3, LeO (cmp_Or_int.l0 k y0 y1 y2 y3) (cmp_Or_int.l0 (k + 1) y0 y1 y2 y3))
 | 0 => fun _ _ _ _ r h => by simp [cmp_Or_int.l0] at h
 | k + 1 => by
  have ih0 := cmp_Or_int.mono_l k
  ·intro y0 y1 y2 y3
   unfold cmp_Or_int.l0
   repeat' first
   | (with_reducible exact ih0 _ _ _ _)
   | (with_reducible exact LeO.refl _)
   | (with_reducible exact LeO.none _)
   | (with_reducible refine LeO.ite ?_ ?_)
   | (with_reducible refine LeO.bind ?_ (fun _ => ?_))
   | exact ih0 _ _ _ _
   | exact LeO.none _
   | refine LeO.ite ?_ ?_
   | refine LeO.bind ?_ (fun _ => ?_)
theorem cmp_Or_int.mono : ∀ a0 k, LeO (cmp_Or_int.f k a0) (cmp_Or_int.f (k + 1) a0) := by
 intro a0 k
 have ih0 := cmp_Or_int.mono_l k
 unfold cmp_Or_int.f
 repeat' first
   | (with_reducible exact ih0 _ _ _ _)
   | (with_reducible exact LeO.refl _)
   | (with_reducible exact LeO.none _)
   | (with_reducible refine LeO.ite ?_ ?_)
   | (with_reducible refine LeO.bind ?_ (fun _ => ?_))
   | exact ih0 _ _ _ _
   | exact LeO.none _
   | refine LeO.ite ?_ ?_
   | refine LeO.bind ?_ (fun _ => ?_)
set_option maxHeartbeats 8000000 in
set_option maxRecDepth 100000 in
theorem cmp_Or_int.calls (k : Nat) (A0 : Option Addr) (c0 : Nat) (l0 : List Int) (r : Int) (w : World) (hr0 : Kd.C (Kd.int .i64) w A0 l0.length l0) (hc0 : l0.length ≤ c0) (h : cmp_Or_int.f k l0 = some r) :
  Calls Try.prog 192 #[.slice A0 l0.length c0] w fun e w' => e = .returned (.int .i64 r) ∧ Drawn0 w w' := by
 have HR0 := mk0 hr0
 have HC0 := mk0 hc0
 clear hr0 hc0
 have H : (cmp_Or_int.l0 k 0 l0 (l0.length : Int) 0) = some r := h
 clear h
 have H' := mk0 H
 clear H
 go_enter Try.func192, Try.ntmps192
 go_wp2
 go_loopg [8] k (fun kq v8 w' => ∃ (x8_1 : Int), v8 = .int .i64 x8_1 ∧ Fc (cmp_Or_int.l0 kq 0 l0 (l0.length : Int) x8_1 = some r) ∧ Fc (kq ≤ k) ∧ Drawn0 w w')
 case atStart => exact ⟨(0), (by first | rfl | (simp; done) | (simp [*]; done)), H', ⟨Nat.le_refl _⟩, by repeat (first | exact Drawn0.refl _ | apply Drawn0.step)⟩
 case round =>
  clear H'
  obtain ⟨x8_1, rfl, HA, HK1, ⟨m1, rfl⟩⟩ := hrel
  cases gk with
  | zero => exact absurd HA.out (by simp [cmp_Or_int.l0])
  | succ k1 =>
   have H := HA.out
   clear HA
   simp only [cmp_Or_int.l0] at H
   as_aux_lemma =>
    by_cases c2 : x8_1 < (l0.length : Int)
    ·rw [if_pos c2] at H
     have c2b0 : decide (x8_1 < (l0.length : Int)) = true := decide_eq_true c2
     clear c2
     by_cases c3 : 0 ≤ x8_1
     ·rw [if_pos c3] at H
      have c3b0 : decide (0 ≤ x8_1) = true := decide_eq_true c3
      clear c3
      by_cases c4 : x8_1 < (l0.length : Int)
      ·rw [if_pos c4] at H
       have c4b0 : decide (x8_1 < (l0.length : Int)) = true := decide_eq_true c4
       clear c4
       by_cases c5 : (rd l0 x8_1) = 0
       ·rw [if_pos c5] at H
        have c5b0 : ((rd l0 x8_1) == 0) = true := beq_iff_eq.mpr c5
        have c5b1 : ((rd l0 x8_1) != 0) = false := bne_eq_false_iff_eq.mpr c5
        clear c5
        have H' := mk0 H
        clear H
        have p208 : 0 ≤ (x8_1 : Int) := of_decide_eq_true (by first | (with_reducible assumption) | assumption)
        have q208 : x8_1 < (l0.length : Int) := of_decide_eq_true (by first | (with_reducible assumption) | assumption)
        obtain ⟨ad208, e208, hx208_0⟩ := Kd.at_int HR0.out x8_1 p208 q208
        cases e208
        replace p208 := eq_true p208
        replace q208 := eq_true q208
        go_wp2
        go_roundg k1
        case measure => have := HK1.out; omega
        case rel => exact ⟨(wrap64 (x8_1 + 1)), (by first | rfl | (simp; done) | (simp [*]; done)), H', ⟨by have := HK1.out; omega⟩, by repeat (first | exact Drawn0.refl _ | apply Drawn0.step)⟩
       ·rw [if_neg c5] at H
        have c5b0 : ((rd l0 x8_1) == 0) = false := beq_eq_false_iff_ne.mpr c5
        have c5b1 : ((rd l0 x8_1) != 0) = true := bne_iff_ne.mpr c5
        obtain rfl := Option.some.inj H
        have p208 : 0 ≤ (x8_1 : Int) := of_decide_eq_true (by first | (with_reducible assumption) | assumption)
        have q208 : x8_1 < (l0.length : Int) := of_decide_eq_true (by first | (with_reducible assumption) | assumption)
        obtain ⟨ad208, e208, hx208_0⟩ := Kd.at_int HR0.out x8_1 p208 q208
        cases e208
        replace p208 := eq_true p208
        replace q208 := eq_true q208
        go_wp2
        go_ret
        exact ⟨by first | rfl | (simp; done) | (simp [*]; done), by repeat (first | exact Drawn0.refl _ | apply Drawn0.step)⟩
      ·rw [if_neg c4] at H
       exact absurd H (by simp)
     ·rw [if_neg c3] at H
      exact absurd H (by simp)
    ·rw [if_neg c2] at H
     have c2b0 : decide (x8_1 < (l0.length : Int)) = false := decide_eq_false c2
     clear c2
     obtain rfl := Option.some.inj H
     go_wp2
     go_ret
     exact ⟨by first | rfl | (simp; done) | (simp [*]; done), by repeat (first | exact Drawn0.refl _ | apply Drawn0.step)⟩

-- NOT PRINTED: function 160 (pend_order)

-- NOT PRINTED: function 161 (api_Write_161)

/-! ### pend_All: function 114 (by hand) -/
def pend_All.f (l0_0 : List (S36)) (l0_1 : List Int) : Option (List (S36)) := if l0_0.length ≤ 12 then some (HAll.allOf l0_0) else none
theorem pend_All.calls (A0_0 : Option Addr) (c0_0 : Nat) (l0_0 : List (S36)) (A0_1 : Option Addr) (c0_1 : Nat) (l0_1 : List Int) (r : List (S36)) (w : World) (hr0_0 : Kd.C k36 w A0_0 l0_0.length l0_0) (hc0_0 : l0_0.length ≤ c0_0) (hr0_1 : Kd.C (Kd.int .i64) w A0_1 l0_1.length l0_1) (hc0_1 : l0_1.length ≤ c0_1) (h : pend_All.f l0_0 l0_1 = some r) :
    Calls Try.prog 114 #[.agg #[.slice A0_0 l0_0.length c0_0, .slice A0_1 l0_1.length c0_1]] w fun e w' => ∃ v0_ : Value, e = .returned (v0_) ∧ Kd.R k36 36 w' w.heap.size (fun _ => True) v0_ r ∧ Below w.heap.size w w' := by
  unfold pend_All.f at h
  split at h
  · rename_i h12
    obtain rfl := Option.some.inj h
    exact HAll.All_calls A0_0 c0_0 l0_0 A0_1 c0_1 l0_1 w hr0_0 hc0_0 h12
  · cases h


-- NOT PRINTED: function 138 (view_Merge_1)

/-! ### api_Row_string: function 137 (by hand) -/
def api_Row_string.cmp (a b : ByteArray) : Int := Lib.compareBytes a.data.toList b.data.toList
def api_Row_string.bs (l : List (S82)) (k : ByteArray) : Nat → Nat → Nat → Nat
  | 0, i, _ => i
  | f + 1, i, j => if i < j then (if api_Row_string.cmp (rd_T82 l (((i + j) / 2 : Nat) : Int)).f0 k < 0 then api_Row_string.bs l k f ((i + j) / 2 + 1) j else api_Row_string.bs l k f i ((i + j) / 2)) else i
def api_Row_string.f (l0 : List (S82)) (a1 : ByteArray) : Option (Int × Bool) :=
  some ((api_Row_string.bs l0 a1 l0.length 0 l0.length : Nat), decide (api_Row_string.bs l0 a1 l0.length 0 l0.length < l0.length) && (api_Row_string.cmp (rd_T82 l0 ((api_Row_string.bs l0 a1 l0.length 0 l0.length : Nat) : Int)).f0 a1 == 0))
theorem api_Row_string.clo (s t : ByteArray) (k : ByteArray) (W : World) : Calls Try.prog 138 #[.agg #[.string s, .string t], .string k] W fun e W' => e = .returned (.int .i64 (api_Row_string.cmp s k)) ∧ Below W.heap.size W W' := by
  have hcmp := fun W' => Go.Proofs.Any.strings_Compare Try.strCmp s k W'
  change ∀ W', Calls Try.prog 139 _ _ _ at hcmp
  unfold api_Row_string.cmp
  generalize Lib.compareBytes s.data.toList k.data.toList = q at hcmp ⊢
  have HB := Aside0.mk (Below.refl W.heap.size W)
  go_enter Try.func138, Try.ntmps138
  go_wp2_with (first | (go_at_call 139; refine (hcmp _).mono ?_; rintro e w' ⟨rfl, rfl⟩) | go_in)
  go_ret
  exact ⟨rfl, by repeat (first | (with_reducible first | exact HB.out | apply bL_ | apply pN_ | apply b1_) | exact HB.out)⟩
set_option maxHeartbeats 4000000 in
set_option maxRecDepth 100000 in
theorem api_Row_string.calls (A0 : Option Addr) (c0 : Nat) (l0 : List (S82)) (a1 : ByteArray) (r1 : Int) (r2 : Bool) (w : World) (hr0 : Kd.C k82 w A0 l0.length l0) (hc0 : l0.length ≤ c0) (h : api_Row_string.f l0 a1 = some (r1, r2)) :
    Calls Try.prog 137 #[.slice A0 l0.length c0, .string a1, .func (Fn.func 138) #[] #[]] w fun e w' => e = .returned (.tuple #[.int .i64 r1, .bool r2]) ∧ Below w.heap.size w w' := by
  have hlen := hr0.2.1
  have eg : ∀ args w, (callFunc 138 args).run Try.prog w = .ok (.enter 138 args) w := enters_of Try.func138 (by kernel_rfl) rfl
  have HR0 := Aside0.mk hr0
  have HC0 := Aside0.mk hc0
  have HL := Aside0.mk hlen
  have HH := Aside0.mk h
  clear hr0 hc0 h hlen
  have HP := Aside0.mk (api_Row_string.clo)
  have HB := Aside0.mk (Below.refl w.heap.size w)
  go_enter Try.func137, Try.ntmps137
  go_wp2
  go_loopg [9, 10] l0.length (fun kq v9 v10 w' => ∃ (i j : Nat), v9 = .int .i64 i ∧ v10 = .int .i64 j ∧ Aside0 (i ≤ j ∧ j ≤ l0.length) ∧ Aside0 (j - i ≤ kq) ∧ Aside0 (api_Row_string.bs l0 a1 kq i j = api_Row_string.bs l0 a1 l0.length 0 l0.length) ∧ Aside0 (Below w.heap.size w w'))
  case atStart => exact ⟨0, l0.length, rfl, rfl, ⟨by omega, by omega⟩, ⟨by omega⟩, ⟨rfl⟩, HB⟩
  case round =>
    clear HB
    obtain ⟨i, j, rfl, rfl, HI, HK, HS, HB⟩ := hrel
    by_cases hij : i < j
    · cases gk with
      | zero => exact absurd HK.out (by omega)
      | succ k1 =>
        have hi2 := HI.out
        have hl2 := HL.out
        have hm : wrap64 (IntKind.u64.wrap (wrap64 ((i : Int) + (j : Int))) / 2) = (((i + j) / 2 : Nat) : Int) := by
          have e : IntKind.u64.wrap (wrap64 ((i : Int) + (j : Int))) = (i : Int) + (j : Int) := by
            simp only [IntKind.wrap, IntKind.signed, IntKind.bits]
            unfold wrap64
            simp
            omega
          rw [e]
          unfold wrap64
          omega
        obtain ⟨m, hmd⟩ : ∃ m, m = (i + j) / 2 := ⟨_, rfl⟩
        rw [← hmd] at hm
        have p200 : (0:Int) ≤ (m : Int) := by omega
        have q200 : (m:Int) < (l0.length : Int) := by omega
        obtain ⟨ad, e1, hx0, hx1⟩ := at_T82 HR0.out (m:Int) p200 q200
        cases e1
        replace hx0 := (HB.out.cell (World.block_lt_of_cell? w _ hx0)).trans hx0
        replace hx1 := (HB.out.cell (World.block_lt_of_cell? w _ hx1)).trans hx1
        have hcall := HP.out (rd_T82 l0 (m : Int)).f0 (rd_T82 l0 (m : Int)).f1 a1 wr
        have HM := Aside0.mk hmd
        have HJ := Aside0.mk hij
        clear hi2 hl2 hmd
        simp only [Int.toNat_natCast] at hx0 hx1
        go_wp2_with ((with_reducible refine hcall.mono ?_); rintro e w' ⟨rfl, hb'⟩)
        all_goals go_roundg k1
        case measure => omega
        case measure => omega
        all_goals rename_i hcm
        all_goals have hi2 := HI.out
        all_goals have hl2 := HL.out
        all_goals have hm2 := HM.out
        all_goals have hj2 := HJ.out
        all_goals have hk2 := HK.out
        all_goals have hs2 := HS.out
        · refine ⟨m + 1, j, ?_, rfl, ⟨by omega, by omega⟩, ⟨by omega⟩, ⟨?_⟩, ⟨HB.out.trans (hb'.mono HB.out.size)⟩⟩
          · congr 1
            unfold wrap64
            omega
          · rw [← hs2]
            show _ = api_Row_string.bs l0 a1 (k1 + 1) i j
            rw [api_Row_string.bs, if_pos hij, ← hm2, if_pos hcm]
        · refine ⟨i, m, rfl, rfl, ⟨by omega, by omega⟩, ⟨by omega⟩, ⟨?_⟩, ⟨HB.out.trans (hb'.mono HB.out.size)⟩⟩
          rw [← hs2]
          show _ = api_Row_string.bs l0 a1 (k1 + 1) i j
          rw [api_Row_string.bs, if_pos hij, ← hm2, if_neg (by omega)]
    · have hi2 := HI.out
      obtain rfl : i = j := by omega
      have hbs : api_Row_string.bs l0 a1 gk i i = i := by cases gk <;> simp [api_Row_string.bs]
      have hf := HH.out
      unfold api_Row_string.f at hf
      rw [← HS.out, hbs] at hf
      simp only [Option.some.injEq, Prod.mk.injEq] at hf
      obtain ⟨rfl, rfl⟩ := hf
      clear hbs
      by_cases hi : i < l0.length
      · have p200 : (0:Int) ≤ (i : Int) := by omega
        have q200 : (i:Int) < (l0.length : Int) := by omega
        obtain ⟨ad, e1, hx0, hx1⟩ := at_T82 HR0.out (i:Int) p200 q200
        cases e1
        replace hx0 := (HB.out.cell (World.block_lt_of_cell? w _ hx0)).trans hx0
        replace hx1 := (HB.out.cell (World.block_lt_of_cell? w _ hx1)).trans hx1
        have hcall := HP.out (rd_T82 l0 (i : Int)).f0 (rd_T82 l0 (i : Int)).f1 a1 wr
        clear hi2
        simp only [Int.toNat_natCast] at hx0 hx1
        go_wp2_with ((with_reducible refine hcall.mono ?_); rintro e w' ⟨rfl, hb'⟩)
        go_ret2
        exact ⟨by simp [hi], HB.out.trans (hb'.mono HB.out.size)⟩
      · go_wp2
        go_ret2
        exact ⟨by simp [hi], HB.out⟩


/-! ### api_Row_140: function 140 (by hand) -/
def api_Row_140.f (l0 : List S82) (a1 : Int) (a2 : Int) : Option (List S82) := if 0 ≤ a1 ∧ a1 < l0.length ∧ a2 = a1 + 1 then some (l0.eraseIdx a1.toNat) else none
theorem api_Row_140.calls (P0_ : Nat → Prop) (u9000_ : Value) (l0 : List S82) (a1 : Int) (a2 : Int) (r : List S82) (w0 w : World) (hB : Below w0.heap.size w0 w) (ho0 : Kd.R k82 82 w w0.heap.size P0_ u9000_ l0) (h : api_Row_140.f l0 a1 a2 = some r) :
    Calls Try.prog 140 #[u9000_, .int .i64 a1, .int .i64 a2] w fun e w' => ∃ v0_, e = .returned v0_ ∧ Kd.R k82 82 w' w0.heap.size (fun k_ => (P0_ k_ ∨ w.heap.size ≤ k_)) v0_ r ∧ Below w0.heap.size w0 w' ∧ Kept w w' (fun k_ => P0_ k_) := by
  unfold api_Row_140.f at h
  split at h
  case isFalse => cases h
  case isTrue hc =>
    obtain ⟨h0, h1, rfl⟩ := hc
    obtain rfl := Option.some.inj h
    obtain ⟨i, rfl⟩ : ∃ i : Nat, a1 = (i : Int) := ⟨a1.toNat, by omega⟩
    refine (HSome.delete_one hB ho0 i (by omega)).mono ?_
    rintro e w' ⟨u', rfl, hR, hb, hk⟩
    exact ⟨u', rfl, Kd.R_mono hR (fun k hk => .inl hk), hb, hk.mono (fun k hk => ho0.1 k hk.symm)⟩


-- NOT PRINTED: function 176 (api_Row_176)

-- NOT PRINTED: function 198 (api_Row_198)

-- NOT PRINTED: function 177 (api_Row_177)

/-! ### api_Row_141: function 141 (by hand) -/
open HCopy in
set_option maxHeartbeats 2000000 in
set_option maxRecDepth 100000 in
/-- There is room, and the place is not the end. -/
theorem api_Row_141.room (g cap n i : Nat) (cur : Array Value) (inner xs : List Value) (g2 c2 : Nat) (cur2 : Array Value) (w : World)
    (hg : w.heap[g]? = some (.cells cur 82 (0, 0))) (hg2 : w.heap[g2]? = some (.cells cur2 82 (0, 0))) (hne : g2 ≠ g) (hi : i < n) (hroom : n + 1 ≤ cap) (hcm : cap ≤ maxLen)
    (hsz : cur.size = cap * 2) (hin : cur.toList.take (n * 2) = inner) (hsz2 : 2 ≤ cur2.size) (hin2 : cur2.toList.take 2 = xs) (h1 : ∀ v ∈ inner, v.oneCell' = true) (h2 : ∀ v ∈ xs, v.oneCell' = true) :
    Calls Try.prog 141 #[.slice (some ⟨g, 0, none⟩) n cap, .int .i64 i, .slice (some ⟨g2, 0, none⟩) 1 c2] w fun e w' =>
      ∃ cur' : Array Value, e = .returned (.slice (some ⟨g, 0, none⟩) (n + 1) cap) ∧ w' = w.drew.setRow g cur' ∧ cur'.size = cap * 2 ∧ cur'.toList.take ((n + 1) * 2) = inner.take (i * 2) ++ xs ++ inner.drop (i * 2) := by
  have hlen : inner.length = n * 2 := by rw [← hin, List.length_take, Array.length_toList, hsz]; omega
  have hxl : xs.length = 2 := by rw [← hin2, List.length_take, Array.length_toList]; omega
  have hmx : cap ≤ 9223372036854775807 := by unfold maxLen at hcm; omega
  have hu := Try.underlying78
  have hs : (Try.prog.info? 82).map (·.size) = some 2 := by
    have h := info82
    cases hq : Try.prog.info? 82 with
    | none => rw [hq] at h; simp at h
    | some i => rw [hq] at h; simp at h; simp [h.2.1]
  have hdl : (inner.drop (i * 2)).length = (n - i) * 2 := by rw [List.length_drop, hlen, Nat.sub_mul]
  -- the first copy
  obtain ⟨cur1, hcur1⟩ : ∃ c : Array Value, c = (cur.toList.take ((i + 1) * 2) ++ inner.drop (i * 2) ++ cur.toList.drop ((i + 1) * 2 + (inner.drop (i * 2)).length)).toArray := ⟨_, rfl⟩
  have hcp1 : ∀ ty dc sc, (Builtin.copy_ #[78, 78] ty #[.slice (some ⟨g, (i + 1) * 2, none⟩) (n - i) dc, .slice (some ⟨g, i * 2, none⟩) (n + 1 - i) sc]).run Try.prog w.drew = .ok (goInt (n - i : Nat)) (w.drew.setRow g cur1) := fun ty dc sc => by
    rw [hcur1]
    refine run_copy_k w.drew 78 78 ty 82 g ((i + 1) * 2) (n - i) dc ⟨g, i * 2, none⟩ (n + 1 - i) sc cur 82 (inner.drop (i * 2)) 2 (n - i) hu hs hg (by show _ = min _ _; omega) hdl (fun j v hj => ?_) (by rw [hdl, hsz]; omega) (fun v hv => h1 v (List.mem_of_mem_drop hv))
    rw [List.getElem?_drop, ← hin] at hj
    have hjl : i * 2 + j < n * 2 := by
      rcases Nat.lt_or_ge (i * 2 + j) (n * 2) with h | h
      · exact h
      · rw [List.getElem?_eq_none (by rw [List.length_take]; omega)] at hj; cases hj
    rw [List.getElem?_take_of_lt hjl] at hj
    rw [Addr.add_lit]
    exact (cell_of_row w g _ cur 82 (0, 0) hg).trans (by rw [← hj]; simp)
  have hsz1 : cur1.size = cap * 2 := by
    rw [hcur1]
    simp only [List.size_toArray, List.length_append, List.length_take, List.length_drop, Array.length_toList, hlen, hsz]
    omega
  have hW1 : (w.drew.setRow g cur1).heap[g]? = some (.cells cur1 82 (0, 0)) := setRow_heap w.drew g cur _ 82 _ hg
  have hW2 : (w.drew.setRow g cur1).heap[g2]? = some (.cells cur2 82 (0, 0)) := (setRow_other w.drew g g2 cur1 hne).trans hg2
  obtain ⟨W1, hW⟩ : ∃ W1, W1 = w.drew.setRow g cur1 := ⟨_, rfl⟩
  obtain ⟨cur', hcur'⟩ : ∃ c : Array Value, c = (cur1.toList.take (i * 2) ++ xs ++ cur1.toList.drop (i * 2 + xs.length)).toArray := ⟨_, rfl⟩
  have hcp2 : ∀ ty dc sc, (Builtin.copy_ #[78, 78] ty #[.slice (some ⟨g, i * 2, none⟩) (n + 1 - i) dc, .slice (some ⟨g2, 0, none⟩) 1 sc]).run Try.prog W1 = .ok (goInt (1 : Nat)) (W1.setRow g cur') := fun ty dc sc => by
    rw [hcur', hW]
    refine run_copy_k _ 78 78 ty 82 g (i * 2) (n + 1 - i) dc ⟨g2, 0, none⟩ 1 sc cur1 82 xs 2 1 hu hs hW1 (by show _ = min _ _; omega) (by rw [hxl]) (fun j v hj => ?_) (by rw [hxl, hsz1]; omega) h2
    rw [← hin2] at hj
    have hjl : j < 2 := by
      rcases Nat.lt_or_ge j 2 with h | h
      · exact h
      · rw [List.getElem?_eq_none (by rw [List.length_take]; omega)] at hj; cases hj
    rw [List.getElem?_take_of_lt hjl] at hj
    rw [Addr.add_lit]
    exact (cell_of_row _ g2 _ cur2 82 (0, 0) hW2).trans (by rw [← hj]; simp)
  have hov : ∀ lb cb, (callFunc 176 #[.slice (some ⟨g2, 0, none⟩) 1 c2, .slice (some ⟨g, (i + 1) * 2, none⟩) lb cb]).run Try.prog w = .ok (.value (.bool false)) w := fun lb cb => by
    rw [run_callFunc_extern Try.func176 (by kernel_rfl) (by kernel_rfl) (by kernel_rfl) (e := Extern.SlicesOverlaps.overlaps #[78, 78] #[4]) (by kernel_rfl),
      Lib.run_overlaps_apart w 78 4 82 hu 2 (fun w => by kernel_rfl) ⟨g2, 0, none⟩ ⟨g, (i + 1) * 2, none⟩ 1 c2 lb cb hne 82 82 cur2.size cur.size (by simp [World.shape?, hg2]) (by simp [World.shape?, hg]) (by omega) (by simp [World.frozen?, hg2]) (by simp [World.frozen?, hg2])]
    rfl
  have hfin : cur'.size = cap * 2 ∧ cur'.toList.take ((n + 1) * 2) = inner.take (i * 2) ++ xs ++ inner.drop (i * 2) := by
    constructor
    · rw [hcur']
      simp only [List.size_toArray, List.length_append, List.length_take, List.length_drop, Array.length_toList, hxl, hsz1]
      omega
    · have e1 : cur1.toList.take (i * 2) = inner.take (i * 2) := by
        rw [hcur1, ← hin]
        simp only [List.append_assoc]
        rw [List.take_append_of_le_length (by rw [List.length_take, Array.length_toList, hsz]; omega), List.take_take, List.take_take]
        congr 1
        omega
      have e2 : (cur1.toList.drop (i * 2 + 2)).take ((n - i) * 2) = inner.drop (i * 2) := by
        have h3 : (cur.toList.take ((i + 1) * 2)).length = i * 2 + 2 := by rw [List.length_take, Array.length_toList, hsz]; omega
        rw [hcur1]
        simp only [List.append_assoc]
        rw [← h3, List.drop_left, ← hdl, List.take_left]
      rw [hcur']
      simp only [List.append_assoc]
      have h4 : (cur1.toList.take (i * 2)).length = i * 2 := by rw [List.length_take, Array.length_toList, hsz1]; omega
      have e3 : (n + 1) * 2 = (cur1.toList.take (i * 2)).length + (xs.length + (n - i) * 2) := by rw [h4, hxl]; omega
      rw [e3, List.take_length_add_append, List.take_length_add_append, hxl, e2, e1]
  have HF := Aside0.mk hfin
  have HE := Aside0.mk (show W1.setRow g cur' = w.drew.setRow g cur' by rw [hW, setRow_setRow])
  rw [← hW] at hcp1
  clear hfin hcur' hW hW1 hW2 hsz1 hcur1 hdl hlen hxl hsz hin hsz2 hin2 h1 h2 hg hg2 hcm
  have hin' : (i : Int) ≤ (n : Int) + 1 := by omega
  have hb1 : ¬ ((i : Int) = (n : Int)) := by omega
  have hb2 : ¬ ((n : Int) + 1 > (cap : Int)) := by omega
  have hb7 : (0 : Int) ≤ (i : Int) + 1 := by omega
  have hb8 : i ≤ n := by omega
  have hb9 : i ≤ n + 1 := by omega
  have hb4 : ¬ (cap = i) := by omega
  have hb5 : ¬ (cap = i + 1) := by omega
  have hw1 : IntKind.i64.wrap ((i : Int) + 1) = (i : Int) + 1 := by rw [IntKind.wrap_i64]; omega
  have htn : ((i : Int) + 1).toNat = i + 1 := by omega
  go_enter Try.func141, Try.ntmps141
  go_wp2_with (simp only [hov])
  go_region_law (refine step_copy_run rfl _ _ 78 78 rfl _ _ (by simp [Act.eval, Act.put]) (by simp [Act.eval, Act.put]) (hcp1 _ _ _) ?_)
  go_wp2_with (at_builtin; refine wpList_copy_run _ rfl _ _ 78 78 rfl _ _ rfl rfl (hcp2 _ _ _) ?_)
  go_ret
  exact ⟨cur', rfl, HE.out, HF.out.1, HF.out.2⟩
open HCopy in
set_option maxHeartbeats 2000000 in
set_option maxRecDepth 100000 in
/-- There is no room, and the place is not the end: a new row. -/
theorem api_Row_141.grow (g cap n i : Nat) (cur : Array Value) (inner xs : List Value) (g2 c2 : Nat) (cur2 : Array Value) (w : World)
    (hg : w.heap[g]? = some (.cells cur 82 (0, 0))) (hg2 : w.heap[g2]? = some (.cells cur2 82 (0, 0))) (hi : i < n) (hnc : n ≤ cap) (hroom : cap < n + 1) (hbig : n + 1 < 4398046511104)
    (hsz : cur.size = cap * 2) (hin : cur.toList.take (n * 2) = inner) (hsz2 : 2 ≤ cur2.size) (hin2 : cur2.toList.take 2 = xs) (h1 : ∀ v ∈ inner, v.oneCell' = true) (h2 : ∀ v ∈ xs, v.oneCell' = true) :
    Calls Try.prog 141 #[.slice (some ⟨g, 0, none⟩) n cap, .int .i64 i, .slice (some ⟨g2, 0, none⟩) 1 c2] w fun e w' =>
      ∃ (cap' : Nat) (cur' : Array Value), e = .returned (.slice (some ⟨w.heap.size, 0, none⟩) (n + 1) cap') ∧ n + 1 ≤ cap' ∧ cap' ≤ maxLen ∧ w'.heap[w.heap.size]? = some (.cells cur' 82 (0, 0)) ∧ Below w.heap.size w w' ∧ cur'.size = cap' * 2 ∧ cur'.toList.take ((n + 1) * 2) = inner.take (i * 2) ++ xs ++ inner.drop (i * 2) := by
  have hlen : inner.length = n * 2 := by rw [← hin, List.length_take, Array.length_toList, hsz]; omega
  have hxl : xs.length = 2 := by rw [← hin2, List.length_take, Array.length_toList]; omega
  have hu := Try.underlying78
  have hs : (Try.prog.info? 82).map (·.size) = some 2 := by
    have h := info82
    cases hq : Try.prog.info? 82 with
    | none => rw [hq] at h; simp at h
    | some i => rw [hq] at h; simp at h; simp [h.2.1]
  have hdl : (inner.drop (i * 2)).length = (n - i) * 2 := by rw [List.length_drop, hlen, Nat.sub_mul]
  have hgl : g < w.heap.size := blk_lt hg
  have hg2l : g2 < w.heap.size := blk_lt hg2
  obtain ⟨i0, hi0, hzz⟩ := Option.map_eq_some_iff.1 info82
  simp only [Prod.mk.injEq] at hzz
  obtain ⟨cap', hc1, hc2, happ⟩ := run_append_zeros_grow (P := Try.prog) w 78 3 78 82 i0 _ 2 32 hu Try.underlying3 hi0 hzz.1 hzz.2.1 hzz.2.2 (by rfl) (by omega) (by omega) g i cap cur hg (by rw [hsz]; omega) .i64 (n + 1 - i) (by omega) (by omega) (by omega)
  rw [show i + (n + 1 - i) = n + 1 by omega] at happ
  obtain ⟨cur0, hcur0⟩ : ∃ c : Array Value, c = ((cur.toList.take (i * 2)).toArray ++ Builtin.zeroCells ((.agg #[(.string ⟨#[]⟩), (.string ⟨#[]⟩)]) : Value).cells (n + 1 - i) ++ Builtin.zeroCells ((.agg #[(.string ⟨#[]⟩), (.string ⟨#[]⟩)]) : Value).cells (cap' - (i + (n + 1 - i)))) := ⟨_, rfl⟩
  have hsz0 : cur0.size = cap' * 2 := by
    rw [hcur0]
    simp only [Array.size_append, List.size_toArray, List.length_take, Array.length_toList, hsz, size_zeroCells, Value.cells, List.length_cons, List.length_nil]
    omega
  have ht0 : cur0.toList.take (i * 2) = inner.take (i * 2) := by
    rw [hcur0, ← hin]
    simp only [Array.toList_append, List.append_assoc]
    rw [List.take_append_of_le_length (by rw [List.length_take, Array.length_toList, hsz]; omega), List.take_take, List.take_take]
    congr 1
    omega
  rw [show cap' - (n + 1) = cap' - (i + (n + 1 - i)) by omega, ← hcur0] at happ
  obtain ⟨W0, hW0⟩ : ∃ W0, W0 = w.drew.alloc (.cells cur0 82) := ⟨_, rfl⟩
  have hB0 : Below w.heap.size w W0 := by rw [hW0]; exact below_alloc (below_drew (Below.refl _ _)) _
  have hh0 : W0.heap[w.heap.size]? = some (.cells cur0 82 (0, 0)) := by rw [hW0]; exact heap_alloc_new w.drew _
  have hg0 : W0.heap[g]? = some (.cells cur 82 (0, 0)) := (hB0.block g hgl).trans hg
  have hg20 : W0.heap[g2]? = some (.cells cur2 82 (0, 0)) := (hB0.block g2 hg2l).trans hg2
  -- the first copy: v
  obtain ⟨cur1, hcur1⟩ : ∃ c : Array Value, c = (cur0.toList.take (i * 2) ++ xs ++ cur0.toList.drop (i * 2 + xs.length)).toArray := ⟨_, rfl⟩
  have hcp1 : ∀ ty dc sc, (Builtin.copy_ #[78, 78] ty #[.slice (some ⟨w.heap.size, i * 2, none⟩) (n + 1 - i) dc, .slice (some ⟨g2, 0, none⟩) 1 sc]).run Try.prog W0 = .ok (goInt (1 : Nat)) (W0.setRow w.heap.size cur1) := fun ty dc sc => by
    rw [hcur1]
    refine run_copy_k _ 78 78 ty 82 w.heap.size (i * 2) (n + 1 - i) dc ⟨g2, 0, none⟩ 1 sc cur0 82 xs 2 1 hu hs hh0 (by show _ = min _ _; omega) (by rw [hxl]) (fun j v hj => ?_) (by rw [hxl, hsz0]; omega) h2
    rw [← hin2] at hj
    have hjl : j < 2 := by
      rcases Nat.lt_or_ge j 2 with h | h
      · exact h
      · rw [List.getElem?_eq_none (by rw [List.length_take]; omega)] at hj; cases hj
    rw [List.getElem?_take_of_lt hjl] at hj
    rw [Addr.add_lit]
    exact (cell_of_row _ g2 _ cur2 82 (0, 0) hg20).trans (by rw [← hj]; simp)
  have hsz1 : cur1.size = cap' * 2 := by
    rw [hcur1]
    simp only [List.size_toArray, List.length_append, List.length_take, List.length_drop, Array.length_toList, hxl, hsz0]
    omega
  obtain ⟨W1, hW1⟩ : ∃ W1, W1 = W0.setRow w.heap.size cur1 := ⟨_, rfl⟩
  have hB1 : Below w.heap.size w W1 := by rw [hW1]; exact below_setRow hB0 (Nat.le_refl _) _
  have hh1 : W1.heap[w.heap.size]? = some (.cells cur1 82 (0, 0)) := by rw [hW1]; exact setRow_heap W0 _ cur0 _ 82 _ hh0
  have hg1 : W1.heap[g]? = some (.cells cur 82 (0, 0)) := (hB1.block g hgl).trans hg
  rw [← hW1] at hcp1
  -- the second one: what stood from i on
  obtain ⟨cur', hcur'⟩ : ∃ c : Array Value, c = (cur1.toList.take ((i + 1) * 2) ++ inner.drop (i * 2) ++ cur1.toList.drop ((i + 1) * 2 + (inner.drop (i * 2)).length)).toArray := ⟨_, rfl⟩
  have hcp2 : ∀ ty dc sc, (Builtin.copy_ #[78, 78] ty #[.slice (some ⟨w.heap.size, (i + 1) * 2, none⟩) (n - i) dc, .slice (some ⟨g, i * 2, none⟩) (n - i) sc]).run Try.prog W1.drew = .ok (goInt (n - i : Nat)) (W1.drew.setRow w.heap.size cur') := fun ty dc sc => by
    rw [hcur']
    refine run_copy_k W1.drew 78 78 ty 82 w.heap.size ((i + 1) * 2) (n - i) dc ⟨g, i * 2, none⟩ (n - i) sc cur1 82 (inner.drop (i * 2)) 2 (n - i) hu hs hh1 (by show _ = min _ _; omega) hdl (fun j v hj => ?_) (by rw [hdl, hsz1]; omega) (fun v hv => h1 v (List.mem_of_mem_drop hv))
    rw [List.getElem?_drop, ← hin] at hj
    have hjl : i * 2 + j < n * 2 := by
      rcases Nat.lt_or_ge (i * 2 + j) (n * 2) with h | h
      · exact h
      · rw [List.getElem?_eq_none (by rw [List.length_take]; omega)] at hj; cases hj
    rw [List.getElem?_take_of_lt hjl] at hj
    rw [Addr.add_lit]
    exact (cell_of_row W1.drew g _ cur 82 (0, 0) hg1).trans (by rw [← hj]; simp)
  have hsz' : cur'.size = cap' * 2 := by
    rw [hcur']
    simp only [List.size_toArray, List.length_append, List.length_take, List.length_drop, Array.length_toList, hlen, hsz1]
    omega
  have hfin : cur'.toList.take ((n + 1) * 2) = inner.take (i * 2) ++ xs ++ inner.drop (i * 2) := by
    have h4 : (cur1.toList.take ((i + 1) * 2)) = inner.take (i * 2) ++ xs := by
      have h5 : (cur0.toList.take (i * 2)).length = i * 2 := by rw [List.length_take, Array.length_toList, hsz0]; omega
      rw [hcur1]
      simp only [List.append_assoc]
      rw [show (i + 1) * 2 = (cur0.toList.take (i * 2)).length + xs.length by rw [h5, hxl]; omega, List.take_length_add_append, List.take_left, ht0]
    have h6 : (inner.take (i * 2) ++ xs).length = (i + 1) * 2 := by rw [List.length_append, List.length_take, hlen, hxl]; omega
    rw [hcur', h4]
    simp only [List.append_assoc]
    rw [← List.append_assoc, show (n + 1) * 2 = (inner.take (i * 2) ++ xs).length + (inner.drop (i * 2)).length by rw [h6, hdl]; omega, List.take_length_add_append, List.take_left, List.append_assoc]
  obtain ⟨W2, hW2⟩ : ∃ W2, W2 = W1.drew.setRow w.heap.size cur' := ⟨_, rfl⟩
  have HF := Aside0.mk (show W2.heap[w.heap.size]? = some (.cells cur' 82 (0, 0)) ∧ Below w.heap.size w W2 ∧ cur'.size = cap' * 2 ∧ cur'.toList.take ((n + 1) * 2) = inner.take (i * 2) ++ xs ++ inner.drop (i * 2) from
    ⟨by rw [hW2]; exact setRow_heap W1.drew _ cur1 _ 82 _ hh1, by rw [hW2]; exact below_setRow (below_drew hB1) (Nat.le_refl _) _, hsz', hfin⟩)
  have HC := Aside0.mk (And.intro hc1 hc2)
  rw [← hW2] at hcp2
  rw [← hW0] at happ
  have hcx : cap ≤ 9223372036854775807 := by omega
  have hcy : cap' ≤ 9223372036854775807 := by unfold maxLen at hc2; omega
  have hcz : i + 1 ≤ cap' := by omega
  clear hfin hcur' hW0 hW1 hW2 hsz1 hcur1 hdl hlen hxl hsz hin hsz2 hin2 h1 h2 hg hg2 hc2 hB0 hh0 hg0 hg20 hB1 hh1 hg1 hsz' hsz0 ht0 hcur0 hi0 hzz
  have hin' : (i : Int) ≤ (n : Int) + 1 := by omega
  have hb1 : ¬ ((i : Int) = (n : Int)) := by omega
  have hb7 : (0 : Int) ≤ (i : Int) + 1 := by omega
  have hb8 : i ≤ n := by omega
  have hb9 : i ≤ n + 1 := by omega
  have hb4 : ¬ (cap = i) := by omega
  have hz3 : (cap : Int) < (n : Int) + 1 := by omega
  have hic : i ≤ cap := by omega
  have hb5 : ¬ (cap' = i) := by omega
  have hb6 : ¬ (cap' = i + 1) := by omega
  have hsub : (n : Int) + 1 - (i : Int) = ((n + 1 - i : Nat) : Int) := by omega
  have hw1 : IntKind.i64.wrap ((i : Int) + 1) = (i : Int) + 1 := by rw [IntKind.wrap_i64]; omega
  have htn : ((i : Int) + 1).toNat = i + 1 := by omega
  go_enter Try.func141, Try.ntmps141
  go_wp2_with (first
    | (at_builtin; refine wpList_append_run _ rfl _ _ 78 3 rfl _ _ rfl rfl _ _ happ ?_)
    | (at_builtin; refine wpList_copy_run _ rfl _ _ 78 78 rfl _ _ rfl rfl (hcp1 _ _ _) ?_)
    | (at_builtin; refine wpList_copy_run _ rfl _ _ 78 78 rfl _ _ rfl rfl (hcp2 _ _ _) ?_))
  go_region_law (refine step_copy_run rfl _ _ 78 78 rfl _ _ (by simp [Act.eval, Act.put]) (by simp [Act.eval, Act.put]) (hcp2 _ _ _) ?_)
  go_wp2
  go_ret
  exact ⟨cap', cur', rfl, by have := HC.out.1; omega, HC.out.2, HF.out.1, HF.out.2.1, HF.out.2.2.1, HF.out.2.2.2⟩
def api_Row_141.f (l0 : List (S82)) (a1 : Int) (l2 : List (S82)) : Option (List (S82)) := if l2.length = 1 ∧ 0 ≤ a1 ∧ a1 ≤ l0.length ∧ l0.length + 1 < 4398046511104 then some (l0.take a1.toNat ++ l2 ++ l0.drop a1.toNat) else none
theorem api_Row_141.one {w : World} {base : Nat} {ok : Nat → Prop} {l : List (S82)} {cs : List Value} (h : Reps (k82.M w base ok) 2 l cs) : ∀ u ∈ cs, u.oneCell' = true := by
  intro u hu
  obtain ⟨q, hq, rfl⟩ := List.mem_iff_getElem.1 hu
  have hql : q / 2 < l.length := by
    have := h.1
    omega
  have hc := h.2 (q / 2) _ (List.getElem?_eq_getElem hql)
  refine k82.K_one (k82.K_of_M hc) _ ?_
  rw [List.mem_iff_getElem?]
  refine ⟨q % 2, ?_⟩
  rw [List.getElem?_take, if_pos (Nat.mod_lt _ (by omega)), List.getElem?_drop, Nat.mul_comm, Nat.div_add_mod, List.getElem?_eq_getElem hq]
open HCopy in
theorem api_Row_141.reps {w w' : World} {base base' : Nat} {ok ok' : Nat → Prop} {l l2 : List (S82)} {cs ds : List Value} (i : Nat) (hi : i ≤ l.length) (h : Reps (k82.M w base ok) 2 l cs) (h2 : Reps (k82.M w' base' ok') 2 l2 ds) (hb : base' ≤ base) :
    Reps (k82.M w' base' (fun _ => True)) 2 (l.take i ++ l2 ++ l.drop i) (cs.take (i * 2) ++ ds ++ cs.drop (i * 2)) :=
  Reps.append (Reps.append ((Reps.take h i hi).imp_ fun _ _ hm => flat_move rfl hb hm) (h2.imp_ fun _ _ hm => flat_move rfl (Nat.le_refl _) hm)) ((Reps.drop h i).imp_ fun _ _ hm => flat_move rfl hb hm)
open HCopy in
set_option maxHeartbeats 2000000 in
set_option maxRecDepth 100000 in
/-- The place is the end. -/
theorem api_Row_141.last (P0_ : Nat → Prop) (u9000_ : Value) (l0 : List (S82)) (P2_ : Nat → Prop) (u9001_ : Value) (x : (S82)) (w0 w : World) (hB : Below w0.heap.size w0 w) (ho0 : Kd.R k82 82 w w0.heap.size P0_ u9000_ l0) (ho2 : Kd.R k82 82 w w0.heap.size P2_ u9001_ [x]) (hlim : l0.length + 1 < 4398046511104) :
    Calls Try.prog 141 #[u9000_, .int .i64 l0.length, u9001_] w fun e w' => ∃ v0_, e = .returned v0_ ∧ Kd.R k82 82 w' w0.heap.size (fun k_ => ((P0_ k_ ∨ P2_ k_) ∨ w.heap.size ≤ k_)) v0_ (l0 ++ [x]) ∧ Below w0.heap.size w0 w' ∧ Kept w w' (fun k_ => P0_ k_ ∨ P2_ k_) := by
  obtain ⟨A2, c2, rfl, hc2, hC2⟩ := Kd.R_reads ho2
  obtain ⟨A0, c0, hu0, hc0, hC0⟩ := Kd.R_reads ho0
  obtain ⟨ad2, rfl, _⟩ := hC2.2.2 (by simp)
  have hoK : Kd.R k82 82 w w0.heap.size (fun k_ => ((P0_ k_ ∨ P2_ k_) ∨ w.heap.size ≤ k_)) u9000_ l0 := Kd.R_mono ho0 (fun k hk => .inl (.inl hk))
  have hP0 := Aside0.mk ho0.1
  have HO := Aside0.mk hoK
  have HC := Aside0.mk hC2
  have HBB := Aside0.mk hB
  have hlen : l0.length ≤ c0 := hc0
  clear ho0 ho2 hC0 hC2 hoK hB
  subst hu0
  go_enter Try.func141, Try.ntmps141
  go_wp2_with (at_builtin; (refine Kd.R_append_rows k82 (w0 := w0) w0.heap.size rfl _ _ 78 82 ((.agg #[(.string ⟨#[]⟩), (.string ⟨#[]⟩)])) 32 rfl Try.underlying78 info82 rfl (by decide) (by omega) _ l0 [x] _ _ _ (fun k_ => ((P0_ k_ ∨ P2_ k_) ∨ w.heap.size ≤ k_)) (fun _ => False) rfl rfl HO.out HC.out (fun _ _ h => h) (fun _ h => h.elim) (fun k hk => .inr hk) HBB.out HBB.out.size (by show (l0.length + 1) * 32 ≤ 140737488355328; omega) ?_); intro v1 w1 ho hb hg hat)
  all_goals go_ret
  all_goals exact ⟨_, rfl, ho, hb, Kept.of_grown hg (Kept.refl _ _) (fun k hk => .inl (.inl (hP0.out k hk)))⟩
open HCopy in
theorem api_Row_141.calls (P0_ : Nat → Prop) (u9000_ : Value) (l0 : List (S82)) (a1 : Int) (P2_ : Nat → Prop) (u9001_ : Value) (l2 : List (S82)) (r : List (S82)) (w0 w : World) (hB : Below w0.heap.size w0 w) (ho0 : Kd.R k82 82 w w0.heap.size P0_ u9000_ l0) (hp0_2 : ∀ k_, P0_ k_ → ¬ P2_ k_) (ho2 : Kd.R k82 82 w w0.heap.size P2_ u9001_ l2) (hp2_0 : ∀ k_, P2_ k_ → ¬ P0_ k_) (h : api_Row_141.f l0 a1 l2 = some r) :
    Calls Try.prog 141 #[u9000_, .int .i64 a1, u9001_] w fun e w' => ∃ v0_, e = .returned v0_ ∧ Kd.R k82 82 w' w0.heap.size (fun k_ => ((P0_ k_ ∨ P2_ k_) ∨ w.heap.size ≤ k_)) v0_ r ∧ Below w0.heap.size w0 w' ∧ Kept w w' (fun k_ => P0_ k_ ∨ P2_ k_) := by
  unfold api_Row_141.f at h
  split at h
  case isFalse => cases h
  case isTrue hc =>
    obtain ⟨hl1, hi0, hil, hlim⟩ := hc
    obtain rfl := Option.some.inj h
    obtain ⟨i, rfl⟩ : ∃ i : Nat, a1 = (i : Int) := ⟨a1.toNat, by omega⟩
    obtain ⟨x, rfl⟩ := List.length_eq_one_iff.1 hl1
    clear h
    rw [Int.toNat_natCast]
    by_cases hin : i < l0.length
    · obtain ⟨hok2, inner2, ⟨hlen2, hcase2⟩, hr2⟩ := ho2
      rcases hcase2 with ⟨_, hn⟩ | ⟨g2, c2, cur2, rfl, hbg2, hg2, hnc2, hcm2, hsz2, ht2⟩
      · simp at hn
      obtain ⟨hok, inner, ⟨hlen, hcase⟩, hr⟩ := ho0
      rcases hcase with ⟨_, hn⟩ | ⟨g, cap, cur, rfl, hbg, hg, hnc, hcm, hsz, ht⟩
      · omega
      have hP0 : P0_ g := hok g (by simp [Value.ownBlock])
      have hP2 : P2_ g2 := hok2 g2 (by simp [Value.ownBlock])
      have hne : g2 ≠ g := fun e => hp0_2 g hP0 (e ▸ hP2)
      have hbw := hB.size
      have hR := fun (w' : World) => api_Row_141.reps (w' := w') (base' := w0.heap.size) (ok' := fun _ => True) i (by omega) hr (hr2.imp_ fun _ _ hm => flat_move (w1 := w') (base1 := w0.heap.size) (ok1 := fun _ => True) rfl (Nat.le_refl _) hm) (Nat.le_refl _)
      by_cases hroom : l0.length + 1 ≤ cap
      · refine (api_Row_141.room g cap l0.length i cur inner inner2 g2 c2 cur2 w hg hg2 hne hin hroom hcm hsz ht (by show 2 ≤ _; have : k82.sz = 2 := rfl; rw [this] at hsz2; have : 1 ≤ c2 := hnc2; omega) ht2 (api_Row_141.one hr) (api_Row_141.one hr2)).mono ?_
        rintro e w' ⟨cur', rfl, rfl, hs', ht'⟩
        refine ⟨_, rfl, ?_, ?_, ?_⟩
        · exact row_R k82 rfl (Nat.le_refl _) (setRow_heap w.drew g cur _ 82 _ hg) hbg (by simp; omega) hroom hcm hs' ht' (hR w) (.inl (.inl hP0))
        · exact below_setRow (below_drew hB) hbg _
        · exact ⟨by simp [World.setRow], fun k hk hn => setRow_other w.drew g k cur' (fun e => hn (.inl (e ▸ hP0)))⟩
      · refine (api_Row_141.grow g cap l0.length i cur inner inner2 g2 c2 cur2 w hg hg2 hin hnc (by omega) hlim hsz ht (by show 2 ≤ _; have : k82.sz = 2 := rfl; rw [this] at hsz2; have : 1 ≤ c2 := hnc2; omega) ht2 (api_Row_141.one hr) (api_Row_141.one hr2)).mono ?_
        rintro e w' ⟨cap', cur', rfl, hc1, hc2', hh, hbb, hs', ht'⟩
        refine ⟨_, rfl, ?_, ?_, ?_⟩
        · exact row_R k82 rfl (Nat.le_refl _) hh hbw (by simp; omega) hc1 hc2' hs' ht' (hR w) (.inr (Nat.le_refl _))
        · exact hB.trans (hbb.mono hbw)
        · exact Kept.of_below hbb _
    · obtain rfl : i = l0.length := by omega
      rw [List.take_length, List.drop_length, List.append_nil]
      exact api_Row_141.last P0_ u9000_ l0 P2_ u9001_ x w0 w hB ho0 ho2 hlim


/-! ### view_Merge: function 90 -/
mutual
def view_Merge.l0 : Nat → List (S82) → Int → List (S36) → Int → Int → Option ((List (S82)))
 | 0, _, _, _, _, _ => none
 | k + 1, x0, x2, x14, x15, x16 => if x16 < x15 then (if 0 ≤ x16 then (if x16 < (x14.length : Int) then (if ((rd_T36 x14 x16).f0) = x2 then ((api_Row_string.f x0 ((rd_T36 x14 x16).f1)).bind fun bt225 => (if bt225.2 = true then ((api_Row_140.f x0 bt225.1 (wrap64 (bt225.1 + 1))).bind fun t227 => (view_Merge.j1 k t227 x2 bt225.1 x14 x15 x16 ((rd_T36 x14 x16).f0) ((rd_T36 x14 x16).f1) ((rd_T36 x14 x16).f2) ((rd_T36 x14 x16).f3))) else (view_Merge.j1 k x0 x2 bt225.1 x14 x15 x16 ((rd_T36 x14 x16).f0) ((rd_T36 x14 x16).f1) ((rd_T36 x14 x16).f2) ((rd_T36 x14 x16).f3)))) else (view_Merge.l0 k x0 x2 x14 x15 (wrap64 (x16 + 1)))) else (none)) else (none)) else (some x0)
def view_Merge.j1 : Nat → List (S82) → Int → Int → List (S36) → Int → Int → Int → ByteArray → ByteArray → Bool → Option ((List (S82)))
 | 0, _, _, _, _, _, _, _, _, _, _ => none
 | k + 1, x0, x2, x9, x14, x15, x16, x225000, x225001, x225002, x225003 => if x225003 = true then (view_Merge.l0 k x0 x2 x14 x15 (wrap64 (x16 + 1))) else ((api_Row_141.f x0 x9 (([(⟨x225001, x225002⟩ : S82)] : List (S82)))).bind fun t233 => (view_Merge.l0 k t233 x2 x14 x15 (wrap64 (x16 + 1))))
end
def view_Merge.f (k : Nat) (l0 : List (S82)) (l1_0 : List (S36)) (l1_1 : List Int) (a2 : Int) : Option ((List (S82))) := (api_Row_133.f l0).bind fun t217 => ((pend_All.f l1_0 l1_1).bind fun t220 => (view_Merge.l0 k t217 a2 t220 (t220.length : Int) 0))
theorem view_Merge.mono_l : ∀ k, (∀ y0 y1 y2 y3 y4, LeO (view_Merge.l0 k y0 y1 y2 y3 y4) (view_Merge.l0 (k + 1) y0 y1 y2 y3 y4)) ∧ (∀ y0 y1 y2 y3 y4 y5 y6 y7 y8 y9, LeO (view_Merge.j1 k y0 y1 y2 y3 y4 y5 y6 y7 y8 y9) (view_Merge.j1 (k + 1) y0 y1 y2 y3 y4 y5 y6 y7 y8 y9))
 | 0 => ⟨fun _ _ _ _ _ r h => by simp [view_Merge.l0] at h, fun _ _ _ _ _ _ _ _ _ _ r h => by simp [view_Merge.j1] at h⟩
 | k + 1 => by
  obtain ⟨ih0, ih1⟩ := view_Merge.mono_l k
  refine ⟨?_, ?_⟩
  ·intro y0 y1 y2 y3 y4
   unfold view_Merge.l0
   repeat' first
   | (with_reducible exact ih0 _ _ _ _ _)
   | (with_reducible exact ih1 _ _ _ _ _ _ _ _ _ _)
   | (with_reducible exact LeO.refl _)
   | (with_reducible exact LeO.none _)
   | (with_reducible refine LeO.ite ?_ ?_)
   | (with_reducible refine LeO.bind ?_ (fun _ => ?_))
   | exact ih0 _ _ _ _ _
   | exact ih1 _ _ _ _ _ _ _ _ _ _
   | exact LeO.none _
   | refine LeO.ite ?_ ?_
   | refine LeO.bind ?_ (fun _ => ?_)
  ·intro y0 y1 y2 y3 y4 y5 y6 y7 y8 y9
   unfold view_Merge.j1
   repeat' first
   | (with_reducible exact ih0 _ _ _ _ _)
   | (with_reducible exact ih1 _ _ _ _ _ _ _ _ _ _)
   | (with_reducible exact LeO.refl _)
   | (with_reducible exact LeO.none _)
   | (with_reducible refine LeO.ite ?_ ?_)
   | (with_reducible refine LeO.bind ?_ (fun _ => ?_))
   | exact ih0 _ _ _ _ _
   | exact ih1 _ _ _ _ _ _ _ _ _ _
   | exact LeO.none _
   | refine LeO.ite ?_ ?_
   | refine LeO.bind ?_ (fun _ => ?_)
theorem view_Merge.mono : ∀ a0 a1 a2 a3 k, LeO (view_Merge.f k a0 a1 a2 a3) (view_Merge.f (k + 1) a0 a1 a2 a3) := by
 intro a0 a1 a2 a3 k
 obtain ⟨ih0, ih1⟩ := view_Merge.mono_l k
 unfold view_Merge.f
 repeat' first
   | (with_reducible exact ih0 _ _ _ _ _)
   | (with_reducible exact ih1 _ _ _ _ _ _ _ _ _ _)
   | (with_reducible exact LeO.refl _)
   | (with_reducible exact LeO.none _)
   | (with_reducible refine LeO.ite ?_ ?_)
   | (with_reducible refine LeO.bind ?_ (fun _ => ?_))
   | exact ih0 _ _ _ _ _
   | exact ih1 _ _ _ _ _ _ _ _ _ _
   | exact LeO.none _
   | refine LeO.ite ?_ ?_
   | refine LeO.bind ?_ (fun _ => ?_)
set_option maxHeartbeats 8000000 in
set_option maxRecDepth 100000 in
theorem view_Merge.calls (k : Nat) (A0 : Option Addr) (c0 : Nat) (l0 : List (S82)) (A1_0 : Option Addr) (c1_0 : Nat) (l1_0 : List (S36)) (A1_1 : Option Addr) (c1_1 : Nat) (l1_1 : List Int) (a2 : Int) (r : List (S82)) (w : World) (hr0 : Kd.C k82 w A0 l0.length l0) (hc0 : l0.length ≤ c0) (hr1_0 : Kd.C k36 w A1_0 l1_0.length l1_0) (hc1_0 : l1_0.length ≤ c1_0) (hr1_1 : Kd.C (Kd.int .i64) w A1_1 l1_1.length l1_1) (hc1_1 : l1_1.length ≤ c1_1) (h : view_Merge.f k l0 l1_0 l1_1 a2 = some r) :
  Calls Try.prog 90 #[.slice A0 l0.length c0, .agg #[.slice A1_0 l1_0.length c1_0, .slice A1_1 l1_1.length c1_1], .int .i64 a2] w fun e w' => ∃ v0_ : Value, e = .returned (v0_) ∧ Kd.R k82 82 w' w.heap.size (fun _ => True) v0_ r ∧ Below w.heap.size w w' := by
 have hu34 := Try.underlying34
 have hu36 := Try.underlying36
 have hu82 := Try.underlying82
 have HR0 := mk0 hr0
 have HC0 := mk0 hc0
 clear hr0 hc0
 have HR1_0 := mk0 hr1_0
 have HC1_0 := mk0 hc1_0
 clear hr1_0 hc1_0
 have HR1_1 := mk0 hr1_1
 have HC1_1 := mk0 hc1_1
 clear hr1_1 hc1_1
 have HB := mk0 (Below.refl w.heap.size w)
 have H : ((api_Row_133.f l0).bind fun t217 => ((pend_All.f l1_0 l1_1).bind fun t220 => (view_Merge.l0 k t217 a2 t220 (t220.length : Int) 0))) = some r := h
 clear h
 replace H := Option.bind_eq_some_iff.mp H
 obtain ⟨t217, A40, H⟩ := H
 try dsimp only at H
 have A4 := mk0 A40
 clear A40
 replace H := Option.bind_eq_some_iff.mp H
 obtain ⟨t220, A50, H⟩ := H
 try dsimp only at H
 have A5 := mk0 A50
 clear A50
 have H' := mk0 H
 clear H
 go_enter Try.func90, Try.ntmps90
 go_wp2_with (first | ((with_reducible refine gate_dst (N := 4) rfl ?_); refine bx_ (N := 4) (cs := #[.slice A1_0 l1_0.length c1_0, .slice A1_1 l1_1.length c1_1]) (t := 34) (h := ?_); intro gb216 hg w6 hbox hb; have n2_ := mk0 (gz_ HB hg); have n3_ := mk0 (gz_ HB hg); replace HB := mk0 (bt_ (b_ HB) hb); have BK216 := mk0 (hbox); have GW216 := n2_; have GE216 := n3_; clear n2_ n3_; clear hb hbox hg) | ((with_reducible refine gate_callee (f := 133) rfl ?_); refine gL_ (some 12) Try.func133 #[.slice A0 l0.length c0] (h := ?_); (with_reducible refine (api_Row_133.calls _ _ l0 t217 _ ?side1 ?side2 A4.out).mono ?_); (case side1 => exact cb_ HR0 HB); (case side2 => exact HC0.out); rintro e w7 ⟨v218, rfl, ho0, hb⟩; refine ⟨_, rfl, ?_⟩; have n0_ := mk0 (Kd.R_lower ho0 (bz_ (b_ HB))); replace BK216 := mk0 (u_ BK216 hb); replace HB := mk0 (bt_ (b_ HB) hb); have HO219 := n0_; clear n0_; (try clear hb); (try clear ho0); obtain ⟨hcz8_0, hcz8_1, hfz8_0, hfz8_1⟩ := c2_ BK216) | ((with_reducible refine gate_callee (f := 114) rfl ?_); refine gL_ (some 14) Try.func114 #[.agg #[.slice A1_0 l1_0.length c1_0, .slice A1_1 l1_1.length c1_1]] (h := ?_); (with_reducible refine (pend_All.calls _ _ l1_0 _ _ l1_1 t220 _ ?side1 ?side2 ?side3 ?side4 A5.out).mono ?_); (case side1 => exact cb_ HR1_0 HB); (case side2 => exact HC1_0.out); (case side3 => exact cb_ HR1_1 HB); (case side4 => exact HC1_1.out); rintro e w9 ⟨v221, rfl, ho0, hb⟩; refine ⟨_, rfl, ?_⟩; have n1_ := mk0 (Kd.R_lower ho0 (bz_ (b_ HB))); replace HO219 := mk0 (Kd.R_below (r_ HO219) hb); replace BK216 := mk0 (u_ BK216 hb); replace HB := mk0 (bt_ (b_ HB) hb); have HO222 := n1_; clear n1_; (try clear hb); (try clear ho0); obtain ⟨Ao10, co10, eo10⟩ := Kd.R_slice HO222.out; subst eo10))
 go_loopg [0, 16] k (fun kq v0 v16 w' => ∃ (x0_1 : List (S82)) (x16_1 : Int), v16 = .int .i64 x16_1 ∧ Fc (view_Merge.l0 kq x0_1 a2 t220 (t220.length : Int) x16_1 = some r) ∧ Fc (kq ≤ k) ∧ Fc (Kd.R k82 82 w' w.heap.size (fun _ => True) v0 x0_1) ∧ Fc (Kd.R k36 36 w' w.heap.size (fun _ => True) (.slice Ao10 t220.length co10) t220) ∧ Fc (w'.heap[gb216]? = some (.cells #[(.slice A1_0 l1_0.length c1_0), (.slice A1_1 l1_1.length c1_1)] 34 (0, 0))) ∧ Fc (Below w.heap.size w w'))
 case atStart => exact ⟨(t217), (0), (by first | rfl | (simp; done) | (simp [*]; done)), H', ⟨Nat.le_refl _⟩, ⟨by (with_reducible repeat (first | apply Ra_ | apply Rn_ | apply Rd_)); exact HO219.out⟩, ⟨by (with_reducible repeat (first | apply Ra_ | apply Rn_ | apply Rd_)); exact HO222.out⟩, ⟨h_ BK216⟩, ⟨b_ HB⟩⟩
 case round =>
  clear H'
  try clear hcz8_0
  try clear hcz8_1
  try clear hfz8_0
  try clear hfz8_1
  obtain ⟨x0_1, x16_1, rfl, HA, HK1, HO_0, HO_14, BK216, HB⟩ := hrel
  cases gk with
  | zero => exact absurd HA.out (by simp [view_Merge.l0])
  | succ k1 =>
   have H := HA.out
   clear HA
   simp only [view_Merge.l0] at H
   as_aux_lemma =>
    by_cases c11 : x16_1 < (t220.length : Int)
    ·rw [if_pos c11] at H
     have c11b0 : decide (x16_1 < (t220.length : Int)) = true := decide_eq_true c11
     clear c11
     by_cases c12 : 0 ≤ x16_1
     ·rw [if_pos c12] at H
      have c12b0 : decide (0 ≤ x16_1) = true := decide_eq_true c12
      clear c12
      by_cases c13 : x16_1 < (t220.length : Int)
      ·rw [if_pos c13] at H
       have c13b0 : decide (x16_1 < (t220.length : Int)) = true := decide_eq_true c13
       clear c13
       by_cases c14 : ((rd_T36 t220 x16_1).f0) = a2
       ·rw [if_pos c14] at H
        have c14b0 : (((rd_T36 t220 x16_1).f0) == a2) = true := beq_iff_eq.mpr c14
        have c14b1 : (((rd_T36 t220 x16_1).f0) != a2) = false := bne_eq_false_iff_eq.mpr c14
        clear c14
        replace H := Option.bind_eq_some_iff.mp H
        obtain ⟨⟨t225, t226⟩, A150, H⟩ := H
        try dsimp only at H
        have A15 := mk0 A150
        clear A150
        have HC16 := mk0 H
        clear H
        have p223 : 0 ≤ (x16_1 : Int) := of_decide_eq_true (by first | (with_reducible assumption) | assumption)
        have q223 : x16_1 < (t220.length : Int) := of_decide_eq_true (by first | (with_reducible assumption) | assumption)
        (try (obtain ⟨Aq_, cq_, eq_⟩ := Kd.R_slice HO_14.out; subst eq_))
        obtain ⟨ad223, e223, hx223_0, hx223_1, hx223_2, hx223_3⟩ := at_T36 (Kd.R_reads' HO_14.out).2.2 x16_1 p223 q223
        cases e223
        replace p223 := eq_true p223
        replace q223 := eq_true q223
        go_upto_if 31 with (first | ((with_reducible refine gate_dst (N := 8) rfl ?_); refine bx_ (N := 8) (cs := #[.int .i64 0, .string (⟨#[]⟩ : ByteArray), .string (⟨#[]⟩ : ByteArray), .bool false]) (t := 36) (h := ?_); intro gb224 hg w17 hbox hb; have n5_ := mk0 (gz_ HB hg); have n6_ := mk0 (gz_ HB hg); have n7_ := mk0 (ne1_ BK216 hg); have n8_ := mk0 (ne2_ BK216 hg); replace HO_0 := mk0 (Kd.R_below (r_ HO_0) hb); replace HO_14 := mk0 (Kd.R_below (Kd.R_elderB (r_ HO_14) gb224 (Nat.le_of_eq hg.symm)) hb); replace BK216 := mk0 (u_ BK216 hb); replace HB := mk0 (bt_ (b_ HB) hb); have BK224 := mk0 (hbox); have GW224 := n5_; have GE224 := n6_; have NB216_224 := n7_; have NB224_216 := n8_; clear n5_ n6_ n7_ n8_ hb hbox hg; have hnb18 := NB224_216.out; have hnc18 := NB216_224.out; obtain ⟨hcz19_0, hcz19_1, hcz19_2, hcz19_3, hfz19_0, hfz19_1, hfz19_2, hfz19_3⟩ := c4_ BK224; obtain ⟨Ao20, co20, eo20⟩ := Kd.R_slice HO_0.out; subst eo20) | ((with_reducible refine gate_callee (f := 137) rfl ?_); refine gL_ (some 28) Try.func137 #[.slice Ao20 x0_1.length co20, .string ((rd_T36 t220 x16_1).f1), .func (Fn.func 138) #[] #[]] (h := ?_); (with_reducible refine (api_Row_string.calls _ _ x0_1 ((rd_T36 t220 x16_1).f1)  t225 t226 _ ?side1 ?side2 A15.out).mono ?_); (case side1 => refine (Kd.R_reads' (e := 82) (base := w.heap.size) (ok := fun k_ => True) (n := x0_1.length) (c := co20) ?_).2.2; exact (r2_ (Kd.R_mono (Kd.R_far (p := ⟨gb224, 3, none⟩) (Kd.R_far (p := ⟨gb224, 2, none⟩) (Kd.R_far (p := ⟨gb224, 1, none⟩) (Kd.R_far (p := ⟨gb224, 0, none⟩) (Kd.R_types HO_0.out BK224.out (by decide)) (fun _ hk => hk.2) (.int .i64 ((rd_T36 t220 x16_1).f0))) (fun _ hk => hk.2) (.string ((rd_T36 t220 x16_1).f1))) (fun _ hk => hk.2) (.string ((rd_T36 t220 x16_1).f2))) (fun _ hk => hk.2) (.bool ((rd_T36 t220 x16_1).f3))) (fun _ h_ => h_.1)))); (case side2 => exact (Kd.R_reads' HO_0.out).2.1); rintro e w21 ⟨rfl, hb⟩; refine ⟨_, rfl, ?_⟩; have n0_ := mk0 (Kd.R_below (r2_ (Kd.R_mono (Kd.R_far (p := ⟨gb224, 3, none⟩) (Kd.R_far (p := ⟨gb224, 2, none⟩) (Kd.R_far (p := ⟨gb224, 1, none⟩) (Kd.R_far (p := ⟨gb224, 0, none⟩) (Kd.R_types HO_0.out BK224.out (by decide)) (fun _ hk => hk.2) (.int .i64 ((rd_T36 t220 x16_1).f0))) (fun _ hk => hk.2) (.string ((rd_T36 t220 x16_1).f1))) (fun _ hk => hk.2) (.string ((rd_T36 t220 x16_1).f2))) (fun _ hk => hk.2) (.bool ((rd_T36 t220 x16_1).f3))) (fun _ h_ => h_.1))) hb); replace HO_14 := mk0 (Kd.R_below (r2_ (Kd.R_mono (Kd.R_far (p := ⟨gb224, 3, none⟩) (Kd.R_far (p := ⟨gb224, 2, none⟩) (Kd.R_far (p := ⟨gb224, 1, none⟩) (Kd.R_far (p := ⟨gb224, 0, none⟩) (Kd.R_mono HO_14.out (fun k_ hk => (⟨hk, hk.2⟩ : _ ∧ k_ ≠ gb224))) (fun _ hk => hk.2) (.int .i64 ((rd_T36 t220 x16_1).f0))) (fun _ hk => hk.2) (.string ((rd_T36 t220 x16_1).f1))) (fun _ hk => hk.2) (.string ((rd_T36 t220 x16_1).f2))) (fun _ hk => hk.2) (.bool ((rd_T36 t220 x16_1).f3))) (fun _ h_ => h_.1))) hb); replace BK216 := mk0 (blk_below (g := gb216) (o := .cells #[.slice A1_0 l1_0.length c1_0, .slice A1_1 l1_1.length c1_1] 34 (0, 0)) (fa_ (fa_ (fa_ (fa_ (h_ BK216) NB216_224.out) NB216_224.out) NB216_224.out) NB216_224.out) hb); replace BK224 := mk0 (blk_below (g := gb224) (o := .cells #[.int .i64 ((rd_T36 t220 x16_1).f0), .string ((rd_T36 t220 x16_1).f1), .string ((rd_T36 t220 x16_1).f2), .bool ((rd_T36 t220 x16_1).f3)] 36 (0, 0)) (pu_ (cs := #[.int .i64 ((rd_T36 t220 x16_1).f0), .string ((rd_T36 t220 x16_1).f1), .string ((rd_T36 t220 x16_1).f2), .bool false]) (pu_ (cs := #[.int .i64 ((rd_T36 t220 x16_1).f0), .string ((rd_T36 t220 x16_1).f1), .string (⟨#[]⟩ : ByteArray), .bool false]) (pu_ (cs := #[.int .i64 ((rd_T36 t220 x16_1).f0), .string (⟨#[]⟩ : ByteArray), .string (⟨#[]⟩ : ByteArray), .bool false]) (pu_ (cs := #[.int .i64 0, .string (⟨#[]⟩ : ByteArray), .string (⟨#[]⟩ : ByteArray), .bool false]) (h_ BK224))))) hb); replace HB := mk0 (bt_ (b_ HB) hb); clear HO_0; have HO_0 := n0_; clear n0_; (try clear hb)))
        (try simp only [Act.put, List.setIfInBounds_toArray, List.set_cons_zero, List.set_cons_succ])
        go_cut [0] (fun v0 wc => ∃ (kq : Nat) (x0_15 : List (S82)), Fc (view_Merge.j1 kq x0_15 a2 t225 t220 (t220.length : Int) x16_1 ((rd_T36 t220 x16_1).f0) ((rd_T36 t220 x16_1).f1) ((rd_T36 t220 x16_1).f2) ((rd_T36 t220 x16_1).f3) = some r) ∧ Fc (kq ≤ k1) ∧ Fc (Kd.R k82 82 wc w.heap.size (fun _ => True) v0 x0_15) ∧ Fc (Kd.R k36 36 wc w.heap.size (fun k_ => k_ ≠ gb224) (.slice (some ad223) t220.length co10) t220) ∧ Fc (wc.heap[gb216]? = some (.cells #[(.slice A1_0 l1_0.length c1_0), (.slice A1_1 l1_1.length c1_1)] 34 (0, 0))) ∧ Fc (wc.heap[gb224]? = some (.cells #[.int .i64 ((rd_T36 t220 x16_1).f0), .string ((rd_T36 t220 x16_1).f1), .string ((rd_T36 t220 x16_1).f2), .bool ((rd_T36 t220 x16_1).f3)] 36 (0, 0))) ∧ Fc (Below w.heap.size w wc))
        case first =>
         have H := HC16.out
         clear HC16
         by_cases c22 : t226 = true
         ·subst c22
          rw [if_pos rfl] at H
          replace H := Option.bind_eq_some_iff.mp H
          obtain ⟨t227, A230, H⟩ := H
          try dsimp only at H
          have A23 := mk0 A230
          clear A230
          have H' := mk0 H
          clear H
          go_wp2_with (first | ((with_reducible refine gate_callee (f := 140) rfl ?_); refine gL_ (some 36) Try.func140 #[.slice Ao20 x0_1.length co20, .int .i64 t225, .int .i64 (wrap64 (t225 + 1))] (h := ?_); (with_reducible refine (api_Row_140.calls (fun k_ => some k_ = (.slice Ao20 x0_1.length co20 : Value).ownBlock) (.slice Ao20 x0_1.length co20) x0_1 t225 (wrap64 (t225 + 1)) t227 w _ ?side1 ?side2 A23.out).mono ?_); (case side1 => repeat (first | (with_reducible first | exact HB.out | apply bL_ | apply pN_ | apply b1_ | refine bs_ ?_ GE216.out | refine bs_ ?_ GE224.out) | exact HB.out)); (case side2 => exact Kd.R_tight rfl HO_0.out); rintro e w24 ⟨v228, rfl, ho0, hb, hkp⟩; refine ⟨_, rfl, ?_⟩; replace HO_14 := mk0 (Kd.R_mono (ok' := fun k_ => k_ ≠ gb224) (Kd.R_keptB ((Kd.R_apart' HO_14.out (Kd.R_typed HO_0.out) (by decide))) hkp (fun k_ hk_ hs_ => (hk_.2) hs_)) (fun k_ hk_ => hk_.1.1.2)); replace BK216 := mk0 (blk_kept (h_ BK216) hkp (fun hs_ => (fun e_ => (Kd.R_ne HO_0.out BK216.out (by decide)) e_) hs_)); replace BK224 := mk0 (blk_kept (h_ BK224) hkp (fun hs_ => (fun e_ => (Kd.R_ne HO_0.out BK224.out (by decide)) e_) hs_)); have HO229 := mk0 (Kd.R_mono (ok' := fun k_ => True) ho0 (fun k_ hk_ => trivial)); replace HB := mk0 (hb); clear HO_0; (try clear hb); (try clear hkp); (try clear ho0)))
          go_meet
          case rel => exact ⟨_, (t227), H', ⟨by have := HK1.out; first | omega | exact Nat.le_refl _⟩, ⟨by (with_reducible repeat (first | apply Ra_ | apply Rn_ | apply Rd_)); exact HO229.out⟩, ⟨by (with_reducible repeat (first | apply Ra_ | apply Rn_ | apply Rd_)); exact HO_14.out⟩, ⟨h_ BK216⟩, ⟨h_ BK224⟩, ⟨b_ HB⟩⟩
         ·replace c22 := Bool.eq_false_iff.mpr c22
          subst c22
          rw [if_neg (show ¬ (false = true) by decide)] at H
          have H' := mk0 H
          clear H
          go_wp2
          go_meet
          case rel => exact ⟨_, (x0_1), H', ⟨by have := HK1.out; first | omega | exact Nat.le_refl _⟩, ⟨by (with_reducible repeat (first | apply Ra_ | apply Rn_ | apply Rd_)); exact HO_0.out⟩, ⟨by (with_reducible repeat (first | apply Ra_ | apply Rn_ | apply Rd_)); exact Kd.R_mono HO_14.out (fun _ hk => hk.2)⟩, ⟨h_ BK216⟩, ⟨h_ BK224⟩, ⟨b_ HB⟩⟩
        case rest =>
         clear HC16
         try clear c11
         try clear c11b0
         try clear c12
         try clear c12b0
         try clear c13
         try clear c13b0
         try clear c14
         try clear c14b0
         try clear c14b1
         try clear c22
         try clear hcz19_0
         try clear hcz19_1
         try clear hcz19_2
         try clear hcz19_3
         try clear hcz8_0
         try clear hcz8_1
         try clear hfz19_0
         try clear hfz19_1
         try clear hfz19_2
         try clear hfz19_3
         try clear hfz8_0
         try clear hfz8_1
         try clear hx223_0
         try clear hx223_1
         try clear hx223_2
         try clear hx223_3
         try clear p223
         try clear q223
         obtain ⟨kq, x0_15, HA, HJ15, HO_0, HO_14, BK216, BK224, HB⟩ := hcut
         cases kq with
         | zero => exact absurd HA.out (by simp [view_Merge.j1])
         | succ kj15 =>
          have H := HA.out
          clear HA
          simp only [view_Merge.j1] at H
          as_aux_lemma =>
           by_cases c25 : ((rd_T36 t220 x16_1).f3) = true
           ·rw [if_pos c25] at H
            have c25b0 : ((rd_T36 t220 x16_1).f3) = true := c25
            clear c25
            have H' := mk0 H
            clear H
            have hnb26 := NB224_216.out
            have hnc26 := NB216_224.out
            obtain ⟨hcz27_0, hcz27_1, hcz27_2, hcz27_3, hfz27_0, hfz27_1, hfz27_2, hfz27_3⟩ := c4_ BK224
            go_wp2
            go_roundg kj15
            case measure => have := HK1.out; have := HJ15.out; omega
            case rel => exact ⟨(x0_15), (wrap64 (x16_1 + 1)), (by first | rfl | (simp; done) | (simp [*]; done)), H', ⟨by have := HK1.out; have := HJ15.out; omega⟩, ⟨by (with_reducible repeat (first | apply Ra_ | apply Rn_ | apply Rd_)); exact HO_0.out⟩, ⟨by (with_reducible repeat (first | apply Ra_ | apply Rn_ | apply Rd_)); exact Kd.R_mono HO_14.out (fun _ hk => trivial)⟩, ⟨h_ BK216⟩, ⟨b_ HB⟩⟩
           ·rw [if_neg c25] at H
            have c25b0 : ((rd_T36 t220 x16_1).f3) = false := by simpa using c25
            clear c25
            obtain ⟨y230, hy230⟩ : ∃ y_ : List (S82), y_ = (([(⟨((rd_T36 t220 x16_1).f1), ((rd_T36 t220 x16_1).f2)⟩ : S82)] : List (S82))) := ⟨_, rfl⟩
            replace H : ((api_Row_141.f x0_15 t225 y230).bind fun t233 => (view_Merge.l0 kj15 t233 a2 t220 (t220.length : Int) (wrap64 (x16_1 + 1)))) = some r := by first | (rw [hy230]; with_reducible exact H) | (have H2_ := (Option.bind_some _ _).symm.trans H; rw [hy230]; with_reducible exact H2_) | (have H2_ := (Option.bind_some _ _).symm.trans H; with_reducible exact H2_) | with_reducible exact H | (rw [hy230]; exact H) | exact H
            have Ny230 := mk0 hy230
            clear hy230
            replace H := Option.bind_eq_some_iff.mp H
            obtain ⟨t233, A280, H⟩ := H
            try dsimp only at H
            have A28 := mk0 A280
            clear A280
            have H' := mk0 H
            clear H
            have hnb29 := NB224_216.out
            have hnc29 := NB216_224.out
            obtain ⟨hcz30_0, hcz30_1, hcz30_2, hcz30_3, hfz30_0, hfz30_1, hfz30_2, hfz30_3⟩ := c4_ BK224
            go_wp2_with (first | ((with_reducible refine gate_dst (N := 47) rfl ?_); refine Kd.R_lit k82 _ 82 ?hg (N := 47) ?hd (xs := ([(⟨((rd_T36 t220 x16_1).f1), ((rd_T36 t220 x16_1).f2)⟩ : S82)] : List (S82))) (inner := [.string ((rd_T36 t220 x16_1).f1), .string ((rd_T36 t220 x16_1).f2)]) (ok := fun _ => True) (okp := fun _ => True) ?hr ?hp (fun _ hk => hk) trivial (Below.refl _ _) (Nat.le_refl _) (by simp) ?_; (case hd => rfl); (case hg => rfl); (case hr => first | (go_simp; done) | (go_simp; rfl)); (case hp => exact (Reps.c2 (show Kd.M k82 _ _ _ (⟨((rd_T36 t220 x16_1).f1), ((rd_T36 t220 x16_1).f2)⟩ : S82) [.string ((rd_T36 t220 x16_1).f1), .string ((rd_T36 t220 x16_1).f2)] from (k82_mkM _ _ _ (⟨((rd_T36 t220 x16_1).f1), ((rd_T36 t220 x16_1).f2)⟩ : S82) )) (Reps.none _ _))); intro v231 w31 ho32 hb hg_ hnew_; clear hg_ hnew_; (first | rw [← Ny230.out] at ho32 | (simp only [Int.reduceToNat] at ho32; rw [← Ny230.out] at ho32)); have n2_ := mk0 (Kd.R_lower (Kd.R_new' ho32 (Kd.R_lt (r_ HO_0))) (bz_ (b_ HB))); replace HO_0 := mk0 (Kd.R_elder' (r_ HO_0) (Kd.R_base ho32) hb); replace HO_14 := mk0 (Kd.R_below (r_ HO_14) hb); replace BK216 := mk0 (u_ BK216 hb); replace BK224 := mk0 (u_ BK224 hb); replace HB := mk0 (bt_ (b_ HB) hb); have HO232 := n2_; clear n2_ hb ho32; obtain ⟨Ao33, co33, eo33⟩ := Kd.R_slice HO_0.out; subst eo33; obtain ⟨Ao34, co34, eo34⟩ := Kd.R_slice HO232.out; subst eo34) | ((with_reducible refine gate_callee (f := 141) rfl ?_); refine gL_ (some 48) Try.func141 #[.slice Ao33 x0_15.length co33, .int .i64 t225, .slice Ao34 y230.length co34] (h := ?_); (with_reducible refine (api_Row_141.calls (fun k_ => some k_ = (.slice Ao33 x0_15.length co33 : Value).ownBlock) (.slice Ao33 x0_15.length co33) x0_15 t225 (fun k_ => some k_ = (.slice Ao34 y230.length co34 : Value).ownBlock) (.slice Ao34 y230.length co34) y230 t233 w _ ?side1 ?side2 ?side3 ?side4 ?side5 A28.out).mono ?_); (case side1 => repeat (first | (with_reducible first | exact HB.out | apply bL_ | apply pN_ | apply b1_ | refine bs_ ?_ GE216.out | refine bs_ ?_ GE224.out) | exact HB.out)); (case side2 => exact Kd.R_tight rfl HO_0.out); (case side3 => exact fun k_ e_ => (HO_0.out.1 k_ e_.symm).2); (case side4 => exact Kd.R_tight rfl HO232.out); (case side5 => exact fun k_ e_ => (HO232.out.1 k_ e_.symm).2); rintro e w35 ⟨v234, rfl, ho0, hb, hkp⟩; refine ⟨_, rfl, ?_⟩; replace HO_14 := mk0 (Kd.R_mono (ok' := fun k_ => k_ ≠ gb224) (Kd.R_keptB ((Kd.R_apart' (Kd.R_apart' HO_14.out (Kd.R_typed HO_0.out) (by decide)) (Kd.R_typed HO232.out) (by decide))) hkp (fun k_ hk_ hs_ => Or.elim hs_ (fun e_ => (hk_.1.2) e_) (fun e_ => (hk_.2) e_))) (fun k_ hk_ => hk_.1.1.1)); replace BK216 := mk0 (blk_kept (h_ BK216) hkp (fun hs_ => Or.elim hs_ (fun e_ => (fun e_ => (Kd.R_ne HO_0.out BK216.out (by decide)) e_) e_) (fun e_ => (fun e_ => (Kd.R_ne HO232.out BK216.out (by decide)) e_) e_))); replace BK224 := mk0 (blk_kept (h_ BK224) hkp (fun hs_ => Or.elim hs_ (fun e_ => (fun e_ => (Kd.R_ne HO_0.out BK224.out (by decide)) e_) e_) (fun e_ => (fun e_ => (Kd.R_ne HO232.out BK224.out (by decide)) e_) e_))); have HO235 := mk0 (Kd.R_mono (ok' := fun k_ => True) ho0 (fun k_ hk_ => trivial)); replace HB := mk0 (hb); clear HO232 HO_0; (try clear hb); (try clear hkp); (try clear ho0)))
            go_roundg kj15
            case measure => have := HK1.out; have := HJ15.out; omega
            case rel => exact ⟨(t233), (wrap64 (x16_1 + 1)), (by first | rfl | (simp; done) | (simp [*]; done)), H', ⟨by have := HK1.out; have := HJ15.out; omega⟩, ⟨by (with_reducible repeat (first | apply Ra_ | apply Rn_ | apply Rd_)); exact HO235.out⟩, ⟨by (with_reducible repeat (first | apply Ra_ | apply Rn_ | apply Rd_)); exact Kd.R_mono HO_14.out (fun _ hk => trivial)⟩, ⟨h_ BK216⟩, ⟨b_ HB⟩⟩
       ·rw [if_neg c14] at H
        have c14b0 : (((rd_T36 t220 x16_1).f0) == a2) = false := beq_eq_false_iff_ne.mpr c14
        have c14b1 : (((rd_T36 t220 x16_1).f0) != a2) = true := bne_iff_ne.mpr c14
        have H' := mk0 H
        clear H
        have p223 : 0 ≤ (x16_1 : Int) := of_decide_eq_true (by first | (with_reducible assumption) | assumption)
        have q223 : x16_1 < (t220.length : Int) := of_decide_eq_true (by first | (with_reducible assumption) | assumption)
        (try (obtain ⟨Aq_, cq_, eq_⟩ := Kd.R_slice HO_14.out; subst eq_))
        obtain ⟨ad223, e223, hx223_0, hx223_1, hx223_2, hx223_3⟩ := at_T36 (Kd.R_reads' HO_14.out).2.2 x16_1 p223 q223
        cases e223
        replace p223 := eq_true p223
        replace q223 := eq_true q223
        go_wp2_with (first | ((with_reducible refine gate_dst (N := 8) rfl ?_); refine bx_ (N := 8) (cs := #[.int .i64 0, .string (⟨#[]⟩ : ByteArray), .string (⟨#[]⟩ : ByteArray), .bool false]) (t := 36) (h := ?_); intro gb224 hg w36 hbox hb; have n5_ := mk0 (gz_ HB hg); have n6_ := mk0 (gz_ HB hg); have n7_ := mk0 (ne1_ BK216 hg); have n8_ := mk0 (ne2_ BK216 hg); replace HO_0 := mk0 (Kd.R_below (r_ HO_0) hb); replace HO_14 := mk0 (Kd.R_below (Kd.R_elderB (r_ HO_14) gb224 (Nat.le_of_eq hg.symm)) hb); replace BK216 := mk0 (u_ BK216 hb); replace HB := mk0 (bt_ (b_ HB) hb); have BK224 := mk0 (hbox); have GW224 := n5_; have GE224 := n6_; have NB216_224 := n7_; have NB224_216 := n8_; clear n5_ n6_ n7_ n8_ hb hbox hg; have hnb37 := NB224_216.out; have hnc37 := NB216_224.out; obtain ⟨hcz38_0, hcz38_1, hcz38_2, hcz38_3, hfz38_0, hfz38_1, hfz38_2, hfz38_3⟩ := c4_ BK224))
        go_roundg k1
        case measure => have := HK1.out; omega
        case rel => exact ⟨(x0_1), (wrap64 (x16_1 + 1)), (by first | rfl | (simp; done) | (simp [*]; done)), H', ⟨by have := HK1.out; omega⟩, ⟨by (with_reducible repeat (first | apply Ra_ | apply Rn_ | apply Rd_)); exact Kd.R_mono (Kd.R_far (p := ⟨gb224, 3, none⟩) (Kd.R_far (p := ⟨gb224, 2, none⟩) (Kd.R_far (p := ⟨gb224, 1, none⟩) (Kd.R_far (p := ⟨gb224, 0, none⟩) (Kd.R_types HO_0.out BK224.out (by decide)) (fun _ hk => hk.2) (.int .i64 ((rd_T36 t220 x16_1).f0))) (fun _ hk => hk.2) (.string ((rd_T36 t220 x16_1).f1))) (fun _ hk => hk.2) (.string ((rd_T36 t220 x16_1).f2))) (fun _ hk => hk.2) (.bool ((rd_T36 t220 x16_1).f3))) (fun _ hk => trivial)⟩, ⟨by (with_reducible repeat (first | apply Ra_ | apply Rn_ | apply Rd_)); exact Kd.R_mono (Kd.R_far (p := ⟨gb224, 3, none⟩) (Kd.R_far (p := ⟨gb224, 2, none⟩) (Kd.R_far (p := ⟨gb224, 1, none⟩) (Kd.R_far (p := ⟨gb224, 0, none⟩) (Kd.R_mono HO_14.out (fun k_ hk => (⟨hk, hk.2⟩ : _ ∧ k_ ≠ gb224))) (fun _ hk => hk.2) (.int .i64 ((rd_T36 t220 x16_1).f0))) (fun _ hk => hk.2) (.string ((rd_T36 t220 x16_1).f1))) (fun _ hk => hk.2) (.string ((rd_T36 t220 x16_1).f2))) (fun _ hk => hk.2) (.bool ((rd_T36 t220 x16_1).f3))) (fun _ hk => trivial)⟩, ⟨(fa_ (fa_ (fa_ (fa_ (h_ BK216) NB216_224.out) NB216_224.out) NB216_224.out) NB216_224.out)⟩, ⟨b_ HB⟩⟩
      ·rw [if_neg c13] at H
       exact absurd H (by simp)
     ·rw [if_neg c12] at H
      exact absurd H (by simp)
    ·rw [if_neg c11] at H
     have c11b0 : decide (x16_1 < (t220.length : Int)) = false := decide_eq_false c11
     clear c11
     obtain rfl := Option.some.inj H
     go_wp2
     go_ret
     exact ⟨_, by first | rfl | (simp [errW_none, errW_some] <;> rfl) | (simp [*, errW_none, errW_some] <;> rfl), by (with_reducible repeat (first | apply Ra_ | apply Rn_ | apply Rd_)); exact HO_0.out, b_ HB⟩

end Go.Proofs.Ytbaecdcfefmcgaa.PVrs
