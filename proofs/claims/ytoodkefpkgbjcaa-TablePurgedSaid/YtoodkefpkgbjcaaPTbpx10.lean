-- PRINTED by print.py (a twelfth state) out of the translation. Not trusted: Lean checks it.
import Derived.Test.YtoodkefpkgbjcaaPTbpx0
import Derived.Test.YtoodkefpkgbjcaaPTbpx6
import Derived.Test.YtoodkefpkgbjcaaPTbpx7
import Derived.Test.YtoodkefpkgbjcaaPTbpx9
import Derived.Test.YtoodkefpkgbjcaaShelfP
namespace Go.Proofs.Ytoodkefpkgbjcaa.PTbp
open Go.RowKit Go.Proofs.YtoodkefpkgbjcaaW.PrintWords Go.Proofs.YtoodkefpkgbjcaaW.PrintLast Go.Proofs.YtoodkefpkgbjcaaW.PrintMore
attribute [local go_sem] max2_int min2_int max_two min_two max_three min_three max_four min_four   -- for this text's walks alone
set_option linter.unusedVariables false
set_option linter.unusedSimpArgs false

/-! ### api_Chain_string: function 164 (by hand) -/
def api_Chain_string.cmp (a b : ByteArray) : Int := Lib.compareBytes a.data.toList b.data.toList
def api_Chain_string.bs (l : List (S30)) (k : ByteArray) : Nat → Nat → Nat → Nat
  | 0, i, _ => i
  | f + 1, i, j => if i < j then (if api_Chain_string.cmp (rd_T30 l (((i + j) / 2 : Nat) : Int)).f0 k < 0 then api_Chain_string.bs l k f ((i + j) / 2 + 1) j else api_Chain_string.bs l k f i ((i + j) / 2)) else i
def api_Chain_string.f (l0 : List (S30)) (a1 : ByteArray) : Option (Int × Bool) :=
  some ((api_Chain_string.bs l0 a1 l0.length 0 l0.length : Nat), decide (api_Chain_string.bs l0 a1 l0.length 0 l0.length < l0.length) && (api_Chain_string.cmp (rd_T30 l0 ((api_Chain_string.bs l0 a1 l0.length 0 l0.length : Nat) : Int)).f0 a1 == 0))
theorem api_Chain_string.clo (s : ByteArray) (A : Option Addr) (n c : Nat) (k : ByteArray) (W : World) : Calls Try.prog 165 #[.agg #[.string s, .slice A n c], .string k] W fun e W' => e = .returned (.int .i64 (api_Chain_string.cmp s k)) ∧ Below W.heap.size W W' := by
  have hcmp := fun W' => Go.Proofs.Any.strings_Compare Try.strCmp s k W'
  change ∀ W', Calls Try.prog 166 _ _ _ at hcmp
  unfold api_Chain_string.cmp
  generalize Lib.compareBytes s.data.toList k.data.toList = q at hcmp ⊢
  have HB := Aside0.mk (Below.refl W.heap.size W)
  go_enter Try.func165, Try.ntmps165
  go_wp2_with (first | (go_at_call 166; refine (hcmp _).mono ?_; rintro e w' ⟨rfl, rfl⟩) | go_in)
  go_ret
  exact ⟨rfl, by repeat (first | (with_reducible first | exact HB.out | apply bL_ | apply pN_ | apply b1_) | exact HB.out)⟩
set_option maxHeartbeats 4000000 in
set_option maxRecDepth 100000 in
theorem api_Chain_string.calls (A0 : Option Addr) (c0 : Nat) (l0 : List (S30)) (a1 : ByteArray) (r1 : Int) (r2 : Bool) (w : World) (hr0 : Kd.C k30 w A0 l0.length l0) (hc0 : l0.length ≤ c0) (h : api_Chain_string.f l0 a1 = some (r1, r2)) :
    Calls Try.prog 164 #[.slice A0 l0.length c0, .string a1, .func (Fn.func 165) #[] #[]] w fun e w' => e = .returned (.tuple #[.int .i64 r1, .bool r2]) ∧ Below w.heap.size w w' := by
  have hlen := hr0.2.1
  have eg : ∀ args w, (callFunc 165 args).run Try.prog w = .ok (.enter 165 args) w := enters_of Try.func165 (by kernel_rfl) rfl
  have HR0 := Aside0.mk hr0
  have HC0 := Aside0.mk hc0
  have HL := Aside0.mk hlen
  have HH := Aside0.mk h
  clear hr0 hc0 h hlen
  have HP := Aside0.mk (api_Chain_string.clo)
  have HB := Aside0.mk (Below.refl w.heap.size w)
  go_enter Try.func164, Try.ntmps164
  go_wp2
  go_loopg [9, 10] l0.length (fun kq v9 v10 w' => ∃ (i j : Nat), v9 = .int .i64 i ∧ v10 = .int .i64 j ∧ Aside0 (i ≤ j ∧ j ≤ l0.length) ∧ Aside0 (j - i ≤ kq) ∧ Aside0 (api_Chain_string.bs l0 a1 kq i j = api_Chain_string.bs l0 a1 l0.length 0 l0.length) ∧ Aside0 (Below w.heap.size w w'))
  case atStart => exact ⟨0, l0.length, rfl, rfl, ⟨by omega, by omega⟩, ⟨by omega⟩, ⟨rfl⟩, HB⟩
  case round =>
    clear HB
    obtain ⟨i, j, rfl, rfl, HI, HK, HS, HB⟩ := hrel
    by_cases hij : i < j
    · cases gk with
      | zero => exact absurd HK.out (by omega)
      | succ k1 =>
        have hi2 := HI.out
        have hl2 := HL.out
        have hm : wrap64 (IntKind.u64.wrap (wrap64 ((i : Int) + (j : Int))) / 2) = (((i + j) / 2 : Nat) : Int) := by
          have e : IntKind.u64.wrap (wrap64 ((i : Int) + (j : Int))) = (i : Int) + (j : Int) := by
            simp only [IntKind.wrap, IntKind.signed, IntKind.bits]
            unfold wrap64
            simp
            omega
          rw [e]
          unfold wrap64
          omega
        obtain ⟨m, hmd⟩ : ∃ m, m = (i + j) / 2 := ⟨_, rfl⟩
        rw [← hmd] at hm
        have p200 : (0:Int) ≤ (m : Int) := by omega
        have q200 : (m:Int) < (l0.length : Int) := by omega
        obtain ⟨ad, A1, c1, e1, hx0, hx1, hl1, hi1⟩ := at_T30 HR0.out (m:Int) p200 q200
        cases e1
        replace hx0 := (HB.out.cell (World.block_lt_of_cell? w _ hx0)).trans hx0
        replace hx1 := (HB.out.cell (World.block_lt_of_cell? w _ hx1)).trans hx1
        have hcall := HP.out (rd_T30 l0 (m : Int)).f0 A1 (rd_T30 l0 (m : Int)).f1.length c1 a1 wr
        have HM := Aside0.mk hmd
        have HJ := Aside0.mk hij
        clear hi1 hl1 hi2 hl2 hmd
        simp only [Int.toNat_natCast] at hx0 hx1
        go_wp2_with ((with_reducible refine hcall.mono ?_); rintro e w' ⟨rfl, hb'⟩)
        all_goals go_roundg k1
        case measure => omega
        case measure => omega
        all_goals rename_i hcm
        all_goals have hi2 := HI.out
        all_goals have hl2 := HL.out
        all_goals have hm2 := HM.out
        all_goals have hj2 := HJ.out
        all_goals have hk2 := HK.out
        all_goals have hs2 := HS.out
        · refine ⟨m + 1, j, ?_, rfl, ⟨by omega, by omega⟩, ⟨by omega⟩, ⟨?_⟩, ⟨HB.out.trans (hb'.mono HB.out.size)⟩⟩
          · congr 1
            unfold wrap64
            omega
          · rw [← hs2]
            show _ = api_Chain_string.bs l0 a1 (k1 + 1) i j
            rw [api_Chain_string.bs, if_pos hij, ← hm2, if_pos hcm]
        · refine ⟨i, m, rfl, rfl, ⟨by omega, by omega⟩, ⟨by omega⟩, ⟨?_⟩, ⟨HB.out.trans (hb'.mono HB.out.size)⟩⟩
          rw [← hs2]
          show _ = api_Chain_string.bs l0 a1 (k1 + 1) i j
          rw [api_Chain_string.bs, if_pos hij, ← hm2, if_neg (by omega)]
    · have hi2 := HI.out
      obtain rfl : i = j := by omega
      have hbs : api_Chain_string.bs l0 a1 gk i i = i := by cases gk <;> simp [api_Chain_string.bs]
      have hf := HH.out
      unfold api_Chain_string.f at hf
      rw [← HS.out, hbs] at hf
      simp only [Option.some.injEq, Prod.mk.injEq] at hf
      obtain ⟨rfl, rfl⟩ := hf
      clear hbs
      by_cases hi : i < l0.length
      · have p200 : (0:Int) ≤ (i : Int) := by omega
        have q200 : (i:Int) < (l0.length : Int) := by omega
        obtain ⟨ad, A1, c1, e1, hx0, hx1, hl1, hi1⟩ := at_T30 HR0.out (i:Int) p200 q200
        cases e1
        replace hx0 := (HB.out.cell (World.block_lt_of_cell? w _ hx0)).trans hx0
        replace hx1 := (HB.out.cell (World.block_lt_of_cell? w _ hx1)).trans hx1
        have hcall := HP.out (rd_T30 l0 (i : Int)).f0 A1 (rd_T30 l0 (i : Int)).f1.length c1 a1 wr
        clear hi1 hl1 hi2
        simp only [Int.toNat_natCast] at hx0 hx1
        go_wp2_with ((with_reducible refine hcall.mono ?_); rintro e w' ⟨rfl, hb'⟩)
        go_ret2
        exact ⟨by simp [hi], HB.out.trans (hb'.mono HB.out.size)⟩
      · go_wp2
        go_ret2
        exact ⟨by simp [hi], HB.out⟩


/-! ### table_seek: function 136 -/
def table_seek.f (l0_0 : List (S30)) (a1 : ByteArray) : Option (Int × Bool) := (api_Chain_string.f l0_0 a1).bind fun bt255 => (some (bt255.1, bt255.2))
set_option maxHeartbeats 8000000 in
set_option maxRecDepth 100000 in
theorem table_seek.calls (A0_0 : Option Addr) (c0_0 : Nat) (l0_0 : List (S30)) (a1 : ByteArray) (r1 : Int) (r2 : Bool) (w : World) (hr0_0 : Kd.C k30 w A0_0 l0_0.length l0_0) (hc0_0 : l0_0.length ≤ c0_0) (h : table_seek.f l0_0 a1 = some (r1, r2)) :
  Calls Try.prog 136 #[.agg #[.slice A0_0 l0_0.length c0_0], .string a1] w fun e w' => e = .returned (.tuple #[.int .i64 r1, .bool r2]) ∧ Below w.heap.size w w' := by
 have hu79 := Try.underlying79
 have HR0_0 := mk0 hr0_0
 have HC0_0 := mk0 hc0_0
 clear hr0_0 hc0_0
 have HB := mk0 (Below.refl w.heap.size w)
 have H : ((api_Chain_string.f l0_0 a1).bind fun bt255 => (some (bt255.1, bt255.2))) = some (r1, r2) := h
 clear h
 replace H := Option.bind_eq_some_iff.mp H
 obtain ⟨⟨t255, t256⟩, A30, H⟩ := H
 try dsimp only at H
 have A3 := mk0 A30
 clear A30
 simp only [Option.some.injEq, Prod.mk.injEq] at H
 obtain ⟨rfl, rfl⟩ := H
 go_enter Try.func136, Try.ntmps136
 go_wp2_with (first | ((with_reducible refine gate_dst (N := 2) rfl ?_); refine bx_ (N := 2) (cs := #[.slice A0_0 l0_0.length c0_0]) (t := 79) (h := ?_); intro gb254 hg w4 hbox hb; have n2_ := mk0 (gz_ HB hg); have n3_ := mk0 (gz_ HB hg); replace HB := mk0 (bt_ (b_ HB) hb); have BK254 := mk0 (hbox); have GW254 := n2_; have GE254 := n3_; clear n2_ n3_ hb hbox hg; obtain ⟨hcz5_0, hfz5_0⟩ := c1_ BK254) | ((with_reducible refine gate_callee (f := 164) rfl ?_); refine gL_ (some 9) Try.func164 #[.slice A0_0 l0_0.length c0_0, .string a1, .func (Fn.func 165) #[] #[]] (h := ?_); (with_reducible refine (api_Chain_string.calls _ _ l0_0 a1  t255 t256 _ ?side1 ?side2 A3.out).mono ?_); (case side1 => exact cb_ HR0_0 HB); (case side2 => exact HC0_0.out); rintro e w6 ⟨rfl, hb⟩; refine ⟨_, rfl, ?_⟩; replace BK254 := mk0 (u_ BK254 hb); replace HB := mk0 (bt_ (b_ HB) hb); (try clear hb)))
 go_ret2
 exact ⟨by first | rfl | (simp [errW_none, errW_some] <;> rfl) | (simp [*, errW_none, errW_some] <;> rfl), b_ HB⟩

-- NOT PRINTED: function 167 (api_Chain_167)

-- NOT PRINTED: function 189 (api_Chain_189)

-- NOT PRINTED: function 168 (api_Chain_168)

/-! ### api_Chain_137: function 137 (by hand) -/
open HCopy in
set_option maxHeartbeats 2000000 in
set_option maxRecDepth 100000 in
/-- There is room, and the place is not the end. -/
theorem api_Chain_137.rroom (g cap n i : Nat) (cur : Array Value) (inner xs : List Value) (g2 c2 : Nat) (cur2 : Array Value) (w : World)
    (hg : w.heap[g]? = some (.cells cur 30 (0, 0))) (hg2 : w.heap[g2]? = some (.cells cur2 30 (0, 0))) (hne : g2 ≠ g) (hi : i < n) (hroom : n + 1 ≤ cap) (hcm : cap ≤ maxLen)
    (hsz : cur.size = cap * 2) (hin : cur.toList.take (n * 2) = inner) (hsz2 : 2 ≤ cur2.size) (hin2 : cur2.toList.take 2 = xs) (h1 : ∀ v ∈ inner, v.oneCell' = true) (h2 : ∀ v ∈ xs, v.oneCell' = true) :
    Calls Try.prog 137 #[.slice (some ⟨g, 0, none⟩) n cap, .int .i64 i, .slice (some ⟨g2, 0, none⟩) 1 c2] w fun e w' =>
      ∃ cur' : Array Value, e = .returned (.slice (some ⟨g, 0, none⟩) (n + 1) cap) ∧ w' = w.drew.setRow g cur' ∧ cur'.size = cap * 2 ∧ cur'.toList.take ((n + 1) * 2) = inner.take (i * 2) ++ xs ++ inner.drop (i * 2) := by
  have hlen : inner.length = n * 2 := by rw [← hin, List.length_take, Array.length_toList, hsz]; omega
  have hxl : xs.length = 2 := by rw [← hin2, List.length_take, Array.length_toList]; omega
  have hmx : cap ≤ 9223372036854775807 := by unfold maxLen at hcm; omega
  have hu := Try.underlying22
  have hs : (Try.prog.info? 30).map (·.size) = some 2 := by
    have h := info30
    cases hq : Try.prog.info? 30 with
    | none => rw [hq] at h; simp at h
    | some i => rw [hq] at h; simp at h; simp [h.2.1]
  have hdl : (inner.drop (i * 2)).length = (n - i) * 2 := by rw [List.length_drop, hlen, Nat.sub_mul]
  -- the first copy
  obtain ⟨cur1, hcur1⟩ : ∃ c : Array Value, c = (cur.toList.take ((i + 1) * 2) ++ inner.drop (i * 2) ++ cur.toList.drop ((i + 1) * 2 + (inner.drop (i * 2)).length)).toArray := ⟨_, rfl⟩
  have hcp1 : ∀ ty dc sc, (Builtin.copy_ #[22, 22] ty #[.slice (some ⟨g, (i + 1) * 2, none⟩) (n - i) dc, .slice (some ⟨g, i * 2, none⟩) (n + 1 - i) sc]).run Try.prog w.drew = .ok (goInt (n - i : Nat)) (w.drew.setRow g cur1) := fun ty dc sc => by
    rw [hcur1]
    refine run_copy_k w.drew 22 22 ty 30 g ((i + 1) * 2) (n - i) dc ⟨g, i * 2, none⟩ (n + 1 - i) sc cur 30 (inner.drop (i * 2)) 2 (n - i) hu hs hg (by show _ = min _ _; omega) hdl (fun j v hj => ?_) (by rw [hdl, hsz]; omega) (fun v hv => h1 v (List.mem_of_mem_drop hv))
    rw [List.getElem?_drop, ← hin] at hj
    have hjl : i * 2 + j < n * 2 := by
      rcases Nat.lt_or_ge (i * 2 + j) (n * 2) with h | h
      · exact h
      · rw [List.getElem?_eq_none (by rw [List.length_take]; omega)] at hj; cases hj
    rw [List.getElem?_take_of_lt hjl] at hj
    rw [Addr.add_lit]
    exact (cell_of_row w g _ cur 30 (0, 0) hg).trans (by rw [← hj]; simp)
  have hsz1 : cur1.size = cap * 2 := by
    rw [hcur1]
    simp only [List.size_toArray, List.length_append, List.length_take, List.length_drop, Array.length_toList, hlen, hsz]
    omega
  have hW1 : (w.drew.setRow g cur1).heap[g]? = some (.cells cur1 30 (0, 0)) := setRow_heap w.drew g cur _ 30 _ hg
  have hW2 : (w.drew.setRow g cur1).heap[g2]? = some (.cells cur2 30 (0, 0)) := (setRow_other w.drew g g2 cur1 hne).trans hg2
  obtain ⟨W1, hW⟩ : ∃ W1, W1 = w.drew.setRow g cur1 := ⟨_, rfl⟩
  obtain ⟨cur', hcur'⟩ : ∃ c : Array Value, c = (cur1.toList.take (i * 2) ++ xs ++ cur1.toList.drop (i * 2 + xs.length)).toArray := ⟨_, rfl⟩
  have hcp2 : ∀ ty dc sc, (Builtin.copy_ #[22, 22] ty #[.slice (some ⟨g, i * 2, none⟩) (n + 1 - i) dc, .slice (some ⟨g2, 0, none⟩) 1 sc]).run Try.prog W1 = .ok (goInt (1 : Nat)) (W1.setRow g cur') := fun ty dc sc => by
    rw [hcur', hW]
    refine run_copy_k _ 22 22 ty 30 g (i * 2) (n + 1 - i) dc ⟨g2, 0, none⟩ 1 sc cur1 30 xs 2 1 hu hs hW1 (by show _ = min _ _; omega) (by rw [hxl]) (fun j v hj => ?_) (by rw [hxl, hsz1]; omega) h2
    rw [← hin2] at hj
    have hjl : j < 2 := by
      rcases Nat.lt_or_ge j 2 with h | h
      · exact h
      · rw [List.getElem?_eq_none (by rw [List.length_take]; omega)] at hj; cases hj
    rw [List.getElem?_take_of_lt hjl] at hj
    rw [Addr.add_lit]
    exact (cell_of_row _ g2 _ cur2 30 (0, 0) hW2).trans (by rw [← hj]; simp)
  have hov : ∀ lb cb, (callFunc 167 #[.slice (some ⟨g2, 0, none⟩) 1 c2, .slice (some ⟨g, (i + 1) * 2, none⟩) lb cb]).run Try.prog w = .ok (.value (.bool false)) w := fun lb cb => by
    rw [run_callFunc_extern Try.func167 (by kernel_rfl) (by kernel_rfl) (by kernel_rfl) (e := Extern.SlicesOverlaps.overlaps #[22, 22] #[4]) (by kernel_rfl),
      Lib.run_overlaps_apart w 22 4 30 hu 2 (fun w => by kernel_rfl) ⟨g2, 0, none⟩ ⟨g, (i + 1) * 2, none⟩ 1 c2 lb cb hne 30 30 cur2.size cur.size (by simp [World.shape?, hg2]) (by simp [World.shape?, hg]) (by omega) (by simp [World.frozen?, hg2]) (by simp [World.frozen?, hg2])]
    rfl
  have hfin : cur'.size = cap * 2 ∧ cur'.toList.take ((n + 1) * 2) = inner.take (i * 2) ++ xs ++ inner.drop (i * 2) := by
    constructor
    · rw [hcur']
      simp only [List.size_toArray, List.length_append, List.length_take, List.length_drop, Array.length_toList, hxl, hsz1]
      omega
    · have e1 : cur1.toList.take (i * 2) = inner.take (i * 2) := by
        rw [hcur1, ← hin]
        simp only [List.append_assoc]
        rw [List.take_append_of_le_length (by rw [List.length_take, Array.length_toList, hsz]; omega), List.take_take, List.take_take]
        congr 1
        omega
      have e2 : (cur1.toList.drop (i * 2 + 2)).take ((n - i) * 2) = inner.drop (i * 2) := by
        have h3 : (cur.toList.take ((i + 1) * 2)).length = i * 2 + 2 := by rw [List.length_take, Array.length_toList, hsz]; omega
        rw [hcur1]
        simp only [List.append_assoc]
        rw [← h3, List.drop_left, ← hdl, List.take_left]
      rw [hcur']
      simp only [List.append_assoc]
      have h4 : (cur1.toList.take (i * 2)).length = i * 2 := by rw [List.length_take, Array.length_toList, hsz1]; omega
      have e3 : (n + 1) * 2 = (cur1.toList.take (i * 2)).length + (xs.length + (n - i) * 2) := by rw [h4, hxl]; omega
      rw [e3, List.take_length_add_append, List.take_length_add_append, hxl, e2, e1]
  have HF := Aside0.mk hfin
  have HE := Aside0.mk (show W1.setRow g cur' = w.drew.setRow g cur' by rw [hW, setRow_setRow])
  rw [← hW] at hcp1
  clear hfin hcur' hW hW1 hW2 hsz1 hcur1 hdl hlen hxl hsz hin hsz2 hin2 h1 h2 hg hg2 hcm
  have hin' : (i : Int) ≤ (n : Int) + 1 := by omega
  have hb1 : ¬ ((i : Int) = (n : Int)) := by omega
  have hb2 : ¬ ((n : Int) + 1 > (cap : Int)) := by omega
  have hb7 : (0 : Int) ≤ (i : Int) + 1 := by omega
  have hb8 : i ≤ n := by omega
  have hb9 : i ≤ n + 1 := by omega
  have hb4 : ¬ (cap = i) := by omega
  have hb5 : ¬ (cap = i + 1) := by omega
  have hw1 : IntKind.i64.wrap ((i : Int) + 1) = (i : Int) + 1 := by rw [IntKind.wrap_i64]; omega
  have htn : ((i : Int) + 1).toNat = i + 1 := by omega
  go_enter Try.func137, Try.ntmps137
  go_wp2_with (simp only [hov])
  go_region_law (refine step_copy_run rfl _ _ 22 22 rfl _ _ (by simp [Act.eval, Act.put]) (by simp [Act.eval, Act.put]) (hcp1 _ _ _) ?_)
  go_wp2_with (at_builtin; refine wpList_copy_run _ rfl _ _ 22 22 rfl _ _ rfl rfl (hcp2 _ _ _) ?_)
  go_ret
  exact ⟨cur', rfl, HE.out, HF.out.1, HF.out.2⟩
open HCopy in
set_option maxHeartbeats 2000000 in
set_option maxRecDepth 100000 in
/-- There is no room, and the place is not the end: a new row. -/
theorem api_Chain_137.rgrow (g cap n i : Nat) (cur : Array Value) (inner xs : List Value) (g2 c2 : Nat) (cur2 : Array Value) (w : World)
    (hg : w.heap[g]? = some (.cells cur 30 (0, 0))) (hg2 : w.heap[g2]? = some (.cells cur2 30 (0, 0))) (hi : i < n) (hnc : n ≤ cap) (hroom : cap < n + 1) (hbig : n + 1 < 3518437208883)
    (hsz : cur.size = cap * 2) (hin : cur.toList.take (n * 2) = inner) (hsz2 : 2 ≤ cur2.size) (hin2 : cur2.toList.take 2 = xs) (h1 : ∀ v ∈ inner, v.oneCell' = true) (h2 : ∀ v ∈ xs, v.oneCell' = true) :
    Calls Try.prog 137 #[.slice (some ⟨g, 0, none⟩) n cap, .int .i64 i, .slice (some ⟨g2, 0, none⟩) 1 c2] w fun e w' =>
      ∃ (cap' : Nat) (cur' : Array Value), e = .returned (.slice (some ⟨w.heap.size, 0, none⟩) (n + 1) cap') ∧ n + 1 ≤ cap' ∧ cap' ≤ maxLen ∧ w'.heap[w.heap.size]? = some (.cells cur' 30 (0, 0)) ∧ Below w.heap.size w w' ∧ cur'.size = cap' * 2 ∧ cur'.toList.take ((n + 1) * 2) = inner.take (i * 2) ++ xs ++ inner.drop (i * 2) := by
  have hlen : inner.length = n * 2 := by rw [← hin, List.length_take, Array.length_toList, hsz]; omega
  have hxl : xs.length = 2 := by rw [← hin2, List.length_take, Array.length_toList]; omega
  have hu := Try.underlying22
  have hs : (Try.prog.info? 30).map (·.size) = some 2 := by
    have h := info30
    cases hq : Try.prog.info? 30 with
    | none => rw [hq] at h; simp at h
    | some i => rw [hq] at h; simp at h; simp [h.2.1]
  have hdl : (inner.drop (i * 2)).length = (n - i) * 2 := by rw [List.length_drop, hlen, Nat.sub_mul]
  have hgl : g < w.heap.size := blk_lt hg
  have hg2l : g2 < w.heap.size := blk_lt hg2
  obtain ⟨i0, hi0, hzz⟩ := Option.map_eq_some_iff.1 info30
  simp only [Prod.mk.injEq] at hzz
  obtain ⟨cap', hc1, hc2, happ⟩ := run_append_zeros_grow (P := Try.prog) w 22 3 22 30 i0 _ 2 40 hu Try.underlying3 hi0 hzz.1 hzz.2.1 hzz.2.2 (by rfl) (by omega) (by omega) g i cap cur hg (by rw [hsz]; omega) .i64 (n + 1 - i) (by omega) (by omega) (by omega)
  rw [show i + (n + 1 - i) = n + 1 by omega] at happ
  obtain ⟨cur0, hcur0⟩ : ∃ c : Array Value, c = ((cur.toList.take (i * 2)).toArray ++ Builtin.zeroCells ((.agg #[(.string ⟨#[]⟩), (.slice none 0 0)]) : Value).cells (n + 1 - i) ++ Builtin.zeroCells ((.agg #[(.string ⟨#[]⟩), (.slice none 0 0)]) : Value).cells (cap' - (i + (n + 1 - i)))) := ⟨_, rfl⟩
  have hsz0 : cur0.size = cap' * 2 := by
    rw [hcur0]
    simp only [Array.size_append, List.size_toArray, List.length_take, Array.length_toList, hsz, size_zeroCells, Value.cells, List.length_cons, List.length_nil]
    omega
  have ht0 : cur0.toList.take (i * 2) = inner.take (i * 2) := by
    rw [hcur0, ← hin]
    simp only [Array.toList_append, List.append_assoc]
    rw [List.take_append_of_le_length (by rw [List.length_take, Array.length_toList, hsz]; omega), List.take_take, List.take_take]
    congr 1
    omega
  rw [show cap' - (n + 1) = cap' - (i + (n + 1 - i)) by omega, ← hcur0] at happ
  obtain ⟨W0, hW0⟩ : ∃ W0, W0 = w.drew.alloc (.cells cur0 30) := ⟨_, rfl⟩
  have hB0 : Below w.heap.size w W0 := by rw [hW0]; exact below_alloc (below_drew (Below.refl _ _)) _
  have hh0 : W0.heap[w.heap.size]? = some (.cells cur0 30 (0, 0)) := by rw [hW0]; exact heap_alloc_new w.drew _
  have hg0 : W0.heap[g]? = some (.cells cur 30 (0, 0)) := (hB0.block g hgl).trans hg
  have hg20 : W0.heap[g2]? = some (.cells cur2 30 (0, 0)) := (hB0.block g2 hg2l).trans hg2
  -- the first copy: v
  obtain ⟨cur1, hcur1⟩ : ∃ c : Array Value, c = (cur0.toList.take (i * 2) ++ xs ++ cur0.toList.drop (i * 2 + xs.length)).toArray := ⟨_, rfl⟩
  have hcp1 : ∀ ty dc sc, (Builtin.copy_ #[22, 22] ty #[.slice (some ⟨w.heap.size, i * 2, none⟩) (n + 1 - i) dc, .slice (some ⟨g2, 0, none⟩) 1 sc]).run Try.prog W0 = .ok (goInt (1 : Nat)) (W0.setRow w.heap.size cur1) := fun ty dc sc => by
    rw [hcur1]
    refine run_copy_k _ 22 22 ty 30 w.heap.size (i * 2) (n + 1 - i) dc ⟨g2, 0, none⟩ 1 sc cur0 30 xs 2 1 hu hs hh0 (by show _ = min _ _; omega) (by rw [hxl]) (fun j v hj => ?_) (by rw [hxl, hsz0]; omega) h2
    rw [← hin2] at hj
    have hjl : j < 2 := by
      rcases Nat.lt_or_ge j 2 with h | h
      · exact h
      · rw [List.getElem?_eq_none (by rw [List.length_take]; omega)] at hj; cases hj
    rw [List.getElem?_take_of_lt hjl] at hj
    rw [Addr.add_lit]
    exact (cell_of_row _ g2 _ cur2 30 (0, 0) hg20).trans (by rw [← hj]; simp)
  have hsz1 : cur1.size = cap' * 2 := by
    rw [hcur1]
    simp only [List.size_toArray, List.length_append, List.length_take, List.length_drop, Array.length_toList, hxl, hsz0]
    omega
  obtain ⟨W1, hW1⟩ : ∃ W1, W1 = W0.setRow w.heap.size cur1 := ⟨_, rfl⟩
  have hB1 : Below w.heap.size w W1 := by rw [hW1]; exact below_setRow hB0 (Nat.le_refl _) _
  have hh1 : W1.heap[w.heap.size]? = some (.cells cur1 30 (0, 0)) := by rw [hW1]; exact setRow_heap W0 _ cur0 _ 30 _ hh0
  have hg1 : W1.heap[g]? = some (.cells cur 30 (0, 0)) := (hB1.block g hgl).trans hg
  rw [← hW1] at hcp1
  -- the second one: what stood from i on
  obtain ⟨cur', hcur'⟩ : ∃ c : Array Value, c = (cur1.toList.take ((i + 1) * 2) ++ inner.drop (i * 2) ++ cur1.toList.drop ((i + 1) * 2 + (inner.drop (i * 2)).length)).toArray := ⟨_, rfl⟩
  have hcp2 : ∀ ty dc sc, (Builtin.copy_ #[22, 22] ty #[.slice (some ⟨w.heap.size, (i + 1) * 2, none⟩) (n - i) dc, .slice (some ⟨g, i * 2, none⟩) (n - i) sc]).run Try.prog W1.drew = .ok (goInt (n - i : Nat)) (W1.drew.setRow w.heap.size cur') := fun ty dc sc => by
    rw [hcur']
    refine run_copy_k W1.drew 22 22 ty 30 w.heap.size ((i + 1) * 2) (n - i) dc ⟨g, i * 2, none⟩ (n - i) sc cur1 30 (inner.drop (i * 2)) 2 (n - i) hu hs hh1 (by show _ = min _ _; omega) hdl (fun j v hj => ?_) (by rw [hdl, hsz1]; omega) (fun v hv => h1 v (List.mem_of_mem_drop hv))
    rw [List.getElem?_drop, ← hin] at hj
    have hjl : i * 2 + j < n * 2 := by
      rcases Nat.lt_or_ge (i * 2 + j) (n * 2) with h | h
      · exact h
      · rw [List.getElem?_eq_none (by rw [List.length_take]; omega)] at hj; cases hj
    rw [List.getElem?_take_of_lt hjl] at hj
    rw [Addr.add_lit]
    exact (cell_of_row W1.drew g _ cur 30 (0, 0) hg1).trans (by rw [← hj]; simp)
  have hsz' : cur'.size = cap' * 2 := by
    rw [hcur']
    simp only [List.size_toArray, List.length_append, List.length_take, List.length_drop, Array.length_toList, hlen, hsz1]
    omega
  have hfin : cur'.toList.take ((n + 1) * 2) = inner.take (i * 2) ++ xs ++ inner.drop (i * 2) := by
    have h4 : (cur1.toList.take ((i + 1) * 2)) = inner.take (i * 2) ++ xs := by
      have h5 : (cur0.toList.take (i * 2)).length = i * 2 := by rw [List.length_take, Array.length_toList, hsz0]; omega
      rw [hcur1]
      simp only [List.append_assoc]
      rw [show (i + 1) * 2 = (cur0.toList.take (i * 2)).length + xs.length by rw [h5, hxl]; omega, List.take_length_add_append, List.take_left, ht0]
    have h6 : (inner.take (i * 2) ++ xs).length = (i + 1) * 2 := by rw [List.length_append, List.length_take, hlen, hxl]; omega
    rw [hcur', h4]
    simp only [List.append_assoc]
    rw [← List.append_assoc, show (n + 1) * 2 = (inner.take (i * 2) ++ xs).length + (inner.drop (i * 2)).length by rw [h6, hdl]; omega, List.take_length_add_append, List.take_left, List.append_assoc]
  obtain ⟨W2, hW2⟩ : ∃ W2, W2 = W1.drew.setRow w.heap.size cur' := ⟨_, rfl⟩
  have HF := Aside0.mk (show W2.heap[w.heap.size]? = some (.cells cur' 30 (0, 0)) ∧ Below w.heap.size w W2 ∧ cur'.size = cap' * 2 ∧ cur'.toList.take ((n + 1) * 2) = inner.take (i * 2) ++ xs ++ inner.drop (i * 2) from
    ⟨by rw [hW2]; exact setRow_heap W1.drew _ cur1 _ 30 _ hh1, by rw [hW2]; exact below_setRow (below_drew hB1) (Nat.le_refl _) _, hsz', hfin⟩)
  have HC := Aside0.mk (And.intro hc1 hc2)
  rw [← hW2] at hcp2
  rw [← hW0] at happ
  have hcx : cap ≤ 9223372036854775807 := by omega
  have hcy : cap' ≤ 9223372036854775807 := by unfold maxLen at hc2; omega
  have hcz : i + 1 ≤ cap' := by omega
  clear hfin hcur' hW0 hW1 hW2 hsz1 hcur1 hdl hlen hxl hsz hin hsz2 hin2 h1 h2 hg hg2 hc2 hB0 hh0 hg0 hg20 hB1 hh1 hg1 hsz' hsz0 ht0 hcur0 hi0 hzz
  have hin' : (i : Int) ≤ (n : Int) + 1 := by omega
  have hb1 : ¬ ((i : Int) = (n : Int)) := by omega
  have hb7 : (0 : Int) ≤ (i : Int) + 1 := by omega
  have hb8 : i ≤ n := by omega
  have hb9 : i ≤ n + 1 := by omega
  have hb4 : ¬ (cap = i) := by omega
  have hz3 : (cap : Int) < (n : Int) + 1 := by omega
  have hic : i ≤ cap := by omega
  have hb5 : ¬ (cap' = i) := by omega
  have hb6 : ¬ (cap' = i + 1) := by omega
  have hsub : (n : Int) + 1 - (i : Int) = ((n + 1 - i : Nat) : Int) := by omega
  have hw1 : IntKind.i64.wrap ((i : Int) + 1) = (i : Int) + 1 := by rw [IntKind.wrap_i64]; omega
  have htn : ((i : Int) + 1).toNat = i + 1 := by omega
  go_enter Try.func137, Try.ntmps137
  go_wp2_with (first
    | (at_builtin; refine wpList_append_run _ rfl _ _ 22 3 rfl _ _ rfl rfl _ _ happ ?_)
    | (at_builtin; refine wpList_copy_run _ rfl _ _ 22 22 rfl _ _ rfl rfl (hcp1 _ _ _) ?_)
    | (at_builtin; refine wpList_copy_run _ rfl _ _ 22 22 rfl _ _ rfl rfl (hcp2 _ _ _) ?_))
  go_region_law (refine step_copy_run rfl _ _ 22 22 rfl _ _ (by simp [Act.eval, Act.put]) (by simp [Act.eval, Act.put]) (hcp2 _ _ _) ?_)
  go_wp2
  go_ret
  exact ⟨cap', cur', rfl, by have := HC.out.1; omega, HC.out.2, HF.out.1, HF.out.2.1, HF.out.2.2.1, HF.out.2.2.2⟩
def api_Chain_137.rf (l0 : List (List Value)) (a1 : Int) (l2 : List (List Value)) : Option (List (List Value)) := if l2.length = 1 ∧ 0 ≤ a1 ∧ a1 ≤ l0.length ∧ l0.length + 1 < 3518437208883 then some (l0.take a1.toNat ++ l2 ++ l0.drop a1.toNat) else none
theorem api_Chain_137.rone {w : World} {base : Nat} {ok : Nat → Prop} {l : List (List Value)} {cs : List Value} (h : Reps ((Kd.raw 2).M w base ok) 2 l cs) : ∀ u ∈ cs, u.oneCell' = true := by
  intro u hu
  obtain ⟨q, hq, rfl⟩ := List.mem_iff_getElem.1 hu
  have hql : q / 2 < l.length := by
    have := h.1
    omega
  have hc := h.2 (q / 2) _ (List.getElem?_eq_getElem hql)
  refine (Kd.raw 2).K_one ((Kd.raw 2).K_of_M hc) _ ?_
  rw [List.mem_iff_getElem?]
  refine ⟨q % 2, ?_⟩
  rw [List.getElem?_take, if_pos (Nat.mod_lt _ (by omega)), List.getElem?_drop, Nat.mul_comm, Nat.div_add_mod, List.getElem?_eq_getElem hq]
open HCopy in
theorem api_Chain_137.rreps {w w' : World} {base base' : Nat} {ok ok' : Nat → Prop} {l l2 : List (List Value)} {cs ds : List Value} (i : Nat) (hi : i ≤ l.length) (h : Reps ((Kd.raw 2).M w base ok) 2 l cs) (h2 : Reps ((Kd.raw 2).M w' base' ok') 2 l2 ds) (hb : base' ≤ base) :
    Reps ((Kd.raw 2).M w' base' (fun _ => True)) 2 (l.take i ++ l2 ++ l.drop i) (cs.take (i * 2) ++ ds ++ cs.drop (i * 2)) :=
  Reps.append (Reps.append ((Reps.take h i hi).imp_ fun _ _ hm => flat_move rfl hb hm) (h2.imp_ fun _ _ hm => flat_move rfl (Nat.le_refl _) hm)) ((Reps.drop h i).imp_ fun _ _ hm => flat_move rfl hb hm)
open HCopy in
set_option maxHeartbeats 2000000 in
set_option maxRecDepth 100000 in
/-- The place is the end. -/
theorem api_Chain_137.rlast (P0_ : Nat → Prop) (u9000_ : Value) (l0 : List (List Value)) (P2_ : Nat → Prop) (u9001_ : Value) (x : (List Value)) (w0 w : World) (hB : Below w0.heap.size w0 w) (ho0 : Kd.R (Kd.raw 2) 30 w w0.heap.size P0_ u9000_ l0) (ho2 : Kd.R (Kd.raw 2) 30 w w0.heap.size P2_ u9001_ [x]) (hlim : l0.length + 1 < 3518437208883) :
    Calls Try.prog 137 #[u9000_, .int .i64 l0.length, u9001_] w fun e w' => ∃ v0_, e = .returned v0_ ∧ Kd.R (Kd.raw 2) 30 w' w0.heap.size (fun k_ => ((P0_ k_ ∨ P2_ k_) ∨ w.heap.size ≤ k_)) v0_ (l0 ++ [x]) ∧ Below w0.heap.size w0 w' ∧ Kept w w' (fun k_ => P0_ k_ ∨ P2_ k_) := by
  obtain ⟨A2, c2, rfl, hc2, hC2⟩ := Kd.R_reads ho2
  obtain ⟨A0, c0, hu0, hc0, hC0⟩ := Kd.R_reads ho0
  obtain ⟨ad2, rfl, _⟩ := hC2.2.2 (by simp)
  have hoK : Kd.R (Kd.raw 2) 30 w w0.heap.size (fun k_ => ((P0_ k_ ∨ P2_ k_) ∨ w.heap.size ≤ k_)) u9000_ l0 := Kd.R_mono ho0 (fun k hk => .inl (.inl hk))
  have hP0 := Aside0.mk ho0.1
  have HO := Aside0.mk hoK
  have HC := Aside0.mk hC2
  have HBB := Aside0.mk hB
  have hlen : l0.length ≤ c0 := hc0
  clear ho0 ho2 hC0 hC2 hoK hB
  subst hu0
  go_enter Try.func137, Try.ntmps137
  go_wp2_with (at_builtin; (refine Kd.R_append_rows (Kd.raw 2) (w0 := w0) w0.heap.size rfl _ _ 22 30 ((.agg #[(.string ⟨#[]⟩), (.slice none 0 0)])) 40 rfl Try.underlying22 info30 rfl (by decide) (by omega) _ l0 [x] _ _ _ (fun k_ => ((P0_ k_ ∨ P2_ k_) ∨ w.heap.size ≤ k_)) (fun _ => False) rfl rfl HO.out HC.out (fun _ _ h => h) (fun _ h => h.elim) (fun k hk => .inr hk) HBB.out HBB.out.size (by show (l0.length + 1) * 40 ≤ 140737488355328; omega) ?_); intro v1 w1 ho hb hg hat)
  all_goals go_ret
  all_goals exact ⟨_, rfl, ho, hb, Kept.of_grown hg (Kept.refl _ _) (fun k hk => .inl (.inl (hP0.out k hk)))⟩
open HCopy in
theorem api_Chain_137.rcalls (P0_ : Nat → Prop) (u9000_ : Value) (l0 : List (List Value)) (a1 : Int) (P2_ : Nat → Prop) (u9001_ : Value) (l2 : List (List Value)) (r : List (List Value)) (w0 w : World) (hB : Below w0.heap.size w0 w) (ho0 : Kd.R (Kd.raw 2) 30 w w0.heap.size P0_ u9000_ l0) (hp0_2 : ∀ k_, P0_ k_ → ¬ P2_ k_) (ho2 : Kd.R (Kd.raw 2) 30 w w0.heap.size P2_ u9001_ l2) (hp2_0 : ∀ k_, P2_ k_ → ¬ P0_ k_) (h : api_Chain_137.rf l0 a1 l2 = some r) :
    Calls Try.prog 137 #[u9000_, .int .i64 a1, u9001_] w fun e w' => ∃ v0_, e = .returned v0_ ∧ Kd.R (Kd.raw 2) 30 w' w0.heap.size (fun k_ => ((P0_ k_ ∨ P2_ k_) ∨ w.heap.size ≤ k_)) v0_ r ∧ Below w0.heap.size w0 w' ∧ Kept w w' (fun k_ => P0_ k_ ∨ P2_ k_) := by
  unfold api_Chain_137.rf at h
  split at h
  case isFalse => cases h
  case isTrue hc =>
    obtain ⟨hl1, hi0, hil, hlim⟩ := hc
    obtain rfl := Option.some.inj h
    obtain ⟨i, rfl⟩ : ∃ i : Nat, a1 = (i : Int) := ⟨a1.toNat, by omega⟩
    obtain ⟨x, rfl⟩ := List.length_eq_one_iff.1 hl1
    clear h
    rw [Int.toNat_natCast]
    by_cases hin : i < l0.length
    · obtain ⟨hok2, inner2, ⟨hlen2, hcase2⟩, hr2⟩ := ho2
      rcases hcase2 with ⟨_, hn⟩ | ⟨g2, c2, cur2, rfl, hbg2, hg2, hnc2, hcm2, hsz2, ht2⟩
      · simp at hn
      obtain ⟨hok, inner, ⟨hlen, hcase⟩, hr⟩ := ho0
      rcases hcase with ⟨_, hn⟩ | ⟨g, cap, cur, rfl, hbg, hg, hnc, hcm, hsz, ht⟩
      · omega
      have hP0 : P0_ g := hok g (by simp [Value.ownBlock])
      have hP2 : P2_ g2 := hok2 g2 (by simp [Value.ownBlock])
      have hne : g2 ≠ g := fun e => hp0_2 g hP0 (e ▸ hP2)
      have hbw := hB.size
      have hR := fun (w' : World) => api_Chain_137.rreps (w' := w') (base' := w0.heap.size) (ok' := fun _ => True) i (by omega) hr (hr2.imp_ fun _ _ hm => flat_move (w1 := w') (base1 := w0.heap.size) (ok1 := fun _ => True) rfl (Nat.le_refl _) hm) (Nat.le_refl _)
      by_cases hroom : l0.length + 1 ≤ cap
      · refine (api_Chain_137.rroom g cap l0.length i cur inner inner2 g2 c2 cur2 w hg hg2 hne hin hroom hcm hsz ht (by show 2 ≤ _; have : (Kd.raw 2).sz = 2 := rfl; rw [this] at hsz2; have : 1 ≤ c2 := hnc2; omega) ht2 (api_Chain_137.rone hr) (api_Chain_137.rone hr2)).mono ?_
        rintro e w' ⟨cur', rfl, rfl, hs', ht'⟩
        refine ⟨_, rfl, ?_, ?_, ?_⟩
        · exact row_R (Kd.raw 2) rfl (Nat.le_refl _) (setRow_heap w.drew g cur _ 30 _ hg) hbg (by simp; omega) hroom hcm hs' ht' (hR w) (.inl (.inl hP0))
        · exact below_setRow (below_drew hB) hbg _
        · exact ⟨by simp [World.setRow], fun k hk hn => setRow_other w.drew g k cur' (fun e => hn (.inl (e ▸ hP0)))⟩
      · refine (api_Chain_137.rgrow g cap l0.length i cur inner inner2 g2 c2 cur2 w hg hg2 hin hnc (by omega) hlim hsz ht (by show 2 ≤ _; have : (Kd.raw 2).sz = 2 := rfl; rw [this] at hsz2; have : 1 ≤ c2 := hnc2; omega) ht2 (api_Chain_137.rone hr) (api_Chain_137.rone hr2)).mono ?_
        rintro e w' ⟨cap', cur', rfl, hc1, hc2', hh, hbb, hs', ht'⟩
        refine ⟨_, rfl, ?_, ?_, ?_⟩
        · exact row_R (Kd.raw 2) rfl (Nat.le_refl _) hh hbw (by simp; omega) hc1 hc2' hs' ht' (hR w) (.inr (Nat.le_refl _))
        · exact hB.trans (hbb.mono hbw)
        · exact Kept.of_below hbb _
    · obtain rfl : i = l0.length := by omega
      rw [List.take_length, List.drop_length, List.append_nil]
      exact api_Chain_137.rlast P0_ u9000_ l0 P2_ u9001_ x w0 w hB ho0 ho2 hlim
def api_Chain_137.f (l0 : List (S30)) (a1 : Int) (l2 : List (S30)) : Option (List (S30)) := if l2.length = 1 ∧ 0 ≤ a1 ∧ a1 ≤ l0.length ∧ l0.length + 1 < 3518437208883 then some (l0.take a1.toNat ++ l2 ++ l0.drop a1.toNat) else none
theorem api_Chain_137.calls (P0_ : Nat → Prop) (u9000_ : Value) (l0 : List (S30)) (a1 : Int) (P2_ : Nat → Prop) (u9001_ : Value) (l2 : List (S30)) (r : List (S30)) (w0 w : World) (hB : Below w0.heap.size w0 w) (ho0 : Kd.N k30 30 w w0.heap.size P0_ u9000_ l0) (hp0_2 : ∀ k_, P0_ k_ → some k_ ≠ u9001_.ownBlock) (ho2 : Kd.N k30 30 w w0.heap.size P2_ u9001_ l2) (hp2_0 : ∀ k_, P2_ k_ → some k_ ≠ u9000_.ownBlock) (h : api_Chain_137.f l0 a1 l2 = some r) :
    Calls Try.prog 137 #[u9000_, .int .i64 a1, u9001_] w fun e w' => ∃ v0_, e = .returned v0_ ∧ Kd.N k30 30 w' w0.heap.size (fun k_ => ((P0_ k_ ∨ P2_ k_) ∨ w.heap.size ≤ k_)) v0_ r ∧ Below w0.heap.size w0 w' ∧ Kept w w' (fun k_ => some k_ = u9000_.ownBlock ∨ some k_ = u9001_.ownBlock) := by
  unfold api_Chain_137.f at h
  split at h
  case isFalse => cases h
  case isTrue hc =>
    obtain ⟨hl1, hi0, hil, hlim⟩ := hc
    obtain rfl := Option.some.inj h
    obtain ⟨h00, rows0, hlen0, hR0, hf0⟩ := ho0
    obtain ⟨h20, rows2, hlen2, hR2, hf2⟩ := ho2
    refine (api_Chain_137.rcalls (fun k => some k = u9000_.ownBlock) u9000_ rows0 a1 (fun k => some k = u9001_.ownBlock) u9001_ rows2 (rows0.take a1.toNat ++ rows2 ++ rows0.drop a1.toNat) w0 w hB hR0 (fun k e => hp0_2 k (h00 k e.symm)) hR2 (fun k e => hp2_0 k (h20 k e.symm)) (by unfold api_Chain_137.rf; rw [if_pos ⟨by omega, hi0, by omega, by omega⟩])).mono ?_
    rintro e w' ⟨v0, rfl, hR, hb, hk⟩
    have hown : ∀ k, k < w.heap.size → some k ≠ u9000_.ownBlock → some k ≠ u9001_.ownBlock → some k ≠ v0.ownBlock := by
      intro k hlt h1 h2 e
      rcases hR.1 k e.symm with (h | h) | h
      · exact h1 h
      · exact h2 h
      · omega
    have move0 : ∀ (j : Nat) (x : (S30)) (c : List Value), l0[j]? = some x → rows0[j]? = some c → Kd.FK k30 w' (fun k => ((P0_ k ∨ P2_ k) ∨ w.heap.size ≤ k) ∧ some k ≠ v0.ownBlock) x c := by
      intro j x c hx hc
      refine Kd.FK_mono (Kd.FK_step (Kd.FK_bound (hf0 j x c hx hc)) (fun k hk' hlt => hk.2 k hlt (fun h => ?_))) (fun k hk' => ⟨.inl (.inl hk'.1.1), hown k hk'.2 hk'.1.2 (hp0_2 k hk'.1.1)⟩)
      rcases h with h | h
      · exact hk'.1.2 h
      · exact hp0_2 k hk'.1.1 h
    have move2 : ∀ (j : Nat) (x : (S30)) (c : List Value), l2[j]? = some x → rows2[j]? = some c → Kd.FK k30 w' (fun k => ((P0_ k ∨ P2_ k) ∨ w.heap.size ≤ k) ∧ some k ≠ v0.ownBlock) x c := by
      intro j x c hx hc
      refine Kd.FK_mono (Kd.FK_step (Kd.FK_bound (hf2 j x c hx hc)) (fun k hk' hlt => hk.2 k hlt (fun h => ?_))) (fun k hk' => ⟨.inl (.inr hk'.1.1), hown k hk'.2 (hp2_0 k hk'.1.1) hk'.1.2⟩)
      rcases h with h | h
      · exact hp2_0 k hk'.1.1 h
      · exact hk'.1.2 h
    refine ⟨v0, rfl, ⟨fun k hk' => ?_, rows0.take a1.toNat ++ rows2 ++ rows0.drop a1.toNat, by simp only [List.length_append, List.length_take, List.length_drop, hlen0, hlen2], Kd.raw_tight hR, fun j x c hx hc => ?_⟩, hb, hk⟩
    · rcases hR.1 k hk' with (h | h) | h
      · exact .inl (.inl (h00 k h.symm))
      · exact .inl (.inr (h20 k h.symm))
      · exact .inr h
    · rw [List.append_assoc] at hx hc
      have ht : (rows0.take a1.toNat).length = (l0.take a1.toNat).length := by simp only [List.length_take, hlen0]
      by_cases hj : j < (l0.take a1.toNat).length
      · rw [List.getElem?_append_left hj] at hx
        rw [List.getElem?_append_left (by omega)] at hc
        have hj2 : j < a1.toNat := by rw [List.length_take] at hj; omega
        rw [List.getElem?_take_of_lt hj2] at hx hc
        exact move0 j x c hx hc
      · rw [List.getElem?_append_right (by omega)] at hx hc
        rw [ht] at hc
        generalize j - (l0.take a1.toNat).length = q at hx hc
        by_cases hq : q < l2.length
        · rw [List.getElem?_append_left hq] at hx
          rw [List.getElem?_append_left (by omega)] at hc
          exact move2 q x c hx hc
        · rw [List.getElem?_append_right (by omega)] at hx hc
          rw [hlen2] at hc
          rw [List.getElem?_drop] at hx hc
          exact move0 _ x c hx hc


/-! ### table_Put: function 92 -/
def table_Put.j0 : Nat → Int → Bool → Int → List (S30) → ByteArray → List (S39) → Option ((List (S30)) × Int)
 | 0, _, _, _, _, _, _ => none
 | k + 1, x8, x9, x11, x262000, x271000, x271001 => if x11 = 0 then ((table_Rooms.f k x262000).bind fun t282 => (if t282 ≥ 64 then (some (([] : List (S30)), 5)) else (if x9 = true then (if 0 ≤ x8 then (if x8 < (x262000.length : Int) then (some ((x262000.set (x8 : Int).toNat (⟨x271000, x271001⟩ : S30)), 0)) else (none)) else (none)) else ((api_Chain_137.f x262000 x8 (([(⟨x271000, x271001⟩ : S30)] : List (S30)))).bind fun t287 => (some (t287, 0)))))) else (some (([] : List (S30)), x11))
def table_Put.f (k : Nat) (l0_0 : List (S30)) (a1 : ByteArray) (a2_0 : Int) (a2_1 : ByteArray) (a2_2 : Bool) : Option ((List (S30)) × Int) := (table_May.f k l0_0).bind fun t264 => (if t264 = true then ((table_Own.f k l0_0).bind fun t265 => ((table_seek.f t265 a1).bind fun bt268 => (if bt268.2 = true then (if 0 ≤ bt268.1 then (if bt268.1 < (t265.length : Int) then ((chain_Add.f k ((rd_T30 t265 bt268.1).f0) ((rd_T30 t265 bt268.1).f1) a2_0 a2_1 a2_2).bind fun bt272 => (table_Put.j0 k bt268.1 bt268.2 bt272.2.2 t265 bt272.1 bt272.2.1)) else (none)) else (none)) else ((chain_New.f k a1 a2_0 a2_1 a2_2).bind fun bt277 => (table_Put.j0 k bt268.1 bt268.2 bt277.2.2 t265 bt277.1 bt277.2.1))))) else (some (([] : List (S30)), 1)))
theorem table_Put.mono_l : ∀ k, (∀ y0 y1 y2 y3 y4 y5, LeO (table_Put.j0 k y0 y1 y2 y3 y4 y5) (table_Put.j0 (k + 1) y0 y1 y2 y3 y4 y5))
 | 0 => fun _ _ _ _ _ _ r h => by simp [table_Put.j0] at h
 | k + 1 => by
  have ih0 := table_Put.mono_l k
  ·intro y0 y1 y2 y3 y4 y5
   unfold table_Put.j0
   repeat' first
   | (with_reducible exact ih0 _ _ _ _ _ _)
   | (with_reducible exact chain_Add.mono _ _ _ _ _ _)
   | (with_reducible exact chain_New.mono _ _ _ _ _)
   | (with_reducible exact table_May.mono _ _)
   | (with_reducible exact table_Own.mono _ _)
   | (with_reducible exact table_Rooms.mono _ _)
   | (with_reducible exact LeO.refl _)
   | (with_reducible exact LeO.none _)
   | (with_reducible refine LeO.ite ?_ ?_)
   | (with_reducible refine LeO.bind ?_ (fun _ => ?_))
   | exact ih0 _ _ _ _ _ _
   | exact chain_Add.mono _ _ _ _ _ _
   | exact chain_New.mono _ _ _ _ _
   | exact table_May.mono _ _
   | exact table_Own.mono _ _
   | exact table_Rooms.mono _ _
   | exact LeO.none _
   | refine LeO.ite ?_ ?_
   | refine LeO.bind ?_ (fun _ => ?_)
theorem table_Put.mono : ∀ a0 a1 a2 a3 a4 k, LeO (table_Put.f k a0 a1 a2 a3 a4) (table_Put.f (k + 1) a0 a1 a2 a3 a4) := by
 intro a0 a1 a2 a3 a4 k
 have ih0 := table_Put.mono_l k
 unfold table_Put.f
 repeat' first
   | (with_reducible exact ih0 _ _ _ _ _ _)
   | (with_reducible exact chain_Add.mono _ _ _ _ _ _)
   | (with_reducible exact chain_New.mono _ _ _ _ _)
   | (with_reducible exact table_May.mono _ _)
   | (with_reducible exact table_Own.mono _ _)
   | (with_reducible exact table_Rooms.mono _ _)
   | (with_reducible exact LeO.refl _)
   | (with_reducible exact LeO.none _)
   | (with_reducible refine LeO.ite ?_ ?_)
   | (with_reducible refine LeO.bind ?_ (fun _ => ?_))
   | exact ih0 _ _ _ _ _ _
   | exact chain_Add.mono _ _ _ _ _ _
   | exact chain_New.mono _ _ _ _ _
   | exact table_May.mono _ _
   | exact table_Own.mono _ _
   | exact table_Rooms.mono _ _
   | exact LeO.none _
   | refine LeO.ite ?_ ?_
   | refine LeO.bind ?_ (fun _ => ?_)
def table_Put.T8 : Bool × List (List Nat × List Nat) := (true, [([], []), ([0], [0]), ([], []), ([1, 2], [1, 2]), ([3], [3]), ([], []), ([4, 5], [4, 5]), ([6], [6]), ([7], [7]), ([7], [7]), ([8, 6, 0, 1, 2, 3, 4, 5, 6, 7, 8], [8]), ([9, 10, 0, 1, 2, 3, 4, 5, 6, 7, 8, 9, 10], [9])])
def table_Put.B8 : List Nat := [0, 1, 0, 7, 15, 0, 63, 127, 255, 255, 511, 2047]
theorem table_Put.tab8 : rtab .any (opsOf Try.f92 8) = table_Put.T8 := by kernel_rfl
theorem table_Put.bits8 : waitsOk table_Put.T8.2 table_Put.B8 = true := by kernel_rfl
set_option maxHeartbeats 8000000 in
set_option maxRecDepth 100000 in
theorem table_Put.calls (k : Nat) (A0_0 : Option Addr) (c0_0 : Nat) (l0_0 : List (S30)) (a1 : ByteArray) (a2_0 : Int) (a2_1 : ByteArray) (a2_2 : Bool) (r1 : List (S30)) (r2 : Int) (w : World) (hr0_0 : Kd.C k30 w A0_0 l0_0.length l0_0) (hc0_0 : l0_0.length ≤ c0_0) (h : table_Put.f k l0_0 a1 a2_0 a2_1 a2_2 = some (r1, r2)) :
  Calls Try.prog 92 #[.agg #[.slice A0_0 l0_0.length c0_0], .string a1, .agg #[.int .i64 a2_0, .string a2_1, .bool a2_2]] w fun e w' => ∃ v0_ : Value, e = .returned (.tuple #[.agg #[v0_], .int .i64 r2]) ∧ Kd.N k30 30 w' w.heap.size (fun k_ => (w.heap.size ≤ k_)) v0_ r1 ∧ Below w.heap.size w w' := by
 have hu79 := Try.underlying79
 have hu39 := Try.underlying39
 have hu30 := Try.underlying30
 have HR0_0 := mk0 hr0_0
 have HC0_0 := mk0 hc0_0
 clear hr0_0 hc0_0
 have HB := mk0 (Below.refl w.heap.size w)
 have H : ((table_May.f k l0_0).bind fun t264 => (if t264 = true then ((table_Own.f k l0_0).bind fun t265 => ((table_seek.f t265 a1).bind fun bt268 => (if bt268.2 = true then (if 0 ≤ bt268.1 then (if bt268.1 < (t265.length : Int) then ((chain_Add.f k ((rd_T30 t265 bt268.1).f0) ((rd_T30 t265 bt268.1).f1) a2_0 a2_1 a2_2).bind fun bt272 => (table_Put.j0 k bt268.1 bt268.2 bt272.2.2 t265 bt272.1 bt272.2.1)) else (none)) else (none)) else ((chain_New.f k a1 a2_0 a2_1 a2_2).bind fun bt277 => (table_Put.j0 k bt268.1 bt268.2 bt277.2.2 t265 bt277.1 bt277.2.1))))) else (some (([] : List (S30)), 1)))) = some (r1, r2) := h
 clear h
 replace H := Option.bind_eq_some_iff.mp H
 obtain ⟨t264, A40, H⟩ := H
 try dsimp only at H
 have A4 := mk0 A40
 clear A40
 by_cases c5 : t264 = true
 ·subst c5
  rw [if_pos rfl] at H
  replace H := Option.bind_eq_some_iff.mp H
  obtain ⟨t265, A60, H⟩ := H
  try dsimp only at H
  have A6 := mk0 A60
  clear A60
  replace H := Option.bind_eq_some_iff.mp H
  obtain ⟨⟨t268, t269⟩, A70, H⟩ := H
  try dsimp only at H
  have A7 := mk0 A70
  clear A70
  have HC8 := mk0 H
  clear H
  go_enter Try.func92, Try.ntmps92
  go_upto_if 24 with (first | ((with_reducible refine gate_dst (N := 3) rfl ?_); refine bx_ (N := 3) (cs := #[.slice A0_0 l0_0.length c0_0]) (t := 79) (h := ?_); intro gb261 hg w9 hbox hb; have n2_ := mk0 (gz_ HB hg); have n3_ := mk0 (gz_ HB hg); replace HB := mk0 (bt_ (b_ HB) hb); have BK261 := mk0 (hbox); have GW261 := n2_; have GE261 := n3_; clear n2_ n3_; clear hb hbox hg) | ((with_reducible refine gate_dst (N := 5) rfl ?_); refine bx_ (N := 5) (cs := #[.int .i64 a2_0, .string a2_1, .bool a2_2]) (t := 39) (h := ?_); intro gb262 hg w10 hbox hb; have n3_ := mk0 (gz_ HB hg); have n4_ := mk0 (gz_ HB hg); have n5_ := mk0 (ne1_ BK261 hg); have n6_ := mk0 (ne2_ BK261 hg); replace BK261 := mk0 (u_ BK261 hb); replace HB := mk0 (bt_ (b_ HB) hb); have BK262 := mk0 (hbox); have GW262 := n3_; have GE262 := n4_; have NB261_262 := n5_; have NB262_261 := n6_; clear n3_ n4_ n5_ n6_; clear hb hbox hg) | ((with_reducible refine gate_dst (N := 6) rfl ?_); refine bx_ (N := 6) (cs := #[.slice none 0 0]) (t := 79) (h := ?_); intro gb263 hg w11 hbox hb; have n4_ := mk0 (gz_ HB hg); have n5_ := mk0 (gz_ HB hg); have n6_ := mk0 (ne1_ BK261 hg); have n7_ := mk0 (ne2_ BK261 hg); have n8_ := mk0 (ne1_ BK262 hg); have n9_ := mk0 (ne2_ BK262 hg); replace BK261 := mk0 (u_ BK261 hb); replace BK262 := mk0 (u_ BK262 hb); replace HB := mk0 (bt_ (b_ HB) hb); have BK263 := mk0 (hbox); have GW263 := n4_; have GE263 := n5_; have NB261_263 := n6_; have NB263_261 := n7_; have NB262_263 := n8_; have NB263_262 := n9_; clear n4_ n5_ n6_ n7_ n8_ n9_ hb hbox hg; have hnb12 := NB261_262.out; have hnc12 := NB262_261.out; have hnb13 := NB261_263.out; have hnc13 := NB263_261.out; obtain ⟨hcz14_0, hfz14_0⟩ := c1_ BK261) | ((with_reducible refine gate_callee (f := 89) rfl ?_); refine gL_ (some 13) Try.func89 #[.agg #[.slice A0_0 l0_0.length c0_0]] (h := ?_); (with_reducible refine (table_May.calls k _ _ l0_0 true _ ?side1 ?side2 A4.out).mono ?_); (case side1 => exact cb_ HR0_0 HB); (case side2 => exact HC0_0.out); rintro e w15 ⟨rfl, hb⟩; refine ⟨_, rfl, ?_⟩; replace BK261 := mk0 (u_ BK261 hb); replace BK262 := mk0 (u_ BK262 hb); replace BK263 := mk0 (u_ BK263 hb); replace HB := mk0 (bt_ (b_ HB) hb); (try clear hb); obtain ⟨hcz16_0, hfz16_0⟩ := c1_ BK261) | ((with_reducible refine gate_callee (f := 135) rfl ?_); refine gL_ (some 17) Try.func135 #[.agg #[.slice A0_0 l0_0.length c0_0]] (h := ?_); (with_reducible refine (table_Own.calls k _ _ l0_0 t265 _ ?side1 ?side2 A6.out).mono ?_); (case side1 => exact cb_ HR0_0 HB); (case side2 => exact HC0_0.out); rintro e w17 ⟨v266, rfl, ho0, hb⟩; refine ⟨_, rfl, ?_⟩; have n0_ := mk0 (Kd.N_lower (Kd.N_mono (ok' := fun k_ => (w.heap.size ≤ k_) ∧ k_ ≠ gb261 ∧ k_ ≠ gb262 ∧ k_ ≠ gb263) (Kd.S_N (Kd.S_bound ho0)) (fun k_ hk_ => ⟨(Nat.le_trans (bz_ (b_ HB)) hk_.2.1), (Kd.freshB (g := gb261) (o := .cells #[.slice A0_0 l0_0.length c0_0] 79 (0, 0)) (h_ BK261) k_ hk_.2.1), (Kd.freshB (g := gb262) (o := .cells #[.int .i64 a2_0, .string a2_1, .bool a2_2] 39 (0, 0)) (h_ BK262) k_ hk_.2.1), (Kd.freshB (g := gb263) (o := .cells #[.slice none 0 0] 79 (0, 0)) (h_ BK263) k_ hk_.2.1)⟩)) (bz_ (b_ HB))); replace BK261 := mk0 (u_ BK261 hb); replace BK262 := mk0 (u_ BK262 hb); replace BK263 := mk0 (u_ BK263 hb); replace HB := mk0 (bt_ (b_ HB) hb); have HO267 := n0_; clear n0_; (try clear hb); (try clear ho0); obtain ⟨Ao18, co18, eo18⟩ := Kd.N_slice HO267.out; subst eo18; obtain ⟨hcz19_0, hfz19_0⟩ := c1_ BK261) | ((with_reducible refine gate_callee (f := 136) rfl ?_); refine gL_ (some 21) Try.func136 #[.agg #[.slice Ao18 t265.length co18], .string a1] (h := ?_); (with_reducible refine (table_seek.calls _ _ t265 a1 t268 t269 _ ?side1 ?side2 A7.out).mono ?_); (case side1 => refine (Kd.N_reads' (e := 30) (base := w.heap.size) (ok := fun k_ => (((w.heap.size ≤ k_)) ∧ (k_ ≠ gb261 ∧ (k_ ≠ gb262 ∧ k_ ≠ gb263)))) (n := t265.length) (c := co18) ?_).2.2; exact (n2_ (Kd.N_mono (Kd.N_far (p := ⟨gb261, 0, none⟩) (Kd.N_mono HO267.out (fun k_ hk => (⟨hk, hk.2.1⟩ : _ ∧ k_ ≠ gb261))) (fun _ hk => hk.2) (.slice Ao18 t265.length co18)) (fun _ h_ => h_.1)))); (case side2 => exact (Kd.N_reads' HO267.out).2.1); rintro e w20 ⟨rfl, hb⟩; refine ⟨_, rfl, ?_⟩; replace HO267 := mk0 (Kd.N_below (n2_ (Kd.N_mono (Kd.N_far (p := ⟨gb261, 0, none⟩) (Kd.N_mono HO267.out (fun k_ hk => (⟨hk, hk.2.1⟩ : _ ∧ k_ ≠ gb261))) (fun _ hk => hk.2) (.slice Ao18 t265.length co18)) (fun _ h_ => h_.1))) hb); replace BK261 := mk0 (blk_below (g := gb261) (o := .cells #[.slice Ao18 t265.length co18] 79 (0, 0)) (pu_ (cs := #[.slice A0_0 l0_0.length c0_0]) (h_ BK261)) hb); replace BK262 := mk0 (blk_below (g := gb262) (o := .cells #[.int .i64 a2_0, .string a2_1, .bool a2_2] 39 (0, 0)) (fa_ (h_ BK262) NB262_261.out) hb); replace BK263 := mk0 (blk_below (g := gb263) (o := .cells #[.slice none 0 0] 79 (0, 0)) (fa_ (h_ BK263) NB263_261.out) hb); replace HB := mk0 (bt_ (b_ HB) hb); (try clear hb)) | ((with_reducible refine gate_dst (N := 10) rfl ?_); refine bx_ (N := 10) (cs := #[.string (⟨#[]⟩ : ByteArray), .slice none 0 0]) (t := 30) (h := ?_); intro gb270 hg w21 hbox hb; have n6_ := mk0 (gz_ HB hg); have n7_ := mk0 (gz_ HB hg); have n8_ := mk0 (ne1_ BK261 hg); have n9_ := mk0 (ne2_ BK261 hg); have n10_ := mk0 (ne1_ BK262 hg); have n11_ := mk0 (ne2_ BK262 hg); have n12_ := mk0 (ne1_ BK263 hg); have n13_ := mk0 (ne2_ BK263 hg); replace HO267 := mk0 (Kd.N_below (Kd.N_elderB (nn_ HO267) gb270 (Nat.le_of_eq hg.symm)) hb); replace BK261 := mk0 (u_ BK261 hb); replace BK262 := mk0 (u_ BK262 hb); replace BK263 := mk0 (u_ BK263 hb); replace HB := mk0 (bt_ (b_ HB) hb); have BK270 := mk0 (hbox); have GW270 := n6_; have GE270 := n7_; have NB261_270 := n8_; have NB270_261 := n9_; have NB262_270 := n10_; have NB270_262 := n11_; have NB263_270 := n12_; have NB270_263 := n13_; clear n6_ n7_ n8_ n9_ n10_ n11_ n12_ n13_; clear hb hbox hg))
  (try simp only [Act.put, List.setIfInBounds_toArray, List.set_cons_zero, List.set_cons_succ])
  go_cut [11] (fun v11 wc => ∃ (kq : Nat) (x11_7 : Int) (x271000_7 : ByteArray) (x271001_7 : List (S39)) (u271001 : Value), v11 = .int .i64 x11_7 ∧ Fc (table_Put.j0 kq t268 t269 x11_7 t265 x271000_7 x271001_7 = some (r1, r2)) ∧ Fc (kq ≤ k) ∧ Fc (Kd.N k30 30 wc w.heap.size (fun k_ => (w.heap.size ≤ k_) ∧ some k_ ≠ (u271001 : Value).ownBlock ∧ k_ ≠ gb261 ∧ k_ ≠ gb262 ∧ k_ ≠ gb263 ∧ k_ ≠ gb270) (.slice Ao18 t265.length co18) t265) ∧ Fc (Kd.R k39 39 wc w.heap.size (fun k_ => (w.heap.size ≤ k_) ∧ k_ ≠ gb262) u271001 x271001_7) ∧ Fc (wc.heap[gb261]? = some (.cells #[(.slice Ao18 t265.length co18)] 79 (0, 0))) ∧ Fc (wc.heap[gb262]? = some (.cells #[.int .i64 a2_0, .string a2_1, .bool a2_2] 39 (0, 0))) ∧ Fc (wc.heap[gb263]? = some (.cells #[(.slice none 0 0)] 79 (0, 0))) ∧ Fc (wc.heap[gb270]? = some (.cells #[.string x271000_7, u271001] 30 (0, 0))) ∧ Fc (Below w.heap.size w wc))
  case first =>
   have H := HC8.out
   clear HC8
   by_cases c22 : t269 = true
   ·subst c22
    rw [if_pos rfl] at H
    by_cases c23 : 0 ≤ t268
    ·rw [if_pos c23] at H
     have c23b0 : decide (0 ≤ t268) = true := decide_eq_true c23
     clear c23
     (first | rw [c23b0] | (simp only [i64_w, i32_w]; rw [c23b0]) | skip)
     by_cases c24 : t268 < (t265.length : Int)
     ·rw [if_pos c24] at H
      have c24b0 : decide (t268 < (t265.length : Int)) = true := decide_eq_true c24
      clear c24
      replace H := Option.bind_eq_some_iff.mp H
      obtain ⟨⟨t272, t273, t276⟩, A250, H⟩ := H
      try dsimp only at H
      have A25 := mk0 A250
      clear A250
      have H' := mk0 H
      clear H
      try go_wp2
      replace HO267 := mk0 (Kd.N_drew HO267.out)
      replace BK261 := mk0 (bD_ BK261.out)
      replace BK262 := mk0 (bD_ BK262.out)
      replace BK263 := mk0 (bD_ BK263.out)
      replace BK270 := mk0 (bD_ BK270.out)
      replace HB := mk0 (b1_ HB.out)
      have p271 : 0 ≤ (t268 : Int) := of_decide_eq_true (by first | (with_reducible assumption) | assumption)
      have q271 : t268 < (t265.length : Int) := of_decide_eq_true (by first | (with_reducible assumption) | assumption)
      obtain ⟨ad271, A271_1, c271_1, e271, hx271_0, hx271_1, hl271_1, hi271_1⟩ := at_T30 (Kd.N_reads' HO267.out).2.2 t268 p271 q271
      cases e271
      obtain ⟨ce271, hce271, hMe271, hcc271⟩ := Kd.N_get HO267.out z30 t268 p271 (by first | exact q271 | exact of_decide_eq_true (by first | (with_reducible assumption) | assumption) | (have e_ := (Kd.N_reads' HO267.out).1; omega))
      obtain ⟨ua271_1, uc271_1, rfl, ul271_1, ge271_1⟩ := k30_openF hMe271
      have hv271_1 := hcc271 1 _ rfl
      rw [add_field _ _ 1 (by omega)] at hv271_1
      replace hv271_1 := Option.some.inj (hv271_1.symm.trans hx271_1)
      injection hv271_1 with hva_ hvn_ hvc_
      rw [hva_] at ge271_1
      rw [hvc_] at ul271_1
      have HL271_1 := mk0 (show Kd.V k39 39 _ w.heap.size _ _ ((rd_T30 t265 t268).f1) from Kd.V_mk ul271_1 ge271_1)
      clear hva_ hvn_ hvc_ ge271_1 ul271_1 hcc271 hce271
      have HR271_1 := mk0 hi271_1
      have HC271_1 := mk0 hl271_1
      clear hi271_1 hl271_1
      replace p271 := eq_true p271
      replace q271 := eq_true q271
      refine start_ (n := 12) (S := fun w' => w'.cell? ⟨gb261, 0, none⟩ = some (.slice (some ad271) t265.length co18) ∧ w'.cell? ⟨gb262, 0, none⟩ = some (.int .i64 a2_0) ∧ w'.cell? ⟨gb262, 1, none⟩ = some (.string a2_1) ∧ w'.cell? ⟨gb262, 2, none⟩ = some (.bool a2_2) ∧ w'.cell? (ad271.add ((t268).toNat * 2)) = some (.string ((rd_T30 t265 t268).f0)) ∧ w'.cell? ⟨(ad271.add ((t268).toNat * 2)).block, (ad271.add ((t268).toNat * 2)).off + 1, none⟩ = some (.slice A271_1 ((rd_T30 t265 t268).f1).length c271_1)) (ds := []) (bt 12 0) (by kernel_rfl) rfl rfl ⟨bk_ BK261 0, bk_ BK262 0, bk_ BK262 1, bk_ BK262 2, hx271_0, hx271_1⟩ (fun hHeld => ?_); refine with_tabW table_Put.tab8 table_Put.bits8 (fun HT_ HW_ => ?_)
      generalize w21.drew = w26 at HO267 BK261 BK262 BK263 BK270 HB HL271_1 HR271_1 hx271_0 hx271_1 hHeld ⊢
      refine pq_ HT_.out 0 26 (bt 12 1) (h := ?_)
      refine pq_ HT_.out 2 28 (bt 12 5) (h := ?_)
      refine tq6_ HT_.out HW_.out 1 27 (bt 12 7) hHeld (h := ?_)
      refine pq_ HT_.out 3 29 (bt 12 15) (h := ?_)
      refine tq6_ HT_.out HW_.out 4 30 (bt 12 31) hHeld (h := ?_)
      refine tq6_ HT_.out HW_.out 5 31 (bt 12 63) hHeld (h := ?_)
      refine one_ (i := 6) (N := some 32) (bt 12 127) rfl rfl (one_of HT_.out (by kernel_rfl)) (by decide) (fun K hK => ?_)
      refine goes_ Try.func26 (by kernel_rfl) rfl #[.agg #[.string ((rd_T30 t265 t268).f0), .slice A271_1 ((rd_T30 t265 t268).f1).length c271_1], .agg #[.int .i64 a2_0, .string a2_1, .bool a2_2]] (by rfl) rfl rfl (by (try simp only [List.map_toArray, List.map_cons, List.map_nil]); first | done | rfl | (simp only [List.length_drop, List.length_take]; rfl)) ?_
      with_reducible refine (chain_Add.calls k ((rd_T30 t265 t268).f0) _ _ ((rd_T30 t265 t268).f1) a2_0 a2_1 a2_2 t272 t273 t276 _ ?side1 ?side2 A25.out).mono ?_
      (case side1 => repeat (first | exact (by repeat (first | (with_reducible exact HR271_1.out) | (with_reducible refine Kd.C_alloc ?_ _) | (with_reducible refine Kd.C_drewN ?_ _) | (with_reducible refine Kd.C_drew ?_) | exact HR271_1.out)) | (with_reducible refine Kd.C_alloc ?_ _) | (with_reducible refine Kd.C_drewN ?_ _) | (with_reducible refine Kd.C_drew ?_)))
      (case side2 => exact HC271_1.out)
      rintro e w27 ⟨v274, rfl, ho0, hb⟩
      have HS4_ := (hb.cell (World.block_lt_of_cell? _ _ hHeld.2.2.2.2.1)).trans hHeld.2.2.2.2.1
      have HS5_ := (hb.cell (World.block_lt_of_cell? _ _ hHeld.2.2.2.2.2)).trans hHeld.2.2.2.2.2
      refine ⟨_, rfl, ?_⟩
      have n2_ := mk0 (Kd.R_lower (Kd.R_newB (Kd.R_newM (M := fun k_ => (w.heap.size ≤ k_)) ho0 (bz_ (b_ HB)) (fun k_ h_ => h_)) (g := gb262) (o := .cells #[.int .i64 a2_0, .string a2_1, .bool a2_2] 39 (0, 0)) (h_ BK262)) (bz_ (b_ HB)))
      replace HO267 := mk0 (Kd.N_elder' (nn_ HO267) (Kd.R_base ho0) hb)
      replace HL271_1 := mk0 (Kd.V_elder' (v_ HL271_1) (Kd.R_base ho0) hb)
      replace BK261 := mk0 (u_ BK261 hb)
      replace BK262 := mk0 (u_ BK262 hb)
      replace BK263 := mk0 (u_ BK263 hb)
      replace BK270 := mk0 (blk_below (g := gb270) (o := .cells #[.string (⟨#[]⟩ : ByteArray), .slice none 0 0] 30 (0, 0)) (h_ BK270) hb)
      replace HR271_1 := mk0 (Kd.C_below (by (with_reducible repeat (first | refine Kd.C_drewN ?_ _ | refine Kd.C_drew ?_ | refine Kd.C_alloc ?_ _)); exact HR271_1.out) hb)
      replace HB := mk0 (bt_ (b_ HB) hb)
      have HO275 := n2_
      clear n2_
      (try clear hb)
      (try clear hb2)
      (try clear hk)
      (try clear hi)
      (try clear ho0)
      obtain ⟨Ao29, co29, eo29⟩ := Kd.R_slice HO275.out
      (first | subst eo29 | (injection eo29 with f1_ f2_ f3_; have f4_ := f1_.symm; have f5_ := f3_.symm; clear f1_ f2_ f3_; subst f4_; subst f5_))
      refine hK.out _ _ ⟨bk_ BK261 0, bk_ BK262 0, bk_ BK262 1, bk_ BK262 2, HS4_, HS5_⟩ (fun hHeld => ?_)
      clear hK K
      refine norm_ (a' := ?_) ?_ ?_
      rotate_left
      ·show Act.put _ (some 32) _ = _
       simp only [z_]
       rfl
      refine pq_ HT_.out 7 25 (bt 12 255) (h := ?_)
      refine pq_ HT_.out 8 33 (bt 12 511) (h := ?_)
      refine pq_ HT_.out 9 34 (bt 12 1023) (h := ?_)
      refine one_ (i := 10) (N := none) (bt 12 2047) rfl rfl (one_of HT_.out (by kernel_rfl)) (by decide) (fun K hK => ?_)
      have hs28 : w27.cell? ⟨gb270, 0, none⟩ = some (.string (⟨#[]⟩ : ByteArray)) := bk_ BK270 0
      have hfs28 := blk_frozen BK270.out 0
      have hns28_0 := NB261_270.out
      have hns28_1 := NB262_270.out
      have hns28_2 := NB263_270.out
      have hms28_0 := NB270_261.out
      have hms28_1 := NB270_262.out
      have hms28_2 := NB270_263.out
      have hs30 : w27.cell? ⟨gb270, 1, none⟩ = some (.slice none 0 0) := bk_ BK270 1
      have hfs30 := blk_frozen BK270.out 1
      have hns30_0 := NB261_270.out
      have hns30_1 := NB262_270.out
      have hns30_2 := NB263_270.out
      have hms30_0 := NB270_261.out
      have hms30_1 := NB270_262.out
      have hms30_2 := NB270_263.out
      refine skip_ (w1 := ?_) (by rfl) rfl ?_ ?_
      rotate_left
      ·go_simp
       rfl
      refine hK.out _ _ ⟨(cf_ NB261_270.out (cf_ NB261_270.out hHeld.1)), (cf_ NB262_270.out (cf_ NB262_270.out hHeld.2.1)), (cf_ NB262_270.out (cf_ NB262_270.out hHeld.2.2.1)), (cf_ NB262_270.out (cf_ NB262_270.out hHeld.2.2.2.1)), ((cell_far (p := ⟨gb270, _, none⟩) (by first | exact Kd.own_blk (Kd.N_away HO267.out (fun _ hk => hk.1.2)) | (rw [add_block]; exact Kd.own_blk (Kd.N_away HO267.out (fun _ hk => hk.1.2))) | (show (Addr.add _ _).block ≠ _; rw [add_block]; exact Kd.own_blk (Kd.N_away HO267.out (fun _ hk => hk.1.2))) | (dsimp only; exact Kd.own_blk (Kd.N_away HO267.out (fun _ hk => hk.1.2)))) _).trans (((cell_far (p := ⟨gb270, _, none⟩) (by first | exact Kd.own_blk (Kd.N_away HO267.out (fun _ hk => hk.1.2)) | (rw [add_block]; exact Kd.own_blk (Kd.N_away HO267.out (fun _ hk => hk.1.2))) | (show (Addr.add _ _).block ≠ _; rw [add_block]; exact Kd.own_blk (Kd.N_away HO267.out (fun _ hk => hk.1.2))) | (dsimp only; exact Kd.own_blk (Kd.N_away HO267.out (fun _ hk => hk.1.2)))) _).trans hHeld.2.2.2.2.1))), ((cell_far (p := ⟨gb270, _, none⟩) (by first | exact Kd.own_blk (Kd.N_away HO267.out (fun _ hk => hk.1.2)) | (rw [add_block]; exact Kd.own_blk (Kd.N_away HO267.out (fun _ hk => hk.1.2))) | (show (Addr.add _ _).block ≠ _; rw [add_block]; exact Kd.own_blk (Kd.N_away HO267.out (fun _ hk => hk.1.2))) | (dsimp only; exact Kd.own_blk (Kd.N_away HO267.out (fun _ hk => hk.1.2)))) _).trans (((cell_far (p := ⟨gb270, _, none⟩) (by first | exact Kd.own_blk (Kd.N_away HO267.out (fun _ hk => hk.1.2)) | (rw [add_block]; exact Kd.own_blk (Kd.N_away HO267.out (fun _ hk => hk.1.2))) | (show (Addr.add _ _).block ≠ _; rw [add_block]; exact Kd.own_blk (Kd.N_away HO267.out (fun _ hk => hk.1.2))) | (dsimp only; exact Kd.own_blk (Kd.N_away HO267.out (fun _ hk => hk.1.2)))) _).trans hHeld.2.2.2.2.2)))⟩ (fun hHeld => ?_)
      clear hK K
      refine pq_ HT_.out 11 11 (bt 12 4095) (h := ?_)
      refine done_ (done_of HT_.out (by kernel_rfl)) ?_
      try go_wp2
      go_meet
      case rel => exact ⟨_, (t276), (t272), (t273), (.slice Ao29 t273.length co29), (by first | rfl | (simp; done) | (simp [*]; done)), H', ⟨by first | omega | exact Nat.le_refl _⟩, ⟨by (with_reducible repeat (first | apply Kd.N_alloc | apply Kd.N_drewN | apply Kd.N_drew)); exact Kd.N_mono (Kd.N_far (p := ⟨gb270, 1, none⟩) (Kd.N_far (p := ⟨gb270, 0, none⟩) (Kd.N_mono HO267.out (fun k_ hk => (⟨hk, hk.1.2⟩ : _ ∧ k_ ≠ gb270))) (fun _ hk => hk.2) (.string t272)) (fun _ hk => hk.2) (.slice Ao29 t273.length co29)) (fun _ hk => ⟨hk.1.1.1.1, ⟨hk.1.2, ⟨hk.1.1.1.2.1, ⟨hk.1.1.1.2.2.1, ⟨hk.1.1.1.2.2.2, hk.1.1.2⟩⟩⟩⟩⟩)⟩, ⟨by (with_reducible repeat (first | apply Ra_ | apply Rn_ | apply Rd_)); exact Kd.R_mono (Kd.R_far (p := ⟨gb270, 1, none⟩) (Kd.R_far (p := ⟨gb270, 0, none⟩) (Kd.R_types HO275.out BK270.out (by decide)) (fun _ hk => hk.2) (.string t272)) (fun _ hk => hk.2) (.slice Ao29 t273.length co29)) (fun _ hk => ⟨hk.1.1.1, hk.1.2⟩)⟩, ⟨(fa_ (fa_ (h_ BK261) NB261_270.out) NB261_270.out)⟩, ⟨(fa_ (fa_ (h_ BK262) NB262_270.out) NB262_270.out)⟩, ⟨(fa_ (fa_ (h_ BK263) NB263_270.out) NB263_270.out)⟩, ⟨(pu_ (cs := #[.string t272, .slice none 0 0]) (pu_ (cs := #[.string (⟨#[]⟩ : ByteArray), .slice none 0 0]) (h_ BK270)))⟩, ⟨b_ HB⟩⟩
     ·rw [if_neg c24] at H
      exact absurd H (by simp)
    ·rw [if_neg c23] at H
     exact absurd H (by simp)
   ·replace c22 := Bool.eq_false_iff.mpr c22
    subst c22
    rw [if_neg (show ¬ (false = true) by decide)] at H
    replace H := Option.bind_eq_some_iff.mp H
    obtain ⟨⟨t277, t278, t281⟩, A310, H⟩ := H
    try dsimp only at H
    have A31 := mk0 A310
    clear A310
    have H' := mk0 H
    clear H
    have hnb32 := NB262_261.out
    have hnc32 := NB261_262.out
    have hnb33 := NB262_263.out
    have hnc33 := NB263_262.out
    have hnb34 := NB262_270.out
    have hnc34 := NB270_262.out
    obtain ⟨hcz35_0, hcz35_1, hcz35_2, hfz35_0, hfz35_1, hfz35_2⟩ := c3_ BK262
    go_wp2_with (first | ((with_reducible refine gate_callee (f := 28) rfl ?_); refine gL_ (some 38) Try.func28 #[.string a1, .agg #[.int .i64 a2_0, .string a2_1, .bool a2_2]] (h := ?_); (with_reducible refine (chain_New.calls k a1 a2_0 a2_1 a2_2 t277 t278 t281 _ A31.out).mono ?_); rintro e w36 ⟨v279, rfl, ho0, hb⟩; refine ⟨_, rfl, ?_⟩; have n1_ := mk0 (Kd.R_lower (Kd.R_newB (Kd.R_newM (M := fun k_ => (w.heap.size ≤ k_)) ho0 (bz_ (b_ HB)) (fun k_ h_ => h_)) (g := gb262) (o := .cells #[.int .i64 a2_0, .string a2_1, .bool a2_2] 39 (0, 0)) (h_ BK262)) (bz_ (b_ HB))); replace HO267 := mk0 (Kd.N_elder' (nn_ HO267) (Kd.R_base ho0) hb); replace BK261 := mk0 (u_ BK261 hb); replace BK262 := mk0 (u_ BK262 hb); replace BK263 := mk0 (u_ BK263 hb); replace BK270 := mk0 (blk_below (g := gb270) (o := .cells #[.string (⟨#[]⟩ : ByteArray), .slice none 0 0] 30 (0, 0)) (h_ BK270) hb); replace HB := mk0 (bt_ (b_ HB) hb); have HO280 := n1_; clear n1_; (try clear hb); (try clear ho0); have hnb37 := NB270_261.out; have hnc37 := NB261_270.out; have hnb38 := NB270_263.out; have hnc38 := NB263_270.out; obtain ⟨hcz39_0, hcz39_1, hfz39_0, hfz39_1⟩ := c2_ BK270; obtain ⟨Ao40, co40, eo40⟩ := Kd.R_slice HO280.out; subst eo40))
    go_meet
    case rel => exact ⟨_, (t281), (t277), (t278), (.slice Ao40 t278.length co40), (by first | rfl | (simp; done) | (simp [*]; done)), H', ⟨by first | omega | exact Nat.le_refl _⟩, ⟨by (with_reducible repeat (first | apply Kd.N_alloc | apply Kd.N_drewN | apply Kd.N_drew)); exact Kd.N_mono (Kd.N_far (p := ⟨gb270, 1, none⟩) (Kd.N_far (p := ⟨gb270, 0, none⟩) (Kd.N_mono HO267.out (fun k_ hk => (⟨hk, hk.1.2⟩ : _ ∧ k_ ≠ gb270))) (fun _ hk => hk.2) (.string t277)) (fun _ hk => hk.2) (.slice Ao40 t278.length co40)) (fun _ hk => ⟨hk.1.1.1.1, ⟨hk.1.2, ⟨hk.1.1.1.2.1, ⟨hk.1.1.1.2.2.1, ⟨hk.1.1.1.2.2.2, hk.1.1.2⟩⟩⟩⟩⟩)⟩, ⟨by (with_reducible repeat (first | apply Ra_ | apply Rn_ | apply Rd_)); exact Kd.R_mono (Kd.R_far (p := ⟨gb270, 1, none⟩) (Kd.R_far (p := ⟨gb270, 0, none⟩) (Kd.R_types HO280.out BK270.out (by decide)) (fun _ hk => hk.2) (.string t277)) (fun _ hk => hk.2) (.slice Ao40 t278.length co40)) (fun _ hk => ⟨hk.1.1.1, hk.1.2⟩)⟩, ⟨(fa_ (fa_ (h_ BK261) NB261_270.out) NB261_270.out)⟩, ⟨(fa_ (fa_ (h_ BK262) NB262_270.out) NB262_270.out)⟩, ⟨(fa_ (fa_ (h_ BK263) NB263_270.out) NB263_270.out)⟩, ⟨(pu_ (cs := #[.string t277, .slice none 0 0]) (pu_ (cs := #[.string (⟨#[]⟩ : ByteArray), .slice none 0 0]) (h_ BK270)))⟩, ⟨b_ HB⟩⟩
  case rest =>
   clear HC8
   try clear c5
   try clear c22
   try clear c23
   try clear c23b0
   try clear c24
   try clear c24b0
   try clear hcz14_0
   try clear hcz16_0
   try clear hcz19_0
   try clear hcz35_0
   try clear hcz35_1
   try clear hcz35_2
   try clear hcz39_0
   try clear hcz39_1
   try clear hfz14_0
   try clear hfz16_0
   try clear hfz19_0
   try clear hfz35_0
   try clear hfz35_1
   try clear hfz35_2
   try clear hfz39_0
   try clear hfz39_1
   try clear hx271_0
   try clear hx271_1
   try clear p271
   try clear q271
   obtain ⟨kq, x11_7, x271000_7, x271001_7, u271001, rfl, HA, HJ7, HO_262000, HO_271001, BK261, BK262, BK263, BK270, HB⟩ := hcut
   cases kq with
   | zero => exact absurd HA.out (by simp [table_Put.j0])
   | succ kj7 =>
    have H := HA.out
    clear HA
    simp only [table_Put.j0] at H
    as_aux_lemma =>
     by_cases c41 : x11_7 = 0
     ·rw [if_pos c41] at H
      have c41b0 : (x11_7 == 0) = true := beq_iff_eq.mpr c41
      have c41b1 : (x11_7 != 0) = false := bne_eq_false_iff_eq.mpr c41
      clear c41
      replace H := Option.bind_eq_some_iff.mp H
      obtain ⟨t282, A420, H⟩ := H
      try dsimp only at H
      have A42 := mk0 A420
      clear A420
      by_cases c43 : t282 ≥ 64
      ·rw [if_pos c43] at H
       have c43b0 : decide (64 ≤ t282) = true := decide_eq_true c43
       clear c43
       simp only [Option.some.injEq, Prod.mk.injEq] at H
       obtain ⟨rfl, rfl⟩ := H
       have hnb44 := NB261_262.out
       have hnc44 := NB262_261.out
       have hnb45 := NB261_263.out
       have hnc45 := NB263_261.out
       have hnb46 := NB261_270.out
       have hnc46 := NB270_261.out
       obtain ⟨hcz47_0, hfz47_0⟩ := c1_ BK261
       go_wp2_with (first | ((with_reducible refine gate_callee (f := 134) rfl ?_); refine gL_ (some 55) Try.func134 #[.agg #[.slice Ao18 t265.length co18]] (h := ?_); (with_reducible refine (table_Rooms.calls kj7 _ _ t265 t282 _ ?side1 ?side2 A42.out).mono ?_); (case side1 => repeat (first | exact (Kd.N_reads' HO_262000.out).2.2 | (with_reducible refine Kd.C_alloc ?_ _) | (with_reducible refine Kd.C_drewN ?_ _) | (with_reducible refine Kd.C_drew ?_))); (case side2 => exact (Kd.N_reads' HO_262000.out).2.1); rintro e w48 ⟨rfl, hb⟩; refine ⟨_, rfl, ?_⟩; replace HO_262000 := mk0 (Kd.N_below (nn_ HO_262000) hb); replace HO_271001 := mk0 (Kd.R_below (r_ HO_271001) hb); replace BK261 := mk0 (u_ BK261 hb); replace BK262 := mk0 (u_ BK262 hb); replace BK263 := mk0 (u_ BK263 hb); replace BK270 := mk0 (u_ BK270 hb); replace HB := mk0 (bt_ (b_ HB) hb); (try clear hb); have hnb49 := NB263_262.out; have hnc49 := NB262_263.out; have hnb50 := NB263_270.out; have hnc50 := NB270_263.out; obtain ⟨hcz51_0, hfz51_0⟩ := c1_ BK263))
       refine bodyPost_ret (results_ct rfl _ _ gb263 79 #[.slice none 0 0] (0, 0) _ rfl (pu_ (cs := #[.slice none 0 0]) (h_ BK263)) Try.underlying79 rfl (by kernel_rfl)) rfl ?_
       exact ⟨_, by first | rfl | (simp [errW_none, errW_some] <;> rfl) | (simp [*, errW_none, errW_some] <;> rfl), by first | exact Kd.S_nil _ _ _ _ _ | exact Kd.N_nil _ _ _ _ _ | exact Kd.V_nil _ _ _ _ _ | exact Kd.Q_nil _ _ _ _ _ | exact Kd.R_nil _ _ _ _ _, b_ HB⟩
      ·rw [if_neg c43] at H
       have c43b0 : decide (64 ≤ t282) = false := decide_eq_false c43
       clear c43
       by_cases c52 : t269 = true
       ·subst c52
        rw [if_pos rfl] at H
        by_cases c53 : 0 ≤ t268
        ·rw [if_pos c53] at H
         have c53b0 : decide (0 ≤ t268) = true := decide_eq_true c53
         clear c53
         by_cases c54 : t268 < (t265.length : Int)
         ·rw [if_pos c54] at H
          have c54b0 : decide (t268 < (t265.length : Int)) = true := decide_eq_true c54
          clear c54
          obtain ⟨y283, hy283⟩ : ∃ y_ : List (S30), y_ = (t265.set (t268 : Int).toNat (⟨x271000_7, x271001_7⟩ : S30)) := ⟨_, rfl⟩
          replace H : (some (y283, 0)) = some (r1, r2) := by first | (rw [hy283]; with_reducible exact H) | (have H2_ := (Option.bind_some _ _).symm.trans H; rw [hy283]; with_reducible exact H2_) | (have H2_ := (Option.bind_some _ _).symm.trans H; with_reducible exact H2_) | with_reducible exact H | (rw [hy283]; exact H) | exact H
          have Ny283 := mk0 hy283
          clear hy283
          simp only [Option.some.injEq, Prod.mk.injEq] at H
          obtain ⟨rfl, rfl⟩ := H
          have hnb56 := NB261_262.out
          have hnc56 := NB262_261.out
          have hnb57 := NB261_263.out
          have hnc57 := NB263_261.out
          have hnb58 := NB261_270.out
          have hnc58 := NB270_261.out
          obtain ⟨hcz59_0, hfz59_0⟩ := c1_ BK261
          go_wp2_with (first | ((with_reducible refine gate_callee (f := 134) rfl ?_); refine gL_ (some 55) Try.func134 #[.agg #[.slice Ao18 t265.length co18]] (h := ?_); (with_reducible refine (table_Rooms.calls kj7 _ _ t265 t282 _ ?side1 ?side2 A42.out).mono ?_); (case side1 => repeat (first | exact (Kd.N_reads' HO_262000.out).2.2 | (with_reducible refine Kd.C_alloc ?_ _) | (with_reducible refine Kd.C_drewN ?_ _) | (with_reducible refine Kd.C_drew ?_))); (case side2 => exact (Kd.N_reads' HO_262000.out).2.1); rintro e w60 ⟨rfl, hb⟩; refine ⟨_, rfl, ?_⟩; replace HO_262000 := mk0 (Kd.N_below (nn_ HO_262000) hb); replace HO_271001 := mk0 (Kd.R_below (r_ HO_271001) hb); replace BK261 := mk0 (u_ BK261 hb); replace BK262 := mk0 (u_ BK262 hb); replace BK263 := mk0 (u_ BK263 hb); replace BK270 := mk0 (u_ BK270 hb); replace HB := mk0 (bt_ (b_ HB) hb); (try clear hb); obtain ⟨Ah271001, ch271001, eh271001⟩ := Kd.R_slice HO_271001.out; subst eh271001; obtain ⟨hcz61_0, hfz61_0⟩ := c1_ BK261; have hnb62 := NB270_262.out; have hnc62 := NB262_270.out; have hnb63 := NB270_263.out; have hnc63 := NB263_270.out; obtain ⟨hcz64_0, hcz64_1, hfz64_0, hfz64_1⟩ := c2_ BK270; have p55 : 0 ≤ (t268 : Int) := of_decide_eq_true (by first | (with_reducible assumption) | assumption); have q55 : (t268 : Int) < ((t265.length : Int) : Int) := of_decide_eq_true (by first | (with_reducible assumption) | assumption); obtain ⟨go55, co55, eo55, gb55, gl55, cl55, HG55⟩ := Kd.N_form HO_262000.out (by omega); (first | cases eo55 | (injection eo55 with ea_ en_ ec_; (first | subst ea_ | (injection ea_ with ea_; subst ea_)); subst ec_; clear en_)); have GB55 := mk0 gb55; have GG55 := mk0 HG55; clear gb55 gl55 HG55; obtain ⟨ce55, hcl55, hM55, hcc55, hfr55⟩ := Kd.N_elem HO_262000.out z30 (t268 : Int) p55 q55; obtain ⟨ua55_1, uc55_1, rfl, ul55_1, ge55_1⟩ := k30_openF hM55; have hx55_0 : w60.cell? ⟨go55, (t268 : Int).toNat * 2, none⟩ = some (.string ((rd_T30 t265 t268).f0)) := hcc55 0 _ rfl; have hx55_1 : w60.cell? ⟨go55, (t268 : Int).toNat * 2 + 1, none⟩ = some (.slice ua55_1 ((rd_T30 t265 t268).f1).length uc55_1) := hcc55 1 _ rfl; have hf55_0 : w60.frozen? ⟨go55, (t268 : Int).toNat * 2, none⟩ = false := hfr55 0; have hf55_1 : w60.frozen? ⟨go55, (t268 : Int).toNat * 2 + 1, none⟩ = false := hfr55 1; clear hcl55 hcc55 hfr55 hM55; replace p55 := eq_true p55; replace q55 := eq_true q55; have HX65 := mk0 (show Kd.N k30 30 w60 w.heap.size (fun k_ => (w.heap.size ≤ k_) ∧ k_ ≠ gb261 ∧ k_ ≠ gb262 ∧ k_ ≠ gb263 ∧ k_ ≠ gb270) (.slice (some ⟨go55, 0, none⟩) t265.length co18) t265 from (n2_ (Kd.N_mono HO_262000.out (fun _ hk => ⟨hk.1, ⟨hk.2.2.1, ⟨hk.2.2.2.1, ⟨hk.2.2.2.2.1, hk.2.2.2.2.2⟩⟩⟩⟩)))); obtain ⟨ce65, hcl65, hM65, hcc65, hfr65⟩ := Kd.N_elem HX65.out z30 (t268 : Int) (of_decide_eq_true (by first | (with_reducible assumption) | assumption)) (by have h_ : (t268 : Int) < ((t265.length : Int) : Int) := of_decide_eq_true (by first | (with_reducible assumption) | assumption); first | exact h_ | (have e_ := (Kd.N_reads' HO_262000.out).1; omega) | simpa using h_); obtain ⟨ua65_1, uc65_1, rfl, ul65_1, ge65_1⟩ := k30_openF hM65; have HP65 := Kd.N_seg HX65.out (t268 : Int) (of_decide_eq_true (by first | (with_reducible assumption) | assumption)) (by have h_ : (t268 : Int) < ((t265.length : Int) : Int) := of_decide_eq_true (by first | (with_reducible assumption) | assumption); first | exact h_ | (have e_ := (Kd.N_reads' HO_262000.out).1; omega) | simpa using h_) (seg := [.string x271000_7, (.slice Ah271001 x271001_7.length ch271001)]) (j := 0) hcl65 hcc65 (show 2 ≤ 2 from by decide) (x' := (⟨x271000_7, x271001_7⟩ : S30)) (k30_mkF _ _ (⟨x271000_7, x271001_7⟩ : S30) (Kd.R_reads' (Kd.R_mono (ok' := (fun k_ => ((fun k_ => (w.heap.size ≤ k_) ∧ k_ ≠ gb261 ∧ k_ ≠ gb262 ∧ k_ ≠ gb263 ∧ k_ ≠ gb270)) k_ ∧ k_ ≠ go55)) (Kd.R_types (Kd.R_types (Kd.R_types (Kd.R_apart' (HO_271001.out) (Kd.N_typed HO_262000.out) (by decide)) BK261.out (by decide)) BK263.out (by decide)) BK270.out (by decide)) (fun k_ hk => ⟨⟨hk.1.1.1.1.1, ⟨hk.1.1.2, ⟨hk.1.1.1.1.2, ⟨hk.1.2, hk.2⟩⟩⟩⟩, fun e_ => (hk.1.1.1.2) (by rw [e_]; rfl)⟩))).2.1 (Kd.R_F (Kd.R_mono (ok' := (fun k_ => ((fun k_ => (w.heap.size ≤ k_) ∧ k_ ≠ gb261 ∧ k_ ≠ gb262 ∧ k_ ≠ gb263 ∧ k_ ≠ gb270)) k_ ∧ k_ ≠ go55)) (Kd.R_types (Kd.R_types (Kd.R_types (Kd.R_apart' (HO_271001.out) (Kd.N_typed HO_262000.out) (by decide)) BK261.out (by decide)) BK263.out (by decide)) BK270.out (by decide)) (fun k_ hk => ⟨⟨hk.1.1.1.1.1, ⟨hk.1.1.2, ⟨hk.1.1.1.1.2, ⟨hk.1.2, hk.2⟩⟩⟩⟩, fun e_ => (hk.1.1.1.2) (by rw [e_]; rfl)⟩)))) (fun _ hk => hk); have hx65_0 := hcc65 0 _ rfl; (try simp only [show (k30).sz = 2 from rfl, Nat.mul_one, Nat.add_zero] at hx65_0); have hf65_0 := hfr65 0; (try simp only [show (k30).sz = 2 from rfl, Nat.mul_one, Nat.add_zero] at hf65_0); have hx65_1 := hcc65 1 _ rfl; (try simp only [show (k30).sz = 2 from rfl, Nat.mul_one, Nat.add_zero] at hx65_1); have hf65_1 := hfr65 1; (try simp only [show (k30).sz = 2 from rfl, Nat.mul_one, Nat.add_zero] at hf65_1); clear hcl65 hcc65 hfr65 hM65) | ((with_reducible refine gate_store (t := 30) (p := 64) rfl ?_); refine sv_ (t := 30) (p := 64) (w1 := ((w60.setCell ⟨go55, (t268 : Int).toNat * 2, none⟩ (.string x271000_7)).setCell ⟨go55, (t268 : Int).toNat * 2 + 1, none⟩ ((.slice Ah271001 x271001_7.length ch271001)))) (h := ?_); intro w66 hw; have hg : w60.grownBy w66 (some go55) := (by rw [hw]; exact HP65.2); have hp_ : Kd.N k30 30 w66 w.heap.size (fun k_ => (w.heap.size ≤ k_) ∧ k_ ≠ gb261 ∧ k_ ≠ gb262 ∧ k_ ≠ gb263 ∧ k_ ≠ gb270) (.slice (some ⟨go55, 0, none⟩) t265.length co18) y283 := (by rw [hw, Ny283.out]; exact HP65.1); clear HP65; have n1_ := mk0 (blk_grown (g := gb261) (o := .cells #[.slice (some ⟨go55, 0, none⟩) t265.length co18] 79 (0, 0)) (h_ BK261) hg (Kd.N_ne HO_262000.out BK261.out (by decide))); have n2_ := mk0 (blk_grown (g := gb262) (o := .cells #[.int .i64 a2_0, .string a2_1, .bool a2_2] 39 (0, 0)) (h_ BK262) hg (Kd.N_ne HO_262000.out BK262.out (by decide))); have n3_ := mk0 (blk_grown (g := gb263) (o := .cells #[.slice none 0 0] 79 (0, 0)) (h_ BK263) hg (Kd.N_ne HO_262000.out BK263.out (by decide))); have n4_ := mk0 (blk_grown (g := gb270) (o := .cells #[.string x271000_7, (.slice Ah271001 x271001_7.length ch271001)] 30 (0, 0)) (h_ BK270) hg (Kd.N_away HO_262000.out (fun _ hk => hk.2.2.2.2.2))); replace HO_262000 := mk0 (hp_); replace HB := mk0 ((by rw [hw]; exact bs_ (bs_ (HB.out) GB55.out) GB55.out : Below w.heap.size w w66)); clear BK261 BK262 BK263 BK270 HO_271001; have BK261 := n1_; have BK262 := n2_; have BK263 := n3_; have BK270 := n4_; clear n1_ n2_ n3_ n4_ hg hw hp_; obtain ⟨hcz67_0, hfz67_0⟩ := c1_ BK261; have hnb68 := NB263_262.out; have hnc68 := NB262_263.out; obtain ⟨hcz69_0, hfz69_0⟩ := c1_ BK263))
          refine bodyPost_ret (results_ct rfl _ _ gb263 79 #[.slice (some ⟨go55, 0, none⟩) t265.length co18] (0, 0) _ rfl (pu_ (cs := #[.slice none 0 0]) (h_ BK263)) Try.underlying79 rfl (by kernel_rfl)) rfl ?_
          exact ⟨_, by first | rfl | (simp [errW_none, errW_some] <;> rfl) | (simp [*, errW_none, errW_some] <;> rfl), by (with_reducible repeat (first | apply Kd.N_alloc | apply Kd.N_drewN | apply Kd.N_drew)); exact Kd.N_mono (Kd.N_far (p := ⟨gb263, 0, none⟩) (Kd.N_mono HO_262000.out (fun k_ hk => (⟨hk, hk.2.2.2.1⟩ : _ ∧ k_ ≠ gb263))) (fun _ hk => hk.2) (.slice (some ⟨go55, 0, none⟩) t265.length co18)) (fun _ hk => hk.1.1), b_ HB⟩
         ·rw [if_neg c54] at H
          exact absurd H (by simp)
        ·rw [if_neg c53] at H
         exact absurd H (by simp)
       ·replace c52 := Bool.eq_false_iff.mpr c52
        subst c52
        rw [if_neg (show ¬ (false = true) by decide)] at H
        obtain ⟨y284, hy284⟩ : ∃ y_ : List (S30), y_ = (([(⟨x271000_7, x271001_7⟩ : S30)] : List (S30))) := ⟨_, rfl⟩
        replace H : ((api_Chain_137.f t265 t268 y284).bind fun t287 => (some (t287, 0))) = some (r1, r2) := by first | (rw [hy284]; with_reducible exact H) | (have H2_ := (Option.bind_some _ _).symm.trans H; rw [hy284]; with_reducible exact H2_) | (have H2_ := (Option.bind_some _ _).symm.trans H; with_reducible exact H2_) | with_reducible exact H | (rw [hy284]; exact H) | exact H
        have Ny284 := mk0 hy284
        clear hy284
        replace H := Option.bind_eq_some_iff.mp H
        obtain ⟨t287, A700, H⟩ := H
        try dsimp only at H
        have A70 := mk0 A700
        clear A700
        simp only [Option.some.injEq, Prod.mk.injEq] at H
        obtain ⟨rfl, rfl⟩ := H
        have hnb71 := NB261_262.out
        have hnc71 := NB262_261.out
        have hnb72 := NB261_263.out
        have hnc72 := NB263_261.out
        have hnb73 := NB261_270.out
        have hnc73 := NB270_261.out
        obtain ⟨hcz74_0, hfz74_0⟩ := c1_ BK261
        go_wp2_with (first | ((with_reducible refine gate_callee (f := 134) rfl ?_); refine gL_ (some 55) Try.func134 #[.agg #[.slice Ao18 t265.length co18]] (h := ?_); (with_reducible refine (table_Rooms.calls kj7 _ _ t265 t282 _ ?side1 ?side2 A42.out).mono ?_); (case side1 => repeat (first | exact (Kd.N_reads' HO_262000.out).2.2 | (with_reducible refine Kd.C_alloc ?_ _) | (with_reducible refine Kd.C_drewN ?_ _) | (with_reducible refine Kd.C_drew ?_))); (case side2 => exact (Kd.N_reads' HO_262000.out).2.1); rintro e w75 ⟨rfl, hb⟩; refine ⟨_, rfl, ?_⟩; replace HO_262000 := mk0 (Kd.N_below (nn_ HO_262000) hb); replace HO_271001 := mk0 (Kd.R_below (r_ HO_271001) hb); replace BK261 := mk0 (u_ BK261 hb); replace BK262 := mk0 (u_ BK262 hb); replace BK263 := mk0 (u_ BK263 hb); replace BK270 := mk0 (u_ BK270 hb); replace HB := mk0 (bt_ (b_ HB) hb); (try clear hb); obtain ⟨hcz76_0, hfz76_0⟩ := c1_ BK261; have hnb77 := NB270_262.out; have hnc77 := NB262_270.out; have hnb78 := NB270_263.out; have hnc78 := NB263_270.out; obtain ⟨hcz79_0, hcz79_1, hfz79_0, hfz79_1⟩ := c2_ BK270; obtain ⟨Ao80, co80, eo80⟩ := Kd.R_slice HO_271001.out; subst eo80) | ((with_reducible refine gate_dst (N := 45) rfl ?_); refine Kd.N_lit k30 _ 30 ?hg (N' := 45) ?hd (xs := ([(⟨x271000_7, x271001_7⟩ : S30)] : List (S30))) (inner := [.string x271000_7, .slice Ao80 x271001_7.length co80]) (ok := (fun k_ => (w.heap.size ≤ k_) ∧ some k_ ≠ (.slice Ao18 t265.length co18 : Value).ownBlock ∧ k_ ≠ gb261 ∧ k_ ≠ gb262 ∧ k_ ≠ gb263 ∧ k_ ≠ gb270)) (okp := (fun k_ => (w.heap.size ≤ k_) ∧ some k_ ≠ (.slice Ao18 t265.length co18 : Value).ownBlock ∧ k_ ≠ gb261 ∧ k_ ≠ gb262 ∧ k_ ≠ gb263 ∧ k_ ≠ gb270)) ?hr ?hp (fun _ hk => hk) ((show ∀ k_, w75.heap.size ≤ k_ → (fun k_ => (w.heap.size ≤ k_) ∧ some k_ ≠ (.slice Ao18 t265.length co18 : Value).ownBlock ∧ k_ ≠ gb261 ∧ k_ ≠ gb262 ∧ k_ ≠ gb263 ∧ k_ ≠ gb270) k_ from fun k_ hk => ⟨(Nat.le_trans (bz_ (b_ HB)) hk), Kd.fresh' (Kd.N_lt (nn_ HO_262000)) k_ hk, Kd.freshB (g := gb261) (o := .cells #[.slice Ao18 t265.length co18] 79 (0, 0)) (h_ BK261) k_ hk, Kd.freshB (g := gb262) (o := .cells #[.int .i64 a2_0, .string a2_1, .bool a2_2] 39 (0, 0)) (h_ BK262) k_ hk, Kd.freshB (g := gb263) (o := .cells #[.slice none 0 0] 79 (0, 0)) (h_ BK263) k_ hk, Kd.freshB (g := gb270) (o := .cells #[.string x271000_7, .slice Ao80 x271001_7.length co80] 30 (0, 0)) (h_ BK270) k_ hk⟩) _ (Nat.le_refl _)) (Below.refl _ _) (Nat.le_refl _) (by simp) ?_; (case hd => rfl); (case hg => rfl); (case hr => first | (go_simp; done) | (go_simp; rfl)); (case hp => exact (Reps.c2 (show Kd.FK k30 _ _ (⟨x271000_7, x271001_7⟩ : S30) [.string x271000_7, .slice Ao80 x271001_7.length co80] from (k30_mkF _ _ (⟨x271000_7, x271001_7⟩ : S30) (Kd.R_reads' (Kd.R_mono (ok' := (fun k_ => (w.heap.size ≤ k_) ∧ some k_ ≠ (.slice Ao18 t265.length co18 : Value).ownBlock ∧ k_ ≠ gb261 ∧ k_ ≠ gb262 ∧ k_ ≠ gb263 ∧ k_ ≠ gb270)) (Kd.R_types (Kd.R_types (Kd.R_types (Kd.R_apart' (HO_271001.out) (Kd.N_typed HO_262000.out) (by decide)) BK261.out (by decide)) BK263.out (by decide)) BK270.out (by decide)) (fun k_ hk => ⟨hk.1.1.1.1.1, ⟨hk.1.1.1.2, ⟨hk.1.1.2, ⟨hk.1.1.1.1.2, ⟨hk.1.2, hk.2⟩⟩⟩⟩⟩))).2.1 (Kd.R_F (Kd.R_mono (ok' := (fun k_ => (w.heap.size ≤ k_) ∧ some k_ ≠ (.slice Ao18 t265.length co18 : Value).ownBlock ∧ k_ ≠ gb261 ∧ k_ ≠ gb262 ∧ k_ ≠ gb263 ∧ k_ ≠ gb270)) (Kd.R_types (Kd.R_types (Kd.R_types (Kd.R_apart' (HO_271001.out) (Kd.N_typed HO_262000.out) (by decide)) BK261.out (by decide)) BK263.out (by decide)) BK270.out (by decide)) (fun k_ hk => ⟨hk.1.1.1.1.1, ⟨hk.1.1.1.2, ⟨hk.1.1.2, ⟨hk.1.1.1.1.2, ⟨hk.1.2, hk.2⟩⟩⟩⟩⟩))))) (Reps.none _ _))); intro v285 w81 ho82 hb hg_ hnew_; clear hg_ hnew_; (first | rw [← Ny284.out] at ho82 | (simp only [Int.reduceToNat] at ho82; rw [← Ny284.out] at ho82)); have n1_ := mk0 (Kd.N_lower ho82 (bz_ (b_ HB))); replace HO_262000 := mk0 (Kd.N_elder' (nn_ HO_262000) (Kd.N_base ho82) hb); replace BK261 := mk0 (u_ BK261 hb); replace BK262 := mk0 (u_ BK262 hb); replace BK263 := mk0 (u_ BK263 hb); replace BK270 := mk0 (u_ BK270 hb); replace HB := mk0 (bt_ (b_ HB) hb); clear HO_271001; have HO286 := n1_; clear n1_ hb ho82; obtain ⟨Ao83, co83, eo83⟩ := Kd.N_slice HO286.out; subst eo83) | ((with_reducible refine gate_callee (f := 137) rfl ?_); refine gL_ (some 46) Try.func137 #[.slice Ao18 t265.length co18, .int .i64 t268, .slice Ao83 y284.length co83] (h := ?_); (with_reducible refine (api_Chain_137.calls (fun k_ => ((w.heap.size ≤ k_) ∧ (k_ ≠ gb261 ∧ (k_ ≠ gb262 ∧ (k_ ≠ gb263 ∧ (k_ ≠ gb270 ∧ some k_ ≠ (.slice Ao83 y284.length co83 : Value).ownBlock)))))) (.slice Ao18 t265.length co18) t265 t268 (fun k_ => ((w.heap.size ≤ k_) ∧ (some k_ ≠ (.slice Ao18 t265.length co18 : Value).ownBlock ∧ (k_ ≠ gb261 ∧ (k_ ≠ gb262 ∧ (k_ ≠ gb263 ∧ k_ ≠ gb270)))))) (.slice Ao83 y284.length co83) y284 t287 w _ ?side1 ?side2 ?side3 ?side4 ?side5 A70.out).mono ?_); (case side1 => repeat (first | (with_reducible first | exact HB.out | apply bL_ | apply pN_ | apply b1_ | refine bs_ ?_ GE261.out | refine bs_ ?_ GE262.out | refine bs_ ?_ GE263.out | refine bs_ ?_ GE270.out) | exact HB.out)); (case side2 => exact Kd.N_mono (ok' := fun k_ => ((w.heap.size ≤ k_) ∧ (k_ ≠ gb261 ∧ (k_ ≠ gb262 ∧ (k_ ≠ gb263 ∧ (k_ ≠ gb270 ∧ some k_ ≠ (.slice Ao83 y284.length co83 : Value).ownBlock)))))) (HO_262000.out) (fun k_ hk_ => ⟨hk_.1.1, ⟨hk_.1.2.2.1, ⟨hk_.1.2.2.2.1, ⟨hk_.1.2.2.2.2.1, ⟨hk_.1.2.2.2.2.2, hk_.2⟩⟩⟩⟩⟩)); (case side3 => exact fun k_ hk_ => hk_.2.2.2.2.2); (case side4 => exact Kd.N_mono (ok' := fun k_ => ((w.heap.size ≤ k_) ∧ (some k_ ≠ (.slice Ao18 t265.length co18 : Value).ownBlock ∧ (k_ ≠ gb261 ∧ (k_ ≠ gb262 ∧ (k_ ≠ gb263 ∧ k_ ≠ gb270)))))) (HO286.out) (fun k_ hk_ => ⟨hk_.1, ⟨hk_.2.1, ⟨hk_.2.2.1, ⟨hk_.2.2.2.1, ⟨hk_.2.2.2.2.1, hk_.2.2.2.2.2⟩⟩⟩⟩⟩)); (case side5 => exact fun k_ hk_ => hk_.2.1); rintro e w84 ⟨v288, rfl, ho0, hb, hkp⟩; refine ⟨_, rfl, ?_⟩; have n4_ := mk0 (Kd.N_mono (ok' := fun k_ => (w.heap.size ≤ k_) ∧ k_ ≠ gb261 ∧ k_ ≠ gb262 ∧ k_ ≠ gb263 ∧ k_ ≠ gb270) ho0 (fun k_ hk_ => ⟨Or.elim hk_ (fun hs_ => Or.elim hs_ (fun hs_ => hs_.1) (fun hs_ => hs_.1)) (fun hn_ => (Nat.le_trans (bz_ (b_ HB)) hn_)), Or.elim hk_ (fun hs_ => Or.elim hs_ (fun hs_ => hs_.2.1) (fun hs_ => hs_.2.2.1)) (fun hn_ => (Kd.freshB (g := gb261) (o := .cells #[.slice Ao18 t265.length co18] 79 (0, 0)) (h_ BK261) k_ hn_)), Or.elim hk_ (fun hs_ => Or.elim hs_ (fun hs_ => hs_.2.2.1) (fun hs_ => hs_.2.2.2.1)) (fun hn_ => (Kd.freshB (g := gb262) (o := .cells #[.int .i64 a2_0, .string a2_1, .bool a2_2] 39 (0, 0)) (h_ BK262) k_ hn_)), Or.elim hk_ (fun hs_ => Or.elim hs_ (fun hs_ => hs_.2.2.2.1) (fun hs_ => hs_.2.2.2.2.1)) (fun hn_ => (Kd.freshB (g := gb263) (o := .cells #[.slice none 0 0] 79 (0, 0)) (h_ BK263) k_ hn_)), Or.elim hk_ (fun hs_ => Or.elim hs_ (fun hs_ => hs_.2.2.2.2.1) (fun hs_ => hs_.2.2.2.2.2)) (fun hn_ => (Kd.freshB (g := gb270) (o := .cells #[.string x271000_7, .slice Ao80 x271001_7.length co80] 30 (0, 0)) (h_ BK270) k_ hn_))⟩)); replace BK261 := mk0 (blk_kept (h_ BK261) hkp (fun hs_ => Or.elim hs_ (fun e_ => (fun e_ => (Kd.N_ne HO_262000.out BK261.out (by decide)) e_) e_) (fun e_ => (fun e_ => (Kd.N_ne HO286.out BK261.out (by decide)) e_) e_))); replace BK262 := mk0 (blk_kept (h_ BK262) hkp (fun hs_ => Or.elim hs_ (fun e_ => (fun e_ => (Kd.N_ne HO_262000.out BK262.out (by decide)) e_) e_) (fun e_ => (fun e_ => (Kd.N_ne HO286.out BK262.out (by decide)) e_) e_))); replace BK263 := mk0 (blk_kept (h_ BK263) hkp (fun hs_ => Or.elim hs_ (fun e_ => (fun e_ => (Kd.N_ne HO_262000.out BK263.out (by decide)) e_) e_) (fun e_ => (fun e_ => (Kd.N_ne HO286.out BK263.out (by decide)) e_) e_))); replace BK270 := mk0 (blk_kept (h_ BK270) hkp (fun hs_ => Or.elim hs_ (fun e_ => (fun e_ => (Kd.N_away HO_262000.out (fun _ hk => hk.1.2.2.2.2.2)) e_) e_) (fun e_ => (fun e_ => (Kd.N_away HO286.out (fun _ hk => hk.2.2.2.2.2)) e_) e_))); replace HB := mk0 (hb); clear HO286 HO_262000; have HO289 := n4_; clear n4_; (try clear hb); (try clear hkp); (try clear ho0); obtain ⟨Ao85, co85, eo85⟩ := Kd.N_slice HO289.out; subst eo85; obtain ⟨hcz86_0, hfz86_0⟩ := c1_ BK261; have hnb87 := NB263_262.out; have hnc87 := NB262_263.out; obtain ⟨hcz88_0, hfz88_0⟩ := c1_ BK263))
        refine bodyPost_ret (results_ct rfl _ _ gb263 79 #[.slice Ao85 t287.length co85] (0, 0) _ rfl (pu_ (cs := #[.slice none 0 0]) (fa_ (h_ BK263) NB263_261.out)) Try.underlying79 rfl (by kernel_rfl)) rfl ?_
        exact ⟨_, by first | rfl | (simp [errW_none, errW_some] <;> rfl) | (simp [*, errW_none, errW_some] <;> rfl), by (with_reducible repeat (first | apply Kd.N_alloc | apply Kd.N_drewN | apply Kd.N_drew)); exact Kd.N_mono (Kd.N_far (p := ⟨gb263, 0, none⟩) (Kd.N_far (p := ⟨gb261, 0, none⟩) (Kd.N_mono (Kd.N_mono HO289.out (fun k_ hk => (⟨hk, hk.2.1⟩ : _ ∧ k_ ≠ gb261))) (fun k_ hk => (⟨hk, hk.1.2.2.2.1⟩ : _ ∧ k_ ≠ gb263))) (fun _ hk => hk.1.2) (.slice Ao85 t287.length co85)) (fun _ hk => hk.2) (.slice Ao85 t287.length co85)) (fun _ hk => hk.1.1.1), b_ HB⟩
     ·rw [if_neg c41] at H
      have c41b0 : (x11_7 == 0) = false := beq_eq_false_iff_ne.mpr c41
      have c41b1 : (x11_7 != 0) = true := bne_iff_ne.mpr c41
      simp only [Option.some.injEq, Prod.mk.injEq] at H
      obtain ⟨rfl, rfl⟩ := H
      have hnb89 := NB263_261.out
      have hnc89 := NB261_263.out
      have hnb90 := NB263_262.out
      have hnc90 := NB262_263.out
      have hnb91 := NB263_270.out
      have hnc91 := NB270_263.out
      obtain ⟨hcz92_0, hfz92_0⟩ := c1_ BK263
      go_wp2
      refine bodyPost_ret (results_ct rfl _ _ gb263 79 #[.slice none 0 0] (0, 0) _ rfl (pu_ (cs := #[.slice none 0 0]) (h_ BK263)) Try.underlying79 rfl (by kernel_rfl)) rfl ?_
      exact ⟨_, by first | rfl | (simp [errW_none, errW_some] <;> rfl) | (simp [*, errW_none, errW_some] <;> rfl), by first | exact Kd.S_nil _ _ _ _ _ | exact Kd.N_nil _ _ _ _ _ | exact Kd.V_nil _ _ _ _ _ | exact Kd.Q_nil _ _ _ _ _ | exact Kd.R_nil _ _ _ _ _, b_ HB⟩
 ·replace c5 := Bool.eq_false_iff.mpr c5
  subst c5
  rw [if_neg (show ¬ (false = true) by decide)] at H
  simp only [Option.some.injEq, Prod.mk.injEq] at H
  obtain ⟨rfl, rfl⟩ := H
  go_enter Try.func92, Try.ntmps92
  go_wp2_with (first | ((with_reducible refine gate_dst (N := 3) rfl ?_); refine bx_ (N := 3) (cs := #[.slice A0_0 l0_0.length c0_0]) (t := 79) (h := ?_); intro gb261 hg w93 hbox hb; have n2_ := mk0 (gz_ HB hg); have n3_ := mk0 (gz_ HB hg); replace HB := mk0 (bt_ (b_ HB) hb); have BK261 := mk0 (hbox); have GW261 := n2_; have GE261 := n3_; clear n2_ n3_; clear hb hbox hg) | ((with_reducible refine gate_dst (N := 5) rfl ?_); refine bx_ (N := 5) (cs := #[.int .i64 a2_0, .string a2_1, .bool a2_2]) (t := 39) (h := ?_); intro gb262 hg w94 hbox hb; have n3_ := mk0 (gz_ HB hg); have n4_ := mk0 (gz_ HB hg); have n5_ := mk0 (ne1_ BK261 hg); have n6_ := mk0 (ne2_ BK261 hg); replace BK261 := mk0 (u_ BK261 hb); replace HB := mk0 (bt_ (b_ HB) hb); have BK262 := mk0 (hbox); have GW262 := n3_; have GE262 := n4_; have NB261_262 := n5_; have NB262_261 := n6_; clear n3_ n4_ n5_ n6_; clear hb hbox hg) | ((with_reducible refine gate_dst (N := 6) rfl ?_); refine bx_ (N := 6) (cs := #[.slice none 0 0]) (t := 79) (h := ?_); intro gb263 hg w95 hbox hb; have n4_ := mk0 (gz_ HB hg); have n5_ := mk0 (gz_ HB hg); have n6_ := mk0 (ne1_ BK261 hg); have n7_ := mk0 (ne2_ BK261 hg); have n8_ := mk0 (ne1_ BK262 hg); have n9_ := mk0 (ne2_ BK262 hg); replace BK261 := mk0 (u_ BK261 hb); replace BK262 := mk0 (u_ BK262 hb); replace HB := mk0 (bt_ (b_ HB) hb); have BK263 := mk0 (hbox); have GW263 := n4_; have GE263 := n5_; have NB261_263 := n6_; have NB263_261 := n7_; have NB262_263 := n8_; have NB263_262 := n9_; clear n4_ n5_ n6_ n7_ n8_ n9_ hb hbox hg; have hnb96 := NB261_262.out; have hnc96 := NB262_261.out; have hnb97 := NB261_263.out; have hnc97 := NB263_261.out; obtain ⟨hcz98_0, hfz98_0⟩ := c1_ BK261) | ((with_reducible refine gate_callee (f := 89) rfl ?_); refine gL_ (some 13) Try.func89 #[.agg #[.slice A0_0 l0_0.length c0_0]] (h := ?_); (with_reducible refine (table_May.calls k _ _ l0_0 false _ ?side1 ?side2 A4.out).mono ?_); (case side1 => exact cb_ HR0_0 HB); (case side2 => exact HC0_0.out); rintro e w99 ⟨rfl, hb⟩; refine ⟨_, rfl, ?_⟩; replace BK261 := mk0 (u_ BK261 hb); replace BK262 := mk0 (u_ BK262 hb); replace BK263 := mk0 (u_ BK263 hb); replace HB := mk0 (bt_ (b_ HB) hb); (try clear hb); have hnb100 := NB263_262.out; have hnc100 := NB262_263.out; obtain ⟨hcz101_0, hfz101_0⟩ := c1_ BK263))
  refine bodyPost_ret (results_ct rfl _ _ gb263 79 #[.slice none 0 0] (0, 0) _ rfl (pu_ (cs := #[.slice none 0 0]) (h_ BK263)) Try.underlying79 rfl (by kernel_rfl)) rfl ?_
  exact ⟨_, by first | rfl | (simp [errW_none, errW_some] <;> rfl) | (simp [*, errW_none, errW_some] <;> rfl), by first | exact Kd.S_nil _ _ _ _ _ | exact Kd.N_nil _ _ _ _ _ | exact Kd.V_nil _ _ _ _ _ | exact Kd.Q_nil _ _ _ _ _ | exact Kd.R_nil _ _ _ _ _, b_ HB⟩

end Go.Proofs.Ytoodkefpkgbjcaa.PTbp
