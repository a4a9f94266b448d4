-- PRINTED by print.py (a twelfth state) out of the translation. Not trusted: Lean checks it.
import Derived.Test.YtbaecdcfefmcgaaPVowx0
import Derived.Test.YtbaecdcfefmcgaaPVowx1
import Derived.Test.YtbaecdcfefmcgaaPVowx7
import Derived.Test.YtbaecdcfefmcgaaHLook
import Derived.Test.YtbaecdcfefmcgaaShelfP
namespace Go.Proofs.Ytbaecdcfefmcgaa.PVow
open Go.RowKit Go.Proofs.YtbaecdcfefmcgaaW.PrintWords Go.Proofs.YtbaecdcfefmcgaaW.PrintLast Go.Proofs.YtbaecdcfefmcgaaW.PrintMore
attribute [local go_sem] max2_int min2_int max_two min_two max_three min_three max_four min_four   -- for this text's walks alone
set_option linter.unusedVariables false
set_option linter.unusedSimpArgs false

/-! ### pend_Look: function 98 (by hand) -/
def pend_Look.last (l : List (S36)) (t : Int) (k : ByteArray) : Option (S36) := l.reverse.find? (fun x => (x.f0 == t) && (x.f1.toList == k.toList))
def pend_Look.out : Option (S36) → (Int × ByteArray × ByteArray × Bool × Bool)
  | some x => (x.f0, x.f1, x.f2, x.f3, true)
  | none => (0, ⟨#[]⟩, ⟨#[]⟩, false, false)
def pend_Look.f (l0_0 : List (S36)) (l0_1 : List Int) (a1 : Int) (a2 : ByteArray) : Option (Int × ByteArray × ByteArray × Bool × Bool) := if l0_0.length ≤ 12 then some (pend_Look.out (pend_Look.last l0_0 a1 a2)) else none
theorem pend_Look.row (A0 : Option Addr) (c0 : Nat) (l0 : List (S36)) (w : World) (hr0 : Kd.C k36 w A0 l0.length l0) :
    HBack.Row w.heap.size w (.slice A0 l0.length c0) l0.length (fun j => ((rd_T36 l0 j).f0, (rd_T36 l0 j).f1, (rd_T36 l0 j).f2, (rd_T36 l0 j).f3)) := by
  rcases Nat.eq_zero_or_pos l0.length with h0 | h0
  · exact .inl ⟨A0, c0, by rw [h0], h0⟩
  · obtain ⟨⟨b, off, sp⟩, e1, x0, x1, x2, x3⟩ := at_T36 hr0 0 (by omega) (by omega)
    have x0' : w.cell? ⟨b, off, sp⟩ = some (.int .i64 (rd_T36 l0 0).f0) := x0
    have hb := World.block_lt_of_cell? w _ x0'
    obtain rfl : sp = none := by
      cases sp with
      | none => rfl
      | some s => simp only [World.cell?] at x0'; split at x0' <;> simp at x0'
    have ad_ : ∀ n, (⟨b, off, none⟩ : Addr).add n = ⟨b, off + n, none⟩ := fun n => by unfold Addr.add; split <;> simp_all
    refine .inr ⟨b, off, c0, by rw [e1], hb, fun j hj => ?_⟩
    obtain ⟨ad2, e2, y0, y1, y2, y3⟩ := at_T36 hr0 (j : Int) (by omega) (by omega)
    rw [e1] at e2
    cases e2
    rw [Int.toNat_natCast, ad_] at y0 y1 y2 y3
    exact ⟨y0, y1, y2, y3⟩
set_option maxHeartbeats 1000000 in
theorem pend_Look.calls (A0_0 : Option Addr) (c0_0 : Nat) (l0_0 : List (S36)) (A0_1 : Option Addr) (c0_1 : Nat) (l0_1 : List Int) (a1 : Int) (a2 : ByteArray) (r1 : Int) (r2 : ByteArray) (r3 : ByteArray) (r4 : Bool) (r5 : Bool) (w : World) (hr0_0 : Kd.C k36 w A0_0 l0_0.length l0_0) (hc0_0 : l0_0.length ≤ c0_0) (hr0_1 : Kd.C (Kd.int .i64) w A0_1 l0_1.length l0_1) (hc0_1 : l0_1.length ≤ c0_1) (h : pend_Look.f l0_0 l0_1 a1 a2 = some (r1, r2, r3, r4, r5)) :
    Calls Try.prog 98 #[.agg #[.slice A0_0 l0_0.length c0_0, .slice A0_1 l0_1.length c0_1], .int .i64 a1, .string a2] w fun e w' => e = .returned (.tuple #[.agg #[.int .i64 r1, .string r2, .string r3, .bool r4], .bool r5]) ∧ Below w.heap.size w w' := by
  unfold pend_Look.f at h
  split at h
  · rename_i h12
    have h2 := Option.some.inj h
    have hrd : ∀ k, k < l0_0.length → ∀ h3 : k < l0_0.reverse.length, l0_0.reverse[k] = rd_T36 l0_0 ((l0_0.length - 1 - k : Nat) : Int) := fun k hk h3 => by
      rw [List.getElem_reverse]
      simp [rd_T36, List.getD_eq_getElem?_getD, List.getElem?_eq_getElem (show l0_0.length - 1 - k < l0_0.length by omega)]
    refine (callsIn_wide (n := 3)).1 ((HBack.look_in Fence.wide 3 trivial trivial trivial rfl (Nat.le_refl _) A0_0 l0_0.length c0_0 (.slice A0_1 l0_1.length c0_1) a1 a2 _ (by omega) w (pend_Look.row A0_0 c0_0 l0_0 w hr0_0)).mono ?_)
    rintro r w' ⟨hB, ⟨k, hk, hx, hp, rfl⟩ | ⟨hn, rfl⟩⟩
    · have e : pend_Look.last l0_0 a1 a2 = some (rd_T36 l0_0 ((l0_0.length - 1 - k : Nat) : Int)) := by
        unfold pend_Look.last
        rw [List.find?_eq_some_iff_getElem]
        refine ⟨by simpa [HBack.hit] using hx, k, by simpa using hk, hrd k hk (by simpa using hk), fun j hj => ?_⟩
        rw [hrd j (by omega) (by simp; omega)]
        have h3 := hp j hj
        simp only [HBack.hit] at h3
        simp only [h3, Bool.not_false]
      rw [e] at h2
      simp only [pend_Look.out, Prod.mk.injEq] at h2
      obtain ⟨rfl, rfl, rfl, rfl, rfl⟩ := h2
      exact ⟨rfl, hB⟩
    · have e : pend_Look.last l0_0 a1 a2 = none := by
        unfold pend_Look.last
        rw [List.find?_eq_none]
        intro x hx
        obtain ⟨j, hj, rfl⟩ := List.mem_iff_getElem.1 hx
        have hj2 : j < l0_0.length := by simpa using hj
        rw [hrd j hj2 hj]
        simpa [HBack.hit] using hn j hj2
      rw [e] at h2
      simp only [pend_Look.out, Prod.mk.injEq] at h2
      obtain ⟨rfl, rfl, rfl, rfl, rfl⟩ := h2
      exact ⟨rfl, hB⟩
  · cases h


-- NOT PRINTED: function 197 (bytealg_abigen_runtime_cmpstring)

-- NOT PRINTED: function 175 (bytealg_CompareString)

-- NOT PRINTED: function 139 (strings_Compare)

-- NOT PRINTED: function 169 (table_seek_1)

/-! ### api_Chain_string: function 168 (by hand) -/
def api_Chain_string.cmp (a b : ByteArray) : Int := Lib.compareBytes a.data.toList b.data.toList
def api_Chain_string.bs (l : List (S99)) (k : ByteArray) : Nat → Nat → Nat → Nat
  | 0, i, _ => i
  | f + 1, i, j => if i < j then (if api_Chain_string.cmp (rd_T99 l (((i + j) / 2 : Nat) : Int)).f0 k < 0 then api_Chain_string.bs l k f ((i + j) / 2 + 1) j else api_Chain_string.bs l k f i ((i + j) / 2)) else i
def api_Chain_string.f (l0 : List (S99)) (a1 : ByteArray) : Option (Int × Bool) :=
  some ((api_Chain_string.bs l0 a1 l0.length 0 l0.length : Nat), decide (api_Chain_string.bs l0 a1 l0.length 0 l0.length < l0.length) && (api_Chain_string.cmp (rd_T99 l0 ((api_Chain_string.bs l0 a1 l0.length 0 l0.length : Nat) : Int)).f0 a1 == 0))
theorem api_Chain_string.clo (s : ByteArray) (A : Option Addr) (n c : Nat) (k : ByteArray) (W : World) : Calls Try.prog 169 #[.agg #[.string s, .slice A n c], .string k] W fun e W' => e = .returned (.int .i64 (api_Chain_string.cmp s k)) ∧ Below W.heap.size W W' := by
  have hcmp := fun W' => Go.Proofs.Any.strings_Compare Try.strCmp s k W'
  change ∀ W', Calls Try.prog 139 _ _ _ at hcmp
  unfold api_Chain_string.cmp
  generalize Lib.compareBytes s.data.toList k.data.toList = q at hcmp ⊢
  have HB := Aside0.mk (Below.refl W.heap.size W)
  go_enter Try.func169, Try.ntmps169
  go_wp2_with (first | (go_at_call 139; refine (hcmp _).mono ?_; rintro e w' ⟨rfl, rfl⟩) | go_in)
  go_ret
  exact ⟨rfl, by repeat (first | (with_reducible first | exact HB.out | apply bL_ | apply pN_ | apply b1_) | exact HB.out)⟩
set_option maxHeartbeats 4000000 in
set_option maxRecDepth 100000 in
theorem api_Chain_string.calls (A0 : Option Addr) (c0 : Nat) (l0 : List (S99)) (a1 : ByteArray) (r1 : Int) (r2 : Bool) (w : World) (hr0 : Kd.C k99 w A0 l0.length l0) (hc0 : l0.length ≤ c0) (h : api_Chain_string.f l0 a1 = some (r1, r2)) :
    Calls Try.prog 168 #[.slice A0 l0.length c0, .string a1, .func (Fn.func 169) #[] #[]] w fun e w' => e = .returned (.tuple #[.int .i64 r1, .bool r2]) ∧ Below w.heap.size w w' := by
  have hlen := hr0.2.1
  have eg : ∀ args w, (callFunc 169 args).run Try.prog w = .ok (.enter 169 args) w := enters_of Try.func169 (by kernel_rfl) rfl
  have HR0 := Aside0.mk hr0
  have HC0 := Aside0.mk hc0
  have HL := Aside0.mk hlen
  have HH := Aside0.mk h
  clear hr0 hc0 h hlen
  have HP := Aside0.mk (api_Chain_string.clo)
  have HB := Aside0.mk (Below.refl w.heap.size w)
  go_enter Try.func168, Try.ntmps168
  go_wp2
  go_loopg [9, 10] l0.length (fun kq v9 v10 w' => ∃ (i j : Nat), v9 = .int .i64 i ∧ v10 = .int .i64 j ∧ Aside0 (i ≤ j ∧ j ≤ l0.length) ∧ Aside0 (j - i ≤ kq) ∧ Aside0 (api_Chain_string.bs l0 a1 kq i j = api_Chain_string.bs l0 a1 l0.length 0 l0.length) ∧ Aside0 (Below w.heap.size w w'))
  case atStart => exact ⟨0, l0.length, rfl, rfl, ⟨by omega, by omega⟩, ⟨by omega⟩, ⟨rfl⟩, HB⟩
  case round =>
    clear HB
    obtain ⟨i, j, rfl, rfl, HI, HK, HS, HB⟩ := hrel
    by_cases hij : i < j
    · cases gk with
      | zero => exact absurd HK.out (by omega)
      | succ k1 =>
        have hi2 := HI.out
        have hl2 := HL.out
        have hm : wrap64 (IntKind.u64.wrap (wrap64 ((i : Int) + (j : Int))) / 2) = (((i + j) / 2 : Nat) : Int) := by
          have e : IntKind.u64.wrap (wrap64 ((i : Int) + (j : Int))) = (i : Int) + (j : Int) := by
            simp only [IntKind.wrap, IntKind.signed, IntKind.bits]
            unfold wrap64
            simp
            omega
          rw [e]
          unfold wrap64
          omega
        obtain ⟨m, hmd⟩ : ∃ m, m = (i + j) / 2 := ⟨_, rfl⟩
        rw [← hmd] at hm
        have p200 : (0:Int) ≤ (m : Int) := by omega
        have q200 : (m:Int) < (l0.length : Int) := by omega
        obtain ⟨ad, A1, c1, e1, hx0, hx1, hl1, hi1⟩ := at_T99 HR0.out (m:Int) p200 q200
        cases e1
        replace hx0 := (HB.out.cell (World.block_lt_of_cell? w _ hx0)).trans hx0
        replace hx1 := (HB.out.cell (World.block_lt_of_cell? w _ hx1)).trans hx1
        have hcall := HP.out (rd_T99 l0 (m : Int)).f0 A1 (rd_T99 l0 (m : Int)).f1.length c1 a1 wr
        have HM := Aside0.mk hmd
        have HJ := Aside0.mk hij
        clear hi1 hl1 hi2 hl2 hmd
        simp only [Int.toNat_natCast] at hx0 hx1
        go_wp2_with ((with_reducible refine hcall.mono ?_); rintro e w' ⟨rfl, hb'⟩)
        all_goals go_roundg k1
        case measure => omega
        case measure => omega
        all_goals rename_i hcm
        all_goals have hi2 := HI.out
        all_goals have hl2 := HL.out
        all_goals have hm2 := HM.out
        all_goals have hj2 := HJ.out
        all_goals have hk2 := HK.out
        all_goals have hs2 := HS.out
        · refine ⟨m + 1, j, ?_, rfl, ⟨by omega, by omega⟩, ⟨by omega⟩, ⟨?_⟩, ⟨HB.out.trans (hb'.mono HB.out.size)⟩⟩
          · congr 1
            unfold wrap64
            omega
          · rw [← hs2]
            show _ = api_Chain_string.bs l0 a1 (k1 + 1) i j
            rw [api_Chain_string.bs, if_pos hij, ← hm2, if_pos hcm]
        · refine ⟨i, m, rfl, rfl, ⟨by omega, by omega⟩, ⟨by omega⟩, ⟨?_⟩, ⟨HB.out.trans (hb'.mono HB.out.size)⟩⟩
          rw [← hs2]
          show _ = api_Chain_string.bs l0 a1 (k1 + 1) i j
          rw [api_Chain_string.bs, if_pos hij, ← hm2, if_neg (by omega)]
    · have hi2 := HI.out
      obtain rfl : i = j := by omega
      have hbs : api_Chain_string.bs l0 a1 gk i i = i := by cases gk <;> simp [api_Chain_string.bs]
      have hf := HH.out
      unfold api_Chain_string.f at hf
      rw [← HS.out, hbs] at hf
      simp only [Option.some.injEq, Prod.mk.injEq] at hf
      obtain ⟨rfl, rfl⟩ := hf
      clear hbs
      by_cases hi : i < l0.length
      · have p200 : (0:Int) ≤ (i : Int) := by omega
        have q200 : (i:Int) < (l0.length : Int) := by omega
        obtain ⟨ad, A1, c1, e1, hx0, hx1, hl1, hi1⟩ := at_T99 HR0.out (i:Int) p200 q200
        cases e1
        replace hx0 := (HB.out.cell (World.block_lt_of_cell? w _ hx0)).trans hx0
        replace hx1 := (HB.out.cell (World.block_lt_of_cell? w _ hx1)).trans hx1
        have hcall := HP.out (rd_T99 l0 (i : Int)).f0 A1 (rd_T99 l0 (i : Int)).f1.length c1 a1 wr
        clear hi1 hl1 hi2
        simp only [Int.toNat_natCast] at hx0 hx1
        go_wp2_with ((with_reducible refine hcall.mono ?_); rintro e w' ⟨rfl, hb'⟩)
        go_ret2
        exact ⟨by simp [hi], HB.out.trans (hb'.mono HB.out.size)⟩
      · go_wp2
        go_ret2
        exact ⟨by simp [hi], HB.out⟩


/-! ### table_seek: function 126 -/
def table_seek.f (l0_0 : List (S99)) (a1 : ByteArray) : Option (Int × Bool) := (api_Chain_string.f l0_0 a1).bind fun bt188 => (some (bt188.1, bt188.2))
set_option maxHeartbeats 8000000 in
set_option maxRecDepth 100000 in
theorem table_seek.calls (A0_0 : Option Addr) (c0_0 : Nat) (l0_0 : List (S99)) (a1 : ByteArray) (r1 : Int) (r2 : Bool) (w : World) (hr0_0 : Kd.C k99 w A0_0 l0_0.length l0_0) (hc0_0 : l0_0.length ≤ c0_0) (h : table_seek.f l0_0 a1 = some (r1, r2)) :
  Calls Try.prog 126 #[.agg #[.slice A0_0 l0_0.length c0_0], .string a1] w fun e w' => e = .returned (.tuple #[.int .i64 r1, .bool r2]) ∧ Below w.heap.size w w' := by
 have hu47 := Try.underlying47
 have HR0_0 := mk0 hr0_0
 have HC0_0 := mk0 hc0_0
 clear hr0_0 hc0_0
 have HB := mk0 (Below.refl w.heap.size w)
 have H : ((api_Chain_string.f l0_0 a1).bind fun bt188 => (some (bt188.1, bt188.2))) = some (r1, r2) := h
 clear h
 replace H := Option.bind_eq_some_iff.mp H
 obtain ⟨⟨t188, t189⟩, A30, H⟩ := H
 try dsimp only at H
 have A3 := mk0 A30
 clear A30
 simp only [Option.some.injEq, Prod.mk.injEq] at H
 obtain ⟨rfl, rfl⟩ := H
 go_enter Try.func126, Try.ntmps126
 go_wp2_with (first | ((with_reducible refine gate_dst (N := 2) rfl ?_); refine bx_ (N := 2) (cs := #[.slice A0_0 l0_0.length c0_0]) (t := 47) (h := ?_); intro gb187 hg w4 hbox hb; have n2_ := mk0 (gz_ HB hg); have n3_ := mk0 (gz_ HB hg); replace HB := mk0 (bt_ (b_ HB) hb); have BK187 := mk0 (hbox); have GW187 := n2_; have GE187 := n3_; clear n2_ n3_ hb hbox hg; obtain ⟨hcz5_0, hfz5_0⟩ := c1_ BK187) | ((with_reducible refine gate_callee (f := 168) rfl ?_); refine gL_ (some 9) Try.func168 #[.slice A0_0 l0_0.length c0_0, .string a1, .func (Fn.func 169) #[] #[]] (h := ?_); (with_reducible refine (api_Chain_string.calls _ _ l0_0 a1  t188 t189 _ ?side1 ?side2 A3.out).mono ?_); (case side1 => exact cb_ HR0_0 HB); (case side2 => exact HC0_0.out); rintro e w6 ⟨rfl, hb⟩; refine ⟨_, rfl, ?_⟩; replace BK187 := mk0 (u_ BK187 hb); replace HB := mk0 (bt_ (b_ HB) hb); (try clear hb)))
 go_ret2
 exact ⟨by first | rfl | (simp [errW_none, errW_some] <;> rfl) | (simp [*, errW_none, errW_some] <;> rfl), b_ HB⟩

-- NOT PRINTED: function 199 (api_Version)

/-! ### chain_place: function 178 (by hand) -/
def idxRes_v {α : Type} (pred : α → Bool) (l : List α) : Int := if l.findIdx pred < l.length then (l.findIdx pred : Int) else -1
set_option maxHeartbeats 800000 in
set_option maxRecDepth 100000 in
theorem idx_v.calls_ (pred : S72 → Bool) (F : Nat) (cap : Value) (A0 : Option Addr) (c0 : Nat) (l0 : List S72) (w : World) (hr0 : Kd.C k72 w A0 l0.length l0) (hc0 : l0.length ≤ c0)
    (eg : ∀ args w, (callFunc F args).run Try.prog w = .ok (.enter F args) w)
    (HP : ∀ (x : S72) (W : World), Below w.heap.size w W → Calls Try.prog F #[.agg #[.int .i64 x.f0, .string x.f1, .bool x.f2], cap] W fun e W' => e = .returned (.bool (pred x)) ∧ Below w.heap.size w W') :
    Calls Try.prog 199 #[.slice A0 l0.length c0, .func (Fn.func F) #[] #[cap]] w fun e w' => e = .returned (.int .i64 (idxRes_v pred l0)) ∧ Below w.heap.size w w' := by
  have HR0 := Aside0.mk hr0
  have HC0 := Aside0.mk hc0
  have hlen := hr0.2.1
  clear hr0 hc0
  have HPA := Aside0.mk HP
  clear HP
  have HB := Aside0.mk (Below.refl w.heap.size w)
  go_enter Try.func199, Try.ntmps199
  go_wp2
  go_loopg [5, 8] l0.length (fun kq _ v8 w' => ∃ (i : Nat), v8 = .int .i64 i ∧ Aside0 (kq + i = l0.length) ∧ Aside0 (∀ j (h2 : j < l0.length) (h : j < i), pred (l0[j]) = false) ∧ Aside0 (Below w.heap.size w w'))
  case atStart => exact ⟨0, rfl, ⟨by omega⟩, ⟨fun j _ h => by omega⟩, HB⟩
  case round =>
    clear HB
    obtain ⟨i, rfl, HK, HN, HB⟩ := hrel
    by_cases hi : i < l0.length
    · have p200 : (0:Int) ≤ (i : Int) := by omega
      have q200 : (i:Int) < (l0.length : Int) := by omega
      obtain ⟨ad200, e200, hx200_0, hx200_1, hx200_2⟩ := at_T72 HR0.out (i:Int) p200 q200
      cases e200
      replace hx200_0 := (HB.out.cell (World.block_lt_of_cell? w _ hx200_0)).trans hx200_0
      replace hx200_1 := (HB.out.cell (World.block_lt_of_cell? w _ hx200_1)).trans hx200_1
      replace hx200_2 := (HB.out.cell (World.block_lt_of_cell? w _ hx200_2)).trans hx200_2
      simp only [Int.toNat_natCast] at hx200_0 hx200_1 hx200_2
      have hcall := HPA.out (rd_T72 l0 i) wr HB.out
      have hrd : rd_T72 l0 i = l0[i] := by simp [rd_T72, hi]
      have HRD := Aside0.mk hrd
      clear hrd
      cases hq : pred (rd_T72 l0 i) with
      | true =>
        rw [hq] at hcall
        have HQ := Aside0.mk hq
        clear hq
        go_wp2_with ((with_reducible refine hcall.mono ?_); rintro e w' ⟨rfl, hb'⟩)
        go_ret
        have e1 : l0.findIdx pred = i := (List.findIdx_eq hi).2 ⟨by rw [← HRD.out]; exact HQ.out, fun j hj => HN.out j (by omega) hj⟩
        exact ⟨by unfold idxRes_v; rw [e1, if_pos hi]; rfl, hb'⟩
      | false =>
        rw [hq] at hcall
        have HQ := Aside0.mk hq
        clear hq
        go_wp2_with ((with_reducible refine hcall.mono ?_); rintro e w' ⟨rfl, hb'⟩)
        go_roundg (gk - 1)
        case measure => have := HK.out; omega
        case rel =>
          refine ⟨i + 1, by go_num, ⟨by have := HK.out; omega⟩, ⟨fun j h2 h => ?_⟩, ⟨hb'⟩⟩
          rcases Nat.lt_or_ge j i with hj | hj
          · exact HN.out j h2 hj
          · obtain rfl : j = i := by omega
            rw [← HRD.out]; exact HQ.out
    · have hltz : ¬ (i : Int) < (l0.length : Int) := by omega
      go_wp2
      go_ret
      have hil : i = l0.length := by have := HK.out; omega
      have e1 : l0.findIdx pred = l0.length := List.findIdx_eq_length.2 (fun x hx => by
        obtain ⟨j, hj, rfl⟩ := List.mem_iff_getElem.1 hx
        exact HN.out j hj (by omega))
      exact ⟨by unfold idxRes_v; rw [e1, if_neg (Nat.lt_irrefl _)]; rfl, HB.out⟩
set_option maxHeartbeats 400000 in
theorem chain_place.clo (n : Int) (B : Nat) (w : World) (hB : B < w.heap.size) (hcell : w.cell? ⟨B, 0, none⟩ = some (.int .i64 n)) (x : S72) (W : World) (hb : Below w.heap.size w W) :
    Calls Try.prog 200 #[.agg #[.int .i64 x.f0, .string x.f1, .bool x.f2], .pointer (some ⟨B, 0, none⟩)] W fun e W' => e = .returned (.bool (decide (x.f0 ≤ n))) ∧ Below w.heap.size w W' := by
  have hc : W.cell? ⟨B, 0, none⟩ = some (.int .i64 n) := (hb.cell (p := ⟨B, 0, none⟩) hB).trans hcell
  have hBW : B < W.heap.size := Nat.lt_of_lt_of_le hB hb.size
  have hne : B ≠ W.heap.size := by omega
  go_enter Try.func200, Try.ntmps200
  go_wp2
  all_goals (go_ret; exact ⟨by simp_all, hb.alloc hb.size _⟩)

def chain_place.f (a0_0 : ByteArray) (l0_1 : List S72) (a1 : Int) : Option Int := some (l0_1.findIdx (fun v => decide (v.f0 ≤ a1)) : Int)
set_option maxHeartbeats 800000 in
set_option maxRecDepth 100000 in
theorem chain_place.calls (a0_0 : ByteArray) (A0_1 : Option Addr) (c0_1 : Nat) (l0_1 : List S72) (a1 : Int) (r : Int) (w : World) (hr0_1 : Kd.C k72 w A0_1 l0_1.length l0_1) (hc0_1 : l0_1.length ≤ c0_1) (h : chain_place.f a0_0 l0_1 a1 = some r) :
    Calls Try.prog 178 #[.agg #[.string a0_0, .slice A0_1 l0_1.length c0_1], .int .i64 a1] w fun e w' => e = .returned (.int .i64 r) ∧ Below w.heap.size w w' := by
  have hu31 := Try.underlying99
  have eg : ∀ args w, (callFunc 200 args).run Try.prog w = .ok (.enter 200 args) w := enters_of Try.func200 (by kernel_rfl) rfl
  have hmf : ∀ (fn : Fn) (first cap : Array Value) (w : World), (Instr.makeFunc fn first cap).run Try.prog w = .ok (.func fn first cap) w := fun _ _ _ _ => rfl
  have hw2 : Below w.heap.size w ((w.alloc (.cells #[.string a0_0, .slice A0_1 l0_1.length c0_1] 99)).alloc (.cells #[.int .i64 a1] 3)) := below_alloc (below_alloc (Below.refl _ _) _) _
  have hcon := idx_v.calls_ (fun v => decide (v.f0 ≤ a1)) 200 (.pointer (some ⟨w.heap.size + 1, 0, none⟩)) A0_1 c0_1 l0_1 ((w.alloc (.cells #[.string a0_0, .slice A0_1 l0_1.length c0_1] 99)).alloc (.cells #[.int .i64 a1] 3))
    (Kd.C_below hr0_1 hw2) hc0_1 eg (chain_place.clo a1 (w.heap.size + 1) _ (by simp) (by rw [World.cell?_alloc_at _ _ _ _ (by simp)]; rfl))
  have HW2 := Aside0.mk hw2
  have hlen := hr0_1.2.1
  clear hr0_1 hc0_1 hw2 eg
  have hr : ((l0_1.findIdx (fun v => decide (v.f0 ≤ a1)) : Nat) : Int) = r := Option.some.inj h
  clear h
  have hle : l0_1.findIdx (fun v => decide (v.f0 ≤ a1)) ≤ l0_1.length := List.findIdx_le_length
  by_cases hlt : l0_1.findIdx (fun v => decide (v.f0 ≤ a1)) < l0_1.length
  · have e1 : idxRes_v (fun v : S72 => decide (v.f0 ≤ a1)) l0_1 = r := by unfold idxRes_v; rw [if_pos hlt]; exact hr
    rw [e1] at hcon
    have h0 : ¬ r < 0 := by omega
    clear hr hlt hle e1
    go_enter Try.func178, Try.ntmps178
    go_wp2_with ((with_reducible refine hcon.mono ?_); rintro e w' ⟨rfl, hb'⟩)
    go_ret
    exact ⟨rfl, HW2.out.trans (hb'.mono (by simp; omega))⟩
  · have e1 : idxRes_v (fun v : S72 => decide (v.f0 ≤ a1)) l0_1 = -1 := by unfold idxRes_v; rw [if_neg hlt]
    rw [e1] at hcon
    have hr2 := Aside0.mk (show r = l0_1.length by omega)
    clear hr hlt hle e1
    have hcb : ∀ w', Below ((w.alloc (.cells #[.string a0_0, .slice A0_1 l0_1.length c0_1] 99)).alloc (.cells #[.int .i64 a1] 3)).heap.size ((w.alloc (.cells #[.string a0_0, .slice A0_1 l0_1.length c0_1] 99)).alloc (.cells #[.int .i64 a1] 3)) w' → w'.cell? ⟨w.heap.size, 1, none⟩ = some (.slice A0_1 l0_1.length c0_1) := fun w' hb => by
      rw [hb.cell (p := ⟨w.heap.size, 1, none⟩) (by simp; omega), World.cell?_alloc_past _ _ _ (by simp), World.cell?_alloc_at _ _ _ _ rfl]; rfl
    have HCB := Aside0.mk hcb
    clear hcb
    go_enter Try.func178, Try.ntmps178
    go_wp2_with ((with_reducible refine hcon.mono ?_); rintro e w' ⟨rfl, hb'⟩; have hc1 := HCB.out _ hb')
    go_ret
    exact ⟨by rw [hr2.out]; rfl, HW2.out.trans (hb'.mono (by simp; omega))⟩


/-! ### chain_Look: function 142 -/
def chain_Look.f (a0_0 : ByteArray) (l0_1 : List (S72)) (a1 : Int) : Option (Int × ByteArray × Bool × Bool) := (chain_place.f a0_0 l0_1 a1).bind fun t192 => (if t192 = (l0_1.length : Int) then (some (0, (⟨#[]⟩ : ByteArray), false, false)) else (if 0 ≤ t192 then (if t192 < (l0_1.length : Int) then (if (rd_T72 l0_1 t192).f2 = true then (some (0, (⟨#[]⟩ : ByteArray), false, false)) else (some ((rd_T72 l0_1 t192).f0, (rd_T72 l0_1 t192).f1, (rd_T72 l0_1 t192).f2, true))) else (none)) else (none)))
set_option maxHeartbeats 8000000 in
set_option maxRecDepth 100000 in
theorem chain_Look.calls (a0_0 : ByteArray) (A0_1 : Option Addr) (c0_1 : Nat) (l0_1 : List (S72)) (a1 : Int) (r1 : Int) (r2 : ByteArray) (r3 : Bool) (r4 : Bool) (w : World) (hr0_1 : Kd.C k72 w A0_1 l0_1.length l0_1) (hc0_1 : l0_1.length ≤ c0_1) (h : chain_Look.f a0_0 l0_1 a1 = some (r1, r2, r3, r4)) :
  Calls Try.prog 142 #[.agg #[.string a0_0, .slice A0_1 l0_1.length c0_1], .int .i64 a1] w fun e w' => e = .returned (.tuple #[.agg #[.int .i64 r1, .string r2, .bool r3], .bool r4]) ∧ Below w.heap.size w w' := by
 have hu99 := Try.underlying99
 have hu72 := Try.underlying72
 have HR0_1 := mk0 hr0_1
 have HC0_1 := mk0 hc0_1
 clear hr0_1 hc0_1
 have HB := mk0 (Below.refl w.heap.size w)
 have H : ((chain_place.f a0_0 l0_1 a1).bind fun t192 => (if t192 = (l0_1.length : Int) then (some (0, (⟨#[]⟩ : ByteArray), false, false)) else (if 0 ≤ t192 then (if t192 < (l0_1.length : Int) then (if (rd_T72 l0_1 t192).f2 = true then (some (0, (⟨#[]⟩ : ByteArray), false, false)) else (some ((rd_T72 l0_1 t192).f0, (rd_T72 l0_1 t192).f1, (rd_T72 l0_1 t192).f2, true))) else (none)) else (none)))) = some (r1, r2, r3, r4) := h
 clear h
 replace H := Option.bind_eq_some_iff.mp H
 obtain ⟨t192, A30, H⟩ := H
 try dsimp only at H
 have A3 := mk0 A30
 clear A30
 by_cases c4 : t192 = (l0_1.length : Int)
 focus
  rw [if_pos c4] at H
  have c4b0 : (t192 == (l0_1.length : Int)) = true := beq_iff_eq.mpr c4
  have c4b1 : (t192 != (l0_1.length : Int)) = false := bne_eq_false_iff_eq.mpr c4
  clear c4
  simp only [Option.some.injEq, Prod.mk.injEq] at H
  obtain ⟨rfl, rfl, rfl, rfl⟩ := H
  go_enter Try.func142, Try.ntmps142
 rotate_left 1
 focus
  rw [if_neg c4] at H
  have c4b0 : (t192 == (l0_1.length : Int)) = false := beq_eq_false_iff_ne.mpr c4
  have c4b1 : (t192 != (l0_1.length : Int)) = true := bne_iff_ne.mpr c4
  by_cases c12 : 0 ≤ t192
  focus
   rw [if_pos c12] at H
   have c12b0 : decide (0 ≤ t192) = true := decide_eq_true c12
   clear c12
   by_cases c13 : t192 < (l0_1.length : Int)
   focus
    rw [if_pos c13] at H
    have c13b0 : decide (t192 < (l0_1.length : Int)) = true := decide_eq_true c13
    clear c13
    obtain ⟨bq14, hbq14⟩ : ∃ b_ : Bool, b_ = ((rd_T72 l0_1 t192).f2) := ⟨_, rfl⟩
    replace H : (if bq14 = true then (some (0, (⟨#[]⟩ : ByteArray), false, false)) else (some ((rd_T72 l0_1 t192).f0, (rd_T72 l0_1 t192).f1, bq14, true))) = some (r1, r2, r3, r4) := by rw [← hbq14] at H; exact H
    have Nbq14 := mk0 hbq14
    clear hbq14
    by_cases c15 : bq14 = true
    focus
     subst c15
     rw [if_pos rfl] at H
     simp only [Option.some.injEq, Prod.mk.injEq] at H
     obtain ⟨rfl, rfl, rfl, rfl⟩ := H
     go_enter Try.func142, Try.ntmps142
    rotate_left 1
    focus
     replace c15 := Bool.eq_false_iff.mpr c15
     subst c15
     rw [if_neg (show ¬ (false = true) by decide)] at H
     simp only [Option.some.injEq, Prod.mk.injEq] at H
     obtain ⟨rfl, rfl, rfl, rfl⟩ := H
     go_enter Try.func142, Try.ntmps142
    rotate_right 1
   rotate_left 2
   ·rw [if_neg c13] at H
    exact absurd H (by simp)
  rotate_left 2
  ·rw [if_neg c12] at H
   exact absurd H (by simp)
 rotate_right 1
 all_goals go_wp2_with (first | ((with_reducible refine gate_dst (N := 2) rfl ?_); refine bx_ (N := 2) (cs := #[.string a0_0, .slice A0_1 l0_1.length c0_1]) (t := 99) (h := ?_); intro gb190 hg w23 hbox hb; have n2_ := mk0 (gz_ HB hg); have n3_ := mk0 (gz_ HB hg); replace HB := mk0 (bt_ (b_ HB) hb); have BK190 := mk0 (hbox); have GW190 := n2_; have GE190 := n3_; clear n2_ n3_; clear hb hbox hg) | ((with_reducible refine gate_dst (N := 4) rfl ?_); refine bx_ (N := 4) (cs := #[.int .i64 0, .string (⟨#[]⟩ : ByteArray), .bool false]) (t := 72) (h := ?_); intro gb191 hg w24 hbox hb; have n3_ := mk0 (gz_ HB hg); have n4_ := mk0 (gz_ HB hg); have n5_ := mk0 (ne1_ BK190 hg); have n6_ := mk0 (ne2_ BK190 hg); replace BK190 := mk0 (u_ BK190 hb); replace HB := mk0 (bt_ (b_ HB) hb); have BK191 := mk0 (hbox); have GW191 := n3_; have GE191 := n4_; have NB190_191 := n5_; have NB191_190 := n6_; clear n3_ n4_ n5_ n6_ hb hbox hg; have hnb25 := NB190_191.out; have hnc25 := NB191_190.out; obtain ⟨hcz26_0, hcz26_1, hfz26_0, hfz26_1⟩ := c2_ BK190) | ((with_reducible refine gate_callee (f := 178) rfl ?_); refine gL_ (some 9) Try.func178 #[.agg #[.string a0_0, .slice A0_1 l0_1.length c0_1], .int .i64 a1] (h := ?_); (with_reducible refine (chain_place.calls a0_0 _ _ l0_1 a1 t192 _ ?side1 ?side2 A3.out).mono ?_); (case side1 => exact cb_ HR0_1 HB); (case side2 => exact HC0_1.out); rintro e w27 ⟨rfl, hb⟩; refine ⟨_, rfl, ?_⟩; replace BK190 := mk0 (u_ BK190 hb); replace BK191 := mk0 (blk_below (g := gb191) (o := .cells #[.int .i64 0, .string (⟨#[]⟩ : ByteArray), .bool false] 72 (0, 0)) (h_ BK191) hb); replace HB := mk0 (bt_ (b_ HB) hb); (try clear hb); obtain ⟨hcz28_0, hcz28_1, hfz28_0, hfz28_1⟩ := c2_ BK190; have p193 : 0 ≤ (t192 : Int) := of_decide_eq_true (by first | (with_reducible assumption) | assumption); have q193 : t192 < (l0_1.length : Int) := of_decide_eq_true (by first | (with_reducible assumption) | assumption); obtain ⟨ad193, e193, hx193_0, hx193_1, hx193_2⟩ := at_T72 HR0_1.out t192 p193 q193; (try rw [← Nbq14.out] at hx193_2); cases e193; replace hx193_0 := (bc_ HB hx193_0 :); replace hx193_1 := (bc_ HB hx193_1 :); replace hx193_2 := (bc_ HB hx193_2 :); replace p193 := eq_true p193; replace q193 := eq_true q193; have p194 : 0 ≤ (t192 : Int) := of_decide_eq_true (by first | (with_reducible assumption) | assumption); have q194 : t192 < (l0_1.length : Int) := of_decide_eq_true (by first | (with_reducible assumption) | assumption); obtain ⟨ad194, e194, hx194_0, hx194_1, hx194_2⟩ := at_T72 HR0_1.out t192 p194 q194; (try rw [← Nbq14.out] at hx194_2); obtain rfl : ad193 = ad194 := (by injection e194); replace hx194_0 := (bc_ HB hx194_0 :); replace hx194_1 := (bc_ HB hx194_1 :); replace hx194_2 := (bc_ HB hx194_2 :); replace p194 := eq_true p194; replace q194 := eq_true q194; obtain ⟨hcz29_0, hcz29_1, hcz29_2, hfz29_0, hfz29_1, hfz29_2⟩ := c3_ BK191) | ((with_reducible refine gate_callee (f := 178) rfl ?_); refine gL_ (some 9) Try.func178 #[.agg #[.string a0_0, .slice A0_1 l0_1.length c0_1], .int .i64 a1] (h := ?_); (with_reducible refine (chain_place.calls a0_0 _ _ l0_1 a1 t192 _ ?side1 ?side2 A3.out).mono ?_); (case side1 => exact cb_ HR0_1 HB); (case side2 => exact HC0_1.out); rintro e w9 ⟨rfl, hb⟩; refine ⟨_, rfl, ?_⟩; replace BK190 := mk0 (u_ BK190 hb); replace BK191 := mk0 (blk_below (g := gb191) (o := .cells #[.int .i64 0, .string (⟨#[]⟩ : ByteArray), .bool false] 72 (0, 0)) (h_ BK191) hb); replace HB := mk0 (bt_ (b_ HB) hb); (try clear hb); obtain ⟨hcz10_0, hcz10_1, hfz10_0, hfz10_1⟩ := c2_ BK190; obtain ⟨hcz11_0, hcz11_1, hcz11_2, hfz11_0, hfz11_1, hfz11_2⟩ := c3_ BK191) | ((with_reducible refine gate_callee (f := 178) rfl ?_); refine gL_ (some 9) Try.func178 #[.agg #[.string a0_0, .slice A0_1 l0_1.length c0_1], .int .i64 a1] (h := ?_); (with_reducible refine (chain_place.calls a0_0 _ _ l0_1 a1 t192 _ ?side1 ?side2 A3.out).mono ?_); (case side1 => exact cb_ HR0_1 HB); (case side2 => exact HC0_1.out); rintro e w20 ⟨rfl, hb⟩; refine ⟨_, rfl, ?_⟩; replace BK190 := mk0 (u_ BK190 hb); replace BK191 := mk0 (blk_below (g := gb191) (o := .cells #[.int .i64 0, .string (⟨#[]⟩ : ByteArray), .bool false] 72 (0, 0)) (h_ BK191) hb); replace HB := mk0 (bt_ (b_ HB) hb); (try clear hb); obtain ⟨hcz21_0, hcz21_1, hfz21_0, hfz21_1⟩ := c2_ BK190; have p193 : 0 ≤ (t192 : Int) := of_decide_eq_true (by first | (with_reducible assumption) | assumption); have q193 : t192 < (l0_1.length : Int) := of_decide_eq_true (by first | (with_reducible assumption) | assumption); obtain ⟨ad193, e193, hx193_0, hx193_1, hx193_2⟩ := at_T72 HR0_1.out t192 p193 q193; (try rw [← Nbq14.out] at hx193_2); cases e193; replace hx193_0 := (bc_ HB hx193_0 :); replace hx193_1 := (bc_ HB hx193_1 :); replace hx193_2 := (bc_ HB hx193_2 :); replace p193 := eq_true p193; replace q193 := eq_true q193; obtain ⟨hcz22_0, hcz22_1, hcz22_2, hfz22_0, hfz22_1, hfz22_2⟩ := c3_ BK191))
 ·refine bodyPost_ret (results_ct rfl _ _ gb191 72 #[.int .i64 0, .string (⟨#[]⟩ : ByteArray), .bool false] (0, 0) _ rfl (pu_ (cs := #[.int .i64 0, .string (⟨#[]⟩ : ByteArray), .bool false]) (pu_ (cs := #[.int .i64 0, .string (⟨#[]⟩ : ByteArray), .bool false]) (pu_ (cs := #[.int .i64 0, .string (⟨#[]⟩ : ByteArray), .bool false]) (h_ BK191)))) Try.underlying72 rfl (by kernel_rfl)) rfl ?_
  exact ⟨by first | rfl | (simp [errW_none, errW_some] <;> rfl) | (simp [*, errW_none, errW_some] <;> rfl), b_ HB⟩
 ·refine bodyPost_ret (results_ct rfl _ _ gb191 72 #[.int .i64 0, .string (⟨#[]⟩ : ByteArray), .bool false] (0, 0) _ rfl (pu_ (cs := #[.int .i64 0, .string (⟨#[]⟩ : ByteArray), .bool false]) (pu_ (cs := #[.int .i64 0, .string (⟨#[]⟩ : ByteArray), .bool false]) (pu_ (cs := #[.int .i64 0, .string (⟨#[]⟩ : ByteArray), .bool false]) (h_ BK191)))) Try.underlying72 rfl (by kernel_rfl)) rfl ?_
  exact ⟨by first | rfl | (simp [errW_none, errW_some] <;> rfl) | (simp [*, errW_none, errW_some] <;> rfl), b_ HB⟩
 ·refine bodyPost_ret (results_ct rfl _ _ gb191 72 #[.int .i64 ((rd_T72 l0_1 t192).f0), .string ((rd_T72 l0_1 t192).f1), .bool false] (0, 0) _ rfl (pu_ (cs := #[.int .i64 ((rd_T72 l0_1 t192).f0), .string ((rd_T72 l0_1 t192).f1), .bool false]) (pu_ (cs := #[.int .i64 ((rd_T72 l0_1 t192).f0), .string (⟨#[]⟩ : ByteArray), .bool false]) (pu_ (cs := #[.int .i64 0, .string (⟨#[]⟩ : ByteArray), .bool false]) (h_ BK191)))) Try.underlying72 rfl (by kernel_rfl)) rfl ?_
  exact ⟨by first | rfl | (simp [errW_none, errW_some] <;> rfl) | (simp [*, errW_none, errW_some] <;> rfl), b_ HB⟩

/-! ### table_Look: function 99 -/
def table_Look.f (l0_0 : List (S99)) (a1 : ByteArray) (a2 : Int) : Option (ByteArray × Bool) := (table_seek.f l0_0 a1).bind fun bt196 => (if bt196.2 = true then (if 0 ≤ bt196.1 then (if bt196.1 < (l0_0.length : Int) then ((chain_Look.f ((rd_T99 l0_0 bt196.1).f0) ((rd_T99 l0_0 bt196.1).f1) a2).bind fun bt199 => (some (bt199.2.1, bt199.2.2.2))) else (none)) else (none)) else (some ((⟨#[]⟩ : ByteArray), false)))
set_option maxHeartbeats 8000000 in
set_option maxRecDepth 100000 in
theorem table_Look.calls (A0_0 : Option Addr) (c0_0 : Nat) (l0_0 : List (S99)) (a1 : ByteArray) (a2 : Int) (r1 : ByteArray) (r2 : Bool) (w : World) (hr0_0 : Kd.C k99 w A0_0 l0_0.length l0_0) (hc0_0 : l0_0.length ≤ c0_0) (h : table_Look.f l0_0 a1 a2 = some (r1, r2)) :
  Calls Try.prog 99 #[.agg #[.slice A0_0 l0_0.length c0_0], .string a1, .int .i64 a2] w fun e w' => e = .returned (.tuple #[.string r1, .bool r2]) ∧ Below w.heap.size w w' := by
 have hu47 := Try.underlying47
 have hu99 := Try.underlying99
 have hu72 := Try.underlying72
 have HR0_0 := mk0 hr0_0
 have HC0_0 := mk0 hc0_0
 clear hr0_0 hc0_0
 have HB := mk0 (Below.refl w.heap.size w)
 have H : ((table_seek.f l0_0 a1).bind fun bt196 => (if bt196.2 = true then (if 0 ≤ bt196.1 then (if bt196.1 < (l0_0.length : Int) then ((chain_Look.f ((rd_T99 l0_0 bt196.1).f0) ((rd_T99 l0_0 bt196.1).f1) a2).bind fun bt199 => (some (bt199.2.1, bt199.2.2.2))) else (none)) else (none)) else (some ((⟨#[]⟩ : ByteArray), false)))) = some (r1, r2) := h
 clear h
 replace H := Option.bind_eq_some_iff.mp H
 obtain ⟨⟨t196, t197⟩, A40, H⟩ := H
 try dsimp only at H
 have A4 := mk0 A40
 clear A40
 by_cases c5 : t197 = true
 ·subst c5
  rw [if_pos rfl] at H
  by_cases c6 : 0 ≤ t196
  ·rw [if_pos c6] at H
   have c6b0 : decide (0 ≤ t196) = true := decide_eq_true c6
   clear c6
   by_cases c7 : t196 < (l0_0.length : Int)
   ·rw [if_pos c7] at H
    have c7b0 : decide (t196 < (l0_0.length : Int)) = true := decide_eq_true c7
    clear c7
    replace H := Option.bind_eq_some_iff.mp H
    obtain ⟨⟨t199, t200, t201, t202⟩, A80, H⟩ := H
    try dsimp only at H
    have A8 := mk0 A80
    clear A80
    simp only [Option.some.injEq, Prod.mk.injEq] at H
    obtain ⟨rfl, rfl⟩ := H
    go_enter Try.func99, Try.ntmps99
    go_wp2_with (first | ((with_reducible refine gate_dst (N := 3) rfl ?_); refine bx_ (N := 3) (cs := #[.slice A0_0 l0_0.length c0_0]) (t := 47) (h := ?_); intro gb195 hg w9 hbox hb; have n2_ := mk0 (gz_ HB hg); have n3_ := mk0 (gz_ HB hg); replace HB := mk0 (bt_ (b_ HB) hb); have BK195 := mk0 (hbox); have GW195 := n2_; have GE195 := n3_; clear n2_ n3_ hb hbox hg; obtain ⟨hcz10_0, hfz10_0⟩ := c1_ BK195) | ((with_reducible refine gate_callee (f := 126) rfl ?_); refine gL_ (some 14) Try.func126 #[.agg #[.slice A0_0 l0_0.length c0_0], .string a1] (h := ?_); (with_reducible refine (table_seek.calls _ _ l0_0 a1 t196 true _ ?side1 ?side2 A4.out).mono ?_); (case side1 => exact cb_ HR0_0 HB); (case side2 => exact HC0_0.out); rintro e w11 ⟨rfl, hb⟩; refine ⟨_, rfl, ?_⟩; replace BK195 := mk0 (u_ BK195 hb); replace HB := mk0 (bt_ (b_ HB) hb); (try clear hb); obtain ⟨hcz12_0, hfz12_0⟩ := c1_ BK195; have p198 : 0 ≤ (t196 : Int) := of_decide_eq_true (by first | (with_reducible assumption) | assumption); have q198 : t196 < (l0_0.length : Int) := of_decide_eq_true (by first | (with_reducible assumption) | assumption); obtain ⟨ad198, A198_1, c198_1, e198, hx198_0, hx198_1, hl198_1, hi198_1⟩ := at_T99 HR0_0.out t196 p198 q198; cases e198; replace hx198_0 := (bc_ HB hx198_0 :); replace hx198_1 := (bc_ HB hx198_1 :); have HR198_1 := mk0 hi198_1; have HC198_1 := mk0 hl198_1; clear hi198_1 hl198_1; replace p198 := eq_true p198; replace q198 := eq_true q198) | ((with_reducible refine gate_callee (f := 142) rfl ?_); refine gL_ (some 26) Try.func142 #[.agg #[.string ((rd_T99 l0_0 t196).f0), .slice A198_1 ((rd_T99 l0_0 t196).f1).length c198_1], .int .i64 a2] (h := ?_); (with_reducible refine (chain_Look.calls ((rd_T99 l0_0 t196).f0) _ _ ((rd_T99 l0_0 t196).f1) a2 t199 t200 t201 t202 _ ?side1 ?side2 A8.out).mono ?_); (case side1 => exact cb_ HR198_1 HB); (case side2 => exact HC198_1.out); rintro e w13 ⟨rfl, hb⟩; refine ⟨_, rfl, ?_⟩; replace BK195 := mk0 (u_ BK195 hb); replace HB := mk0 (bt_ (b_ HB) hb); (try clear hb)) | ((with_reducible refine gate_dst (N := 10) rfl ?_); refine bx_ (N := 10) (cs := #[.int .i64 0, .string (⟨#[]⟩ : ByteArray), .bool false]) (t := 72) (h := ?_); intro gb203 hg w14 hbox hb; have n3_ := mk0 (gz_ HB hg); have n4_ := mk0 (gz_ HB hg); have n5_ := mk0 (ne1_ BK195 hg); have n6_ := mk0 (ne2_ BK195 hg); replace BK195 := mk0 (u_ BK195 hb); replace HB := mk0 (bt_ (b_ HB) hb); have BK203 := mk0 (hbox); have GW203 := n3_; have GE203 := n4_; have NB195_203 := n5_; have NB203_195 := n6_; clear n3_ n4_ n5_ n6_ hb hbox hg; have hnb15 := NB203_195.out; have hnc15 := NB195_203.out; obtain ⟨hcz16_0, hcz16_1, hcz16_2, hfz16_0, hfz16_1, hfz16_2⟩ := c3_ BK203))
    go_ret2
    exact ⟨by first | rfl | (simp [errW_none, errW_some] <;> rfl) | (simp [*, errW_none, errW_some] <;> rfl), b_ HB⟩
   ·rw [if_neg c7] at H
    exact absurd H (by simp)
  ·rw [if_neg c6] at H
   exact absurd H (by simp)
 ·replace c5 := Bool.eq_false_iff.mpr c5
  subst c5
  rw [if_neg (show ¬ (false = true) by decide)] at H
  simp only [Option.some.injEq, Prod.mk.injEq] at H
  obtain ⟨rfl, rfl⟩ := H
  go_enter Try.func99, Try.ntmps99
  go_wp2_with (first | ((with_reducible refine gate_dst (N := 3) rfl ?_); refine bx_ (N := 3) (cs := #[.slice A0_0 l0_0.length c0_0]) (t := 47) (h := ?_); intro gb195 hg w17 hbox hb; have n2_ := mk0 (gz_ HB hg); have n3_ := mk0 (gz_ HB hg); replace HB := mk0 (bt_ (b_ HB) hb); have BK195 := mk0 (hbox); have GW195 := n2_; have GE195 := n3_; clear n2_ n3_ hb hbox hg; obtain ⟨hcz18_0, hfz18_0⟩ := c1_ BK195) | ((with_reducible refine gate_callee (f := 126) rfl ?_); refine gL_ (some 14) Try.func126 #[.agg #[.slice A0_0 l0_0.length c0_0], .string a1] (h := ?_); (with_reducible refine (table_seek.calls _ _ l0_0 a1 t196 false _ ?side1 ?side2 A4.out).mono ?_); (case side1 => exact cb_ HR0_0 HB); (case side2 => exact HC0_0.out); rintro e w19 ⟨rfl, hb⟩; refine ⟨_, rfl, ?_⟩; replace BK195 := mk0 (u_ BK195 hb); replace HB := mk0 (bt_ (b_ HB) hb); (try clear hb)))
  go_ret2
  exact ⟨by first | rfl | (simp [errW_none, errW_some] <;> rfl) | (simp [*, errW_none, errW_some] <;> rfl), b_ HB⟩

/-! ### view_Look: function 43 -/
def view_Look.f (l0 : List (S47)) (l1_0 : List (S36)) (l1_1 : List Int) (a2 : Int) (a3 : ByteArray) (a4 : Int) : Option (ByteArray × Bool) := (pend_Look.f l1_0 l1_1 a2 a3).bind fun bt205 => (if bt205.2.2.2.2 = true then (some (bt205.2.2.1, !bt205.2.2.2.1)) else (if 0 ≤ a2 then (if a2 < (l0.length : Int) then ((table_Look.f ((rd_T47 l0 a2).f0) a3 a4).bind fun bt212 => (some (bt212.1, bt212.2))) else (none)) else (none)))
set_option maxHeartbeats 8000000 in
set_option maxRecDepth 100000 in
theorem view_Look.calls (A0 : Option Addr) (c0 : Nat) (l0 : List (S47)) (A1_0 : Option Addr) (c1_0 : Nat) (l1_0 : List (S36)) (A1_1 : Option Addr) (c1_1 : Nat) (l1_1 : List Int) (a2 : Int) (a3 : ByteArray) (a4 : Int) (r1 : ByteArray) (r2 : Bool) (w : World) (hr0 : Kd.C k47 w A0 l0.length l0) (hc0 : l0.length ≤ c0) (hr1_0 : Kd.C k36 w A1_0 l1_0.length l1_0) (hc1_0 : l1_0.length ≤ c1_0) (hr1_1 : Kd.C (Kd.int .i64) w A1_1 l1_1.length l1_1) (hc1_1 : l1_1.length ≤ c1_1) (h : view_Look.f l0 l1_0 l1_1 a2 a3 a4 = some (r1, r2)) :
  Calls Try.prog 43 #[.slice A0 l0.length c0, .agg #[.slice A1_0 l1_0.length c1_0, .slice A1_1 l1_1.length c1_1], .int .i64 a2, .string a3, .int .i64 a4] w fun e w' => e = .returned (.tuple #[.string r1, .bool r2]) ∧ Below w.heap.size w w' := by
 have hu34 := Try.underlying34
 have hu36 := Try.underlying36
 have hu47 := Try.underlying47
 have HR0 := mk0 hr0
 have HC0 := mk0 hc0
 clear hr0 hc0
 have HR1_0 := mk0 hr1_0
 have HC1_0 := mk0 hc1_0
 clear hr1_0 hc1_0
 have HR1_1 := mk0 hr1_1
 have HC1_1 := mk0 hc1_1
 clear hr1_1 hc1_1
 have HB := mk0 (Below.refl w.heap.size w)
 have H : ((pend_Look.f l1_0 l1_1 a2 a3).bind fun bt205 => (if bt205.2.2.2.2 = true then (some (bt205.2.2.1, !bt205.2.2.2.1)) else (if 0 ≤ a2 then (if a2 < (l0.length : Int) then ((table_Look.f ((rd_T47 l0 a2).f0) a3 a4).bind fun bt212 => (some (bt212.1, bt212.2))) else (none)) else (none)))) = some (r1, r2) := h
 clear h
 replace H := Option.bind_eq_some_iff.mp H
 obtain ⟨⟨t205, t206, t207, t208, t209⟩, A60, H⟩ := H
 try dsimp only at H
 have A6 := mk0 A60
 clear A60
 by_cases c7 : t209 = true
 ·subst c7
  rw [if_pos rfl] at H
  simp only [Option.some.injEq, Prod.mk.injEq] at H
  obtain ⟨rfl, rfl⟩ := H
  go_enter Try.func43, Try.ntmps43
  go_wp2_with (first | ((with_reducible refine gate_dst (N := 6) rfl ?_); refine bx_ (N := 6) (cs := #[.slice A1_0 l1_0.length c1_0, .slice A1_1 l1_1.length c1_1]) (t := 34) (h := ?_); intro gb204 hg w8 hbox hb; have n2_ := mk0 (gz_ HB hg); have n3_ := mk0 (gz_ HB hg); replace HB := mk0 (bt_ (b_ HB) hb); have BK204 := mk0 (hbox); have GW204 := n2_; have GE204 := n3_; clear n2_ n3_ hb hbox hg; obtain ⟨hcz9_0, hcz9_1, hfz9_0, hfz9_1⟩ := c2_ BK204) | (go_at_call 98; (with_reducible refine (pend_Look.calls _ _ l1_0 _ _ l1_1 a2 a3 t205 t206 t207 t208 true _ ?side1 ?side2 ?side3 ?side4 A6.out).mono ?_); (case side1 => exact cb_ HR1_0 HB); (case side2 => exact HC1_0.out); (case side3 => exact cb_ HR1_1 HB); (case side4 => exact HC1_1.out); rintro e w10 ⟨rfl, hb⟩; replace BK204 := mk0 (u_ BK204 hb); replace HB := mk0 (bt_ (b_ HB) hb); (try clear hb)) | ((with_reducible refine gate_dst (N := 12) rfl ?_); refine bx_ (N := 12) (cs := #[.int .i64 0, .string (⟨#[]⟩ : ByteArray), .string (⟨#[]⟩ : ByteArray), .bool false]) (t := 36) (h := ?_); intro gb210 hg w11 hbox hb; have n3_ := mk0 (gz_ HB hg); have n4_ := mk0 (gz_ HB hg); have n5_ := mk0 (ne1_ BK204 hg); have n6_ := mk0 (ne2_ BK204 hg); replace BK204 := mk0 (u_ BK204 hb); replace HB := mk0 (bt_ (b_ HB) hb); have BK210 := mk0 (hbox); have GW210 := n3_; have GE210 := n4_; have NB204_210 := n5_; have NB210_204 := n6_; clear n3_ n4_ n5_ n6_ hb hbox hg; have hnb12 := NB210_204.out; have hnc12 := NB204_210.out; obtain ⟨hcz13_0, hcz13_1, hcz13_2, hcz13_3, hfz13_0, hfz13_1, hfz13_2, hfz13_3⟩ := c4_ BK210))
  repeat (go_quiet (first | ((with_reducible refine gate_dst (N := 6) rfl ?_); refine bx_ (N := 6) (cs := #[.slice A1_0 l1_0.length c1_0, .slice A1_1 l1_1.length c1_1]) (t := 34) (h := ?_); intro gb204 hg w8 hbox hb; have n2_ := mk0 (gz_ HB hg); have n3_ := mk0 (gz_ HB hg); replace HB := mk0 (bt_ (b_ HB) hb); have BK204 := mk0 (hbox); have GW204 := n2_; have GE204 := n3_; clear n2_ n3_ hb hbox hg; obtain ⟨hcz9_0, hcz9_1, hfz9_0, hfz9_1⟩ := c2_ BK204) | (go_at_call 98; (with_reducible refine (pend_Look.calls _ _ l1_0 _ _ l1_1 a2 a3 t205 t206 t207 t208 true _ ?side1 ?side2 ?side3 ?side4 A6.out).mono ?_); (case side1 => exact cb_ HR1_0 HB); (case side2 => exact HC1_0.out); (case side3 => exact cb_ HR1_1 HB); (case side4 => exact HC1_1.out); rintro e w10 ⟨rfl, hb⟩; replace BK204 := mk0 (u_ BK204 hb); replace HB := mk0 (bt_ (b_ HB) hb); (try clear hb)) | ((with_reducible refine gate_dst (N := 12) rfl ?_); refine bx_ (N := 12) (cs := #[.int .i64 0, .string (⟨#[]⟩ : ByteArray), .string (⟨#[]⟩ : ByteArray), .bool false]) (t := 36) (h := ?_); intro gb210 hg w11 hbox hb; have n3_ := mk0 (gz_ HB hg); have n4_ := mk0 (gz_ HB hg); have n5_ := mk0 (ne1_ BK204 hg); have n6_ := mk0 (ne2_ BK204 hg); replace BK204 := mk0 (u_ BK204 hb); replace HB := mk0 (bt_ (b_ HB) hb); have BK210 := mk0 (hbox); have GW210 := n3_; have GE210 := n4_; have NB204_210 := n5_; have NB210_204 := n6_; clear n3_ n4_ n5_ n6_ hb hbox hg; have hnb12 := NB210_204.out; have hnc12 := NB204_210.out; obtain ⟨hcz13_0, hcz13_1, hcz13_2, hcz13_3, hfz13_0, hfz13_1, hfz13_2, hfz13_3⟩ := c4_ BK210)); try go_wp2_with (first | ((with_reducible refine gate_dst (N := 6) rfl ?_); refine bx_ (N := 6) (cs := #[.slice A1_0 l1_0.length c1_0, .slice A1_1 l1_1.length c1_1]) (t := 34) (h := ?_); intro gb204 hg w8 hbox hb; have n2_ := mk0 (gz_ HB hg); have n3_ := mk0 (gz_ HB hg); replace HB := mk0 (bt_ (b_ HB) hb); have BK204 := mk0 (hbox); have GW204 := n2_; have GE204 := n3_; clear n2_ n3_ hb hbox hg; obtain ⟨hcz9_0, hcz9_1, hfz9_0, hfz9_1⟩ := c2_ BK204) | (go_at_call 98; (with_reducible refine (pend_Look.calls _ _ l1_0 _ _ l1_1 a2 a3 t205 t206 t207 t208 true _ ?side1 ?side2 ?side3 ?side4 A6.out).mono ?_); (case side1 => exact cb_ HR1_0 HB); (case side2 => exact HC1_0.out); (case side3 => exact cb_ HR1_1 HB); (case side4 => exact HC1_1.out); rintro e w10 ⟨rfl, hb⟩; replace BK204 := mk0 (u_ BK204 hb); replace HB := mk0 (bt_ (b_ HB) hb); (try clear hb)) | ((with_reducible refine gate_dst (N := 12) rfl ?_); refine bx_ (N := 12) (cs := #[.int .i64 0, .string (⟨#[]⟩ : ByteArray), .string (⟨#[]⟩ : ByteArray), .bool false]) (t := 36) (h := ?_); intro gb210 hg w11 hbox hb; have n3_ := mk0 (gz_ HB hg); have n4_ := mk0 (gz_ HB hg); have n5_ := mk0 (ne1_ BK204 hg); have n6_ := mk0 (ne2_ BK204 hg); replace BK204 := mk0 (u_ BK204 hb); replace HB := mk0 (bt_ (b_ HB) hb); have BK210 := mk0 (hbox); have GW210 := n3_; have GE210 := n4_; have NB204_210 := n5_; have NB210_204 := n6_; clear n3_ n4_ n5_ n6_ hb hbox hg; have hnb12 := NB210_204.out; have hnc12 := NB204_210.out; obtain ⟨hcz13_0, hcz13_1, hcz13_2, hcz13_3, hfz13_0, hfz13_1, hfz13_2, hfz13_3⟩ := c4_ BK210)))
  go_ret2
  exact ⟨by first | rfl | (simp [errW_none, errW_some] <;> rfl) | (simp [*, errW_none, errW_some] <;> rfl), b_ HB⟩
 ·replace c7 := Bool.eq_false_iff.mpr c7
  subst c7
  rw [if_neg (show ¬ (false = true) by decide)] at H
  by_cases c14 : 0 ≤ a2
  ·rw [if_pos c14] at H
   have c14b0 : decide (0 ≤ a2) = true := decide_eq_true c14
   clear c14
   by_cases c15 : a2 < (l0.length : Int)
   ·rw [if_pos c15] at H
    have c15b0 : decide (a2 < (l0.length : Int)) = true := decide_eq_true c15
    clear c15
    replace H := Option.bind_eq_some_iff.mp H
    obtain ⟨⟨t212, t213⟩, A160, H⟩ := H
    try dsimp only at H
    have A16 := mk0 A160
    clear A160
    simp only [Option.some.injEq, Prod.mk.injEq] at H
    obtain ⟨rfl, rfl⟩ := H
    go_enter Try.func43, Try.ntmps43
    go_wp2_with (first | ((with_reducible refine gate_dst (N := 6) rfl ?_); refine bx_ (N := 6) (cs := #[.slice A1_0 l1_0.length c1_0, .slice A1_1 l1_1.length c1_1]) (t := 34) (h := ?_); intro gb204 hg w17 hbox hb; have n2_ := mk0 (gz_ HB hg); have n3_ := mk0 (gz_ HB hg); replace HB := mk0 (bt_ (b_ HB) hb); have BK204 := mk0 (hbox); have GW204 := n2_; have GE204 := n3_; clear n2_ n3_ hb hbox hg; obtain ⟨hcz18_0, hcz18_1, hfz18_0, hfz18_1⟩ := c2_ BK204) | (go_at_call 98; (with_reducible refine (pend_Look.calls _ _ l1_0 _ _ l1_1 a2 a3 t205 t206 t207 t208 false _ ?side1 ?side2 ?side3 ?side4 A6.out).mono ?_); (case side1 => exact cb_ HR1_0 HB); (case side2 => exact HC1_0.out); (case side3 => exact cb_ HR1_1 HB); (case side4 => exact HC1_1.out); rintro e w19 ⟨rfl, hb⟩; replace BK204 := mk0 (u_ BK204 hb); replace HB := mk0 (bt_ (b_ HB) hb); (try clear hb)) | ((with_reducible refine gate_dst (N := 12) rfl ?_); refine bx_ (N := 12) (cs := #[.int .i64 0, .string (⟨#[]⟩ : ByteArray), .string (⟨#[]⟩ : ByteArray), .bool false]) (t := 36) (h := ?_); intro gb210 hg w20 hbox hb; have n3_ := mk0 (gz_ HB hg); have n4_ := mk0 (gz_ HB hg); have n5_ := mk0 (ne1_ BK204 hg); have n6_ := mk0 (ne2_ BK204 hg); replace BK204 := mk0 (u_ BK204 hb); replace HB := mk0 (bt_ (b_ HB) hb); have BK210 := mk0 (hbox); have GW210 := n3_; have GE210 := n4_; have NB204_210 := n5_; have NB210_204 := n6_; clear n3_ n4_ n5_ n6_ hb hbox hg; have hnb21 := NB210_204.out; have hnc21 := NB204_210.out; obtain ⟨hcz22_0, hcz22_1, hcz22_2, hcz22_3, hfz22_0, hfz22_1, hfz22_2, hfz22_3⟩ := c4_ BK210; have p211 : 0 ≤ (a2 : Int) := of_decide_eq_true (by first | (with_reducible assumption) | assumption); have q211 : a2 < (l0.length : Int) := of_decide_eq_true (by first | (with_reducible assumption) | assumption); obtain ⟨ad211, A211_0, c211_0, e211, hx211_0, hl211_0, hi211_0⟩ := at_T47 HR0.out a2 p211 q211; cases e211; have hn211_0 : ad211.block ≠ gb210 := nb_ hx211_0 GW210; have hn211_1 : ad211.block ≠ gb210 := nb_ hx211_0 GW210; have hn211_2 : ad211.block ≠ gb210 := nb_ hx211_0 GW210; have hn211_3 : ad211.block ≠ gb210 := nb_ hx211_0 GW210; replace hx211_0 := (bc_ HB hx211_0 :); have HR211_0 := mk0 hi211_0; have HC211_0 := mk0 hl211_0; clear hi211_0 hl211_0; replace hx211_0 := (cell_far (p := ⟨gb210, 0, none⟩) (by first | (rw [add_block]; exact hn211_0) | (show (Addr.add _ _).block ≠ _; rw [add_block]; exact hn211_0) | exact hn211_0) (.int .i64 t205)).trans hx211_0; replace hx211_0 := (cell_far (p := ⟨gb210, 1, none⟩) (by first | (rw [add_block]; exact hn211_1) | (show (Addr.add _ _).block ≠ _; rw [add_block]; exact hn211_1) | exact hn211_1) (.string t206)).trans hx211_0; replace hx211_0 := (cell_far (p := ⟨gb210, 2, none⟩) (by first | (rw [add_block]; exact hn211_2) | (show (Addr.add _ _).block ≠ _; rw [add_block]; exact hn211_2) | exact hn211_2) (.string t207)).trans hx211_0; replace hx211_0 := (cell_far (p := ⟨gb210, 3, none⟩) (by first | (rw [add_block]; exact hn211_3) | (show (Addr.add _ _).block ≠ _; rw [add_block]; exact hn211_3) | exact hn211_3) (.bool t208)).trans hx211_0; (try have hy211_0 := fun (n_ : Nat) => (show ((((((w20.drewN n_).setCell ⟨gb210, 0, none⟩ (.int .i64 t205)).setCell ⟨gb210, 1, none⟩ (.string t206)).setCell ⟨gb210, 2, none⟩ (.string t207)).setCell ⟨gb210, 3, none⟩ (.bool t208))).cell? _ = some _ from hx211_0)); clear hn211_0 hn211_1 hn211_2 hn211_3; replace p211 := eq_true p211; replace q211 := eq_true q211) | (go_at_call 99; (with_reducible refine (table_Look.calls _ _ ((rd_T47 l0 a2).f0) a3 a4 t212 t213 _ ?side1 ?side2 A16.out).mono ?_); (case side1 => exact Kd.C_below HR211_0.out (b_ HB)); (case side2 => exact HC211_0.out); rintro e w23 ⟨rfl, hb⟩; replace BK204 := mk0 (blk_below (g := gb204) (o := .cells #[.slice A1_0 l1_0.length c1_0, .slice A1_1 l1_1.length c1_1] 34 (0, 0)) (fa_ (fa_ (fa_ (fa_ (h_ BK204) NB204_210.out) NB204_210.out) NB204_210.out) NB204_210.out) hb); replace BK210 := mk0 (blk_below (g := gb210) (o := .cells #[.int .i64 t205, .string t206, .string t207, .bool t208] 36 (0, 0)) (pu_ (cs := #[.int .i64 t205, .string t206, .string t207, .bool false]) (pu_ (cs := #[.int .i64 t205, .string t206, .string (⟨#[]⟩ : ByteArray), .bool false]) (pu_ (cs := #[.int .i64 t205, .string (⟨#[]⟩ : ByteArray), .string (⟨#[]⟩ : ByteArray), .bool false]) (pu_ (cs := #[.int .i64 0, .string (⟨#[]⟩ : ByteArray), .string (⟨#[]⟩ : ByteArray), .bool false]) (h_ BK210))))) hb); replace HB := mk0 (bt_ (b_ HB) hb); (try clear hb)))
    repeat (go_quiet (first | ((with_reducible refine gate_dst (N := 6) rfl ?_); refine bx_ (N := 6) (cs := #[.slice A1_0 l1_0.length c1_0, .slice A1_1 l1_1.length c1_1]) (t := 34) (h := ?_); intro gb204 hg w17 hbox hb; have n2_ := mk0 (gz_ HB hg); have n3_ := mk0 (gz_ HB hg); replace HB := mk0 (bt_ (b_ HB) hb); have BK204 := mk0 (hbox); have GW204 := n2_; have GE204 := n3_; clear n2_ n3_ hb hbox hg; obtain ⟨hcz18_0, hcz18_1, hfz18_0, hfz18_1⟩ := c2_ BK204) | (go_at_call 98; (with_reducible refine (pend_Look.calls _ _ l1_0 _ _ l1_1 a2 a3 t205 t206 t207 t208 false _ ?side1 ?side2 ?side3 ?side4 A6.out).mono ?_); (case side1 => exact cb_ HR1_0 HB); (case side2 => exact HC1_0.out); (case side3 => exact cb_ HR1_1 HB); (case side4 => exact HC1_1.out); rintro e w19 ⟨rfl, hb⟩; replace BK204 := mk0 (u_ BK204 hb); replace HB := mk0 (bt_ (b_ HB) hb); (try clear hb)) | ((with_reducible refine gate_dst (N := 12) rfl ?_); refine bx_ (N := 12) (cs := #[.int .i64 0, .string (⟨#[]⟩ : ByteArray), .string (⟨#[]⟩ : ByteArray), .bool false]) (t := 36) (h := ?_); intro gb210 hg w20 hbox hb; have n3_ := mk0 (gz_ HB hg); have n4_ := mk0 (gz_ HB hg); have n5_ := mk0 (ne1_ BK204 hg); have n6_ := mk0 (ne2_ BK204 hg); replace BK204 := mk0 (u_ BK204 hb); replace HB := mk0 (bt_ (b_ HB) hb); have BK210 := mk0 (hbox); have GW210 := n3_; have GE210 := n4_; have NB204_210 := n5_; have NB210_204 := n6_; clear n3_ n4_ n5_ n6_ hb hbox hg; have hnb21 := NB210_204.out; have hnc21 := NB204_210.out; obtain ⟨hcz22_0, hcz22_1, hcz22_2, hcz22_3, hfz22_0, hfz22_1, hfz22_2, hfz22_3⟩ := c4_ BK210; have p211 : 0 ≤ (a2 : Int) := of_decide_eq_true (by first | (with_reducible assumption) | assumption); have q211 : a2 < (l0.length : Int) := of_decide_eq_true (by first | (with_reducible assumption) | assumption); obtain ⟨ad211, A211_0, c211_0, e211, hx211_0, hl211_0, hi211_0⟩ := at_T47 HR0.out a2 p211 q211; cases e211; have hn211_0 : ad211.block ≠ gb210 := nb_ hx211_0 GW210; have hn211_1 : ad211.block ≠ gb210 := nb_ hx211_0 GW210; have hn211_2 : ad211.block ≠ gb210 := nb_ hx211_0 GW210; have hn211_3 : ad211.block ≠ gb210 := nb_ hx211_0 GW210; replace hx211_0 := (bc_ HB hx211_0 :); have HR211_0 := mk0 hi211_0; have HC211_0 := mk0 hl211_0; clear hi211_0 hl211_0; replace hx211_0 := (cell_far (p := ⟨gb210, 0, none⟩) (by first | (rw [add_block]; exact hn211_0) | (show (Addr.add _ _).block ≠ _; rw [add_block]; exact hn211_0) | exact hn211_0) (.int .i64 t205)).trans hx211_0; replace hx211_0 := (cell_far (p := ⟨gb210, 1, none⟩) (by first | (rw [add_block]; exact hn211_1) | (show (Addr.add _ _).block ≠ _; rw [add_block]; exact hn211_1) | exact hn211_1) (.string t206)).trans hx211_0; replace hx211_0 := (cell_far (p := ⟨gb210, 2, none⟩) (by first | (rw [add_block]; exact hn211_2) | (show (Addr.add _ _).block ≠ _; rw [add_block]; exact hn211_2) | exact hn211_2) (.string t207)).trans hx211_0; replace hx211_0 := (cell_far (p := ⟨gb210, 3, none⟩) (by first | (rw [add_block]; exact hn211_3) | (show (Addr.add _ _).block ≠ _; rw [add_block]; exact hn211_3) | exact hn211_3) (.bool t208)).trans hx211_0; (try have hy211_0 := fun (n_ : Nat) => (show ((((((w20.drewN n_).setCell ⟨gb210, 0, none⟩ (.int .i64 t205)).setCell ⟨gb210, 1, none⟩ (.string t206)).setCell ⟨gb210, 2, none⟩ (.string t207)).setCell ⟨gb210, 3, none⟩ (.bool t208))).cell? _ = some _ from hx211_0)); clear hn211_0 hn211_1 hn211_2 hn211_3; replace p211 := eq_true p211; replace q211 := eq_true q211) | (go_at_call 99; (with_reducible refine (table_Look.calls _ _ ((rd_T47 l0 a2).f0) a3 a4 t212 t213 _ ?side1 ?side2 A16.out).mono ?_); (case side1 => exact Kd.C_below HR211_0.out (b_ HB)); (case side2 => exact HC211_0.out); rintro e w23 ⟨rfl, hb⟩; replace BK204 := mk0 (blk_below (g := gb204) (o := .cells #[.slice A1_0 l1_0.length c1_0, .slice A1_1 l1_1.length c1_1] 34 (0, 0)) (fa_ (fa_ (fa_ (fa_ (h_ BK204) NB204_210.out) NB204_210.out) NB204_210.out) NB204_210.out) hb); replace BK210 := mk0 (blk_below (g := gb210) (o := .cells #[.int .i64 t205, .string t206, .string t207, .bool t208] 36 (0, 0)) (pu_ (cs := #[.int .i64 t205, .string t206, .string t207, .bool false]) (pu_ (cs := #[.int .i64 t205, .string t206, .string (⟨#[]⟩ : ByteArray), .bool false]) (pu_ (cs := #[.int .i64 t205, .string (⟨#[]⟩ : ByteArray), .string (⟨#[]⟩ : ByteArray), .bool false]) (pu_ (cs := #[.int .i64 0, .string (⟨#[]⟩ : ByteArray), .string (⟨#[]⟩ : ByteArray), .bool false]) (h_ BK210))))) hb); replace HB := mk0 (bt_ (b_ HB) hb); (try clear hb))); try go_wp2_with (first | ((with_reducible refine gate_dst (N := 6) rfl ?_); refine bx_ (N := 6) (cs := #[.slice A1_0 l1_0.length c1_0, .slice A1_1 l1_1.length c1_1]) (t := 34) (h := ?_); intro gb204 hg w17 hbox hb; have n2_ := mk0 (gz_ HB hg); have n3_ := mk0 (gz_ HB hg); replace HB := mk0 (bt_ (b_ HB) hb); have BK204 := mk0 (hbox); have GW204 := n2_; have GE204 := n3_; clear n2_ n3_ hb hbox hg; obtain ⟨hcz18_0, hcz18_1, hfz18_0, hfz18_1⟩ := c2_ BK204) | (go_at_call 98; (with_reducible refine (pend_Look.calls _ _ l1_0 _ _ l1_1 a2 a3 t205 t206 t207 t208 false _ ?side1 ?side2 ?side3 ?side4 A6.out).mono ?_); (case side1 => exact cb_ HR1_0 HB); (case side2 => exact HC1_0.out); (case side3 => exact cb_ HR1_1 HB); (case side4 => exact HC1_1.out); rintro e w19 ⟨rfl, hb⟩; replace BK204 := mk0 (u_ BK204 hb); replace HB := mk0 (bt_ (b_ HB) hb); (try clear hb)) | ((with_reducible refine gate_dst (N := 12) rfl ?_); refine bx_ (N := 12) (cs := #[.int .i64 0, .string (⟨#[]⟩ : ByteArray), .string (⟨#[]⟩ : ByteArray), .bool false]) (t := 36) (h := ?_); intro gb210 hg w20 hbox hb; have n3_ := mk0 (gz_ HB hg); have n4_ := mk0 (gz_ HB hg); have n5_ := mk0 (ne1_ BK204 hg); have n6_ := mk0 (ne2_ BK204 hg); replace BK204 := mk0 (u_ BK204 hb); replace HB := mk0 (bt_ (b_ HB) hb); have BK210 := mk0 (hbox); have GW210 := n3_; have GE210 := n4_; have NB204_210 := n5_; have NB210_204 := n6_; clear n3_ n4_ n5_ n6_ hb hbox hg; have hnb21 := NB210_204.out; have hnc21 := NB204_210.out; obtain ⟨hcz22_0, hcz22_1, hcz22_2, hcz22_3, hfz22_0, hfz22_1, hfz22_2, hfz22_3⟩ := c4_ BK210; have p211 : 0 ≤ (a2 : Int) := of_decide_eq_true (by first | (with_reducible assumption) | assumption); have q211 : a2 < (l0.length : Int) := of_decide_eq_true (by first | (with_reducible assumption) | assumption); obtain ⟨ad211, A211_0, c211_0, e211, hx211_0, hl211_0, hi211_0⟩ := at_T47 HR0.out a2 p211 q211; cases e211; have hn211_0 : ad211.block ≠ gb210 := nb_ hx211_0 GW210; have hn211_1 : ad211.block ≠ gb210 := nb_ hx211_0 GW210; have hn211_2 : ad211.block ≠ gb210 := nb_ hx211_0 GW210; have hn211_3 : ad211.block ≠ gb210 := nb_ hx211_0 GW210; replace hx211_0 := (bc_ HB hx211_0 :); have HR211_0 := mk0 hi211_0; have HC211_0 := mk0 hl211_0; clear hi211_0 hl211_0; replace hx211_0 := (cell_far (p := ⟨gb210, 0, none⟩) (by first | (rw [add_block]; exact hn211_0) | (show (Addr.add _ _).block ≠ _; rw [add_block]; exact hn211_0) | exact hn211_0) (.int .i64 t205)).trans hx211_0; replace hx211_0 := (cell_far (p := ⟨gb210, 1, none⟩) (by first | (rw [add_block]; exact hn211_1) | (show (Addr.add _ _).block ≠ _; rw [add_block]; exact hn211_1) | exact hn211_1) (.string t206)).trans hx211_0; replace hx211_0 := (cell_far (p := ⟨gb210, 2, none⟩) (by first | (rw [add_block]; exact hn211_2) | (show (Addr.add _ _).block ≠ _; rw [add_block]; exact hn211_2) | exact hn211_2) (.string t207)).trans hx211_0; replace hx211_0 := (cell_far (p := ⟨gb210, 3, none⟩) (by first | (rw [add_block]; exact hn211_3) | (show (Addr.add _ _).block ≠ _; rw [add_block]; exact hn211_3) | exact hn211_3) (.bool t208)).trans hx211_0; (try have hy211_0 := fun (n_ : Nat) => (show ((((((w20.drewN n_).setCell ⟨gb210, 0, none⟩ (.int .i64 t205)).setCell ⟨gb210, 1, none⟩ (.string t206)).setCell ⟨gb210, 2, none⟩ (.string t207)).setCell ⟨gb210, 3, none⟩ (.bool t208))).cell? _ = some _ from hx211_0)); clear hn211_0 hn211_1 hn211_2 hn211_3; replace p211 := eq_true p211; replace q211 := eq_true q211) | (go_at_call 99; (with_reducible refine (table_Look.calls _ _ ((rd_T47 l0 a2).f0) a3 a4 t212 t213 _ ?side1 ?side2 A16.out).mono ?_); (case side1 => exact Kd.C_below HR211_0.out (b_ HB)); (case side2 => exact HC211_0.out); rintro e w23 ⟨rfl, hb⟩; replace BK204 := mk0 (blk_below (g := gb204) (o := .cells #[.slice A1_0 l1_0.length c1_0, .slice A1_1 l1_1.length c1_1] 34 (0, 0)) (fa_ (fa_ (fa_ (fa_ (h_ BK204) NB204_210.out) NB204_210.out) NB204_210.out) NB204_210.out) hb); replace BK210 := mk0 (blk_below (g := gb210) (o := .cells #[.int .i64 t205, .string t206, .string t207, .bool t208] 36 (0, 0)) (pu_ (cs := #[.int .i64 t205, .string t206, .string t207, .bool false]) (pu_ (cs := #[.int .i64 t205, .string t206, .string (⟨#[]⟩ : ByteArray), .bool false]) (pu_ (cs := #[.int .i64 t205, .string (⟨#[]⟩ : ByteArray), .string (⟨#[]⟩ : ByteArray), .bool false]) (pu_ (cs := #[.int .i64 0, .string (⟨#[]⟩ : ByteArray), .string (⟨#[]⟩ : ByteArray), .bool false]) (h_ BK210))))) hb); replace HB := mk0 (bt_ (b_ HB) hb); (try clear hb))))
    go_ret2
    exact ⟨by first | rfl | (simp [errW_none, errW_some] <;> rfl) | (simp [*, errW_none, errW_some] <;> rfl), b_ HB⟩
   ·rw [if_neg c15] at H
    exact absurd H (by simp)
  ·rw [if_neg c14] at H
   exact absurd H (by simp)

/-! ### view_Get: function 18 -/
def view_Get.j0 : Nat → List (S47) → Int → ByteArray → Int → Bool → List (S36) → List Int → Option (ByteArray × Int)
 | 0, _, _, _, _, _, _, _ => none
 | k + 1, x0, x2, x3, x4, x28, x215000, x215001 => if x28 = true then (some ((⟨#[]⟩ : ByteArray), 1)) else ((view_Look.f x0 x215000 x215001 x2 x3 x4).bind fun bt218 => (if bt218.2 = true then (some (bt218.1, 0)) else (some ((⟨#[]⟩ : ByteArray), 3))))
def view_Get.f (k : Nat) (l0 : List (S47)) (l1_0 : List (S36)) (l1_1 : List Int) (a2 : Int) (a3 : ByteArray) (a4 : Int) : Option (ByteArray × Int) := (view_May.f k l0 l1_0 l1_1).bind fun t215 => (if t215 = true then ((view_there.f l0 a2).bind fun t216 => (if t216 = true then ((key_Is.f a3).bind fun t217 => (view_Get.j0 k l0 a2 a3 a4 (!t217) l1_0 l1_1)) else (view_Get.j0 k l0 a2 a3 a4 true l1_0 l1_1))) else (view_Get.j0 k l0 a2 a3 a4 true l1_0 l1_1))
theorem view_Get.mono_l : ∀ k, (∀ y0 y1 y2 y3 y4 y5 y6, LeO (view_Get.j0 k y0 y1 y2 y3 y4 y5 y6) (view_Get.j0 (k + 1) y0 y1 y2 y3 y4 y5 y6))
 | 0 => fun _ _ _ _ _ _ _ r h => by simp [view_Get.j0] at h
 | k + 1 => by
  have ih0 := view_Get.mono_l k
  ·intro y0 y1 y2 y3 y4 y5 y6
   unfold view_Get.j0
   repeat' first
   | (with_reducible exact ih0 _ _ _ _ _ _ _)
   | (with_reducible exact view_May.mono _ _ _ _)
   | (with_reducible exact LeO.refl _)
   | (with_reducible exact LeO.none _)
   | (with_reducible refine LeO.ite ?_ ?_)
   | (with_reducible refine LeO.bind ?_ (fun _ => ?_))
   | exact ih0 _ _ _ _ _ _ _
   | exact view_May.mono _ _ _ _
   | exact LeO.none _
   | refine LeO.ite ?_ ?_
   | refine LeO.bind ?_ (fun _ => ?_)
theorem view_Get.mono : ∀ a0 a1 a2 a3 a4 a5 k, LeO (view_Get.f k a0 a1 a2 a3 a4 a5) (view_Get.f (k + 1) a0 a1 a2 a3 a4 a5) := by
 intro a0 a1 a2 a3 a4 a5 k
 have ih0 := view_Get.mono_l k
 unfold view_Get.f
 repeat' first
   | (with_reducible exact ih0 _ _ _ _ _ _ _)
   | (with_reducible exact view_May.mono _ _ _ _)
   | (with_reducible exact LeO.refl _)
   | (with_reducible exact LeO.none _)
   | (with_reducible refine LeO.ite ?_ ?_)
   | (with_reducible refine LeO.bind ?_ (fun _ => ?_))
   | exact ih0 _ _ _ _ _ _ _
   | exact view_May.mono _ _ _ _
   | exact LeO.none _
   | refine LeO.ite ?_ ?_
   | refine LeO.bind ?_ (fun _ => ?_)
set_option maxHeartbeats 8000000 in
set_option maxRecDepth 100000 in
theorem view_Get.calls (k : Nat) (A0 : Option Addr) (c0 : Nat) (l0 : List (S47)) (A1_0 : Option Addr) (c1_0 : Nat) (l1_0 : List (S36)) (A1_1 : Option Addr) (c1_1 : Nat) (l1_1 : List Int) (a2 : Int) (a3 : ByteArray) (a4 : Int) (r1 : ByteArray) (r2 : Int) (w : World) (hr0 : Kd.C k47 w A0 l0.length l0) (hc0 : l0.length ≤ c0) (hr1_0 : Kd.C k36 w A1_0 l1_0.length l1_0) (hc1_0 : l1_0.length ≤ c1_0) (hr1_1 : Kd.C (Kd.int .i64) w A1_1 l1_1.length l1_1) (hc1_1 : l1_1.length ≤ c1_1) (h : view_Get.f k l0 l1_0 l1_1 a2 a3 a4 = some (r1, r2)) :
  Calls Try.prog 18 #[.slice A0 l0.length c0, .agg #[.slice A1_0 l1_0.length c1_0, .slice A1_1 l1_1.length c1_1], .int .i64 a2, .string a3, .int .i64 a4] w fun e w' => e = .returned (.tuple #[.string r1, .int .i64 r2]) ∧ Below w.heap.size w w' := by
 have hu34 := Try.underlying34
 have HR0 := mk0 hr0
 have HC0 := mk0 hc0
 clear hr0 hc0
 have HR1_0 := mk0 hr1_0
 have HC1_0 := mk0 hc1_0
 clear hr1_0 hc1_0
 have HR1_1 := mk0 hr1_1
 have HC1_1 := mk0 hc1_1
 clear hr1_1 hc1_1
 have HB := mk0 (Below.refl w.heap.size w)
 have H : ((view_May.f k l0 l1_0 l1_1).bind fun t215 => (if t215 = true then ((view_there.f l0 a2).bind fun t216 => (if t216 = true then ((key_Is.f a3).bind fun t217 => (view_Get.j0 k l0 a2 a3 a4 (!t217) l1_0 l1_1)) else (view_Get.j0 k l0 a2 a3 a4 true l1_0 l1_1))) else (view_Get.j0 k l0 a2 a3 a4 true l1_0 l1_1))) = some (r1, r2) := h
 clear h
 have HC6 := mk0 H
 clear H
 go_enter Try.func18, Try.ntmps18
 go_upto_region 1 with (first | ((with_reducible refine gate_dst (N := 6) rfl ?_); refine bx_ (N := 6) (cs := #[.slice A1_0 l1_0.length c1_0, .slice A1_1 l1_1.length c1_1]) (t := 34) (h := ?_); intro gb214 hg w7 hbox hb; have n2_ := mk0 (gz_ HB hg); have n3_ := mk0 (gz_ HB hg); replace HB := mk0 (bt_ (b_ HB) hb); have BK214 := mk0 (hbox); have GW214 := n2_; have GE214 := n3_; clear n2_ n3_; clear hb hbox hg))
 (try simp only [Act.put, List.setIfInBounds_toArray, List.set_cons_zero, List.set_cons_succ])
 go_cut [28] (fun v28 wc => ∃ (kq : Nat) (x28_5 : Bool), v28 = .bool x28_5 ∧ Fc (view_Get.j0 kq l0 a2 a3 a4 x28_5 l1_0 l1_1 = some (r1, r2)) ∧ Fc (kq ≤ k) ∧ Fc (wc.heap[gb214]? = some (.cells #[(.slice A1_0 l1_0.length c1_0), (.slice A1_1 l1_1.length c1_1)] 34 (0, 0))) ∧ Fc (Below w.heap.size w wc))
 case first =>
  have H := HC6.out
  clear HC6
  replace H := Option.bind_eq_some_iff.mp H
  obtain ⟨t215, A80, H⟩ := H
  try dsimp only at H
  have A8 := mk0 A80
  clear A80
  by_cases c9 : t215 = true
  ·subst c9
   rw [if_pos rfl] at H
   replace H := Option.bind_eq_some_iff.mp H
   obtain ⟨t216, A100, H⟩ := H
   try dsimp only at H
   have A10 := mk0 A100
   clear A100
   by_cases c11 : t216 = true
   ·subst c11
    rw [if_pos rfl] at H
    replace H := Option.bind_eq_some_iff.mp H
    obtain ⟨t217, A120, H⟩ := H
    try dsimp only at H
    have A12 := mk0 A120
    clear A120
    have H' := mk0 H
    clear H
    obtain ⟨hcz13_0, hcz13_1, hfz13_0, hfz13_1⟩ := c2_ BK214
    go_wp2_with (first | ((with_reducible refine gate_callee (f := 40) rfl ?_); refine gL_ (some 16) Try.func40 #[.slice A0 l0.length c0, .agg #[.slice A1_0 l1_0.length c1_0, .slice A1_1 l1_1.length c1_1]] (h := ?_); (with_reducible refine (view_May.calls k _ _ l0 _ _ l1_0 _ _ l1_1 true _ ?side1 ?side2 ?side3 ?side4 ?side5 ?side6 A8.out).mono ?_); (case side1 => exact cb_ HR0 HB); (case side2 => exact HC0.out); (case side3 => exact cb_ HR1_0 HB); (case side4 => exact HC1_0.out); (case side5 => exact cb_ HR1_1 HB); (case side6 => exact HC1_1.out); rintro e w14 ⟨rfl, hb⟩; refine ⟨_, rfl, ?_⟩; replace BK214 := mk0 (u_ BK214 hb); replace HB := mk0 (bt_ (b_ HB) hb); (try clear hb)) | (go_at_call 41; (with_reducible refine (view_there.calls _ _ l0 a2 true _ ?side1 ?side2 A10.out).mono ?_); (case side1 => exact cb_ HR0 HB); (case side2 => exact HC0.out); rintro e w' ⟨rfl, ⟨nd, rfl⟩⟩) | (go_at_call 42; (with_reducible refine (key_Is.calls a3 t217 _ A12.out).mono ?_); rintro e w' ⟨rfl, ⟨nd, rfl⟩⟩))
    go_meet
    case rel => exact ⟨_, (!t217), (by first | rfl | (simp; done) | (simp [*]; done)), H', ⟨by first | omega | exact Nat.le_refl _⟩, ⟨h_ BK214⟩, ⟨b_ HB⟩⟩
   ·replace c11 := Bool.eq_false_iff.mpr c11
    subst c11
    rw [if_neg (show ¬ (false = true) by decide)] at H
    have H' := mk0 H
    clear H
    obtain ⟨hcz15_0, hcz15_1, hfz15_0, hfz15_1⟩ := c2_ BK214
    go_wp2_with (first | ((with_reducible refine gate_callee (f := 40) rfl ?_); refine gL_ (some 16) Try.func40 #[.slice A0 l0.length c0, .agg #[.slice A1_0 l1_0.length c1_0, .slice A1_1 l1_1.length c1_1]] (h := ?_); (with_reducible refine (view_May.calls k _ _ l0 _ _ l1_0 _ _ l1_1 true _ ?side1 ?side2 ?side3 ?side4 ?side5 ?side6 A8.out).mono ?_); (case side1 => exact cb_ HR0 HB); (case side2 => exact HC0.out); (case side3 => exact cb_ HR1_0 HB); (case side4 => exact HC1_0.out); (case side5 => exact cb_ HR1_1 HB); (case side6 => exact HC1_1.out); rintro e w16 ⟨rfl, hb⟩; refine ⟨_, rfl, ?_⟩; replace BK214 := mk0 (u_ BK214 hb); replace HB := mk0 (bt_ (b_ HB) hb); (try clear hb)) | (go_at_call 41; (with_reducible refine (view_there.calls _ _ l0 a2 false _ ?side1 ?side2 A10.out).mono ?_); (case side1 => exact cb_ HR0 HB); (case side2 => exact HC0.out); rintro e w' ⟨rfl, ⟨nd, rfl⟩⟩))
    go_meet
    case rel => exact ⟨_, (true), (by first | rfl | (simp; done) | (simp [*]; done)), H', ⟨by first | omega | exact Nat.le_refl _⟩, ⟨h_ BK214⟩, ⟨b_ HB⟩⟩
  ·replace c9 := Bool.eq_false_iff.mpr c9
   subst c9
   rw [if_neg (show ¬ (false = true) by decide)] at H
   have H' := mk0 H
   clear H
   obtain ⟨hcz17_0, hcz17_1, hfz17_0, hfz17_1⟩ := c2_ BK214
   go_wp2_with (first | ((with_reducible refine gate_callee (f := 40) rfl ?_); refine gL_ (some 16) Try.func40 #[.slice A0 l0.length c0, .agg #[.slice A1_0 l1_0.length c1_0, .slice A1_1 l1_1.length c1_1]] (h := ?_); (with_reducible refine (view_May.calls k _ _ l0 _ _ l1_0 _ _ l1_1 false _ ?side1 ?side2 ?side3 ?side4 ?side5 ?side6 A8.out).mono ?_); (case side1 => exact cb_ HR0 HB); (case side2 => exact HC0.out); (case side3 => exact cb_ HR1_0 HB); (case side4 => exact HC1_0.out); (case side5 => exact cb_ HR1_1 HB); (case side6 => exact HC1_1.out); rintro e w18 ⟨rfl, hb⟩; refine ⟨_, rfl, ?_⟩; replace BK214 := mk0 (u_ BK214 hb); replace HB := mk0 (bt_ (b_ HB) hb); (try clear hb)))
   go_meet
   case rel => exact ⟨_, (true), (by first | rfl | (simp; done) | (simp [*]; done)), H', ⟨by first | omega | exact Nat.le_refl _⟩, ⟨h_ BK214⟩, ⟨b_ HB⟩⟩
 case rest =>
  clear HC6
  try clear c9
  try clear c11
  try clear hcz13_0
  try clear hcz13_1
  try clear hcz15_0
  try clear hcz15_1
  try clear hcz17_0
  try clear hcz17_1
  try clear hfz13_0
  try clear hfz13_1
  try clear hfz15_0
  try clear hfz15_1
  try clear hfz17_0
  try clear hfz17_1
  obtain ⟨kq, x28_5, rfl, HA, HJ5, BK214, HB⟩ := hcut
  cases kq with
  | zero => exact absurd HA.out (by simp [view_Get.j0])
  | succ kj5 =>
   have H := HA.out
   clear HA
   simp only [view_Get.j0] at H
   as_aux_lemma =>
    by_cases c19 : x28_5 = true
    ·subst c19
     rw [if_pos rfl] at H
     simp only [Option.some.injEq, Prod.mk.injEq] at H
     obtain ⟨rfl, rfl⟩ := H
     go_wp2
     go_ret2
     exact ⟨by first | rfl | (simp [errW_none, errW_some] <;> rfl) | (simp [*, errW_none, errW_some] <;> rfl), b_ HB⟩
    ·replace c19 := Bool.eq_false_iff.mpr c19
     subst c19
     rw [if_neg (show ¬ (false = true) by decide)] at H
     replace H := Option.bind_eq_some_iff.mp H
     obtain ⟨⟨t218, t219⟩, A200, H⟩ := H
     try dsimp only at H
     have A20 := mk0 A200
     clear A200
     by_cases c21 : t219 = true
     ·subst c21
      rw [if_pos rfl] at H
      simp only [Option.some.injEq, Prod.mk.injEq] at H
      obtain ⟨rfl, rfl⟩ := H
      obtain ⟨hcz22_0, hcz22_1, hfz22_0, hfz22_1⟩ := c2_ BK214
      go_wp2_with (first | ((with_reducible refine gate_callee (f := 43) rfl ?_); refine gL_ (some 35) Try.func43 #[.slice A0 l0.length c0, .agg #[.slice A1_0 l1_0.length c1_0, .slice A1_1 l1_1.length c1_1], .int .i64 a2, .string a3, .int .i64 a4] (h := ?_); (with_reducible refine (view_Look.calls _ _ l0 _ _ l1_0 _ _ l1_1 a2 a3 a4 t218 true _ ?side1 ?side2 ?side3 ?side4 ?side5 ?side6 A20.out).mono ?_); (case side1 => exact cb_ HR0 HB); (case side2 => exact HC0.out); (case side3 => exact cb_ HR1_0 HB); (case side4 => exact HC1_0.out); (case side5 => exact cb_ HR1_1 HB); (case side6 => exact HC1_1.out); rintro e w23 ⟨rfl, hb⟩; refine ⟨_, rfl, ?_⟩; replace BK214 := mk0 (u_ BK214 hb); replace HB := mk0 (bt_ (b_ HB) hb); (try clear hb)))
      go_ret2
      exact ⟨by first | rfl | (simp [errW_none, errW_some] <;> rfl) | (simp [*, errW_none, errW_some] <;> rfl), b_ HB⟩
     ·replace c21 := Bool.eq_false_iff.mpr c21
      subst c21
      rw [if_neg (show ¬ (false = true) by decide)] at H
      simp only [Option.some.injEq, Prod.mk.injEq] at H
      obtain ⟨rfl, rfl⟩ := H
      obtain ⟨hcz24_0, hcz24_1, hfz24_0, hfz24_1⟩ := c2_ BK214
      go_wp2_with (first | ((with_reducible refine gate_callee (f := 43) rfl ?_); refine gL_ (some 35) Try.func43 #[.slice A0 l0.length c0, .agg #[.slice A1_0 l1_0.length c1_0, .slice A1_1 l1_1.length c1_1], .int .i64 a2, .string a3, .int .i64 a4] (h := ?_); (with_reducible refine (view_Look.calls _ _ l0 _ _ l1_0 _ _ l1_1 a2 a3 a4 t218 false _ ?side1 ?side2 ?side3 ?side4 ?side5 ?side6 A20.out).mono ?_); (case side1 => exact cb_ HR0 HB); (case side2 => exact HC0.out); (case side3 => exact cb_ HR1_0 HB); (case side4 => exact HC1_0.out); (case side5 => exact cb_ HR1_1 HB); (case side6 => exact HC1_1.out); rintro e w25 ⟨rfl, hb⟩; refine ⟨_, rfl, ?_⟩; replace BK214 := mk0 (u_ BK214 hb); replace HB := mk0 (bt_ (b_ HB) hb); (try clear hb)))
      go_ret2
      exact ⟨by first | rfl | (simp [errW_none, errW_some] <;> rfl) | (simp [*, errW_none, errW_some] <;> rfl), b_ HB⟩

/-! ### quorumlaw11_num: function 19 -/
def quorumlaw11_num.f (a0 : Int) : Option (Int) := some a0
set_option maxHeartbeats 8000000 in
set_option maxRecDepth 100000 in
theorem quorumlaw11_num.calls (a0 : Int) (r : Int) (w : World) (h : quorumlaw11_num.f a0 = some r) :
  Calls Try.prog 19 #[.int .i64 a0] w fun e w' => e = .returned (.int .i64 r) ∧ Drawn0 w w' := by
 have H : (some a0) = some r := h
 clear h
 obtain rfl := Option.some.inj H
 go_enter Try.func19, Try.ntmps19
 go_wp2
 go_ret
 exact ⟨by first | rfl | (simp; done) | (simp [*]; done), by repeat (first | exact Drawn0.refl _ | apply Drawn0.step)⟩

end Go.Proofs.Ytbaecdcfefmcgaa.PVow
