import Derived.Test.YtkmkppchhdkipaaDoorPTrx1
import Derived.Test.YtkmkppchhdkipaaDoorPTrx2
import Derived.Test.YtkmkppchhdkipaaDoorHTr0
/- package tree: leaf, walked by hand: a leaf that may be is told to be one. -/
namespace Go.Proofs.YtkmkppchhdkipaaDoor.HMay
open Go.Lib Go.RowKit Go.Proofs.YtkmkppchhdkipaaDoorW.PrintWords Go.Proofs.YtkmkppchhdkipaaDoorW.PrintLast Go.Proofs.YtkmkppchhdkipaaDoorW.PrintMore Go.Proofs.YtkmkppchhdkipaaDoor.PTr Go.Proofs Go.Proofs.YtkmkppchhdkipaaDoor.HTree Go.Proofs.YtkmkppchhdkipaaDoor.HNum
set_option linter.unusedSimpArgs false
set_option linter.unusedVariables false
set_option maxHeartbeats 1000000 in
set_option maxRecDepth 100000 in
theorem idx_i (F : Nat) (A0 : Option Addr) (c0 : Nat) (l0 : List Int) (w : World) (hr0 : Kd.C (Kd.int .i64) w A0 l0.length l0) (hm : l0.length ≤ 1000000)
    (eg : ∀ args w, (callFunc F args).run Tryd.prog w = .ok (.enter F args) w)
    (HP : ∀ i : Nat, i < l0.length → ∀ W : World, Calls Tryd.prog F #[.int .i64 (rd l0 (i : Int))] W fun e W' => e = .returned (.bool false) ∧ Below W.heap.size W W') :
    Calls Tryd.prog 108 #[.slice A0 l0.length c0, .func (Fn.func F) #[] #[]] w fun e w' => e = .returned (.int .i64 (-1)) ∧ Below w.heap.size w w' := by
  have HR0 := Aside0.mk hr0
  have HM := Aside0.mk hm
  clear hr0 hm
  have HPA := Aside0.mk HP
  clear HP
  have HB := Aside0.mk (Below.refl w.heap.size w)
  go_enter Tryd.func108, Tryd.ntmps108
  go_wp2
  go_loopg [5, 8] l0.length (fun kq _ v8 w' => ∃ (i : Nat), v8 = .int .i64 i ∧ Aside0 (kq + i = l0.length) ∧ Aside0 (Below w.heap.size w w'))
  case atStart => exact ⟨0, rfl, ⟨by omega⟩, HB⟩
  case round =>
    clear HB
    obtain ⟨i, rfl, HK, HB⟩ := hrel
    by_cases hi : i < l0.length
    · have p200 : (0:Int) ≤ (i : Int) := by omega
      have q200 : (i:Int) < (l0.length : Int) := by omega
      obtain ⟨ad200, e200, hx200_0⟩ := Kd.at_int HR0.out (i:Int) p200 q200
      cases e200
      replace hx200_0 := (HB.out.cell (World.block_lt_of_cell? w _ hx200_0)).trans hx200_0
      simp only [Int.toNat_natCast] at hx200_0
      have hcall := HPA.out i hi
      go_wp2_with ((with_reducible refine (hcall _).mono ?_); rintro e w' ⟨rfl, hb'⟩)
      go_roundg (gk - 1)
      case measure => have := HK.out; omega
      case rel => exact ⟨i + 1, by rw [wrap_succ i (by have := HM.out; omega)], ⟨by have := HK.out; omega⟩, ⟨HB.out.trans (hb'.mono HB.out.size)⟩⟩
    · have hltz : ¬ (i : Int) < (l0.length : Int) := by omega
      go_wp2
      go_ret
      exact ⟨rfl, HB.out⟩
set_option maxHeartbeats 1000000 in
set_option maxRecDepth 100000 in
theorem con_i (F : Nat) (A0 : Option Addr) (c0 : Nat) (l0 : List Int) (w : World) (hr0 : Kd.C (Kd.int .i64) w A0 l0.length l0) (hm : l0.length ≤ 1000000)
    (eg : ∀ args w, (callFunc F args).run Tryd.prog w = .ok (.enter F args) w)
    (HP : ∀ i : Nat, i < l0.length → ∀ W : World, Calls Tryd.prog F #[.int .i64 (rd l0 (i : Int))] W fun e W' => e = .returned (.bool false) ∧ Below W.heap.size W W') :
    Calls Tryd.prog 102 #[.slice A0 l0.length c0, .func (Fn.func F) #[] #[]] w fun e w' => e = .returned (.bool false) ∧ Below w.heap.size w w' := by
  have hcon := idx_i F A0 c0 l0 w hr0 hm eg HP
  clear hr0 eg HP hm
  go_enter Tryd.func102, Tryd.ntmps102
  go_wp2_with ((with_reducible refine hcon.mono ?_); rintro e w' ⟨rfl, hb'⟩)
  go_ret
  exact ⟨rfl, hb'⟩
set_option maxHeartbeats 1000000 in
set_option maxRecDepth 100000 in
theorem idx_s (F : Nat) (A0 : Option Addr) (c0 : Nat) (l0 : List ByteArray) (w : World) (hr0 : Kd.C Kd.string w A0 l0.length l0) (hm : l0.length ≤ 1000000)
    (eg : ∀ args w, (callFunc F args).run Tryd.prog w = .ok (.enter F args) w)
    (HP : ∀ i : Nat, i < l0.length → ∀ W : World, Calls Tryd.prog F #[.string (rdOf ByteArray.empty l0 (i : Int))] W fun e W' => e = .returned (.bool false) ∧ Below W.heap.size W W') :
    Calls Tryd.prog 109 #[.slice A0 l0.length c0, .func (Fn.func F) #[] #[]] w fun e w' => e = .returned (.int .i64 (-1)) ∧ Below w.heap.size w w' := by
  have HR0 := Aside0.mk hr0
  have HM := Aside0.mk hm
  clear hr0 hm
  have HPA := Aside0.mk HP
  clear HP
  have HB := Aside0.mk (Below.refl w.heap.size w)
  go_enter Tryd.func109, Tryd.ntmps109
  go_wp2
  go_loopg [5, 8] l0.length (fun kq _ v8 w' => ∃ (i : Nat), v8 = .int .i64 i ∧ Aside0 (kq + i = l0.length) ∧ Aside0 (Below w.heap.size w w'))
  case atStart => exact ⟨0, rfl, ⟨by omega⟩, HB⟩
  case round =>
    clear HB
    obtain ⟨i, rfl, HK, HB⟩ := hrel
    by_cases hi : i < l0.length
    · have p200 : (0:Int) ≤ (i : Int) := by omega
      have q200 : (i:Int) < (l0.length : Int) := by omega
      obtain ⟨ad200, e200, hx200_0⟩ := Kd.at_string HR0.out (i:Int) p200 q200
      cases e200
      replace hx200_0 := (HB.out.cell (World.block_lt_of_cell? w _ hx200_0)).trans hx200_0
      simp only [Int.toNat_natCast] at hx200_0
      have hcall := HPA.out i hi
      go_wp2_with ((with_reducible refine (hcall _).mono ?_); rintro e w' ⟨rfl, hb'⟩)
      go_roundg (gk - 1)
      case measure => have := HK.out; omega
      case rel => exact ⟨i + 1, by rw [wrap_succ i (by have := HM.out; omega)], ⟨by have := HK.out; omega⟩, ⟨HB.out.trans (hb'.mono HB.out.size)⟩⟩
    · have hltz : ¬ (i : Int) < (l0.length : Int) := by omega
      go_wp2
      go_ret
      exact ⟨rfl, HB.out⟩
set_option maxHeartbeats 1000000 in
set_option maxRecDepth 100000 in
theorem con_s (F : Nat) (A0 : Option Addr) (c0 : Nat) (l0 : List ByteArray) (w : World) (hr0 : Kd.C Kd.string w A0 l0.length l0) (hm : l0.length ≤ 1000000)
    (eg : ∀ args w, (callFunc F args).run Tryd.prog w = .ok (.enter F args) w)
    (HP : ∀ i : Nat, i < l0.length → ∀ W : World, Calls Tryd.prog F #[.string (rdOf ByteArray.empty l0 (i : Int))] W fun e W' => e = .returned (.bool false) ∧ Below W.heap.size W W') :
    Calls Tryd.prog 103 #[.slice A0 l0.length c0, .func (Fn.func F) #[] #[]] w fun e w' => e = .returned (.bool false) ∧ Below w.heap.size w w' := by
  have hcon := idx_s F A0 c0 l0 w hr0 hm eg HP
  clear hr0 eg HP hm
  go_enter Tryd.func103, Tryd.ntmps103
  go_wp2_with ((with_reducible refine hcon.mono ?_); rintro e w' ⟨rfl, hb'⟩)
  go_ret
  exact ⟨rfl, hb'⟩
theorem rdOf_at (d : ByteArray) (l : List ByteArray) (i : Nat) (h : i < l.length) : rdOf d l (i : Int) = l[i] := by simp [rdOf, List.getD_eq_getElem?_getD, h]
theorem bad_int (r : Int) (h : 0 ≤ r ∧ r ≤ 1073741824) (W : World) : Calls Tryd.prog 101 #[.int .i64 r] W fun e W' => e = .returned (.bool false) ∧ Below W.heap.size W W' := by
  have h1 : ¬ r < 0 := by omega
  have h2 : ¬ r > 1073741824 := by omega
  have h3 : ¬ 1073741824 < r := by omega
  have HB := Aside0.mk (Below.refl W.heap.size W)
  go_enter Tryd.func101, Tryd.ntmps101
  go_wp2
  go_ret
  exact ⟨by simp [h1, h2, h3], by repeat (first | (with_reducible first | exact HB.out | apply bL_ | apply pN_ | apply b1_) | exact HB.out)⟩
theorem bad_key (k : ByteArray) (h : isKey k) (W : World) : Calls Tryd.prog 104 #[.string k] W fun e W' => e = .returned (.bool false) ∧ Below W.heap.size W W' := by
  have hk : key_Is.f k = some true := by
    unfold key_Is.f
    rw [if_neg (fun e => by
      have : k.toList.length = k.size := by rw [ByteArray.toList_eq]; rfl
      rw [e] at this
      have := h.1
      simp at *; omega), decide_eq_true (by have := h.2; omega)]
  have hc := fun W' => key_Is.calls k true W' hk
  have HB := Aside0.mk (Below.refl W.heap.size W)
  clear hk h
  go_enter Tryd.func104, Tryd.ntmps104
  go_wp2_with (go_at_call 71; refine (hc _).mono ?_; rintro e w' ⟨rfl, ⟨nd, rfl⟩⟩)
  all_goals go_ret
  all_goals exact ⟨rfl, pw_below_drewN (Below.refl _ _) nd⟩
set_option maxHeartbeats 1000000 in
set_option maxRecDepth 100000 in
theorem leaf_calls (A0 A1 A2 : Option Addr) (c0 c1 c2 : Nat) (x : SN) (b : Bool) (w : World) (h0 : Kd.C Kd.string w A0 x.f0.length x.f0) (l0 : x.f0.length ≤ c0) (h1 : Kd.C (Kd.int .i64) w A1 x.f1.length x.f1) (l1 : x.f1.length ≤ c1) (h3 : x.f1.length = x.f0.length) (h4 : x.f0.length ≤ 4) (hk : ∀ k ∈ x.f0, isKey k) (hr : ∀ r ∈ x.f1, 0 ≤ r ∧ r ≤ 1073741824) :
    Calls Tryd.prog 94 #[.agg #[.slice A0 x.f0.length c0, .slice A1 x.f1.length c1, .slice A2 0 c2, .bool b]] w fun e w' => e = .returned (.bool true) ∧ Below w.heap.size w w' := by
  have eg1 : ∀ args w, (callFunc 101 args).run Tryd.prog w = .ok (.enter 101 args) w := enters_of Tryd.func101 (by kernel_rfl) rfl
  have eg2 : ∀ args w, (callFunc 104 args).run Tryd.prog w = .ok (.enter 104 args) w := enters_of Tryd.func104 (by kernel_rfl) rfl
  have HC1 := Aside0.mk (fun (W : World) (hb : Below w.heap.size w W) => con_i 101 A1 c1 x.f1 W (Kd.C_below h1 hb) (by omega) eg1 (fun i hi W2 => bad_int _ (hr _ (by simp [rd, List.getD_eq_getElem?_getD, hi])) W2))
  have HC2 := Aside0.mk (fun (W : World) (hb : Below w.heap.size w W) => con_s 104 A0 c0 x.f0 W (Kd.C_below h0 hb) (by omega) eg2 (fun i hi W2 => bad_key _ (hk _ (by rw [rdOf_at _ _ _ hi]; exact List.getElem_mem hi)) W2))
  have HB := Aside0.mk (Below.refl w.heap.size w)
  clear h0 h1 eg1 eg2 hk hr
  rw [h3] at HC1 ⊢
  go_enter Tryd.func94, Tryd.ntmps94
  go_wp2_with (first | ((with_reducible refine gate_dst (N := 1) rfl ?_); refine bx_ (N := 1) (cs := #[.slice A0 x.f0.length c0, .slice A1 x.f0.length c1, .slice A2 0 c2, .bool b]) (t := 85) (h := ?_); intro gx hgx w5 hbox hb; have HX := mk0 hbox; have HB5 := Aside0.mk (HB.out.trans (hb.mono HB.out.size)); obtain ⟨hx0, hx1, hx2, hx3, hy0, hy1, hy2, hy3⟩ := c4_ HX; clear hb hbox hgx HB) | (go_at_call 102; refine (HC1.out _ HB5.out).mono ?_; rintro e w6 ⟨rfl, hb⟩; have HB6 := Aside0.mk (HB5.out.trans (hb.mono HB5.out.size)); have HX6 := mk0 (blk_below HX.out hb); clear hb hx0 hx1 hx2 hx3 hy0 hy1 hy2 hy3; obtain ⟨hx0, hx1, hx2, hx3, hy0, hy1, hy2, hy3⟩ := c4_ HX6) | (go_at_call 103; refine (HC2.out _ HB6.out).mono ?_; rintro e w7 ⟨rfl, hb⟩; have HB7 := Aside0.mk (HB6.out.trans (hb.mono HB6.out.size)); clear hb))
  go_ret
  exact ⟨rfl, HB7.out⟩
end Go.Proofs.YtkmkppchhdkipaaDoor.HMay
/- package tree: a node, and all below it, that may be: walked by hand, by its height. -/
namespace Go.Proofs.YtkmkppchhdkipaaDoor.HMay
open Go.Lib Go.RowKit Go.Proofs.YtkmkppchhdkipaaDoorW.PrintWords Go.Proofs.YtkmkppchhdkipaaDoorW.PrintLast Go.Proofs.YtkmkppchhdkipaaDoorW.PrintMore Go.Proofs.YtkmkppchhdkipaaDoor.PTr Go.Proofs Go.Proofs.YtkmkppchhdkipaaDoor.HTree Go.Proofs.YtkmkppchhdkipaaDoor.HNum
set_option linter.unusedSimpArgs false
set_option linter.unusedVariables false
theorem keys_from (l : List ByteArray) (lo hi : ByteArray) (top : Bool) (hk : KeysOk l lo hi top) (d : Nat) : ∀ i, i + d = l.length → Ev (fun k => tree_keys.l0 k l l (l.length : Int) (i : Int) lo hi top) true := by
  obtain ⟨h4, hp, hb⟩ := hk
  induction d with
  | zero =>
    intro i hid
    refine Ev.step (fun k => by rw [tree_keys.l0, if_neg (by omega)]) (Ev.const ?_)
    rw [decide_eq_true (by omega)]
  | succ d ih =>
    intro i hid
    have hil : i < l.length := by omega
    obtain ⟨b1, b2⟩ := hb l[i] (List.getElem_mem hil)
    have hH : key_Holds.f lo hi top (rdOf ByteArray.empty l (i : Int)) = some true := by
      rw [rdOf_at _ _ _ hil]
      unfold key_Holds.f key_below.f
      have b1' : Op.bytesLess l[i].toList lo.toList = false := b1
      rw [b1', if_neg (by decide)]
      rcases b2 with rfl | b2
      · rfl
      · have b2' : Op.bytesLess l[i].toList hi.toList = true := b2
        cases top
        · rw [if_neg (by decide), b2']; rfl
        · rfl
    have hj : Ev (fun k => tree_keys.j1 k l l (l.length : Int) (i : Int) false lo hi top) true := by
      refine Ev.step (fun k => by rw [tree_keys.j1, if_neg (by decide), wrap_succ i (by omega)]) (ih (i + 1) (by omega))
    refine Ev.step (fun k => by rw [tree_keys.l0, if_pos (by omega), if_pos (by omega), if_pos (by omega), hH, Option.bind_some, if_pos rfl]) ?_
    refine Ev.iff (fun h0 => ?_) (fun _ => hj)
    have hi0 : 0 < i := by omega
    refine Ev.congr (fun k => by rw [wrap_pred i hi0 (by omega), if_pos (by omega), if_pos (by omega)]) ?_
    rw [rdOf_at _ _ _ hil, rdOf_at _ _ _ (show i - 1 < l.length by omega)]
    have := (List.pairwise_iff_getElem.1 hp) (i - 1) i (by omega) hil (by omega)
    have h2 : Op.bytesLess l[i - 1].toList l[i].toList = true := this
    rw [h2]
    exact hj
theorem keys_ev {l : List ByteArray} {lo hi : ByteArray} {top : Bool} (hk : KeysOk l lo hi top) : ∃ k, tree_keys.f k l lo hi top = some true := (keys_from l lo hi top hk l.length 0 (by omega)).rounds
theorem part_ev (x : SN) (lo hi : ByteArray) (top : Bool) (i : Nat) (h4 : x.f0.length ≤ 4) (hi5 : i ≤ x.f0.length) : ∃ k, tree_part.f k x.f0 x.f1 x.f2 x.f3 (i : Int) lo hi top = some (lowAt x.f0 lo i, highAt x.f0 hi i, topAt x.f0 top i) := by
  have hj : ∀ L, tree_part.j0 1 (i : Int) x.f0 x.f1 x.f2 x.f3 L hi top = some (L, highAt x.f0 hi i, topAt x.f0 top i) := by
    intro L
    rw [tree_part.j0]
    unfold highAt topAt
    by_cases h : i < x.f0.length
    · rw [if_pos (by omega), if_pos (by omega), if_pos h, if_pos h]
      simp [rdOf, List.getD_eq_getElem?_getD, h]
    · rw [if_neg (by omega), if_neg h, if_neg h]
  refine ⟨1, ?_⟩
  unfold tree_part.f lowAt
  by_cases h : i = 0
  · subst h; rw [if_neg (by decide), if_pos rfl]; exact hj lo
  · rw [if_pos (by omega), wrap_pred i (by omega) (by omega), if_pos (by omega), if_pos (by omega), if_neg h, hj]
    simp [rdOf, List.getD_eq_getElem?_getD, show i - 1 < x.f0.length by omega]
def SB (n : Nat) (V : List Nat) : Array Value := ((List.range n).map (fun j => Value.bool (decide (j ∈ V)))).toArray
theorem SB_size (n : Nat) (V : List Nat) : (SB n V).size = n := by simp [SB]
theorem SB_get {n : Nat} {V : List Nat} {j : Nat} (h : j < n) : (SB n V)[j]? = some (.bool (decide (j ∈ V))) := by simp [SB, h]
theorem SB_congr {n : Nat} {V V' : List Nat} (h : ∀ j, j ∈ V ↔ j ∈ V') : SB n V = SB n V' := by
  unfold SB; congr 1; apply List.map_congr_left; intro j _; simp [h]
theorem SB_set {n : Nat} {V : List Nat} {j : Nat} (h : j < n) : (SB n V).setIfInBounds j (.bool true) = SB n (j :: V) := by
  apply Array.ext
  · simp [SB]
  · intro i h1 h2
    simp only [SB, Array.size_setIfInBounds, List.size_toArray, List.length_map, List.length_range] at h1
    rw [Array.getElem_setIfInBounds (by simpa [SB] using h1)]
    simp only [SB, List.getElem_toArray, List.getElem_map, List.getElem_range, List.mem_cons]
    by_cases e : j = i
    · subst e; simp
    · simp [e, Ne.symm e]
theorem b5_ {w : World} {g : Nat} {t : TypeId} {a0 a1 a2 a3 a4 : Value} (h : Fc (w.heap[g]? = some (.cells #[a0, a1, a2, a3, a4] t (0, 0)))) : w.cell? ⟨g, 0, none⟩ = some a0 ∧ w.cell? ⟨g, 1, none⟩ = some a1 ∧ w.cell? ⟨g, 2, none⟩ = some a2 ∧ w.cell? ⟨g, 3, none⟩ = some a3 ∧ w.cell? ⟨g, 4, none⟩ = some a4 ∧ w.frozen? ⟨g, 0, none⟩ = false ∧ w.frozen? ⟨g, 1, none⟩ = false ∧ w.frozen? ⟨g, 2, none⟩ = false ∧ w.frozen? ⟨g, 3, none⟩ = false ∧ w.frozen? ⟨g, 4, none⟩ = false :=
  ⟨bk_ h 0, bk_ h 1, bk_ h 2, bk_ h 3, bk_ h 4, blk_frozen h.out 0, blk_frozen h.out 1, blk_frozen h.out 2, blk_frozen h.out 3, blk_frozen h.out 4⟩
theorem kid_apart {n i : Nat} {vs : List (List Nat)} (h : (n :: vs.flatten).Nodup) (hi : i < vs.length) : vs[i].Nodup ∧ ∀ j ∈ vs[i], j ≠ n ∧ j ∉ (vs.take i).flatten ∧ j ∈ vs.flatten := by
  have hm : ∀ j ∈ vs[i], j ∈ vs.flatten := fun j hj => List.mem_flatten.2 ⟨_, List.getElem_mem hi, hj⟩
  have h1 := (List.nodup_cons.1 h)
  have e : vs.flatten = (vs.take i).flatten ++ (vs[i] ++ (vs.drop (i + 1)).flatten) := by
    conv => lhs; rw [← List.take_append_drop i vs, List.flatten_append, List.drop_eq_getElem_cons hi, List.flatten_cons]
  have h2 := h1.2
  rw [e, List.nodup_append] at h2
  refine ⟨(List.nodup_append.1 h2.2.1).1, fun j hj => ⟨fun e2 => h1.1 (e2 ▸ hm j hj), fun hj2 => ?_, hm j hj⟩⟩
  exact h2.2.2 j hj2 j (List.mem_append_left _ hj) rfl
theorem part_at {w0 : World} {x : SN} {K0 K1 K2 : Option Addr} {k0 k1 k2 kk i : Nat} {lo hi : ByteArray} {top : Bool} {r1 r2 : ByteArray} {r3 : Bool} (hC : Kd.C Kd.string w0 K0 x.f0.length x.f0 ∧ Kd.C (Kd.int .i64) w0 K1 x.f1.length x.f1 ∧ Kd.C (Kd.int .i64) w0 K2 x.f2.length x.f2) (hL : x.f0.length ≤ k0 ∧ x.f1.length ≤ k1 ∧ x.f2.length ≤ k2) (i1 : x.f1.length = 0) (i2 : x.f2.length = x.f0.length + 1) (g3 : x.f3 = false) (hkk : tree_part.f kk x.f0 x.f1 x.f2 x.f3 (i : Int) lo hi top = some (r1, r2, r3)) (W1 : World) (hb : Below w0.heap.size w0 W1) :
    Calls Tryd.prog 95 #[.agg #[.slice K0 x.f0.length k0, .slice K1 0 k1, .slice K2 (x.f0.length + 1) k2, .bool false], .int .i64 (i : Int), .agg #[.string lo, .string hi, .bool top]] W1 fun e w' => e = .returned (.agg #[.string r1, .string r2, .bool r3]) ∧ Below W1.heap.size W1 w' := by
  have := tree_part.calls kk K0 k0 x.f0 K1 k1 x.f1 K2 k2 x.f2 x.f3 (i : Int) lo hi top _ _ _ W1 (Kd.C_below hC.1 hb) hL.1 (Kd.C_below hC.2.1 hb) hL.2.1 (Kd.C_below hC.2.2 hb) hL.2.2 hkk
  rw [i1, i2, g3] at this
  exact this
structure Inv (w0 Wi W : World) (X S A G : Array Value) (gb gs ga gx : Nat) : Prop where
  hx : W.heap[gb]? = some (.cells X 125 (0, 0))
  hs : W.heap[gs]? = some (.cells S 4 (0, 0))
  ha : W.heap[ga]? = some (.cells A 61 (0, 0))
  hg : W.heap[gx]? = some (.cells G 85 (0, 0))
  hb : Below w0.heap.size w0 W
  hf : ∀ (g : Nat) (t : TypeId) (cs : Array Value), g ≠ gb → g ≠ gs → Wi.heap[g]? = some (.cells cs t (0, 0)) → W.heap[g]? = some (.cells cs t (0, 0))
theorem Inv.on {w0 Wi W W1 : World} {X S A G : Array Value} {gb gs ga gx : Nat} (h : Inv w0 Wi W X S A G gb gs ga gx) (hb : Below W.heap.size W W1) : Inv w0 Wi W1 X S A G gb gs ga gx :=
  ⟨blk_below h.hx hb, blk_below h.hs hb, blk_below h.ha hb, blk_below h.hg hb, h.hb.trans (hb.mono h.hb.size), fun g t cs h1 h2 h3 => blk_below (h.hf g t cs h1 h2 h3) hb⟩
theorem far_x4 {w : World} {g gx : Nat} {t : TypeId} {cs : Array Value} (h : w.heap[g]? = some (.cells cs t (0, 0))) (hn : g ≠ gx) (a b c d : Value) : ((((w.setCell ⟨gx, 0, none⟩ a).setCell ⟨gx, 1, none⟩ b).setCell ⟨gx, 2, none⟩ c).setCell ⟨gx, 3, none⟩ d).heap[g]? = some (.cells cs t (0, 0)) :=
  blk_far (p := ⟨gx, 3, none⟩) (blk_far (p := ⟨gx, 2, none⟩) (blk_far (p := ⟨gx, 1, none⟩) (blk_far (p := ⟨gx, 0, none⟩) h hn a) hn b) hn c) hn d
theorem Inv.made {w0 Wi w : World} {X S A : Array Value} {gb gs ga gx : Nat} {z0 z1 z2 z3 : Value} (hx : w.heap[gb]? = some (.cells X 125 (0, 0))) (hs : w.heap[gs]? = some (.cells S 4 (0, 0))) (ha : w.heap[ga]? = some (.cells A 61 (0, 0))) (hg : w.heap[gx]? = some (.cells #[z0, z1, z2, z3] 85 (0, 0))) (hb : Below w0.heap.size w0 w) (h0 : w0.heap.size ≤ gx) (h1 : gb ≠ gx) (h2 : gs ≠ gx) (h3 : ga ≠ gx) (hf : ∀ (g : Nat) (t : TypeId) (cs : Array Value), g ≠ gb → g ≠ gs → Wi.heap[g]? = some (.cells cs t (0, 0)) → w.heap[g]? = some (.cells cs t (0, 0)) ∧ g ≠ gx) (a b c d : Value) :
    Inv w0 Wi ((((w.setCell ⟨gx, 0, none⟩ a).setCell ⟨gx, 1, none⟩ b).setCell ⟨gx, 2, none⟩ c).setCell ⟨gx, 3, none⟩ d) X S A #[a, b, c, d] gb gs ga gx :=
  ⟨far_x4 hx h1 a b c d, far_x4 hs h2 a b c d, far_x4 ha h3 a b c d, blk_put (blk_put (blk_put (blk_put hg 0 a rfl) 1 b rfl) 2 c rfl) 3 d rfl, below_set (below_set (below_set (below_set hb h0) h0) h0) h0, fun g t cs q1 q2 q3 => far_x4 (hf g t cs q1 q2 q3).1 (hf g t cs q1 q2 q3).2 a b c d⟩
theorem leaf_end {w0 Wi w10 w11 : World} {X X' S A G : Array Value} {gb gs ga gx : Nat} (h : Inv w0 Wi w10 X S A G gb gs ga gx) (hg : w0.heap.size ≤ gb) (hne : gb ≠ gs) {v : Value} (hb : Below (w10.setCell ⟨gb, 4, none⟩ v).heap.size (w10.setCell ⟨gb, 4, none⟩ v) w11) (e : X.setIfInBounds 4 v = X') :
    Below w0.heap.size w0 w11 ∧ w11.heap[gb]? = some (.cells X' 125 (0, 0)) ∧ w11.heap[gs]? = some (.cells S 4 (0, 0)) ∧ ∀ (g : Nat) (t : TypeId) (cs : Array Value), g ≠ gb → g ≠ gs → Wi.heap[g]? = some (.cells cs t (0, 0)) → w11.heap[g]? = some (.cells cs t (0, 0)) :=
  have hb1 : Below w0.heap.size w0 (w10.setCell ⟨gb, 4, none⟩ v) := below_set h.hb hg
  ⟨hb1.trans (hb.mono hb1.size), blk_below (blk_put h.hx 4 v e) hb, blk_below (blk_far (p := ⟨gb, 4, none⟩) h.hs (Ne.symm hne) v) hb, fun g t cs q1 q2 q3 => blk_below (blk_far (p := ⟨gb, 4, none⟩) (h.hf g t cs q1 q2 q3) q1 v) hb⟩
theorem blk_ne {w : World} {a b : Nat} {t t' : TypeId} {cs cs' : Array Value} (h : w.heap[a]? = some (.cells cs t (0, 0))) (h' : w.heap[b]? = some (.cells cs' t' (0, 0))) (ht : t ≠ t') : a ≠ b := fun e => by
  rw [e, h'] at h
  injection h with h
  injection h with _ h _
  exact ht h.symm
theorem blk_lt_ne {w : World} {a g : Nat} {p : Addr} {u : Value} {o : Obj} (h : w.heap[a]? = some o) (hg : g = (w.setCell p u).heap.size) : a ≠ g := fun e => by
  have h1 := (Array.getElem?_eq_some_iff.1 h).1
  have h2 : (w.setCell p u).heap.size = w.heap.size := by simp [World.setCell]
  omega
theorem far4 {w0 w6 : World} {ad : Addr} {n gs : Nat} {v0 v1 v2 v3 : Value} (h : w0.cell? (ad.add ((n : Int).toNat * 4)) = some v0 ∧ w0.cell? ⟨(ad.add ((n : Int).toNat * 4)).block, (ad.add ((n : Int).toNat * 4)).off + 1, none⟩ = some v1 ∧ w0.cell? ⟨(ad.add ((n : Int).toNat * 4)).block, (ad.add ((n : Int).toNat * 4)).off + 2, none⟩ = some v2 ∧ w0.cell? ⟨(ad.add ((n : Int).toNat * 4)).block, (ad.add ((n : Int).toNat * 4)).off + 3, none⟩ = some v3) (hb : Below w0.heap.size w0 w6) (hn : (ad.add (n * 4)).block ≠ gs) (m : Nat) (u : Value) :
    (w6.setCell ⟨gs, m, none⟩ u).cell? (ad.add (n * 4)) = some v0 ∧ (w6.setCell ⟨gs, m, none⟩ u).cell? ⟨(ad.add (n * 4)).block, (ad.add (n * 4)).off + 1, none⟩ = some v1 ∧ (w6.setCell ⟨gs, m, none⟩ u).cell? ⟨(ad.add (n * 4)).block, (ad.add (n * 4)).off + 2, none⟩ = some v2 ∧ (w6.setCell ⟨gs, m, none⟩ u).cell? ⟨(ad.add (n * 4)).block, (ad.add (n * 4)).off + 3, none⟩ = some v3 := by
  simp only [Int.toNat_natCast] at h
  obtain ⟨h0, h1, h2, h3⟩ := h
  refine ⟨(cell_far hn u).trans ((hb.cell (World.block_lt_of_cell? _ _ h0)).trans h0), (cell_far (a := ⟨(ad.add (n * 4)).block, (ad.add (n * 4)).off + 1, none⟩) hn u).trans ((hb.cell (World.block_lt_of_cell? _ _ h1)).trans h1), (cell_far (a := ⟨(ad.add (n * 4)).block, (ad.add (n * 4)).off + 2, none⟩) hn u).trans ((hb.cell (World.block_lt_of_cell? _ _ h2)).trans h2), (cell_far (a := ⟨(ad.add (n * 4)).block, (ad.add (n * 4)).off + 3, none⟩) hn u).trans ((hb.cell (World.block_lt_of_cell? _ _ h3)).trans h3)⟩
set_option maxHeartbeats 4000000 in
set_option maxRecDepth 100000 in
theorem node_calls (w0 : World) (FA : Option Addr) (fc : Nat) (N : List SN) (A0 : Option Addr) (c0 cs gb gs root : Nat) (HT : Kd.C k85 w0 A0 N.length N) (hc0 : N.length ≤ c0) (hgb : w0.heap.size ≤ gb) (hgs : w0.heap.size ≤ gs) (hne : gb ≠ gs) (hcs : N.length ≤ cs) (hcm : cs ≤ 9223372036854775807) :
    ∀ h rt n lo hi top vis rs (deep dp : Nat) V W, Sub N h rt n lo hi top vis rs → (rt = true → n = root) → vis.Nodup → (∀ j ∈ vis, j ∉ V) → Below w0.heap.size w0 W →
      W.heap[gb]? = some (.cells #[.slice A0 N.length c0, .int .i64 (root : Int), .slice FA 0 fc, .slice (some ⟨gs, 0, none⟩) N.length cs, .int .i64 (dp : Int)] 125 (0, 0)) → W.heap[gs]? = some (.cells (SB N.length V) 4 (0, 0)) → (dp = 0 ∨ dp + 1 = deep + h) → 1 ≤ deep → deep + h ≤ 1000 →
      Calls Tryd.prog 76 #[.pointer (some ⟨gb, 0, none⟩), .int .i64 (n : Int), .int .i64 (deep : Int), .agg #[.string lo, .string hi, .bool top]] W fun e W' => e = .returned (.bool true) ∧ Below w0.heap.size w0 W' ∧
        (∃ dp' : Nat, dp' + 1 = deep + h ∧ W'.heap[gb]? = some (.cells #[.slice A0 N.length c0, .int .i64 (root : Int), .slice FA 0 fc, .slice (some ⟨gs, 0, none⟩) N.length cs, .int .i64 (dp' : Int)] 125 (0, 0))) ∧ W'.heap[gs]? = some (.cells (SB N.length (vis ++ V)) 4 (0, 0)) ∧ ∀ (g : Nat) (t : TypeId) (cs : Array Value), g ≠ gb → g ≠ gs → W.heap[g]? = some (.cells cs t (0, 0)) → W'.heap[g]? = some (.cells cs t (0, 0)) := by
  intro h
  induction h with
  | zero => intro rt n lo hi top vis rs deep dp V W hs; exact hs.elim
  | succ h ih =>
    intro rt n lo hi top vis rs deep dp V W hs hroot hnd hV hB hbox hseen hdp hd1 hd2
    obtain ⟨x, hx, hkeys, hleast, hcase⟩ := hs
    have hn : n < N.length := (List.getElem?_eq_some_iff.1 hx).1
    have hnv : n ∈ vis := by rcases hcase with ⟨_, _, _, e, _⟩ | ⟨_, _, _, _, _, _, _, _, _, _, e, _⟩ <;> rw [e] <;> simp
    have hnV := hV n hnv
    have p0 : (0 : Int) ≤ (n : Int) := by omega
    have p1 : (n : Int) < (N.length : Int) := by omega
    have p2 : decide ((n : Int) < 0) = false := decide_eq_false (by omega)
    have p3 : decide (N.length ≤ n) = false := decide_eq_false (by omega)
    have hsn : W.cell? ⟨gs, n, none⟩ = some (.bool false) := by rw [blk_cell hseen, SB_get hn]; simp [hnV]
    have HN := Aside0.mk hsn
    have HB := Aside0.mk hB
    have HX := mk0 hbox
    have HS := mk0 hseen
    have HD := Aside0.mk (And.intro hdp (And.intro hd1 hd2))
    have IH := Aside0.mk ih
    have HC := Aside0.mk hcase
    have HK := Aside0.mk (And.intro hkeys (And.intro hleast (And.intro hroot (And.intro hnd (And.intro hV hx)))))
    have HT1 := Aside0.mk HT
    have HG := Aside0.mk (And.intro hgb hgs)
    clear hsn hB hbox hseen hdp hd1 hd2 ih hcase hkeys hleast hroot hnd hV hx hnv hnV hgb hgs
    obtain ⟨ad, K0, k0, K1, k1, K2, k2, rfl, e0, e1, e2, e3, l0, C0, l1, C1, l2, C2⟩ := at_T85 HT1.out (n : Int) p0 p1
    have hrd : rd_T85 N (n : Int) = x := by
      have := HK.out.2.2.2.2.2
      simp [rd_T85, List.getD_eq_getElem?_getD, this]
    rw [hrd] at e0 e1 e2 e3 l0 C0 l1 C1 l2 C2
    have hadn : ad.block < w0.heap.size := by have := World.block_lt_of_cell? _ _ e0; rwa [add_block] at this
    have E_ := Aside0.mk (And.intro e0 (And.intro e1 (And.intro e2 e3)))
    have L_ := Aside0.mk (And.intro l0 (And.intro l1 l2))
    have HC0 := Aside0.mk (And.intro C0 (And.intro C1 C2))
    have HAD := Aside0.mk hadn
    clear hrd e0 e1 e2 e3 l0 C0 l1 C1 l2 C2 HT hadn
    have hq : n = root ∨ (¬ (n : Int) = (root : Int) ∧ ¬ ((x.f0.length : Int) < 2)) := by
      have h1 := HK.out.2.1
      have h2 := HK.out.2.2.1
      by_cases e : n = root
      · exact .inl e
      · right
        cases rt with
        | true => exact absurd (h2 rfl) e
        | false => exact ⟨by omega, by have := h1 rfl; omega⟩
    rcases HC.out with ⟨g3, rfl, g2, gv, gk, gr, gp⟩ | ⟨g3, g1, g0, ks, vs, rr, gk, gl, glv, glr, gv, grs, gsub⟩
    · have hdd : dp = 0 ∨ (dp = deep ∧ ((deep : Int) == 0) = false) := by
        have := HD.out
        rcases this.1 with h | h
        · exact .inl h
        · exact .inr ⟨by omega, beq_eq_false_iff_ne.2 (by omega)⟩
      have GG := Aside0.mk (And.intro g2 (And.intro gv (And.intro gk (And.intro gr gp))))
      have g4 : x.f2.length = 0 := by rw [g2]; rfl
      clear g2 gv gk gr gp HC IH
      rcases hq with rfl | ⟨hq, hq2⟩ <;> rcases hdd with rfl | ⟨rfl, hdd⟩
      all_goals go_enter Tryd.func76, Tryd.ntmps76
      all_goals go_wp2_with (first | ((with_reducible refine gate_dst (N := 7) rfl ?_); refine bx_ (N := 7) (cs := #[.string lo, .string hi, .bool top]) (t := 61) (h := ?_); intro ga hga w5 hbox hb; have HX5 := mk0 (blk_below HX.out hb); have HS5 := mk0 (blk_below HS.out hb); have HA := mk0 hbox; have HB5 := Aside0.mk (HB.out.trans (hb.mono HB.out.size)); have HF5 := Aside0.mk (fun (g : Nat) (t : TypeId) (cs : Array Value) (_ : g ≠ gb) (_ : g ≠ gs) (h : W.heap[g]? = some (.cells cs t (0, 0))) => blk_below h hb); have hsn5 := (hb.cell (World.block_lt_of_cell? _ _ HN.out)).trans HN.out; obtain ⟨hb0, hb1, hb2, hb3, hb4, hg0, hg1, hg2, hg3, hg4⟩ := b5_ HX5; obtain ⟨hc0', hc1', hc2', hd0', hd1', hd2'⟩ := c3_ HA; clear hb hbox hga HX HS HB HN) | (go_at_call 92; refine (slices_Contains_int_int.calls 1 FA fc [] (n : Int) false _ ⟨rfl, by simp, fun h => absurd h (by simp)⟩ (Nat.zero_le _) (by simp [slices_Contains_int_int.f, slices_Index_int_int.f, slices_Index_int_int.l0])).mono ?_; rintro e w' ⟨rfl, ⟨nd, rfl⟩⟩; have hbn := pw_below_drewN (Below.refl w5.heap.size w5) nd; have HX6 := mk0 (blk_below HX5.out hbn); have HS6 := mk0 (blk_below HS5.out hbn); have HA6 := mk0 (blk_below HA.out hbn); have HB6 := Aside0.mk (HB5.out.trans (hbn.mono HB5.out.size)); have HF6 := Aside0.mk (fun (g : Nat) (t : TypeId) (cs : Array Value) (h1 : g ≠ gb) (h2 : g ≠ gs) (h : W.heap[g]? = some (.cells cs t (0, 0))) => blk_below (HF5.out g t cs h1 h2 h) hbn); have hnga := blk_ne HA.out HS5.out (by decide); generalize w5.drewN nd = w6 at HX6 HS6 HA6 HB6 HF6 ⊢; clear hbn HX5 HS5 HA HB5 HF5 hb0 hb1 hb2 hb3 hb4 hg0 hg1 hg2 hg3 hg4 hc0' hc1' hc2' hd0' hd1' hd2' hsn5; obtain ⟨hb0, hb1, hb2, hb3, hb4, hg0, hg1, hg2, hg3, hg4⟩ := b5_ HX6; have hfs := blk_frozen HS6.out n; have hs6 : w6.cell? ⟨gs, n, none⟩ = some (.bool (decide (n ∈ V))) := (by rw [blk_cell HS6.out, SB_get hn]); have hnad2 : (ad.add (n * 4)).block ≠ gs := (by rw [add_block]; have := HAD.out; have := HG.out.2; omega); obtain ⟨he0, he1, he2, he3⟩ := far4 E_.out HB6.out hnad2 n (.bool true)) | ((with_reducible refine gate_dst (N := 9) rfl ?_); refine bx_ (N := 9) (cs := #[.slice none 0 0, .slice none 0 0, .slice none 0 0, .bool false]) (t := 85) (h := ?_); go_loud (intro gx hgx w8 hbox hb; have HX8 := mk0 (blk_below (blk_far (p := ⟨gs, n, none⟩) HX6.out hne (.bool true)) hb); have HS8 := mk0 (blk_below (blk_put HS6.out n (.bool true) (SB_set hn)) hb); have HA8 := mk0 (blk_below (blk_far (p := ⟨gs, n, none⟩) HA6.out hnga (.bool true)) hb); have HW8 := mk0 hbox; have hb6 := (below_set HB6.out HG.out.2 : Below w0.heap.size w0 (w6.setCell ⟨gs, n, none⟩ (.bool true))); have HB8 := Aside0.mk (hb6.trans (hb.mono hb6.size)); have HF8 := Aside0.mk (fun (g : Nat) (t : TypeId) (cs : Array Value) (h1 : g ≠ gb) (h2 : g ≠ gs) (h : W.heap[g]? = some (.cells cs t (0, 0))) => And.intro (blk_below (blk_far (p := ⟨gs, n, none⟩) (HF6.out g t cs h1 h2 h) h2 (.bool true)) hb) (blk_lt_ne (HF6.out g t cs h1 h2 h) hgx)); have hgx0 : w0.heap.size ≤ gx := (by rw [hgx]; exact hb6.size); have hngx := blk_lt_ne HX6.out hgx; have hnsx := blk_lt_ne HS6.out hgx; have hnax := blk_lt_ne HA6.out hgx; clear hgx hb6 hb hbox HX6 HS6 HA6 HB6 HF6 hb0 hb1 hb2 hb3 hb4 hg0 hg1 hg2 hg3 hg4 he0 he1 he2 he3 hs6 hfs; obtain ⟨hb0, hb1, hb2, hb3, hb4, hg0, hg1, hg2, hg3, hg4⟩ := b5_ HX8; obtain ⟨hx0, hx1, hx2, hx3, hy0, hy1, hy2, hy3⟩ := c4_ HW8; obtain ⟨hc0', hc1', hc2', hd0', hd1', hd2'⟩ := c3_ HA8)) | (go_at_call 93; obtain ⟨kk, hkk⟩ := keys_ev HK.out.1; refine (tree_keys.calls kk K0 k0 x.f0 lo hi top true _ (Kd.C_below HC0.out.1 (Inv.made HX8.out HS8.out HA8.out HW8.out HB8.out hgx0 hngx hnsx hnax HF8.out _ _ _ _).hb) L_.out.1 hkk).mono ?_; rintro e w10 ⟨rfl, hb⟩; have HI10 := Aside0.mk ((Inv.made HX8.out HS8.out HA8.out HW8.out HB8.out hgx0 hngx hnsx hnax HF8.out _ _ _ _).on hb); clear hkk hb HF8 HX8 HS8 HA8 HW8 HB8 hb0 hb1 hb2 hb3 hb4 hg0 hg1 hg2 hg3 hg4 hx0 hx1 hx2 hx3 hy0 hy1 hy2 hy3 hc0' hc1' hc2' hd0' hd1' hd2'; obtain ⟨hb0, hb1, hb2, hb3, hb4, hg0, hg1, hg2, hg3, hg4⟩ := b5_ (mk0 HI10.out.hx); obtain ⟨hx0, hx1, hx2, hx3, hy0, hy1, hy2, hy3⟩ := c4_ (mk0 HI10.out.hg); obtain ⟨hc0', hc1', hc2', hd0', hd1', hd2'⟩ := c3_ (mk0 HI10.out.ha); have hnxg := hngx.symm; have hnag := blk_ne HI10.out.ha HI10.out.hx (by decide); have hnga2 := hnag.symm)  | (go_at_call 94; refine (leaf_calls K0 K1 K2 k0 k1 k2 x _ _ (Kd.C_below HC0.out.1 (below_set HI10.out.hb HG.out.1)) L_.out.1 (Kd.C_below HC0.out.2.1 (below_set HI10.out.hb HG.out.1)) L_.out.2.1 (by rw [GG.out.2.2.1, GG.out.2.2.2.1]; simp) HK.out.1.1 (fun k hk => by rw [GG.out.2.2.1] at hk; obtain ⟨p, hp, rfl⟩ := List.mem_map.1 hk; exact (GG.out.2.2.2.2 p hp).1) (fun r hr => by rw [GG.out.2.2.2.1] at hr; obtain ⟨p, hp, rfl⟩ := List.mem_map.1 hr; exact (GG.out.2.2.2.2 p hp).2)).mono ?_; rintro e w11 ⟨rfl, hb⟩; have HI11 := Aside0.mk hb))
      all_goals go_ret
      all_goals exact ⟨rfl, (leaf_end HI10.out HG.out.1 hne HI11.out rfl).1, ⟨_, by omega, (leaf_end HI10.out HG.out.1 hne HI11.out rfl).2.1⟩, by rw [GG.out.2.1]; exact (leaf_end HI10.out HG.out.1 hne HI11.out rfl).2.2.1, (leaf_end HI10.out HG.out.1 hne HI11.out rfl).2.2.2⟩
    · have i1 : x.f1.length = 0 := by rw [g1]; rfl
      have i2 : x.f2.length = x.f0.length + 1 := by rw [gk, List.length_map, gl]
      have i3 : ¬ x.f0.length = 0 := fun e => g0 (List.eq_nil_of_length_eq_zero e)
      have i4 : ((x.f0.length : Int) == 0) = false := beq_eq_false_iff_ne.2 (by omega)
      have i5 : wrap64 ((x.f0.length : Int) + 1) = (x.f0.length : Int) + 1 := by have := HK.out.1.1; unfold wrap64; omega
      have GG := Aside0.mk (And.intro gk (And.intro gl (And.intro glv (And.intro glr (And.intro gv gsub)))))
      clear g1 g0 gk gl glv glr gv grs gsub HC
      rcases hq with rfl | ⟨hq, hq2⟩
      · obtain ⟨kc1, hkc1⟩ : ∃ z, z = k1 := ⟨_, rfl⟩
        subst hkc1
        go_enter Tryd.func76, Tryd.ntmps76
        go_wp2_with (first | ((with_reducible refine gate_dst (N := 7) rfl ?_); refine bx_ (N := 7) (cs := #[.string lo, .string hi, .bool top]) (t := 61) (h := ?_); intro ga hga w5 hbox hb; have HX5 := mk0 (blk_below HX.out hb); have HS5 := mk0 (blk_below HS.out hb); have HA := mk0 hbox; have HB5 := Aside0.mk (HB.out.trans (hb.mono HB.out.size)); have HF5 := Aside0.mk (fun (g : Nat) (t : TypeId) (cs : Array Value) (_ : g ≠ gb) (_ : g ≠ gs) (h : W.heap[g]? = some (.cells cs t (0, 0))) => blk_below h hb); have hsn5 := (hb.cell (World.block_lt_of_cell? _ _ HN.out)).trans HN.out; obtain ⟨hb0, hb1, hb2, hb3, hb4, hg0, hg1, hg2, hg3, hg4⟩ := b5_ HX5; obtain ⟨hc0', hc1', hc2', hd0', hd1', hd2'⟩ := c3_ HA; clear hb hbox hga HX HS HB HN) | (go_at_call 92; refine (slices_Contains_int_int.calls 1 FA fc [] (n : Int) false _ ⟨rfl, by simp, fun h => absurd h (by simp)⟩ (Nat.zero_le _) (by simp [slices_Contains_int_int.f, slices_Index_int_int.f, slices_Index_int_int.l0])).mono ?_; rintro e w' ⟨rfl, ⟨nd, rfl⟩⟩; have hbn := pw_below_drewN (Below.refl w5.heap.size w5) nd; have HX6 := mk0 (blk_below HX5.out hbn); have HS6 := mk0 (blk_below HS5.out hbn); have HA6 := mk0 (blk_below HA.out hbn); have HB6 := Aside0.mk (HB5.out.trans (hbn.mono HB5.out.size)); have HF6 := Aside0.mk (fun (g : Nat) (t : TypeId) (cs : Array Value) (h1 : g ≠ gb) (h2 : g ≠ gs) (h : W.heap[g]? = some (.cells cs t (0, 0))) => blk_below (HF5.out g t cs h1 h2 h) hbn); have hnga := blk_ne HA.out HS5.out (by decide); generalize w5.drewN nd = w6 at HX6 HS6 HA6 HB6 HF6 ⊢; clear hbn HX5 HS5 HA HB5 HF5 hb0 hb1 hb2 hb3 hb4 hg0 hg1 hg2 hg3 hg4 hc0' hc1' hc2' hd0' hd1' hd2' hsn5; obtain ⟨hb0, hb1, hb2, hb3, hb4, hg0, hg1, hg2, hg3, hg4⟩ := b5_ HX6; have hfs := blk_frozen HS6.out n; have hs6 : w6.cell? ⟨gs, n, none⟩ = some (.bool (decide (n ∈ V))) := (by rw [blk_cell HS6.out, SB_get hn]); have hnad2 : (ad.add (n * 4)).block ≠ gs := (by rw [add_block]; have := HAD.out; have := HG.out.2; omega); obtain ⟨he0, he1, he2, he3⟩ := far4 E_.out HB6.out hnad2 n (.bool true)) | ((with_reducible refine gate_dst (N := 9) rfl ?_); refine bx_ (N := 9) (cs := #[.slice none 0 0, .slice none 0 0, .slice none 0 0, .bool false]) (t := 85) (h := ?_); go_loud (intro gx hgx w8 hbox hb; have HX8 := mk0 (blk_below (blk_far (p := ⟨gs, n, none⟩) HX6.out hne (.bool true)) hb); have HS8 := mk0 (blk_below (blk_put HS6.out n (.bool true) (SB_set hn)) hb); have HA8 := mk0 (blk_below (blk_far (p := ⟨gs, n, none⟩) HA6.out hnga (.bool true)) hb); have HW8 := mk0 hbox; have hb6 := (below_set HB6.out HG.out.2 : Below w0.heap.size w0 (w6.setCell ⟨gs, n, none⟩ (.bool true))); have HB8 := Aside0.mk (hb6.trans (hb.mono hb6.size)); have HF8 := Aside0.mk (fun (g : Nat) (t : TypeId) (cs : Array Value) (h1 : g ≠ gb) (h2 : g ≠ gs) (h : W.heap[g]? = some (.cells cs t (0, 0))) => And.intro (blk_below (blk_far (p := ⟨gs, n, none⟩) (HF6.out g t cs h1 h2 h) h2 (.bool true)) hb) (blk_lt_ne (HF6.out g t cs h1 h2 h) hgx)); have hgx0 : w0.heap.size ≤ gx := (by rw [hgx]; exact hb6.size); have hngx := blk_lt_ne HX6.out hgx; have hnsx := blk_lt_ne HS6.out hgx; have hnax := blk_lt_ne HA6.out hgx; clear hgx hb6 hb hbox HX6 HS6 HA6 HB6 HF6 hb0 hb1 hb2 hb3 hb4 hg0 hg1 hg2 hg3 hg4 he0 he1 he2 he3 hs6 hfs; obtain ⟨hb0, hb1, hb2, hb3, hb4, hg0, hg1, hg2, hg3, hg4⟩ := b5_ HX8; obtain ⟨hx0, hx1, hx2, hx3, hy0, hy1, hy2, hy3⟩ := c4_ HW8; obtain ⟨hc0', hc1', hc2', hd0', hd1', hd2'⟩ := c3_ HA8)) | (go_at_call 93; obtain ⟨kk, hkk⟩ := keys_ev HK.out.1; refine (tree_keys.calls kk K0 k0 x.f0 lo hi top true _ (Kd.C_below HC0.out.1 (Inv.made HX8.out HS8.out HA8.out HW8.out HB8.out hgx0 hngx hnsx hnax HF8.out _ _ _ _).hb) L_.out.1 hkk).mono ?_; rintro e w10 ⟨rfl, hb⟩; have HI10 := Aside0.mk ((Inv.made HX8.out HS8.out HA8.out HW8.out HB8.out hgx0 hngx hnsx hnax HF8.out _ _ _ _).on hb); clear hkk hb HF8 HX8 HS8 HA8 HW8 HB8 hb0 hb1 hb2 hb3 hb4 hg0 hg1 hg2 hg3 hg4 hx0 hx1 hx2 hx3 hy0 hy1 hy2 hy3 hc0' hc1' hc2' hd0' hd1' hd2'; obtain ⟨hb0, hb1, hb2, hb3, hb4, hg0, hg1, hg2, hg3, hg4⟩ := b5_ (mk0 HI10.out.hx); obtain ⟨hx0, hx1, hx2, hx3, hy0, hy1, hy2, hy3⟩ := c4_ (mk0 HI10.out.hg); obtain ⟨hc0', hc1', hc2', hd0', hd1', hd2'⟩ := c3_ (mk0 HI10.out.ha); have hnxg := hngx.symm; have hnag := blk_ne HI10.out.ha HI10.out.hx (by decide); have hnga2 := hnag.symm))
        clear hb0 hb1 hb2 hb3 hb4 hg0 hg1 hg2 hg3 hg4 hx0 hx1 hx2 hx3 hy0 hy1 hy2 hy3 hc0' hc1' hc2' hd0' hd1' hd2'
        have q0 : ks.length = x.f0.length + 1 := GG.out.2.1
        obtain ⟨K2, rfl⟩ : ∃ a2, K2 = some a2 := (Kd.at_int HC0.out.2.2 0 (by omega) (by omega)).elim fun a h => ⟨a, h.1⟩
        (try rw [i5])
        go_loopg [124] ks.length (fun kq v124 w' => ∃ i : Nat, v124 = .int .i64 (i : Int) ∧ Aside0 (kq + i = ks.length) ∧ Aside0 (∃ dq : Nat, ((i = 0 ∧ (dq = 0 ∨ dq + 1 = deep + (h + 1))) ∨ dq + 1 = deep + (h + 1)) ∧ Inv w0 W w' #[.slice (some ad) N.length c0, .int .i64 (n : Int), .slice FA 0 fc, .slice (some ⟨gs, 0, none⟩) N.length cs, .int .i64 (dq : Int)] (SB N.length (n :: (vs.take i).flatten ++ V)) #[.string lo, .string hi, .bool top] #[.slice K0 x.f0.length k0, .slice K1 0 kc1, .slice (some K2) (x.f0.length + 1) k2, .bool false] gb gs ga gx))
        case atStart => exact ⟨0, rfl, ⟨by simp⟩, ⟨dp, .inl ⟨rfl, HD.out.1⟩, by rw [show n :: (List.take 0 vs).flatten ++ V = n :: V from by simp]; exact HI10.out⟩⟩
        case round =>
          clear HI10
          obtain ⟨i, rfl, HKq, HIq⟩ := hrel
          obtain ⟨dq, hdq, hinv⟩ := HIq.out
          have HV := Aside0.mk hinv
          have HDQ := Aside0.mk hdq
          clear HIq hdq hinv
          by_cases hi2 : i < ks.length
          · cases gk with
            | zero => exact absurd HKq.out (by omega)
            | succ k1 =>
              obtain ⟨hb0, hb1, hb2, hb3, hb4, hg0, hg1, hg2, hg3, hg4⟩ := b5_ (mk0 HV.out.hx)
              obtain ⟨hx0, hx1, hx2, hx3, hy0, hy1, hy2, hy3⟩ := c4_ (mk0 HV.out.hg)
              obtain ⟨hc0', hc1', hc2', hd0', hd1', hd2'⟩ := c3_ (mk0 HV.out.ha)
              have q1 : (0 : Int) ≤ (i : Int) := by omega
              have q2 : (i : Int) < (x.f0.length : Int) + 1 := by omega
              obtain ⟨adk, eadk, hcell⟩ := Kd.at_int HC0.out.2.2 (i : Int) q1 (by omega)
              injection eadk with eadk
              subst eadk
              have hrdk : rd x.f2 (i : Int) = ((ks[i] : Nat) : Int) := by rw [GG.out.1]; simp [rd, List.getD_eq_getElem?_getD, hi2]
              rw [hrdk] at hcell
              replace hcell := (HV.out.hb.cell (World.block_lt_of_cell? _ _ hcell)).trans hcell
              simp only [Int.toNat_natCast] at hcell
              obtain ⟨kk, hkk⟩ := part_ev x lo hi top i HK.out.1.1 (by omega)
              have HP := Aside0.mk (part_at HC0.out L_.out i1 i2 g3 hkk)
              have HR := Aside0.mk (fun (W1 : World) (hv : Inv w0 W W1 #[.slice (some ad) N.length c0, .int .i64 (n : Int), .slice FA 0 fc, .slice (some ⟨gs, 0, none⟩) N.length cs, .int .i64 (dq : Int)] (SB N.length (n :: (vs.take i).flatten ++ V)) #[.string lo, .string hi, .bool top] #[.slice K0 x.f0.length k0, .slice K1 0 kc1, .slice (some K2) (x.f0.length + 1) k2, .bool false] gb gs ga gx) =>
                IH.out false ks[i] (lowAt x.f0 lo i) (highAt x.f0 hi i) (topAt x.f0 top i) (vs[i]'(by have := GG.out.2.2.1; omega)) (rr[i]'(by have := GG.out.2.2.2.1; omega)) (deep + 1) dq (n :: (vs.take i).flatten ++ V) W1
                  (GG.out.2.2.2.2.2 i _ _ _ (List.getElem?_eq_getElem hi2) (List.getElem?_eq_getElem _) (List.getElem?_eq_getElem _)) (fun e => by cases e)
                  (kid_apart (by have := HK.out.2.2.2.1; rw [GG.out.2.2.2.2.1] at this; exact this) _).1
                  (fun j hj => by
                    obtain ⟨a1, a2, a3⟩ := (kid_apart (by have := HK.out.2.2.2.1; rw [GG.out.2.2.2.2.1] at this; exact this) (show i < vs.length by have := GG.out.2.2.1; omega)).2 j hj
                    have a4 := HK.out.2.2.2.2.1 j (by rw [GG.out.2.2.2.2.1]; exact List.mem_cons_of_mem _ a3)
                    simp only [List.cons_append, List.mem_cons, List.mem_append, not_or]
                    exact ⟨a1, a2, a4⟩)
                  hv.hb hv.hx hv.hs (by rcases HDQ.out with h1 | h1 <;> omega) (by omega) (by have := HD.out.2.2; omega))
              have hwd : wrap64 ((deep : Int) + 1) = (deep : Int) + 1 := by have := HD.out.2.2; unfold wrap64; omega
              clear hkk hrdk
              go_wp2_with (first | (go_at_call 95; refine (HP.out _ HV.out.hb).mono ?_; rintro e w12 ⟨rfl, hb⟩; have HV2 := Aside0.mk (HV.out.on hb); clear hb) | (go_at_call 76; refine (HR.out _ HV2.out).mono ?_; rintro e w13 ⟨rfl, hB13, ⟨dp', hdp', hx13⟩, hs13, hf13⟩; have HE := Aside0.mk (And.intro hB13 (And.intro hdp' (And.intro hx13 (And.intro hs13 hf13)))); clear hB13 hdp' hx13 hs13 hf13))
              go_roundg k1
              case measure => have := HKq.out; omega
              case rel =>
                have hga1 := blk_ne HV2.out.ha HV2.out.hx (by decide)
                have hga2 := blk_ne HV2.out.ha HV2.out.hs (by decide)
                have hgx1 := blk_ne HV2.out.hg HV2.out.hx (by decide)
                have hgx2 := blk_ne HV2.out.hg HV2.out.hs (by decide)
                obtain ⟨hB13, hdp', hx13, hs13, hf13⟩ := HE.out
                have hks5 : ks.length ≤ 5 := by have := HK.out.1.1; omega
                refine ⟨i + 1, by rw [wrap_succ i (by omega)], ⟨by have := HKq.out; omega⟩, ⟨dp', .inr (by omega), hx13, ?_, hf13 _ _ _ hga1 hga2 HV2.out.ha, hf13 _ _ _ hgx1 hgx2 HV2.out.hg, hB13, fun g t cs z1 z2 z3 => hf13 g t cs z1 z2 (HV2.out.hf g t cs z1 z2 z3)⟩⟩
                rw [SB_congr (V' := vs[i]'(by have := GG.out.2.2.1; omega) ++ (n :: (List.take i vs).flatten ++ V)) (fun j => by
                  rw [List.take_succ_eq_append_getElem (show i < vs.length by have := GG.out.2.2.1; omega)]
                  simp only [List.flatten_append, List.flatten_cons, List.flatten_nil, List.append_nil, List.cons_append, List.mem_cons, List.mem_append]
                  constructor
                  · rintro (h | (h | h) | h) <;> simp [h]
                  · rintro (h | h | h | h) <;> simp [h])]
                exact hs13
          · obtain ⟨hb0, hb1, hb2, hb3, hb4, hg0, hg1, hg2, hg3, hg4⟩ := b5_ (mk0 HV.out.hx)
            have q2 : ¬ ((i : Int) < (x.f0.length : Int) + 1) := by omega
            have hie : i = ks.length := by have := HKq.out; omega
            go_wp2
            go_ret
            refine ⟨rfl, HV.out.hb, ⟨dq, by rcases HDQ.out with h1 | h1 <;> omega, HV.out.hx⟩, ?_, HV.out.hf⟩
            have := HV.out.hs
            rw [hie, ← GG.out.2.2.1, List.take_length] at this
            rw [GG.out.2.2.2.2.1]
            exact this
      · obtain ⟨kc1, hkc1⟩ : ∃ z, z = k1 := ⟨_, rfl⟩
        subst hkc1
        go_enter Tryd.func76, Tryd.ntmps76
        go_wp2_with (first | ((with_reducible refine gate_dst (N := 7) rfl ?_); refine bx_ (N := 7) (cs := #[.string lo, .string hi, .bool top]) (t := 61) (h := ?_); intro ga hga w5 hbox hb; have HX5 := mk0 (blk_below HX.out hb); have HS5 := mk0 (blk_below HS.out hb); have HA := mk0 hbox; have HB5 := Aside0.mk (HB.out.trans (hb.mono HB.out.size)); have HF5 := Aside0.mk (fun (g : Nat) (t : TypeId) (cs : Array Value) (_ : g ≠ gb) (_ : g ≠ gs) (h : W.heap[g]? = some (.cells cs t (0, 0))) => blk_below h hb); have hsn5 := (hb.cell (World.block_lt_of_cell? _ _ HN.out)).trans HN.out; obtain ⟨hb0, hb1, hb2, hb3, hb4, hg0, hg1, hg2, hg3, hg4⟩ := b5_ HX5; obtain ⟨hc0', hc1', hc2', hd0', hd1', hd2'⟩ := c3_ HA; clear hb hbox hga HX HS HB HN) | (go_at_call 92; refine (slices_Contains_int_int.calls 1 FA fc [] (n : Int) false _ ⟨rfl, by simp, fun h => absurd h (by simp)⟩ (Nat.zero_le _) (by simp [slices_Contains_int_int.f, slices_Index_int_int.f, slices_Index_int_int.l0])).mono ?_; rintro e w' ⟨rfl, ⟨nd, rfl⟩⟩; have hbn := pw_below_drewN (Below.refl w5.heap.size w5) nd; have HX6 := mk0 (blk_below HX5.out hbn); have HS6 := mk0 (blk_below HS5.out hbn); have HA6 := mk0 (blk_below HA.out hbn); have HB6 := Aside0.mk (HB5.out.trans (hbn.mono HB5.out.size)); have HF6 := Aside0.mk (fun (g : Nat) (t : TypeId) (cs : Array Value) (h1 : g ≠ gb) (h2 : g ≠ gs) (h : W.heap[g]? = some (.cells cs t (0, 0))) => blk_below (HF5.out g t cs h1 h2 h) hbn); have hnga := blk_ne HA.out HS5.out (by decide); generalize w5.drewN nd = w6 at HX6 HS6 HA6 HB6 HF6 ⊢; clear hbn HX5 HS5 HA HB5 HF5 hb0 hb1 hb2 hb3 hb4 hg0 hg1 hg2 hg3 hg4 hc0' hc1' hc2' hd0' hd1' hd2' hsn5; obtain ⟨hb0, hb1, hb2, hb3, hb4, hg0, hg1, hg2, hg3, hg4⟩ := b5_ HX6; have hfs := blk_frozen HS6.out n; have hs6 : w6.cell? ⟨gs, n, none⟩ = some (.bool (decide (n ∈ V))) := (by rw [blk_cell HS6.out, SB_get hn]); have hnad2 : (ad.add (n * 4)).block ≠ gs := (by rw [add_block]; have := HAD.out; have := HG.out.2; omega); obtain ⟨he0, he1, he2, he3⟩ := far4 E_.out HB6.out hnad2 n (.bool true)) | ((with_reducible refine gate_dst (N := 9) rfl ?_); refine bx_ (N := 9) (cs := #[.slice none 0 0, .slice none 0 0, .slice none 0 0, .bool false]) (t := 85) (h := ?_); go_loud (intro gx hgx w8 hbox hb; have HX8 := mk0 (blk_below (blk_far (p := ⟨gs, n, none⟩) HX6.out hne (.bool true)) hb); have HS8 := mk0 (blk_below (blk_put HS6.out n (.bool true) (SB_set hn)) hb); have HA8 := mk0 (blk_below (blk_far (p := ⟨gs, n, none⟩) HA6.out hnga (.bool true)) hb); have HW8 := mk0 hbox; have hb6 := (below_set HB6.out HG.out.2 : Below w0.heap.size w0 (w6.setCell ⟨gs, n, none⟩ (.bool true))); have HB8 := Aside0.mk (hb6.trans (hb.mono hb6.size)); have HF8 := Aside0.mk (fun (g : Nat) (t : TypeId) (cs : Array Value) (h1 : g ≠ gb) (h2 : g ≠ gs) (h : W.heap[g]? = some (.cells cs t (0, 0))) => And.intro (blk_below (blk_far (p := ⟨gs, n, none⟩) (HF6.out g t cs h1 h2 h) h2 (.bool true)) hb) (blk_lt_ne (HF6.out g t cs h1 h2 h) hgx)); have hgx0 : w0.heap.size ≤ gx := (by rw [hgx]; exact hb6.size); have hngx := blk_lt_ne HX6.out hgx; have hnsx := blk_lt_ne HS6.out hgx; have hnax := blk_lt_ne HA6.out hgx; clear hgx hb6 hb hbox HX6 HS6 HA6 HB6 HF6 hb0 hb1 hb2 hb3 hb4 hg0 hg1 hg2 hg3 hg4 he0 he1 he2 he3 hs6 hfs; obtain ⟨hb0, hb1, hb2, hb3, hb4, hg0, hg1, hg2, hg3, hg4⟩ := b5_ HX8; obtain ⟨hx0, hx1, hx2, hx3, hy0, hy1, hy2, hy3⟩ := c4_ HW8; obtain ⟨hc0', hc1', hc2', hd0', hd1', hd2'⟩ := c3_ HA8)) | (go_at_call 93; obtain ⟨kk, hkk⟩ := keys_ev HK.out.1; refine (tree_keys.calls kk K0 k0 x.f0 lo hi top true _ (Kd.C_below HC0.out.1 (Inv.made HX8.out HS8.out HA8.out HW8.out HB8.out hgx0 hngx hnsx hnax HF8.out _ _ _ _).hb) L_.out.1 hkk).mono ?_; rintro e w10 ⟨rfl, hb⟩; have HI10 := Aside0.mk ((Inv.made HX8.out HS8.out HA8.out HW8.out HB8.out hgx0 hngx hnsx hnax HF8.out _ _ _ _).on hb); clear hkk hb HF8 HX8 HS8 HA8 HW8 HB8 hb0 hb1 hb2 hb3 hb4 hg0 hg1 hg2 hg3 hg4 hx0 hx1 hx2 hx3 hy0 hy1 hy2 hy3 hc0' hc1' hc2' hd0' hd1' hd2'; obtain ⟨hb0, hb1, hb2, hb3, hb4, hg0, hg1, hg2, hg3, hg4⟩ := b5_ (mk0 HI10.out.hx); obtain ⟨hx0, hx1, hx2, hx3, hy0, hy1, hy2, hy3⟩ := c4_ (mk0 HI10.out.hg); obtain ⟨hc0', hc1', hc2', hd0', hd1', hd2'⟩ := c3_ (mk0 HI10.out.ha); have hnxg := hngx.symm; have hnag := blk_ne HI10.out.ha HI10.out.hx (by decide); have hnga2 := hnag.symm))
        clear hb0 hb1 hb2 hb3 hb4 hg0 hg1 hg2 hg3 hg4 hx0 hx1 hx2 hx3 hy0 hy1 hy2 hy3 hc0' hc1' hc2' hd0' hd1' hd2'
        have q0 : ks.length = x.f0.length + 1 := GG.out.2.1
        obtain ⟨K2, rfl⟩ : ∃ a2, K2 = some a2 := (Kd.at_int HC0.out.2.2 0 (by omega) (by omega)).elim fun a h => ⟨a, h.1⟩
        (try rw [i5])
        go_loopg [124] ks.length (fun kq v124 w' => ∃ i : Nat, v124 = .int .i64 (i : Int) ∧ Aside0 (kq + i = ks.length) ∧ Aside0 (∃ dq : Nat, ((i = 0 ∧ (dq = 0 ∨ dq + 1 = deep + (h + 1))) ∨ dq + 1 = deep + (h + 1)) ∧ Inv w0 W w' #[.slice (some ad) N.length c0, .int .i64 (root : Int), .slice FA 0 fc, .slice (some ⟨gs, 0, none⟩) N.length cs, .int .i64 (dq : Int)] (SB N.length (n :: (vs.take i).flatten ++ V)) #[.string lo, .string hi, .bool top] #[.slice K0 x.f0.length k0, .slice K1 0 kc1, .slice (some K2) (x.f0.length + 1) k2, .bool false] gb gs ga gx))
        case atStart => exact ⟨0, rfl, ⟨by simp⟩, ⟨dp, .inl ⟨rfl, HD.out.1⟩, by rw [show n :: (List.take 0 vs).flatten ++ V = n :: V from by simp]; exact HI10.out⟩⟩
        case round =>
          clear HI10
          obtain ⟨i, rfl, HKq, HIq⟩ := hrel
          obtain ⟨dq, hdq, hinv⟩ := HIq.out
          have HV := Aside0.mk hinv
          have HDQ := Aside0.mk hdq
          clear HIq hdq hinv
          by_cases hi2 : i < ks.length
          · cases gk with
            | zero => exact absurd HKq.out (by omega)
            | succ k1 =>
              obtain ⟨hb0, hb1, hb2, hb3, hb4, hg0, hg1, hg2, hg3, hg4⟩ := b5_ (mk0 HV.out.hx)
              obtain ⟨hx0, hx1, hx2, hx3, hy0, hy1, hy2, hy3⟩ := c4_ (mk0 HV.out.hg)
              obtain ⟨hc0', hc1', hc2', hd0', hd1', hd2'⟩ := c3_ (mk0 HV.out.ha)
              have q1 : (0 : Int) ≤ (i : Int) := by omega
              have q2 : (i : Int) < (x.f0.length : Int) + 1 := by omega
              obtain ⟨adk, eadk, hcell⟩ := Kd.at_int HC0.out.2.2 (i : Int) q1 (by omega)
              injection eadk with eadk
              subst eadk
              have hrdk : rd x.f2 (i : Int) = ((ks[i] : Nat) : Int) := by rw [GG.out.1]; simp [rd, List.getD_eq_getElem?_getD, hi2]
              rw [hrdk] at hcell
              replace hcell := (HV.out.hb.cell (World.block_lt_of_cell? _ _ hcell)).trans hcell
              simp only [Int.toNat_natCast] at hcell
              obtain ⟨kk, hkk⟩ := part_ev x lo hi top i HK.out.1.1 (by omega)
              have HP := Aside0.mk (part_at HC0.out L_.out i1 i2 g3 hkk)
              have HR := Aside0.mk (fun (W1 : World) (hv : Inv w0 W W1 #[.slice (some ad) N.length c0, .int .i64 (root : Int), .slice FA 0 fc, .slice (some ⟨gs, 0, none⟩) N.length cs, .int .i64 (dq : Int)] (SB N.length (n :: (vs.take i).flatten ++ V)) #[.string lo, .string hi, .bool top] #[.slice K0 x.f0.length k0, .slice K1 0 kc1, .slice (some K2) (x.f0.length + 1) k2, .bool false] gb gs ga gx) =>
                IH.out false ks[i] (lowAt x.f0 lo i) (highAt x.f0 hi i) (topAt x.f0 top i) (vs[i]'(by have := GG.out.2.2.1; omega)) (rr[i]'(by have := GG.out.2.2.2.1; omega)) (deep + 1) dq (n :: (vs.take i).flatten ++ V) W1
                  (GG.out.2.2.2.2.2 i _ _ _ (List.getElem?_eq_getElem hi2) (List.getElem?_eq_getElem _) (List.getElem?_eq_getElem _)) (fun e => by cases e)
                  (kid_apart (by have := HK.out.2.2.2.1; rw [GG.out.2.2.2.2.1] at this; exact this) _).1
                  (fun j hj => by
                    obtain ⟨a1, a2, a3⟩ := (kid_apart (by have := HK.out.2.2.2.1; rw [GG.out.2.2.2.2.1] at this; exact this) (show i < vs.length by have := GG.out.2.2.1; omega)).2 j hj
                    have a4 := HK.out.2.2.2.2.1 j (by rw [GG.out.2.2.2.2.1]; exact List.mem_cons_of_mem _ a3)
                    simp only [List.cons_append, List.mem_cons, List.mem_append, not_or]
                    exact ⟨a1, a2, a4⟩)
                  hv.hb hv.hx hv.hs (by rcases HDQ.out with h1 | h1 <;> omega) (by omega) (by have := HD.out.2.2; omega))
              have hwd : wrap64 ((deep : Int) + 1) = (deep : Int) + 1 := by have := HD.out.2.2; unfold wrap64; omega
              clear hkk hrdk
              go_wp2_with (first | (go_at_call 95; refine (HP.out _ HV.out.hb).mono ?_; rintro e w12 ⟨rfl, hb⟩; have HV2 := Aside0.mk (HV.out.on hb); clear hb) | (go_at_call 76; refine (HR.out _ HV2.out).mono ?_; rintro e w13 ⟨rfl, hB13, ⟨dp', hdp', hx13⟩, hs13, hf13⟩; have HE := Aside0.mk (And.intro hB13 (And.intro hdp' (And.intro hx13 (And.intro hs13 hf13)))); clear hB13 hdp' hx13 hs13 hf13))
              go_roundg k1
              case measure => have := HKq.out; omega
              case rel =>
                have hga1 := blk_ne HV2.out.ha HV2.out.hx (by decide)
                have hga2 := blk_ne HV2.out.ha HV2.out.hs (by decide)
                have hgx1 := blk_ne HV2.out.hg HV2.out.hx (by decide)
                have hgx2 := blk_ne HV2.out.hg HV2.out.hs (by decide)
                obtain ⟨hB13, hdp', hx13, hs13, hf13⟩ := HE.out
                have hks5 : ks.length ≤ 5 := by have := HK.out.1.1; omega
                refine ⟨i + 1, by rw [wrap_succ i (by omega)], ⟨by have := HKq.out; omega⟩, ⟨dp', .inr (by omega), hx13, ?_, hf13 _ _ _ hga1 hga2 HV2.out.ha, hf13 _ _ _ hgx1 hgx2 HV2.out.hg, hB13, fun g t cs z1 z2 z3 => hf13 g t cs z1 z2 (HV2.out.hf g t cs z1 z2 z3)⟩⟩
                rw [SB_congr (V' := vs[i]'(by have := GG.out.2.2.1; omega) ++ (n :: (List.take i vs).flatten ++ V)) (fun j => by
                  rw [List.take_succ_eq_append_getElem (show i < vs.length by have := GG.out.2.2.1; omega)]
                  simp only [List.flatten_append, List.flatten_cons, List.flatten_nil, List.append_nil, List.cons_append, List.mem_cons, List.mem_append]
                  constructor
                  · rintro (h | (h | h) | h) <;> simp [h]
                  · rintro (h | h | h | h) <;> simp [h])]
                exact hs13
          · obtain ⟨hb0, hb1, hb2, hb3, hb4, hg0, hg1, hg2, hg3, hg4⟩ := b5_ (mk0 HV.out.hx)
            have q2 : ¬ ((i : Int) < (x.f0.length : Int) + 1) := by omega
            have hie : i = ks.length := by have := HKq.out; omega
            go_wp2
            go_ret
            refine ⟨rfl, HV.out.hb, ⟨dq, by rcases HDQ.out with h1 | h1 <;> omega, HV.out.hx⟩, ?_, HV.out.hf⟩
            have := HV.out.hs
            rw [hie, ← GG.out.2.2.1, List.take_length] at this
            rw [GG.out.2.2.2.2.1]
            exact this
end Go.Proofs.YtkmkppchhdkipaaDoor.HMay
/- package tree: May, walked by hand: a tree that may be is told to be one. -/
namespace Go.Proofs.YtkmkppchhdkipaaDoor.HMay
open Go.Lib Go.RowKit Go.Proofs.YtkmkppchhdkipaaDoorW.PrintWords Go.Proofs.YtkmkppchhdkipaaDoorW.PrintLast Go.Proofs.YtkmkppchhdkipaaDoorW.PrintMore Go.Proofs.YtkmkppchhdkipaaDoor.PTr Go.Proofs Go.Proofs.YtkmkppchhdkipaaDoor.HTree Go.Proofs.YtkmkppchhdkipaaDoor.HNum
set_option linter.unusedSimpArgs false
set_option linter.unusedVariables false
theorem index_true (n : Nat) (hn : n ≤ 1000) (d : Nat) : ∀ i, i + d = n → Ev (fun k => slices_Index_bool_bool.l0 k (List.replicate n true) false (n : Int) (i : Int)) (-1) := by
  induction d with
  | zero =>
    intro i hid
    exact Ev.step (fun k => by rw [slices_Index_bool_bool.l0, if_neg (by omega)]) (Ev.now _)
  | succ d ih =>
    intro i hid
    have h1 : (i : Int) < ((List.replicate n true).length : Int) := by rw [List.length_replicate]; omega
    have h2 : rdOf false (List.replicate n true) (i : Int) = true := by simp [rdOf, List.getD_eq_getElem?_getD, show i < n by omega]
    exact Ev.step (fun k => by rw [slices_Index_bool_bool.l0, if_pos (by omega), if_pos (by omega), if_pos h1, h2, if_neg (by decide), wrap_succ i (by omega)]) (ih (i + 1) (by omega))
theorem contains_true (n : Nat) (hn : n ≤ 1000) : ∃ k, slices_Contains_bool_bool.f k (List.replicate n true) false = some false := by
  obtain ⟨k, hk⟩ := (index_true n hn n 0 (by omega)).rounds
  refine ⟨k, ?_⟩
  unfold slices_Contains_bool_bool.f slices_Index_bool_bool.f
  rw [List.length_replicate]
  rw [show ((0 : Nat) : Int) = 0 from rfl] at hk
  rw [hk]
  rfl
theorem C_true {W : World} {gs n : Nat} {V : List Nat} (h : W.heap[gs]? = some (.cells (SB n V) 4 (0, 0))) (hV : ∀ j < n, j ∈ V) (hn : n ≤ 9223372036854775807) : Kd.C Kd.bool W (some ⟨gs, 0, none⟩) n (List.replicate n true) := by
  refine ⟨List.length_replicate .., hn, fun _ => ⟨_, rfl, fun j p hj => ?_⟩⟩
  have hjn : j < n := by have := (List.getElem?_eq_some_iff.1 hj).1; rwa [List.length_replicate] at this
  obtain rfl : p = true := by rw [List.getElem?_replicate, if_pos hjn] at hj; exact (Option.some.inj hj).symm
  refine ⟨[.bool true], rfl, rfl, fun i u hu => ?_⟩
  have hi : i = 0 := by
    cases i with
    | zero => rfl
    | succ i => simp at hu
  subst hi
  simp only [List.getElem?_cons_zero, Option.some.injEq] at hu
  subst hu
  have e : (⟨gs, 0, none⟩ : Addr).add (j * Kd.bool.sz + 0) = ⟨gs, j, none⟩ := by
    have : Kd.bool.sz = 1 := rfl
    unfold Addr.add
    simp [this]
    try (intro h; exact h.symm)
  rw [e, blk_cell h, SB_get hjn]
  simp [hV j hjn]
theorem con_true {w : World} {gs n cs kk : Nat} {V : List Nat} (hcs : n ≤ cs) (hV : ∀ j < n, j ∈ V) (hn : n ≤ 1000) (hs : w.heap[gs]? = some (.cells (SB n V) 4 (0, 0))) (hkk : slices_Contains_bool_bool.f kk (List.replicate n true) false = some false) (W : World) (hb : Below w.heap.size w W) :
    Calls Tryd.prog 96 #[.slice (some ⟨gs, 0, none⟩) n cs, .bool false] W fun e w' => e = .returned (.bool false) ∧ Drawn0 W w' := by
  have hc := slices_Contains_bool_bool.calls kk (some ⟨gs, 0, none⟩) cs (List.replicate n true) false false W (by rw [List.length_replicate]; exact C_true (blk_below hs hb) hV (by omega)) (by rw [List.length_replicate]; exact hcs) hkk
  rw [List.length_replicate] at hc
  exact hc
set_option maxHeartbeats 1000000 in
set_option maxRecDepth 100000 in
theorem free_calls (A0 : Option Addr) (c0 gb gs n cs : Nat) (FA : Option Addr) (fc : Nat) (root dp : Int) (V : List Nat) (w : World) (hn : n ≤ 1000) (hcs : n ≤ cs) (hV : ∀ j < n, j ∈ V)
    (hx : w.heap[gb]? = some (.cells #[.slice A0 n c0, .int .i64 root, .slice FA 0 fc, .slice (some ⟨gs, 0, none⟩) n cs, .int .i64 dp] 125 (0, 0))) (hs : w.heap[gs]? = some (.cells (SB n V) 4 (0, 0))) :
    Calls Tryd.prog 78 #[.pointer (some ⟨gb, 0, none⟩)] w fun e w' => e = .returned (.bool true) ∧ Below w.heap.size w w' := by
  obtain ⟨kk, hkk⟩ := contains_true n hn
  have HC := Aside0.mk (fun (W : World) (hb : Below w.heap.size w W) => con_true hcs hV hn hs hkk W hb)
  have HB := Aside0.mk (Below.refl w.heap.size w)
  have HX := mk0 hx
  clear hkk hs hx
  obtain ⟨hb0, hb1, hb2, hb3, hb4, hg0, hg1, hg2, hg3, hg4⟩ := b5_ HX
  go_enter Tryd.func78, Tryd.ntmps78
  go_wp2
  go_loopg [12] 0 (fun kq v12 w' => v12 = .int .i64 0 ∧ Aside0 (Below w.heap.size w w'))
  case atStart => exact ⟨rfl, HB⟩
  case round =>
    clear HB hb0 hb1 hb2 hb3 hb4 hg0 hg1 hg2 hg3 hg4
    obtain ⟨rfl, HB⟩ := hrel
    obtain ⟨hb0, hb1, hb2, hb3, hb4, hg0, hg1, hg2, hg3, hg4⟩ := b5_ (mk0 (blk_below HX.out HB.out))
    go_wp2_with (go_at_call 96; refine (HC.out _ HB.out).mono ?_; rintro e w6 ⟨rfl, ⟨nd, rfl⟩⟩)
    go_ret
    exact ⟨rfl, pw_below_drewN HB.out nd⟩
theorem mk_seen (n : Nat) (hn : n ≤ 200) (W : World) : (Instr.makeSlice 98 (.int .i64 (n : Int)) (.int .i64 (n : Int))).run Tryd.prog W = .ok (.slice (some ⟨W.heap.size, 0, none⟩) n n) (W.alloc (.cells (SB n []) 4)) := by
  have hi0 : (Tryd.prog.info? 4).map (fun i => (i.zero, i.size, i.bytes)) = some (some (.bool false), 1, 1) := by kernel_rfl
  obtain ⟨i, hi, h2⟩ := Option.map_eq_some_iff.1 hi0
  simp only [Prod.mk.injEq] at h2
  obtain ⟨hz, hs, hb⟩ := h2
  have h := run_makeSlice W (P := Tryd.prog) 98 4 i (.bool false) Tryd.underlying98 hi hz .i64 .i64 (n : Int) (n : Int) (by omega) (by omega) (by rw [hs]; omega) (by rw [hb]; omega) (by omega)
  rw [hs, Nat.mul_one, Int.toNat_natCast] at h
  have e : madeCells (Value.bool false).cells n = SB n [] := by
    apply Array.ext
    · simp [madeCells, SB]
    · intro k h1 h2
      simp [madeCells, SB, Value.cells, Nat.mod_one]
  rw [e] at h
  exact h
theorem heap_two (w : World) (S X : Array Value) : ((w.alloc (.cells S 4)).alloc (.cells X 125)).drew.heap[w.heap.size]? = some (.cells S 4 (0, 0)) ∧ ((w.alloc (.cells S 4)).alloc (.cells X 125)).drew.heap[w.heap.size + 1]? = some (.cells X 125 (0, 0)) ∧ Below w.heap.size w ((w.alloc (.cells S 4)).alloc (.cells X 125)).drew := by
  have h1 : (w.alloc (.cells S 4)).heap[w.heap.size]? = some (.cells S 4 (0, 0)) := heap_alloc_new w _
  have hs : (w.alloc (.cells S 4)).heap.size = w.heap.size + 1 := by show (w.heap.push _).size = _; rw [Array.size_push]
  have h2 : ((w.alloc (.cells S 4)).alloc (.cells X 125)).heap[w.heap.size + 1]? = some (.cells X 125 (0, 0)) := by rw [← hs]; exact heap_alloc_new _ _
  exact ⟨blk_below h1 (below_drew (below_alloc (Below.refl _ _) _)), h2, below_drew (below_alloc (below_alloc (Below.refl _ _) _) _)⟩
theorem sub_height {N : List SN} : ∀ {h : Nat} {rt : Bool} {n : Nat} {lo hi : ByteArray} {top : Bool} {vis : List Nat} {rs : List SP}, Sub N h rt n lo hi top vis rs → h ≤ vis.length
  | 0, _, _, _, _, _, _, _, h => h.elim
  | h + 1, _, _, _, _, _, _, _, ⟨x, hx, h1, h2, h3⟩ => by
    rcases h3 with ⟨_, rfl, _, rfl, _⟩ | ⟨_, _, _, ks, vs, rr, _, e1, e2, e3, rfl, _, hk⟩
    · simp
    · have a0 : 0 < ks.length := by omega
      have := sub_height (hk 0 _ _ _ (List.getElem?_eq_getElem a0) (List.getElem?_eq_getElem (show 0 < vs.length by omega)) (List.getElem?_eq_getElem (show 0 < rr.length by omega)))
      have h4 : (vs[0]'(by omega)).length ≤ vs.flatten.length := by
        cases vs with
        | nil => simp at e2; omega
        | cons a t => simp
      simp only [List.length_cons]
      omega
set_option maxHeartbeats 1000000 in
set_option maxRecDepth 100000 in
theorem May_calls (A0_0 : Option Addr) (c0_0 : Nat) (l0_0 : List SN) (a0_1 : Int) (A0_2 : Option Addr) (c0_2 : Nat) (l0_2 : List Int) (w : World) (hr0_0 : Kd.C k85 w A0_0 l0_0.length l0_0) (hc0_0 : l0_0.length ≤ c0_0) (hr0_2 : Kd.C (Kd.int .i64) w A0_2 l0_2.length l0_2) (hc0_2 : l0_2.length ≤ c0_2) (hv : Valid l0_0 a0_1 l0_2) :
    Calls Tryd.prog 52 #[.agg #[.slice A0_0 l0_0.length c0_0, .int .i64 a0_1, .slice A0_2 l0_2.length c0_2]] w fun e w' => e = .returned (.bool true) ∧ Below w.heap.size w w' := by
  obtain ⟨l, hh, rfl, h200, n, vis, rfl, hn, hsub, hperm⟩ := hv
  have hvl : vis.length = l0_0.length := by rw [hperm.length_eq, List.length_range]
  have k1 : ¬ ((l0_0.length : Int) > 200) := by omega
  have k2 : ¬ (200 < (l0_0.length : Int)) := by omega
  have HB := Aside0.mk (Below.refl w.heap.size w)
  go_enter Tryd.func52, Tryd.ntmps52
  go_wp2_with (first | ((with_reducible refine gate_dst (N := 1) rfl ?_); refine bx_ (N := 1) (cs := #[.slice A0_0 l0_0.length c0_0, .int .i64 (n : Int), .slice A0_2 0 c0_2]) (t := 25) (h := ?_); intro gt hgt w5 hbox hb; have HX := mk0 hbox; have HB5 := Aside0.mk (HB.out.trans (hb.mono HB.out.size)); obtain ⟨hx0, hx1, hx2, hy0, hy1, hy2⟩ := c3_ HX; clear hb hbox hgt HB))
  have HMK := mk_seen l0_0.length h200
  have HXa := mk0 (blk_below HX.out (below_alloc (Below.refl w5.heap.size w5) (.cells (SB l0_0.length []) 4)))
  obtain ⟨ha0, ha1, ha2, hz0, hz1, hz2⟩ := c3_ HXa
  go_region
  have hgs := heap_two w5 (SB l0_0.length []) #[.slice A0_0 l0_0.length c0_0, .int .i64 (n : Int), .slice A0_2 0 c0_2, .slice (some ⟨w5.heap.size, 0, none⟩) l0_0.length l0_0.length, .int .i64 0]
  obtain ⟨hs7, hx7, hb7⟩ := hgs
  have hgt : gt < w5.heap.size := blk_lt HX.out
  have HX7 := mk0 (blk_below HX.out hb7)
  have hw0 := HB5.out
  have HD := Aside0.mk (HB5.out.trans (hb7.mono HB5.out.size))
  generalize hgs : w5.heap.size = gs at *
  generalize ((w5.alloc (.cells (SB l0_0.length []) 4)).alloc (.cells #[.slice A0_0 l0_0.length c0_0, .int .i64 (n : Int), .slice A0_2 0 c0_2, .slice (some ⟨gs, 0, none⟩) l0_0.length l0_0.length, .int .i64 0] 125)).drew = w7 at *
  have HN := Aside0.mk (fun (W1 : World) (hb : Below w7.heap.size w7 W1) => node_calls w A0_2 c0_2 l0_0 A0_0 c0_0 l0_0.length (gs + 1) gs n hr0_0 hc0_0 (by have := hw0.size; omega) (by have := hw0.size; omega) (by omega) (Nat.le_refl _) (by omega) hh true n ⟨#[]⟩ ⟨#[]⟩ true vis l 1 0 [] W1 hsub (fun _ => rfl) (hperm.nodup_iff.2 List.nodup_range) (fun _ _ => List.not_mem_nil) (HD.out.trans (hb.mono HD.out.size)) (blk_below hx7 hb) (blk_below hs7 hb) (.inl rfl) (Nat.le_refl _) (by have := sub_height hsub; omega))
  have hvis : ∀ j < l0_0.length, j ∈ vis ++ ([] : List Nat) := fun j hj => by rw [List.append_nil]; exact hperm.mem_iff.2 (List.mem_range.2 hj)
  have HF := Aside0.mk (fun (W : World) (dp : Int) hx hs => free_calls A0_0 c0_0 (gs + 1) gs l0_0.length l0_0.length A0_2 c0_2 (n : Int) dp (vis ++ []) W (by omega) (Nat.le_refl _) hvis hx hs)
  obtain ⟨hx0, hx1, hx2, hy0, hy1, hy2⟩ := c3_ HX7
  have hA : ∀ W : World, Below w7.heap.size w7 W → W.cell? ⟨gt, 1, none⟩ = some (.int .i64 (n : Int)) := fun W hb => (hb.cell (World.block_lt_of_cell? _ _ hx1)).trans hx1
  have HA := Aside0.mk hA
  have hx1d : w7.drew.cell? ⟨gt, 1, none⟩ = some (.int .i64 (n : Int)) := hx1
  clear hA hvis hperm hsub hvl hr0_0 hc0_0 hr0_2 hc0_2 hs7 hx7 hb7 hw0 hn HB5 HX HX7 hx0 hx2 hy0 hy1 hy2 h200
  go_wp2
  have HD7 := Aside0.mk (below_drew (Below.refl w7.heap.size w7))
  go_region_with (first | (go_at_call 77; refine (key_All.calls _ _ _ _ rfl).mono ?_; rintro e w8 ⟨rfl, hb8⟩; have hb9 := HD7.out.trans (hb8.mono (Nat.le_refl _)); have hx1b := HA.out w8 hb9) | (go_at_call 76; refine (HN.out _ hb9).mono ?_; rintro e w9 ⟨rfl, hB9, ⟨dp9, hd9, hx9⟩, hs9, hf9⟩) | (go_at_call 78; refine (HF.out _ _ hx9 hs9).mono ?_; rintro e w10 ⟨rfl, hb10⟩))
  all_goals go_wp2
  all_goals go_ret
  all_goals exact ⟨rfl, hB9.trans (hb10.mono hB9.size)⟩
end Go.Proofs.YtkmkppchhdkipaaDoor.HMay
