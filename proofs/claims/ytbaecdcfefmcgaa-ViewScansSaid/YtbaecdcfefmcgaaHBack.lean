/- slices.Backward over writes: its closure, for every loop body that keeps what lay below n₀ (turned from the kit's worked proof of slices.All, GgSlicesIterAtTheDump). -/
import Derived.RangeFuncBox
import Derived.RangeFuncLeaves
import Derived.Shelf.Abstract
import Derived.WalkKit
import Derived.OwnWalkIn
import Derived.TacticsInMore
import Derived.LoopNIn
import Derived.LoopIn
import Derived.Test.YtbaecdcfefmcgaaProg
set_option linter.unusedVariables false
set_option linter.unusedSimpArgs false
namespace Go.Proofs.Ytbaecdcfefmcgaa.HBack
open Go.RowKit Go.Shelf
attribute [local go_sem] Oper.semAt_some
abbrev Wr := Int × ByteArray × ByteArray × Bool
def wv (x : Wr) : Value := .agg #[.int .i64 x.1, .string x.2.1, .string x.2.2.1, .bool x.2.2.2]
/-- What has come when k rounds are over: the last k, from the end on. -/
def upto (e : Nat → Wr) (len k : Nat) : List (Nat × Wr) := (List.range k).map fun j => (len - 1 - j, e (len - 1 - j))
theorem upto_succ (e : Nat → Wr) (len k : Nat) : upto e len (k + 1) = upto e len k ++ [(len - 1 - k, e (len - 1 - k))] := by simp [upto, List.range_succ]
theorem upto_length (e : Nat → Wr) (len k : Nat) : (upto e len k).length = k := by simp [upto]
/-- The cells of the row: four for each write. -/
def Cells (W : World) (b off len : Nat) (e : Nat → Wr) : Prop := ∀ j, j < len → W.cell? ⟨b, off + j * 4, none⟩ = some (.int .i64 (e j).1) ∧ W.cell? ⟨b, off + j * 4 + 1, none⟩ = some (.string (e j).2.1) ∧ W.cell? ⟨b, off + j * 4 + 2, none⟩ = some (.string (e j).2.2.1) ∧ W.cell? ⟨b, off + j * 4 + 3, none⟩ = some (.bool (e j).2.2.2)
set_option maxRecDepth 100000 in
set_option maxHeartbeats 4000000 in
theorem back1_in (F : Fence) (n : Nat) (hf : F.fn 181) (hro : F.round = none) (hn : 1 ≤ n) (l Bs n₀ b off len cap : Nat) (e : Nat → Wr) (hreach : len * 48 ≤ 140737488351232) (hb : b < n₀) (J Jx : List (Nat × Wr) → World → Prop)
    (hY : ∀ pre x W, J pre W → pre.length < len → YieldAt F (n - 1) Try.prog l #[.int .i64 (x.1 : Int), wv x.2] W fun r W' =>
      (r = .returned (.bool true) ∧ J (pre ++ [x]) W' ∧ Below n₀ W W') ∨ (r = .returned (.bool false) ∧ Jx (pre ++ [x]) W'))
    (W : World) (hBs : W.cell? ⟨Bs, 0, none⟩ = some (.slice (some ⟨b, off, none⟩) len cap)) (hBn : Bs < n₀) (hc : Cells W b off len e) (h0 : J [] W) :
    CallsIn F n Try.prog 181 #[.func (.yield l) #[] #[], .pointer (some ⟨Bs, 0, none⟩)] W fun r W' => (∃ v, r = .returned v) ∧
      ((J (upto e len len) W') ∨ (∃ k, k ≤ len ∧ Jx (upto e len k) W')) := by
  refine callsIn_of_wp Try.func181 rfl hf ?_ hro
  simp only [Try.ntmps181, List.size_toArray, List.length_cons, List.length_nil, Nat.reduceAdd, Nat.reduceSub, Array.replicate_succ, Array.replicate_zero, List.push_toArray, List.append_toArray, List.nil_append, List.cons_append]
  gi_wp2
  gi_loopw [3] (fun i wr => ∃ k : Nat, k ≤ len ∧ i = .int .i64 ((len : Int) - 1 - k) ∧ J (upto e len k) wr ∧ Below n₀ W wr)
    (fun i _ => (intOf i + 1).toNat)
  case atStart => exact ⟨0, Nat.zero_le _, by simp, h0, Below.refl _ _⟩
  case round =>
    obtain ⟨k, hk, rfl, hJs, hnx⟩ := hrel
    have hBr := (hnx.cell (p := ⟨Bs, 0, none⟩) hBn).trans hBs
    by_cases hlt : k < len
    · obtain ⟨m, hm⟩ : ∃ m : Nat, m = len - 1 - k := ⟨_, rfl⟩
      have hmi : (len : Int) - 1 - k = (m : Int) := by omega
      have hml : m < len := by omega
      obtain ⟨c0, c1, c2, c3⟩ := hc m hml
      have d0 := (hnx.cell (p := ⟨b, off + m * 4, none⟩) hb).trans c0
      have d1 := (hnx.cell (p := ⟨b, off + m * 4 + 1, none⟩) hb).trans c1
      have d2 := (hnx.cell (p := ⟨b, off + m * 4 + 2, none⟩) hb).trans c2
      have d3 := (hnx.cell (p := ⟨b, off + m * 4 + 3, none⟩) hb).trans c3
      obtain ⟨fn, tmps, assign, body, hy, hR⟩ := hY _ (m, e m) wr hJs (by rw [upto_length]; exact hlt)
      dsimp only [wv] at hy
      have hus : upto e len (k + 1) = upto e len k ++ [(m, e m)] := by rw [upto_succ, ← hm]
      have hk1 : (m : Int) - 1 = (len : Int) - 1 - ((k + 1 : Nat) : Int) := by omega
      clear c0 c1 c2 c3
      rw [hmi]
      clear hmi hm
      gi_wp2
      refine hR.mono ?_
      rintro r W3 (⟨rfl, hJ3, hk3⟩ | ⟨rfl, hJx3⟩)
      · gi_wp2
        go_roundw
        case rel => exact ⟨k + 1, by omega, by first | (rw [← hk1]; done) | (rw [← hk1]; simp [IntKind.wrap, IntKind.signed, IntKind.bits]; omega), by rw [hus]; exact hJ3, hnx.trans hk3⟩
        case measure => simp [intOf]; omega
      · gi_wp2
        refine bodyPost_ret (results_none rfl _ _ _) rfl ?_
        exact ⟨⟨_, rfl⟩, .inr ⟨k + 1, by omega, by rw [hus]; exact hJx3⟩⟩
    · obtain rfl : k = len := by omega
      have : (k : Int) - 1 - k = -1 := by omega
      rw [this]
      gi_wp2
      go_end0
      exact ⟨⟨_, rfl⟩, .inl hJs⟩
set_option maxRecDepth 100000 in
set_option maxHeartbeats 1000000 in
/-- .. at a slice of none: no round. -/
theorem back1_nil_in (F : Fence) (n : Nat) (hf : F.fn 181) (hro : F.round = none) (l Bs : Nat) (A0 : Option Addr) (cap : Nat) (J : List (Nat × Wr) → World → Prop) (W : World) (hBs : W.cell? ⟨Bs, 0, none⟩ = some (.slice A0 0 cap)) (h0 : J [] W) :
    CallsIn F n Try.prog 181 #[.func (.yield l) #[] #[], .pointer (some ⟨Bs, 0, none⟩)] W fun r W' => (∃ v, r = .returned v) ∧ J [] W' := by
  refine callsIn_of_wp Try.func181 rfl hf ?_ hro
  simp only [Try.ntmps181, List.size_toArray, List.length_cons, List.length_nil, Nat.reduceAdd, Nat.reduceSub, Array.replicate_succ, Array.replicate_zero, List.push_toArray, List.append_toArray, List.nil_append, List.cons_append]
  gi_wp2
  gi_loopw [3] (fun i wr => i = .int .i64 (-1) ∧ J [] wr) (fun _ _ => 0)
  case atStart => exact ⟨rfl, h0⟩
  case round =>
    obtain ⟨rfl, hJs⟩ := hrel
    gi_wp2
    go_end0
    exact ⟨⟨_, rfl⟩, hJs⟩
set_option maxHeartbeats 1000000 in
/-- slices.Backward(s): the slice value is boxed; the function value captures the box. -/
theorem back_in (F : Fence) (n : Nat) (hf : F.fn 148) (hro : F.round = none) (a : Option Addr) (len cap : Nat) (w : World) :
    CallsIn F n Try.prog 148 #[.slice a len cap] w fun r w' => r = .returned (.func (.func 181) #[] #[.pointer (some ⟨w.heap.size, 0, none⟩)]) ∧ w' = w.alloc (.cells #[.slice a len cap] 32) := by
  refine callsIn_of_wp Try.func148 rfl hf ?_ hro
  simp only [Try.ntmps148, List.size_toArray, List.length_cons, List.length_nil, Nat.reduceAdd, Nat.reduceSub, Array.replicate_succ, Array.replicate_zero, List.push_toArray, List.append_toArray, List.nil_append, List.cons_append]
  gi_wp2
  go_ret
  exact ⟨rfl, rfl⟩
/-- The row that a slice value holds, in a block below n₀; or it is nil and there is none. -/
def Row (n₀ : Nat) (W : World) (sv : Value) (len : Nat) (e : Nat → Wr) : Prop :=
  (∃ A0 cap, sv = .slice A0 0 cap ∧ len = 0) ∨ ∃ b off cap, sv = .slice (some ⟨b, off, none⟩) len cap ∧ b < n₀ ∧ Cells W b off len e
theorem Row.below {n₀ : Nat} {A B : World} (h : Below n₀ A B) {sv : Value} {len : Nat} {e : Nat → Wr} : Row n₀ A sv len e → Row n₀ B sv len e
  | .inl x => .inl x
  | .inr ⟨b, off, cap, x, hb, hc⟩ => .inr ⟨b, off, cap, x, hb, fun j hj => ⟨(h.cell (p := ⟨b, off + j * 4, none⟩) hb).trans (hc j hj).1, (h.cell (p := ⟨b, off + j * 4 + 1, none⟩) hb).trans (hc j hj).2.1, (h.cell (p := ⟨b, off + j * 4 + 2, none⟩) hb).trans (hc j hj).2.2.1, (h.cell (p := ⟨b, off + j * 4 + 3, none⟩) hb).trans (hc j hj).2.2.2⟩⟩
theorem back_stops (F : Fence) (n : Nat) (hf : F.fn 181) (hro : F.round = none) (hn : 1 ≤ n) (Bs n₀ : Nat) (sv : Value) (len : Nat) (e : Nat → Wr) (hreach : len * 48 ≤ 140737488351232) (w : World) (hBs : Bs < n₀) (hn₀ : n₀ ≤ w.heap.size)
    (hc : w.cell? ⟨Bs, 0, none⟩ = some sv) (hI : Row n₀ w sv len e) :
    SeqStopsK F n Try.prog 181 #[.pointer (some ⟨Bs, 0, none⟩)] (fun x : Nat × Wr => #[Value.int .i64 (x.1 : Int), wv x.2]) (Below n₀) (fun ys => ys = upto e len len) (fun pre => ∃ k, k ≤ len ∧ pre = upto e len k) len w := fun l J Jx W hW _ _ hY h0 => by
  have hc' := (hW.cell (p := ⟨Bs, 0, none⟩) (by show Bs < _; omega)).trans hc
  rcases hI.below (hW.mono hn₀) with ⟨A0, cap, rfl, rfl⟩ | ⟨b, off, cap, rfl, hb, hcs⟩
  · exact (back1_nil_in F n hf hro l Bs A0 cap J W hc' h0).mono fun r W' ⟨he, hj⟩ => ⟨he, .inl ⟨_, rfl, hj⟩⟩
  · refine (back1_in F n hf hro hn l Bs n₀ b off len cap e hreach hb J Jx hY W hc' hBs hcs h0).mono ?_
    rintro r W' ⟨he, hj | ⟨k, hk, hj⟩⟩
    · exact ⟨he, .inl ⟨_, rfl, hj⟩⟩
    · exact ⟨he, .inr ⟨_, ⟨k, hk, rfl⟩, hj⟩⟩
end Go.Proofs.Ytbaecdcfefmcgaa.HBack
