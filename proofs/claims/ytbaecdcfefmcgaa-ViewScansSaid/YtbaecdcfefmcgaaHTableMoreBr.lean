/- What is left of a table, its rows, those of a range, a version more, copies: package table's and the reference's say the same. -/
import Derived.Test.YtbaecdcfefmcgaaHSome
import Derived.Test.YtbaecdcfefmcgaaHTableBr
import Derived.Test.YtbaecdcfefmcgaaPVrsx9
import Derived.Test.YtbaecdcfefmcgaaPVrsx7
set_option linter.unusedSimpArgs false
set_option linter.unusedVariables false
set_option linter.unusedSectionVars false
namespace Go.Proofs.Ytbaecdcfefmcgaa.HTable
open Go.RowKit Go.Proofs.Ytbaecdcfefmcgaa.PVrs Go.Proofs.Ytbaecdcfefmcgaa.HNum Go.Proofs.Ytbaecdcfefmcgaa.HChain Go.Proofs.YtbaecdcfefmcgaaW.PrintWords Go.Proofs.YtbaecdcfefmcgaaW.PrintLast
abbrev Rw := S82
theorem rdr_at (l : List Rw) (j : Nat) (h : j < l.length) : rd_T82 l (j : Int) = l[j] := by simp [rd_T82, h]
def rowsT (l : List Ch) (m : Int) : List Rw := l.filterMap (fun c => (HChain.look c.f1 m).map (fun v => (⟨c.f0, v.f1⟩ : Rw)))
theorem rowsT_none {c : Ch} {l : List Ch} {m : Int} (hk : HChain.look c.f1 m = none) : rowsT (c :: l) m = rowsT l m := by unfold rowsT; rw [List.filterMap_cons_none (by rw [hk]; rfl)]
theorem rowsT_some {c : Ch} {l : List Ch} {m : Int} {v : V} (hk : HChain.look c.f1 m = some v) : rowsT (c :: l) m = ⟨c.f0, v.f1⟩ :: rowsT l m := by unfold rowsT; rw [List.filterMap_cons_some (by rw [hk]; rfl)]
section
variable (l : List Ch) (n : Int) (hl : l.length ≤ 1000000) (hv : ∀ c ∈ l, c.f1.length ≤ 1000000)
include hl hv
theorem Rows_from (d : Nat) : ∀ (j : Nat) (acc : List Rw), j + d = l.length → acc.length ≤ j →
    Ev (fun k => table_Rows.l0 k n acc l (l.length : Int) (j : Int)) (acc ++ rowsT (l.drop j) n) := by
  induction d with
  | zero =>
    intro j acc hj ha
    rw [List.drop_eq_nil_of_le (by omega)]
    exact Ev.step (fun k => by simp only [table_Rows.l0]; rfl) (Ev.if_neg (by omega) (by simpa [rowsT] using Ev.now acc))
  | succ d ih =>
    intro j acc hj ha
    have hlt : j < l.length := by omega
    refine Ev.step (fun k => by simp only [table_Rows.l0]; rfl) (Ev.if_pos (by omega) (Ev.if_pos (by omega) (Ev.if_pos (by omega) ?_)))
    rw [rdc_at l j hlt, wrap_succ j (by omega), List.drop_eq_getElem_cons hlt]
    refine Ev.bind (Look_ev (l[j]).f0 (l[j]).f1 n) ?_
    cases hk : HChain.look (l[j]).f1 n with
    | none =>
      rw [rowsT_none hk]
      exact Ev.if_neg (by simp) (ih (j + 1) acc (by omega) (by omega))
    | some v =>
      rw [rowsT_some hk]
      refine Ev.if_pos (by first | rfl | trivial) (Ev.if_pos (by omega) ?_)
      have h := ih (j + 1) (acc ++ [⟨(l[j]).f0, v.f1⟩]) (by omega) (by simp; omega)
      rw [List.append_assoc] at h
      exact h
theorem Rows_ev : Ev (fun k => table_Rows.f k l n) (rowsT l n) := by
  have h := Rows_from l n hl hv l.length 0 [] (by omega) (by simp)
  rw [List.drop_zero, List.nil_append] at h
  exact h
end
theorem rowsT_len (l : List Ch) (m : Int) : (rowsT l m).length ≤ l.length := List.length_filterMap_le ..
/-! those of a range -/
def rangeOK (lo hi : ByteArray) (top : Bool) : Bool := if lo.size ≤ 13 ∧ hi.size ≤ 13 then (if top = true then (hi.toList == ([] : List UInt8)) else (!(Op.bytesLess hi.toList lo.toList))) else false
theorem keyMay_ev (lo hi : ByteArray) (top : Bool) : Ev (fun k => key_May.f k lo hi top) (rangeOK lo hi top) := by
  unfold key_May.f rangeOK
  by_cases h1 : lo.size ≤ 13
  · refine Ev.if_neg (by omega) (Ev.step (fun k => by simp only [key_May.j0]; rfl) ?_)
    by_cases h2 : hi.size ≤ 13
    · rw [show decide ((hi.size : Int) > 13) = false from decide_eq_false (by omega), if_pos (show lo.size ≤ 13 ∧ hi.size ≤ 13 from ⟨h1, h2⟩)]
      refine Ev.if_neg (by simp) ?_
      cases top with
      | true => exact Ev.if_pos (by first | rfl | trivial) (Ev.now _)
      | false => exact Ev.if_neg (by simp) (Ev.now _)
    · rw [show decide ((hi.size : Int) > 13) = true from decide_eq_true (by omega), if_neg (show ¬ (lo.size ≤ 13 ∧ hi.size ≤ 13) from fun h => h2 h.2)]
      exact Ev.if_pos (by first | rfl | trivial) (Ev.now _)
  · rw [if_neg (show ¬ (lo.size ≤ 13 ∧ hi.size ≤ 13) from fun h => h1 h.1)]
    exact Ev.if_pos (by omega) (Ev.step (fun k => by simp only [key_May.j0]; rfl) (Ev.if_pos (by first | rfl | trivial) (Ev.now _)))
def asksOK (lo hi : ByteArray) (top : Bool) (m : Int) : Bool := rangeOK lo hi top && decide (0 ≤ m ∧ m ≤ 1073741824)
theorem Asks_ev (lo hi : ByteArray) (top : Bool) (m : Int) : Ev (fun k => table_Asks.f k lo hi top m) (asksOK lo hi top m) := by
  unfold table_Asks.f asksOK
  refine Ev.bind (keyMay_ev lo hi top) ?_
  cases rangeOK lo hi top with
  | true =>
    refine Ev.if_pos (by first | rfl | trivial) ?_
    rw [Bool.true_and]
    by_cases h : 0 ≤ m
    · rw [show decide (0 ≤ m ∧ m ≤ 1073741824) = decide (m ≤ 1073741824) by rw [decide_eq_decide]; omega]
      exact Ev.if_pos h (Ev.now _)
    · rw [show decide (0 ≤ m ∧ m ≤ 1073741824) = false from decide_eq_false (fun h2 => h h2.1)]
      exact Ev.if_neg h (Ev.now _)
  | false => exact Ev.if_neg (by simp) (Ev.now _)
section
variable (l : List Rw) (lo hi : ByteArray) (top back : Bool) (n : Int) (hl : l.length ≤ 1000000)
/-- the list that is gone through -/
def turned : List Rw := if back = true then l.reverse else l
theorem turned_len : (turned l back).length = l.length := by unfold turned; split <;> simp
include hl
end
section
variable (l : List Ch) (lo hi : ByteArray) (top back : Bool) (n m : Int) (hl : l.length ≤ 1000000) (hv : ∀ c ∈ l, c.f1.length ≤ 1000000)
include hl hv
end
end Go.Proofs.Ytbaecdcfefmcgaa.HTable
