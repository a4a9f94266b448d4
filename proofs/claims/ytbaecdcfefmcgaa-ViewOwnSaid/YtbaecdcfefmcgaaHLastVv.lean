/- The last write of a key: the page's own loop finds what is found from the end on. -/
import Derived.Test.YtbaecdcfefmcgaaPVowx6
import Derived.Test.YtbaecdcfefmcgaaPVowx8
import Derived.Test.YtbaecdcfefmcgaaHPendMayVv
set_option linter.unusedSimpArgs false
set_option linter.unusedVariables false
namespace Go.Proofs.Ytbaecdcfefmcgaa.HPend
open Go.RowKit Go.Proofs.Ytbaecdcfefmcgaa.PVow Go.Proofs.Ytbaecdcfefmcgaa.HNum Go.Proofs.YtbaecdcfefmcgaaW.PrintWords Go.Proofs.YtbaecdcfefmcgaaW.PrintLast
/-- A write of a key. -/
def hitB (t : Int) (k : ByteArray) (x : Wr) : Bool := (x.f0 == t) && (x.f1.toList == k.toList)
theorem look_out (l : List Wr) (t : Int) (k : ByteArray) : pend_Look.last l t k = l.reverse.find? (hitB t k) := rfl
theorem Last_from (l : List Wr) (m : List Int) (hl : l.length ≤ 12) (t : Int) (key : ByteArray) : ∀ j, j ≤ l.length → Ev (fun k => quorumref8_Last.l0 k t key ((j : Int) - 1) l m) (pend_Look.out ((l.take j).reverse.find? (hitB t key))) := by
  intro j
  induction j with
  | zero =>
    intro _
    refine Ev.step (fun k => by simp only [quorumref8_Last.l0]; rfl) (Ev.if_neg (by omega) (Ev.const ?_))
    simp [pend_Look.out]
  | succ j ih =>
    intro hj
    have hlt : j < l.length := by omega
    have e : ((j + 1 : Nat) : Int) - 1 = (j : Int) := by omega
    have et : (l.take (j + 1)).reverse = l[j] :: (l.take j).reverse := by
      rw [List.take_succ_eq_append_getElem hlt]; simp
    rw [e, et, List.find?_cons]
    have hw : wrap64 ((j : Int) - 1) = (j : Int) - 1 := by unfold wrap64; omega
    have go1 : ∀ (b : Bool) (r), (b = false → Ev (fun k => quorumref8_Last.l0 k t key ((j : Int) - 1) l m) r) → (b = true → r = pend_Look.out (some l[j])) → Ev (fun k => quorumref8_Last.j1 k t key (j : Int) b l m) r := fun b r h1 h2 => by
      refine Ev.step (fun k => by simp only [quorumref8_Last.j1]; rfl) ?_
      cases b with
      | true =>
        refine Ev.if_pos rfl ?_
        refine Ev.if_pos (by omega) ?_
        refine Ev.if_pos (by omega) (Ev.const ?_)
        rw [rdw_at l j hlt, h2 rfl]
        rfl
      | false =>
        refine Ev.if_neg (by simp) ?_
        rw [hw]
        exact h1 rfl
    refine Ev.step (fun k => by simp only [quorumref8_Last.l0]; rfl) ?_
    refine Ev.if_pos (by omega) ?_
    refine Ev.if_pos (by omega) ?_
    refine Ev.if_pos (by omega) ?_
    rw [rdw_at l j hlt]
    refine Ev.iff (fun h0 => ?_) (fun h0 => ?_)
    · have hh : hitB t key l[j] = (l[j].f1.toList == key.toList) := by simp [hitB, h0]
      rw [hh]
      cases hb : (l[j].f1.toList == key.toList) with
      | true => exact go1 _ _ (fun h => by cases h) (fun _ => rfl)
      | false => exact go1 _ _ (fun _ => ih (by omega)) (fun h => by cases h)
    · have hh : hitB t key l[j] = false := by simp [hitB, h0]
      rw [hh]
      exact go1 _ _ (fun _ => ih (by omega)) (fun h => by cases h)
theorem Last_ev (l : List Wr) (m : List Int) (hl : l.length ≤ 12) (t : Int) (key : ByteArray) : Ev (fun k => quorumref8_Last.f k l m t key) (pend_Look.out (l.reverse.find? (hitB t key))) := by
  have h := Last_from l m hl t key l.length (Nat.le_refl _)
  rw [List.take_length] at h
  unfold quorumref8_Last.f
  have hw : wrap64 ((l.length : Int) - 1) = (l.length : Int) - 1 := by unfold wrap64; omega
  rw [hw]
  exact h
/-- There is a last write of each key that was written. -/
theorem last_there (l : List Wr) (x : Wr) (hx : x ∈ l) : ∃ w, l.reverse.find? (hitB x.f0 x.f1) = some w := by
  cases h : l.reverse.find? (hitB x.f0 x.f1) with
  | none =>
    rw [List.find?_eq_none] at h
    have := h x (List.mem_reverse.2 hx)
    simp [hitB] at this
  | some w => exact ⟨w, rfl⟩
end Go.Proofs.Ytbaecdcfefmcgaa.HPend
