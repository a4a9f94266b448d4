import Derived.Test.YtbaecdcfefmcgaaWWords
import Derived.Lib.Bytealg
import Derived.Test.YtbaecdcfefmcgaaPTbex7
import Derived.Test.YtbaecdcfefmcgaaPTbex10
import Derived.Test.YtbaecdcfefmcgaaPTbex6
import Derived.Test.YtbaecdcfefmcgaaPTbex8
import Derived.Test.YtbaecdcfefmcgaaPTbex5
import Derived.Test.YtbaecdcfefmcgaaPTbex4
import Derived.Test.YtbaecdcfefmcgaaPTbex14
import Derived.Test.YtbaecdcfefmcgaaPTbex9
import Derived.Test.YtbaecdcfefmcgaaPTbex15
import Derived.Test.YtbaecdcfefmcgaaHSome
import Derived.Test.YtbaecdcfefmcgaaPTbex11
import Derived.Test.YtbaecdcfefmcgaaPTbex12
import Derived.Test.YtbaecdcfefmcgaaPTbex13
import Derived.Test.YtbaecdcfefmcgaaPTbex16
import Derived.Test.YtbaecdcfefmcgaaPTbex17
import Derived.Test.YtbaecdcfefmcgaaPTbex18
namespace Go.Proofs.Ytbaecdcfefmcgaa.HNum
open Go.RowKit Go.Proofs.YtbaecdcfefmcgaaW.PrintWords
theorem wrap_succ (j : Nat) (h : j < 9223372036854775807) : wrap64 ((j : Int) + 1) = ((j + 1 : Nat) : Int) := by
 unfold wrap64
 omega
theorem wrap_pred (j : Nat) (h0 : 0 < j) (h : j < 9223372036854775807) : wrap64 ((j : Int) - 1) = ((j - 1 : Nat) : Int) := by
 unfold wrap64
 omega
theorem Ev.const {α : Type} {o : Option α} {r : α} (h : o = some r) : Ev (fun _ => o) r := ⟨0, fun _ _ => h⟩
theorem Ev.bind0 {α β : Type} {o : Option α} {f : Nat → α → Option β} {a : α} {r : β} (h : o = some a) (k : Ev (fun n => f n a) r) : Ev (fun n => o.bind (f n)) r := by
 subst h
 exact k
theorem Ev.if_pos {α : Type} {c : Prop} [Decidable c] {f g : Nat → Option α} {r : α} (h : c) (k : Ev f r) : Ev (fun n => if c then f n else g n) r := by
 simpa only [h, if_true] using k
theorem Ev.if_neg {α : Type} {c : Prop} [Decidable c] {f g : Nat → Option α} {r : α} (h : ¬ c) (k : Ev g r) : Ev (fun n => if c then f n else g n) r := by
 simpa only [h, if_false] using k
theorem Ev.iff {α : Type} {c : Prop} [Decidable c] {f g : Nat → Option α} {r : α} (h1 : c → Ev f r) (h2 : ¬ c → Ev g r) : Ev (fun n => if c then f n else g n) r := by
 by_cases h : c
 ·exact Ev.if_pos h (h1 h)
 ·exact Ev.if_neg h (h2 h)
end Go.Proofs.Ytbaecdcfefmcgaa.HNum
set_option linter.unusedSimpArgs false
namespace Go.Proofs.Ytbaecdcfefmcgaa.HKeyV
open Go.Lib Go.RowKit
theorem cB_cons (a b : UInt8) (xs ys : List UInt8) : compareBytes (a :: xs) (b :: ys) = if a.toNat < b.toNat then -1 else if b.toNat < a.toNat then 1 else compareBytes xs ys := by
 rw [compareBytes]
 simp only [UInt8.lt_iff_toNat_lt]
theorem cB_refl : ∀ a, compareBytes a a = 0
 | [] => rfl
 | a :: xs => by rw [cB_cons, if_neg (by omega), if_neg (by omega)]; exact cB_refl xs
theorem cB_zero : ∀ a b, compareBytes a b = 0 → a = b
 | [], [] => fun _ => rfl
 | [], _ :: _ => fun h => by simp [compareBytes] at h
 | _ :: _, [] => fun h => by simp [compareBytes] at h
 | a :: xs, b :: ys => fun h => by
  rw [cB_cons] at h
  by_cases h1 : a.toNat < b.toNat
  ·rw [if_pos h1] at h; simp at h
  ·by_cases h2 : b.toNat < a.toNat
   ·rw [if_neg h1, if_pos h2] at h; simp at h
   ·rw [if_neg h1, if_neg h2] at h
    rw [UInt8.toNat_inj.1 (show a.toNat = b.toNat by omega), cB_zero xs ys h]
theorem less_cmp : ∀ a b : List UInt8, Op.bytesLess a b = decide (compareBytes a b < 0)
 | [], [] => by simp [Op.bytesLess, compareBytes]
 | [], b :: ys => by simp [Op.bytesLess, compareBytes]
 | a :: xs, [] => by simp [Op.bytesLess, compareBytes]
 | a :: xs, b :: ys => by
  rw [cB_cons]
  simp only [Op.bytesLess]
  rw [less_cmp xs ys]
  by_cases h1 : a.toNat < b.toNat
  ·have : a < b := h1
   rw [if_pos h1]
   simp [this]
  ·have h1' : ¬ a < b := h1
   by_cases h2 : b.toNat < a.toNat
   ·have : a ≠ b := fun e => by subst e; omega
    rw [if_neg h1, if_pos h2]
    simp [h1', this]
   ·have : a = b := by apply UInt8.toNat_inj.1; omega
    rw [if_neg h1, if_neg h2]
    simp [h1', this]
end Go.Proofs.Ytbaecdcfefmcgaa.HKeyV
set_option linter.unusedSimpArgs false
set_option linter.unusedVariables false
namespace Go.Proofs.Ytbaecdcfefmcgaa.HChain
open Go.RowKit Go.Proofs.Ytbaecdcfefmcgaa.PTbe Go.Proofs.Ytbaecdcfefmcgaa.HNum Go.Proofs.YtbaecdcfefmcgaaW.PrintWords Go.Proofs.YtbaecdcfefmcgaaW.PrintLast
abbrev V := S72
abbrev Ch := S99
theorem rd_at (l : List V) (j : Nat) (h : j < l.length) : rd_T72 l (j : Int) = l[j] := by simp [rd_T72, h]
theorem rdc_at (l : List Ch) (j : Nat) (h : j < l.length) : rd_T99 l (j : Int) = l[j] := by simp [rd_T99, h]
def keyOK (s : ByteArray) : Bool := decide (1 ≤ s.size ∧ s.size ≤ 12)
def vOK (v : V) : Bool := decide (1 ≤ v.f0) && (decide (v.f0 ≤ 1073741824) && (decide (v.f1.size ≤ 20) && (!v.f2 || (v.f1.toList == []))))
theorem toList_nil (s : ByteArray) : s.toList = ([] : List UInt8) ↔ s.size = 0 := by
 rw [ByteArray.toList_eq]
 have : s.data.toList.length = s.size := Array.length_toList
 constructor
 ·intro h
  rw [h] at this
  simpa using this.symm
 ·intro h
  exact List.eq_nil_of_length_eq_zero (by omega)
theorem key_Is_eq (s : ByteArray) : key_Is.f s = some (keyOK s) := by
 unfold key_Is.f keyOK
 by_cases h : s.toList = ([] : List UInt8)
 ·have := (toList_nil s).1 h
  rw [if_pos h]; simp [this]
 ·have := mt (toList_nil s).2 h
  rw [if_neg h]
  congr 1
  rw [decide_eq_decide]
  omega
theorem key_Fits_eq (s : ByteArray) : key_Fits.f s = some (decide (s.size ≤ 20)) := by
 unfold key_Fits.f
 congr 1
 rw [decide_eq_decide]
 omega
theorem version_eq (v : V) : chain_version.f v.f0 v.f1 v.f2 = some (vOK v) := by
 unfold chain_version.f vOK
 rw [key_Fits_eq]
 simp only [Option.bind_some, ge_iff_le]
 by_cases h1 : 1 ≤ v.f0 <;> by_cases h2 : v.f0 ≤ 1073741824 <;> by_cases h3 : v.f1.size ≤ 20 <;> by_cases h4 : v.f2 = true <;> simp [h1, h2, h3, h4]
def OKfrom (l : List V) (j : Nat) : Prop := ∀ i (h : i < l.length), j ≤ i → vOK l[i] = true ∧ (0 < i → ∀ h2 : i - 1 < l.length, l[i].f0 < l[i - 1].f0)
def May (key : ByteArray) (l : List V) : Prop := OKfrom l 0 ∧ keyOK key = true ∧ 0 < l.length
theorem OKfrom.step {l : List V} {j : Nat} (hj : j < l.length) : OKfrom l j ↔ (vOK l[j] = true ∧ (0 < j → ∀ h2 : j - 1 < l.length, l[j].f0 < l[j - 1].f0)) ∧ OKfrom l (j + 1) := by
 constructor
 ·intro h
  exact ⟨h j hj (Nat.le_refl _), fun i hi hji => h i hi (by omega)⟩
 ·rintro ⟨h1, h2⟩ i hi hji
  rcases Nat.eq_or_lt_of_le hji with rfl | h3
  ·exact h1
  ·exact h2 i hi h3
theorem OKfrom.last {l : List V} {j : Nat} (hj : l.length ≤ j) : OKfrom l j := fun i hi hji => by omega
open Classical in
theorem May_from (key : ByteArray) (l : List V) (hl : l.length ≤ 4611686018427387904) (d : Nat) : ∀ j, j + d = l.length →
  Ev (fun k => chain_May.l0 k l (l.length : Int) (j : Int) key l) (decide (OKfrom l j ∧ keyOK key = true ∧ 0 < l.length)) := by
 induction d with
 | zero =>
  intro j hj
  refine Ev.step (fun k => by simp only [chain_May.l0]; rfl) ?_
  refine Ev.if_neg (by omega) (Ev.bind0 (key_Is_eq key) (Ev.const ?_))
  have h1 := OKfrom.last (l := l) (j := j) (by omega)
  by_cases hk : keyOK key = true
  ·simp only [hk, if_true, Option.some.injEq]
   rw [decide_eq_decide]
   simp only [h1, hk, true_and]
   omega
  ·simp [hk]
 | succ d ih =>
  intro j hj
  have hlt : j < l.length := by omega
  refine Ev.step (fun k => by simp only [chain_May.l0]; rfl) ?_
  refine Ev.if_pos (by omega) (Ev.if_pos (by omega) (Ev.if_pos (by omega) ?_))
  rw [rd_at l j hlt]
  refine Ev.bind0 (version_eq _) ?_
  have hs := OKfrom.step hlt
  have stop : Ev (fun k => chain_May.j1 k l (l.length : Int) (j : Int) true key l) false := Ev.step (fun k => by simp only [chain_May.j1]; rfl) (Ev.if_pos (by first | rfl | trivial) (Ev.now _))
  have go : Ev (fun k => chain_May.j1 k l (l.length : Int) (j : Int) false key l) (decide (OKfrom l (j + 1) ∧ keyOK key = true ∧ 0 < l.length)) := by
   refine Ev.step (fun k => by simp only [chain_May.j1]; rfl) (Ev.if_neg (by simp) ?_)
   rw [wrap_succ j (by omega)]
   exact ih (j + 1) (by omega)
  refine Ev.iff (fun hv => Ev.iff (fun h0 => ?_) (fun h0 => ?_)) (fun hv => ?_)
  ·have h0' : 0 < j := by omega
   have hlt1 : j - 1 < l.length := by omega
   rw [wrap_pred j h0' (by omega), rd_at l (j - 1) hlt1]
   refine Ev.if_pos (by omega) (Ev.if_pos (by omega) ?_)
   by_cases hc : l[j].f0 ≥ l[j - 1].f0
   ·rw [decide_eq_true hc]
    have e : decide (OKfrom l j ∧ keyOK key = true ∧ 0 < l.length) = false := by
     rw [decide_eq_false_iff_not]
     rintro ⟨h, _⟩
     have := (hs.1 h).1.2 h0' hlt1
     omega
    rw [e]
    exact stop
   ·rw [decide_eq_false hc]
    have e : (OKfrom l j ∧ keyOK key = true ∧ 0 < l.length) ↔ (OKfrom l (j + 1) ∧ keyOK key = true ∧ 0 < l.length) := by
     rw [hs]
     have : vOK l[j] = true ∧ (0 < j → ∀ h2 : j - 1 < l.length, l[j].f0 < l[j - 1].f0) := ⟨hv, fun _ _ => by omega⟩
     exact ⟨fun h => ⟨h.1.2, h.2⟩, fun h => ⟨⟨this, h.1⟩, h.2⟩⟩
    rw [decide_eq_decide.2 e]
    exact go
  ·have e : (OKfrom l j ∧ keyOK key = true ∧ 0 < l.length) ↔ (OKfrom l (j + 1) ∧ keyOK key = true ∧ 0 < l.length) := by
    rw [hs]
    have : vOK l[j] = true ∧ (0 < j → ∀ h2 : j - 1 < l.length, l[j].f0 < l[j - 1].f0) := ⟨hv, fun h _ => by omega⟩
    exact ⟨fun h => ⟨h.1.2, h.2⟩, fun h => ⟨⟨this, h.1⟩, h.2⟩⟩
   rw [decide_eq_decide.2 e]
   exact go
  ·have e : decide (OKfrom l j ∧ keyOK key = true ∧ 0 < l.length) = false := by
    rw [decide_eq_false_iff_not]
    rintro ⟨h, _⟩
    exact hv (hs.1 h).1.1
   rw [e]
   exact stop
open Classical in
theorem May_ev (key : ByteArray) (l : List V) (hl : l.length ≤ 4611686018427387904) : Ev (fun k => chain_May.f k key l) (decide (May key l)) := by
 have h := May_from key l hl l.length 0 (by omega)
 have e : decide (May key l) = decide (OKfrom l 0 ∧ keyOK key = true ∧ 0 < l.length) := by rw [decide_eq_decide]; exact Iff.rfl
 rw [e]
 exact h
def place (l : List V) (n : Int) : Nat := l.findIdx (fun v => decide (v.f0 ≤ n))
def look (l : List V) (n : Int) : Option V := if h : place l n < l.length then (if (l[place l n]).f2 = true then none else some l[place l n]) else none
theorem place_le (l : List V) (n : Int) : place l n ≤ l.length := List.findIdx_le_length
theorem Look_ev (key : ByteArray) (l : List V) (n : Int) : Ev (fun k => chain_Look.f k key l n) (match look l n with | some v => (v.f0, v.f1, v.f2, true) | none => (0, ⟨#[]⟩, false, false)) := by
 unfold chain_Look.f chain_place.f
 refine Ev.bind0 rfl ?_
 change Ev (fun k => if ((place l n : Nat) : Int) = (l.length : Int) then _ else (if 0 ≤ ((place l n : Nat) : Int) then (if ((place l n : Nat) : Int) < (l.length : Int) then chain_Look.j0 k ((place l n : Nat) : Int) (rd_T72 l ((place l n : Nat) : Int)).f2 key l else _) else _)) _
 have hle := place_le l n
 unfold look
 by_cases h : place l n < l.length
 ·rw [dif_pos h]
  refine Ev.if_neg (by omega) (Ev.if_pos (by omega) (Ev.if_pos (by omega) ?_))
  rw [rd_at l _ h]
  cases hg : (l[place l n]).f2 with
  | true => exact Ev.step (fun k => by simp only [chain_Look.j0]; rfl) (Ev.if_pos (by first | rfl | trivial) (Ev.now _))
  | false =>
   refine Ev.step (fun k => by simp only [chain_Look.j0]; rfl) (Ev.if_neg (by simp) (Ev.if_pos (by omega) (Ev.if_pos (by omega) ?_)))
   rw [rd_at l _ h]
   rw [if_neg (by simp)]
   show Ev _ ((l[place l n]).f0, (l[place l n]).f1, (l[place l n]).f2, true)
   rw [hg]
   exact Ev.now _
 ·rw [dif_neg h]
  exact Ev.if_pos (by omega) (Ev.step (fun k => by simp only [chain_Look.j0]; rfl) (Ev.if_pos (by first | rfl | trivial) (Ev.now _)))
theorem place_spec (l : List V) (n : Int) (p : Nat) (hp : p ≤ l.length) (h1 : ∀ j (h : j < l.length), j < p → n < (l[j]).f0) (h2 : ∀ h : p < l.length, (l[p]).f0 ≤ n) : place l n = p := by
 unfold place
 rcases Nat.lt_or_ge p l.length with h | h
 ·refine (List.findIdx_eq h).2 ⟨by simpa using h2 h, fun j hj => ?_⟩
  have := h1 j (by omega) hj
  simp only [decide_eq_false_iff_not]
  omega
 ·have : p = l.length := by omega
  subst this
  refine List.findIdx_eq_length.2 (fun x hx => ?_)
  obtain ⟨j, hj, rfl⟩ := List.mem_iff_getElem.1 hx
  have := h1 j hj hj
  simp only [decide_eq_false_iff_not]
  omega
end Go.Proofs.Ytbaecdcfefmcgaa.HChain
set_option linter.unusedSimpArgs false
set_option linter.unusedVariables false
namespace Go.Proofs.Ytbaecdcfefmcgaa.HChain
open Go.RowKit Go.Proofs.Ytbaecdcfefmcgaa.PTbe Go.Proofs.Ytbaecdcfefmcgaa.HNum Go.Proofs.YtbaecdcfefmcgaaW.PrintWords Go.Proofs.YtbaecdcfefmcgaaW.PrintLast
theorem ref_Key_eq (s : ByteArray) : quorumref1_Key.f s = some (keyOK s) := by
 unfold quorumref1_Key.f quorumref0_Between.f keyOK
 by_cases h : (s.size : Int) ≥ 1
 ·rw [if_pos h]
  simp only [Option.bind_some, Option.some.injEq, decide_eq_decide]
  omega
 ·rw [if_neg h]
  simp only [Option.bind_some, Option.some.injEq]
  symm
  simp only [decide_eq_false_iff_not]
  omega
theorem ref_Version_eq (v : V) : quorumref8_Version.f v.f0 v.f1 v.f2 = some (vOK v) := by
 unfold quorumref8_Version.f quorumref0_Between.f quorumref1_Value.f vOK
 simp only [ge_iff_le]
 have e : ((v.f1.size : Int) ≤ 20) ↔ v.f1.size ≤ 20 := by omega
 by_cases h1 : 1 ≤ v.f0 <;> by_cases h2 : v.f0 ≤ 1073741824 <;> by_cases h3 : v.f1.size ≤ 20 <;> by_cases h4 : v.f2 = true <;> simp [h1, h2, h3, h4, e]
open Classical in
theorem ref_from (key : ByteArray) (l : List V) (hl : l.length ≤ 4611686018427387904) (d : Nat) : ∀ j, j + d = l.length →
  Ev (fun k => quorumref8_Chain.l0 k (j : Int) key l) (decide (OKfrom l j ∧ keyOK key = true ∧ 0 < l.length)) := by
 induction d with
 | zero =>
  intro j hj
  refine Ev.step (fun k => by simp only [quorumref8_Chain.l0]; rfl) ?_
  refine Ev.if_neg (by omega) (Ev.bind0 (ref_Key_eq key) (Ev.const ?_))
  have h1 := OKfrom.last (l := l) (j := j) (by omega)
  by_cases hk : keyOK key = true
  ·simp only [hk, if_true, Option.some.injEq]
   rw [decide_eq_decide]
   simp only [h1, hk, true_and]
   omega
  ·simp [hk]
 | succ d ih =>
  intro j hj
  have hlt : j < l.length := by omega
  refine Ev.step (fun k => by simp only [quorumref8_Chain.l0]; rfl) ?_
  refine Ev.if_pos (by omega) (Ev.if_pos (by omega) ?_)
  rw [rd_at l j hlt]
  refine Ev.bind0 (ref_Version_eq _) ?_
  have hs := OKfrom.step hlt
  have stop : Ev (fun k => quorumref8_Chain.j1 k (j : Int) true key l) false := Ev.step (fun k => by simp only [quorumref8_Chain.j1]; rfl) (Ev.if_pos (by first | rfl | trivial) (Ev.now _))
  have go : Ev (fun k => quorumref8_Chain.j1 k (j : Int) false key l) (decide (OKfrom l (j + 1) ∧ keyOK key = true ∧ 0 < l.length)) := by
   refine Ev.step (fun k => by simp only [quorumref8_Chain.j1]; rfl) (Ev.if_neg (by simp) ?_)
   rw [wrap_succ j (by omega)]
   exact ih (j + 1) (by omega)
  refine Ev.iff (fun hv => Ev.iff (fun h0 => ?_) (fun h0 => ?_)) (fun hv => ?_)
  ·have h0' : 0 < j := by omega
   have hlt1 : j - 1 < l.length := by omega
   rw [wrap_pred j h0' (by omega), rd_at l (j - 1) hlt1]
   refine Ev.if_pos (by omega) (Ev.if_pos (by omega) ?_)
   by_cases hc : l[j - 1].f0 ≤ l[j].f0
   ·rw [decide_eq_true hc]
    have e : decide (OKfrom l j ∧ keyOK key = true ∧ 0 < l.length) = false := by
     rw [decide_eq_false_iff_not]
     rintro ⟨h, _⟩
     have := (hs.1 h).1.2 h0' hlt1
     omega
    rw [e]
    exact stop
   ·rw [decide_eq_false hc]
    have e : (OKfrom l j ∧ keyOK key = true ∧ 0 < l.length) ↔ (OKfrom l (j + 1) ∧ keyOK key = true ∧ 0 < l.length) := by
     rw [hs]
     have : vOK l[j] = true ∧ (0 < j → ∀ h2 : j - 1 < l.length, l[j].f0 < l[j - 1].f0) := ⟨hv, fun _ _ => by omega⟩
     exact ⟨fun h => ⟨h.1.2, h.2⟩, fun h => ⟨⟨this, h.1⟩, h.2⟩⟩
    rw [decide_eq_decide.2 e]
    exact go
  ·have e : (OKfrom l j ∧ keyOK key = true ∧ 0 < l.length) ↔ (OKfrom l (j + 1) ∧ keyOK key = true ∧ 0 < l.length) := by
    rw [hs]
    have : vOK l[j] = true ∧ (0 < j → ∀ h2 : j - 1 < l.length, l[j].f0 < l[j - 1].f0) := ⟨hv, fun h _ => by omega⟩
    exact ⟨fun h => ⟨h.1.2, h.2⟩, fun h => ⟨⟨this, h.1⟩, h.2⟩⟩
   rw [decide_eq_decide.2 e]
   exact go
  ·have e : decide (OKfrom l j ∧ keyOK key = true ∧ 0 < l.length) = false := by
    rw [decide_eq_false_iff_not]
    rintro ⟨h, _⟩
    exact hv (hs.1 h).1.1
   rw [e]
   exact stop
open Classical in
theorem ref_ev (key : ByteArray) (l : List V) (hl : l.length ≤ 4611686018427387904) : Ev (fun k => quorumref8_Chain.f k key l) (decide (May key l)) := by
 have h := ref_from key l hl l.length 0 (by omega)
 have e : decide (May key l) = decide (OKfrom l 0 ∧ keyOK key = true ∧ 0 < l.length) := by rw [decide_eq_decide]; exact Iff.rfl
 rw [e]
 exact h
end Go.Proofs.Ytbaecdcfefmcgaa.HChain
set_option linter.unusedSimpArgs false
set_option linter.unusedVariables false
set_option linter.unusedSectionVars false
namespace Go.Proofs.Ytbaecdcfefmcgaa.HTable
open Go.RowKit Go.Proofs.Ytbaecdcfefmcgaa.PTbe Go.Proofs.Ytbaecdcfefmcgaa.HNum Go.Proofs.Ytbaecdcfefmcgaa.HChain Go.Proofs.YtbaecdcfefmcgaaW.PrintWords Go.Proofs.YtbaecdcfefmcgaaW.PrintLast
def less (a b : Ch) : Prop := Op.bytesLess a.f0.toList b.f0.toList = true
theorem less_trans_l : ∀ a b c : List UInt8, Op.bytesLess a b = true → Op.bytesLess b c = true → Op.bytesLess a c = true := by
 intro a
 induction a with
 | nil =>
  intro b c h1 h2
  cases c with
  | nil => cases b <;> simp [Op.bytesLess] at h2
  | cons y c => rfl
 | cons x a ih =>
  intro b c h1 h2
  cases b with
  | nil => simp [Op.bytesLess] at h1
  | cons y b =>
   cases c with
   | nil => simp [Op.bytesLess] at h2
   | cons z c =>
    simp only [Op.bytesLess, Bool.or_eq_true, Bool.and_eq_true, decide_eq_true_eq, beq_iff_eq] at h1 h2 ⊢
    rcases h1 with h1 | ⟨rfl, h1⟩ <;> rcases h2 with h2 | ⟨rfl, h2⟩
    ·exact .inl (UInt8.lt_trans h1 h2)
    ·exact .inl h1
    ·exact .inl h2
    ·exact .inr ⟨rfl, ih b c h1 h2⟩
theorem less_trans {a b c : Ch} (h1 : less a b) (h2 : less b c) : less a c := less_trans_l _ _ _ h1 h2
def sums (l : List Ch) : Nat := (l.map (fun c => c.f1.length)).sum
theorem sums_cons (c : Ch) (l : List Ch) : sums (c :: l) = c.f1.length + sums l := by simp [sums]
def TabFrom (l : List Ch) (j : Nat) : Prop := ∀ i (h : i < l.length), j ≤ i → May (l[i]).f0 (l[i]).f1 ∧ (0 < i → ∀ h2 : i - 1 < l.length, less l[i - 1] l[i])
theorem TabFrom.step {l : List Ch} {j : Nat} (hj : j < l.length) : TabFrom l j ↔ (May (l[j]).f0 (l[j]).f1 ∧ (0 < j → ∀ h2 : j - 1 < l.length, less l[j - 1] l[j])) ∧ TabFrom l (j + 1) := by
 constructor
 ·exact fun h => ⟨h j hj (Nat.le_refl _), fun i hi hji => h i hi (by omega)⟩
 ·rintro ⟨h1, h2⟩ i hi hji
  rcases Nat.eq_or_lt_of_le hji with rfl | h
  ·exact h1
  ·exact h2 i hi (by omega)
theorem TabFrom.last {l : List Ch} {j : Nat} (hj : l.length ≤ j) : TabFrom l j := fun i hi hji => by omega
structure TabOK (l : List Ch) : Prop where
 each : ∀ c ∈ l, May c.f0 c.f1
 asc : l.Pairwise less
 few : sums l ≤ 64
theorem asc_far {l : List Ch} (h : TabFrom l 0) (i : Nat) (d : Nat) : ∀ (h2 : i + d + 1 < l.length), less (l[i]'(by omega)) l[i + d + 1] := by
 induction d with
 | zero =>
  intro h2
  exact (h (i + 0 + 1) h2 (by omega)).2 (by omega) (by omega)
 | succ d ih =>
  intro h2
  exact less_trans (ih (by omega)) ((h (i + (d + 1) + 1) h2 (by omega)).2 (by omega) (by omega))
theorem tab_iff (l : List Ch) : TabFrom l 0 ∧ sums l ≤ 64 ↔ TabOK l := by
 constructor
 ·rintro ⟨h, hs⟩
  refine ⟨fun c hc => ?_, List.pairwise_iff_getElem.2 (fun i j hi hj hij => ?_), hs⟩
  ·obtain ⟨i, hi, rfl⟩ := List.mem_iff_getElem.1 hc
   exact (h i hi (by omega)).1
  ·have := asc_far h i (j - i - 1) (by omega)
   have e : i + (j - i - 1) + 1 = j := by omega
   simpa only [e] using this
 ·rintro ⟨h1, h2, h3⟩
  exact ⟨fun i hi _ => ⟨h1 _ (List.getElem_mem hi), fun h0 h4 => (List.pairwise_iff_getElem.1 h2) (i - 1) i h4 hi (by omega)⟩, h3⟩
section
variable (l : List Ch) (hl : l.length ≤ 1000000) (hv : ∀ c ∈ l, c.f1.length ≤ 1000000)
include hl hv
theorem Rooms_from (d : Nat) : ∀ j n : Nat, j + d = l.length → n ≤ j * 1000000 → Ev (fun k => table_Rooms.l0 k (n : Int) l (l.length : Int) (j : Int)) ((n + sums (l.drop j) : Nat) : Int) := by
 induction d with
 | zero =>
  intro j n hj hn
  rw [List.drop_eq_nil_of_le (by omega)]
  exact Ev.step (fun k => by simp only [table_Rooms.l0]; rfl) (Ev.if_neg (by omega) (Ev.now _))
 | succ d ih =>
  intro j n hj hn
  have hlt : j < l.length := by omega
  have h2 := hv l[j] (List.getElem_mem hlt)
  refine Ev.step (fun k => by simp only [table_Rooms.l0]; rfl) (Ev.if_pos (by omega) (Ev.if_pos (by omega) (Ev.if_pos (by omega) ?_)))
  rw [rdc_at l j hlt, wrap_succ j (by omega), show wrap64 ((n : Int) + ((l[j]).f1.length : Int)) = ((n + (l[j]).f1.length : Nat) : Int) by unfold wrap64; omega, List.drop_eq_getElem_cons hlt, sums_cons, ← Nat.add_assoc]
  exact ih (j + 1) _ (by omega) (by omega)
theorem Count_from (d : Nat) : ∀ j n : Nat, j + d = l.length → n ≤ j * 1000000 → Ev (fun k => quorumref8_Count.l0 k (n : Int) (j : Int) l) ((n + sums (l.drop j) : Nat) : Int) := by
 induction d with
 | zero =>
  intro j n hj hn
  rw [List.drop_eq_nil_of_le (by omega)]
  exact Ev.step (fun k => by simp only [quorumref8_Count.l0]; rfl) (Ev.if_neg (by omega) (Ev.now _))
 | succ d ih =>
  intro j n hj hn
  have hlt : j < l.length := by omega
  have h2 := hv l[j] (List.getElem_mem hlt)
  refine Ev.step (fun k => by simp only [quorumref8_Count.l0]; rfl) (Ev.if_pos (by omega) (Ev.if_pos (by omega) ?_))
  rw [rdc_at l j hlt, wrap_succ j (by omega), show wrap64 ((n : Int) + ((l[j]).f1.length : Int)) = ((n + (l[j]).f1.length : Nat) : Int) by unfold wrap64; omega, List.drop_eq_getElem_cons hlt, sums_cons, ← Nat.add_assoc]
  exact ih (j + 1) _ (by omega) (by omega)
theorem Rooms_ev : Ev (fun k => table_Rooms.f k l) ((sums l : Nat) : Int) := by
 have h := Rooms_from l hl hv l.length 0 0 (by omega) (by omega)
 rw [List.drop_zero, Nat.zero_add] at h
 exact h
theorem Count_ev : Ev (fun k => quorumref8_Count.f k l) ((sums l : Nat) : Int) := by
 have h := Count_from l hl hv l.length 0 0 (by omega) (by omega)
 rw [List.drop_zero, Nat.zero_add] at h
 exact h
open Classical in
theorem tabMay_from (d : Nat) : ∀ j, j + d = l.length → Ev (fun k => table_May.l0 k l (l.length : Int) (j : Int) l) (decide (TabFrom l j ∧ sums l ≤ 64)) := by
 induction d with
 | zero =>
  intro j hj
  refine Ev.step (fun k => by simp only [table_May.l0]; rfl) (Ev.if_neg (by omega) (Ev.bind (Rooms_ev l hl hv) ?_))
  have h1 := TabFrom.last (l := l) (j := j) (by omega)
  rw [show decide (TabFrom l j ∧ sums l ≤ 64) = decide (((sums l : Nat) : Int) ≤ 64) by rw [decide_eq_decide]; simp only [h1, true_and]; omega]
  exact Ev.now _
 | succ d ih =>
  intro j hj
  have hlt : j < l.length := by omega
  have hb := hv l[j] (List.getElem_mem hlt)
  have hs := TabFrom.step hlt
  refine Ev.step (fun k => by simp only [table_May.l0]; rfl) (Ev.if_pos (by omega) (Ev.if_pos (by omega) (Ev.if_pos (by omega) ?_)))
  rw [rdc_at l j hlt]
  refine Ev.bind (May_ev (l[j]).f0 (l[j]).f1 (by omega)) ?_
  have stop : Ev (fun k => table_May.j1 k l (l.length : Int) (j : Int) true l) false := Ev.step (fun k => by simp only [table_May.j1]; rfl) (Ev.if_pos (by first | rfl | trivial) (Ev.now _))
  have go : Ev (fun k => table_May.j1 k l (l.length : Int) (j : Int) false l) (decide (TabFrom l (j + 1) ∧ sums l ≤ 64)) := by
   refine Ev.step (fun k => by simp only [table_May.j1]; rfl) (Ev.if_neg (by simp) ?_)
   rw [wrap_succ j (by omega)]
   exact ih (j + 1) (by omega)
  by_cases hm : May (l[j]).f0 (l[j]).f1
  ·refine Ev.if_pos (by simpa using hm) ?_
   by_cases h0 : 0 < j
   ·refine Ev.if_pos (by omega) ?_
    rw [wrap_pred j h0 (by omega), rdc_at l (j - 1) (by omega)]
    refine Ev.if_pos (by omega) (Ev.if_pos (by omega) ?_)
    by_cases hc : less l[j - 1] l[j]
    ·have hc' : Op.bytesLess (l[j - 1]).f0.toList (l[j]).f0.toList = true := hc
     rw [hc']
     have e : decide (TabFrom l j ∧ sums l ≤ 64) = decide (TabFrom l (j + 1) ∧ sums l ≤ 64) := by
      rw [decide_eq_decide, hs]
      exact ⟨fun h => ⟨h.1.2, h.2⟩, fun h => ⟨⟨⟨hm, fun _ _ => hc⟩, h.1⟩, h.2⟩⟩
     rw [e]
     exact go
    ·have hc' : Op.bytesLess (l[j - 1]).f0.toList (l[j]).f0.toList = false := Bool.eq_false_iff.2 hc
     rw [hc', decide_eq_false (fun h => hc ((hs.1 h.1).1.2 h0 (by omega)))]
     exact stop
   ·refine Ev.if_neg (by omega) ?_
    have e : decide (TabFrom l j ∧ sums l ≤ 64) = decide (TabFrom l (j + 1) ∧ sums l ≤ 64) := by
     rw [decide_eq_decide, hs]
     exact ⟨fun h => ⟨h.1.2, h.2⟩, fun h => ⟨⟨⟨hm, fun h1 => absurd h1 h0⟩, h.1⟩, h.2⟩⟩
    rw [e]
    exact go
  ·refine Ev.if_neg (by simpa using hm) ?_
   rw [decide_eq_false (fun h => hm (hs.1 h.1).1.1)]
   exact stop
open Classical in
theorem refTab_from (d : Nat) : ∀ j, j + d = l.length → Ev (fun k => quorumref8_Table.l0 k (j : Int) l) (decide (TabFrom l j ∧ sums l ≤ 64)) := by
 induction d with
 | zero =>
  intro j hj
  refine Ev.step (fun k => by simp only [quorumref8_Table.l0]; rfl) (Ev.if_neg (by omega) (Ev.bind (Count_ev l hl hv) ?_))
  have h1 := TabFrom.last (l := l) (j := j) (by omega)
  rw [show decide (TabFrom l j ∧ sums l ≤ 64) = decide (((sums l : Nat) : Int) ≤ 64) by rw [decide_eq_decide]; simp only [h1, true_and]; omega]
  exact Ev.now _
 | succ d ih =>
  intro j hj
  have hlt : j < l.length := by omega
  have hb := hv l[j] (List.getElem_mem hlt)
  have hs := TabFrom.step hlt
  refine Ev.step (fun k => by simp only [quorumref8_Table.l0]; rfl) (Ev.if_pos (by omega) (Ev.if_pos (by omega) ?_))
  rw [rdc_at l j hlt]
  refine Ev.bind (ref_ev (l[j]).f0 (l[j]).f1 (by omega)) ?_
  have stop : Ev (fun k => quorumref8_Table.j1 k (j : Int) true l) false := Ev.step (fun k => by simp only [quorumref8_Table.j1]; rfl) (Ev.if_pos (by first | rfl | trivial) (Ev.now _))
  have go : Ev (fun k => quorumref8_Table.j1 k (j : Int) false l) (decide (TabFrom l (j + 1) ∧ sums l ≤ 64)) := by
   refine Ev.step (fun k => by simp only [quorumref8_Table.j1]; rfl) (Ev.if_neg (by simp) ?_)
   rw [wrap_succ j (by omega)]
   exact ih (j + 1) (by omega)
  by_cases hm : May (l[j]).f0 (l[j]).f1
  ·refine Ev.if_pos (by simpa using hm) ?_
   by_cases h0 : 0 < j
   ·refine Ev.if_pos (by omega) ?_
    rw [wrap_pred j h0 (by omega), rdc_at l (j - 1) (by omega)]
    refine Ev.if_pos (by omega) (Ev.if_pos (by omega) ?_)
    by_cases hc : less l[j - 1] l[j]
    ·have hc' : Op.bytesLess (l[j - 1]).f0.toList (l[j]).f0.toList = true := hc
     rw [hc']
     have e : decide (TabFrom l j ∧ sums l ≤ 64) = decide (TabFrom l (j + 1) ∧ sums l ≤ 64) := by
      rw [decide_eq_decide, hs]
      exact ⟨fun h => ⟨h.1.2, h.2⟩, fun h => ⟨⟨⟨hm, fun _ _ => hc⟩, h.1⟩, h.2⟩⟩
     rw [e]
     exact go
    ·have hc' : Op.bytesLess (l[j - 1]).f0.toList (l[j]).f0.toList = false := Bool.eq_false_iff.2 hc
     rw [hc', decide_eq_false (fun h => hc ((hs.1 h.1).1.2 h0 (by omega)))]
     exact stop
   ·refine Ev.if_neg (by omega) ?_
    have e : decide (TabFrom l j ∧ sums l ≤ 64) = decide (TabFrom l (j + 1) ∧ sums l ≤ 64) := by
     rw [decide_eq_decide, hs]
     exact ⟨fun h => ⟨h.1.2, h.2⟩, fun h => ⟨⟨⟨hm, fun h1 => absurd h1 h0⟩, h.1⟩, h.2⟩⟩
    rw [e]
    exact go
  ·refine Ev.if_neg (by simpa using hm) ?_
   rw [decide_eq_false (fun h => hm (hs.1 h.1).1.1)]
   exact stop
open Classical in
theorem tabMay_ev : Ev (fun k => table_May.f k l) (decide (TabOK l)) := by
 rw [show decide (TabOK l) = decide (TabFrom l 0 ∧ sums l ≤ 64) by rw [decide_eq_decide, tab_iff]]
 exact tabMay_from l hl hv l.length 0 (by omega)
open Classical in
theorem refTab_ev : Ev (fun k => quorumref8_Table.f k l) (decide (TabOK l)) := by
 rw [show decide (TabOK l) = decide (TabFrom l 0 ∧ sums l ≤ 64) by rw [decide_eq_decide, tab_iff]]
 exact refTab_from l hl hv l.length 0 (by omega)
end
end Go.Proofs.Ytbaecdcfefmcgaa.HTable
set_option linter.unusedSimpArgs false
set_option linter.unusedVariables false
set_option linter.unusedSectionVars false
namespace Go.Proofs.Ytbaecdcfefmcgaa.HTable
open Go.RowKit Go.Proofs.Ytbaecdcfefmcgaa.PTbe Go.Proofs.Ytbaecdcfefmcgaa.HNum Go.Proofs.Ytbaecdcfefmcgaa.HChain Go.Proofs.Ytbaecdcfefmcgaa.HKeyV Go.Proofs.YtbaecdcfefmcgaaW.PrintWords Go.Proofs.YtbaecdcfefmcgaaW.PrintLast
theorem rdt_at (l : List Ch) (j : Nat) (h : j < l.length) : rd_T99 l (j : Int) = l[j] := by simp [rd_T99, h]
structure Parts (l : List Ch) (k : ByteArray) (p : Nat) : Prop where
 le : p ≤ l.length
 low : ∀ m (h : m < l.length), m < p → Op.bytesLess (l[m]).f0.toList k.toList = true
 high : ∀ m (h : m < l.length), p ≤ m → Op.bytesLess (l[m]).f0.toList k.toList = false
theorem Parts.one {l : List Ch} {k : ByteArray} {p q : Nat} (hp : Parts l k p) (hq : Parts l k q) : p = q := by
 rcases Nat.lt_trichotomy p q with h | h | h
 ·have h1 := hp.high p (by have := hq.le; omega) (Nat.le_refl _)
  rw [hq.low p (by have := hq.le; omega) h] at h1
  cases h1
 ·exact h
 ·have h1 := hq.high q (by have := hp.le; omega) (Nat.le_refl _)
  rw [hp.low q (by have := hp.le; omega) h] at h1
  cases h1
theorem cmp_less (a k : ByteArray) : api_Chain_string.cmp a k < 0 ↔ Op.bytesLess a.toList k.toList = true := by
 unfold api_Chain_string.cmp
 rw [ByteArray.toList_eq, ByteArray.toList_eq, less_cmp, decide_eq_true_eq]
theorem cmp_same (a k : ByteArray) : (api_Chain_string.cmp a k == 0) = (a.toList == k.toList) := by
 unfold api_Chain_string.cmp
 rw [ByteArray.toList_eq, ByteArray.toList_eq]
 by_cases h : a.data.toList = k.data.toList
 ·rw [h, cB_refl]; simp
 ·have : Lib.compareBytes a.data.toList k.data.toList ≠ 0 := fun h2 => h (cB_zero _ _ h2)
  rw [beq_eq_false_iff_ne.2 this, beq_eq_false_iff_ne.2 h]
theorem less_le {a b k : List UInt8} (h1 : Op.bytesLess a b = true) (h2 : Op.bytesLess b k = true) : Op.bytesLess a k = true := less_trans_l _ _ _ h1 h2
section
variable (l : List Ch) (k : ByteArray)
theorem bs_parts (hs : l.Pairwise less) : ∀ f i j, i ≤ j → j ≤ l.length → j - i ≤ f → (∀ m (h : m < l.length), m < i → Op.bytesLess (l[m]).f0.toList k.toList = true) → (∀ m (h : m < l.length), j ≤ m → Op.bytesLess (l[m]).f0.toList k.toList = false) →
  Parts l k (api_Chain_string.bs l k f i j) := by
 intro f
 induction f with
 | zero =>
  intro i j hij hj hf hlo hhi
  obtain rfl : i = j := by omega
  exact ⟨hj, hlo, hhi⟩
 | succ f ih =>
  intro i j hij hj hf hlo hhi
  unfold api_Chain_string.bs
  by_cases h : i < j
  ·rw [if_pos h]
   have hm : (i + j) / 2 < l.length := by omega
   rw [rdt_at l _ hm]
   by_cases hc : api_Chain_string.cmp (l[(i + j) / 2]).f0 k < 0
   ·rw [if_pos hc]
    have hc2 := (cmp_less _ _).1 hc
    refine ih ((i + j) / 2 + 1) j (by omega) hj (by omega) (fun m h1 h2 => ?_) hhi
    rcases Nat.lt_or_ge m ((i + j) / 2) with h3 | h3
    ·exact less_le (List.pairwise_iff_getElem.1 hs m ((i + j) / 2) h1 hm h3) hc2
    ·obtain rfl : m = (i + j) / 2 := by omega
     exact hc2
   ·rw [if_neg hc]
    have hc2 : Op.bytesLess (l[(i + j) / 2]).f0.toList k.toList = false := by
     cases hb : Op.bytesLess (l[(i + j) / 2]).f0.toList k.toList with
     | true => exact absurd ((cmp_less _ _).2 hb) hc
     | false => rfl
    refine ih i ((i + j) / 2) (by omega) (by omega) (by omega) hlo (fun m h1 h2 => ?_)
    rcases Nat.eq_or_lt_of_le h2 with h3 | h3
    ·subst h3; exact hc2
    ·cases hb : Op.bytesLess (l[m]).f0.toList k.toList with
     | false => rfl
     | true =>
      have := less_le (List.pairwise_iff_getElem.1 hs ((i + j) / 2) m hm h1 h3) hb
      rw [hc2] at this
      cases this
  ·rw [if_neg h]
   obtain rfl : i = j := by omega
   exact ⟨hj, hlo, hhi⟩
theorem seek_ev (hs : l.Pairwise less) : ∃ p, Parts l k p ∧ table_seek.f l k = some ((p : Int), if h : p < l.length then ((l[p]).f0.toList == k.toList) else false) := by
 refine ⟨_, bs_parts l k hs l.length 0 l.length (Nat.zero_le _) (Nat.le_refl _) (by omega) (fun m h h2 => absurd h2 (by omega)) (fun m h h2 => absurd h2 (by omega)), ?_⟩
 unfold table_seek.f api_Chain_string.f
 generalize api_Chain_string.bs l k l.length 0 l.length = p
 simp only [Option.bind_some, Option.some.injEq, Prod.mk.injEq, true_and]
 by_cases h : p < l.length
 ·rw [dif_pos h, decide_eq_true h, rdt_at l p h, cmp_same, Bool.true_and]
 ·rw [dif_neg h, decide_eq_false h, Bool.false_and]
theorem place_from (hl : l.length ≤ 1000000) (d : Nat) : ∀ i, i + d = l.length → (∀ m (h : m < l.length), m < i → Op.bytesLess (l[m]).f0.toList k.toList = true) → l.Pairwise less →
  ∃ p, Parts l k p ∧ Ev (fun n => quorumref8_place.l0 n k (i : Int) l) ((p : Int), if h : p < l.length then ((l[p]).f0.toList == k.toList) else false) := by
 induction d with
 | zero =>
  intro i hi hlo hs
  obtain rfl : i = l.length := by omega
  refine ⟨l.length, ⟨Nat.le_refl _, hlo, fun m h h2 => absurd h (by omega)⟩, ?_⟩
  rw [dif_neg (by omega)]
  refine Ev.step (fun n => by simp only [quorumref8_place.l0]; rfl) (Ev.if_neg (by omega) ?_)
  refine Ev.step (fun n => by simp only [quorumref8_place.j1]; rfl) (Ev.if_neg (by simp) (Ev.if_neg (by omega) (Ev.now _)))
 | succ d ih =>
  intro i hi hlo hs
  have hlt : i < l.length := by omega
  cases hb : Op.bytesLess (l[i]).f0.toList k.toList with
  | true =>
   obtain ⟨p, hp, he⟩ := ih (i + 1) (by omega) (fun m h h2 => by
    rcases Nat.lt_or_ge m i with h3 | h3
    ·exact hlo m h h3
    ·obtain rfl : m = i := by omega
     exact hb) hs
   refine ⟨p, hp, Ev.step (fun n => by simp only [quorumref8_place.l0]; rfl) ?_⟩
   refine Ev.if_pos (by omega) (Ev.if_pos (by omega) ?_)
   rw [rdt_at l i hlt, hb]
   refine Ev.step (fun n => by simp only [quorumref8_place.j1]; rfl) (Ev.if_pos (by first | rfl | trivial) ?_)
   rw [wrap_succ i (by omega)]
   exact he
  | false =>
   refine ⟨i, ⟨by omega, hlo, fun m h h2 => ?_⟩, Ev.step (fun n => by simp only [quorumref8_place.l0]; rfl) ?_⟩
   ·rcases Nat.eq_or_lt_of_le h2 with h3 | h3
    ·subst h3; exact hb
    ·cases hb2 : Op.bytesLess (l[m]).f0.toList k.toList with
     | false => rfl
     | true =>
      have := less_le (List.pairwise_iff_getElem.1 hs i m hlt h h3) hb2
      rw [hb] at this
      cases this
   ·refine Ev.if_pos (by omega) (Ev.if_pos (by omega) ?_)
    rw [rdt_at l i hlt, hb, dif_pos hlt]
    refine Ev.step (fun n => by simp only [quorumref8_place.j1]; rfl) (Ev.if_neg (by simp) (Ev.if_pos (by omega) (Ev.if_pos (by omega) ?_)))
    rw [rdt_at l i hlt]
    exact Ev.now _
end
theorem newest_from (key : ByteArray) (v : List V) (n : Int) (hv : v.length ≤ 1000000) (d : Nat) : ∀ i, i + d = v.length → (∀ m (h : m < v.length), m < i → n < (v[m]).f0) → Ev (fun q => quorumref8_newest.l0 q n (i : Int) key v) (if place v n < v.length then (place v n : Int) else -1) := by
 induction d with
 | zero =>
  intro i hi hlo
  have hp : place v n = v.length := place_spec v n v.length (Nat.le_refl _) (fun m h _ => hlo m h (by omega)) (fun h => absurd h (by omega))
  rw [if_neg (by omega)]
  exact Ev.step (fun q => by simp only [quorumref8_newest.l0]; rfl) (Ev.if_neg (by omega) (Ev.now _))
 | succ d ih =>
  intro i hi hlo
  have hlt : i < v.length := by omega
  refine Ev.step (fun q => by simp only [quorumref8_newest.l0]; rfl) (Ev.if_pos (by omega) (Ev.if_pos (by omega) ?_))
  rw [HChain.rd_at v i hlt]
  refine Ev.iff (fun h => ?_) (fun h => ?_)
  ·have hp : place v n = i := place_spec v n i (by omega) hlo (fun _ => h)
   rw [hp, if_pos hlt]
   exact Ev.now _
  ·rw [wrap_succ i (by omega)]
   refine ih (i + 1) (by omega) (fun m h2 h3 => ?_)
   rcases Nat.lt_or_ge m i with h4 | h4
   ·exact hlo m h2 h4
   ·obtain rfl : m = i := by omega
    omega
theorem At_ev (key : ByteArray) (v : List V) (n : Int) (hv : v.length ≤ 1000000) : Ev (fun q => quorumref8_At.f q key v n) (match HChain.look v n with | some x => (x.f0, x.f1, x.f2, true) | none => (0, ⟨#[]⟩, false, false)) := by
 unfold quorumref8_At.f
 refine Ev.bind (a := if place v n < v.length then (place v n : Int) else -1) (by unfold quorumref8_newest.f; exact newest_from key v n hv v.length 0 (by omega) (fun m h h2 => absurd h2 (by omega))) ?_
 unfold HChain.look
 by_cases h : place v n < v.length
 ·rw [if_pos h, dif_pos h]
  refine Ev.if_neg (by omega) (Ev.if_pos (by omega) (Ev.if_pos (by omega) ?_))
  rw [HChain.rd_at v _ h]
  refine Ev.step (fun q => by simp only [quorumref8_At.j0]; rfl) ?_
  by_cases hg : (v[place v n]).f2 = true
  ·have e : (if (v[place v n]).f2 = true then (none : Option V) else some v[place v n]) = none := if_pos hg
   rw [e]
   exact Ev.if_pos hg (Ev.now _)
  ·have e : (if (v[place v n]).f2 = true then (none : Option V) else some v[place v n]) = some v[place v n] := if_neg hg
   rw [e]
   refine Ev.if_neg hg (Ev.if_pos (by omega) (Ev.if_pos (by omega) ?_))
   rw [HChain.rd_at v _ h]
   exact Ev.now _
 ·rw [if_neg h, dif_neg h]
  refine Ev.if_pos (by omega) ?_
  exact Ev.step (fun q => by simp only [quorumref8_At.j0]; rfl) (Ev.if_pos (by first | rfl | trivial) (Ev.now _))
theorem look_get (l : List Ch) (k : ByteArray) (n : Int) (hl : l.length ≤ 1000000) (hv : ∀ c ∈ l, c.f1.length ≤ 1000000) (hs : l.Pairwise less) :
  ∃ r : ByteArray × Bool, Ev (fun q => table_Look.f q l k n) r ∧ Ev (fun q => quorumref8_Get.f q l k n) r ∧ (r.2 = false → r.1 = ⟨#[]⟩) := by
 obtain ⟨p, hp, e⟩ := seek_ev l k hs
 obtain ⟨p2, hp2, e2⟩ := place_from l k hl l.length 0 (by omega) (fun m h h2 => absurd h2 (by omega)) hs
 obtain rfl := hp.one hp2
 have e2' : Ev (fun q => quorumref8_place.f q l k) ((p : Int), if h : p < l.length then ((l[p]).f0.toList == k.toList) else false) := by unfold quorumref8_place.f; exact e2
 by_cases h : p < l.length
 ·rw [dif_pos h] at e e2'
  cases hk : ((l[p]).f0.toList == k.toList) with
  | true =>
   rw [hk] at e e2'
   have hc := hv l[p] (List.getElem_mem h)
   refine ⟨((match HChain.look (l[p]).f1 n with | some x => x.f1 | none => ⟨#[]⟩), (HChain.look (l[p]).f1 n).isSome), ?_, ?_, fun hn => ?_⟩
   ·unfold table_Look.f
    refine Ev.bind0 e (Ev.if_pos (by first | rfl | trivial) (Ev.if_pos (by omega) (Ev.if_pos (by omega) ?_)))
    rw [rdt_at l p h]
    refine Ev.bind (Look_ev _ _ n) ?_
    cases HChain.look (l[p]).f1 n <;> exact Ev.now _
   ·unfold quorumref8_Get.f
    refine Ev.bind e2' (Ev.if_pos (by first | rfl | trivial) (Ev.if_pos (by omega) (Ev.if_pos (by omega) ?_)))
    rw [rdt_at l p h]
    refine Ev.bind (At_ev _ _ n hc) ?_
    cases HChain.look (l[p]).f1 n <;> exact Ev.now _
   ·cases hlk : HChain.look (l[p]).f1 n with
    | none => rfl
    | some x => rw [hlk] at hn; simp at hn
  | false =>
   rw [hk] at e e2'
   refine ⟨(⟨#[]⟩, false), ?_, ?_, fun _ => rfl⟩
   ·unfold table_Look.f
    exact Ev.bind0 e (Ev.if_neg (by simp) (Ev.now _))
   ·unfold quorumref8_Get.f
    exact Ev.bind e2' (Ev.if_neg (by simp) (Ev.now _))
 ·rw [dif_neg h] at e e2'
  refine ⟨(⟨#[]⟩, false), ?_, ?_, fun _ => rfl⟩
  ·unfold table_Look.f
   exact Ev.bind0 e (Ev.if_neg (by simp) (Ev.now _))
  ·unfold quorumref8_Get.f
   exact Ev.bind e2' (Ev.if_neg (by simp) (Ev.now _))
end Go.Proofs.Ytbaecdcfefmcgaa.HTable
set_option linter.unusedSimpArgs false
set_option linter.unusedVariables false
set_option linter.unusedSectionVars false
namespace Go.Proofs.Ytbaecdcfefmcgaa.HTable
open Go.RowKit Go.Proofs.Ytbaecdcfefmcgaa.PTbe Go.Proofs.Ytbaecdcfefmcgaa.HNum Go.Proofs.Ytbaecdcfefmcgaa.HChain Go.Proofs.YtbaecdcfefmcgaaW.PrintWords Go.Proofs.YtbaecdcfefmcgaaW.PrintLast
abbrev Act := S76
theorem rda_at (l : List Act) (j : Nat) (h : j < l.length) : rd_T76 l (j : Int) = l[j] := by simp [rd_T76, h]
section
variable (l : List Ch) (hl : l.length ≤ 10000000000000) (hv : ∀ c ∈ l, c.f1.length ≤ 10000000000000 ∧ c.f0.size ≤ 140737488351232 ∧ ∀ v ∈ c.f1, v.f1.size ≤ 140737488351232)
include hl hv
theorem weight_in (j : Nat) (hj : j < l.length) (p : Prop)
  (h : ∀ n : Int, 0 ≤ n → n ≤ 1000000000000000 → ∃ r, Ev (fun k => quorumlaw0_TableWeight.l0 k n ((j + 1 : Nat) : Int) l) r ∧ n ≤ r ∧ r ≤ 1000000000000000 ∧ (r ≤ 700 → p)) (d : Nat) :
  ∀ (i : Nat), i + d = (l[j]).f1.length → ∀ n : Int, 0 ≤ n → n ≤ 1000000000000000 → ∃ r, Ev (fun k => quorumlaw0_TableWeight.l1 k n (j : Int) (i : Int) l) r ∧ n ≤ r ∧ r ≤ 1000000000000000 ∧ (r ≤ 700 → p) := by
 have hb := hv l[j] (List.getElem_mem hj)
 have stop : ∀ (n : Int) (i : Int), 0 ≤ n → n ≤ 1000000000000000 → ∃ r, Ev (fun k => quorumlaw0_TableWeight.j3 k n (j : Int) i false l) r ∧ n ≤ r ∧ r ≤ 1000000000000000 ∧ (r ≤ 700 → p) := fun n i h0 h1 => by
  obtain ⟨r, hr, h2⟩ := h n h0 h1
  refine ⟨r, Ev.step (fun k => by simp only [quorumlaw0_TableWeight.j3]; rfl) (Ev.if_neg (by simp) ?_), h2⟩
  rw [wrap_succ j (by omega)]
  exact hr
 induction d with
 | zero =>
  intro i hi n h0 h1
  obtain ⟨r, hr, h2⟩ := stop n (i : Int) h0 h1
  refine ⟨r, Ev.step (fun k => by simp only [quorumlaw0_TableWeight.l1]; rfl) ?_, h2⟩
  rw [rdc_at l j hj]
  exact Ev.if_pos (by omega) (Ev.if_pos (by omega) (Ev.if_neg (by omega) hr))
 | succ d ih =>
  intro i hi n h0 h1
  have hlt : i < (l[j]).f1.length := by omega
  have hs := hb.2.2 _ (List.getElem_mem hlt)
  by_cases hn : n < 1048576
  ·have e : wrap64 (n + (wrap64 ((((rd_T72 (l[j].f1) (i : Int)).f1).size : Int) / 8))) = n + ((((l[j]).f1[i]).f1.size : Int) / 8) := by
    rw [rd_at _ i hlt]; unfold wrap64; omega
   obtain ⟨r, hr, h2, h3, h4⟩ := ih (i + 1) (by omega) (n + ((((l[j]).f1[i]).f1.size : Int) / 8)) (by omega) (by omega)
   refine ⟨r, Ev.step (fun k => by simp only [quorumlaw0_TableWeight.l1]; rfl) ?_, by omega, h3, h4⟩
   rw [rdc_at l j hj, decide_eq_true hn]
   refine Ev.if_pos (by omega) (Ev.if_pos (by omega) (Ev.if_pos (by omega) ?_))
   refine Ev.step (fun k => by simp only [quorumlaw0_TableWeight.j3]; rfl) (Ev.if_pos (by first | rfl | trivial) ?_)
   rw [rdc_at l j hj, wrap_succ i (by omega), e]
   exact Ev.if_pos (by omega) (Ev.if_pos (by omega) (Ev.if_pos (by omega) (Ev.if_pos (by omega) hr)))
  ·obtain ⟨r, hr, h2⟩ := stop n (i : Int) h0 h1
   refine ⟨r, Ev.step (fun k => by simp only [quorumlaw0_TableWeight.l1]; rfl) ?_, h2⟩
   rw [rdc_at l j hj, decide_eq_false hn]
   exact Ev.if_pos (by omega) (Ev.if_pos (by omega) (Ev.if_pos (by omega) hr))
theorem weight_from (d : Nat) : ∀ (j : Nat), j + d = l.length → ∀ n : Int, 0 ≤ n → n ≤ 1000000000000000 →
  ∃ r, Ev (fun k => quorumlaw0_TableWeight.l0 k n (j : Int) l) r ∧ n ≤ r ∧ r ≤ 1000000000000000 ∧ (r ≤ 700 → ∀ i (h : i < l.length), j ≤ i → (l[i]).f1.length ≤ 700) := by
 induction d with
 | zero =>
  intro j hj n h0 h1
  refine ⟨n, Ev.step (fun k => by simp only [quorumlaw0_TableWeight.l0]; rfl) (Ev.if_neg (by omega) ?_), Int.le_refl _, h1, fun _ i hi hji => by omega⟩
  refine Ev.step (fun k => by simp only [quorumlaw0_TableWeight.j1]; rfl) ?_
  exact Ev.if_neg (by simp) (Ev.now n)
 | succ d ih =>
  intro j hj n h0 h1
  have hlt : j < l.length := by omega
  have hb := hv l[j] (List.getElem_mem hlt)
  by_cases hn : n < 1048576
  ·have e : wrap64 ((wrap64 (n + (((l[j]).f1).length : Int))) + (wrap64 ((((l[j]).f0).size : Int) / 8))) = n + (((l[j]).f1).length : Int) + ((((l[j]).f0).size : Int) / 8) := by unfold wrap64; omega
   obtain ⟨r, hr, h2, h3, h4⟩ := weight_in l hl hv j hlt _ (ih (j + 1) (by omega)) (l[j]).f1.length 0 (by omega) (n + (((l[j]).f1).length : Int) + ((((l[j]).f0).size : Int) / 8)) (by omega) (by omega)
   refine ⟨r, Ev.step (fun k => by simp only [quorumlaw0_TableWeight.l0]; rfl) (Ev.if_pos (by omega) ?_), by omega, h3, fun hr7 i hi hji => ?_⟩
   ·refine Ev.step (fun k => by simp only [quorumlaw0_TableWeight.j1]; rfl) ?_
    rw [rdc_at l j hlt, e]
    exact Ev.if_pos (by simpa using hn) (Ev.if_pos (by omega) (Ev.if_pos (by omega) hr))
   ·rcases Nat.eq_or_lt_of_le hji with rfl | h
    ·omega
    ·exact h4 hr7 i hi (by omega)
  ·refine ⟨n, Ev.step (fun k => by simp only [quorumlaw0_TableWeight.l0]; rfl) (Ev.if_pos (by omega) ?_), Int.le_refl _, h1, fun h => by omega⟩
   refine Ev.step (fun k => by simp only [quorumlaw0_TableWeight.j1]; rfl) ?_
   exact Ev.if_neg (by simpa using hn) (Ev.now n)
theorem weight_ends : ∃ r, Ev (fun k => quorumlaw0_TableWeight.f k l) r ∧ (l.length : Int) ≤ r ∧ r ≤ 1000000000000000 ∧ (r ≤ 700 → ∀ c ∈ l, c.f1.length ≤ 700) := by
 obtain ⟨r, h1, h2, h3, h4⟩ := weight_from l hl hv l.length 0 (by omega) (l.length : Int) (by omega) (by omega)
 refine ⟨r, h1, h2, h3, fun h c hc => ?_⟩
 obtain ⟨i, hi, rfl⟩ := List.mem_iff_getElem.1 hc
 exact h4 h i hi (by omega)
end
structure TbIn (l : List Ch) : Prop where
 len : l.length ≤ 10000000000000
 each : ∀ c ∈ l, c.f1.length ≤ 10000000000000 ∧ c.f0.size ≤ 140737488351232 ∧ ∀ v ∈ c.f1, v.f1.size ≤ 140737488351232
structure ActIn (a : Act) : Prop where
 k : a.f3.size ≤ 140737488351232
 v : a.f4.f1.size ≤ 140737488351232
 lo : a.f5.f0.size ≤ 140737488351232
 hi : a.f5.f1.size ≤ 140737488351232
theorem wr (x : Int) (h0 : 0 ≤ x) (h1 : x ≤ 9000000000000000000) : wrap64 x = x := by unfold wrap64; omega
theorem wsum (n : Int) (a b c d : Nat) (h0 : 0 ≤ n) (h1 : n < 1048576) (ha : a ≤ 140737488351232) (hb : b ≤ 140737488351232) (hc : c ≤ 140737488351232) (hd : d ≤ 140737488351232) :
  ∃ q : Int, 0 ≤ q ∧ q ≤ 600000000000000 ∧ wrap64 (n + (wrap64 (Int.tdiv (wrap64 ((wrap64 ((wrap64 ((a : Int) + (b : Int))) + (c : Int))) + (d : Int))) 8))) = n + q := by
 rw [wr ((a : Int) + (b : Int)) (by omega) (by omega), wr ((a : Int) + (b : Int) + (c : Int)) (by omega) (by omega), wr ((a : Int) + (b : Int) + (c : Int) + (d : Int)) (by omega) (by omega)]
 obtain ⟨s, hs⟩ : ∃ s : Nat, (a : Int) + (b : Int) + (c : Int) + (d : Int) = (s : Int) := ⟨a + b + c + d, by omega⟩
 rw [hs]
 have hs1 : s ≤ 562949953404928 := by omega
 refine ⟨((s / 8 : Nat) : Int), by omega, by omega, ?_⟩
 rw [show Int.tdiv (s : Int) 8 = ((s / 8 : Nat) : Int) from rfl, wr ((s / 8 : Nat) : Int) (by omega) (by omega), wr (n + ((s / 8 : Nat) : Int)) (by omega) (by omega)]
section
variable (l : List Ch) (A : List Act) (hA : A.length ≤ 2000000000000) (ha : ∀ a ∈ A, ActIn a)
include hA ha
theorem heavy_from (d : Nat) : ∀ (j : Nat), j + d = A.length → ∀ n : Int, 0 ≤ n → n ≤ 9000000000000000 → ∃ b, Ev (fun k => quorumlaw9_Heavy.l0 k n (j : Int) l A) b ∧ (b = false → n ≤ 700) := by
 have stop : ∀ (n : Int) (j : Int), ∃ b, Ev (fun k => quorumlaw9_Heavy.j1 k n j false l A) b ∧ (b = false → n ≤ 700) := fun n j => ⟨decide (n > 700), Ev.step (fun k => by simp only [quorumlaw9_Heavy.j1]; rfl) (Ev.if_neg (by simp) (Ev.now _)), fun h => by have := of_decide_eq_false h; omega⟩
 induction d with
 | zero =>
  intro j hj n h0 h1
  obtain ⟨b, hb, h⟩ := stop n (j : Int)
  exact ⟨b, Ev.step (fun k => by simp only [quorumlaw9_Heavy.l0]; rfl) (Ev.if_neg (by omega) hb), h⟩
 | succ d ih =>
  intro j hj n h0 h1
  have hlt : j < A.length := by omega
  have hb := ha A[j] (List.getElem_mem hlt)
  by_cases hn : n < 1048576
  ·have hk := hb.k
   have hv := hb.v
   have hlo := hb.lo
   have hhi := hb.hi
   have e := wsum n (A[j].f3).size (A[j].f4.f1).size (A[j].f5.f0).size (A[j].f5.f1).size h0 hn hk hv hlo hhi
   obtain ⟨q, hq0, hq1, e⟩ := e
   obtain ⟨b, hb2, h⟩ := ih (j + 1) (by omega) (n + q) (by omega) (by omega)
   refine ⟨b, Ev.step (fun k => by simp only [quorumlaw9_Heavy.l0]; rfl) (Ev.if_pos (by omega) ?_), fun h2 => by have := h h2; omega⟩
   refine Ev.step (fun k => by simp only [quorumlaw9_Heavy.j1]; rfl) ?_
   rw [rda_at A j hlt, e, wrap_succ j (by omega)]
   exact Ev.if_pos (by simpa using hn) (Ev.if_pos (by omega) (Ev.if_pos (by omega) hb2))
  ·obtain ⟨b, hb2, h⟩ := stop n (j : Int)
   refine ⟨b, Ev.step (fun k => by simp only [quorumlaw9_Heavy.l0]; rfl) (Ev.if_pos (by omega) ?_), h⟩
   rw [decide_eq_false hn]
   exact hb2
theorem heavy_ends (hT : TbIn l) : ∃ b, Ev (fun k => quorumlaw9_Heavy.f k l A) b ∧ (b = false → l.length ≤ 700 ∧ ∀ c ∈ l, c.f1.length ≤ 700) := by
 obtain ⟨r, h1, h2, h3, h4⟩ := weight_ends l hT.len hT.each
 have e : wrap64 (r + (A.length : Int)) = r + (A.length : Int) := by unfold wrap64; omega
 obtain ⟨b, hb, h⟩ := heavy_from l A hA ha A.length 0 (by omega) (r + (A.length : Int)) (by omega) (by omega)
 refine ⟨b, ?_, fun hf => ?_⟩
 ·unfold quorumlaw9_Heavy.f
  refine Ev.bind h1 ?_
  rw [e]
  exact hb
 ·have := h hf
  exact ⟨by omega, h4 (by omega)⟩
end
end Go.Proofs.Ytbaecdcfefmcgaa.HTable
set_option linter.unusedSimpArgs false
set_option linter.unusedVariables false
namespace Go.Proofs.Ytbaecdcfefmcgaa.HChain
open Go.RowKit Go.Proofs.Ytbaecdcfefmcgaa.PTbe Go.Proofs.Ytbaecdcfefmcgaa.HNum Go.Proofs.YtbaecdcfefmcgaaW.PrintWords Go.Proofs.YtbaecdcfefmcgaaW.PrintLast
def left (l : List V) (n : Int) : List V := if h : place l n < l.length then (if (l[place l n]).f2 = true then l.take (place l n) else l.take (place l n + 1)) else l
theorem Clone_eq (l : List V) (hl : l.length < 4398046511104) : api_Version_194.f l = some l := by
 unfold api_Version_194.f
 rw [if_pos hl]
theorem Left_ev (key : ByteArray) (l : List V) (n : Int) (hl : l.length < 4398046511104) : Ev (fun k => chain_Left.f k key l n) (if (left l n).length = 0 then (⟨#[]⟩, []) else (key, left l n)) := by
 have fin : ∀ m : List V, Ev (fun k => chain_Left.j0 k key m) (if m.length = 0 then (⟨#[]⟩, []) else (key, m)) := fun m => by
  refine Ev.step (fun k => by simp only [chain_Left.j0]; rfl) ?_
  by_cases hz : m.length = 0
  ·rw [if_pos hz]; exact Ev.if_pos (by omega) (Ev.now _)
  ·rw [if_neg hz]; exact Ev.if_neg (by omega) (Ev.now _)
 unfold chain_Left.f chain_Own.f chain_place.f
 rw [Clone_eq l hl]
 refine Ev.bind0 rfl ?_
 refine Ev.bind0 rfl ?_
 change Ev (fun k => if ((place l n : Nat) : Int) < (l.length : Int) then (if 0 ≤ ((place l n : Nat) : Int) then (if (rd_T72 l ((place l n : Nat) : Int)).f2 = true then (if ((place l n : Nat) : Int) ≤ (l.length : Int) then chain_Left.j0 k key (l.take ((place l n : Nat) : Int).toNat) else none) else (if 0 ≤ wrap64 (((place l n : Nat) : Int) + 1) then (if wrap64 (((place l n : Nat) : Int) + 1) ≤ (l.length : Int) then chain_Left.j0 k key (l.take (wrap64 (((place l n : Nat) : Int) + 1)).toNat) else none) else none)) else none) else chain_Left.j0 k key l) _
 have hle := place_le l n
 unfold left
 generalize place l n = p at hle ⊢
 by_cases h : p < l.length
 ·rw [dif_pos h, rd_at l p h, wrap_succ p (by omega)]
  refine Ev.if_pos (by omega) (Ev.if_pos (by omega) ?_)
  by_cases hg : (l[p]).f2 = true
  ·rw [if_pos hg]
   refine Ev.if_pos hg (Ev.if_pos (by omega) ?_)
   rw [Int.toNat_natCast]
   exact fin _
  ·rw [if_neg hg]
   refine Ev.if_neg hg (Ev.if_pos (by omega) (Ev.if_pos (by omega) ?_))
   rw [Int.toNat_natCast]
   exact fin _
 ·rw [dif_neg h]
  exact Ev.if_neg (by omega) (fin _)
theorem left_take (l : List V) (n : Int) : ∃ i, left l n = l.take i := by
 unfold left
 split
 ·split
  ·exact ⟨_, rfl⟩
  ·exact ⟨_, rfl⟩
 ·exact ⟨l.length, by simp⟩
theorem With_eq (key : ByteArray) (l : List V) (v : V) (hl : l.length + 1 < 4398046511104) : chain_With.f key l v.f0 v.f1 v.f2 = some (key, v :: l) := by
 unfold chain_With.f
 rw [Clone_eq l (by omega)]
 simp only [Option.bind_some]
 have e : api_Version_195.f l 0 [(⟨v.f0, v.f1, v.f2⟩ : V)] = some (v :: l) := by
  unfold api_Version_195.f
  rw [if_pos ⟨rfl, by omega, by omega, hl⟩]
  rfl
 rw [e]
 rfl
open Classical in
theorem Add_ev (key : ByteArray) (l : List V) (v : V) (hl : l.length + 1 < 4398046511104) :
  Ev (fun k => chain_Add.f k key l v.f0 v.f1 v.f2) (if May key l ∧ May key (v :: l) then (key, v :: l, 0) else (⟨#[]⟩, [], 1)) := by
 unfold chain_Add.f
 rw [With_eq key l v hl]
 refine Ev.bind0 rfl (Ev.bind (May_ev key l (by omega)) ?_)
 have no : Ev (fun k => chain_Add.j0 k true key (v :: l)) (⟨#[]⟩, [], 1) := Ev.step (fun k => by simp only [chain_Add.j0]; rfl) (Ev.if_pos (by first | rfl | trivial) (Ev.now _))
 by_cases h : May key l
 ·refine Ev.if_pos (by simpa using h) (Ev.bind (May_ev key (v :: l) (by simp; omega)) ?_)
  by_cases h2 : May key (v :: l)
  ·rw [if_pos (show May key l ∧ May key (v :: l) from ⟨h, h2⟩), decide_eq_true h2]
   exact Ev.step (fun k => by simp only [chain_Add.j0]; rfl) (Ev.if_neg (by simp) (Ev.now _))
  ·rw [if_neg (show ¬ (May key l ∧ May key (v :: l)) from fun h3 => h2 h3.2), decide_eq_false h2]
   exact no
 ·rw [if_neg (show ¬ (May key l ∧ May key (v :: l)) from fun h3 => h h3.1)]
  exact Ev.if_neg (by simpa using h) no
theorem take_snoc {α : Type} (l : List α) (j : Nat) (h : j < l.length) : l.take j ++ [l[j]] = l.take (j + 1) := by rw [List.take_succ_eq_append_getElem h]
theorem copyv_from (l : List V) (hl : l.length ≤ 4398046511104) (d : Nat) : ∀ j, j + d = l.length → Ev (fun k => quorumref0_CopyVersions.l0 k l (l.take j) (j : Int)) l := by
 induction d with
 | zero =>
  intro j hj
  refine Ev.step (fun k => by simp only [quorumref0_CopyVersions.l0]; rfl) ?_
  rw [List.take_of_length_le (by omega)]
  exact Ev.if_neg (by omega) (Ev.now _)
 | succ d ih =>
  intro j hj
  have hlt : j < l.length := by omega
  refine Ev.step (fun k => by simp only [quorumref0_CopyVersions.l0]; rfl) ?_
  rw [rd_at l j hlt, wrap_succ j (by omega)]
  refine Ev.if_pos (by omega) ?_
  refine Ev.if_pos (by omega) ?_
  refine Ev.if_pos (by rw [List.length_take]; omega) ?_
  have e : l.take j ++ [(⟨(l[j]).f0, (l[j]).f1, (l[j]).f2⟩ : V)] = l.take (j + 1) := take_snoc l j hlt
  rw [e]
  exact ih (j + 1) (by omega)
theorem copyv_ev (l : List V) (hl : l.length ≤ 4398046511104) : Ev (fun k => quorumref0_CopyVersions.f k l) l := copyv_from l hl l.length 0 (by omega)
theorem copyc_ev (key : ByteArray) (l : List V) (hl : l.length ≤ 4398046511104) : Ev (fun k => quorumref0_CopyChain.f k key l) (key, l) := by
 unfold quorumref0_CopyChain.f
 exact Ev.bind (copyv_ev l hl) (Ev.now _)
theorem refPurge_ev (key : ByteArray) (l : List V) (n : Int) (hl : l.length ≤ 1000000) : Ev (fun k => quorumref8_Purge.f k key l n) (if (left l n).length = 0 then (⟨#[]⟩, [], false) else (key, left l n, true)) := by
 have hle := place_le l n
 have fin : ∀ m : List V, Ev (fun k => quorumref8_Purge.j0 k key m) (if m.length = 0 then (⟨#[]⟩, [], false) else (key, m, true)) := fun m => by
  refine Ev.step (fun k => by simp only [quorumref8_Purge.j0]; rfl) ?_
  by_cases hz : m.length = 0
  ·rw [if_pos hz]; exact Ev.if_pos (by omega) (Ev.now _)
  ·rw [if_neg hz]; exact Ev.if_neg (by omega) (Ev.now _)
 unfold quorumref8_Purge.f
 refine Ev.bind (copyc_ev key l (by omega)) ?_
 dsimp only
 refine Ev.bind (a := if place l n < l.length then (place l n : Int) else -1) (by unfold quorumref8_newest.f; exact HTable.newest_from key l n hl l.length 0 (by omega) (fun m h h2 => absurd h2 (by omega))) ?_
 unfold left
 by_cases h : place l n < l.length
 ·rw [if_pos h, dif_pos h, rd_at l _ h, wrap_succ _ (by omega)]
  refine Ev.if_pos (by omega) ?_
  refine Ev.if_pos (by omega) ?_
  refine Ev.if_pos (by omega) ?_
  by_cases hg : (l[place l n]).f2 = true
  ·refine Ev.if_pos hg ?_
   rw [if_pos hg]
   refine Ev.if_pos (by omega) ?_
   rw [Int.toNat_natCast]
   exact fin _
  ·refine Ev.if_neg hg ?_
   rw [if_neg hg]
   refine Ev.if_pos (by omega) ?_
   refine Ev.if_pos (by omega) ?_
   rw [Int.toNat_natCast]
   exact fin _
 ·rw [if_neg h, dif_neg h]
  refine Ev.if_neg (by omega) ?_
  exact fin _
theorem refAdd_ev (key : ByteArray) (l : List V) (v : V) (hl : l.length + 1 < 4398046511104) : Ev (fun k => quorumref8_Add.f k key l v.f0 v.f1 v.f2) (key, v :: l) := by
 unfold quorumref8_Add.f
 refine Ev.bind0 rfl ?_
 refine Ev.bind (copyv_ev l (by omega)) ?_
 exact Ev.if_pos (by simp; omega) (Ev.now _)
theorem May_one (s : ByteArray) (v : V) : May s [v] ↔ keyOK s = true ∧ vOK v = true := by
 constructor
 ·intro h; exact ⟨h.2.1, (h.1 0 (by simp) (by omega)).1⟩
 ·rintro ⟨h1, h2⟩
  refine ⟨fun i hi _ => ?_, h1, by simp⟩
  have : i = 0 := by simp at hi; omega
  subst this
  exact ⟨h2, fun h => absurd h (by omega)⟩
theorem New_ev (s : ByteArray) (v : V) : Ev (fun k => chain_New.f k s v.f0 v.f1 v.f2) (if keyOK s = true ∧ vOK v = true then (s, [v], 0) else (⟨#[]⟩, [], 1)) := by
 classical
 unfold chain_New.f
 refine Ev.bind0 rfl ?_
 refine Ev.bind (May_ev s [v] (by simp)) ?_
 by_cases h : keyOK s = true ∧ vOK v = true
 ·rw [if_pos h]; exact Ev.if_pos (decide_eq_true ((May_one s v).2 h)) (Ev.now _)
 ·rw [if_neg h]; exact Ev.if_neg (by simpa using fun e => h ((May_one s v).1 e)) (Ev.now _)
end Go.Proofs.Ytbaecdcfefmcgaa.HChain
set_option linter.unusedSimpArgs false
set_option linter.unusedVariables false
set_option linter.unusedSectionVars false
namespace Go.Proofs.Ytbaecdcfefmcgaa.HTable
open Go.RowKit Go.Proofs.Ytbaecdcfefmcgaa.PTbe Go.Proofs.Ytbaecdcfefmcgaa.HNum Go.Proofs.Ytbaecdcfefmcgaa.HChain Go.Proofs.YtbaecdcfefmcgaaW.PrintWords Go.Proofs.YtbaecdcfefmcgaaW.PrintLast
abbrev Rw := S82
theorem rdr_at (l : List Rw) (j : Nat) (h : j < l.length) : rd_T82 l (j : Int) = l[j] := by simp [rd_T82, h]
def leftT (l : List Ch) (n : Int) : List Ch := l.filterMap (fun c => if (left c.f1 n).length = 0 then none else some ⟨c.f0, left c.f1 n⟩)
def rowsT (l : List Ch) (m : Int) : List Rw := l.filterMap (fun c => (HChain.look c.f1 m).map (fun v => (⟨c.f0, v.f1⟩ : Rw)))
theorem leftT_none {c : Ch} {l : List Ch} {n : Int} (h0 : (left c.f1 n).length = 0) : leftT (c :: l) n = leftT l n := by unfold leftT; rw [List.filterMap_cons_none (by rw [if_pos h0])]
theorem leftT_some {c : Ch} {l : List Ch} {n : Int} (h0 : ¬ (left c.f1 n).length = 0) : leftT (c :: l) n = ⟨c.f0, left c.f1 n⟩ :: leftT l n := by unfold leftT; rw [List.filterMap_cons_some (by rw [if_neg h0])]
theorem rowsT_none {c : Ch} {l : List Ch} {m : Int} (hk : HChain.look c.f1 m = none) : rowsT (c :: l) m = rowsT l m := by unfold rowsT; rw [List.filterMap_cons_none (by rw [hk]; rfl)]
theorem rowsT_some {c : Ch} {l : List Ch} {m : Int} {v : V} (hk : HChain.look c.f1 m = some v) : rowsT (c :: l) m = ⟨c.f0, v.f1⟩ :: rowsT l m := by unfold rowsT; rw [List.filterMap_cons_some (by rw [hk]; rfl)]
section
variable (l : List Ch) (n : Int) (hl : l.length ≤ 1000000) (hv : ∀ c ∈ l, c.f1.length ≤ 1000000)
include hl hv
theorem Left_from (d : Nat) : ∀ (j : Nat) (acc : List Ch), j + d = l.length → acc.length ≤ j →
  Ev (fun k => table_Left.l0 k n l (l.length : Int) (j : Int) acc) (acc ++ leftT (l.drop j) n) := by
 induction d with
 | zero =>
  intro j acc hj ha
  rw [List.drop_eq_nil_of_le (by omega)]
  exact Ev.step (fun k => by simp only [table_Left.l0]; rfl) (Ev.if_neg (by omega) (by simpa [leftT] using Ev.now acc))
 | succ d ih =>
  intro j acc hj ha
  have hlt : j < l.length := by omega
  have hb := hv l[j] (List.getElem_mem hlt)
  refine Ev.step (fun k => by simp only [table_Left.l0]; rfl) (Ev.if_pos (by omega) (Ev.if_pos (by omega) (Ev.if_pos (by omega) ?_)))
  rw [rdc_at l j hlt, wrap_succ j (by omega), List.drop_eq_getElem_cons hlt]
  refine Ev.bind (HChain.Left_ev (l[j]).f0 (l[j]).f1 n (by omega)) ?_
  by_cases h0 : (left (l[j]).f1 n).length = 0
  ·rw [if_pos h0, leftT_none h0]
   exact Ev.if_neg (by simp) (ih (j + 1) acc (by omega) (by omega))
  ·rw [if_neg h0, leftT_some h0]
   refine Ev.if_pos (by show (((left (l[j]).f1 n).length : Nat) : Int) > 0; omega) (Ev.if_pos (by omega) ?_)
   have h := ih (j + 1) (acc ++ [⟨(l[j]).f0, left (l[j]).f1 n⟩]) (by omega) (by simp; omega)
   rw [List.append_assoc] at h
   exact h
theorem Left_ev : Ev (fun k => table_Left.f k l n) (leftT l n) := by
 have h := Left_from l n hl hv l.length 0 [] (by omega) (by simp)
 rw [List.drop_zero, List.nil_append] at h
 exact h
theorem PurgeAll_from (d : Nat) : ∀ (j : Nat) (acc : List Ch), j + d = l.length → acc.length ≤ j →
  Ev (fun k => quorumref8_PurgeAll.l0 k n (j : Int) l acc) (acc ++ leftT (l.drop j) n) := by
 induction d with
 | zero =>
  intro j acc hj ha
  rw [List.drop_eq_nil_of_le (by omega)]
  exact Ev.step (fun k => by simp only [quorumref8_PurgeAll.l0]; rfl) (Ev.if_neg (by omega) (by simpa [leftT] using Ev.now acc))
 | succ d ih =>
  intro j acc hj ha
  have hlt : j < l.length := by omega
  have hb := hv l[j] (List.getElem_mem hlt)
  refine Ev.step (fun k => by simp only [quorumref8_PurgeAll.l0]; rfl) (Ev.if_pos (by omega) (Ev.if_pos (by omega) ?_))
  rw [rdc_at l j hlt, wrap_succ j (by omega), List.drop_eq_getElem_cons hlt]
  refine Ev.bind (refPurge_ev (l[j]).f0 (l[j]).f1 n (by omega)) ?_
  by_cases h0 : (left (l[j]).f1 n).length = 0
  ·rw [if_pos h0, leftT_none h0]
   exact Ev.if_neg (by simp) (ih (j + 1) acc (by omega) (by omega))
  ·rw [if_neg h0, leftT_some h0]
   refine Ev.if_pos (by first | rfl | trivial) (Ev.if_pos (by omega) ?_)
   have h := ih (j + 1) (acc ++ [⟨(l[j]).f0, left (l[j]).f1 n⟩]) (by omega) (by simp; omega)
   rw [List.append_assoc] at h
   exact h
theorem PurgeAll_ev : Ev (fun k => quorumref8_PurgeAll.f k l n) (leftT l n) := by
 have h := PurgeAll_from l n hl hv l.length 0 [] (by omega) (by simp)
 rw [List.drop_zero, List.nil_append] at h
 exact h
theorem Rows_from (d : Nat) : ∀ (j : Nat) (acc : List Rw), j + d = l.length → acc.length ≤ j →
  Ev (fun k => table_Rows.l0 k n acc l (l.length : Int) (j : Int)) (acc ++ rowsT (l.drop j) n) := by
 induction d with
 | zero =>
  intro j acc hj ha
  rw [List.drop_eq_nil_of_le (by omega)]
  exact Ev.step (fun k => by simp only [table_Rows.l0]; rfl) (Ev.if_neg (by omega) (by simpa [rowsT] using Ev.now acc))
 | succ d ih =>
  intro j acc hj ha
  have hlt : j < l.length := by omega
  refine Ev.step (fun k => by simp only [table_Rows.l0]; rfl) (Ev.if_pos (by omega) (Ev.if_pos (by omega) (Ev.if_pos (by omega) ?_)))
  rw [rdc_at l j hlt, wrap_succ j (by omega), List.drop_eq_getElem_cons hlt]
  refine Ev.bind (Look_ev (l[j]).f0 (l[j]).f1 n) ?_
  cases hk : HChain.look (l[j]).f1 n with
  | none =>
   rw [rowsT_none hk]
   exact Ev.if_neg (by simp) (ih (j + 1) acc (by omega) (by omega))
  | some v =>
   rw [rowsT_some hk]
   refine Ev.if_pos (by first | rfl | trivial) (Ev.if_pos (by omega) ?_)
   have h := ih (j + 1) (acc ++ [⟨(l[j]).f0, v.f1⟩]) (by omega) (by simp; omega)
   rw [List.append_assoc] at h
   exact h
theorem Rows_ev : Ev (fun k => table_Rows.f k l n) (rowsT l n) := by
 have h := Rows_from l n hl hv l.length 0 [] (by omega) (by simp)
 rw [List.drop_zero, List.nil_append] at h
 exact h
theorem refMap_from (d : Nat) : ∀ (j : Nat) (acc : List Rw), j + d = l.length → acc.length ≤ j →
  Ev (fun k => quorumref8_Map.l0 k n acc (j : Int) l) (acc ++ rowsT (l.drop j) n) := by
 induction d with
 | zero =>
  intro j acc hj ha
  rw [List.drop_eq_nil_of_le (by omega)]
  exact Ev.step (fun k => by simp only [quorumref8_Map.l0]; rfl) (Ev.if_neg (by omega) (by simpa [rowsT] using Ev.now acc))
 | succ d ih =>
  intro j acc hj ha
  have hlt : j < l.length := by omega
  have hb := hv l[j] (List.getElem_mem hlt)
  refine Ev.step (fun k => by simp only [quorumref8_Map.l0]; rfl) (Ev.if_pos (by omega) (Ev.if_pos (by omega) ?_))
  rw [rdc_at l j hlt, wrap_succ j (by omega), List.drop_eq_getElem_cons hlt]
  refine Ev.bind (At_ev (l[j]).f0 (l[j]).f1 n (by omega)) ?_
  cases hk : HChain.look (l[j]).f1 n with
  | none =>
   rw [rowsT_none hk]
   exact Ev.if_neg (by simp) (ih (j + 1) acc (by omega) (by omega))
  | some v =>
   rw [rowsT_some hk]
   refine Ev.if_pos (by first | rfl | trivial) (Ev.if_pos (by omega) ?_)
   have h := ih (j + 1) (acc ++ [⟨(l[j]).f0, v.f1⟩]) (by omega) (by simp; omega)
   rw [List.append_assoc] at h
   exact h
theorem refMap_ev : Ev (fun k => quorumref8_Map.f k l n) (rowsT l n) := by
 have h := refMap_from l n hl hv l.length 0 [] (by omega) (by simp)
 rw [List.drop_zero, List.nil_append] at h
 exact h
open Classical in
theorem Purge_ev : Ev (fun k => table_Purge.f k l n) (if TabOK l then (leftT l n, 0) else ([], 1)) := by
 unfold table_Purge.f
 refine Ev.bind (tabMay_ev l hl hv) ?_
 by_cases h : TabOK l
 ·rw [if_pos h]; exact Ev.if_pos (by simpa using h) (Ev.bind (Left_ev l n hl hv) (Ev.now _))
 ·rw [if_neg h]; exact Ev.if_neg (by simpa using h) (Ev.now _)
open Classical in
theorem Map_ev : Ev (fun k => table_Map.f k l n) (if TabOK l then (rowsT l n, 0) else ([], 1)) := by
 unfold table_Map.f
 refine Ev.bind (tabMay_ev l hl hv) ?_
 by_cases h : TabOK l
 ·rw [if_pos h]; exact Ev.if_pos (by simpa using h) (Ev.bind (Rows_ev l n hl hv) (Ev.now _))
 ·rw [if_neg h]; exact Ev.if_neg (by simpa using h) (Ev.now _)
open Classical in
theorem tabCount_ev : Ev (fun k => table_Count.f k l) (if TabOK l then (((sums l : Nat) : Int), 0) else (0, 1)) := by
 unfold table_Count.f
 refine Ev.bind (tabMay_ev l hl hv) ?_
 by_cases h : TabOK l
 ·rw [if_pos h]; exact Ev.if_pos (by simpa using h) (Ev.bind (Rooms_ev l hl hv) (Ev.now _))
 ·rw [if_neg h]; exact Ev.if_neg (by simpa using h) (Ev.now _)
theorem Own_from (d : Nat) : ∀ j, j + d = l.length → Ev (fun k => table_Own.l0 k l (l.length : Int) (j : Int) (l.take j)) l := by
 induction d with
 | zero =>
  intro j hj
  refine Ev.step (fun k => by simp only [table_Own.l0]; rfl) (Ev.if_neg (by omega) ?_)
  rw [List.take_of_length_le (by omega)]
  exact Ev.now _
 | succ d ih =>
  intro j hj
  have hlt : j < l.length := by omega
  have hb := hv l[j] (List.getElem_mem hlt)
  refine Ev.step (fun k => by simp only [table_Own.l0]; rfl) (Ev.if_pos (by omega) (Ev.if_pos (by omega) (Ev.if_pos (by omega) ?_)))
  rw [rdc_at l j hlt, wrap_succ j (by omega)]
  refine Ev.bind0 (a := ((l[j]).f0, (l[j]).f1)) (by unfold chain_Own.f; rw [Clone_eq _ (by omega)]; rfl) ?_
  refine Ev.if_pos (by rw [List.length_take]; omega) ?_
  rw [show l.take j ++ [(⟨(l[j]).f0, (l[j]).f1⟩ : Ch)] = l.take (j + 1) from take_snoc l j hlt]
  exact ih (j + 1) (by omega)
theorem Own_ev : Ev (fun k => table_Own.f k l) l := Own_from l hl hv l.length 0 (by omega)
theorem copyCh_from (d : Nat) : ∀ j, j + d = l.length → Ev (fun k => quorumref0_CopyChains.l0 k l (l.take j) (j : Int)) l := by
 induction d with
 | zero =>
  intro j hj
  refine Ev.step (fun k => by simp only [quorumref0_CopyChains.l0]; rfl) (Ev.if_neg (by omega) ?_)
  rw [List.take_of_length_le (by omega)]
  exact Ev.now _
 | succ d ih =>
  intro j hj
  have hlt : j < l.length := by omega
  have hb := hv l[j] (List.getElem_mem hlt)
  refine Ev.step (fun k => by simp only [quorumref0_CopyChains.l0]; rfl) (Ev.if_pos (by omega) (Ev.if_pos (by omega) ?_))
  rw [rdc_at l j hlt, wrap_succ j (by omega)]
  refine Ev.bind (copyc_ev (l[j]).f0 (l[j]).f1 (by omega)) ?_
  refine Ev.if_pos (by rw [List.length_take]; omega) ?_
  rw [show l.take j ++ [(⟨(l[j]).f0, (l[j]).f1⟩ : Ch)] = l.take (j + 1) from take_snoc l j hlt]
  exact ih (j + 1) (by omega)
theorem copyCh_ev : Ev (fun k => quorumref0_CopyChains.f k l) l := copyCh_from l hl hv l.length 0 (by omega)
theorem copyT_ev : Ev (fun k => quorumref0_CopyTable.f k l) l := by
 unfold quorumref0_CopyTable.f
 exact Ev.bind (copyCh_ev l hl hv) (Ev.now _)
theorem EqVersions_same (m : List V) (hm : m.length ≤ 1000000) (d : Nat) : ∀ j, j + d = m.length → Ev (fun k => quorumref0_EqVersions.l0 k m m (j : Int)) true := by
 induction d with
 | zero => intro j hj; exact Ev.step (fun k => by simp only [quorumref0_EqVersions.l0]; rfl) (Ev.if_neg (by omega) (Ev.now true))
 | succ d ih =>
  intro j hj
  refine Ev.step (fun k => by simp only [quorumref0_EqVersions.l0]; rfl) ?_
  rw [wrap_succ j (by omega)]
  exact Ev.if_pos (by omega) (Ev.if_pos (by omega) (Ev.if_pos (by omega) (Ev.if_neg (by simp) (ih (j + 1) (by omega)))))
theorem EqChain_same (c : Ch) (hc : c.f1.length ≤ 1000000) : Ev (fun k => quorumref0_EqChain.f k c.f0 c.f1 c.f0 c.f1) true := by
 unfold quorumref0_EqChain.f quorumref0_EqVersions.f
 exact Ev.if_pos rfl (Ev.bind (Ev.if_pos rfl (EqVersions_same l hl hv c.f1 hc c.f1.length 0 (by omega))) (Ev.now true))
theorem EqChains_from (d : Nat) : ∀ j, j + d = l.length → Ev (fun k => quorumref0_EqChains.l0 k l l (j : Int)) true := by
 induction d with
 | zero => intro j hj; exact Ev.step (fun k => by simp only [quorumref0_EqChains.l0]; rfl) (Ev.if_neg (by omega) (Ev.now true))
 | succ d ih =>
  intro j hj
  have hlt : j < l.length := by omega
  have hb := hv l[j] (List.getElem_mem hlt)
  refine Ev.step (fun k => by simp only [quorumref0_EqChains.l0]; rfl) (Ev.if_pos (by omega) (Ev.if_pos (by omega) (Ev.if_pos (by omega) ?_)))
  rw [rdc_at l j hlt, wrap_succ j (by omega)]
  exact Ev.bind (EqChain_same l hl hv l[j] hb) (Ev.if_pos (by first | rfl | trivial) (ih (j + 1) (by omega)))
theorem EqTable_same : Ev (fun k => quorumref0_EqTable.f k l l) true := by
 unfold quorumref0_EqTable.f quorumref0_EqChains.f
 exact Ev.bind (Ev.if_pos rfl (EqChains_from l hl hv l.length 0 (by omega))) (Ev.now true)
end
theorem EqRows_same (l : List Rw) (hl : l.length ≤ 4611686018427387904) : Ev (fun k => quorumref0_EqRows.f k l l) true := by
 have key : ∀ d j : Nat, j + d = l.length → Ev (fun k => quorumref0_EqRows.l0 k l l (j : Int)) true := by
  intro d
  induction d with
  | zero =>
   intro j hj
   exact Ev.step (fun k => by simp only [quorumref0_EqRows.l0]; rfl) (Ev.if_neg (by omega) (Ev.now true))
  | succ d ih =>
   intro j hj
   refine Ev.step (fun k => by simp only [quorumref0_EqRows.l0]; rfl) ?_
   rw [wrap_succ j (by omega)]
   exact Ev.if_pos (by omega) (Ev.if_pos (by omega) (Ev.if_pos (by omega) (Ev.if_neg (by simp) (ih (j + 1) (by omega)))))
 unfold quorumref0_EqRows.f
 exact Ev.if_pos rfl (key l.length 0 (by omega))
theorem rowsT_len (l : List Ch) (m : Int) : (rowsT l m).length ≤ l.length := List.length_filterMap_le ..
theorem leftT_len (l : List Ch) (n : Int) : (leftT l n).length ≤ l.length := List.length_filterMap_le ..
theorem left_len (l : List V) (n : Int) : (left l n).length ≤ l.length := by
 obtain ⟨i, e⟩ := left_take l n
 rw [e, List.length_take]
 omega
theorem leftT_mem {l : List Ch} {n : Int} {c : Ch} (h : c ∈ leftT l n) : ∃ c0 ∈ l, c = ⟨c0.f0, left c0.f1 n⟩ ∧ 0 < (left c0.f1 n).length := by
 obtain ⟨c0, h0, e⟩ := List.mem_filterMap.1 h
 refine ⟨c0, h0, ?_⟩
 by_cases hz : (left c0.f1 n).length = 0
 ·rw [if_pos hz] at e; cases e
 ·rw [if_neg hz] at e
  exact ⟨(Option.some.inj e).symm, by omega⟩
def rangeOK (lo hi : ByteArray) (top : Bool) : Bool := if lo.size ≤ 13 ∧ hi.size ≤ 13 then (if top = true then (hi.toList == ([] : List UInt8)) else (!(Op.bytesLess hi.toList lo.toList))) else false
theorem keyMay_ev (lo hi : ByteArray) (top : Bool) : Ev (fun k => key_May.f k lo hi top) (rangeOK lo hi top) := by
 unfold key_May.f rangeOK
 by_cases h1 : lo.size ≤ 13
 ·refine Ev.if_neg (by omega) (Ev.step (fun k => by simp only [key_May.j0]; rfl) ?_)
  by_cases h2 : hi.size ≤ 13
  ·rw [show decide ((hi.size : Int) > 13) = false from decide_eq_false (by omega), if_pos (show lo.size ≤ 13 ∧ hi.size ≤ 13 from ⟨h1, h2⟩)]
   refine Ev.if_neg (by simp) ?_
   cases top with
   | true => exact Ev.if_pos (by first | rfl | trivial) (Ev.now _)
   | false => exact Ev.if_neg (by simp) (Ev.now _)
  ·rw [show decide ((hi.size : Int) > 13) = true from decide_eq_true (by omega), if_neg (show ¬ (lo.size ≤ 13 ∧ hi.size ≤ 13) from fun h => h2 h.2)]
   exact Ev.if_pos (by first | rfl | trivial) (Ev.now _)
 ·rw [if_neg (show ¬ (lo.size ≤ 13 ∧ hi.size ≤ 13) from fun h => h1 h.1)]
  exact Ev.if_pos (by omega) (Ev.step (fun k => by simp only [key_May.j0]; rfl) (Ev.if_pos (by first | rfl | trivial) (Ev.now _)))
theorem refRange_ev (lo hi : ByteArray) (top : Bool) : Ev (fun k => quorumref1_Range.f k lo hi top) (rangeOK lo hi top) := by
 unfold quorumref1_Range.f rangeOK
 by_cases h1 : lo.size ≤ 13
 ·refine Ev.if_neg (by omega) (Ev.step (fun k => by simp only [quorumref1_Range.j0]; rfl) ?_)
  by_cases h2 : hi.size ≤ 13
  ·rw [show decide ((hi.size : Int) > 13) = false from decide_eq_false (by omega), if_pos (show lo.size ≤ 13 ∧ hi.size ≤ 13 from ⟨h1, h2⟩)]
   refine Ev.if_neg (by simp) ?_
   cases top with
   | true => exact Ev.if_pos (by first | rfl | trivial) (Ev.now _)
   | false => exact Ev.if_neg (by simp) (Ev.now _)
  ·rw [show decide ((hi.size : Int) > 13) = true from decide_eq_true (by omega), if_neg (show ¬ (lo.size ≤ 13 ∧ hi.size ≤ 13) from fun h => h2 h.2)]
   exact Ev.if_pos (by first | rfl | trivial) (Ev.now _)
 ·rw [if_neg (show ¬ (lo.size ≤ 13 ∧ hi.size ≤ 13) from fun h => h1 h.1)]
  exact Ev.if_pos (by omega) (Ev.step (fun k => by simp only [quorumref1_Range.j0]; rfl) (Ev.if_pos (by first | rfl | trivial) (Ev.now _)))
def asksOK (lo hi : ByteArray) (top : Bool) (m : Int) : Bool := rangeOK lo hi top && decide (0 ≤ m ∧ m ≤ 1073741824)
theorem Asks_ev (lo hi : ByteArray) (top : Bool) (m : Int) : Ev (fun k => table_Asks.f k lo hi top m) (asksOK lo hi top m) := by
 unfold table_Asks.f asksOK
 refine Ev.bind (keyMay_ev lo hi top) ?_
 cases rangeOK lo hi top with
 | true =>
  refine Ev.if_pos (by first | rfl | trivial) ?_
  rw [Bool.true_and]
  by_cases h : 0 ≤ m
  ·rw [show decide (0 ≤ m ∧ m ≤ 1073741824) = decide (m ≤ 1073741824) by rw [decide_eq_decide]; omega]
   exact Ev.if_pos h (Ev.now _)
  ·rw [show decide (0 ≤ m ∧ m ≤ 1073741824) = false from decide_eq_false (fun h2 => h h2.1)]
   exact Ev.if_neg h (Ev.now _)
 | false => exact Ev.if_neg (by simp) (Ev.now _)
theorem Has_eq (lo hi : ByteArray) (top : Bool) (x : Rw) : quorumref1_Has.f lo hi top x.f0 = some (HSome.keep lo hi top x) := by
 unfold quorumref1_Has.f HSome.keep
 cases Op.bytesLess x.f0.toList lo.toList <;> cases top <;> simp
section
variable (l : List Rw) (lo hi : ByteArray) (top back : Bool) (n : Int) (hl : l.length ≤ 1000000)
def turned : List Rw := if back = true then l.reverse else l
theorem turned_len : (turned l back).length = l.length := by unfold turned; split <;> simp
include hl
theorem refRows_from (d : Nat) : ∀ (j : Nat) (acc : List Rw), j + d = l.length → acc.length ≤ j →
  Ev (fun k => quorumref6_Rows.l0 k l n back acc (j : Int) lo hi top) (acc ++ (((turned l back).drop j).filter (HSome.keep lo hi top)).take (n.toNat - acc.length)) := by
 have htl := turned_len l back
 induction d with
 | zero =>
  intro j acc hj ha
  rw [List.drop_eq_nil_of_le (by omega)]
  exact Ev.step (fun k => by simp only [quorumref6_Rows.l0]; rfl) (Ev.if_neg (by omega) (by simpa using Ev.now acc))
 | succ d ih =>
  intro j acc hj ha
  have hlt : j < l.length := by omega
  have hjt : j < (turned l back).length := by omega
  have key : ∀ q : Nat, (hq : q < l.length) → l[q] = (turned l back)[j] → Ev (fun k => quorumref6_Rows.j1 k l n back acc (j : Int) (q : Int) lo hi top) (acc ++ (((turned l back).drop j).filter (HSome.keep lo hi top)).take (n.toNat - acc.length)) := fun q hq hx => by
   rw [List.drop_eq_getElem_cons hjt, ← hx]
   have skip : ∀ r, r = acc ++ (((turned l back).drop (j + 1)).filter (HSome.keep lo hi top)).take (n.toNat - acc.length) → Ev (fun k => quorumref6_Rows.j2 k l n back acc (j : Int) (q : Int) false lo hi top) r := fun r hr => by
    subst hr
    refine Ev.step (fun k => by simp only [quorumref6_Rows.j2]; rfl) (Ev.if_neg (by simp) ?_)
    rw [wrap_succ j (by omega)]
    exact ih (j + 1) acc (by omega) (by omega)
   refine Ev.step (fun k => by simp only [quorumref6_Rows.j1]; rfl) ?_
   by_cases hn : (acc.length : Int) < n
   ·refine Ev.if_pos hn (Ev.if_pos (by omega) (Ev.if_pos (by omega) ?_))
    rw [rdr_at l q hq]
    refine Ev.bind0 (Has_eq lo hi top l[q]) ?_
    cases hk : HSome.keep lo hi top l[q] with
    | true =>
     rw [List.filter_cons_of_pos hk]
     refine Ev.step (fun k => by simp only [quorumref6_Rows.j2]; rfl) (Ev.if_pos (by first | rfl | trivial) (Ev.if_pos (by omega) (Ev.if_pos (by omega) (Ev.if_pos (by omega) ?_))))
     rw [rdr_at l q hq, wrap_succ j (by omega)]
     have h := ih (j + 1) (acc ++ [⟨(l[q]).f0, (l[q]).f1⟩]) (by omega) (by simp; omega)
     have e : n.toNat - acc.length = (n.toNat - (acc ++ [(⟨(l[q]).f0, (l[q]).f1⟩ : Rw)]).length) + 1 := by simp; omega
     rw [e, List.take_succ_cons]
     rw [List.append_assoc] at h
     exact h
    | false =>
     rw [List.filter_cons_of_neg (by simp [hk])]
     exact skip _ rfl
   ·refine Ev.if_neg hn (skip _ ?_)
    rw [show n.toNat - acc.length = 0 by omega, List.take_zero, List.take_zero]
  refine Ev.step (fun k => by simp only [quorumref6_Rows.l0]; rfl) (Ev.if_pos (by omega) ?_)
  cases back with
  | true =>
   refine Ev.if_pos (by first | rfl | trivial) ?_
   rw [show wrap64 (wrap64 ((l.length : Int) - 1) - (j : Int)) = ((l.length - 1 - j : Nat) : Int) by unfold wrap64; omega]
   exact key _ (by omega) (by simp only [turned, if_true, List.getElem_reverse])
  | false =>
   refine Ev.if_neg (by simp) ?_
   exact key _ hlt (by simp [turned])
theorem refRows_ev : Ev (fun k => quorumref6_Rows.f k l lo hi top n back) (HSome.someOf l lo hi top n back) := by
 have h := refRows_from l lo hi top back n hl l.length 0 [] (by omega) (by simp)
 have e : HSome.someOf l lo hi top n back = [] ++ (((turned l back).drop 0).filter (HSome.keep lo hi top)).take (n.toNat - ([] : List Rw).length) := by
  unfold HSome.someOf turned
  cases back <;> simp [List.filter_reverse]
 rw [e]
 exact h
end
section
variable (l : List Ch) (lo hi : ByteArray) (top back : Bool) (n m : Int) (hl : l.length ≤ 1000000) (hv : ∀ c ∈ l, c.f1.length ≤ 1000000)
include hl hv
open Classical in
theorem Scan_ev : Ev (fun k => table_Scan.f k l lo hi top n m back) (if TabOK l ∧ asksOK lo hi top m = true then (HSome.someOf (rowsT l n) lo hi top m back, 0) else ([], 1)) := by
 have hr := rowsT_len l n
 unfold table_Scan.f
 refine Ev.bind (tabMay_ev l hl hv) ?_
 have no : Ev (fun k => table_Scan.j0 k n m back true l lo hi top) ([], 1) := Ev.step (fun k => by simp only [table_Scan.j0]; rfl) (Ev.if_pos (by first | rfl | trivial) (Ev.now _))
 by_cases h : TabOK l
 ·refine Ev.if_pos (by simpa using h) (Ev.bind (Asks_ev lo hi top m) ?_)
  by_cases ha : asksOK lo hi top m = true
  ·rw [ha, if_pos ⟨h, rfl⟩]
   have hm : 0 ≤ m := by
    unfold asksOK at ha
    simp only [Bool.and_eq_true, decide_eq_true_eq] at ha
    exact ha.2.1
   refine Ev.step (fun k => by simp only [table_Scan.j0]; rfl) (Ev.if_neg (by simp) (Ev.bind (Rows_ev l n hl hv) ?_))
   refine Ev.bind0 (a := HSome.someOf (rowsT l n) lo hi top m back) (by unfold table_Some.f; rw [if_pos ⟨by omega, hm⟩]) (Ev.now _)
  ·rw [if_neg (show ¬ (TabOK l ∧ asksOK lo hi top m = true) from fun h2 => ha h2.2), show asksOK lo hi top m = false from Bool.eq_false_iff.2 ha]
   exact no
 ·rw [if_neg (show ¬ (TabOK l ∧ asksOK lo hi top m = true) from fun h2 => h h2.1)]
  exact Ev.if_neg (by simpa using h) no
open Classical in
theorem Get_ev (key : ByteArray) : ∃ r : ByteArray × Bool, Ev (fun k => table_Get.f k l key n) (if TabOK l ∧ keyOK key = true then (if r.2 = true then (r.1, 0) else (⟨#[]⟩, 3)) else (⟨#[]⟩, 1)) ∧ (TabOK l → Ev (fun q => quorumref8_Get.f q l key n) r ∧ (r.2 = false → r.1 = ⟨#[]⟩)) := by
 by_cases h : TabOK l
 ·obtain ⟨r, e1, e2, e3⟩ := look_get l key n hl hv h.asc
  refine ⟨r, ?_, fun _ => ⟨e2, e3⟩⟩
  unfold table_Get.f
  refine Ev.bind (tabMay_ev l hl hv) (Ev.if_pos (by simpa using h) (Ev.bind0 (key_Is_eq key) ?_))
  by_cases hk : keyOK key = true
  ·rw [if_pos (show TabOK l ∧ keyOK key = true from ⟨h, hk⟩), hk]
   refine Ev.step (fun k => by simp only [table_Get.j0]; rfl) (Ev.if_neg (by simp) (Ev.bind e1 ?_))
   by_cases hr : r.2 = true
   ·rw [show (if r.2 = true then (r.1, (0 : Int)) else (⟨#[]⟩, 3)) = (r.1, 0) from if_pos hr]; exact Ev.if_pos hr (Ev.now _)
   ·rw [show (if r.2 = true then (r.1, (0 : Int)) else (⟨#[]⟩, 3)) = (⟨#[]⟩, 3) from if_neg hr]; exact Ev.if_neg hr (Ev.now _)
  ·rw [if_neg (show ¬ (TabOK l ∧ keyOK key = true) from fun h2 => hk h2.2), show keyOK key = false from Bool.eq_false_iff.2 hk]
   exact Ev.step (fun k => by simp only [table_Get.j0]; rfl) (Ev.if_pos (by first | rfl | trivial) (Ev.now _))
 ·refine ⟨(⟨#[]⟩, false), ?_, fun h2 => absurd h2 h⟩
  rw [if_neg (show ¬ (TabOK l ∧ keyOK key = true) from fun h2 => h h2.1)]
  unfold table_Get.f
  exact Ev.bind (tabMay_ev l hl hv) (Ev.if_neg (by simpa using h) (Ev.step (fun k => by simp only [table_Get.j0]; rfl) (Ev.if_pos (by first | rfl | trivial) (Ev.now _))))
end
end Go.Proofs.Ytbaecdcfefmcgaa.HTable
set_option linter.unusedSimpArgs false
set_option linter.unusedVariables false
set_option linter.unusedSectionVars false
namespace Go.Proofs.Ytbaecdcfefmcgaa.HTable
open Go.RowKit Go.Proofs.Ytbaecdcfefmcgaa.PTbe Go.Proofs.Ytbaecdcfefmcgaa.HNum Go.Proofs.Ytbaecdcfefmcgaa.HChain Go.Proofs.YtbaecdcfefmcgaaW.PrintWords Go.Proofs.YtbaecdcfefmcgaaW.PrintLast
def Wf (N : Nat) (l : List Ch) : Prop := l.length ≤ N ∧ ∀ c ∈ l, c.f1.length ≤ N
theorem Wf.up {N M : Nat} {l : List Ch} (h : Wf N l) (hm : N ≤ M) : Wf M l := ⟨Nat.le_trans h.1 hm, fun c hc => Nat.le_trans (h.2 c hc) hm⟩
theorem Wf.nil (N : Nat) : Wf N [] := ⟨Nat.zero_le _, fun c hc => by cases hc⟩
theorem Wf.left {N : Nat} {l : List Ch} (h : Wf N l) (n : Int) : Wf N (leftT l n) := ⟨Nat.le_trans (leftT_len l n) h.1, fun c hc => by
 obtain ⟨c0, h0, rfl, _⟩ := leftT_mem hc
 exact Nat.le_trans (left_len _ _) (h.2 c0 h0)⟩
theorem keyOK_of {a k : ByteArray} (h : (a.toList == k.toList) = true) (ha : keyOK a = true) : keyOK k = true := by
 have h2 : a.toList = k.toList := by simpa using h
 rw [ByteArray.toList_eq, ByteArray.toList_eq] at h2
 have h3 : a.data = k.data := Array.toList_inj.1 h2
 have h4 : a.size = k.size := by show a.data.size = k.data.size; rw [h3]
 unfold keyOK at ha ⊢
 rw [← h4]
 exact ha
section
variable (N : Nat) (l : List Ch) (k : ByteArray) (v : V) (hw : Wf N l) (hN : N < 1000000)
include hw hN
theorem putj (p : Nat) (is : Bool) (ck : ByteArray) (cl : List V) (hp : p ≤ l.length) (hi : is = true → p < l.length) (hc : cl.length ≤ N + 1) :
  ∃ r : List Ch × Int, Wf (N + 1) r.1 ∧ Ev (fun q => table_Put.j0 q (p : Int) is 0 l ck cl) r ∧ (r.2 ≠ 0 → r.1 = []) ∧
   (r = if 64 ≤ sums l then ([], 5) else (l.take p ++ ⟨ck, cl⟩ :: l.drop (if is = true then p + 1 else p), 0)) := by
 have hl : l.length ≤ 1000000 := Nat.le_trans hw.1 (by omega)
 have hv : ∀ c ∈ l, c.f1.length ≤ 1000000 := fun c hc => Nat.le_trans (hw.2 c hc) (by omega)
 have h1 := hw.1
 by_cases hs : 64 ≤ sums l
 ·refine ⟨([], 5), Wf.nil _, ?_, fun _ => rfl, by rw [if_pos hs]⟩
  refine Ev.step (fun q => by simp only [table_Put.j0]; rfl) (Ev.if_pos (by first | rfl | trivial) (Ev.bind (Rooms_ev l hl hv) ?_))
  exact Ev.if_pos (by show ((sums l : Nat) : Int) ≥ 64; omega) (Ev.now _)
 ·have hlen : (l.take p ++ (⟨ck, cl⟩ : Ch) :: l.drop (if is = true then p + 1 else p)).length ≤ N + 1 := by
   simp only [List.length_append, List.length_take, List.length_cons, List.length_drop]
   split <;> omega
  refine ⟨(l.take p ++ ⟨ck, cl⟩ :: l.drop (if is = true then p + 1 else p), 0), ⟨hlen, fun c hc2 => ?_⟩, ?_, fun h => absurd rfl h, by rw [if_neg hs]⟩
  ·rcases List.mem_append.1 hc2 with h | h
   ·exact Nat.le_trans (hw.2 c (List.mem_of_mem_take h)) (by omega)
   ·rcases List.mem_cons.1 h with rfl | h
    ·exact hc
    ·exact Nat.le_trans (hw.2 c (List.mem_of_mem_drop h)) (by omega)
  ·refine Ev.step (fun q => by simp only [table_Put.j0]; rfl) (Ev.if_pos (by first | rfl | trivial) (Ev.bind (Rooms_ev l hl hv) ?_))
   refine Ev.if_neg (by show ¬ ((sums l : Nat) : Int) ≥ 64; omega) ?_
   cases is with
   | true =>
    have hlt := hi rfl
    refine Ev.if_pos (by first | rfl | trivial) (Ev.if_pos (by omega) (Ev.if_pos (by omega) ?_))
    rw [Int.toNat_natCast, if_pos rfl, List.set_eq_take_append_cons_drop, if_pos hlt]
    exact Ev.now _
   | false =>
    refine Ev.if_neg (by simp) ?_
    rw [if_neg (by simp)]
    refine Ev.bind0 (a := l.take p ++ ⟨ck, cl⟩ :: l.drop p) ?_ (Ev.now _)
    unfold api_Chain_129.f
    rw [if_pos ⟨rfl, by omega, by omega, by omega⟩, Int.toNat_natCast, List.append_assoc]
    rfl
theorem refj (p : Nat) (is : Bool) (ck : ByteArray) (cl : List V) (hp : p ≤ l.length) (hi : is = true → p < l.length) (hc : cl.length ≤ N + 1) (hm : May ck cl) :
  Ev (fun q => quorumref8_Put.j0 q (p : Int) (l.drop (if is = true then p + 1 else p)) l ck cl) (if 64 ≤ sums l then ([], 5) else (l.take p ++ ⟨ck, cl⟩ :: l.drop (if is = true then p + 1 else p), 0)) := by
 classical
 have hl : l.length ≤ 1000000 := Nat.le_trans hw.1 (by omega)
 have hv : ∀ c ∈ l, c.f1.length ≤ 1000000 := fun c hc => Nat.le_trans (hw.2 c hc) (by omega)
 refine Ev.step (fun q => by simp only [quorumref8_Put.j0]; rfl) (Ev.bind (ref_ev ck cl (by omega)) ?_)
 refine Ev.if_pos (by simpa using hm) (Ev.bind (Count_ev l hl hv) ?_)
 by_cases hs : 64 ≤ sums l
 ·rw [if_pos hs]
  exact Ev.if_pos (by show ((sums l : Nat) : Int) ≥ 64; omega) (Ev.now _)
 ·rw [if_neg hs]
  refine Ev.if_neg (by show ¬ ((sums l : Nat) : Int) ≥ 64; omega) (Ev.if_pos (by omega) (Ev.if_pos (by omega) ?_))
  rw [Int.toNat_natCast]
  refine Ev.bind (copyCh_ev (l.take p) (by rw [List.length_take]; omega) (fun c hc => hv c (List.mem_of_mem_take hc))) ?_
  refine Ev.bind0 rfl ?_
  refine Ev.if_pos (by simp only [List.length_take, List.length_cons, List.length_nil]; omega) ?_
  refine Ev.bind0 rfl ?_
  refine Ev.bind (copyCh_ev _ (by rw [List.length_drop]; omega) (fun c hc => hv c (List.mem_of_mem_drop hc))) ?_
  refine Ev.if_pos (by simp only [List.length_append, List.length_take, List.length_cons, List.length_nil, List.length_drop]; omega) ?_
  rw [List.append_assoc]
  exact Ev.now _
open Classical in
theorem put_ev : ∃ r : List Ch × Int, Wf (N + 1) r.1 ∧ Ev (fun q => table_Put.f q l k v.f0 v.f1 v.f2) r ∧ (¬ (TabOK l ∧ keyOK k = true) → r = ([], 1)) ∧ (TabOK l → keyOK k = true → Ev (fun q => quorumref8_Put.f q l k v.f0 v.f1 v.f2) r) := by
 have hl : l.length ≤ 1000000 := Nat.le_trans hw.1 (by omega)
 have hv : ∀ c ∈ l, c.f1.length ≤ 1000000 := fun c hc => Nat.le_trans (hw.2 c hc) (by omega)
 by_cases ht : TabOK l
 ·obtain ⟨p, hp, e⟩ := seek_ev l k ht.asc
  obtain ⟨p2, hp2, e2⟩ := place_from l k hl l.length 0 (by omega) (fun m h h2 => absurd h2 (by omega)) ht.asc
  obtain rfl := hp.one hp2
  have hple := hp.le
  have start : ∀ r, Ev (fun q => if (if h : p < l.length then ((l[p]).f0.toList == k.toList) else false) = true then (if 0 ≤ (p : Int) then (if (p : Int) < (l.length : Int) then ((chain_Add.f q ((rd_T99 l (p : Int)).f0) ((rd_T99 l (p : Int)).f1) v.f0 v.f1 v.f2).bind fun bt => (table_Put.j0 q (p : Int) (if h : p < l.length then ((l[p]).f0.toList == k.toList) else false) bt.2.2 l bt.1 bt.2.1)) else (none)) else (none)) else ((chain_New.f q k v.f0 v.f1 v.f2).bind fun bt => (table_Put.j0 q (p : Int) (if h : p < l.length then ((l[p]).f0.toList == k.toList) else false) bt.2.2 l bt.1 bt.2.1))) r → Ev (fun q => table_Put.f q l k v.f0 v.f1 v.f2) r := fun r h => by
   unfold table_Put.f
   exact Ev.bind (tabMay_ev l hl hv) (Ev.if_pos (by simpa using ht) (Ev.bind (Own_ev l hl hv) (Ev.bind0 e h)))
  have rstart : ∀ r, Ev (fun q => if (if h : p < l.length then ((l[p]).f0.toList == k.toList) else false) = true then (if (p : Int) < (l.length : Int) then ((quorumref8_Add.f q ((rd_T99 l (p : Int)).f0) ((rd_T99 l (p : Int)).f1) v.f0 v.f1 v.f2).bind fun bt => (if 1 ≤ ((l.drop p).length : Int) then (quorumref8_Put.j0 q (p : Int) ((l.drop p).drop 1) l bt.1 bt.2) else (none))) else (none)) else (quorumref8_Put.j0 q (p : Int) (l.drop p) l k [(⟨v.f0, v.f1, v.f2⟩ : V)])) r → Ev (fun q => quorumref8_Put.f q l k v.f0 v.f1 v.f2) r := fun r h => by
   unfold quorumref8_Put.f
   refine Ev.bind (a := ((p : Int), if h : p < l.length then ((l[p]).f0.toList == k.toList) else false)) (by unfold quorumref8_place.f; exact e2) ?_
   refine Ev.if_pos (by omega) (Ev.if_pos (by omega) (Ev.bind0 rfl ?_))
   rw [Int.toNat_natCast]
   exact h
  generalize his : (if h : p < l.length then ((l[p]).f0.toList == k.toList) else false) = is at start rstart
  have hi : is = true → p < l.length := fun h => by
   by_cases h2 : p < l.length
   ·exact h2
   ·rw [dif_neg h2] at his; rw [← his] at h; cases h
  cases is with
  | true =>
   have hlt := hi rfl
   rw [dif_pos hlt] at his
   have hk := keyOK_of his (ht.each _ (List.getElem_mem hlt)).2.1
   have hmay := ht.each l[p] (List.getElem_mem hlt)
   have hcl := hw.2 l[p] (List.getElem_mem hlt)
   by_cases h2 : May (l[p]).f0 (v :: (l[p]).f1)
   ·obtain ⟨r, hr, er, hz, hval⟩ := putj N l hw hN p true (l[p]).f0 (v :: (l[p]).f1) hple hi (by simp; omega)
    refine ⟨r, hr, start r ?_, fun h => absurd ⟨ht, hk⟩ h, fun _ _ => rstart r ?_⟩
    ·refine Ev.if_pos (by first | rfl | trivial) (Ev.if_pos (by omega) (Ev.if_pos (by omega) ?_))
     rw [rdt_at l p hlt]
     refine Ev.bind (Add_ev (l[p]).f0 (l[p]).f1 v (by omega)) ?_
     rw [if_pos (show May (l[p]).f0 (l[p]).f1 ∧ May (l[p]).f0 (v :: (l[p]).f1) from ⟨hmay, h2⟩)]
     exact er
    ·refine Ev.if_pos (by first | rfl | trivial) (Ev.if_pos (by omega) ?_)
     rw [rdt_at l p hlt]
     refine Ev.bind (refAdd_ev (l[p]).f0 (l[p]).f1 v (by omega)) ?_
     refine Ev.if_pos (by rw [List.length_drop]; omega) ?_
     rw [List.drop_drop, hval]
     exact refj N l hw hN p true (l[p]).f0 (v :: (l[p]).f1) hple hi (by simp; omega) h2
   ·refine ⟨([], 1), Wf.nil _, start _ ?_, fun _ => rfl, fun _ _ => rstart _ ?_⟩
    ·refine Ev.if_pos (by first | rfl | trivial) (Ev.if_pos (by omega) (Ev.if_pos (by omega) ?_))
     rw [rdt_at l p hlt]
     refine Ev.bind (Add_ev (l[p]).f0 (l[p]).f1 v (by omega)) ?_
     rw [if_neg (show ¬ (May (l[p]).f0 (l[p]).f1 ∧ May (l[p]).f0 (v :: (l[p]).f1)) from fun h => h2 h.2)]
     exact Ev.step (fun q => by simp only [table_Put.j0]; rfl) (Ev.if_neg (by simp) (Ev.now _))
    ·refine Ev.if_pos (by first | rfl | trivial) (Ev.if_pos (by omega) ?_)
     rw [rdt_at l p hlt]
     refine Ev.bind (refAdd_ev (l[p]).f0 (l[p]).f1 v (by omega)) ?_
     refine Ev.if_pos (by rw [List.length_drop]; omega) ?_
     refine Ev.step (fun q => by simp only [quorumref8_Put.j0]; rfl) (Ev.bind (ref_ev _ _ (by simp; omega)) ?_)
     exact Ev.if_neg (by simpa using h2) (Ev.now _)
  | false =>
   by_cases h2 : keyOK k = true ∧ vOK v = true
   ·obtain ⟨r, hr, er, hz, hval⟩ := putj N l hw hN p false k [v] hple hi (by simp)
    refine ⟨r, hr, start r ?_, fun h => absurd ⟨ht, h2.1⟩ h, fun _ _ => rstart r ?_⟩
    ·refine Ev.if_neg (by simp) (Ev.bind (New_ev k v) ?_)
     rw [if_pos h2]
     exact er
    ·refine Ev.if_neg (by simp) ?_
     rw [hval]
     exact refj N l hw hN p false k [v] hple hi (by simp) ((May_one k v).2 h2)
   ·refine ⟨([], 1), Wf.nil _, start _ ?_, fun _ => rfl, fun _ hk => rstart _ ?_⟩
    ·refine Ev.if_neg (by simp) (Ev.bind (New_ev k v) ?_)
     rw [if_neg h2]
     exact Ev.step (fun q => by simp only [table_Put.j0]; rfl) (Ev.if_neg (by simp) (Ev.now _))
    ·refine Ev.if_neg (by simp) ?_
     refine Ev.step (fun q => by simp only [quorumref8_Put.j0]; rfl) (Ev.bind (ref_ev k [v] (by simp)) ?_)
     exact Ev.if_neg (by simpa using fun h => h2 ((May_one k v).1 h)) (Ev.now _)
 ·refine ⟨([], 1), Wf.nil _, ?_, fun _ => rfl, fun h => absurd h ht⟩
  unfold table_Put.f
  exact Ev.bind (tabMay_ev l hl hv) (Ev.if_neg (by simpa using ht) (Ev.now _))
end
end Go.Proofs.Ytbaecdcfefmcgaa.HTable
set_option linter.unusedSimpArgs false
set_option linter.unusedVariables false
set_option linter.unusedSectionVars false
namespace Go.Proofs.Ytbaecdcfefmcgaa.HTable
open Go.RowKit Go.Proofs.Ytbaecdcfefmcgaa.PTbe Go.Proofs.Ytbaecdcfefmcgaa.HNum Go.Proofs.Ytbaecdcfefmcgaa.HChain Go.Proofs.YtbaecdcfefmcgaaW.PrintWords Go.Proofs.YtbaecdcfefmcgaaW.PrintLast
theorem num_eq (e : Int) : quorumlaw9_num.f e = some e := rfl
theorem within9 (a : Int) : ∃ t, quorumlaw0_Within.f a 9 = some t := by
 unfold quorumlaw0_Within.f
 rw [if_neg (by decide)]
 exact ⟨_, rfl⟩
theorem Num_eq (a b : Int) : quorumref0_Num.f a b = some (decide (0 ≤ a ∧ a ≤ b)) := by
 unfold quorumref0_Num.f
 by_cases h : a ≥ 0
 ·rw [if_pos h]; simp [h]
 ·rw [if_neg h]; congr 1; symm; rw [decide_eq_false_iff_not]; omega
theorem someOf_len (l : List Rw) (lo hi : ByteArray) (top : Bool) (m : Int) (back : Bool) : (HSome.someOf l lo hi top m back).length ≤ l.length := by
 unfold HSome.someOf
 rw [List.length_take]
 have := List.length_filter_le (HSome.keep lo hi top) l
 split
 ·rw [List.length_reverse]; omega
 ·omega
section
variable (N : Nat) (l : List Ch) (hw : Wf N l) (hN : N < 1000000)
include hw hN
open Classical in
theorem check_ev : Ev (fun k => table_Check.f k l) (if TabOK l then 0 else 1) := by
 have hl : l.length ≤ 1000000 := Nat.le_trans hw.1 (by omega)
 have hv : ∀ c ∈ l, c.f1.length ≤ 1000000 := fun c hc => Nat.le_trans (hw.2 c hc) (by omega)
 unfold table_Check.f
 refine Ev.bind (tabMay_ev l hl hv) ?_
 by_cases h : TabOK l
 ·rw [if_pos h]; exact Ev.if_pos (by simpa using h) (Ev.now _)
 ·rw [if_neg h]; exact Ev.if_neg (by simpa using h) (Ev.now _)
theorem same_ev : Ev (fun k => quorumref0_EqTable.f k l l) true := EqTable_same l (Nat.le_trans hw.1 (by omega)) (fun c hc => Nat.le_trans (hw.2 c hc) (by omega))
open Classical in
theorem told (bad : Int) (X : List Ch) (hX : Wf (N + 1) X) : ∃ r : List Ch, Wf (N + 1) r ∧ Ev (fun k => quorumlaw9_step.j6 k (decide (TabOK l)) bad bad l l X X) (r, true) := by
 have hxl : X.length ≤ 1000000 := Nat.le_trans hX.1 (by omega)
 have hxv : ∀ c ∈ X, c.f1.length ≤ 1000000 := fun c hc => Nat.le_trans (hX.2 c hc) (by omega)
 have e1 := EqTable_same X hxl hxv
 have e2 := same_ev N l hw hN
 have hc := check_ev N l hw hN
 have hb : (((if TabOK l then (0 : Int) else 1) == 0) != decide (TabOK l)) = false := by by_cases h : TabOK l <;> simp [h]
 have start : ∀ r : List Ch × Bool, Ev (fun k => if bad = 0 then ((quorumref0_CopyTable.f k X).bind fun t => (some (t, true))) else (some (l, true))) r → Ev (fun k => quorumlaw9_step.j6 k (decide (TabOK l)) bad bad l l X X) r := fun r h => by
  refine Ev.step (fun k => by simp only [quorumlaw9_step.j6]; rfl) ?_
  refine Ev.bind0 (num_eq _) ?_
  refine Ev.if_pos (by first | rfl | trivial) ?_
  refine Ev.bind e1 ?_
  refine Ev.if_pos (by first | rfl | trivial) ?_
  refine Ev.bind e2 ?_
  refine Ev.if_pos (by first | rfl | trivial) ?_
  refine Ev.bind hc ?_
  refine Ev.bind0 (num_eq _) ?_
  rw [hb]
  refine Ev.step (fun k => by simp only [quorumlaw9_step.j7]; rfl) ?_
  refine Ev.if_neg (by simp) ?_
  refine Ev.bind0 (a := X) (if_pos (by omega)) ?_
  refine Ev.bind e2 ?_
  refine Ev.if_pos (by first | rfl | trivial) ?_
  exact h
 by_cases h0 : bad = 0
 ·exact ⟨X, hX, start _ (Ev.if_pos h0 (Ev.bind (copyT_ev X hxl hxv) (Ev.now _)))⟩
 ·exact ⟨l, hw.up (Nat.le_succ _), start _ (Ev.if_neg h0 (Ev.now _))⟩
open Classical in
theorem step_ev (d n m : Int) (key : ByteArray) (v : V) (lo hi : ByteArray) (top back : Bool) : ∃ r : List Ch, Wf (N + 1) r ∧ Ev (fun k => quorumlaw9_step.f k l d n m key v.f0 v.f1 v.f2 lo hi top back) (r, true) := by
 have hl : l.length ≤ 1000000 := Nat.le_trans hw.1 (by omega)
 have hv : ∀ c ∈ l, c.f1.length ≤ 1000000 := fun c hc => Nat.le_trans (hw.2 c hc) (by omega)
 have up : Wf (N + 1) l := hw.up (Nat.le_succ _)
 have e2 := same_ev N l hw hN
 obtain ⟨t, ht⟩ := within9 d
 have start : ∀ r, Ev (fun k => if t = 4 then ((table_Purge.f k l n).bind fun bt => (if decide (TabOK l) = true then ((quorumref8_PurgeAll.f k l n).bind fun t498 => (quorumlaw9_step.j6 k (decide (TabOK l)) 0 bt.2 l l bt.1 t498)) else (quorumlaw9_step.j6 k (decide (TabOK l)) 1 bt.2 l l bt.1 ([] : List Ch)))) else (if t = 5 then (quorumlaw9_step.j0 k (decide (TabOK l)) 1 t (t == 5) l d n m key v.f0 v.f1 v.f2 lo hi top back l) else (quorumlaw9_step.j0 k (decide (TabOK l)) 1 t (t == 6) l d n m key v.f0 v.f1 v.f2 lo hi top back l))) r → Ev (fun k => quorumlaw9_step.f k l d n m key v.f0 v.f1 v.f2 lo hi top back) r := fun r h => by
  unfold quorumlaw9_step.f
  exact Ev.bind (copyT_ev l hl hv) (Ev.bind (refTab_ev l hl hv) (Ev.bind0 ht h))
 have get : Ev (fun k => quorumlaw9_step.j0 k (decide (TabOK l)) 1 t true l d n m key v.f0 v.f1 v.f2 lo hi top back l) (l, true) := by
  obtain ⟨r, er, hr⟩ := Get_ev l n hl hv key
  have fin : ∀ (bad : Int) (s : ByteArray) (worse c : Int), Ev (fun k => quorumlaw9_step.j1 k bad s bad c worse worse c s l l) (l, true) := fun bad s worse c => by
   refine Ev.step (fun k => by simp only [quorumlaw9_step.j1]; rfl) ?_
   refine Ev.bind0 (num_eq _) ?_
   refine Ev.if_pos (by first | rfl | trivial) ?_
   refine Ev.if_pos (by first | rfl | trivial) ?_
   refine Ev.bind0 (num_eq _) ?_
   refine Ev.if_pos (by first | rfl | trivial) ?_
   refine Ev.if_pos (by first | rfl | trivial) ?_
   exact Ev.bind e2 (Ev.now _)
  refine Ev.step (fun k => by simp only [quorumlaw9_step.j0]; rfl) ?_
  refine Ev.if_pos (by first | rfl | trivial) ?_
  refine Ev.bind er ?_
  refine Ev.bind (tabCount_ev l hl hv) ?_
  by_cases h : TabOK l
  ·obtain ⟨eg, hg⟩ := hr h
   rw [show (if TabOK l then (((sums l : Nat) : Int), (0 : Int)) else (0, 1)) = (((sums l : Nat) : Int), 0) from if_pos h]
   refine Ev.if_pos (decide_eq_true h) ?_
   refine Ev.bind (Count_ev l hl hv) ?_
   refine Ev.bind0 (ref_Key_eq key) ?_
   by_cases hk : keyOK key = true
   ·rw [show (if TabOK l ∧ keyOK key = true then (if r.2 = true then (r.1, (0 : Int)) else (⟨#[]⟩, 3)) else (⟨#[]⟩, 1)) = (if r.2 = true then (r.1, (0 : Int)) else (⟨#[]⟩, 3)) from if_pos ⟨h, hk⟩]
    refine Ev.if_pos hk ?_
    refine Ev.bind eg ?_
    by_cases hr2 : r.2 = true
    ·rw [show (if r.2 = true then (r.1, (0 : Int)) else (⟨#[]⟩, 3)) = (r.1, 0) from if_pos hr2]
     exact Ev.if_pos hr2 (fin 0 r.1 0 _)
    ·rw [show (if r.2 = true then (r.1, (0 : Int)) else (⟨#[]⟩, 3)) = (⟨#[]⟩, 3) from if_neg hr2]
     exact Ev.if_neg hr2 (fin 3 _ 0 _)
   ·rw [show (if TabOK l ∧ keyOK key = true then (if r.2 = true then (r.1, (0 : Int)) else (⟨#[]⟩, 3)) else (⟨#[]⟩, 1)) = (⟨#[]⟩, 1) from if_neg (fun h2 => hk h2.2)]
    exact Ev.if_neg hk (fin 1 _ 0 _)
  ·rw [show (if TabOK l then (((sums l : Nat) : Int), (0 : Int)) else (0, 1)) = (0, 1) from if_neg h, show (if TabOK l ∧ keyOK key = true then (if r.2 = true then (r.1, (0 : Int)) else (⟨#[]⟩, 3)) else (⟨#[]⟩, 1)) = (⟨#[]⟩, 1) from if_neg (fun h2 => h h2.1)]
   exact Ev.if_neg (by simpa using h) (fin 1 _ 1 0)
 have scan : Ev (fun k => quorumlaw9_step.j2 k (decide (TabOK l)) 1 true l d n m key v.f0 v.f1 v.f2 lo hi top back l) (l, true) := by
  have hrl := rowsT_len l n
  have fin : ∀ (bad worse : Int) (a b : List Rw), a.length ≤ 1000000 → b.length ≤ 1000000 → Ev (fun k => quorumlaw9_step.j4 k bad a bad b worse worse a b l l) (l, true) := fun bad worse a b ha hb => by
   refine Ev.step (fun k => by simp only [quorumlaw9_step.j4]; rfl) ?_
   refine Ev.bind0 (num_eq _) ?_
   refine Ev.if_pos (by first | rfl | trivial) ?_
   refine Ev.bind (EqRows_same a (by omega)) ?_
   refine Ev.if_pos (by first | rfl | trivial) ?_
   refine Ev.bind0 (num_eq _) ?_
   refine Ev.if_pos (by first | rfl | trivial) ?_
   refine Ev.bind (EqRows_same b (by omega)) ?_
   refine Ev.if_pos (by first | rfl | trivial) ?_
   exact Ev.bind e2 (Ev.now _)
  refine Ev.step (fun k => by simp only [quorumlaw9_step.j2]; rfl) ?_
  refine Ev.if_pos (by first | rfl | trivial) ?_
  refine Ev.bind (Scan_ev l lo hi top back n m hl hv) ?_
  refine Ev.bind (Map_ev l n hl hv) ?_
  by_cases h : TabOK l
  ·rw [show (if TabOK l then (rowsT l n, (0 : Int)) else ([], 1)) = (rowsT l n, 0) from if_pos h]
   refine Ev.if_pos (decide_eq_true h) ?_
   refine Ev.bind (refMap_ev l n hl hv) ?_
   refine Ev.bind (refRange_ev lo hi top) ?_
   by_cases ha : asksOK lo hi top m = true
   ·rw [show (if TabOK l ∧ asksOK lo hi top m = true then (HSome.someOf (rowsT l n) lo hi top m back, (0 : Int)) else ([], 1)) = (HSome.someOf (rowsT l n) lo hi top m back, 0) from if_pos ⟨h, ha⟩]
    unfold asksOK at ha
    rw [Bool.and_eq_true] at ha
    refine Ev.if_pos ha.1 ?_
    refine Ev.bind0 (Num_eq _ _) ?_
    rw [ha.2]
    refine Ev.step (fun k => by simp only [quorumlaw9_step.j3]; rfl) ?_
    refine Ev.if_pos (by first | rfl | trivial) ?_
    refine Ev.bind (refRows_ev (rowsT l n) lo hi top back m (by omega)) ?_
    exact fin 0 0 _ _ (Nat.le_trans (someOf_len _ _ _ _ _ _) (by omega)) (by omega)
   ·rw [show (if TabOK l ∧ asksOK lo hi top m = true then (HSome.someOf (rowsT l n) lo hi top m back, (0 : Int)) else ([], 1)) = ([], 1) from if_neg (fun h2 => ha h2.2)]
    have no : Ev (fun k => quorumlaw9_step.j3 k 1 ([] : List Rw) 1 (rowsT l n) 0 0 ([] : List Rw) (rowsT l n) false l d n m key v.f0 v.f1 v.f2 lo hi top back l) (l, true) := Ev.step (fun k => by simp only [quorumlaw9_step.j3]; rfl) (Ev.if_neg (by simp) (fin 1 0 _ _ (by simp) (by omega)))
    by_cases hrg : rangeOK lo hi top = true
    ·refine Ev.if_pos hrg ?_
     refine Ev.bind0 (Num_eq _ _) ?_
     have hn : decide (0 ≤ m ∧ m ≤ 1073741824) = false := by
      cases hd : decide (0 ≤ m ∧ m ≤ 1073741824) with
      | false => rfl
      | true => exact absurd (by unfold asksOK; rw [hrg, hd]; rfl) ha
     rw [hn]
     exact no
    ·exact Ev.if_neg hrg no
  ·rw [show (if TabOK l then (rowsT l n, (0 : Int)) else ([], 1)) = ([], 1) from if_neg h, show (if TabOK l ∧ asksOK lo hi top m = true then (HSome.someOf (rowsT l n) lo hi top m back, (0 : Int)) else ([], 1)) = ([], 1) from if_neg (fun h2 => h h2.1)]
   exact Ev.if_neg (by simpa using h) (fin 1 1 _ _ (by simp) (by simp))
 have put : ∃ r : List Ch, Wf (N + 1) r ∧ Ev (fun k => quorumlaw9_step.j2 k (decide (TabOK l)) 1 false l d n m key v.f0 v.f1 v.f2 lo hi top back l) (r, true) := by
  obtain ⟨p, hp, ep, hno, hyes⟩ := put_ev N l key v hw hN
  have top_ : ∀ r, (∀ b : Bool, b = (decide (TabOK l) && keyOK key) → Ev (fun k => quorumlaw9_step.j5 k (decide (TabOK l)) 1 p.2 b l d n m key v.f0 v.f1 v.f2 lo hi top back l p.1) r) → Ev (fun k => quorumlaw9_step.j2 k (decide (TabOK l)) 1 false l d n m key v.f0 v.f1 v.f2 lo hi top back l) r := fun r h => by
   refine Ev.step (fun k => by simp only [quorumlaw9_step.j2]; rfl) ?_
   refine Ev.if_neg (by simp) ?_
   refine Ev.bind ep ?_
   by_cases ht2 : TabOK l
   ·refine Ev.if_pos (decide_eq_true ht2) ?_
    refine Ev.bind0 (ref_Key_eq key) ?_
    exact h _ (by rw [decide_eq_true ht2, Bool.true_and])
   ·refine Ev.if_neg (by simpa using ht2) ?_
    exact h _ (by rw [decide_eq_false ht2, Bool.false_and])
  by_cases h : TabOK l ∧ keyOK key = true
  ·obtain ⟨r, hr, er⟩ := told N l hw hN p.2 p.1 hp
   refine ⟨r, hr, top_ _ (fun b hb => ?_)⟩
   rw [show b = true by rw [hb, decide_eq_true h.1, h.2]; rfl]
   refine Ev.step (fun k => by simp only [quorumlaw9_step.j5]; rfl) ?_
   refine Ev.if_pos (by first | rfl | trivial) ?_
   refine Ev.bind (hyes h.1 h.2) ?_
   exact er
  ·have hpe := hno h
   obtain ⟨r, hr, er⟩ := told N l hw hN 1 [] (Wf.nil _)
   refine ⟨r, hr, top_ _ (fun b hb => ?_)⟩
   rw [show b = false by
    rw [hb]
    cases hk : keyOK key with
    | false => rw [Bool.and_false]
    | true => rw [decide_eq_false (fun h2 => h ⟨h2, hk⟩)]; rfl, hpe]
   refine Ev.step (fun k => by simp only [quorumlaw9_step.j5]; rfl) ?_
   refine Ev.if_neg (by simp) ?_
   exact er
 by_cases h4 : t = 4
 ·by_cases h : TabOK l
  ·obtain ⟨r, hr, er⟩ := told N l hw hN 0 (leftT l n) ((hw.left n).up (Nat.le_succ _))
   refine ⟨r, hr, start _ (Ev.if_pos h4 ?_)⟩
   refine Ev.bind (Purge_ev l n hl hv) ?_
   rw [show (if TabOK l then (leftT l n, (0 : Int)) else ([], 1)) = (leftT l n, 0) from if_pos h]
   refine Ev.if_pos (decide_eq_true h) ?_
   exact Ev.bind (PurgeAll_ev l n hl hv) er
  ·obtain ⟨r, hr, er⟩ := told N l hw hN 1 [] (Wf.nil _)
   refine ⟨r, hr, start _ (Ev.if_pos h4 ?_)⟩
   refine Ev.bind (Purge_ev l n hl hv) ?_
   rw [show (if TabOK l then (leftT l n, (0 : Int)) else ([], 1)) = ([], 1) from if_neg h]
   exact Ev.if_neg (by simpa using h) er
 ·have j0 : ∀ b : Bool, ∃ r : List Ch, Wf (N + 1) r ∧ Ev (fun k => quorumlaw9_step.j0 k (decide (TabOK l)) 1 t b l d n m key v.f0 v.f1 v.f2 lo hi top back l) (r, true) := fun b => by
   cases b with
   | true => exact ⟨l, up, get⟩
   | false =>
    have j2 : ∀ b : Bool, ∃ r : List Ch, Wf (N + 1) r ∧ Ev (fun k => quorumlaw9_step.j2 k (decide (TabOK l)) 1 b l d n m key v.f0 v.f1 v.f2 lo hi top back l) (r, true) := fun b => by
     cases b with
     | true => exact ⟨l, up, scan⟩
     | false => exact put
    by_cases h7 : t = 7
    ·obtain ⟨r, hr, er⟩ := j2 (t == 7)
     exact ⟨r, hr, Ev.step (fun k => by simp only [quorumlaw9_step.j0]; rfl) (Ev.if_neg (by simp) (Ev.if_pos h7 er))⟩
    ·obtain ⟨r, hr, er⟩ := j2 (t == 8)
     exact ⟨r, hr, Ev.step (fun k => by simp only [quorumlaw9_step.j0]; rfl) (Ev.if_neg (by simp) (Ev.if_neg h7 er))⟩
  by_cases h5 : t = 5
  ·obtain ⟨r, hr, er⟩ := j0 (t == 5)
   exact ⟨r, hr, start _ (Ev.if_neg h4 (Ev.if_pos h5 er))⟩
  ·obtain ⟨r, hr, er⟩ := j0 (t == 6)
   exact ⟨r, hr, start _ (Ev.if_neg h4 (Ev.if_neg h5 er))⟩
end
end Go.Proofs.Ytbaecdcfefmcgaa.HTable
set_option linter.unusedSimpArgs false
set_option linter.unusedVariables false
set_option linter.unusedSectionVars false
namespace Go.Proofs.Ytbaecdcfefmcgaa.HTable
open Go.RowKit Go.Proofs.Ytbaecdcfefmcgaa.PTbe Go.Proofs.Ytbaecdcfefmcgaa.HNum Go.Proofs.Ytbaecdcfefmcgaa.HChain Go.Proofs.YtbaecdcfefmcgaaW.PrintWords Go.Proofs.YtbaecdcfefmcgaaW.PrintLast
theorem tab_nil : TabOK [] := ⟨fun c hc => absurd hc (by simp), List.Pairwise.nil, by simp [sums]⟩
theorem wakes_true : Ev (fun k => quorumlaw9_wakes.f k) true := by
 have hv1 : vOK (⟨4, ⟨#[118]⟩, false⟩ : V) = true := by decide
 have hk1 : keyOK (⟨#[97]⟩ : ByteArray) = true := by decide
 have hw1 : ∀ c ∈ [(⟨⟨#[97]⟩, [(⟨4, ⟨#[118]⟩, false⟩ : V)]⟩ : Ch)], c.f1.length ≤ 1000000 := fun c hc => by
  rw [List.mem_singleton.1 hc]; decide
 have hm : May (⟨#[97]⟩ : ByteArray) [(⟨4, ⟨#[118]⟩, false⟩ : V)] := (May_one _ _).2 ⟨hk1, hv1⟩
 have ht : TabOK [(⟨⟨#[97]⟩, [(⟨4, ⟨#[118]⟩, false⟩ : V)]⟩ : Ch)] := ⟨fun c hc => by rw [List.mem_singleton.1 hc]; exact hm, List.pairwise_singleton _ _, by simp [sums]⟩
 classical
 have seek0 : ∃ p, Parts [] (⟨#[97]⟩ : ByteArray) p ∧ table_seek.f [] (⟨#[97]⟩ : ByteArray) = some ((p : Int), false) := by
  obtain ⟨p, hp, e⟩ := seek_ev [] (⟨#[97]⟩ : ByteArray) List.Pairwise.nil
  refine ⟨p, hp, ?_⟩
  rw [e, dif_neg (by have := hp.le; simp)]
 obtain ⟨p, hp, e⟩ := seek0
 have hp0 : p = 0 := by have := hp.le; simpa using this
 subst hp0
 obtain ⟨r, hr, er, _, hval⟩ := putj 10 [] (Wf.nil _) (by decide) 0 false (⟨#[97]⟩ : ByteArray) [(⟨4, ⟨#[118]⟩, false⟩ : V)] (by simp) (fun h => by cases h) (by simp)
 have hval2 : r = ([(⟨⟨#[97]⟩, [(⟨4, ⟨#[118]⟩, false⟩ : V)]⟩ : Ch)], 0) := by rw [hval]; simp [sums]
 subst hval2
 have put : Ev (fun q => table_Put.f q [] (⟨#[97]⟩ : ByteArray) 4 (⟨#[118]⟩ : ByteArray) false) ([(⟨⟨#[97]⟩, [(⟨4, ⟨#[118]⟩, false⟩ : V)]⟩ : Ch)], 0) := by
  unfold table_Put.f
  refine Ev.bind (tabMay_ev [] (by simp) (fun c hc => by cases hc)) (Ev.if_pos (by simpa using tab_nil) (Ev.bind (Own_ev [] (by simp) (fun c hc => by cases hc)) (Ev.bind0 e ?_)))
  refine Ev.if_neg (by simp) (Ev.bind (New_ev (⟨#[97]⟩ : ByteArray) (⟨4, ⟨#[118]⟩, false⟩ : V)) ?_)
  rw [if_pos (show keyOK (⟨#[97]⟩ : ByteArray) = true ∧ vOK (⟨4, ⟨#[118]⟩, false⟩ : V) = true from ⟨hk1, hv1⟩)]
  exact er
 have look : ∀ n : Int, Ev (fun q => table_Get.f q [(⟨⟨#[97]⟩, [(⟨4, ⟨#[118]⟩, false⟩ : V)]⟩ : Ch)] (⟨#[97]⟩ : ByteArray) n) (if 4 ≤ n then ((⟨#[118]⟩ : ByteArray), 0) else ((⟨#[]⟩ : ByteArray), 3)) := fun n => by
  obtain ⟨q, hq, eq⟩ := seek_ev [(⟨⟨#[97]⟩, [(⟨4, ⟨#[118]⟩, false⟩ : V)]⟩ : Ch)] (⟨#[97]⟩ : ByteArray) (List.pairwise_singleton _ _)
  have hq0 : q = 0 := by
   rcases Nat.eq_zero_or_pos q with h | h
   ·exact h
   ·have := hq.low 0 (by simp) h
    have e3 : Op.bytesLess (⟨#[97]⟩ : ByteArray).toList (⟨#[97]⟩ : ByteArray).toList = true := this
    rw [ByteArray.toList_eq] at e3
    exact absurd e3 (by decide)
  subst hq0
  unfold table_Get.f
  refine Ev.bind (tabMay_ev _ (by simp) hw1) (Ev.if_pos (by simpa using ht) (Ev.bind0 (key_Is_eq _) ?_))
  rw [hk1]
  refine Ev.step (fun k => by simp only [table_Get.j0]; rfl) (Ev.if_neg (by simp) ?_)
  have lk : Ev (fun k => table_Look.f k [(⟨⟨#[97]⟩, [(⟨4, ⟨#[118]⟩, false⟩ : V)]⟩ : Ch)] (⟨#[97]⟩ : ByteArray) n) (if 4 ≤ n then ((⟨#[118]⟩ : ByteArray), true) else ((⟨#[]⟩ : ByteArray), false)) := by
   unfold table_Look.f
   refine Ev.bind0 eq (Ev.if_pos (by rw [dif_pos (by simp)]; show ((⟨#[97]⟩ : ByteArray).toList == (⟨#[97]⟩ : ByteArray).toList) = true; simp) (Ev.if_pos (by simp) (Ev.if_pos (by simp) ?_)))
   refine Ev.bind (Look_ev _ _ n) ?_
   by_cases h : 4 ≤ n
   ·have : HChain.look [(⟨4, ⟨#[118]⟩, false⟩ : V)] n = some ⟨4, ⟨#[118]⟩, false⟩ := by
     simp [HChain.look, HChain.place, List.findIdx_cons, h]
    show Ev (fun _ => some _) _
    rw [if_pos h]
    have e2 : HChain.look (rd_T99 [(⟨⟨#[97]⟩, [(⟨4, ⟨#[118]⟩, false⟩ : V)]⟩ : Ch)] ((0 : Nat) : Int)).f1 n = some ⟨4, ⟨#[118]⟩, false⟩ := this
    rw [e2]
    exact Ev.now _
   ·have : HChain.look [(⟨4, ⟨#[118]⟩, false⟩ : V)] n = none := by
     simp [HChain.look, HChain.place, List.findIdx_cons, h]
    show Ev (fun _ => some _) _
    rw [if_neg h]
    have e2 : HChain.look (rd_T99 [(⟨⟨#[97]⟩, [(⟨4, ⟨#[118]⟩, false⟩ : V)]⟩ : Ch)] ((0 : Nat) : Int)).f1 n = none := this
    rw [e2]
    exact Ev.now _
  refine Ev.bind lk ?_
  by_cases h : 4 ≤ n
  ·rw [if_pos h, if_pos h]; exact Ev.if_pos (by first | rfl | trivial) (Ev.now _)
  ·rw [if_neg h, if_neg h]; exact Ev.if_neg (by simp) (Ev.now _)
 have g3 := look 3
 have g4 := look 4
 rw [if_neg (by decide)] at g3
 rw [if_pos (by decide)] at g4
 unfold quorumlaw9_wakes.f
 refine Ev.bind put ?_
 refine Ev.bind g3 ?_
 refine Ev.bind g4 ?_
 refine Ev.bind0 (num_eq _) ?_
 refine Ev.if_pos (by first | rfl | trivial) ?_
 refine Ev.bind0 (num_eq _) ?_
 refine Ev.if_pos (by first | rfl | trivial) ?_
 refine Ev.bind0 (num_eq _) ?_
 refine Ev.if_pos (by first | rfl | trivial) ?_
 exact Ev.const (by show some ((⟨#[118]⟩ : ByteArray).toList == [118]) = some true; rw [ByteArray.toList_eq]; rfl)
section
variable (P : List Ch) (A : List Act)
theorem acts (hA : A.length ≤ 2000000000000) (d : Nat) : ∀ (i : Nat) (l : List Ch), i + d = 16 → Wf (700 + i) l → Ev (fun k => quorumlaw9_TableExact.l0 k (i : Int) P A l) true := by
 have stop : ∀ (i : Int) (l : List Ch), Ev (fun k => quorumlaw9_TableExact.j1 k i false P A l) true := fun i l => Ev.step (fun k => by simp only [quorumlaw9_TableExact.j1]; rfl) (Ev.if_neg (by simp) (Ev.bind wakes_true (Ev.now _)))
 induction d with
 | zero =>
  intro i l hi hw
  refine Ev.step (fun k => by simp only [quorumlaw9_TableExact.l0]; rfl) (Ev.iff (fun _ => ?_) (fun _ => stop _ _))
  rw [decide_eq_false (by omega)]
  exact stop _ _
 | succ d ih =>
  intro i l hi hw
  refine Ev.step (fun k => by simp only [quorumlaw9_TableExact.l0]; rfl) (Ev.iff (fun hlt => ?_) (fun _ => stop _ _))
  rw [decide_eq_true (by omega)]
  obtain ⟨r, hr, he⟩ := step_ev (700 + i) l hw (by omega) (rd_T76 A (i : Int)).f0 (rd_T76 A (i : Int)).f1 (rd_T76 A (i : Int)).f2 (rd_T76 A (i : Int)).f3 (rd_T76 A (i : Int)).f4 (rd_T76 A (i : Int)).f5.f0 (rd_T76 A (i : Int)).f5.f1 (rd_T76 A (i : Int)).f5.f2 (rd_T76 A (i : Int)).f6
  refine Ev.step (fun k => by simp only [quorumlaw9_TableExact.j1]; rfl) ?_
  refine Ev.if_pos (by first | rfl | trivial) ?_
  refine Ev.if_pos (by omega) ?_
  refine Ev.if_pos (by omega) ?_
  refine Ev.bind he ?_
  refine Ev.if_pos (by first | rfl | trivial) ?_
  rw [wrap_succ i (by omega)]
  exact ih (i + 1) r (by omega) hr
theorem exact_ev (hP : TbIn P) (hA : A.length ≤ 2000000000000) (ha : ∀ a ∈ A, ActIn a) : Ev (fun k => quorumlaw9_TableExact.f k P A) true := by
 obtain ⟨b, hb, hs⟩ := heavy_ends P A hA ha hP
 unfold quorumlaw9_TableExact.f
 refine Ev.bind hb ?_
 cases b with
 | true => exact Ev.if_pos (by first | rfl | trivial) (Ev.now _)
 | false =>
  obtain ⟨h1, h2⟩ := hs rfl
  exact Ev.if_neg (by simp) (Ev.bind (copyT_ev P (by omega) (fun c hc => Nat.le_trans (h2 c hc) (by decide))) (acts P A hA 16 0 P (by omega) ⟨h1, h2⟩))
end
end Go.Proofs.Ytbaecdcfefmcgaa.HTable
