/- The order of keys: less as bytes is below nought in the comparison. -/
import Derived.Lib.Bytealg
import Derived.Test.YtbaecdcfefmcgaaHNumr
set_option linter.unusedSimpArgs false
namespace Go.Proofs.Ytbaecdcfefmcgaa.HKeyV
open Go.Lib Go.RowKit
theorem cB_cons (a b : UInt8) (xs ys : List UInt8) : compareBytes (a :: xs) (b :: ys) = if a.toNat < b.toNat then -1 else if b.toNat < a.toNat then 1 else compareBytes xs ys := by
  rw [compareBytes]
  simp only [UInt8.lt_iff_toNat_lt]
theorem cB_refl : ∀ a, compareBytes a a = 0
  | [] => rfl
  | a :: xs => by rw [cB_cons, if_neg (by omega), if_neg (by omega)]; exact cB_refl xs
theorem cB_anti : ∀ a b, compareBytes b a = - compareBytes a b
  | [], [] => rfl
  | [], _ :: _ => rfl
  | _ :: _, [] => rfl
  | a :: xs, b :: ys => by
    rw [cB_cons, cB_cons]
    by_cases h1 : a.toNat < b.toNat
    · rw [if_pos h1, if_neg (by omega), if_pos h1]; rfl
    · by_cases h2 : b.toNat < a.toNat
      · simp [h1, h2]
      · rw [if_neg h1, if_neg h2, if_neg h2, if_neg h1]; exact cB_anti xs ys
theorem cB_zero : ∀ a b, compareBytes a b = 0 → a = b
  | [], [] => fun _ => rfl
  | [], _ :: _ => fun h => by simp [compareBytes] at h
  | _ :: _, [] => fun h => by simp [compareBytes] at h
  | a :: xs, b :: ys => fun h => by
    rw [cB_cons] at h
    by_cases h1 : a.toNat < b.toNat
    · rw [if_pos h1] at h; simp at h
    · by_cases h2 : b.toNat < a.toNat
      · rw [if_neg h1, if_pos h2] at h; simp at h
      · rw [if_neg h1, if_neg h2] at h
        rw [UInt8.toNat_inj.1 (show a.toNat = b.toNat by omega), cB_zero xs ys h]
theorem less_cmp : ∀ a b : List UInt8, Op.bytesLess a b = decide (compareBytes a b < 0)
  | [], [] => by simp [Op.bytesLess, compareBytes]
  | [], b :: ys => by simp [Op.bytesLess, compareBytes]
  | a :: xs, [] => by simp [Op.bytesLess, compareBytes]
  | a :: xs, b :: ys => by
    rw [cB_cons]
    simp only [Op.bytesLess]
    rw [less_cmp xs ys]
    by_cases h1 : a.toNat < b.toNat
    · have : a < b := h1
      rw [if_pos h1]
      simp [this]
    · have h1' : ¬ a < b := h1
      by_cases h2 : b.toNat < a.toNat
      · have : a ≠ b := fun e => by subst e; omega
        rw [if_neg h1, if_pos h2]
        simp [h1', this]
      · have : a = b := by apply UInt8.toNat_inj.1; omega
        rw [if_neg h1, if_neg h2]
        simp [h1', this]
end Go.Proofs.Ytbaecdcfefmcgaa.HKeyV
