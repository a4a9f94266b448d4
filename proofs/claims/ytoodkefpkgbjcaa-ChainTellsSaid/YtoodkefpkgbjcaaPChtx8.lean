-- PRINTED by print.py (a twelfth state) out of the translation. Not trusted: Lean checks it.
import Derived.Test.YtoodkefpkgbjcaaPChtx0
import Derived.Test.YtoodkefpkgbjcaaPChtx1
import Derived.Test.YtoodkefpkgbjcaaPChtx2
import Derived.Test.YtoodkefpkgbjcaaPChtx3
import Derived.Test.YtoodkefpkgbjcaaPChtx4
import Derived.Test.YtoodkefpkgbjcaaPChtx5
import Derived.Test.YtoodkefpkgbjcaaPChtx6
import Derived.Test.YtoodkefpkgbjcaaPChtx7
namespace Go.Proofs.Ytoodkefpkgbjcaa.PCht
open Go.RowKit Go.Proofs.YtoodkefpkgbjcaaW.PrintWords Go.Proofs.YtoodkefpkgbjcaaW.PrintLast Go.Proofs.YtoodkefpkgbjcaaW.PrintMore
attribute [local go_sem] max2_int min2_int max_two min_two max_three min_three max_four min_four   -- for this text's walks alone
set_option linter.unusedVariables false
set_option linter.unusedSimpArgs false

attribute [local go_sem high] eqA39
/-! ### quorumlaw8_ChainTells: function 3 -/
mutual
def quorumlaw8_ChainTells.l0 : Nat → List Int → Int → List (S30) → List (S39) → List Int → List ByteArray → Option (Bool)
 | 0, _, _, _, _, _, _ => none
 | k + 1, x3, x4, x270000, x270001, x270002, x270003 => if x4 < (x270000.length : Int) then (quorumlaw8_ChainTells.j1 k x3 x4 (decide (x4 < 6)) x270000 x270001 x270002 x270003) else (quorumlaw8_ChainTells.j1 k x3 x4 false x270000 x270001 x270002 x270003)
def quorumlaw8_ChainTells.j1 : Nat → List Int → Int → Bool → List (S30) → List (S39) → List Int → List ByteArray → Option (Bool)
 | 0, _, _, _, _, _, _, _ => none
 | k + 1, x3, x4, x47, x270000, x270001, x270002, x270003 => if x47 = true then (if 0 ≤ x4 then (if x4 < (x270000.length : Int) then ((quorumref0_CopyChain.f k ((rd_T30 x270000 x4).f0) ((rd_T30 x270000 x4).f1)).bind fun bt278 => ((quorumref8_Chain.f k ((rd_T30 x270000 x4).f0) ((rd_T30 x270000 x4).f1)).bind fun t284 => ((chain_Count.f k bt278.1 bt278.2).bind fun bt285 => (if t284 = true then (quorumlaw8_ChainTells.j2 k x3 x4 t284 bt285.1 bt285.2 0 (((rd_T30 x270000 x4).f1).length : Int) x270000 x270001 x270002 x270003 bt278.1 bt278.2) else (quorumlaw8_ChainTells.j2 k x3 x4 t284 bt285.1 bt285.2 1 0 x270000 x270001 x270002 x270003 bt278.1 bt278.2))))) else (none)) else (none)) else (quorumlaw8_ChainTells.l4 k 0 x270000 x270001 x270002 x270003)
def quorumlaw8_ChainTells.j2 : Nat → List Int → Int → Bool → Int → Int → Int → Int → List (S30) → List (S39) → List Int → List ByteArray → ByteArray → List (S39) → Option (Bool)
 | 0, _, _, _, _, _, _, _, _, _, _, _, _, _ => none
 | k + 1, x3, x4, x6, x7, x8, x9, x10, x270000, x270001, x270002, x270003, x283000, x283001 => (chain_Check.f k x283000 x283001).bind fun t288 => ((quorumlaw8_num.f t288).bind fun t289 => (if t289 = x9 then ((quorumlaw8_num.f x8).bind fun t290 => (if t290 = x9 then (quorumlaw8_ChainTells.j3 k x3 x4 x6 x9 (x7 != x10) x270000 x270001 x270002 x270003 x283000 x283001) else (quorumlaw8_ChainTells.j3 k x3 x4 x6 x9 true x270000 x270001 x270002 x270003 x283000 x283001))) else (quorumlaw8_ChainTells.j3 k x3 x4 x6 x9 true x270000 x270001 x270002 x270003 x283000 x283001)))
def quorumlaw8_ChainTells.j3 : Nat → List Int → Int → Bool → Int → Bool → List (S30) → List (S39) → List Int → List ByteArray → ByteArray → List (S39) → Option (Bool)
 | 0, _, _, _, _, _, _, _, _, _, _, _ => none
 | k + 1, x3, x4, x6, x9, x90, x270000, x270001, x270002, x270003, x283000, x283001 => if x90 = true then (some false) else (quorumlaw8_ChainTells.l1 k x3 x4 x6 x9 0 x270000 x270001 x270002 x270003 x283000 x283001)
def quorumlaw8_ChainTells.l1 : Nat → List Int → Int → Bool → Int → Int → List (S30) → List (S39) → List Int → List ByteArray → ByteArray → List (S39) → Option (Bool)
 | 0, _, _, _, _, _, _, _, _, _, _, _ => none
 | k + 1, x3, x4, x6, x9, x11, x270000, x270001, x270002, x270003, x283000, x283001 => if x11 < (x3.length : Int) then (quorumlaw8_ChainTells.j5 k x3 x4 x6 x9 x11 (decide (x11 < 11)) x270000 x270001 x270002 x270003 x283000 x283001) else (quorumlaw8_ChainTells.j5 k x3 x4 x6 x9 x11 false x270000 x270001 x270002 x270003 x283000 x283001)
def quorumlaw8_ChainTells.j5 : Nat → List Int → Int → Bool → Int → Int → Bool → List (S30) → List (S39) → List Int → List ByteArray → ByteArray → List (S39) → Option (Bool)
 | 0, _, _, _, _, _, _, _, _, _, _, _, _ => none
 | k + 1, x3, x4, x6, x9, x11, x98, x270000, x270001, x270002, x270003, x283000, x283001 => if x98 = true then (if 0 ≤ x11 then (if x11 < (x3.length : Int) then ((chain_At.f k x283000 x283001 (rd x3 x11)).bind fun bt292 => ((chain_Purge.f k x283000 x283001 (rd x3 x11)).bind fun bt298 => (if x6 = true then (if 0 ≤ x4 then (if x4 < (x270000.length : Int) then ((quorumref8_At.f k ((rd_T30 x270000 x4).f0) ((rd_T30 x270000 x4).f1) (rd x3 x11)).bind fun bt308 => (if bt308.2.2.2 = true then (quorumlaw8_ChainTells.j6 k x3 x4 x6 x9 x11 bt292.2.2.2 bt298.2.2 0 x270000 x270001 x270002 x270003 x283000 x283001 bt292.1 bt292.2.1 bt292.2.2.1 bt298.1 bt298.2.1 bt308.1 bt308.2.1 bt308.2.2.1) else (quorumlaw8_ChainTells.j6 k x3 x4 x6 x9 x11 bt292.2.2.2 bt298.2.2 3 x270000 x270001 x270002 x270003 x283000 x283001 bt292.1 bt292.2.1 bt292.2.2.1 bt298.1 bt298.2.1 0 (⟨#[]⟩ : ByteArray) false))) else (none)) else (none)) else (quorumlaw8_ChainTells.j7 k x3 x4 x6 x9 x11 bt292.2.2.2 bt298.2.2 1 x270000 x270001 x270002 x270003 x283000 x283001 bt292.1 bt292.2.1 bt292.2.2.1 bt298.1 bt298.2.1 0 (⟨#[]⟩ : ByteArray) false (⟨#[]⟩ : ByteArray) ([] : List (S39)))))) else (none)) else (none)) else (quorumlaw8_ChainTells.l2 k x3 x4 x6 0 x270000 x270001 x270002 x270003 x283000 x283001)
def quorumlaw8_ChainTells.j7 : Nat → List Int → Int → Bool → Int → Int → Int → Int → Int → List (S30) → List (S39) → List Int → List ByteArray → ByteArray → List (S39) → Int → ByteArray → Bool → ByteArray → List (S39) → Int → ByteArray → Bool → ByteArray → List (S39) → Option (Bool)
 | 0, _, _, _, _, _, _, _, _, _, _, _, _, _, _, _, _, _, _, _, _, _, _, _, _ => none
 | k + 1, x3, x4, x6, x9, x11, x13, x15, x16, x270000, x270001, x270002, x270003, x283000, x283001, x297000, x297001, x297002, x304000, x304001, x305000, x305001, x305002, x306000, x306001 => (quorumlaw8_num.f x13).bind fun t320 => (if t320 = x16 then (if (!(x297000 == x305000) || (!(x297001.toList == x305001.toList) || (!(x297002 == x305002)))) = true then (quorumlaw8_ChainTells.j8 k x3 x4 x6 x9 x11 true x270000 x270001 x270002 x270003 x283000 x283001) else ((quorumlaw8_num.f x15).bind fun t321 => (if t321 = x9 then ((quorumref0_EqChain.f k x304000 x304001 x306000 x306001).bind fun t322 => (if t322 = true then (if 0 ≤ x4 then (if x4 < (x270000.length : Int) then ((quorumref0_EqChain.f k x283000 x283001 ((rd_T30 x270000 x4).f0) ((rd_T30 x270000 x4).f1)).bind fun t324 => (quorumlaw8_ChainTells.j8 k x3 x4 x6 x9 x11 (!t324) x270000 x270001 x270002 x270003 x283000 x283001)) else (none)) else (none)) else (quorumlaw8_ChainTells.j8 k x3 x4 x6 x9 x11 true x270000 x270001 x270002 x270003 x283000 x283001))) else (quorumlaw8_ChainTells.j8 k x3 x4 x6 x9 x11 true x270000 x270001 x270002 x270003 x283000 x283001)))) else (quorumlaw8_ChainTells.j8 k x3 x4 x6 x9 x11 true x270000 x270001 x270002 x270003 x283000 x283001))
def quorumlaw8_ChainTells.j8 : Nat → List Int → Int → Bool → Int → Int → Bool → List (S30) → List (S39) → List Int → List ByteArray → ByteArray → List (S39) → Option (Bool)
 | 0, _, _, _, _, _, _, _, _, _, _, _, _ => none
 | k + 1, x3, x4, x6, x9, x11, x178, x270000, x270001, x270002, x270003, x283000, x283001 => if x178 = true then (some false) else (quorumlaw8_ChainTells.l1 k x3 x4 x6 x9 (wrap64 (x11 + 1)) x270000 x270001 x270002 x270003 x283000 x283001)
def quorumlaw8_ChainTells.j6 : Nat → List Int → Int → Bool → Int → Int → Int → Int → Int → List (S30) → List (S39) → List Int → List ByteArray → ByteArray → List (S39) → Int → ByteArray → Bool → ByteArray → List (S39) → Int → ByteArray → Bool → Option (Bool)
 | 0, _, _, _, _, _, _, _, _, _, _, _, _, _, _, _, _, _, _, _, _, _, _ => none
 | k + 1, x3, x4, x6, x9, x11, x13, x15, x16, x270000, x270001, x270002, x270003, x283000, x283001, x297000, x297001, x297002, x304000, x304001, x305000, x305001, x305002 => if 0 ≤ x4 then (if x4 < (x270000.length : Int) then (if 0 ≤ x11 then (if x11 < (x3.length : Int) then ((quorumref8_Purge.f k ((rd_T30 x270000 x4).f0) ((rd_T30 x270000 x4).f1) (rd x3 x11)).bind fun bt315 => (quorumlaw8_ChainTells.j7 k x3 x4 x6 x9 x11 x13 x15 x16 x270000 x270001 x270002 x270003 x283000 x283001 x297000 x297001 x297002 x304000 x304001 x305000 x305001 x305002 bt315.1 bt315.2.1)) else (none)) else (none)) else (none)) else (none)
def quorumlaw8_ChainTells.l2 : Nat → List Int → Int → Bool → Int → List (S30) → List (S39) → List Int → List ByteArray → ByteArray → List (S39) → Option (Bool)
 | 0, _, _, _, _, _, _, _, _, _, _ => none
 | k + 1, x3, x4, x6, x21, x270000, x270001, x270002, x270003, x283000, x283001 => if x21 < (x270001.length : Int) then (quorumlaw8_ChainTells.j10 k x3 x4 x6 x21 (decide (x21 < 6)) x270000 x270001 x270002 x270003 x283000 x283001) else (quorumlaw8_ChainTells.j10 k x3 x4 x6 x21 false x270000 x270001 x270002 x270003 x283000 x283001)
def quorumlaw8_ChainTells.j10 : Nat → List Int → Int → Bool → Int → Bool → List (S30) → List (S39) → List Int → List ByteArray → ByteArray → List (S39) → Option (Bool)
 | 0, _, _, _, _, _, _, _, _, _, _, _ => none
 | k + 1, x3, x4, x6, x21, x187, x270000, x270001, x270002, x270003, x283000, x283001 => if x187 = true then (if 0 ≤ x21 then (if x21 < (x270001.length : Int) then ((chain_Add.f k x283000 x283001 ((rd_T39 x270001 x21).f0) ((rd_T39 x270001 x21).f1) ((rd_T39 x270001 x21).f2)).bind fun bt326 => (if x6 = true then (if 0 ≤ x4 then (if x4 < (x270000.length : Int) then ((quorumref8_Add.f k ((rd_T30 x270000 x4).f0) ((rd_T30 x270000 x4).f1) ((rd_T39 x270001 x21).f0) ((rd_T39 x270001 x21).f1) ((rd_T39 x270001 x21).f2)).bind fun bt335 => ((quorumref8_Chain.f k bt335.1 bt335.2).bind fun t339 => (quorumlaw8_ChainTells.j11 k x3 x4 x6 x21 bt326.2.2 1 t339 x270000 x270001 x270002 x270003 x283000 x283001 bt326.1 bt326.2.1 (⟨#[]⟩ : ByteArray)))) else (none)) else (none)) else (quorumlaw8_ChainTells.j11 k x3 x4 x6 x21 bt326.2.2 1 false x270000 x270001 x270002 x270003 x283000 x283001 bt326.1 bt326.2.1 (⟨#[]⟩ : ByteArray)))) else (none)) else (none)) else (quorumlaw8_ChainTells.l0 k x3 (wrap64 (x4 + 1)) x270000 x270001 x270002 x270003)
def quorumlaw8_ChainTells.j11 : Nat → List Int → Int → Bool → Int → Int → Int → Bool → List (S30) → List (S39) → List Int → List ByteArray → ByteArray → List (S39) → ByteArray → List (S39) → ByteArray → Option (Bool)
 | 0, _, _, _, _, _, _, _, _, _, _, _, _, _, _, _, _ => none
 | k + 1, x3, x4, x6, x21, x23, x24, x214, x270000, x270001, x270002, x270003, x283000, x283001, x332000, x332001, x333000 => if x214 = true then (if 0 ≤ x4 then (if x4 < (x270000.length : Int) then (if 0 ≤ x21 then (if x21 < (x270001.length : Int) then ((quorumref8_Add.f k ((rd_T30 x270000 x4).f0) ((rd_T30 x270000 x4).f1) ((rd_T39 x270001 x21).f0) ((rd_T39 x270001 x21).f1) ((rd_T39 x270001 x21).f2)).bind fun bt342 => (quorumlaw8_ChainTells.j12 k x3 x4 x6 x21 x23 0 x270000 x270001 x270002 x270003 x283000 x283001 x332000 x332001 bt342.1 bt342.2)) else (none)) else (none)) else (none)) else (none)) else (quorumlaw8_ChainTells.j12 k x3 x4 x6 x21 x23 x24 x270000 x270001 x270002 x270003 x283000 x283001 x332000 x332001 x333000 ([] : List (S39)))
def quorumlaw8_ChainTells.j12 : Nat → List Int → Int → Bool → Int → Int → Int → List (S30) → List (S39) → List Int → List ByteArray → ByteArray → List (S39) → ByteArray → List (S39) → ByteArray → List (S39) → Option (Bool)
 | 0, _, _, _, _, _, _, _, _, _, _, _, _, _, _, _, _ => none
 | k + 1, x3, x4, x6, x21, x23, x24, x270000, x270001, x270002, x270003, x283000, x283001, x332000, x332001, x333000, x333001 => (quorumlaw8_num.f x23).bind fun t346 => (if t346 = x24 then ((quorumref0_EqChain.f k x332000 x332001 x333000 x333001).bind fun t347 => (if t347 = true then (if 0 ≤ x4 then (if x4 < (x270000.length : Int) then ((quorumref0_EqChain.f k x283000 x283001 ((rd_T30 x270000 x4).f0) ((rd_T30 x270000 x4).f1)).bind fun t349 => (quorumlaw8_ChainTells.j13 k x3 x4 x6 x21 (!t349) x270000 x270001 x270002 x270003 x283000 x283001 x332000 x332001)) else (none)) else (none)) else (quorumlaw8_ChainTells.j13 k x3 x4 x6 x21 true x270000 x270001 x270002 x270003 x283000 x283001 x332000 x332001))) else (quorumlaw8_ChainTells.j13 k x3 x4 x6 x21 true x270000 x270001 x270002 x270003 x283000 x283001 x332000 x332001))
def quorumlaw8_ChainTells.j13 : Nat → List Int → Int → Bool → Int → Bool → List (S30) → List (S39) → List Int → List ByteArray → ByteArray → List (S39) → ByteArray → List (S39) → Option (Bool)
 | 0, _, _, _, _, _, _, _, _, _, _, _, _, _ => none
 | k + 1, x3, x4, x6, x21, x245, x270000, x270001, x270002, x270003, x283000, x283001, x332000, x332001 => if x245 = true then (some false) else (quorumlaw8_ChainTells.l3 k x3 x4 x6 x21 0 x270000 x270001 x270002 x270003 x283000 x283001 x332000 x332001)
def quorumlaw8_ChainTells.l3 : Nat → List Int → Int → Bool → Int → Int → List (S30) → List (S39) → List Int → List ByteArray → ByteArray → List (S39) → ByteArray → List (S39) → Option (Bool)
 | 0, _, _, _, _, _, _, _, _, _, _, _, _, _ => none
 | k + 1, x3, x4, x6, x21, x26, x270000, x270001, x270002, x270003, x283000, x283001, x332000, x332001 => if x26 < (x332001.length : Int) then (if 0 ≤ x26 then (quorumlaw8_ChainTells.l3 k x3 x4 x6 x21 (wrap64 (x26 + 1)) x270000 x270001 x270002 x270003 x283000 x283001 x332000 (x332001.set (x26 : Int).toNat (⟨(-9), (⟨#[]⟩ : ByteArray), false⟩ : S39))) else (none)) else (if 0 ≤ x4 then (if x4 < (x270000.length : Int) then ((quorumref0_EqChain.f k x283000 x283001 ((rd_T30 x270000 x4).f0) ((rd_T30 x270000 x4).f1)).bind fun t352 => (if t352 = true then (quorumlaw8_ChainTells.l2 k x3 x4 x6 (wrap64 (x21 + 1)) x270000 x270001 x270002 x270003 x283000 x283001) else (some false))) else (none)) else (none))
def quorumlaw8_ChainTells.l4 : Nat → Int → List (S30) → List (S39) → List Int → List ByteArray → Option (Bool)
 | 0, _, _, _, _, _ => none
 | k + 1, x27, x270000, x270001, x270002, x270003 => if x27 < (x270003.length : Int) then (quorumlaw8_ChainTells.j16 k x27 (decide (x27 < 6)) x270000 x270001 x270002 x270003) else (quorumlaw8_ChainTells.j16 k x27 false x270000 x270001 x270002 x270003)
def quorumlaw8_ChainTells.j16 : Nat → Int → Bool → List (S30) → List (S39) → List Int → List ByteArray → Option (Bool)
 | 0, _, _, _, _, _, _ => none
 | k + 1, x27, x274, x270000, x270001, x270002, x270003 => if x274 = true then (quorumlaw8_ChainTells.l5 k x27 0 x270000 x270001 x270002 x270003) else ((quorumlaw8_wakes.f k).bind fun t373 => (some t373))
def quorumlaw8_ChainTells.l5 : Nat → Int → Int → List (S30) → List (S39) → List Int → List ByteArray → Option (Bool)
 | 0, _, _, _, _, _, _ => none
 | k + 1, x27, x28, x270000, x270001, x270002, x270003 => if x28 < (x270001.length : Int) then (quorumlaw8_ChainTells.j18 k x27 x28 (decide (x28 < 6)) x270000 x270001 x270002 x270003) else (quorumlaw8_ChainTells.j18 k x27 x28 false x270000 x270001 x270002 x270003)
def quorumlaw8_ChainTells.j18 : Nat → Int → Int → Bool → List (S30) → List (S39) → List Int → List ByteArray → Option (Bool)
 | 0, _, _, _, _, _, _, _ => none
 | k + 1, x27, x28, x285, x270000, x270001, x270002, x270003 => if x285 = true then (if 0 ≤ x27 then (if x27 < (x270003.length : Int) then (if 0 ≤ x28 then (if x28 < (x270001.length : Int) then ((chain_New.f k (rdOf ByteArray.empty x270003 x27) ((rd_T39 x270001 x28).f0) ((rd_T39 x270001 x28).f1) ((rd_T39 x270001 x28).f2)).bind fun bt355 => ((quorumref1_Key.f (rdOf ByteArray.empty x270003 x27)).bind fun t363 => (if t363 = true then ((quorumref8_Version.f ((rd_T39 x270001 x28).f0) ((rd_T39 x270001 x28).f1) ((rd_T39 x270001 x28).f2)).bind fun t365 => (quorumlaw8_ChainTells.j19 k x27 x28 bt355.2.2 1 t365 x270000 x270001 x270002 x270003 bt355.1 bt355.2.1 (⟨#[]⟩ : ByteArray))) else (quorumlaw8_ChainTells.j19 k x27 x28 bt355.2.2 1 false x270000 x270001 x270002 x270003 bt355.1 bt355.2.1 (⟨#[]⟩ : ByteArray))))) else (none)) else (none)) else (none)) else (none)) else (quorumlaw8_ChainTells.l4 k (wrap64 (x27 + 1)) x270000 x270001 x270002 x270003)
def quorumlaw8_ChainTells.j19 : Nat → Int → Int → Int → Int → Bool → List (S30) → List (S39) → List Int → List ByteArray → ByteArray → List (S39) → ByteArray → Option (Bool)
 | 0, _, _, _, _, _, _, _, _, _, _, _, _ => none
 | k + 1, x27, x28, x30, x31, x315, x270000, x270001, x270002, x270003, x361000, x361001, x362000 => if x315 = true then (if 0 ≤ x27 then (if x27 < (x270003.length : Int) then (if 0 ≤ x28 then (if x28 < (x270001.length : Int) then (quorumlaw8_ChainTells.j20 k x27 x28 x30 0 x270000 x270001 x270002 x270003 x361000 x361001 (rdOf ByteArray.empty x270003 x27) (([(⟨(rd_T39 x270001 x28).f0, (rd_T39 x270001 x28).f1, (rd_T39 x270001 x28).f2⟩ : S39)] : List (S39)))) else (none)) else (none)) else (none)) else (none)) else (quorumlaw8_ChainTells.j20 k x27 x28 x30 x31 x270000 x270001 x270002 x270003 x361000 x361001 x362000 ([] : List (S39)))
def quorumlaw8_ChainTells.j20 : Nat → Int → Int → Int → Int → List (S30) → List (S39) → List Int → List ByteArray → ByteArray → List (S39) → ByteArray → List (S39) → Option (Bool)
 | 0, _, _, _, _, _, _, _, _, _, _, _, _ => none
 | k + 1, x27, x28, x30, x31, x270000, x270001, x270002, x270003, x361000, x361001, x362000, x362001 => (quorumlaw8_num.f x30).bind fun t371 => (if t371 = x31 then ((quorumref0_EqChain.f k x361000 x361001 x362000 x362001).bind fun t372 => (quorumlaw8_ChainTells.j21 k x27 x28 (!t372) x270000 x270001 x270002 x270003)) else (quorumlaw8_ChainTells.j21 k x27 x28 true x270000 x270001 x270002 x270003))
def quorumlaw8_ChainTells.j21 : Nat → Int → Int → Bool → List (S30) → List (S39) → List Int → List ByteArray → Option (Bool)
 | 0, _, _, _, _, _, _, _ => none
 | k + 1, x27, x28, x337, x270000, x270001, x270002, x270003 => if x337 = true then (some false) else (quorumlaw8_ChainTells.l5 k x27 (wrap64 (x28 + 1)) x270000 x270001 x270002 x270003)
end
def quorumlaw8_ChainTells.f (k : Nat) (l0_0 : List (S30)) (l0_1 : List (S39)) (l0_2 : List Int) (l0_3 : List ByteArray) : Option (Bool) := (quorumlaw8_Heavy.f k l0_0 l0_1 l0_2 l0_3).bind fun t270 => (if t270 = true then (some true) else ((some (([0, 1, 5, 1073741824, (-1)] : List Int) : List Int)).bind fun y271 => (if y271.length + l0_2.length < 17592186044416 then (quorumlaw8_ChainTells.l0 k (y271 ++ l0_2) 0 l0_0 l0_1 l0_2 l0_3) else (none))))
theorem quorumlaw8_ChainTells.mono_l : ∀ k, (∀ y0 y1 y2 y3 y4 y5, LeO (quorumlaw8_ChainTells.l0 k y0 y1 y2 y3 y4 y5) (quorumlaw8_ChainTells.l0 (k + 1) y0 y1 y2 y3 y4 y5)) ∧ (∀ y0 y1 y2 y3 y4 y5 y6, LeO (quorumlaw8_ChainTells.j1 k y0 y1 y2 y3 y4 y5 y6) (quorumlaw8_ChainTells.j1 (k + 1) y0 y1 y2 y3 y4 y5 y6)) ∧ (∀ y0 y1 y2 y3 y4 y5 y6 y7 y8 y9 y10 y11 y12, LeO (quorumlaw8_ChainTells.j2 k y0 y1 y2 y3 y4 y5 y6 y7 y8 y9 y10 y11 y12) (quorumlaw8_ChainTells.j2 (k + 1) y0 y1 y2 y3 y4 y5 y6 y7 y8 y9 y10 y11 y12)) ∧ (∀ y0 y1 y2 y3 y4 y5 y6 y7 y8 y9 y10, LeO (quorumlaw8_ChainTells.j3 k y0 y1 y2 y3 y4 y5 y6 y7 y8 y9 y10) (quorumlaw8_ChainTells.j3 (k + 1) y0 y1 y2 y3 y4 y5 y6 y7 y8 y9 y10)) ∧ (∀ y0 y1 y2 y3 y4 y5 y6 y7 y8 y9 y10, LeO (quorumlaw8_ChainTells.l1 k y0 y1 y2 y3 y4 y5 y6 y7 y8 y9 y10) (quorumlaw8_ChainTells.l1 (k + 1) y0 y1 y2 y3 y4 y5 y6 y7 y8 y9 y10)) ∧ (∀ y0 y1 y2 y3 y4 y5 y6 y7 y8 y9 y10 y11, LeO (quorumlaw8_ChainTells.j5 k y0 y1 y2 y3 y4 y5 y6 y7 y8 y9 y10 y11) (quorumlaw8_ChainTells.j5 (k + 1) y0 y1 y2 y3 y4 y5 y6 y7 y8 y9 y10 y11)) ∧ (∀ y0 y1 y2 y3 y4 y5 y6 y7 y8 y9 y10 y11 y12 y13 y14 y15 y16 y17 y18 y19 y20 y21 y22 y23, LeO (quorumlaw8_ChainTells.j7 k y0 y1 y2 y3 y4 y5 y6 y7 y8 y9 y10 y11 y12 y13 y14 y15 y16 y17 y18 y19 y20 y21 y22 y23) (quorumlaw8_ChainTells.j7 (k + 1) y0 y1 y2 y3 y4 y5 y6 y7 y8 y9 y10 y11 y12 y13 y14 y15 y16 y17 y18 y19 y20 y21 y22 y23)) ∧ (∀ y0 y1 y2 y3 y4 y5 y6 y7 y8 y9 y10 y11, LeO (quorumlaw8_ChainTells.j8 k y0 y1 y2 y3 y4 y5 y6 y7 y8 y9 y10 y11) (quorumlaw8_ChainTells.j8 (k + 1) y0 y1 y2 y3 y4 y5 y6 y7 y8 y9 y10 y11)) ∧ (∀ y0 y1 y2 y3 y4 y5 y6 y7 y8 y9 y10 y11 y12 y13 y14 y15 y16 y17 y18 y19 y20 y21, LeO (quorumlaw8_ChainTells.j6 k y0 y1 y2 y3 y4 y5 y6 y7 y8 y9 y10 y11 y12 y13 y14 y15 y16 y17 y18 y19 y20 y21) (quorumlaw8_ChainTells.j6 (k + 1) y0 y1 y2 y3 y4 y5 y6 y7 y8 y9 y10 y11 y12 y13 y14 y15 y16 y17 y18 y19 y20 y21)) ∧ (∀ y0 y1 y2 y3 y4 y5 y6 y7 y8 y9, LeO (quorumlaw8_ChainTells.l2 k y0 y1 y2 y3 y4 y5 y6 y7 y8 y9) (quorumlaw8_ChainTells.l2 (k + 1) y0 y1 y2 y3 y4 y5 y6 y7 y8 y9)) ∧ (∀ y0 y1 y2 y3 y4 y5 y6 y7 y8 y9 y10, LeO (quorumlaw8_ChainTells.j10 k y0 y1 y2 y3 y4 y5 y6 y7 y8 y9 y10) (quorumlaw8_ChainTells.j10 (k + 1) y0 y1 y2 y3 y4 y5 y6 y7 y8 y9 y10)) ∧ (∀ y0 y1 y2 y3 y4 y5 y6 y7 y8 y9 y10 y11 y12 y13 y14 y15, LeO (quorumlaw8_ChainTells.j11 k y0 y1 y2 y3 y4 y5 y6 y7 y8 y9 y10 y11 y12 y13 y14 y15) (quorumlaw8_ChainTells.j11 (k + 1) y0 y1 y2 y3 y4 y5 y6 y7 y8 y9 y10 y11 y12 y13 y14 y15)) ∧ (∀ y0 y1 y2 y3 y4 y5 y6 y7 y8 y9 y10 y11 y12 y13 y14 y15, LeO (quorumlaw8_ChainTells.j12 k y0 y1 y2 y3 y4 y5 y6 y7 y8 y9 y10 y11 y12 y13 y14 y15) (quorumlaw8_ChainTells.j12 (k + 1) y0 y1 y2 y3 y4 y5 y6 y7 y8 y9 y10 y11 y12 y13 y14 y15)) ∧ (∀ y0 y1 y2 y3 y4 y5 y6 y7 y8 y9 y10 y11 y12, LeO (quorumlaw8_ChainTells.j13 k y0 y1 y2 y3 y4 y5 y6 y7 y8 y9 y10 y11 y12) (quorumlaw8_ChainTells.j13 (k + 1) y0 y1 y2 y3 y4 y5 y6 y7 y8 y9 y10 y11 y12)) ∧ (∀ y0 y1 y2 y3 y4 y5 y6 y7 y8 y9 y10 y11 y12, LeO (quorumlaw8_ChainTells.l3 k y0 y1 y2 y3 y4 y5 y6 y7 y8 y9 y10 y11 y12) (quorumlaw8_ChainTells.l3 (k + 1) y0 y1 y2 y3 y4 y5 y6 y7 y8 y9 y10 y11 y12)) ∧ (∀ y0 y1 y2 y3 y4, LeO (quorumlaw8_ChainTells.l4 k y0 y1 y2 y3 y4) (quorumlaw8_ChainTells.l4 (k + 1) y0 y1 y2 y3 y4)) ∧ (∀ y0 y1 y2 y3 y4 y5, LeO (quorumlaw8_ChainTells.j16 k y0 y1 y2 y3 y4 y5) (quorumlaw8_ChainTells.j16 (k + 1) y0 y1 y2 y3 y4 y5)) ∧ (∀ y0 y1 y2 y3 y4 y5, LeO (quorumlaw8_ChainTells.l5 k y0 y1 y2 y3 y4 y5) (quorumlaw8_ChainTells.l5 (k + 1) y0 y1 y2 y3 y4 y5)) ∧ (∀ y0 y1 y2 y3 y4 y5 y6, LeO (quorumlaw8_ChainTells.j18 k y0 y1 y2 y3 y4 y5 y6) (quorumlaw8_ChainTells.j18 (k + 1) y0 y1 y2 y3 y4 y5 y6)) ∧ (∀ y0 y1 y2 y3 y4 y5 y6 y7 y8 y9 y10 y11, LeO (quorumlaw8_ChainTells.j19 k y0 y1 y2 y3 y4 y5 y6 y7 y8 y9 y10 y11) (quorumlaw8_ChainTells.j19 (k + 1) y0 y1 y2 y3 y4 y5 y6 y7 y8 y9 y10 y11)) ∧ (∀ y0 y1 y2 y3 y4 y5 y6 y7 y8 y9 y10 y11, LeO (quorumlaw8_ChainTells.j20 k y0 y1 y2 y3 y4 y5 y6 y7 y8 y9 y10 y11) (quorumlaw8_ChainTells.j20 (k + 1) y0 y1 y2 y3 y4 y5 y6 y7 y8 y9 y10 y11)) ∧ (∀ y0 y1 y2 y3 y4 y5 y6, LeO (quorumlaw8_ChainTells.j21 k y0 y1 y2 y3 y4 y5 y6) (quorumlaw8_ChainTells.j21 (k + 1) y0 y1 y2 y3 y4 y5 y6))
 | 0 => ⟨fun _ _ _ _ _ _ r h => by simp [quorumlaw8_ChainTells.l0] at h, fun _ _ _ _ _ _ _ r h => by simp [quorumlaw8_ChainTells.j1] at h, fun _ _ _ _ _ _ _ _ _ _ _ _ _ r h => by simp [quorumlaw8_ChainTells.j2] at h, fun _ _ _ _ _ _ _ _ _ _ _ r h => by simp [quorumlaw8_ChainTells.j3] at h, fun _ _ _ _ _ _ _ _ _ _ _ r h => by simp [quorumlaw8_ChainTells.l1] at h, fun _ _ _ _ _ _ _ _ _ _ _ _ r h => by simp [quorumlaw8_ChainTells.j5] at h, fun _ _ _ _ _ _ _ _ _ _ _ _ _ _ _ _ _ _ _ _ _ _ _ _ r h => by simp [quorumlaw8_ChainTells.j7] at h, fun _ _ _ _ _ _ _ _ _ _ _ _ r h => by simp [quorumlaw8_ChainTells.j8] at h, fun _ _ _ _ _ _ _ _ _ _ _ _ _ _ _ _ _ _ _ _ _ _ r h => by simp [quorumlaw8_ChainTells.j6] at h, fun _ _ _ _ _ _ _ _ _ _ r h => by simp [quorumlaw8_ChainTells.l2] at h, fun _ _ _ _ _ _ _ _ _ _ _ r h => by simp [quorumlaw8_ChainTells.j10] at h, fun _ _ _ _ _ _ _ _ _ _ _ _ _ _ _ _ r h => by simp [quorumlaw8_ChainTells.j11] at h, fun _ _ _ _ _ _ _ _ _ _ _ _ _ _ _ _ r h => by simp [quorumlaw8_ChainTells.j12] at h, fun _ _ _ _ _ _ _ _ _ _ _ _ _ r h => by simp [quorumlaw8_ChainTells.j13] at h, fun _ _ _ _ _ _ _ _ _ _ _ _ _ r h => by simp [quorumlaw8_ChainTells.l3] at h, fun _ _ _ _ _ r h => by simp [quorumlaw8_ChainTells.l4] at h, fun _ _ _ _ _ _ r h => by simp [quorumlaw8_ChainTells.j16] at h, fun _ _ _ _ _ _ r h => by simp [quorumlaw8_ChainTells.l5] at h, fun _ _ _ _ _ _ _ r h => by simp [quorumlaw8_ChainTells.j18] at h, fun _ _ _ _ _ _ _ _ _ _ _ _ r h => by simp [quorumlaw8_ChainTells.j19] at h, fun _ _ _ _ _ _ _ _ _ _ _ _ r h => by simp [quorumlaw8_ChainTells.j20] at h, fun _ _ _ _ _ _ _ r h => by simp [quorumlaw8_ChainTells.j21] at h⟩
 | k + 1 => by
  obtain ⟨ih0, ih1, ih2, ih3, ih4, ih5, ih6, ih7, ih8, ih9, ih10, ih11, ih12, ih13, ih14, ih15, ih16, ih17, ih18, ih19, ih20, ih21⟩ := quorumlaw8_ChainTells.mono_l k
  refine ⟨?_, ?_, ?_, ?_, ?_, ?_, ?_, ?_, ?_, ?_, ?_, ?_, ?_, ?_, ?_, ?_, ?_, ?_, ?_, ?_, ?_, ?_⟩
  ·intro y0 y1 y2 y3 y4 y5
   unfold quorumlaw8_ChainTells.l0
   repeat' first
   | (with_reducible exact ih0 _ _ _ _ _ _)
   | (with_reducible exact ih1 _ _ _ _ _ _ _)
   | (with_reducible exact ih2 _ _ _ _ _ _ _ _ _ _ _ _ _)
   | (with_reducible exact ih3 _ _ _ _ _ _ _ _ _ _ _)
   | (with_reducible exact ih4 _ _ _ _ _ _ _ _ _ _ _)
   | (with_reducible exact ih5 _ _ _ _ _ _ _ _ _ _ _ _)
   | (with_reducible exact ih6 _ _ _ _ _ _ _ _ _ _ _ _ _ _ _ _ _ _ _ _ _ _ _ _)
   | (with_reducible exact ih7 _ _ _ _ _ _ _ _ _ _ _ _)
   | (with_reducible exact ih8 _ _ _ _ _ _ _ _ _ _ _ _ _ _ _ _ _ _ _ _ _ _)
   | (with_reducible exact ih9 _ _ _ _ _ _ _ _ _ _)
   | (with_reducible exact ih10 _ _ _ _ _ _ _ _ _ _ _)
   | (with_reducible exact ih11 _ _ _ _ _ _ _ _ _ _ _ _ _ _ _ _)
   | (with_reducible exact ih12 _ _ _ _ _ _ _ _ _ _ _ _ _ _ _ _)
   | (with_reducible exact ih13 _ _ _ _ _ _ _ _ _ _ _ _ _)
   | (with_reducible exact ih14 _ _ _ _ _ _ _ _ _ _ _ _ _)
   | (with_reducible exact ih15 _ _ _ _ _)
   | (with_reducible exact ih16 _ _ _ _ _ _)
   | (with_reducible exact ih17 _ _ _ _ _ _)
   | (with_reducible exact ih18 _ _ _ _ _ _ _)
   | (with_reducible exact ih19 _ _ _ _ _ _ _ _ _ _ _ _)
   | (with_reducible exact ih20 _ _ _ _ _ _ _ _ _ _ _ _)
   | (with_reducible exact ih21 _ _ _ _ _ _ _)
   | (with_reducible exact chain_Add.mono _ _ _ _ _ _)
   | (with_reducible exact chain_At.mono _ _ _ _)
   | (with_reducible exact chain_Check.mono _ _ _)
   | (with_reducible exact chain_Count.mono _ _ _)
   | (with_reducible exact chain_New.mono _ _ _ _ _)
   | (with_reducible exact chain_Purge.mono _ _ _ _)
   | (with_reducible exact quorumlaw8_Heavy.mono _ _ _ _ _)
   | (with_reducible exact quorumlaw8_wakes.mono _)
   | (with_reducible exact quorumref0_CopyChain.mono _ _ _)
   | (with_reducible exact quorumref0_EqChain.mono _ _ _ _ _)
   | (with_reducible exact quorumref8_Add.mono _ _ _ _ _ _)
   | (with_reducible exact quorumref8_At.mono _ _ _ _)
   | (with_reducible exact quorumref8_Chain.mono _ _ _)
   | (with_reducible exact quorumref8_Purge.mono _ _ _ _)
   | (with_reducible exact LeO.refl _)
   | (with_reducible exact LeO.none _)
   | (with_reducible refine LeO.ite ?_ ?_)
   | (with_reducible refine LeO.bind ?_ (fun _ => ?_))
   | exact ih0 _ _ _ _ _ _
   | exact ih1 _ _ _ _ _ _ _
   | exact ih2 _ _ _ _ _ _ _ _ _ _ _ _ _
   | exact ih3 _ _ _ _ _ _ _ _ _ _ _
   | exact ih4 _ _ _ _ _ _ _ _ _ _ _
   | exact ih5 _ _ _ _ _ _ _ _ _ _ _ _
   | exact ih6 _ _ _ _ _ _ _ _ _ _ _ _ _ _ _ _ _ _ _ _ _ _ _ _
   | exact ih7 _ _ _ _ _ _ _ _ _ _ _ _
   | exact ih8 _ _ _ _ _ _ _ _ _ _ _ _ _ _ _ _ _ _ _ _ _ _
   | exact ih9 _ _ _ _ _ _ _ _ _ _
   | exact ih10 _ _ _ _ _ _ _ _ _ _ _
   | exact ih11 _ _ _ _ _ _ _ _ _ _ _ _ _ _ _ _
   | exact ih12 _ _ _ _ _ _ _ _ _ _ _ _ _ _ _ _
   | exact ih13 _ _ _ _ _ _ _ _ _ _ _ _ _
   | exact ih14 _ _ _ _ _ _ _ _ _ _ _ _ _
   | exact ih15 _ _ _ _ _
   | exact ih16 _ _ _ _ _ _
   | exact ih17 _ _ _ _ _ _
   | exact ih18 _ _ _ _ _ _ _
   | exact ih19 _ _ _ _ _ _ _ _ _ _ _ _
   | exact ih20 _ _ _ _ _ _ _ _ _ _ _ _
   | exact ih21 _ _ _ _ _ _ _
   | exact chain_Add.mono _ _ _ _ _ _
   | exact chain_At.mono _ _ _ _
   | exact chain_Check.mono _ _ _
   | exact chain_Count.mono _ _ _
   | exact chain_New.mono _ _ _ _ _
   | exact chain_Purge.mono _ _ _ _
   | exact quorumlaw8_Heavy.mono _ _ _ _ _
   | exact quorumlaw8_wakes.mono _
   | exact quorumref0_CopyChain.mono _ _ _
   | exact quorumref0_EqChain.mono _ _ _ _ _
   | exact quorumref8_Add.mono _ _ _ _ _ _
   | exact quorumref8_At.mono _ _ _ _
   | exact quorumref8_Chain.mono _ _ _
   | exact quorumref8_Purge.mono _ _ _ _
   | exact LeO.none _
   | refine LeO.ite ?_ ?_
   | refine LeO.bind ?_ (fun _ => ?_)
  ·intro y0 y1 y2 y3 y4 y5 y6
   unfold quorumlaw8_ChainTells.j1
   repeat' first
   | (with_reducible exact ih0 _ _ _ _ _ _)
   | (with_reducible exact ih1 _ _ _ _ _ _ _)
   | (with_reducible exact ih2 _ _ _ _ _ _ _ _ _ _ _ _ _)
   | (with_reducible exact ih3 _ _ _ _ _ _ _ _ _ _ _)
   | (with_reducible exact ih4 _ _ _ _ _ _ _ _ _ _ _)
   | (with_reducible exact ih5 _ _ _ _ _ _ _ _ _ _ _ _)
   | (with_reducible exact ih6 _ _ _ _ _ _ _ _ _ _ _ _ _ _ _ _ _ _ _ _ _ _ _ _)
   | (with_reducible exact ih7 _ _ _ _ _ _ _ _ _ _ _ _)
   | (with_reducible exact ih8 _ _ _ _ _ _ _ _ _ _ _ _ _ _ _ _ _ _ _ _ _ _)
   | (with_reducible exact ih9 _ _ _ _ _ _ _ _ _ _)
   | (with_reducible exact ih10 _ _ _ _ _ _ _ _ _ _ _)
   | (with_reducible exact ih11 _ _ _ _ _ _ _ _ _ _ _ _ _ _ _ _)
   | (with_reducible exact ih12 _ _ _ _ _ _ _ _ _ _ _ _ _ _ _ _)
   | (with_reducible exact ih13 _ _ _ _ _ _ _ _ _ _ _ _ _)
   | (with_reducible exact ih14 _ _ _ _ _ _ _ _ _ _ _ _ _)
   | (with_reducible exact ih15 _ _ _ _ _)
   | (with_reducible exact ih16 _ _ _ _ _ _)
   | (with_reducible exact ih17 _ _ _ _ _ _)
   | (with_reducible exact ih18 _ _ _ _ _ _ _)
   | (with_reducible exact ih19 _ _ _ _ _ _ _ _ _ _ _ _)
   | (with_reducible exact ih20 _ _ _ _ _ _ _ _ _ _ _ _)
   | (with_reducible exact ih21 _ _ _ _ _ _ _)
   | (with_reducible exact chain_Add.mono _ _ _ _ _ _)
   | (with_reducible exact chain_At.mono _ _ _ _)
   | (with_reducible exact chain_Check.mono _ _ _)
   | (with_reducible exact chain_Count.mono _ _ _)
   | (with_reducible exact chain_New.mono _ _ _ _ _)
   | (with_reducible exact chain_Purge.mono _ _ _ _)
   | (with_reducible exact quorumlaw8_Heavy.mono _ _ _ _ _)
   | (with_reducible exact quorumlaw8_wakes.mono _)
   | (with_reducible exact quorumref0_CopyChain.mono _ _ _)
   | (with_reducible exact quorumref0_EqChain.mono _ _ _ _ _)
   | (with_reducible exact quorumref8_Add.mono _ _ _ _ _ _)
   | (with_reducible exact quorumref8_At.mono _ _ _ _)
   | (with_reducible exact quorumref8_Chain.mono _ _ _)
   | (with_reducible exact quorumref8_Purge.mono _ _ _ _)
   | (with_reducible exact LeO.refl _)
   | (with_reducible exact LeO.none _)
   | (with_reducible refine LeO.ite ?_ ?_)
   | (with_reducible refine LeO.bind ?_ (fun _ => ?_))
   | exact ih0 _ _ _ _ _ _
   | exact ih1 _ _ _ _ _ _ _
   | exact ih2 _ _ _ _ _ _ _ _ _ _ _ _ _
   | exact ih3 _ _ _ _ _ _ _ _ _ _ _
   | exact ih4 _ _ _ _ _ _ _ _ _ _ _
   | exact ih5 _ _ _ _ _ _ _ _ _ _ _ _
   | exact ih6 _ _ _ _ _ _ _ _ _ _ _ _ _ _ _ _ _ _ _ _ _ _ _ _
   | exact ih7 _ _ _ _ _ _ _ _ _ _ _ _
   | exact ih8 _ _ _ _ _ _ _ _ _ _ _ _ _ _ _ _ _ _ _ _ _ _
   | exact ih9 _ _ _ _ _ _ _ _ _ _
   | exact ih10 _ _ _ _ _ _ _ _ _ _ _
   | exact ih11 _ _ _ _ _ _ _ _ _ _ _ _ _ _ _ _
   | exact ih12 _ _ _ _ _ _ _ _ _ _ _ _ _ _ _ _
   | exact ih13 _ _ _ _ _ _ _ _ _ _ _ _ _
   | exact ih14 _ _ _ _ _ _ _ _ _ _ _ _ _
   | exact ih15 _ _ _ _ _
   | exact ih16 _ _ _ _ _ _
   | exact ih17 _ _ _ _ _ _
   | exact ih18 _ _ _ _ _ _ _
   | exact ih19 _ _ _ _ _ _ _ _ _ _ _ _
   | exact ih20 _ _ _ _ _ _ _ _ _ _ _ _
   | exact ih21 _ _ _ _ _ _ _
   | exact chain_Add.mono _ _ _ _ _ _
   | exact chain_At.mono _ _ _ _
   | exact chain_Check.mono _ _ _
   | exact chain_Count.mono _ _ _
   | exact chain_New.mono _ _ _ _ _
   | exact chain_Purge.mono _ _ _ _
   | exact quorumlaw8_Heavy.mono _ _ _ _ _
   | exact quorumlaw8_wakes.mono _
   | exact quorumref0_CopyChain.mono _ _ _
   | exact quorumref0_EqChain.mono _ _ _ _ _
   | exact quorumref8_Add.mono _ _ _ _ _ _
   | exact quorumref8_At.mono _ _ _ _
   | exact quorumref8_Chain.mono _ _ _
   | exact quorumref8_Purge.mono _ _ _ _
   | exact LeO.none _
   | refine LeO.ite ?_ ?_
   | refine LeO.bind ?_ (fun _ => ?_)
  ·intro y0 y1 y2 y3 y4 y5 y6 y7 y8 y9 y10 y11 y12
   unfold quorumlaw8_ChainTells.j2
   repeat' first
   | (with_reducible exact ih0 _ _ _ _ _ _)
   | (with_reducible exact ih1 _ _ _ _ _ _ _)
   | (with_reducible exact ih2 _ _ _ _ _ _ _ _ _ _ _ _ _)
   | (with_reducible exact ih3 _ _ _ _ _ _ _ _ _ _ _)
   | (with_reducible exact ih4 _ _ _ _ _ _ _ _ _ _ _)
   | (with_reducible exact ih5 _ _ _ _ _ _ _ _ _ _ _ _)
   | (with_reducible exact ih6 _ _ _ _ _ _ _ _ _ _ _ _ _ _ _ _ _ _ _ _ _ _ _ _)
   | (with_reducible exact ih7 _ _ _ _ _ _ _ _ _ _ _ _)
   | (with_reducible exact ih8 _ _ _ _ _ _ _ _ _ _ _ _ _ _ _ _ _ _ _ _ _ _)
   | (with_reducible exact ih9 _ _ _ _ _ _ _ _ _ _)
   | (with_reducible exact ih10 _ _ _ _ _ _ _ _ _ _ _)
   | (with_reducible exact ih11 _ _ _ _ _ _ _ _ _ _ _ _ _ _ _ _)
   | (with_reducible exact ih12 _ _ _ _ _ _ _ _ _ _ _ _ _ _ _ _)
   | (with_reducible exact ih13 _ _ _ _ _ _ _ _ _ _ _ _ _)
   | (with_reducible exact ih14 _ _ _ _ _ _ _ _ _ _ _ _ _)
   | (with_reducible exact ih15 _ _ _ _ _)
   | (with_reducible exact ih16 _ _ _ _ _ _)
   | (with_reducible exact ih17 _ _ _ _ _ _)
   | (with_reducible exact ih18 _ _ _ _ _ _ _)
   | (with_reducible exact ih19 _ _ _ _ _ _ _ _ _ _ _ _)
   | (with_reducible exact ih20 _ _ _ _ _ _ _ _ _ _ _ _)
   | (with_reducible exact ih21 _ _ _ _ _ _ _)
   | (with_reducible exact chain_Add.mono _ _ _ _ _ _)
   | (with_reducible exact chain_At.mono _ _ _ _)
   | (with_reducible exact chain_Check.mono _ _ _)
   | (with_reducible exact chain_Count.mono _ _ _)
   | (with_reducible exact chain_New.mono _ _ _ _ _)
   | (with_reducible exact chain_Purge.mono _ _ _ _)
   | (with_reducible exact quorumlaw8_Heavy.mono _ _ _ _ _)
   | (with_reducible exact quorumlaw8_wakes.mono _)
   | (with_reducible exact quorumref0_CopyChain.mono _ _ _)
   | (with_reducible exact quorumref0_EqChain.mono _ _ _ _ _)
   | (with_reducible exact quorumref8_Add.mono _ _ _ _ _ _)
   | (with_reducible exact quorumref8_At.mono _ _ _ _)
   | (with_reducible exact quorumref8_Chain.mono _ _ _)
   | (with_reducible exact quorumref8_Purge.mono _ _ _ _)
   | (with_reducible exact LeO.refl _)
   | (with_reducible exact LeO.none _)
   | (with_reducible refine LeO.ite ?_ ?_)
   | (with_reducible refine LeO.bind ?_ (fun _ => ?_))
   | exact ih0 _ _ _ _ _ _
   | exact ih1 _ _ _ _ _ _ _
   | exact ih2 _ _ _ _ _ _ _ _ _ _ _ _ _
   | exact ih3 _ _ _ _ _ _ _ _ _ _ _
   | exact ih4 _ _ _ _ _ _ _ _ _ _ _
   | exact ih5 _ _ _ _ _ _ _ _ _ _ _ _
   | exact ih6 _ _ _ _ _ _ _ _ _ _ _ _ _ _ _ _ _ _ _ _ _ _ _ _
   | exact ih7 _ _ _ _ _ _ _ _ _ _ _ _
   | exact ih8 _ _ _ _ _ _ _ _ _ _ _ _ _ _ _ _ _ _ _ _ _ _
   | exact ih9 _ _ _ _ _ _ _ _ _ _
   | exact ih10 _ _ _ _ _ _ _ _ _ _ _
   | exact ih11 _ _ _ _ _ _ _ _ _ _ _ _ _ _ _ _
   | exact ih12 _ _ _ _ _ _ _ _ _ _ _ _ _ _ _ _
   | exact ih13 _ _ _ _ _ _ _ _ _ _ _ _ _
   | exact ih14 _ _ _ _ _ _ _ _ _ _ _ _ _
   | exact ih15 _ _ _ _ _
   | exact ih16 _ _ _ _ _ _
   | exact ih17 _ _ _ _ _ _
   | exact ih18 _ _ _ _ _ _ _
   | exact ih19 _ _ _ _ _ _ _ _ _ _ _ _
   | exact ih20 _ _ _ _ _ _ _ _ _ _ _ _
   | exact ih21 _ _ _ _ _ _ _
   | exact chain_Add.mono _ _ _ _ _ _
   | exact chain_At.mono _ _ _ _
   | exact chain_Check.mono _ _ _
   | exact chain_Count.mono _ _ _
   | exact chain_New.mono _ _ _ _ _
   | exact chain_Purge.mono _ _ _ _
   | exact quorumlaw8_Heavy.mono _ _ _ _ _
   | exact quorumlaw8_wakes.mono _
   | exact quorumref0_CopyChain.mono _ _ _
   | exact quorumref0_EqChain.mono _ _ _ _ _
   | exact quorumref8_Add.mono _ _ _ _ _ _
   | exact quorumref8_At.mono _ _ _ _
   | exact quorumref8_Chain.mono _ _ _
   | exact quorumref8_Purge.mono _ _ _ _
   | exact LeO.none _
   | refine LeO.ite ?_ ?_
   | refine LeO.bind ?_ (fun _ => ?_)
  ·intro y0 y1 y2 y3 y4 y5 y6 y7 y8 y9 y10
   unfold quorumlaw8_ChainTells.j3
   repeat' first
   | (with_reducible exact ih0 _ _ _ _ _ _)
   | (with_reducible exact ih1 _ _ _ _ _ _ _)
   | (with_reducible exact ih2 _ _ _ _ _ _ _ _ _ _ _ _ _)
   | (with_reducible exact ih3 _ _ _ _ _ _ _ _ _ _ _)
   | (with_reducible exact ih4 _ _ _ _ _ _ _ _ _ _ _)
   | (with_reducible exact ih5 _ _ _ _ _ _ _ _ _ _ _ _)
   | (with_reducible exact ih6 _ _ _ _ _ _ _ _ _ _ _ _ _ _ _ _ _ _ _ _ _ _ _ _)
   | (with_reducible exact ih7 _ _ _ _ _ _ _ _ _ _ _ _)
   | (with_reducible exact ih8 _ _ _ _ _ _ _ _ _ _ _ _ _ _ _ _ _ _ _ _ _ _)
   | (with_reducible exact ih9 _ _ _ _ _ _ _ _ _ _)
   | (with_reducible exact ih10 _ _ _ _ _ _ _ _ _ _ _)
   | (with_reducible exact ih11 _ _ _ _ _ _ _ _ _ _ _ _ _ _ _ _)
   | (with_reducible exact ih12 _ _ _ _ _ _ _ _ _ _ _ _ _ _ _ _)
   | (with_reducible exact ih13 _ _ _ _ _ _ _ _ _ _ _ _ _)
   | (with_reducible exact ih14 _ _ _ _ _ _ _ _ _ _ _ _ _)
   | (with_reducible exact ih15 _ _ _ _ _)
   | (with_reducible exact ih16 _ _ _ _ _ _)
   | (with_reducible exact ih17 _ _ _ _ _ _)
   | (with_reducible exact ih18 _ _ _ _ _ _ _)
   | (with_reducible exact ih19 _ _ _ _ _ _ _ _ _ _ _ _)
   | (with_reducible exact ih20 _ _ _ _ _ _ _ _ _ _ _ _)
   | (with_reducible exact ih21 _ _ _ _ _ _ _)
   | (with_reducible exact chain_Add.mono _ _ _ _ _ _)
   | (with_reducible exact chain_At.mono _ _ _ _)
   | (with_reducible exact chain_Check.mono _ _ _)
   | (with_reducible exact chain_Count.mono _ _ _)
   | (with_reducible exact chain_New.mono _ _ _ _ _)
   | (with_reducible exact chain_Purge.mono _ _ _ _)
   | (with_reducible exact quorumlaw8_Heavy.mono _ _ _ _ _)
   | (with_reducible exact quorumlaw8_wakes.mono _)
   | (with_reducible exact quorumref0_CopyChain.mono _ _ _)
   | (with_reducible exact quorumref0_EqChain.mono _ _ _ _ _)
   | (with_reducible exact quorumref8_Add.mono _ _ _ _ _ _)
   | (with_reducible exact quorumref8_At.mono _ _ _ _)
   | (with_reducible exact quorumref8_Chain.mono _ _ _)
   | (with_reducible exact quorumref8_Purge.mono _ _ _ _)
   | (with_reducible exact LeO.refl _)
   | (with_reducible exact LeO.none _)
   | (with_reducible refine LeO.ite ?_ ?_)
   | (with_reducible refine LeO.bind ?_ (fun _ => ?_))
   | exact ih0 _ _ _ _ _ _
   | exact ih1 _ _ _ _ _ _ _
   | exact ih2 _ _ _ _ _ _ _ _ _ _ _ _ _
   | exact ih3 _ _ _ _ _ _ _ _ _ _ _
   | exact ih4 _ _ _ _ _ _ _ _ _ _ _
   | exact ih5 _ _ _ _ _ _ _ _ _ _ _ _
   | exact ih6 _ _ _ _ _ _ _ _ _ _ _ _ _ _ _ _ _ _ _ _ _ _ _ _
   | exact ih7 _ _ _ _ _ _ _ _ _ _ _ _
   | exact ih8 _ _ _ _ _ _ _ _ _ _ _ _ _ _ _ _ _ _ _ _ _ _
   | exact ih9 _ _ _ _ _ _ _ _ _ _
   | exact ih10 _ _ _ _ _ _ _ _ _ _ _
   | exact ih11 _ _ _ _ _ _ _ _ _ _ _ _ _ _ _ _
   | exact ih12 _ _ _ _ _ _ _ _ _ _ _ _ _ _ _ _
   | exact ih13 _ _ _ _ _ _ _ _ _ _ _ _ _
   | exact ih14 _ _ _ _ _ _ _ _ _ _ _ _ _
   | exact ih15 _ _ _ _ _
   | exact ih16 _ _ _ _ _ _
   | exact ih17 _ _ _ _ _ _
   | exact ih18 _ _ _ _ _ _ _
   | exact ih19 _ _ _ _ _ _ _ _ _ _ _ _
   | exact ih20 _ _ _ _ _ _ _ _ _ _ _ _
   | exact ih21 _ _ _ _ _ _ _
   | exact chain_Add.mono _ _ _ _ _ _
   | exact chain_At.mono _ _ _ _
   | exact chain_Check.mono _ _ _
   | exact chain_Count.mono _ _ _
   | exact chain_New.mono _ _ _ _ _
   | exact chain_Purge.mono _ _ _ _
   | exact quorumlaw8_Heavy.mono _ _ _ _ _
   | exact quorumlaw8_wakes.mono _
   | exact quorumref0_CopyChain.mono _ _ _
   | exact quorumref0_EqChain.mono _ _ _ _ _
   | exact quorumref8_Add.mono _ _ _ _ _ _
   | exact quorumref8_At.mono _ _ _ _
   | exact quorumref8_Chain.mono _ _ _
   | exact quorumref8_Purge.mono _ _ _ _
   | exact LeO.none _
   | refine LeO.ite ?_ ?_
   | refine LeO.bind ?_ (fun _ => ?_)
  ·intro y0 y1 y2 y3 y4 y5 y6 y7 y8 y9 y10
   unfold quorumlaw8_ChainTells.l1
   repeat' first
   | (with_reducible exact ih0 _ _ _ _ _ _)
   | (with_reducible exact ih1 _ _ _ _ _ _ _)
   | (with_reducible exact ih2 _ _ _ _ _ _ _ _ _ _ _ _ _)
   | (with_reducible exact ih3 _ _ _ _ _ _ _ _ _ _ _)
   | (with_reducible exact ih4 _ _ _ _ _ _ _ _ _ _ _)
   | (with_reducible exact ih5 _ _ _ _ _ _ _ _ _ _ _ _)
   | (with_reducible exact ih6 _ _ _ _ _ _ _ _ _ _ _ _ _ _ _ _ _ _ _ _ _ _ _ _)
   | (with_reducible exact ih7 _ _ _ _ _ _ _ _ _ _ _ _)
   | (with_reducible exact ih8 _ _ _ _ _ _ _ _ _ _ _ _ _ _ _ _ _ _ _ _ _ _)
   | (with_reducible exact ih9 _ _ _ _ _ _ _ _ _ _)
   | (with_reducible exact ih10 _ _ _ _ _ _ _ _ _ _ _)
   | (with_reducible exact ih11 _ _ _ _ _ _ _ _ _ _ _ _ _ _ _ _)
   | (with_reducible exact ih12 _ _ _ _ _ _ _ _ _ _ _ _ _ _ _ _)
   | (with_reducible exact ih13 _ _ _ _ _ _ _ _ _ _ _ _ _)
   | (with_reducible exact ih14 _ _ _ _ _ _ _ _ _ _ _ _ _)
   | (with_reducible exact ih15 _ _ _ _ _)
   | (with_reducible exact ih16 _ _ _ _ _ _)
   | (with_reducible exact ih17 _ _ _ _ _ _)
   | (with_reducible exact ih18 _ _ _ _ _ _ _)
   | (with_reducible exact ih19 _ _ _ _ _ _ _ _ _ _ _ _)
   | (with_reducible exact ih20 _ _ _ _ _ _ _ _ _ _ _ _)
   | (with_reducible exact ih21 _ _ _ _ _ _ _)
   | (with_reducible exact chain_Add.mono _ _ _ _ _ _)
   | (with_reducible exact chain_At.mono _ _ _ _)
   | (with_reducible exact chain_Check.mono _ _ _)
   | (with_reducible exact chain_Count.mono _ _ _)
   | (with_reducible exact chain_New.mono _ _ _ _ _)
   | (with_reducible exact chain_Purge.mono _ _ _ _)
   | (with_reducible exact quorumlaw8_Heavy.mono _ _ _ _ _)
   | (with_reducible exact quorumlaw8_wakes.mono _)
   | (with_reducible exact quorumref0_CopyChain.mono _ _ _)
   | (with_reducible exact quorumref0_EqChain.mono _ _ _ _ _)
   | (with_reducible exact quorumref8_Add.mono _ _ _ _ _ _)
   | (with_reducible exact quorumref8_At.mono _ _ _ _)
   | (with_reducible exact quorumref8_Chain.mono _ _ _)
   | (with_reducible exact quorumref8_Purge.mono _ _ _ _)
   | (with_reducible exact LeO.refl _)
   | (with_reducible exact LeO.none _)
   | (with_reducible refine LeO.ite ?_ ?_)
   | (with_reducible refine LeO.bind ?_ (fun _ => ?_))
   | exact ih0 _ _ _ _ _ _
   | exact ih1 _ _ _ _ _ _ _
   | exact ih2 _ _ _ _ _ _ _ _ _ _ _ _ _
   | exact ih3 _ _ _ _ _ _ _ _ _ _ _
   | exact ih4 _ _ _ _ _ _ _ _ _ _ _
   | exact ih5 _ _ _ _ _ _ _ _ _ _ _ _
   | exact ih6 _ _ _ _ _ _ _ _ _ _ _ _ _ _ _ _ _ _ _ _ _ _ _ _
   | exact ih7 _ _ _ _ _ _ _ _ _ _ _ _
   | exact ih8 _ _ _ _ _ _ _ _ _ _ _ _ _ _ _ _ _ _ _ _ _ _
   | exact ih9 _ _ _ _ _ _ _ _ _ _
   | exact ih10 _ _ _ _ _ _ _ _ _ _ _
   | exact ih11 _ _ _ _ _ _ _ _ _ _ _ _ _ _ _ _
   | exact ih12 _ _ _ _ _ _ _ _ _ _ _ _ _ _ _ _
   | exact ih13 _ _ _ _ _ _ _ _ _ _ _ _ _
   | exact ih14 _ _ _ _ _ _ _ _ _ _ _ _ _
   | exact ih15 _ _ _ _ _
   | exact ih16 _ _ _ _ _ _
   | exact ih17 _ _ _ _ _ _
   | exact ih18 _ _ _ _ _ _ _
   | exact ih19 _ _ _ _ _ _ _ _ _ _ _ _
   | exact ih20 _ _ _ _ _ _ _ _ _ _ _ _
   | exact ih21 _ _ _ _ _ _ _
   | exact chain_Add.mono _ _ _ _ _ _
   | exact chain_At.mono _ _ _ _
   | exact chain_Check.mono _ _ _
   | exact chain_Count.mono _ _ _
   | exact chain_New.mono _ _ _ _ _
   | exact chain_Purge.mono _ _ _ _
   | exact quorumlaw8_Heavy.mono _ _ _ _ _
   | exact quorumlaw8_wakes.mono _
   | exact quorumref0_CopyChain.mono _ _ _
   | exact quorumref0_EqChain.mono _ _ _ _ _
   | exact quorumref8_Add.mono _ _ _ _ _ _
   | exact quorumref8_At.mono _ _ _ _
   | exact quorumref8_Chain.mono _ _ _
   | exact quorumref8_Purge.mono _ _ _ _
   | exact LeO.none _
   | refine LeO.ite ?_ ?_
   | refine LeO.bind ?_ (fun _ => ?_)
  ·intro y0 y1 y2 y3 y4 y5 y6 y7 y8 y9 y10 y11
   unfold quorumlaw8_ChainTells.j5
   repeat' first
   | (with_reducible exact ih0 _ _ _ _ _ _)
   | (with_reducible exact ih1 _ _ _ _ _ _ _)
   | (with_reducible exact ih2 _ _ _ _ _ _ _ _ _ _ _ _ _)
   | (with_reducible exact ih3 _ _ _ _ _ _ _ _ _ _ _)
   | (with_reducible exact ih4 _ _ _ _ _ _ _ _ _ _ _)
   | (with_reducible exact ih5 _ _ _ _ _ _ _ _ _ _ _ _)
   | (with_reducible exact ih6 _ _ _ _ _ _ _ _ _ _ _ _ _ _ _ _ _ _ _ _ _ _ _ _)
   | (with_reducible exact ih7 _ _ _ _ _ _ _ _ _ _ _ _)
   | (with_reducible exact ih8 _ _ _ _ _ _ _ _ _ _ _ _ _ _ _ _ _ _ _ _ _ _)
   | (with_reducible exact ih9 _ _ _ _ _ _ _ _ _ _)
   | (with_reducible exact ih10 _ _ _ _ _ _ _ _ _ _ _)
   | (with_reducible exact ih11 _ _ _ _ _ _ _ _ _ _ _ _ _ _ _ _)
   | (with_reducible exact ih12 _ _ _ _ _ _ _ _ _ _ _ _ _ _ _ _)
   | (with_reducible exact ih13 _ _ _ _ _ _ _ _ _ _ _ _ _)
   | (with_reducible exact ih14 _ _ _ _ _ _ _ _ _ _ _ _ _)
   | (with_reducible exact ih15 _ _ _ _ _)
   | (with_reducible exact ih16 _ _ _ _ _ _)
   | (with_reducible exact ih17 _ _ _ _ _ _)
   | (with_reducible exact ih18 _ _ _ _ _ _ _)
   | (with_reducible exact ih19 _ _ _ _ _ _ _ _ _ _ _ _)
   | (with_reducible exact ih20 _ _ _ _ _ _ _ _ _ _ _ _)
   | (with_reducible exact ih21 _ _ _ _ _ _ _)
   | (with_reducible exact chain_Add.mono _ _ _ _ _ _)
   | (with_reducible exact chain_At.mono _ _ _ _)
   | (with_reducible exact chain_Check.mono _ _ _)
   | (with_reducible exact chain_Count.mono _ _ _)
   | (with_reducible exact chain_New.mono _ _ _ _ _)
   | (with_reducible exact chain_Purge.mono _ _ _ _)
   | (with_reducible exact quorumlaw8_Heavy.mono _ _ _ _ _)
   | (with_reducible exact quorumlaw8_wakes.mono _)
   | (with_reducible exact quorumref0_CopyChain.mono _ _ _)
   | (with_reducible exact quorumref0_EqChain.mono _ _ _ _ _)
   | (with_reducible exact quorumref8_Add.mono _ _ _ _ _ _)
   | (with_reducible exact quorumref8_At.mono _ _ _ _)
   | (with_reducible exact quorumref8_Chain.mono _ _ _)
   | (with_reducible exact quorumref8_Purge.mono _ _ _ _)
   | (with_reducible exact LeO.refl _)
   | (with_reducible exact LeO.none _)
   | (with_reducible refine LeO.ite ?_ ?_)
   | (with_reducible refine LeO.bind ?_ (fun _ => ?_))
   | exact ih0 _ _ _ _ _ _
   | exact ih1 _ _ _ _ _ _ _
   | exact ih2 _ _ _ _ _ _ _ _ _ _ _ _ _
   | exact ih3 _ _ _ _ _ _ _ _ _ _ _
   | exact ih4 _ _ _ _ _ _ _ _ _ _ _
   | exact ih5 _ _ _ _ _ _ _ _ _ _ _ _
   | exact ih6 _ _ _ _ _ _ _ _ _ _ _ _ _ _ _ _ _ _ _ _ _ _ _ _
   | exact ih7 _ _ _ _ _ _ _ _ _ _ _ _
   | exact ih8 _ _ _ _ _ _ _ _ _ _ _ _ _ _ _ _ _ _ _ _ _ _
   | exact ih9 _ _ _ _ _ _ _ _ _ _
   | exact ih10 _ _ _ _ _ _ _ _ _ _ _
   | exact ih11 _ _ _ _ _ _ _ _ _ _ _ _ _ _ _ _
   | exact ih12 _ _ _ _ _ _ _ _ _ _ _ _ _ _ _ _
   | exact ih13 _ _ _ _ _ _ _ _ _ _ _ _ _
   | exact ih14 _ _ _ _ _ _ _ _ _ _ _ _ _
   | exact ih15 _ _ _ _ _
   | exact ih16 _ _ _ _ _ _
   | exact ih17 _ _ _ _ _ _
   | exact ih18 _ _ _ _ _ _ _
   | exact ih19 _ _ _ _ _ _ _ _ _ _ _ _
   | exact ih20 _ _ _ _ _ _ _ _ _ _ _ _
   | exact ih21 _ _ _ _ _ _ _
   | exact chain_Add.mono _ _ _ _ _ _
   | exact chain_At.mono _ _ _ _
   | exact chain_Check.mono _ _ _
   | exact chain_Count.mono _ _ _
   | exact chain_New.mono _ _ _ _ _
   | exact chain_Purge.mono _ _ _ _
   | exact quorumlaw8_Heavy.mono _ _ _ _ _
   | exact quorumlaw8_wakes.mono _
   | exact quorumref0_CopyChain.mono _ _ _
   | exact quorumref0_EqChain.mono _ _ _ _ _
   | exact quorumref8_Add.mono _ _ _ _ _ _
   | exact quorumref8_At.mono _ _ _ _
   | exact quorumref8_Chain.mono _ _ _
   | exact quorumref8_Purge.mono _ _ _ _
   | exact LeO.none _
   | refine LeO.ite ?_ ?_
   | refine LeO.bind ?_ (fun _ => ?_)
  ·intro y0 y1 y2 y3 y4 y5 y6 y7 y8 y9 y10 y11 y12 y13 y14 y15 y16 y17 y18 y19 y20 y21 y22 y23
   unfold quorumlaw8_ChainTells.j7
   repeat' first
   | (with_reducible exact ih0 _ _ _ _ _ _)
   | (with_reducible exact ih1 _ _ _ _ _ _ _)
   | (with_reducible exact ih2 _ _ _ _ _ _ _ _ _ _ _ _ _)
   | (with_reducible exact ih3 _ _ _ _ _ _ _ _ _ _ _)
   | (with_reducible exact ih4 _ _ _ _ _ _ _ _ _ _ _)
   | (with_reducible exact ih5 _ _ _ _ _ _ _ _ _ _ _ _)
   | (with_reducible exact ih6 _ _ _ _ _ _ _ _ _ _ _ _ _ _ _ _ _ _ _ _ _ _ _ _)
   | (with_reducible exact ih7 _ _ _ _ _ _ _ _ _ _ _ _)
   | (with_reducible exact ih8 _ _ _ _ _ _ _ _ _ _ _ _ _ _ _ _ _ _ _ _ _ _)
   | (with_reducible exact ih9 _ _ _ _ _ _ _ _ _ _)
   | (with_reducible exact ih10 _ _ _ _ _ _ _ _ _ _ _)
   | (with_reducible exact ih11 _ _ _ _ _ _ _ _ _ _ _ _ _ _ _ _)
   | (with_reducible exact ih12 _ _ _ _ _ _ _ _ _ _ _ _ _ _ _ _)
   | (with_reducible exact ih13 _ _ _ _ _ _ _ _ _ _ _ _ _)
   | (with_reducible exact ih14 _ _ _ _ _ _ _ _ _ _ _ _ _)
   | (with_reducible exact ih15 _ _ _ _ _)
   | (with_reducible exact ih16 _ _ _ _ _ _)
   | (with_reducible exact ih17 _ _ _ _ _ _)
   | (with_reducible exact ih18 _ _ _ _ _ _ _)
   | (with_reducible exact ih19 _ _ _ _ _ _ _ _ _ _ _ _)
   | (with_reducible exact ih20 _ _ _ _ _ _ _ _ _ _ _ _)
   | (with_reducible exact ih21 _ _ _ _ _ _ _)
   | (with_reducible exact chain_Add.mono _ _ _ _ _ _)
   | (with_reducible exact chain_At.mono _ _ _ _)
   | (with_reducible exact chain_Check.mono _ _ _)
   | (with_reducible exact chain_Count.mono _ _ _)
   | (with_reducible exact chain_New.mono _ _ _ _ _)
   | (with_reducible exact chain_Purge.mono _ _ _ _)
   | (with_reducible exact quorumlaw8_Heavy.mono _ _ _ _ _)
   | (with_reducible exact quorumlaw8_wakes.mono _)
   | (with_reducible exact quorumref0_CopyChain.mono _ _ _)
   | (with_reducible exact quorumref0_EqChain.mono _ _ _ _ _)
   | (with_reducible exact quorumref8_Add.mono _ _ _ _ _ _)
   | (with_reducible exact quorumref8_At.mono _ _ _ _)
   | (with_reducible exact quorumref8_Chain.mono _ _ _)
   | (with_reducible exact quorumref8_Purge.mono _ _ _ _)
   | (with_reducible exact LeO.refl _)
   | (with_reducible exact LeO.none _)
   | (with_reducible refine LeO.ite ?_ ?_)
   | (with_reducible refine LeO.bind ?_ (fun _ => ?_))
   | exact ih0 _ _ _ _ _ _
   | exact ih1 _ _ _ _ _ _ _
   | exact ih2 _ _ _ _ _ _ _ _ _ _ _ _ _
   | exact ih3 _ _ _ _ _ _ _ _ _ _ _
   | exact ih4 _ _ _ _ _ _ _ _ _ _ _
   | exact ih5 _ _ _ _ _ _ _ _ _ _ _ _
   | exact ih6 _ _ _ _ _ _ _ _ _ _ _ _ _ _ _ _ _ _ _ _ _ _ _ _
   | exact ih7 _ _ _ _ _ _ _ _ _ _ _ _
   | exact ih8 _ _ _ _ _ _ _ _ _ _ _ _ _ _ _ _ _ _ _ _ _ _
   | exact ih9 _ _ _ _ _ _ _ _ _ _
   | exact ih10 _ _ _ _ _ _ _ _ _ _ _
   | exact ih11 _ _ _ _ _ _ _ _ _ _ _ _ _ _ _ _
   | exact ih12 _ _ _ _ _ _ _ _ _ _ _ _ _ _ _ _
   | exact ih13 _ _ _ _ _ _ _ _ _ _ _ _ _
   | exact ih14 _ _ _ _ _ _ _ _ _ _ _ _ _
   | exact ih15 _ _ _ _ _
   | exact ih16 _ _ _ _ _ _
   | exact ih17 _ _ _ _ _ _
   | exact ih18 _ _ _ _ _ _ _
   | exact ih19 _ _ _ _ _ _ _ _ _ _ _ _
   | exact ih20 _ _ _ _ _ _ _ _ _ _ _ _
   | exact ih21 _ _ _ _ _ _ _
   | exact chain_Add.mono _ _ _ _ _ _
   | exact chain_At.mono _ _ _ _
   | exact chain_Check.mono _ _ _
   | exact chain_Count.mono _ _ _
   | exact chain_New.mono _ _ _ _ _
   | exact chain_Purge.mono _ _ _ _
   | exact quorumlaw8_Heavy.mono _ _ _ _ _
   | exact quorumlaw8_wakes.mono _
   | exact quorumref0_CopyChain.mono _ _ _
   | exact quorumref0_EqChain.mono _ _ _ _ _
   | exact quorumref8_Add.mono _ _ _ _ _ _
   | exact quorumref8_At.mono _ _ _ _
   | exact quorumref8_Chain.mono _ _ _
   | exact quorumref8_Purge.mono _ _ _ _
   | exact LeO.none _
   | refine LeO.ite ?_ ?_
   | refine LeO.bind ?_ (fun _ => ?_)
  ·intro y0 y1 y2 y3 y4 y5 y6 y7 y8 y9 y10 y11
   unfold quorumlaw8_ChainTells.j8
   repeat' first
   | (with_reducible exact ih0 _ _ _ _ _ _)
   | (with_reducible exact ih1 _ _ _ _ _ _ _)
   | (with_reducible exact ih2 _ _ _ _ _ _ _ _ _ _ _ _ _)
   | (with_reducible exact ih3 _ _ _ _ _ _ _ _ _ _ _)
   | (with_reducible exact ih4 _ _ _ _ _ _ _ _ _ _ _)
   | (with_reducible exact ih5 _ _ _ _ _ _ _ _ _ _ _ _)
   | (with_reducible exact ih6 _ _ _ _ _ _ _ _ _ _ _ _ _ _ _ _ _ _ _ _ _ _ _ _)
   | (with_reducible exact ih7 _ _ _ _ _ _ _ _ _ _ _ _)
   | (with_reducible exact ih8 _ _ _ _ _ _ _ _ _ _ _ _ _ _ _ _ _ _ _ _ _ _)
   | (with_reducible exact ih9 _ _ _ _ _ _ _ _ _ _)
   | (with_reducible exact ih10 _ _ _ _ _ _ _ _ _ _ _)
   | (with_reducible exact ih11 _ _ _ _ _ _ _ _ _ _ _ _ _ _ _ _)
   | (with_reducible exact ih12 _ _ _ _ _ _ _ _ _ _ _ _ _ _ _ _)
   | (with_reducible exact ih13 _ _ _ _ _ _ _ _ _ _ _ _ _)
   | (with_reducible exact ih14 _ _ _ _ _ _ _ _ _ _ _ _ _)
   | (with_reducible exact ih15 _ _ _ _ _)
   | (with_reducible exact ih16 _ _ _ _ _ _)
   | (with_reducible exact ih17 _ _ _ _ _ _)
   | (with_reducible exact ih18 _ _ _ _ _ _ _)
   | (with_reducible exact ih19 _ _ _ _ _ _ _ _ _ _ _ _)
   | (with_reducible exact ih20 _ _ _ _ _ _ _ _ _ _ _ _)
   | (with_reducible exact ih21 _ _ _ _ _ _ _)
   | (with_reducible exact chain_Add.mono _ _ _ _ _ _)
   | (with_reducible exact chain_At.mono _ _ _ _)
   | (with_reducible exact chain_Check.mono _ _ _)
   | (with_reducible exact chain_Count.mono _ _ _)
   | (with_reducible exact chain_New.mono _ _ _ _ _)
   | (with_reducible exact chain_Purge.mono _ _ _ _)
   | (with_reducible exact quorumlaw8_Heavy.mono _ _ _ _ _)
   | (with_reducible exact quorumlaw8_wakes.mono _)
   | (with_reducible exact quorumref0_CopyChain.mono _ _ _)
   | (with_reducible exact quorumref0_EqChain.mono _ _ _ _ _)
   | (with_reducible exact quorumref8_Add.mono _ _ _ _ _ _)
   | (with_reducible exact quorumref8_At.mono _ _ _ _)
   | (with_reducible exact quorumref8_Chain.mono _ _ _)
   | (with_reducible exact quorumref8_Purge.mono _ _ _ _)
   | (with_reducible exact LeO.refl _)
   | (with_reducible exact LeO.none _)
   | (with_reducible refine LeO.ite ?_ ?_)
   | (with_reducible refine LeO.bind ?_ (fun _ => ?_))
   | exact ih0 _ _ _ _ _ _
   | exact ih1 _ _ _ _ _ _ _
   | exact ih2 _ _ _ _ _ _ _ _ _ _ _ _ _
   | exact ih3 _ _ _ _ _ _ _ _ _ _ _
   | exact ih4 _ _ _ _ _ _ _ _ _ _ _
   | exact ih5 _ _ _ _ _ _ _ _ _ _ _ _
   | exact ih6 _ _ _ _ _ _ _ _ _ _ _ _ _ _ _ _ _ _ _ _ _ _ _ _
   | exact ih7 _ _ _ _ _ _ _ _ _ _ _ _
   | exact ih8 _ _ _ _ _ _ _ _ _ _ _ _ _ _ _ _ _ _ _ _ _ _
   | exact ih9 _ _ _ _ _ _ _ _ _ _
   | exact ih10 _ _ _ _ _ _ _ _ _ _ _
   | exact ih11 _ _ _ _ _ _ _ _ _ _ _ _ _ _ _ _
   | exact ih12 _ _ _ _ _ _ _ _ _ _ _ _ _ _ _ _
   | exact ih13 _ _ _ _ _ _ _ _ _ _ _ _ _
   | exact ih14 _ _ _ _ _ _ _ _ _ _ _ _ _
   | exact ih15 _ _ _ _ _
   | exact ih16 _ _ _ _ _ _
   | exact ih17 _ _ _ _ _ _
   | exact ih18 _ _ _ _ _ _ _
   | exact ih19 _ _ _ _ _ _ _ _ _ _ _ _
   | exact ih20 _ _ _ _ _ _ _ _ _ _ _ _
   | exact ih21 _ _ _ _ _ _ _
   | exact chain_Add.mono _ _ _ _ _ _
   | exact chain_At.mono _ _ _ _
   | exact chain_Check.mono _ _ _
   | exact chain_Count.mono _ _ _
   | exact chain_New.mono _ _ _ _ _
   | exact chain_Purge.mono _ _ _ _
   | exact quorumlaw8_Heavy.mono _ _ _ _ _
   | exact quorumlaw8_wakes.mono _
   | exact quorumref0_CopyChain.mono _ _ _
   | exact quorumref0_EqChain.mono _ _ _ _ _
   | exact quorumref8_Add.mono _ _ _ _ _ _
   | exact quorumref8_At.mono _ _ _ _
   | exact quorumref8_Chain.mono _ _ _
   | exact quorumref8_Purge.mono _ _ _ _
   | exact LeO.none _
   | refine LeO.ite ?_ ?_
   | refine LeO.bind ?_ (fun _ => ?_)
  ·intro y0 y1 y2 y3 y4 y5 y6 y7 y8 y9 y10 y11 y12 y13 y14 y15 y16 y17 y18 y19 y20 y21
   unfold quorumlaw8_ChainTells.j6
   repeat' first
   | (with_reducible exact ih0 _ _ _ _ _ _)
   | (with_reducible exact ih1 _ _ _ _ _ _ _)
   | (with_reducible exact ih2 _ _ _ _ _ _ _ _ _ _ _ _ _)
   | (with_reducible exact ih3 _ _ _ _ _ _ _ _ _ _ _)
   | (with_reducible exact ih4 _ _ _ _ _ _ _ _ _ _ _)
   | (with_reducible exact ih5 _ _ _ _ _ _ _ _ _ _ _ _)
   | (with_reducible exact ih6 _ _ _ _ _ _ _ _ _ _ _ _ _ _ _ _ _ _ _ _ _ _ _ _)
   | (with_reducible exact ih7 _ _ _ _ _ _ _ _ _ _ _ _)
   | (with_reducible exact ih8 _ _ _ _ _ _ _ _ _ _ _ _ _ _ _ _ _ _ _ _ _ _)
   | (with_reducible exact ih9 _ _ _ _ _ _ _ _ _ _)
   | (with_reducible exact ih10 _ _ _ _ _ _ _ _ _ _ _)
   | (with_reducible exact ih11 _ _ _ _ _ _ _ _ _ _ _ _ _ _ _ _)
   | (with_reducible exact ih12 _ _ _ _ _ _ _ _ _ _ _ _ _ _ _ _)
   | (with_reducible exact ih13 _ _ _ _ _ _ _ _ _ _ _ _ _)
   | (with_reducible exact ih14 _ _ _ _ _ _ _ _ _ _ _ _ _)
   | (with_reducible exact ih15 _ _ _ _ _)
   | (with_reducible exact ih16 _ _ _ _ _ _)
   | (with_reducible exact ih17 _ _ _ _ _ _)
   | (with_reducible exact ih18 _ _ _ _ _ _ _)
   | (with_reducible exact ih19 _ _ _ _ _ _ _ _ _ _ _ _)
   | (with_reducible exact ih20 _ _ _ _ _ _ _ _ _ _ _ _)
   | (with_reducible exact ih21 _ _ _ _ _ _ _)
   | (with_reducible exact chain_Add.mono _ _ _ _ _ _)
   | (with_reducible exact chain_At.mono _ _ _ _)
   | (with_reducible exact chain_Check.mono _ _ _)
   | (with_reducible exact chain_Count.mono _ _ _)
   | (with_reducible exact chain_New.mono _ _ _ _ _)
   | (with_reducible exact chain_Purge.mono _ _ _ _)
   | (with_reducible exact quorumlaw8_Heavy.mono _ _ _ _ _)
   | (with_reducible exact quorumlaw8_wakes.mono _)
   | (with_reducible exact quorumref0_CopyChain.mono _ _ _)
   | (with_reducible exact quorumref0_EqChain.mono _ _ _ _ _)
   | (with_reducible exact quorumref8_Add.mono _ _ _ _ _ _)
   | (with_reducible exact quorumref8_At.mono _ _ _ _)
   | (with_reducible exact quorumref8_Chain.mono _ _ _)
   | (with_reducible exact quorumref8_Purge.mono _ _ _ _)
   | (with_reducible exact LeO.refl _)
   | (with_reducible exact LeO.none _)
   | (with_reducible refine LeO.ite ?_ ?_)
   | (with_reducible refine LeO.bind ?_ (fun _ => ?_))
   | exact ih0 _ _ _ _ _ _
   | exact ih1 _ _ _ _ _ _ _
   | exact ih2 _ _ _ _ _ _ _ _ _ _ _ _ _
   | exact ih3 _ _ _ _ _ _ _ _ _ _ _
   | exact ih4 _ _ _ _ _ _ _ _ _ _ _
   | exact ih5 _ _ _ _ _ _ _ _ _ _ _ _
   | exact ih6 _ _ _ _ _ _ _ _ _ _ _ _ _ _ _ _ _ _ _ _ _ _ _ _
   | exact ih7 _ _ _ _ _ _ _ _ _ _ _ _
   | exact ih8 _ _ _ _ _ _ _ _ _ _ _ _ _ _ _ _ _ _ _ _ _ _
   | exact ih9 _ _ _ _ _ _ _ _ _ _
   | exact ih10 _ _ _ _ _ _ _ _ _ _ _
   | exact ih11 _ _ _ _ _ _ _ _ _ _ _ _ _ _ _ _
   | exact ih12 _ _ _ _ _ _ _ _ _ _ _ _ _ _ _ _
   | exact ih13 _ _ _ _ _ _ _ _ _ _ _ _ _
   | exact ih14 _ _ _ _ _ _ _ _ _ _ _ _ _
   | exact ih15 _ _ _ _ _
   | exact ih16 _ _ _ _ _ _
   | exact ih17 _ _ _ _ _ _
   | exact ih18 _ _ _ _ _ _ _
   | exact ih19 _ _ _ _ _ _ _ _ _ _ _ _
   | exact ih20 _ _ _ _ _ _ _ _ _ _ _ _
   | exact ih21 _ _ _ _ _ _ _
   | exact chain_Add.mono _ _ _ _ _ _
   | exact chain_At.mono _ _ _ _
   | exact chain_Check.mono _ _ _
   | exact chain_Count.mono _ _ _
   | exact chain_New.mono _ _ _ _ _
   | exact chain_Purge.mono _ _ _ _
   | exact quorumlaw8_Heavy.mono _ _ _ _ _
   | exact quorumlaw8_wakes.mono _
   | exact quorumref0_CopyChain.mono _ _ _
   | exact quorumref0_EqChain.mono _ _ _ _ _
   | exact quorumref8_Add.mono _ _ _ _ _ _
   | exact quorumref8_At.mono _ _ _ _
   | exact quorumref8_Chain.mono _ _ _
   | exact quorumref8_Purge.mono _ _ _ _
   | exact LeO.none _
   | refine LeO.ite ?_ ?_
   | refine LeO.bind ?_ (fun _ => ?_)
  ·intro y0 y1 y2 y3 y4 y5 y6 y7 y8 y9
   unfold quorumlaw8_ChainTells.l2
   repeat' first
   | (with_reducible exact ih0 _ _ _ _ _ _)
   | (with_reducible exact ih1 _ _ _ _ _ _ _)
   | (with_reducible exact ih2 _ _ _ _ _ _ _ _ _ _ _ _ _)
   | (with_reducible exact ih3 _ _ _ _ _ _ _ _ _ _ _)
   | (with_reducible exact ih4 _ _ _ _ _ _ _ _ _ _ _)
   | (with_reducible exact ih5 _ _ _ _ _ _ _ _ _ _ _ _)
   | (with_reducible exact ih6 _ _ _ _ _ _ _ _ _ _ _ _ _ _ _ _ _ _ _ _ _ _ _ _)
   | (with_reducible exact ih7 _ _ _ _ _ _ _ _ _ _ _ _)
   | (with_reducible exact ih8 _ _ _ _ _ _ _ _ _ _ _ _ _ _ _ _ _ _ _ _ _ _)
   | (with_reducible exact ih9 _ _ _ _ _ _ _ _ _ _)
   | (with_reducible exact ih10 _ _ _ _ _ _ _ _ _ _ _)
   | (with_reducible exact ih11 _ _ _ _ _ _ _ _ _ _ _ _ _ _ _ _)
   | (with_reducible exact ih12 _ _ _ _ _ _ _ _ _ _ _ _ _ _ _ _)
   | (with_reducible exact ih13 _ _ _ _ _ _ _ _ _ _ _ _ _)
   | (with_reducible exact ih14 _ _ _ _ _ _ _ _ _ _ _ _ _)
   | (with_reducible exact ih15 _ _ _ _ _)
   | (with_reducible exact ih16 _ _ _ _ _ _)
   | (with_reducible exact ih17 _ _ _ _ _ _)
   | (with_reducible exact ih18 _ _ _ _ _ _ _)
   | (with_reducible exact ih19 _ _ _ _ _ _ _ _ _ _ _ _)
   | (with_reducible exact ih20 _ _ _ _ _ _ _ _ _ _ _ _)
   | (with_reducible exact ih21 _ _ _ _ _ _ _)
   | (with_reducible exact chain_Add.mono _ _ _ _ _ _)
   | (with_reducible exact chain_At.mono _ _ _ _)
   | (with_reducible exact chain_Check.mono _ _ _)
   | (with_reducible exact chain_Count.mono _ _ _)
   | (with_reducible exact chain_New.mono _ _ _ _ _)
   | (with_reducible exact chain_Purge.mono _ _ _ _)
   | (with_reducible exact quorumlaw8_Heavy.mono _ _ _ _ _)
   | (with_reducible exact quorumlaw8_wakes.mono _)
   | (with_reducible exact quorumref0_CopyChain.mono _ _ _)
   | (with_reducible exact quorumref0_EqChain.mono _ _ _ _ _)
   | (with_reducible exact quorumref8_Add.mono _ _ _ _ _ _)
   | (with_reducible exact quorumref8_At.mono _ _ _ _)
   | (with_reducible exact quorumref8_Chain.mono _ _ _)
   | (with_reducible exact quorumref8_Purge.mono _ _ _ _)
   | (with_reducible exact LeO.refl _)
   | (with_reducible exact LeO.none _)
   | (with_reducible refine LeO.ite ?_ ?_)
   | (with_reducible refine LeO.bind ?_ (fun _ => ?_))
   | exact ih0 _ _ _ _ _ _
   | exact ih1 _ _ _ _ _ _ _
   | exact ih2 _ _ _ _ _ _ _ _ _ _ _ _ _
   | exact ih3 _ _ _ _ _ _ _ _ _ _ _
   | exact ih4 _ _ _ _ _ _ _ _ _ _ _
   | exact ih5 _ _ _ _ _ _ _ _ _ _ _ _
   | exact ih6 _ _ _ _ _ _ _ _ _ _ _ _ _ _ _ _ _ _ _ _ _ _ _ _
   | exact ih7 _ _ _ _ _ _ _ _ _ _ _ _
   | exact ih8 _ _ _ _ _ _ _ _ _ _ _ _ _ _ _ _ _ _ _ _ _ _
   | exact ih9 _ _ _ _ _ _ _ _ _ _
   | exact ih10 _ _ _ _ _ _ _ _ _ _ _
   | exact ih11 _ _ _ _ _ _ _ _ _ _ _ _ _ _ _ _
   | exact ih12 _ _ _ _ _ _ _ _ _ _ _ _ _ _ _ _
   | exact ih13 _ _ _ _ _ _ _ _ _ _ _ _ _
   | exact ih14 _ _ _ _ _ _ _ _ _ _ _ _ _
   | exact ih15 _ _ _ _ _
   | exact ih16 _ _ _ _ _ _
   | exact ih17 _ _ _ _ _ _
   | exact ih18 _ _ _ _ _ _ _
   | exact ih19 _ _ _ _ _ _ _ _ _ _ _ _
   | exact ih20 _ _ _ _ _ _ _ _ _ _ _ _
   | exact ih21 _ _ _ _ _ _ _
   | exact chain_Add.mono _ _ _ _ _ _
   | exact chain_At.mono _ _ _ _
   | exact chain_Check.mono _ _ _
   | exact chain_Count.mono _ _ _
   | exact chain_New.mono _ _ _ _ _
   | exact chain_Purge.mono _ _ _ _
   | exact quorumlaw8_Heavy.mono _ _ _ _ _
   | exact quorumlaw8_wakes.mono _
   | exact quorumref0_CopyChain.mono _ _ _
   | exact quorumref0_EqChain.mono _ _ _ _ _
   | exact quorumref8_Add.mono _ _ _ _ _ _
   | exact quorumref8_At.mono _ _ _ _
   | exact quorumref8_Chain.mono _ _ _
   | exact quorumref8_Purge.mono _ _ _ _
   | exact LeO.none _
   | refine LeO.ite ?_ ?_
   | refine LeO.bind ?_ (fun _ => ?_)
  ·intro y0 y1 y2 y3 y4 y5 y6 y7 y8 y9 y10
   unfold quorumlaw8_ChainTells.j10
   repeat' first
   | (with_reducible exact ih0 _ _ _ _ _ _)
   | (with_reducible exact ih1 _ _ _ _ _ _ _)
   | (with_reducible exact ih2 _ _ _ _ _ _ _ _ _ _ _ _ _)
   | (with_reducible exact ih3 _ _ _ _ _ _ _ _ _ _ _)
   | (with_reducible exact ih4 _ _ _ _ _ _ _ _ _ _ _)
   | (with_reducible exact ih5 _ _ _ _ _ _ _ _ _ _ _ _)
   | (with_reducible exact ih6 _ _ _ _ _ _ _ _ _ _ _ _ _ _ _ _ _ _ _ _ _ _ _ _)
   | (with_reducible exact ih7 _ _ _ _ _ _ _ _ _ _ _ _)
   | (with_reducible exact ih8 _ _ _ _ _ _ _ _ _ _ _ _ _ _ _ _ _ _ _ _ _ _)
   | (with_reducible exact ih9 _ _ _ _ _ _ _ _ _ _)
   | (with_reducible exact ih10 _ _ _ _ _ _ _ _ _ _ _)
   | (with_reducible exact ih11 _ _ _ _ _ _ _ _ _ _ _ _ _ _ _ _)
   | (with_reducible exact ih12 _ _ _ _ _ _ _ _ _ _ _ _ _ _ _ _)
   | (with_reducible exact ih13 _ _ _ _ _ _ _ _ _ _ _ _ _)
   | (with_reducible exact ih14 _ _ _ _ _ _ _ _ _ _ _ _ _)
   | (with_reducible exact ih15 _ _ _ _ _)
   | (with_reducible exact ih16 _ _ _ _ _ _)
   | (with_reducible exact ih17 _ _ _ _ _ _)
   | (with_reducible exact ih18 _ _ _ _ _ _ _)
   | (with_reducible exact ih19 _ _ _ _ _ _ _ _ _ _ _ _)
   | (with_reducible exact ih20 _ _ _ _ _ _ _ _ _ _ _ _)
   | (with_reducible exact ih21 _ _ _ _ _ _ _)
   | (with_reducible exact chain_Add.mono _ _ _ _ _ _)
   | (with_reducible exact chain_At.mono _ _ _ _)
   | (with_reducible exact chain_Check.mono _ _ _)
   | (with_reducible exact chain_Count.mono _ _ _)
   | (with_reducible exact chain_New.mono _ _ _ _ _)
   | (with_reducible exact chain_Purge.mono _ _ _ _)
   | (with_reducible exact quorumlaw8_Heavy.mono _ _ _ _ _)
   | (with_reducible exact quorumlaw8_wakes.mono _)
   | (with_reducible exact quorumref0_CopyChain.mono _ _ _)
   | (with_reducible exact quorumref0_EqChain.mono _ _ _ _ _)
   | (with_reducible exact quorumref8_Add.mono _ _ _ _ _ _)
   | (with_reducible exact quorumref8_At.mono _ _ _ _)
   | (with_reducible exact quorumref8_Chain.mono _ _ _)
   | (with_reducible exact quorumref8_Purge.mono _ _ _ _)
   | (with_reducible exact LeO.refl _)
   | (with_reducible exact LeO.none _)
   | (with_reducible refine LeO.ite ?_ ?_)
   | (with_reducible refine LeO.bind ?_ (fun _ => ?_))
   | exact ih0 _ _ _ _ _ _
   | exact ih1 _ _ _ _ _ _ _
   | exact ih2 _ _ _ _ _ _ _ _ _ _ _ _ _
   | exact ih3 _ _ _ _ _ _ _ _ _ _ _
   | exact ih4 _ _ _ _ _ _ _ _ _ _ _
   | exact ih5 _ _ _ _ _ _ _ _ _ _ _ _
   | exact ih6 _ _ _ _ _ _ _ _ _ _ _ _ _ _ _ _ _ _ _ _ _ _ _ _
   | exact ih7 _ _ _ _ _ _ _ _ _ _ _ _
   | exact ih8 _ _ _ _ _ _ _ _ _ _ _ _ _ _ _ _ _ _ _ _ _ _
   | exact ih9 _ _ _ _ _ _ _ _ _ _
   | exact ih10 _ _ _ _ _ _ _ _ _ _ _
   | exact ih11 _ _ _ _ _ _ _ _ _ _ _ _ _ _ _ _
   | exact ih12 _ _ _ _ _ _ _ _ _ _ _ _ _ _ _ _
   | exact ih13 _ _ _ _ _ _ _ _ _ _ _ _ _
   | exact ih14 _ _ _ _ _ _ _ _ _ _ _ _ _
   | exact ih15 _ _ _ _ _
   | exact ih16 _ _ _ _ _ _
   | exact ih17 _ _ _ _ _ _
   | exact ih18 _ _ _ _ _ _ _
   | exact ih19 _ _ _ _ _ _ _ _ _ _ _ _
   | exact ih20 _ _ _ _ _ _ _ _ _ _ _ _
   | exact ih21 _ _ _ _ _ _ _
   | exact chain_Add.mono _ _ _ _ _ _
   | exact chain_At.mono _ _ _ _
   | exact chain_Check.mono _ _ _
   | exact chain_Count.mono _ _ _
   | exact chain_New.mono _ _ _ _ _
   | exact chain_Purge.mono _ _ _ _
   | exact quorumlaw8_Heavy.mono _ _ _ _ _
   | exact quorumlaw8_wakes.mono _
   | exact quorumref0_CopyChain.mono _ _ _
   | exact quorumref0_EqChain.mono _ _ _ _ _
   | exact quorumref8_Add.mono _ _ _ _ _ _
   | exact quorumref8_At.mono _ _ _ _
   | exact quorumref8_Chain.mono _ _ _
   | exact quorumref8_Purge.mono _ _ _ _
   | exact LeO.none _
   | refine LeO.ite ?_ ?_
   | refine LeO.bind ?_ (fun _ => ?_)
  ·intro y0 y1 y2 y3 y4 y5 y6 y7 y8 y9 y10 y11 y12 y13 y14 y15
   unfold quorumlaw8_ChainTells.j11
   repeat' first
   | (with_reducible exact ih0 _ _ _ _ _ _)
   | (with_reducible exact ih1 _ _ _ _ _ _ _)
   | (with_reducible exact ih2 _ _ _ _ _ _ _ _ _ _ _ _ _)
   | (with_reducible exact ih3 _ _ _ _ _ _ _ _ _ _ _)
   | (with_reducible exact ih4 _ _ _ _ _ _ _ _ _ _ _)
   | (with_reducible exact ih5 _ _ _ _ _ _ _ _ _ _ _ _)
   | (with_reducible exact ih6 _ _ _ _ _ _ _ _ _ _ _ _ _ _ _ _ _ _ _ _ _ _ _ _)
   | (with_reducible exact ih7 _ _ _ _ _ _ _ _ _ _ _ _)
   | (with_reducible exact ih8 _ _ _ _ _ _ _ _ _ _ _ _ _ _ _ _ _ _ _ _ _ _)
   | (with_reducible exact ih9 _ _ _ _ _ _ _ _ _ _)
   | (with_reducible exact ih10 _ _ _ _ _ _ _ _ _ _ _)
   | (with_reducible exact ih11 _ _ _ _ _ _ _ _ _ _ _ _ _ _ _ _)
   | (with_reducible exact ih12 _ _ _ _ _ _ _ _ _ _ _ _ _ _ _ _)
   | (with_reducible exact ih13 _ _ _ _ _ _ _ _ _ _ _ _ _)
   | (with_reducible exact ih14 _ _ _ _ _ _ _ _ _ _ _ _ _)
   | (with_reducible exact ih15 _ _ _ _ _)
   | (with_reducible exact ih16 _ _ _ _ _ _)
   | (with_reducible exact ih17 _ _ _ _ _ _)
   | (with_reducible exact ih18 _ _ _ _ _ _ _)
   | (with_reducible exact ih19 _ _ _ _ _ _ _ _ _ _ _ _)
   | (with_reducible exact ih20 _ _ _ _ _ _ _ _ _ _ _ _)
   | (with_reducible exact ih21 _ _ _ _ _ _ _)
   | (with_reducible exact chain_Add.mono _ _ _ _ _ _)
   | (with_reducible exact chain_At.mono _ _ _ _)
   | (with_reducible exact chain_Check.mono _ _ _)
   | (with_reducible exact chain_Count.mono _ _ _)
   | (with_reducible exact chain_New.mono _ _ _ _ _)
   | (with_reducible exact chain_Purge.mono _ _ _ _)
   | (with_reducible exact quorumlaw8_Heavy.mono _ _ _ _ _)
   | (with_reducible exact quorumlaw8_wakes.mono _)
   | (with_reducible exact quorumref0_CopyChain.mono _ _ _)
   | (with_reducible exact quorumref0_EqChain.mono _ _ _ _ _)
   | (with_reducible exact quorumref8_Add.mono _ _ _ _ _ _)
   | (with_reducible exact quorumref8_At.mono _ _ _ _)
   | (with_reducible exact quorumref8_Chain.mono _ _ _)
   | (with_reducible exact quorumref8_Purge.mono _ _ _ _)
   | (with_reducible exact LeO.refl _)
   | (with_reducible exact LeO.none _)
   | (with_reducible refine LeO.ite ?_ ?_)
   | (with_reducible refine LeO.bind ?_ (fun _ => ?_))
   | exact ih0 _ _ _ _ _ _
   | exact ih1 _ _ _ _ _ _ _
   | exact ih2 _ _ _ _ _ _ _ _ _ _ _ _ _
   | exact ih3 _ _ _ _ _ _ _ _ _ _ _
   | exact ih4 _ _ _ _ _ _ _ _ _ _ _
   | exact ih5 _ _ _ _ _ _ _ _ _ _ _ _
   | exact ih6 _ _ _ _ _ _ _ _ _ _ _ _ _ _ _ _ _ _ _ _ _ _ _ _
   | exact ih7 _ _ _ _ _ _ _ _ _ _ _ _
   | exact ih8 _ _ _ _ _ _ _ _ _ _ _ _ _ _ _ _ _ _ _ _ _ _
   | exact ih9 _ _ _ _ _ _ _ _ _ _
   | exact ih10 _ _ _ _ _ _ _ _ _ _ _
   | exact ih11 _ _ _ _ _ _ _ _ _ _ _ _ _ _ _ _
   | exact ih12 _ _ _ _ _ _ _ _ _ _ _ _ _ _ _ _
   | exact ih13 _ _ _ _ _ _ _ _ _ _ _ _ _
   | exact ih14 _ _ _ _ _ _ _ _ _ _ _ _ _
   | exact ih15 _ _ _ _ _
   | exact ih16 _ _ _ _ _ _
   | exact ih17 _ _ _ _ _ _
   | exact ih18 _ _ _ _ _ _ _
   | exact ih19 _ _ _ _ _ _ _ _ _ _ _ _
   | exact ih20 _ _ _ _ _ _ _ _ _ _ _ _
   | exact ih21 _ _ _ _ _ _ _
   | exact chain_Add.mono _ _ _ _ _ _
   | exact chain_At.mono _ _ _ _
   | exact chain_Check.mono _ _ _
   | exact chain_Count.mono _ _ _
   | exact chain_New.mono _ _ _ _ _
   | exact chain_Purge.mono _ _ _ _
   | exact quorumlaw8_Heavy.mono _ _ _ _ _
   | exact quorumlaw8_wakes.mono _
   | exact quorumref0_CopyChain.mono _ _ _
   | exact quorumref0_EqChain.mono _ _ _ _ _
   | exact quorumref8_Add.mono _ _ _ _ _ _
   | exact quorumref8_At.mono _ _ _ _
   | exact quorumref8_Chain.mono _ _ _
   | exact quorumref8_Purge.mono _ _ _ _
   | exact LeO.none _
   | refine LeO.ite ?_ ?_
   | refine LeO.bind ?_ (fun _ => ?_)
  ·intro y0 y1 y2 y3 y4 y5 y6 y7 y8 y9 y10 y11 y12 y13 y14 y15
   unfold quorumlaw8_ChainTells.j12
   repeat' first
   | (with_reducible exact ih0 _ _ _ _ _ _)
   | (with_reducible exact ih1 _ _ _ _ _ _ _)
   | (with_reducible exact ih2 _ _ _ _ _ _ _ _ _ _ _ _ _)
   | (with_reducible exact ih3 _ _ _ _ _ _ _ _ _ _ _)
   | (with_reducible exact ih4 _ _ _ _ _ _ _ _ _ _ _)
   | (with_reducible exact ih5 _ _ _ _ _ _ _ _ _ _ _ _)
   | (with_reducible exact ih6 _ _ _ _ _ _ _ _ _ _ _ _ _ _ _ _ _ _ _ _ _ _ _ _)
   | (with_reducible exact ih7 _ _ _ _ _ _ _ _ _ _ _ _)
   | (with_reducible exact ih8 _ _ _ _ _ _ _ _ _ _ _ _ _ _ _ _ _ _ _ _ _ _)
   | (with_reducible exact ih9 _ _ _ _ _ _ _ _ _ _)
   | (with_reducible exact ih10 _ _ _ _ _ _ _ _ _ _ _)
   | (with_reducible exact ih11 _ _ _ _ _ _ _ _ _ _ _ _ _ _ _ _)
   | (with_reducible exact ih12 _ _ _ _ _ _ _ _ _ _ _ _ _ _ _ _)
   | (with_reducible exact ih13 _ _ _ _ _ _ _ _ _ _ _ _ _)
   | (with_reducible exact ih14 _ _ _ _ _ _ _ _ _ _ _ _ _)
   | (with_reducible exact ih15 _ _ _ _ _)
   | (with_reducible exact ih16 _ _ _ _ _ _)
   | (with_reducible exact ih17 _ _ _ _ _ _)
   | (with_reducible exact ih18 _ _ _ _ _ _ _)
   | (with_reducible exact ih19 _ _ _ _ _ _ _ _ _ _ _ _)
   | (with_reducible exact ih20 _ _ _ _ _ _ _ _ _ _ _ _)
   | (with_reducible exact ih21 _ _ _ _ _ _ _)
   | (with_reducible exact chain_Add.mono _ _ _ _ _ _)
   | (with_reducible exact chain_At.mono _ _ _ _)
   | (with_reducible exact chain_Check.mono _ _ _)
   | (with_reducible exact chain_Count.mono _ _ _)
   | (with_reducible exact chain_New.mono _ _ _ _ _)
   | (with_reducible exact chain_Purge.mono _ _ _ _)
   | (with_reducible exact quorumlaw8_Heavy.mono _ _ _ _ _)
   | (with_reducible exact quorumlaw8_wakes.mono _)
   | (with_reducible exact quorumref0_CopyChain.mono _ _ _)
   | (with_reducible exact quorumref0_EqChain.mono _ _ _ _ _)
   | (with_reducible exact quorumref8_Add.mono _ _ _ _ _ _)
   | (with_reducible exact quorumref8_At.mono _ _ _ _)
   | (with_reducible exact quorumref8_Chain.mono _ _ _)
   | (with_reducible exact quorumref8_Purge.mono _ _ _ _)
   | (with_reducible exact LeO.refl _)
   | (with_reducible exact LeO.none _)
   | (with_reducible refine LeO.ite ?_ ?_)
   | (with_reducible refine LeO.bind ?_ (fun _ => ?_))
   | exact ih0 _ _ _ _ _ _
   | exact ih1 _ _ _ _ _ _ _
   | exact ih2 _ _ _ _ _ _ _ _ _ _ _ _ _
   | exact ih3 _ _ _ _ _ _ _ _ _ _ _
   | exact ih4 _ _ _ _ _ _ _ _ _ _ _
   | exact ih5 _ _ _ _ _ _ _ _ _ _ _ _
   | exact ih6 _ _ _ _ _ _ _ _ _ _ _ _ _ _ _ _ _ _ _ _ _ _ _ _
   | exact ih7 _ _ _ _ _ _ _ _ _ _ _ _
   | exact ih8 _ _ _ _ _ _ _ _ _ _ _ _ _ _ _ _ _ _ _ _ _ _
   | exact ih9 _ _ _ _ _ _ _ _ _ _
   | exact ih10 _ _ _ _ _ _ _ _ _ _ _
   | exact ih11 _ _ _ _ _ _ _ _ _ _ _ _ _ _ _ _
   | exact ih12 _ _ _ _ _ _ _ _ _ _ _ _ _ _ _ _
   | exact ih13 _ _ _ _ _ _ _ _ _ _ _ _ _
   | exact ih14 _ _ _ _ _ _ _ _ _ _ _ _ _
   | exact ih15 _ _ _ _ _
   | exact ih16 _ _ _ _ _ _
   | exact ih17 _ _ _ _ _ _
   | exact ih18 _ _ _ _ _ _ _
   | exact ih19 _ _ _ _ _ _ _ _ _ _ _ _
   | exact ih20 _ _ _ _ _ _ _ _ _ _ _ _
   | exact ih21 _ _ _ _ _ _ _
   | exact chain_Add.mono _ _ _ _ _ _
   | exact chain_At.mono _ _ _ _
   | exact chain_Check.mono _ _ _
   | exact chain_Count.mono _ _ _
   | exact chain_New.mono _ _ _ _ _
   | exact chain_Purge.mono _ _ _ _
   | exact quorumlaw8_Heavy.mono _ _ _ _ _
   | exact quorumlaw8_wakes.mono _
   | exact quorumref0_CopyChain.mono _ _ _
   | exact quorumref0_EqChain.mono _ _ _ _ _
   | exact quorumref8_Add.mono _ _ _ _ _ _
   | exact quorumref8_At.mono _ _ _ _
   | exact quorumref8_Chain.mono _ _ _
   | exact quorumref8_Purge.mono _ _ _ _
   | exact LeO.none _
   | refine LeO.ite ?_ ?_
   | refine LeO.bind ?_ (fun _ => ?_)
  ·intro y0 y1 y2 y3 y4 y5 y6 y7 y8 y9 y10 y11 y12
   unfold quorumlaw8_ChainTells.j13
   repeat' first
   | (with_reducible exact ih0 _ _ _ _ _ _)
   | (with_reducible exact ih1 _ _ _ _ _ _ _)
   | (with_reducible exact ih2 _ _ _ _ _ _ _ _ _ _ _ _ _)
   | (with_reducible exact ih3 _ _ _ _ _ _ _ _ _ _ _)
   | (with_reducible exact ih4 _ _ _ _ _ _ _ _ _ _ _)
   | (with_reducible exact ih5 _ _ _ _ _ _ _ _ _ _ _ _)
   | (with_reducible exact ih6 _ _ _ _ _ _ _ _ _ _ _ _ _ _ _ _ _ _ _ _ _ _ _ _)
   | (with_reducible exact ih7 _ _ _ _ _ _ _ _ _ _ _ _)
   | (with_reducible exact ih8 _ _ _ _ _ _ _ _ _ _ _ _ _ _ _ _ _ _ _ _ _ _)
   | (with_reducible exact ih9 _ _ _ _ _ _ _ _ _ _)
   | (with_reducible exact ih10 _ _ _ _ _ _ _ _ _ _ _)
   | (with_reducible exact ih11 _ _ _ _ _ _ _ _ _ _ _ _ _ _ _ _)
   | (with_reducible exact ih12 _ _ _ _ _ _ _ _ _ _ _ _ _ _ _ _)
   | (with_reducible exact ih13 _ _ _ _ _ _ _ _ _ _ _ _ _)
   | (with_reducible exact ih14 _ _ _ _ _ _ _ _ _ _ _ _ _)
   | (with_reducible exact ih15 _ _ _ _ _)
   | (with_reducible exact ih16 _ _ _ _ _ _)
   | (with_reducible exact ih17 _ _ _ _ _ _)
   | (with_reducible exact ih18 _ _ _ _ _ _ _)
   | (with_reducible exact ih19 _ _ _ _ _ _ _ _ _ _ _ _)
   | (with_reducible exact ih20 _ _ _ _ _ _ _ _ _ _ _ _)
   | (with_reducible exact ih21 _ _ _ _ _ _ _)
   | (with_reducible exact chain_Add.mono _ _ _ _ _ _)
   | (with_reducible exact chain_At.mono _ _ _ _)
   | (with_reducible exact chain_Check.mono _ _ _)
   | (with_reducible exact chain_Count.mono _ _ _)
   | (with_reducible exact chain_New.mono _ _ _ _ _)
   | (with_reducible exact chain_Purge.mono _ _ _ _)
   | (with_reducible exact quorumlaw8_Heavy.mono _ _ _ _ _)
   | (with_reducible exact quorumlaw8_wakes.mono _)
   | (with_reducible exact quorumref0_CopyChain.mono _ _ _)
   | (with_reducible exact quorumref0_EqChain.mono _ _ _ _ _)
   | (with_reducible exact quorumref8_Add.mono _ _ _ _ _ _)
   | (with_reducible exact quorumref8_At.mono _ _ _ _)
   | (with_reducible exact quorumref8_Chain.mono _ _ _)
   | (with_reducible exact quorumref8_Purge.mono _ _ _ _)
   | (with_reducible exact LeO.refl _)
   | (with_reducible exact LeO.none _)
   | (with_reducible refine LeO.ite ?_ ?_)
   | (with_reducible refine LeO.bind ?_ (fun _ => ?_))
   | exact ih0 _ _ _ _ _ _
   | exact ih1 _ _ _ _ _ _ _
   | exact ih2 _ _ _ _ _ _ _ _ _ _ _ _ _
   | exact ih3 _ _ _ _ _ _ _ _ _ _ _
   | exact ih4 _ _ _ _ _ _ _ _ _ _ _
   | exact ih5 _ _ _ _ _ _ _ _ _ _ _ _
   | exact ih6 _ _ _ _ _ _ _ _ _ _ _ _ _ _ _ _ _ _ _ _ _ _ _ _
   | exact ih7 _ _ _ _ _ _ _ _ _ _ _ _
   | exact ih8 _ _ _ _ _ _ _ _ _ _ _ _ _ _ _ _ _ _ _ _ _ _
   | exact ih9 _ _ _ _ _ _ _ _ _ _
   | exact ih10 _ _ _ _ _ _ _ _ _ _ _
   | exact ih11 _ _ _ _ _ _ _ _ _ _ _ _ _ _ _ _
   | exact ih12 _ _ _ _ _ _ _ _ _ _ _ _ _ _ _ _
   | exact ih13 _ _ _ _ _ _ _ _ _ _ _ _ _
   | exact ih14 _ _ _ _ _ _ _ _ _ _ _ _ _
   | exact ih15 _ _ _ _ _
   | exact ih16 _ _ _ _ _ _
   | exact ih17 _ _ _ _ _ _
   | exact ih18 _ _ _ _ _ _ _
   | exact ih19 _ _ _ _ _ _ _ _ _ _ _ _
   | exact ih20 _ _ _ _ _ _ _ _ _ _ _ _
   | exact ih21 _ _ _ _ _ _ _
   | exact chain_Add.mono _ _ _ _ _ _
   | exact chain_At.mono _ _ _ _
   | exact chain_Check.mono _ _ _
   | exact chain_Count.mono _ _ _
   | exact chain_New.mono _ _ _ _ _
   | exact chain_Purge.mono _ _ _ _
   | exact quorumlaw8_Heavy.mono _ _ _ _ _
   | exact quorumlaw8_wakes.mono _
   | exact quorumref0_CopyChain.mono _ _ _
   | exact quorumref0_EqChain.mono _ _ _ _ _
   | exact quorumref8_Add.mono _ _ _ _ _ _
   | exact quorumref8_At.mono _ _ _ _
   | exact quorumref8_Chain.mono _ _ _
   | exact quorumref8_Purge.mono _ _ _ _
   | exact LeO.none _
   | refine LeO.ite ?_ ?_
   | refine LeO.bind ?_ (fun _ => ?_)
  ·intro y0 y1 y2 y3 y4 y5 y6 y7 y8 y9 y10 y11 y12
   unfold quorumlaw8_ChainTells.l3
   repeat' first
   | (with_reducible exact ih0 _ _ _ _ _ _)
   | (with_reducible exact ih1 _ _ _ _ _ _ _)
   | (with_reducible exact ih2 _ _ _ _ _ _ _ _ _ _ _ _ _)
   | (with_reducible exact ih3 _ _ _ _ _ _ _ _ _ _ _)
   | (with_reducible exact ih4 _ _ _ _ _ _ _ _ _ _ _)
   | (with_reducible exact ih5 _ _ _ _ _ _ _ _ _ _ _ _)
   | (with_reducible exact ih6 _ _ _ _ _ _ _ _ _ _ _ _ _ _ _ _ _ _ _ _ _ _ _ _)
   | (with_reducible exact ih7 _ _ _ _ _ _ _ _ _ _ _ _)
   | (with_reducible exact ih8 _ _ _ _ _ _ _ _ _ _ _ _ _ _ _ _ _ _ _ _ _ _)
   | (with_reducible exact ih9 _ _ _ _ _ _ _ _ _ _)
   | (with_reducible exact ih10 _ _ _ _ _ _ _ _ _ _ _)
   | (with_reducible exact ih11 _ _ _ _ _ _ _ _ _ _ _ _ _ _ _ _)
   | (with_reducible exact ih12 _ _ _ _ _ _ _ _ _ _ _ _ _ _ _ _)
   | (with_reducible exact ih13 _ _ _ _ _ _ _ _ _ _ _ _ _)
   | (with_reducible exact ih14 _ _ _ _ _ _ _ _ _ _ _ _ _)
   | (with_reducible exact ih15 _ _ _ _ _)
   | (with_reducible exact ih16 _ _ _ _ _ _)
   | (with_reducible exact ih17 _ _ _ _ _ _)
   | (with_reducible exact ih18 _ _ _ _ _ _ _)
   | (with_reducible exact ih19 _ _ _ _ _ _ _ _ _ _ _ _)
   | (with_reducible exact ih20 _ _ _ _ _ _ _ _ _ _ _ _)
   | (with_reducible exact ih21 _ _ _ _ _ _ _)
   | (with_reducible exact chain_Add.mono _ _ _ _ _ _)
   | (with_reducible exact chain_At.mono _ _ _ _)
   | (with_reducible exact chain_Check.mono _ _ _)
   | (with_reducible exact chain_Count.mono _ _ _)
   | (with_reducible exact chain_New.mono _ _ _ _ _)
   | (with_reducible exact chain_Purge.mono _ _ _ _)
   | (with_reducible exact quorumlaw8_Heavy.mono _ _ _ _ _)
   | (with_reducible exact quorumlaw8_wakes.mono _)
   | (with_reducible exact quorumref0_CopyChain.mono _ _ _)
   | (with_reducible exact quorumref0_EqChain.mono _ _ _ _ _)
   | (with_reducible exact quorumref8_Add.mono _ _ _ _ _ _)
   | (with_reducible exact quorumref8_At.mono _ _ _ _)
   | (with_reducible exact quorumref8_Chain.mono _ _ _)
   | (with_reducible exact quorumref8_Purge.mono _ _ _ _)
   | (with_reducible exact LeO.refl _)
   | (with_reducible exact LeO.none _)
   | (with_reducible refine LeO.ite ?_ ?_)
   | (with_reducible refine LeO.bind ?_ (fun _ => ?_))
   | exact ih0 _ _ _ _ _ _
   | exact ih1 _ _ _ _ _ _ _
   | exact ih2 _ _ _ _ _ _ _ _ _ _ _ _ _
   | exact ih3 _ _ _ _ _ _ _ _ _ _ _
   | exact ih4 _ _ _ _ _ _ _ _ _ _ _
   | exact ih5 _ _ _ _ _ _ _ _ _ _ _ _
   | exact ih6 _ _ _ _ _ _ _ _ _ _ _ _ _ _ _ _ _ _ _ _ _ _ _ _
   | exact ih7 _ _ _ _ _ _ _ _ _ _ _ _
   | exact ih8 _ _ _ _ _ _ _ _ _ _ _ _ _ _ _ _ _ _ _ _ _ _
   | exact ih9 _ _ _ _ _ _ _ _ _ _
   | exact ih10 _ _ _ _ _ _ _ _ _ _ _
   | exact ih11 _ _ _ _ _ _ _ _ _ _ _ _ _ _ _ _
   | exact ih12 _ _ _ _ _ _ _ _ _ _ _ _ _ _ _ _
   | exact ih13 _ _ _ _ _ _ _ _ _ _ _ _ _
   | exact ih14 _ _ _ _ _ _ _ _ _ _ _ _ _
   | exact ih15 _ _ _ _ _
   | exact ih16 _ _ _ _ _ _
   | exact ih17 _ _ _ _ _ _
   | exact ih18 _ _ _ _ _ _ _
   | exact ih19 _ _ _ _ _ _ _ _ _ _ _ _
   | exact ih20 _ _ _ _ _ _ _ _ _ _ _ _
   | exact ih21 _ _ _ _ _ _ _
   | exact chain_Add.mono _ _ _ _ _ _
   | exact chain_At.mono _ _ _ _
   | exact chain_Check.mono _ _ _
   | exact chain_Count.mono _ _ _
   | exact chain_New.mono _ _ _ _ _
   | exact chain_Purge.mono _ _ _ _
   | exact quorumlaw8_Heavy.mono _ _ _ _ _
   | exact quorumlaw8_wakes.mono _
   | exact quorumref0_CopyChain.mono _ _ _
   | exact quorumref0_EqChain.mono _ _ _ _ _
   | exact quorumref8_Add.mono _ _ _ _ _ _
   | exact quorumref8_At.mono _ _ _ _
   | exact quorumref8_Chain.mono _ _ _
   | exact quorumref8_Purge.mono _ _ _ _
   | exact LeO.none _
   | refine LeO.ite ?_ ?_
   | refine LeO.bind ?_ (fun _ => ?_)
  ·intro y0 y1 y2 y3 y4
   unfold quorumlaw8_ChainTells.l4
   repeat' first
   | (with_reducible exact ih0 _ _ _ _ _ _)
   | (with_reducible exact ih1 _ _ _ _ _ _ _)
   | (with_reducible exact ih2 _ _ _ _ _ _ _ _ _ _ _ _ _)
   | (with_reducible exact ih3 _ _ _ _ _ _ _ _ _ _ _)
   | (with_reducible exact ih4 _ _ _ _ _ _ _ _ _ _ _)
   | (with_reducible exact ih5 _ _ _ _ _ _ _ _ _ _ _ _)
   | (with_reducible exact ih6 _ _ _ _ _ _ _ _ _ _ _ _ _ _ _ _ _ _ _ _ _ _ _ _)
   | (with_reducible exact ih7 _ _ _ _ _ _ _ _ _ _ _ _)
   | (with_reducible exact ih8 _ _ _ _ _ _ _ _ _ _ _ _ _ _ _ _ _ _ _ _ _ _)
   | (with_reducible exact ih9 _ _ _ _ _ _ _ _ _ _)
   | (with_reducible exact ih10 _ _ _ _ _ _ _ _ _ _ _)
   | (with_reducible exact ih11 _ _ _ _ _ _ _ _ _ _ _ _ _ _ _ _)
   | (with_reducible exact ih12 _ _ _ _ _ _ _ _ _ _ _ _ _ _ _ _)
   | (with_reducible exact ih13 _ _ _ _ _ _ _ _ _ _ _ _ _)
   | (with_reducible exact ih14 _ _ _ _ _ _ _ _ _ _ _ _ _)
   | (with_reducible exact ih15 _ _ _ _ _)
   | (with_reducible exact ih16 _ _ _ _ _ _)
   | (with_reducible exact ih17 _ _ _ _ _ _)
   | (with_reducible exact ih18 _ _ _ _ _ _ _)
   | (with_reducible exact ih19 _ _ _ _ _ _ _ _ _ _ _ _)
   | (with_reducible exact ih20 _ _ _ _ _ _ _ _ _ _ _ _)
   | (with_reducible exact ih21 _ _ _ _ _ _ _)
   | (with_reducible exact chain_Add.mono _ _ _ _ _ _)
   | (with_reducible exact chain_At.mono _ _ _ _)
   | (with_reducible exact chain_Check.mono _ _ _)
   | (with_reducible exact chain_Count.mono _ _ _)
   | (with_reducible exact chain_New.mono _ _ _ _ _)
   | (with_reducible exact chain_Purge.mono _ _ _ _)
   | (with_reducible exact quorumlaw8_Heavy.mono _ _ _ _ _)
   | (with_reducible exact quorumlaw8_wakes.mono _)
   | (with_reducible exact quorumref0_CopyChain.mono _ _ _)
   | (with_reducible exact quorumref0_EqChain.mono _ _ _ _ _)
   | (with_reducible exact quorumref8_Add.mono _ _ _ _ _ _)
   | (with_reducible exact quorumref8_At.mono _ _ _ _)
   | (with_reducible exact quorumref8_Chain.mono _ _ _)
   | (with_reducible exact quorumref8_Purge.mono _ _ _ _)
   | (with_reducible exact LeO.refl _)
   | (with_reducible exact LeO.none _)
   | (with_reducible refine LeO.ite ?_ ?_)
   | (with_reducible refine LeO.bind ?_ (fun _ => ?_))
   | exact ih0 _ _ _ _ _ _
   | exact ih1 _ _ _ _ _ _ _
   | exact ih2 _ _ _ _ _ _ _ _ _ _ _ _ _
   | exact ih3 _ _ _ _ _ _ _ _ _ _ _
   | exact ih4 _ _ _ _ _ _ _ _ _ _ _
   | exact ih5 _ _ _ _ _ _ _ _ _ _ _ _
   | exact ih6 _ _ _ _ _ _ _ _ _ _ _ _ _ _ _ _ _ _ _ _ _ _ _ _
   | exact ih7 _ _ _ _ _ _ _ _ _ _ _ _
   | exact ih8 _ _ _ _ _ _ _ _ _ _ _ _ _ _ _ _ _ _ _ _ _ _
   | exact ih9 _ _ _ _ _ _ _ _ _ _
   | exact ih10 _ _ _ _ _ _ _ _ _ _ _
   | exact ih11 _ _ _ _ _ _ _ _ _ _ _ _ _ _ _ _
   | exact ih12 _ _ _ _ _ _ _ _ _ _ _ _ _ _ _ _
   | exact ih13 _ _ _ _ _ _ _ _ _ _ _ _ _
   | exact ih14 _ _ _ _ _ _ _ _ _ _ _ _ _
   | exact ih15 _ _ _ _ _
   | exact ih16 _ _ _ _ _ _
   | exact ih17 _ _ _ _ _ _
   | exact ih18 _ _ _ _ _ _ _
   | exact ih19 _ _ _ _ _ _ _ _ _ _ _ _
   | exact ih20 _ _ _ _ _ _ _ _ _ _ _ _
   | exact ih21 _ _ _ _ _ _ _
   | exact chain_Add.mono _ _ _ _ _ _
   | exact chain_At.mono _ _ _ _
   | exact chain_Check.mono _ _ _
   | exact chain_Count.mono _ _ _
   | exact chain_New.mono _ _ _ _ _
   | exact chain_Purge.mono _ _ _ _
   | exact quorumlaw8_Heavy.mono _ _ _ _ _
   | exact quorumlaw8_wakes.mono _
   | exact quorumref0_CopyChain.mono _ _ _
   | exact quorumref0_EqChain.mono _ _ _ _ _
   | exact quorumref8_Add.mono _ _ _ _ _ _
   | exact quorumref8_At.mono _ _ _ _
   | exact quorumref8_Chain.mono _ _ _
   | exact quorumref8_Purge.mono _ _ _ _
   | exact LeO.none _
   | refine LeO.ite ?_ ?_
   | refine LeO.bind ?_ (fun _ => ?_)
  ·intro y0 y1 y2 y3 y4 y5
   unfold quorumlaw8_ChainTells.j16
   repeat' first
   | (with_reducible exact ih0 _ _ _ _ _ _)
   | (with_reducible exact ih1 _ _ _ _ _ _ _)
   | (with_reducible exact ih2 _ _ _ _ _ _ _ _ _ _ _ _ _)
   | (with_reducible exact ih3 _ _ _ _ _ _ _ _ _ _ _)
   | (with_reducible exact ih4 _ _ _ _ _ _ _ _ _ _ _)
   | (with_reducible exact ih5 _ _ _ _ _ _ _ _ _ _ _ _)
   | (with_reducible exact ih6 _ _ _ _ _ _ _ _ _ _ _ _ _ _ _ _ _ _ _ _ _ _ _ _)
   | (with_reducible exact ih7 _ _ _ _ _ _ _ _ _ _ _ _)
   | (with_reducible exact ih8 _ _ _ _ _ _ _ _ _ _ _ _ _ _ _ _ _ _ _ _ _ _)
   | (with_reducible exact ih9 _ _ _ _ _ _ _ _ _ _)
   | (with_reducible exact ih10 _ _ _ _ _ _ _ _ _ _ _)
   | (with_reducible exact ih11 _ _ _ _ _ _ _ _ _ _ _ _ _ _ _ _)
   | (with_reducible exact ih12 _ _ _ _ _ _ _ _ _ _ _ _ _ _ _ _)
   | (with_reducible exact ih13 _ _ _ _ _ _ _ _ _ _ _ _ _)
   | (with_reducible exact ih14 _ _ _ _ _ _ _ _ _ _ _ _ _)
   | (with_reducible exact ih15 _ _ _ _ _)
   | (with_reducible exact ih16 _ _ _ _ _ _)
   | (with_reducible exact ih17 _ _ _ _ _ _)
   | (with_reducible exact ih18 _ _ _ _ _ _ _)
   | (with_reducible exact ih19 _ _ _ _ _ _ _ _ _ _ _ _)
   | (with_reducible exact ih20 _ _ _ _ _ _ _ _ _ _ _ _)
   | (with_reducible exact ih21 _ _ _ _ _ _ _)
   | (with_reducible exact chain_Add.mono _ _ _ _ _ _)
   | (with_reducible exact chain_At.mono _ _ _ _)
   | (with_reducible exact chain_Check.mono _ _ _)
   | (with_reducible exact chain_Count.mono _ _ _)
   | (with_reducible exact chain_New.mono _ _ _ _ _)
   | (with_reducible exact chain_Purge.mono _ _ _ _)
   | (with_reducible exact quorumlaw8_Heavy.mono _ _ _ _ _)
   | (with_reducible exact quorumlaw8_wakes.mono _)
   | (with_reducible exact quorumref0_CopyChain.mono _ _ _)
   | (with_reducible exact quorumref0_EqChain.mono _ _ _ _ _)
   | (with_reducible exact quorumref8_Add.mono _ _ _ _ _ _)
   | (with_reducible exact quorumref8_At.mono _ _ _ _)
   | (with_reducible exact quorumref8_Chain.mono _ _ _)
   | (with_reducible exact quorumref8_Purge.mono _ _ _ _)
   | (with_reducible exact LeO.refl _)
   | (with_reducible exact LeO.none _)
   | (with_reducible refine LeO.ite ?_ ?_)
   | (with_reducible refine LeO.bind ?_ (fun _ => ?_))
   | exact ih0 _ _ _ _ _ _
   | exact ih1 _ _ _ _ _ _ _
   | exact ih2 _ _ _ _ _ _ _ _ _ _ _ _ _
   | exact ih3 _ _ _ _ _ _ _ _ _ _ _
   | exact ih4 _ _ _ _ _ _ _ _ _ _ _
   | exact ih5 _ _ _ _ _ _ _ _ _ _ _ _
   | exact ih6 _ _ _ _ _ _ _ _ _ _ _ _ _ _ _ _ _ _ _ _ _ _ _ _
   | exact ih7 _ _ _ _ _ _ _ _ _ _ _ _
   | exact ih8 _ _ _ _ _ _ _ _ _ _ _ _ _ _ _ _ _ _ _ _ _ _
   | exact ih9 _ _ _ _ _ _ _ _ _ _
   | exact ih10 _ _ _ _ _ _ _ _ _ _ _
   | exact ih11 _ _ _ _ _ _ _ _ _ _ _ _ _ _ _ _
   | exact ih12 _ _ _ _ _ _ _ _ _ _ _ _ _ _ _ _
   | exact ih13 _ _ _ _ _ _ _ _ _ _ _ _ _
   | exact ih14 _ _ _ _ _ _ _ _ _ _ _ _ _
   | exact ih15 _ _ _ _ _
   | exact ih16 _ _ _ _ _ _
   | exact ih17 _ _ _ _ _ _
   | exact ih18 _ _ _ _ _ _ _
   | exact ih19 _ _ _ _ _ _ _ _ _ _ _ _
   | exact ih20 _ _ _ _ _ _ _ _ _ _ _ _
   | exact ih21 _ _ _ _ _ _ _
   | exact chain_Add.mono _ _ _ _ _ _
   | exact chain_At.mono _ _ _ _
   | exact chain_Check.mono _ _ _
   | exact chain_Count.mono _ _ _
   | exact chain_New.mono _ _ _ _ _
   | exact chain_Purge.mono _ _ _ _
   | exact quorumlaw8_Heavy.mono _ _ _ _ _
   | exact quorumlaw8_wakes.mono _
   | exact quorumref0_CopyChain.mono _ _ _
   | exact quorumref0_EqChain.mono _ _ _ _ _
   | exact quorumref8_Add.mono _ _ _ _ _ _
   | exact quorumref8_At.mono _ _ _ _
   | exact quorumref8_Chain.mono _ _ _
   | exact quorumref8_Purge.mono _ _ _ _
   | exact LeO.none _
   | refine LeO.ite ?_ ?_
   | refine LeO.bind ?_ (fun _ => ?_)
  ·intro y0 y1 y2 y3 y4 y5
   unfold quorumlaw8_ChainTells.l5
   repeat' first
   | (with_reducible exact ih0 _ _ _ _ _ _)
   | (with_reducible exact ih1 _ _ _ _ _ _ _)
   | (with_reducible exact ih2 _ _ _ _ _ _ _ _ _ _ _ _ _)
   | (with_reducible exact ih3 _ _ _ _ _ _ _ _ _ _ _)
   | (with_reducible exact ih4 _ _ _ _ _ _ _ _ _ _ _)
   | (with_reducible exact ih5 _ _ _ _ _ _ _ _ _ _ _ _)
   | (with_reducible exact ih6 _ _ _ _ _ _ _ _ _ _ _ _ _ _ _ _ _ _ _ _ _ _ _ _)
   | (with_reducible exact ih7 _ _ _ _ _ _ _ _ _ _ _ _)
   | (with_reducible exact ih8 _ _ _ _ _ _ _ _ _ _ _ _ _ _ _ _ _ _ _ _ _ _)
   | (with_reducible exact ih9 _ _ _ _ _ _ _ _ _ _)
   | (with_reducible exact ih10 _ _ _ _ _ _ _ _ _ _ _)
   | (with_reducible exact ih11 _ _ _ _ _ _ _ _ _ _ _ _ _ _ _ _)
   | (with_reducible exact ih12 _ _ _ _ _ _ _ _ _ _ _ _ _ _ _ _)
   | (with_reducible exact ih13 _ _ _ _ _ _ _ _ _ _ _ _ _)
   | (with_reducible exact ih14 _ _ _ _ _ _ _ _ _ _ _ _ _)
   | (with_reducible exact ih15 _ _ _ _ _)
   | (with_reducible exact ih16 _ _ _ _ _ _)
   | (with_reducible exact ih17 _ _ _ _ _ _)
   | (with_reducible exact ih18 _ _ _ _ _ _ _)
   | (with_reducible exact ih19 _ _ _ _ _ _ _ _ _ _ _ _)
   | (with_reducible exact ih20 _ _ _ _ _ _ _ _ _ _ _ _)
   | (with_reducible exact ih21 _ _ _ _ _ _ _)
   | (with_reducible exact chain_Add.mono _ _ _ _ _ _)
   | (with_reducible exact chain_At.mono _ _ _ _)
   | (with_reducible exact chain_Check.mono _ _ _)
   | (with_reducible exact chain_Count.mono _ _ _)
   | (with_reducible exact chain_New.mono _ _ _ _ _)
   | (with_reducible exact chain_Purge.mono _ _ _ _)
   | (with_reducible exact quorumlaw8_Heavy.mono _ _ _ _ _)
   | (with_reducible exact quorumlaw8_wakes.mono _)
   | (with_reducible exact quorumref0_CopyChain.mono _ _ _)
   | (with_reducible exact quorumref0_EqChain.mono _ _ _ _ _)
   | (with_reducible exact quorumref8_Add.mono _ _ _ _ _ _)
   | (with_reducible exact quorumref8_At.mono _ _ _ _)
   | (with_reducible exact quorumref8_Chain.mono _ _ _)
   | (with_reducible exact quorumref8_Purge.mono _ _ _ _)
   | (with_reducible exact LeO.refl _)
   | (with_reducible exact LeO.none _)
   | (with_reducible refine LeO.ite ?_ ?_)
   | (with_reducible refine LeO.bind ?_ (fun _ => ?_))
   | exact ih0 _ _ _ _ _ _
   | exact ih1 _ _ _ _ _ _ _
   | exact ih2 _ _ _ _ _ _ _ _ _ _ _ _ _
   | exact ih3 _ _ _ _ _ _ _ _ _ _ _
   | exact ih4 _ _ _ _ _ _ _ _ _ _ _
   | exact ih5 _ _ _ _ _ _ _ _ _ _ _ _
   | exact ih6 _ _ _ _ _ _ _ _ _ _ _ _ _ _ _ _ _ _ _ _ _ _ _ _
   | exact ih7 _ _ _ _ _ _ _ _ _ _ _ _
   | exact ih8 _ _ _ _ _ _ _ _ _ _ _ _ _ _ _ _ _ _ _ _ _ _
   | exact ih9 _ _ _ _ _ _ _ _ _ _
   | exact ih10 _ _ _ _ _ _ _ _ _ _ _
   | exact ih11 _ _ _ _ _ _ _ _ _ _ _ _ _ _ _ _
   | exact ih12 _ _ _ _ _ _ _ _ _ _ _ _ _ _ _ _
   | exact ih13 _ _ _ _ _ _ _ _ _ _ _ _ _
   | exact ih14 _ _ _ _ _ _ _ _ _ _ _ _ _
   | exact ih15 _ _ _ _ _
   | exact ih16 _ _ _ _ _ _
   | exact ih17 _ _ _ _ _ _
   | exact ih18 _ _ _ _ _ _ _
   | exact ih19 _ _ _ _ _ _ _ _ _ _ _ _
   | exact ih20 _ _ _ _ _ _ _ _ _ _ _ _
   | exact ih21 _ _ _ _ _ _ _
   | exact chain_Add.mono _ _ _ _ _ _
   | exact chain_At.mono _ _ _ _
   | exact chain_Check.mono _ _ _
   | exact chain_Count.mono _ _ _
   | exact chain_New.mono _ _ _ _ _
   | exact chain_Purge.mono _ _ _ _
   | exact quorumlaw8_Heavy.mono _ _ _ _ _
   | exact quorumlaw8_wakes.mono _
   | exact quorumref0_CopyChain.mono _ _ _
   | exact quorumref0_EqChain.mono _ _ _ _ _
   | exact quorumref8_Add.mono _ _ _ _ _ _
   | exact quorumref8_At.mono _ _ _ _
   | exact quorumref8_Chain.mono _ _ _
   | exact quorumref8_Purge.mono _ _ _ _
   | exact LeO.none _
   | refine LeO.ite ?_ ?_
   | refine LeO.bind ?_ (fun _ => ?_)
  ·intro y0 y1 y2 y3 y4 y5 y6
   unfold quorumlaw8_ChainTells.j18
   repeat' first
   | (with_reducible exact ih0 _ _ _ _ _ _)
   | (with_reducible exact ih1 _ _ _ _ _ _ _)
   | (with_reducible exact ih2 _ _ _ _ _ _ _ _ _ _ _ _ _)
   | (with_reducible exact ih3 _ _ _ _ _ _ _ _ _ _ _)
   | (with_reducible exact ih4 _ _ _ _ _ _ _ _ _ _ _)
   | (with_reducible exact ih5 _ _ _ _ _ _ _ _ _ _ _ _)
   | (with_reducible exact ih6 _ _ _ _ _ _ _ _ _ _ _ _ _ _ _ _ _ _ _ _ _ _ _ _)
   | (with_reducible exact ih7 _ _ _ _ _ _ _ _ _ _ _ _)
   | (with_reducible exact ih8 _ _ _ _ _ _ _ _ _ _ _ _ _ _ _ _ _ _ _ _ _ _)
   | (with_reducible exact ih9 _ _ _ _ _ _ _ _ _ _)
   | (with_reducible exact ih10 _ _ _ _ _ _ _ _ _ _ _)
   | (with_reducible exact ih11 _ _ _ _ _ _ _ _ _ _ _ _ _ _ _ _)
   | (with_reducible exact ih12 _ _ _ _ _ _ _ _ _ _ _ _ _ _ _ _)
   | (with_reducible exact ih13 _ _ _ _ _ _ _ _ _ _ _ _ _)
   | (with_reducible exact ih14 _ _ _ _ _ _ _ _ _ _ _ _ _)
   | (with_reducible exact ih15 _ _ _ _ _)
   | (with_reducible exact ih16 _ _ _ _ _ _)
   | (with_reducible exact ih17 _ _ _ _ _ _)
   | (with_reducible exact ih18 _ _ _ _ _ _ _)
   | (with_reducible exact ih19 _ _ _ _ _ _ _ _ _ _ _ _)
   | (with_reducible exact ih20 _ _ _ _ _ _ _ _ _ _ _ _)
   | (with_reducible exact ih21 _ _ _ _ _ _ _)
   | (with_reducible exact chain_Add.mono _ _ _ _ _ _)
   | (with_reducible exact chain_At.mono _ _ _ _)
   | (with_reducible exact chain_Check.mono _ _ _)
   | (with_reducible exact chain_Count.mono _ _ _)
   | (with_reducible exact chain_New.mono _ _ _ _ _)
   | (with_reducible exact chain_Purge.mono _ _ _ _)
   | (with_reducible exact quorumlaw8_Heavy.mono _ _ _ _ _)
   | (with_reducible exact quorumlaw8_wakes.mono _)
   | (with_reducible exact quorumref0_CopyChain.mono _ _ _)
   | (with_reducible exact quorumref0_EqChain.mono _ _ _ _ _)
   | (with_reducible exact quorumref8_Add.mono _ _ _ _ _ _)
   | (with_reducible exact quorumref8_At.mono _ _ _ _)
   | (with_reducible exact quorumref8_Chain.mono _ _ _)
   | (with_reducible exact quorumref8_Purge.mono _ _ _ _)
   | (with_reducible exact LeO.refl _)
   | (with_reducible exact LeO.none _)
   | (with_reducible refine LeO.ite ?_ ?_)
   | (with_reducible refine LeO.bind ?_ (fun _ => ?_))
   | exact ih0 _ _ _ _ _ _
   | exact ih1 _ _ _ _ _ _ _
   | exact ih2 _ _ _ _ _ _ _ _ _ _ _ _ _
   | exact ih3 _ _ _ _ _ _ _ _ _ _ _
   | exact ih4 _ _ _ _ _ _ _ _ _ _ _
   | exact ih5 _ _ _ _ _ _ _ _ _ _ _ _
   | exact ih6 _ _ _ _ _ _ _ _ _ _ _ _ _ _ _ _ _ _ _ _ _ _ _ _
   | exact ih7 _ _ _ _ _ _ _ _ _ _ _ _
   | exact ih8 _ _ _ _ _ _ _ _ _ _ _ _ _ _ _ _ _ _ _ _ _ _
   | exact ih9 _ _ _ _ _ _ _ _ _ _
   | exact ih10 _ _ _ _ _ _ _ _ _ _ _
   | exact ih11 _ _ _ _ _ _ _ _ _ _ _ _ _ _ _ _
   | exact ih12 _ _ _ _ _ _ _ _ _ _ _ _ _ _ _ _
   | exact ih13 _ _ _ _ _ _ _ _ _ _ _ _ _
   | exact ih14 _ _ _ _ _ _ _ _ _ _ _ _ _
   | exact ih15 _ _ _ _ _
   | exact ih16 _ _ _ _ _ _
   | exact ih17 _ _ _ _ _ _
   | exact ih18 _ _ _ _ _ _ _
   | exact ih19 _ _ _ _ _ _ _ _ _ _ _ _
   | exact ih20 _ _ _ _ _ _ _ _ _ _ _ _
   | exact ih21 _ _ _ _ _ _ _
   | exact chain_Add.mono _ _ _ _ _ _
   | exact chain_At.mono _ _ _ _
   | exact chain_Check.mono _ _ _
   | exact chain_Count.mono _ _ _
   | exact chain_New.mono _ _ _ _ _
   | exact chain_Purge.mono _ _ _ _
   | exact quorumlaw8_Heavy.mono _ _ _ _ _
   | exact quorumlaw8_wakes.mono _
   | exact quorumref0_CopyChain.mono _ _ _
   | exact quorumref0_EqChain.mono _ _ _ _ _
   | exact quorumref8_Add.mono _ _ _ _ _ _
   | exact quorumref8_At.mono _ _ _ _
   | exact quorumref8_Chain.mono _ _ _
   | exact quorumref8_Purge.mono _ _ _ _
   | exact LeO.none _
   | refine LeO.ite ?_ ?_
   | refine LeO.bind ?_ (fun _ => ?_)
  ·intro y0 y1 y2 y3 y4 y5 y6 y7 y8 y9 y10 y11
   unfold quorumlaw8_ChainTells.j19
   repeat' first
   | (with_reducible exact ih0 _ _ _ _ _ _)
   | (with_reducible exact ih1 _ _ _ _ _ _ _)
   | (with_reducible exact ih2 _ _ _ _ _ _ _ _ _ _ _ _ _)
   | (with_reducible exact ih3 _ _ _ _ _ _ _ _ _ _ _)
   | (with_reducible exact ih4 _ _ _ _ _ _ _ _ _ _ _)
   | (with_reducible exact ih5 _ _ _ _ _ _ _ _ _ _ _ _)
   | (with_reducible exact ih6 _ _ _ _ _ _ _ _ _ _ _ _ _ _ _ _ _ _ _ _ _ _ _ _)
   | (with_reducible exact ih7 _ _ _ _ _ _ _ _ _ _ _ _)
   | (with_reducible exact ih8 _ _ _ _ _ _ _ _ _ _ _ _ _ _ _ _ _ _ _ _ _ _)
   | (with_reducible exact ih9 _ _ _ _ _ _ _ _ _ _)
   | (with_reducible exact ih10 _ _ _ _ _ _ _ _ _ _ _)
   | (with_reducible exact ih11 _ _ _ _ _ _ _ _ _ _ _ _ _ _ _ _)
   | (with_reducible exact ih12 _ _ _ _ _ _ _ _ _ _ _ _ _ _ _ _)
   | (with_reducible exact ih13 _ _ _ _ _ _ _ _ _ _ _ _ _)
   | (with_reducible exact ih14 _ _ _ _ _ _ _ _ _ _ _ _ _)
   | (with_reducible exact ih15 _ _ _ _ _)
   | (with_reducible exact ih16 _ _ _ _ _ _)
   | (with_reducible exact ih17 _ _ _ _ _ _)
   | (with_reducible exact ih18 _ _ _ _ _ _ _)
   | (with_reducible exact ih19 _ _ _ _ _ _ _ _ _ _ _ _)
   | (with_reducible exact ih20 _ _ _ _ _ _ _ _ _ _ _ _)
   | (with_reducible exact ih21 _ _ _ _ _ _ _)
   | (with_reducible exact chain_Add.mono _ _ _ _ _ _)
   | (with_reducible exact chain_At.mono _ _ _ _)
   | (with_reducible exact chain_Check.mono _ _ _)
   | (with_reducible exact chain_Count.mono _ _ _)
   | (with_reducible exact chain_New.mono _ _ _ _ _)
   | (with_reducible exact chain_Purge.mono _ _ _ _)
   | (with_reducible exact quorumlaw8_Heavy.mono _ _ _ _ _)
   | (with_reducible exact quorumlaw8_wakes.mono _)
   | (with_reducible exact quorumref0_CopyChain.mono _ _ _)
   | (with_reducible exact quorumref0_EqChain.mono _ _ _ _ _)
   | (with_reducible exact quorumref8_Add.mono _ _ _ _ _ _)
   | (with_reducible exact quorumref8_At.mono _ _ _ _)
   | (with_reducible exact quorumref8_Chain.mono _ _ _)
   | (with_reducible exact quorumref8_Purge.mono _ _ _ _)
   | (with_reducible exact LeO.refl _)
   | (with_reducible exact LeO.none _)
   | (with_reducible refine LeO.ite ?_ ?_)
   | (with_reducible refine LeO.bind ?_ (fun _ => ?_))
   | exact ih0 _ _ _ _ _ _
   | exact ih1 _ _ _ _ _ _ _
   | exact ih2 _ _ _ _ _ _ _ _ _ _ _ _ _
   | exact ih3 _ _ _ _ _ _ _ _ _ _ _
   | exact ih4 _ _ _ _ _ _ _ _ _ _ _
   | exact ih5 _ _ _ _ _ _ _ _ _ _ _ _
   | exact ih6 _ _ _ _ _ _ _ _ _ _ _ _ _ _ _ _ _ _ _ _ _ _ _ _
   | exact ih7 _ _ _ _ _ _ _ _ _ _ _ _
   | exact ih8 _ _ _ _ _ _ _ _ _ _ _ _ _ _ _ _ _ _ _ _ _ _
   | exact ih9 _ _ _ _ _ _ _ _ _ _
   | exact ih10 _ _ _ _ _ _ _ _ _ _ _
   | exact ih11 _ _ _ _ _ _ _ _ _ _ _ _ _ _ _ _
   | exact ih12 _ _ _ _ _ _ _ _ _ _ _ _ _ _ _ _
   | exact ih13 _ _ _ _ _ _ _ _ _ _ _ _ _
   | exact ih14 _ _ _ _ _ _ _ _ _ _ _ _ _
   | exact ih15 _ _ _ _ _
   | exact ih16 _ _ _ _ _ _
   | exact ih17 _ _ _ _ _ _
   | exact ih18 _ _ _ _ _ _ _
   | exact ih19 _ _ _ _ _ _ _ _ _ _ _ _
   | exact ih20 _ _ _ _ _ _ _ _ _ _ _ _
   | exact ih21 _ _ _ _ _ _ _
   | exact chain_Add.mono _ _ _ _ _ _
   | exact chain_At.mono _ _ _ _
   | exact chain_Check.mono _ _ _
   | exact chain_Count.mono _ _ _
   | exact chain_New.mono _ _ _ _ _
   | exact chain_Purge.mono _ _ _ _
   | exact quorumlaw8_Heavy.mono _ _ _ _ _
   | exact quorumlaw8_wakes.mono _
   | exact quorumref0_CopyChain.mono _ _ _
   | exact quorumref0_EqChain.mono _ _ _ _ _
   | exact quorumref8_Add.mono _ _ _ _ _ _
   | exact quorumref8_At.mono _ _ _ _
   | exact quorumref8_Chain.mono _ _ _
   | exact quorumref8_Purge.mono _ _ _ _
   | exact LeO.none _
   | refine LeO.ite ?_ ?_
   | refine LeO.bind ?_ (fun _ => ?_)
  ·intro y0 y1 y2 y3 y4 y5 y6 y7 y8 y9 y10 y11
   unfold quorumlaw8_ChainTells.j20
   repeat' first
   | (with_reducible exact ih0 _ _ _ _ _ _)
   | (with_reducible exact ih1 _ _ _ _ _ _ _)
   | (with_reducible exact ih2 _ _ _ _ _ _ _ _ _ _ _ _ _)
   | (with_reducible exact ih3 _ _ _ _ _ _ _ _ _ _ _)
   | (with_reducible exact ih4 _ _ _ _ _ _ _ _ _ _ _)
   | (with_reducible exact ih5 _ _ _ _ _ _ _ _ _ _ _ _)
   | (with_reducible exact ih6 _ _ _ _ _ _ _ _ _ _ _ _ _ _ _ _ _ _ _ _ _ _ _ _)
   | (with_reducible exact ih7 _ _ _ _ _ _ _ _ _ _ _ _)
   | (with_reducible exact ih8 _ _ _ _ _ _ _ _ _ _ _ _ _ _ _ _ _ _ _ _ _ _)
   | (with_reducible exact ih9 _ _ _ _ _ _ _ _ _ _)
   | (with_reducible exact ih10 _ _ _ _ _ _ _ _ _ _ _)
   | (with_reducible exact ih11 _ _ _ _ _ _ _ _ _ _ _ _ _ _ _ _)
   | (with_reducible exact ih12 _ _ _ _ _ _ _ _ _ _ _ _ _ _ _ _)
   | (with_reducible exact ih13 _ _ _ _ _ _ _ _ _ _ _ _ _)
   | (with_reducible exact ih14 _ _ _ _ _ _ _ _ _ _ _ _ _)
   | (with_reducible exact ih15 _ _ _ _ _)
   | (with_reducible exact ih16 _ _ _ _ _ _)
   | (with_reducible exact ih17 _ _ _ _ _ _)
   | (with_reducible exact ih18 _ _ _ _ _ _ _)
   | (with_reducible exact ih19 _ _ _ _ _ _ _ _ _ _ _ _)
   | (with_reducible exact ih20 _ _ _ _ _ _ _ _ _ _ _ _)
   | (with_reducible exact ih21 _ _ _ _ _ _ _)
   | (with_reducible exact chain_Add.mono _ _ _ _ _ _)
   | (with_reducible exact chain_At.mono _ _ _ _)
   | (with_reducible exact chain_Check.mono _ _ _)
   | (with_reducible exact chain_Count.mono _ _ _)
   | (with_reducible exact chain_New.mono _ _ _ _ _)
   | (with_reducible exact chain_Purge.mono _ _ _ _)
   | (with_reducible exact quorumlaw8_Heavy.mono _ _ _ _ _)
   | (with_reducible exact quorumlaw8_wakes.mono _)
   | (with_reducible exact quorumref0_CopyChain.mono _ _ _)
   | (with_reducible exact quorumref0_EqChain.mono _ _ _ _ _)
   | (with_reducible exact quorumref8_Add.mono _ _ _ _ _ _)
   | (with_reducible exact quorumref8_At.mono _ _ _ _)
   | (with_reducible exact quorumref8_Chain.mono _ _ _)
   | (with_reducible exact quorumref8_Purge.mono _ _ _ _)
   | (with_reducible exact LeO.refl _)
   | (with_reducible exact LeO.none _)
   | (with_reducible refine LeO.ite ?_ ?_)
   | (with_reducible refine LeO.bind ?_ (fun _ => ?_))
   | exact ih0 _ _ _ _ _ _
   | exact ih1 _ _ _ _ _ _ _
   | exact ih2 _ _ _ _ _ _ _ _ _ _ _ _ _
   | exact ih3 _ _ _ _ _ _ _ _ _ _ _
   | exact ih4 _ _ _ _ _ _ _ _ _ _ _
   | exact ih5 _ _ _ _ _ _ _ _ _ _ _ _
   | exact ih6 _ _ _ _ _ _ _ _ _ _ _ _ _ _ _ _ _ _ _ _ _ _ _ _
   | exact ih7 _ _ _ _ _ _ _ _ _ _ _ _
   | exact ih8 _ _ _ _ _ _ _ _ _ _ _ _ _ _ _ _ _ _ _ _ _ _
   | exact ih9 _ _ _ _ _ _ _ _ _ _
   | exact ih10 _ _ _ _ _ _ _ _ _ _ _
   | exact ih11 _ _ _ _ _ _ _ _ _ _ _ _ _ _ _ _
   | exact ih12 _ _ _ _ _ _ _ _ _ _ _ _ _ _ _ _
   | exact ih13 _ _ _ _ _ _ _ _ _ _ _ _ _
   | exact ih14 _ _ _ _ _ _ _ _ _ _ _ _ _
   | exact ih15 _ _ _ _ _
   | exact ih16 _ _ _ _ _ _
   | exact ih17 _ _ _ _ _ _
   | exact ih18 _ _ _ _ _ _ _
   | exact ih19 _ _ _ _ _ _ _ _ _ _ _ _
   | exact ih20 _ _ _ _ _ _ _ _ _ _ _ _
   | exact ih21 _ _ _ _ _ _ _
   | exact chain_Add.mono _ _ _ _ _ _
   | exact chain_At.mono _ _ _ _
   | exact chain_Check.mono _ _ _
   | exact chain_Count.mono _ _ _
   | exact chain_New.mono _ _ _ _ _
   | exact chain_Purge.mono _ _ _ _
   | exact quorumlaw8_Heavy.mono _ _ _ _ _
   | exact quorumlaw8_wakes.mono _
   | exact quorumref0_CopyChain.mono _ _ _
   | exact quorumref0_EqChain.mono _ _ _ _ _
   | exact quorumref8_Add.mono _ _ _ _ _ _
   | exact quorumref8_At.mono _ _ _ _
   | exact quorumref8_Chain.mono _ _ _
   | exact quorumref8_Purge.mono _ _ _ _
   | exact LeO.none _
   | refine LeO.ite ?_ ?_
   | refine LeO.bind ?_ (fun _ => ?_)
  ·intro y0 y1 y2 y3 y4 y5 y6
   unfold quorumlaw8_ChainTells.j21
   repeat' first
   | (with_reducible exact ih0 _ _ _ _ _ _)
   | (with_reducible exact ih1 _ _ _ _ _ _ _)
   | (with_reducible exact ih2 _ _ _ _ _ _ _ _ _ _ _ _ _)
   | (with_reducible exact ih3 _ _ _ _ _ _ _ _ _ _ _)
   | (with_reducible exact ih4 _ _ _ _ _ _ _ _ _ _ _)
   | (with_reducible exact ih5 _ _ _ _ _ _ _ _ _ _ _ _)
   | (with_reducible exact ih6 _ _ _ _ _ _ _ _ _ _ _ _ _ _ _ _ _ _ _ _ _ _ _ _)
   | (with_reducible exact ih7 _ _ _ _ _ _ _ _ _ _ _ _)
   | (with_reducible exact ih8 _ _ _ _ _ _ _ _ _ _ _ _ _ _ _ _ _ _ _ _ _ _)
   | (with_reducible exact ih9 _ _ _ _ _ _ _ _ _ _)
   | (with_reducible exact ih10 _ _ _ _ _ _ _ _ _ _ _)
   | (with_reducible exact ih11 _ _ _ _ _ _ _ _ _ _ _ _ _ _ _ _)
   | (with_reducible exact ih12 _ _ _ _ _ _ _ _ _ _ _ _ _ _ _ _)
   | (with_reducible exact ih13 _ _ _ _ _ _ _ _ _ _ _ _ _)
   | (with_reducible exact ih14 _ _ _ _ _ _ _ _ _ _ _ _ _)
   | (with_reducible exact ih15 _ _ _ _ _)
   | (with_reducible exact ih16 _ _ _ _ _ _)
   | (with_reducible exact ih17 _ _ _ _ _ _)
   | (with_reducible exact ih18 _ _ _ _ _ _ _)
   | (with_reducible exact ih19 _ _ _ _ _ _ _ _ _ _ _ _)
   | (with_reducible exact ih20 _ _ _ _ _ _ _ _ _ _ _ _)
   | (with_reducible exact ih21 _ _ _ _ _ _ _)
   | (with_reducible exact chain_Add.mono _ _ _ _ _ _)
   | (with_reducible exact chain_At.mono _ _ _ _)
   | (with_reducible exact chain_Check.mono _ _ _)
   | (with_reducible exact chain_Count.mono _ _ _)
   | (with_reducible exact chain_New.mono _ _ _ _ _)
   | (with_reducible exact chain_Purge.mono _ _ _ _)
   | (with_reducible exact quorumlaw8_Heavy.mono _ _ _ _ _)
   | (with_reducible exact quorumlaw8_wakes.mono _)
   | (with_reducible exact quorumref0_CopyChain.mono _ _ _)
   | (with_reducible exact quorumref0_EqChain.mono _ _ _ _ _)
   | (with_reducible exact quorumref8_Add.mono _ _ _ _ _ _)
   | (with_reducible exact quorumref8_At.mono _ _ _ _)
   | (with_reducible exact quorumref8_Chain.mono _ _ _)
   | (with_reducible exact quorumref8_Purge.mono _ _ _ _)
   | (with_reducible exact LeO.refl _)
   | (with_reducible exact LeO.none _)
   | (with_reducible refine LeO.ite ?_ ?_)
   | (with_reducible refine LeO.bind ?_ (fun _ => ?_))
   | exact ih0 _ _ _ _ _ _
   | exact ih1 _ _ _ _ _ _ _
   | exact ih2 _ _ _ _ _ _ _ _ _ _ _ _ _
   | exact ih3 _ _ _ _ _ _ _ _ _ _ _
   | exact ih4 _ _ _ _ _ _ _ _ _ _ _
   | exact ih5 _ _ _ _ _ _ _ _ _ _ _ _
   | exact ih6 _ _ _ _ _ _ _ _ _ _ _ _ _ _ _ _ _ _ _ _ _ _ _ _
   | exact ih7 _ _ _ _ _ _ _ _ _ _ _ _
   | exact ih8 _ _ _ _ _ _ _ _ _ _ _ _ _ _ _ _ _ _ _ _ _ _
   | exact ih9 _ _ _ _ _ _ _ _ _ _
   | exact ih10 _ _ _ _ _ _ _ _ _ _ _
   | exact ih11 _ _ _ _ _ _ _ _ _ _ _ _ _ _ _ _
   | exact ih12 _ _ _ _ _ _ _ _ _ _ _ _ _ _ _ _
   | exact ih13 _ _ _ _ _ _ _ _ _ _ _ _ _
   | exact ih14 _ _ _ _ _ _ _ _ _ _ _ _ _
   | exact ih15 _ _ _ _ _
   | exact ih16 _ _ _ _ _ _
   | exact ih17 _ _ _ _ _ _
   | exact ih18 _ _ _ _ _ _ _
   | exact ih19 _ _ _ _ _ _ _ _ _ _ _ _
   | exact ih20 _ _ _ _ _ _ _ _ _ _ _ _
   | exact ih21 _ _ _ _ _ _ _
   | exact chain_Add.mono _ _ _ _ _ _
   | exact chain_At.mono _ _ _ _
   | exact chain_Check.mono _ _ _
   | exact chain_Count.mono _ _ _
   | exact chain_New.mono _ _ _ _ _
   | exact chain_Purge.mono _ _ _ _
   | exact quorumlaw8_Heavy.mono _ _ _ _ _
   | exact quorumlaw8_wakes.mono _
   | exact quorumref0_CopyChain.mono _ _ _
   | exact quorumref0_EqChain.mono _ _ _ _ _
   | exact quorumref8_Add.mono _ _ _ _ _ _
   | exact quorumref8_At.mono _ _ _ _
   | exact quorumref8_Chain.mono _ _ _
   | exact quorumref8_Purge.mono _ _ _ _
   | exact LeO.none _
   | refine LeO.ite ?_ ?_
   | refine LeO.bind ?_ (fun _ => ?_)
theorem quorumlaw8_ChainTells.mono : ∀ a0 a1 a2 a3 k, LeO (quorumlaw8_ChainTells.f k a0 a1 a2 a3) (quorumlaw8_ChainTells.f (k + 1) a0 a1 a2 a3) := by
 intro a0 a1 a2 a3 k
 obtain ⟨ih0, ih1, ih2, ih3, ih4, ih5, ih6, ih7, ih8, ih9, ih10, ih11, ih12, ih13, ih14, ih15, ih16, ih17, ih18, ih19, ih20, ih21⟩ := quorumlaw8_ChainTells.mono_l k
 unfold quorumlaw8_ChainTells.f
 repeat' first
   | (with_reducible exact ih0 _ _ _ _ _ _)
   | (with_reducible exact ih1 _ _ _ _ _ _ _)
   | (with_reducible exact ih2 _ _ _ _ _ _ _ _ _ _ _ _ _)
   | (with_reducible exact ih3 _ _ _ _ _ _ _ _ _ _ _)
   | (with_reducible exact ih4 _ _ _ _ _ _ _ _ _ _ _)
   | (with_reducible exact ih5 _ _ _ _ _ _ _ _ _ _ _ _)
   | (with_reducible exact ih6 _ _ _ _ _ _ _ _ _ _ _ _ _ _ _ _ _ _ _ _ _ _ _ _)
   | (with_reducible exact ih7 _ _ _ _ _ _ _ _ _ _ _ _)
   | (with_reducible exact ih8 _ _ _ _ _ _ _ _ _ _ _ _ _ _ _ _ _ _ _ _ _ _)
   | (with_reducible exact ih9 _ _ _ _ _ _ _ _ _ _)
   | (with_reducible exact ih10 _ _ _ _ _ _ _ _ _ _ _)
   | (with_reducible exact ih11 _ _ _ _ _ _ _ _ _ _ _ _ _ _ _ _)
   | (with_reducible exact ih12 _ _ _ _ _ _ _ _ _ _ _ _ _ _ _ _)
   | (with_reducible exact ih13 _ _ _ _ _ _ _ _ _ _ _ _ _)
   | (with_reducible exact ih14 _ _ _ _ _ _ _ _ _ _ _ _ _)
   | (with_reducible exact ih15 _ _ _ _ _)
   | (with_reducible exact ih16 _ _ _ _ _ _)
   | (with_reducible exact ih17 _ _ _ _ _ _)
   | (with_reducible exact ih18 _ _ _ _ _ _ _)
   | (with_reducible exact ih19 _ _ _ _ _ _ _ _ _ _ _ _)
   | (with_reducible exact ih20 _ _ _ _ _ _ _ _ _ _ _ _)
   | (with_reducible exact ih21 _ _ _ _ _ _ _)
   | (with_reducible exact chain_Add.mono _ _ _ _ _ _)
   | (with_reducible exact chain_At.mono _ _ _ _)
   | (with_reducible exact chain_Check.mono _ _ _)
   | (with_reducible exact chain_Count.mono _ _ _)
   | (with_reducible exact chain_New.mono _ _ _ _ _)
   | (with_reducible exact chain_Purge.mono _ _ _ _)
   | (with_reducible exact quorumlaw8_Heavy.mono _ _ _ _ _)
   | (with_reducible exact quorumlaw8_wakes.mono _)
   | (with_reducible exact quorumref0_CopyChain.mono _ _ _)
   | (with_reducible exact quorumref0_EqChain.mono _ _ _ _ _)
   | (with_reducible exact quorumref8_Add.mono _ _ _ _ _ _)
   | (with_reducible exact quorumref8_At.mono _ _ _ _)
   | (with_reducible exact quorumref8_Chain.mono _ _ _)
   | (with_reducible exact quorumref8_Purge.mono _ _ _ _)
   | (with_reducible exact LeO.refl _)
   | (with_reducible exact LeO.none _)
   | (with_reducible refine LeO.ite ?_ ?_)
   | (with_reducible refine LeO.bind ?_ (fun _ => ?_))
   | exact ih0 _ _ _ _ _ _
   | exact ih1 _ _ _ _ _ _ _
   | exact ih2 _ _ _ _ _ _ _ _ _ _ _ _ _
   | exact ih3 _ _ _ _ _ _ _ _ _ _ _
   | exact ih4 _ _ _ _ _ _ _ _ _ _ _
   | exact ih5 _ _ _ _ _ _ _ _ _ _ _ _
   | exact ih6 _ _ _ _ _ _ _ _ _ _ _ _ _ _ _ _ _ _ _ _ _ _ _ _
   | exact ih7 _ _ _ _ _ _ _ _ _ _ _ _
   | exact ih8 _ _ _ _ _ _ _ _ _ _ _ _ _ _ _ _ _ _ _ _ _ _
   | exact ih9 _ _ _ _ _ _ _ _ _ _
   | exact ih10 _ _ _ _ _ _ _ _ _ _ _
   | exact ih11 _ _ _ _ _ _ _ _ _ _ _ _ _ _ _ _
   | exact ih12 _ _ _ _ _ _ _ _ _ _ _ _ _ _ _ _
   | exact ih13 _ _ _ _ _ _ _ _ _ _ _ _ _
   | exact ih14 _ _ _ _ _ _ _ _ _ _ _ _ _
   | exact ih15 _ _ _ _ _
   | exact ih16 _ _ _ _ _ _
   | exact ih17 _ _ _ _ _ _
   | exact ih18 _ _ _ _ _ _ _
   | exact ih19 _ _ _ _ _ _ _ _ _ _ _ _
   | exact ih20 _ _ _ _ _ _ _ _ _ _ _ _
   | exact ih21 _ _ _ _ _ _ _
   | exact chain_Add.mono _ _ _ _ _ _
   | exact chain_At.mono _ _ _ _
   | exact chain_Check.mono _ _ _
   | exact chain_Count.mono _ _ _
   | exact chain_New.mono _ _ _ _ _
   | exact chain_Purge.mono _ _ _ _
   | exact quorumlaw8_Heavy.mono _ _ _ _ _
   | exact quorumlaw8_wakes.mono _
   | exact quorumref0_CopyChain.mono _ _ _
   | exact quorumref0_EqChain.mono _ _ _ _ _
   | exact quorumref8_Add.mono _ _ _ _ _ _
   | exact quorumref8_At.mono _ _ _ _
   | exact quorumref8_Chain.mono _ _ _
   | exact quorumref8_Purge.mono _ _ _ _
   | exact LeO.none _
   | refine LeO.ite ?_ ?_
   | refine LeO.bind ?_ (fun _ => ?_)
def quorumlaw8_ChainTells.T12 : Bool × List (List Nat × List Nat) := (true, [([], []), ([0], [0]), ([], []), ([1, 2], [1, 2]), ([3], [3]), ([4], [4]), ([5], [5]), ([], []), ([6, 7, 0, 1, 2, 3, 4, 5, 6, 7], [6])])
def quorumlaw8_ChainTells.B12 : List Nat := [0, 1, 0, 7, 15, 31, 63, 0, 255]
theorem quorumlaw8_ChainTells.tab12 : rtab .any (opsOf Try.f3 12) = quorumlaw8_ChainTells.T12 := by kernel_rfl
theorem quorumlaw8_ChainTells.bits12 : waitsOk quorumlaw8_ChainTells.T12.2 quorumlaw8_ChainTells.B12 = true := by kernel_rfl
def quorumlaw8_ChainTells.T18 : Bool × List (List Nat × List Nat) := (true, [([], []), ([], []), ([], []), ([1, 2], [1, 2]), ([3], [3]), ([0, 4], [0, 4]), ([5], [5]), ([6], [6]), ([6], [6]), ([], []), ([9, 7, 5, 0, 1, 2, 3, 4, 5, 6, 7, 9], [7, 9]), ([8, 10, 0, 1, 2, 3, 4, 5, 6, 7, 8, 9, 10], [8])])
def quorumlaw8_ChainTells.B18 : List Nat := [0, 0, 0, 6, 14, 31, 63, 127, 127, 0, 767, 2047]
theorem quorumlaw8_ChainTells.tab18 : rtab .any (opsOf Try.f3 18) = quorumlaw8_ChainTells.T18 := by kernel_rfl
theorem quorumlaw8_ChainTells.bits18 : waitsOk quorumlaw8_ChainTells.T18.2 quorumlaw8_ChainTells.B18 = true := by kernel_rfl
def quorumlaw8_ChainTells.T19 : Bool × List (List Nat × List Nat) := (true, [([], []), ([], []), ([], []), ([1, 2], [1, 2]), ([3], [3]), ([0, 4], [0, 4]), ([5], [5]), ([6], [6]), ([6], [6]), ([], []), ([9, 7, 5, 0, 1, 2, 3, 4, 5, 6, 7, 9], [7, 9]), ([8, 10, 0, 1, 2, 3, 4, 5, 6, 7, 8, 9, 10], [8])])
def quorumlaw8_ChainTells.B19 : List Nat := [0, 0, 0, 6, 14, 31, 63, 127, 127, 0, 767, 2047]
theorem quorumlaw8_ChainTells.tab19 : rtab .any (opsOf Try.f3 19) = quorumlaw8_ChainTells.T19 := by kernel_rfl
theorem quorumlaw8_ChainTells.bits19 : waitsOk quorumlaw8_ChainTells.T19.2 quorumlaw8_ChainTells.B19 = true := by kernel_rfl
def quorumlaw8_ChainTells.T25 : Bool × List (List Nat × List Nat) := (true, [([], []), ([0], [0]), ([], []), ([1, 2], [1, 2]), ([3], [3]), ([], []), ([], []), ([5, 6], [5, 6]), ([7], [7]), ([4, 8], [4, 8]), ([9], [9]), ([10], [10]), ([10], [10]), ([], []), ([13, 11, 9, 0, 1, 2, 3, 4, 5, 6, 7, 8, 9, 10, 11, 13], [11, 13]), ([12, 14, 0, 1, 2, 3, 4, 5, 6, 7, 8, 9, 10, 11, 12, 13, 14], [12])])
def quorumlaw8_ChainTells.B25 : List Nat := [0, 1, 0, 7, 15, 0, 0, 96, 224, 511, 1023, 2047, 2047, 0, 12287, 32767]
theorem quorumlaw8_ChainTells.tab25 : rtab .any (opsOf Try.f3 25) = quorumlaw8_ChainTells.T25 := by kernel_rfl
theorem quorumlaw8_ChainTells.bits25 : waitsOk quorumlaw8_ChainTells.T25.2 quorumlaw8_ChainTells.B25 = true := by kernel_rfl
def quorumlaw8_ChainTells.T28 : Bool × List (List Nat × List Nat) := (true, [([], []), ([0], [0]), ([], []), ([1, 2], [1, 2]), ([3], [3]), ([], []), ([], []), ([5, 6], [5, 6]), ([7], [7]), ([4, 8], [4, 8]), ([9], [9]), ([10], [10]), ([10], [10]), ([11, 9, 0, 1, 2, 3, 4, 5, 6, 7, 8, 9, 10, 11], [11])])
def quorumlaw8_ChainTells.B28 : List Nat := [0, 1, 0, 7, 15, 0, 0, 96, 224, 511, 1023, 2047, 2047, 4095]
theorem quorumlaw8_ChainTells.tab28 : rtab .any (opsOf Try.f3 28) = quorumlaw8_ChainTells.T28 := by kernel_rfl
theorem quorumlaw8_ChainTells.bits28 : waitsOk quorumlaw8_ChainTells.T28.2 quorumlaw8_ChainTells.B28 = true := by kernel_rfl
def quorumlaw8_ChainTells.T29 : Bool × List (List Nat × List Nat) := (true, [([], []), ([0], [0]), ([], []), ([1, 2], [1, 2]), ([3, 1], [3]), ([4], [4]), ([4], [4]), ([5, 6, 4], [4, 5, 6]), ([4, 7], [4, 7]), ([8, 4], [8]), ([9], [9]), ([10, 9, 9], [9, 10]), ([9], [9]), ([11, 12, 9], [9, 11, 12]), ([9, 13], [9, 13]), ([14, 11], [14]), ([15], [15]), ([15], [15]), ([16, 17, 15, 15], [15, 16, 17]), ([18, 15], [15, 18]), ([15, 19], [15, 19]), ([20, 18], [20]), ([21], [21]), ([21], [21]), ([23, 21], [21, 23]), ([21], [21]), ([24, 25, 21], [21, 24, 25]), ([26, 21], [21, 26]), ([22, 27, 21, 21], [21, 22, 27]), ([28, 21], [21, 28]), ([21, 29], [21, 29])])
def quorumlaw8_ChainTells.B29 : List Nat := [0, 1, 0, 7, 15, 31, 31, 127, 255, 511, 1023, 2047, 1023, 8191, 16383, 32767, 65535, 65535, 262143, 524287, 1048575, 2097151, 4194303, 4194303, 12582911, 4194303, 62914559, 130023423, 268435455, 536870911, 1073741823]
theorem quorumlaw8_ChainTells.tab29 : rtab .any (opsOf Try.f3 29) = quorumlaw8_ChainTells.T29 := by kernel_rfl
theorem quorumlaw8_ChainTells.bits29 : waitsOk quorumlaw8_ChainTells.T29.2 quorumlaw8_ChainTells.B29 = true := by kernel_rfl
def quorumlaw8_ChainTells.T34 : Bool × List (List Nat × List Nat) := (true, [([], []), ([], []), ([1], [1]), ([], []), ([2, 3], [2, 3]), ([4], [4]), ([0, 5], [0, 5]), ([6], [6]), ([7], [7]), ([7], [7]), ([], []), ([10, 8, 6, 0, 1, 2, 3, 4, 5, 6, 7, 8, 10], [8, 10]), ([9, 11, 0, 1, 2, 3, 4, 5, 6, 7, 8, 9, 10, 11], [9])])
def quorumlaw8_ChainTells.B34 : List Nat := [0, 0, 2, 0, 14, 30, 63, 127, 255, 255, 0, 1535, 4095]
theorem quorumlaw8_ChainTells.tab34 : rtab .any (opsOf Try.f3 34) = quorumlaw8_ChainTells.T34 := by kernel_rfl
theorem quorumlaw8_ChainTells.bits34 : waitsOk quorumlaw8_ChainTells.T34.2 quorumlaw8_ChainTells.B34 = true := by kernel_rfl
def quorumlaw8_ChainTells.T37 : Bool × List (List Nat × List Nat) := (true, [([], []), ([0], [0]), ([1], [1]), ([2, 1], [1, 2]), ([1], [1]), ([3, 4, 1], [1, 3, 4]), ([5, 1], [1, 5]), ([1], [1]), ([7, 1], [1, 7]), ([1], [1]), ([8, 9, 1], [1, 8, 9]), ([10, 1], [1, 10]), ([6, 11, 1, 1], [1, 6, 11]), ([12, 12, 1], [1, 12]), ([1, 13], [1, 13])])
def quorumlaw8_ChainTells.B37 : List Nat := [0, 1, 3, 7, 3, 31, 63, 3, 131, 3, 899, 1923, 4095, 8191, 16383]
theorem quorumlaw8_ChainTells.tab37 : rtab .any (opsOf Try.f3 37) = quorumlaw8_ChainTells.T37 := by kernel_rfl
theorem quorumlaw8_ChainTells.bits37 : waitsOk quorumlaw8_ChainTells.T37.2 quorumlaw8_ChainTells.B37 = true := by kernel_rfl
def quorumlaw8_ChainTells.T38 : Bool × List (List Nat × List Nat) := (true, [([], []), ([0], [0]), ([], []), ([1, 2], [1, 2]), ([3], [3]), ([], []), ([5], [5]), ([], []), ([6, 7], [6, 7]), ([8], [8]), ([4, 9], [4, 9]), ([10], []), ([10, 11, 0, 1, 2, 3, 4, 5, 6, 7, 8, 9, 10, 11], [10])])
def quorumlaw8_ChainTells.B38 : List Nat := [0, 1, 0, 7, 15, 0, 32, 0, 224, 480, 1023, 2047, 4095]
theorem quorumlaw8_ChainTells.tab38 : rtab .any (opsOf Try.f3 38) = quorumlaw8_ChainTells.T38 := by kernel_rfl
theorem quorumlaw8_ChainTells.bits38 : waitsOk quorumlaw8_ChainTells.T38.2 quorumlaw8_ChainTells.B38 = true := by kernel_rfl
def quorumlaw8_ChainTells.T39 : Bool × List (List Nat × List Nat) := (true, [([], []), ([0], [0]), ([], []), ([1, 2], [1, 2]), ([3, 1], [3]), ([4], [4]), ([4], [4]), ([5, 6, 4, 4], [4, 5, 6]), ([7, 4], [4, 7]), ([4, 8], [4, 8]), ([9, 7], [9]), ([10], [10]), ([10], [10]), ([12, 10], [10, 12]), ([10], [10]), ([13, 14, 10], [10, 13, 14]), ([15, 10], [10, 15]), ([11, 16, 10, 10], [10, 11, 16]), ([17, 10], [10, 17]), ([10, 18], [10, 18])])
def quorumlaw8_ChainTells.B39 : List Nat := [0, 1, 0, 7, 15, 31, 31, 127, 255, 511, 1023, 2047, 2047, 6143, 2047, 30719, 63487, 131071, 262143, 524287]
theorem quorumlaw8_ChainTells.tab39 : rtab .any (opsOf Try.f3 39) = quorumlaw8_ChainTells.T39 := by kernel_rfl
theorem quorumlaw8_ChainTells.bits39 : waitsOk quorumlaw8_ChainTells.T39.2 quorumlaw8_ChainTells.B39 = true := by kernel_rfl
def quorumlaw8_ChainTells.T45 : Bool × List (List Nat × List Nat) := (true, [([], []), ([], []), ([1], [1]), ([], []), ([2, 3], [2, 3]), ([4], [4]), ([0, 5], [0, 5]), ([6], [6])])
def quorumlaw8_ChainTells.B45 : List Nat := [0, 0, 2, 0, 14, 30, 63, 127]
theorem quorumlaw8_ChainTells.tab45 : rtab .any (opsOf Try.f3 45) = quorumlaw8_ChainTells.T45 := by kernel_rfl
theorem quorumlaw8_ChainTells.bits45 : waitsOk quorumlaw8_ChainTells.T45.2 quorumlaw8_ChainTells.B45 = true := by kernel_rfl
def quorumlaw8_ChainTells.T53 : Bool × List (List Nat × List Nat) := (true, [([], []), ([0], [0]), ([], []), ([1, 2], [1, 2]), ([3], [3]), ([], []), ([5], [5]), ([], []), ([6, 7], [6, 7]), ([8], [8]), ([4, 9], [4, 9]), ([10], [10]), ([11], [11]), ([11], [11]), ([], []), ([14, 12, 10, 0, 1, 2, 3, 4, 5, 6, 7, 8, 9, 10, 11, 12, 14], [12, 14]), ([13, 15, 0, 1, 2, 3, 4, 5, 6, 7, 8, 9, 10, 11, 12, 13, 14, 15], [13])])
def quorumlaw8_ChainTells.B53 : List Nat := [0, 1, 0, 7, 15, 0, 32, 0, 224, 480, 1023, 2047, 4095, 4095, 0, 24575, 65535]
theorem quorumlaw8_ChainTells.tab53 : rtab .any (opsOf Try.f3 53) = quorumlaw8_ChainTells.T53 := by kernel_rfl
theorem quorumlaw8_ChainTells.bits53 : waitsOk quorumlaw8_ChainTells.T53.2 quorumlaw8_ChainTells.B53 = true := by kernel_rfl
def quorumlaw8_ChainTells.T57 : Bool × List (List Nat × List Nat) := (true, [([], []), ([0], [0]), ([], []), ([1, 2], [1, 2]), ([3], [3]), ([], []), ([5], [5]), ([], []), ([6, 7], [6, 7]), ([8], [8]), ([9], [9]), ([4, 10], [4, 10]), ([], []), ([11, 12, 0, 1, 2, 3, 4, 5, 6, 7, 8, 9, 10, 11, 12], [11])])
def quorumlaw8_ChainTells.B57 : List Nat := [0, 1, 0, 7, 15, 0, 32, 0, 224, 480, 992, 2047, 0, 8191]
theorem quorumlaw8_ChainTells.tab57 : rtab .any (opsOf Try.f3 57) = quorumlaw8_ChainTells.T57 := by kernel_rfl
theorem quorumlaw8_ChainTells.bits57 : waitsOk quorumlaw8_ChainTells.T57.2 quorumlaw8_ChainTells.B57 = true := by kernel_rfl

end Go.Proofs.Ytoodkefpkgbjcaa.PCht
