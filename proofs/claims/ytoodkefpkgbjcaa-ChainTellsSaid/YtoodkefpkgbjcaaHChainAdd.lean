/- Package chain: a version more, how many there are. -/
import Derived.Test.YtoodkefpkgbjcaaHChain
import Derived.Test.YtoodkefpkgbjcaaPChtx6
import Derived.Test.YtoodkefpkgbjcaaPChtx4
set_option linter.unusedSimpArgs false
set_option linter.unusedVariables false
namespace Go.Proofs.Ytoodkefpkgbjcaa.HChain
open Go.RowKit Go.Proofs.Ytoodkefpkgbjcaa.PCht Go.Proofs.Ytoodkefpkgbjcaa.HNum Go.Proofs.YtoodkefpkgbjcaaW.PrintWords Go.Proofs.YtoodkefpkgbjcaaW.PrintLast
theorem With_eq (key : ByteArray) (l : List V) (v : V) (hl : l.length + 1 < 4398046511104) : chain_With.f key l v.f0 v.f1 v.f2 = some (key, v :: l) := by
  unfold chain_With.f
  rw [Clone_eq l (by omega)]
  simp only [Option.bind_some]
  have e : api_Version_122.f l 0 [(⟨v.f0, v.f1, v.f2⟩ : V)] = some (v :: l) := by
    unfold api_Version_122.f
    rw [if_pos ⟨rfl, by omega, by omega, hl⟩]
    rfl
  rw [e]
  rfl
open Classical in
theorem Add_ev (key : ByteArray) (l : List V) (v : V) (hl : l.length + 1 < 4398046511104) :
    Ev (fun k => chain_Add.f k key l v.f0 v.f1 v.f2) (if May key l ∧ May key (v :: l) then (key, v :: l, 0) else (⟨#[]⟩, [], 1)) := by
  unfold chain_Add.f
  rw [With_eq key l v hl]
  refine Ev.bind0 rfl (Ev.bind (May_ev key l (by omega)) ?_)
  by_cases h : May key l
  · refine Ev.if_pos (by simpa using h) (Ev.bind (May_ev key (v :: l) (by simp; omega)) ?_)
    by_cases h2 : May key (v :: l)
    · rw [if_pos (show May key l ∧ May key (v :: l) from ⟨h, h2⟩)]
      exact Ev.if_pos (by simpa using h2) (Ev.now _)
    · rw [if_neg (show ¬ (May key l ∧ May key (v :: l)) from fun h3 => h2 h3.2)]
      exact Ev.if_neg (by simpa using h2) (Ev.now _)
  · rw [if_neg (show ¬ (May key l ∧ May key (v :: l)) from fun h3 => h h3.1)]
    exact Ev.if_neg (by simpa using h) (Ev.now _)
open Classical in
theorem Count_ev (key : ByteArray) (l : List V) (hl : l.length ≤ 4611686018427387904) : Ev (fun k => chain_Count.f k key l) (if May key l then ((l.length : Int), 0) else (0, 1)) := by
  unfold chain_Count.f
  refine Ev.bind (May_ev key l hl) ?_
  by_cases h : May key l
  · rw [if_pos h]
    exact Ev.if_pos (by simpa using h) (Ev.now _)
  · rw [if_neg h]
    exact Ev.if_neg (by simpa using h) (Ev.now _)
theorem place_cons (v : V) (l : List V) (n : Int) : place (v :: l) n = if v.f0 ≤ n then 0 else place l n + 1 := by
  unfold place
  rw [List.findIdx_cons]
  by_cases h : v.f0 ≤ n
  · rw [if_pos h]; simp [h]
  · rw [if_neg h]; simp [h]
theorem look_cons (v : V) (l : List V) (n : Int) : look (v :: l) n = if v.f0 ≤ n then (if v.f2 = true then none else some v) else look l n := by
  by_cases h : v.f0 ≤ n
  · have e : place (v :: l) n = 0 := by rw [place_cons, if_pos h]
    unfold look
    simp [e, h]
  · have e : place (v :: l) n = place l n + 1 := by rw [place_cons, if_neg h]
    unfold look
    simp [e, h]
theorem left_cons (v : V) (l : List V) (n : Int) : left (v :: l) n = if v.f0 ≤ n then (if v.f2 = true then [] else [v]) else v :: left l n := by
  by_cases h : v.f0 ≤ n
  · have e : place (v :: l) n = 0 := by rw [place_cons, if_pos h]
    unfold left
    simp [e, h]
  · have e : place (v :: l) n = place l n + 1 := by rw [place_cons, if_neg h]
    unfold left
    simp only [e, h, if_false, List.length_cons, Nat.add_lt_add_iff_right, List.getElem_cons_succ, List.take_succ_cons]
    split
    · split <;> rfl
    · rfl
end Go.Proofs.Ytoodkefpkgbjcaa.HChain
