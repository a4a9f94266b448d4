/- ChainPurged: the pure statement's proof: purged of what nobody at a commit or later needs, each commit from it on sees the same, and purged twice is as once, for every input within the reach. -/
import Derived.Test.YtafiikiofalpnaaOpChainPurged
import Derived.Test.YtafiikiofalpnaaHChain
import Derived.Test.YtafiikiofalpnaaHChainHeavy
set_option linter.unusedSimpArgs false
set_option linter.unusedVariables false
namespace Go.Proofs.Ytafiikiofalpnaa.Pure
open Go.RowKit Go.Proofs.Ytafiikiofalpnaa.PChain Go.Proofs.Ytafiikiofalpnaa.OpChainPurged Go.Proofs.Ytafiikiofalpnaa.HNum Go.Proofs.Ytafiikiofalpnaa.HChain Go.Proofs.YtafiikiofalpnaaW.PrintWords Go.Proofs.YtafiikiofalpnaaW.PrintLast
section
variable (c : List Ch) (v : List V) (ns : List Int) (s : List ByteArray)
open Classical in
theorem inner (j : Nat) (hj : j < c.length) (hb : (c[j]).f1.length < 4398046511104) (hm : May (c[j]).f0 (c[j]).f1) (n : Nat) (hn : n ≤ 12)
    (h : Ev (fun k => quorumlaw8_ChainPurged.l1 k (j : Int) ((n + 1 : Nat) : Int) c v ns s) true) (x : ByteArray) (y : List V)
    (hx : ((left (c[j]).f1 n).length = 0 ∧ x = ⟨#[]⟩ ∧ y = []) ∨ (0 < (left (c[j]).f1 n).length ∧ x = (c[j]).f0 ∧ y = left (c[j]).f1 n)) (d : Nat) :
    ∀ m : Nat, n ≤ m → m + d = 14 → Ev (fun k => quorumlaw8_ChainPurged.l2 k (j : Int) (n : Int) (decide ((y.length : Int) > 0)) (m : Int) c v ns s x y) true := by
  induction d with
  | zero =>
    intro m hnm hm14
    refine Ev.step (fun k => by simp only [quorumlaw8_ChainPurged.l2]; rfl) (Ev.if_neg (by omega) ?_)
    rw [wrap_succ n (by omega)]
    rcases hx with ⟨h0, rfl, rfl⟩ | ⟨h0, rfl, rfl⟩
    · exact Ev.if_neg (by simp) h
    · obtain ⟨i, hi⟩ := left_take (c[j]).f1 n
      have hmay : May (c[j]).f0 (left (c[j]).f1 n) := by rw [hi]; exact May_take hm i (by rw [← hi]; exact h0)
      have hlen : (left (c[j]).f1 n).length < 4398046511104 := by rw [hi, List.length_take]; omega
      have hP := Purge_ev (c[j]).f0 (left (c[j]).f1 n) n hlen
      rw [if_pos hmay, left_left, if_neg (by omega)] at hP
      refine Ev.if_pos (by simpa using h0) (Ev.bind hP (Ev.bind0 (num_eq _) (Ev.if_pos rfl (Ev.bind (EqChain_same _ _ (by omega)) ?_))))
      exact Ev.if_pos rfl h
  | succ d ih =>
    intro m hnm hm14
    have hnext := ih (m + 1) (by omega) (by omega)
    refine Ev.step (fun k => by simp only [quorumlaw8_ChainPurged.l2]; rfl) (Ev.if_pos (by omega) (Ev.if_pos (by omega) (Ev.if_pos (by omega) ?_)))
    rw [rdc_at c j hj, wrap_succ m (by omega)]
    have hA := At_ev (c[j]).f0 (c[j]).f1 (m : Int) (by omega)
    rw [if_pos hm] at hA
    refine Ev.bind hA ?_
    have hlook := look_left (c[j]).f1 (n := (n : Int)) (m := (m : Int)) (by omega)
    rcases hx with ⟨h0, rfl, rfl⟩ | ⟨h0, rfl, rfl⟩
    · rw [List.eq_nil_of_length_eq_zero h0] at hlook
      have hl2 : HChain.look (c[j]).f1 (m : Int) = none := by rw [← hlook]; rfl
      rw [hl2]
      exact Ev.if_neg (by simp) (Ev.bind0 (num_eq _) (Ev.if_pos rfl hnext))
    · obtain ⟨i, hi⟩ := left_take (c[j]).f1 n
      have hmay : May (c[j]).f0 (left (c[j]).f1 n) := by rw [hi]; exact May_take hm i (by rw [← hi]; exact h0)
      have hlen : (left (c[j]).f1 n).length < 4398046511104 := by rw [hi, List.length_take]; omega
      have hB := At_ev (c[j]).f0 (left (c[j]).f1 n) (m : Int) (by omega)
      rw [if_pos hmay, hlook] at hB
      refine Ev.if_pos (by simpa using h0) (Ev.bind hB (Ev.bind0 (num_eq _) (Ev.bind0 (num_eq _) (Ev.if_pos rfl (Ev.if_neg ?_ hnext)))))
      simp
open Classical in
theorem middle (hc : c.length ≤ 4611686018427387904) (j : Nat) (hj : j < c.length) (hb : (c[j]).f1.length < 4398046511104) (hm : May (c[j]).f0 (c[j]).f1)
    (h : Ev (fun k => quorumlaw8_ChainPurged.l0 k ((j + 1 : Nat) : Int) c v ns s) true) (d : Nat) : ∀ n : Nat, n + d = 12 → Ev (fun k => quorumlaw8_ChainPurged.l1 k (j : Int) (n : Int) c v ns s) true := by
  induction d with
  | zero =>
    intro n hn
    refine Ev.step (fun k => by simp only [quorumlaw8_ChainPurged.l1]; rfl) (Ev.if_neg (by omega) ?_)
    rw [wrap_succ j (by omega)]
    exact h
  | succ d ih =>
    intro n hn
    refine Ev.step (fun k => by simp only [quorumlaw8_ChainPurged.l1]; rfl) (Ev.if_pos (by omega) (Ev.if_pos (by omega) (Ev.if_pos (by omega) ?_)))
    rw [rdc_at c j hj]
    have hP := Purge_ev (c[j]).f0 (c[j]).f1 n hb
    rw [if_pos hm] at hP
    by_cases h0 : (left (c[j]).f1 n).length = 0
    · rw [if_pos h0] at hP
      refine Ev.bind hP (Ev.bind0 (num_eq _) (Ev.if_pos rfl ?_))
      exact inner c v ns s j hj hb hm n (by omega) (ih (n + 1) (by omega)) _ _ (.inl ⟨h0, rfl, rfl⟩) (14 - n) n (by omega) (by omega)
    · rw [if_neg h0] at hP
      refine Ev.bind hP (Ev.bind0 (num_eq _) (Ev.if_pos rfl ?_))
      exact inner c v ns s j hj hb hm n (by omega) (ih (n + 1) (by omega)) _ _ (.inr ⟨by omega, rfl, rfl⟩) (14 - n) n (by omega) (by omega)
open Classical in
theorem outer (hc : c.length ≤ 4611686018427387904) (hv : ∀ x ∈ c, x.f1.length < 4398046511104) (d : Nat) : ∀ j : Nat, j + d = c.length → Ev (fun k => quorumlaw8_ChainPurged.l0 k (j : Int) c v ns s) true := by
  have hend : ∀ j : Nat, Ev (fun k => quorumlaw8_ChainPurged.j1 k (j : Int) false c v ns s) true := fun j => by
    refine Ev.step (fun k => by simp only [quorumlaw8_ChainPurged.j1]; rfl) (Ev.if_neg (by simp) ?_)
    exact Ev.bind wakes_true (Ev.now true)
  induction d with
  | zero =>
    intro j hj
    exact Ev.step (fun k => by simp only [quorumlaw8_ChainPurged.l0]; rfl) (Ev.if_neg (by omega) (hend j))
  | succ d ih =>
    intro j hj
    have hlt : j < c.length := by omega
    refine Ev.step (fun k => by simp only [quorumlaw8_ChainPurged.l0]; rfl) (Ev.if_pos (by omega) ?_)
    by_cases h6 : (j : Int) < 6
    · have hnext := ih (j + 1) (by omega)
      rw [decide_eq_true h6]
      refine Ev.step (fun k => by simp only [quorumlaw8_ChainPurged.j1]; rfl) (Ev.if_pos (by simp) (Ev.if_pos (by omega) (Ev.if_pos (by omega) ?_)))
      have hb := hv c[j] (List.getElem_mem hlt)
      rw [rdc_at c j hlt, wrap_succ j (by omega)]
      refine Ev.bind (ref_ev (c[j]).f0 (c[j]).f1 (by omega)) ?_
      by_cases hm : May (c[j]).f0 (c[j]).f1
      · exact Ev.if_pos (by simpa using hm) (middle c v ns s hc j hlt hb hm hnext 12 0 (by omega))
      · exact Ev.if_neg (by simpa using hm) hnext
    · rw [decide_eq_false h6]
      exact hend j
end
theorem ChainPurged : OpChainPurged.Pure := by
  intro c v ns s hc hv hn hs
  have hlen : ∀ x ∈ c, x.f1.length < 4398046511104 := fun x hx => by
    have h1 := (hc.2.2 x hx).2.2.1
    omega
  obtain ⟨b, hb⟩ := HChainHeavy.heavy_ends c v ns s (by have := hc.2.1; omega) (fun x hx => by have := hlen x hx; omega) (by have := hs.2.1; omega)
  refine Ev.rounds ?_
  unfold quorumlaw8_ChainPurged.f
  refine Ev.bind hb ?_
  refine Ev.iff (fun _ => Ev.now true) (fun _ => ?_)
  exact outer c v ns s (by have := hc.2.1; omega) hlen c.length 0 (by omega)
end Go.Proofs.Ytafiikiofalpnaa.Pure
