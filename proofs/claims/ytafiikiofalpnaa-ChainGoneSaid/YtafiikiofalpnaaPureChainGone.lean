/- ChainGone: the pure statement's proof: with a last version that is gone there is nothing then, and purged then nothing is left; ahead of it all is as it was. -/
import Derived.Test.YtafiikiofalpnaaOpChainGone
import Derived.Test.YtafiikiofalpnaaHChainAdd
import Derived.Test.YtafiikiofalpnaaHChainHeavy
set_option linter.unusedSimpArgs false
set_option linter.unusedVariables false
namespace Go.Proofs.Ytafiikiofalpnaa.Pure
open Go.RowKit Go.Proofs.Ytafiikiofalpnaa.PChain Go.Proofs.Ytafiikiofalpnaa.OpChainGone Go.Proofs.Ytafiikiofalpnaa.HNum Go.Proofs.Ytafiikiofalpnaa.HChain Go.Proofs.YtafiikiofalpnaaW.PrintWords Go.Proofs.YtafiikiofalpnaaW.PrintLast
section
variable (c : List Ch) (v : List V) (ns : List Int) (s : List ByteArray)
open Classical in
theorem gone_one (key : ByteArray) (l : List V) (hl : l.length + 1 < 4398046511104) (j : Nat) (hj : j < 4611686018427387904) (h : Ev (fun k => quorumlaw8_ChainGone.l0 k ((j + 1 : Nat) : Int) c v ns s) true) (hj2 : j < c.length) (hk : (c[j]).f0 = key) (hc : (c[j]).f1 = l) :
    Ev (fun k => quorumlaw8_ChainGone.j1 k (j : Int) true c v ns s) true := by
  refine Ev.step (fun k => by simp only [quorumlaw8_ChainGone.j1]; rfl) (Ev.if_pos (by simp) (Ev.if_pos (by omega) (Ev.if_pos (by omega) ?_)))
  rw [rdc_at c j hj2, wrap_succ j (by omega), hk, hc]
  refine Ev.bind (Add_ev key l ⟨900, ⟨#[]⟩, true⟩ hl) ?_
  by_cases hm : May key l ∧ May key ((⟨900, ⟨#[]⟩, true⟩ : V) :: l)
  · rw [if_pos hm]
    have hA := At_ev key ((⟨900, ⟨#[]⟩, true⟩ : V) :: l) 900 (by simp; omega)
    have hP := Purge_ev key ((⟨900, ⟨#[]⟩, true⟩ : V) :: l) 900 (by simp; omega)
    have hC := Count_ev key ((⟨900, ⟨#[]⟩, true⟩ : V) :: l) (by simp; omega)
    have hD := Count_ev key l (by omega)
    have hE := At_ev key ((⟨900, ⟨#[]⟩, true⟩ : V) :: l) 899 (by simp; omega)
    have hF := At_ev key l 899 (by omega)
    rw [if_pos hm.2, look_cons, if_pos (show (900 : Int) ≤ 900 by decide), if_pos rfl] at hA
    have eP : left ((⟨900, ⟨#[]⟩, true⟩ : V) :: l) 900 = [] := by rw [left_cons, if_pos (show (900 : Int) ≤ 900 by decide), if_pos rfl]
    rw [if_pos hm.2, eP, if_pos (show ([] : List V).length = 0 from rfl)] at hP
    rw [if_pos hm.2] at hC
    rw [if_pos hm.1] at hD
    rw [if_pos hm.2, look_cons, if_neg (show ¬ (900 : Int) ≤ 899 by decide)] at hE
    rw [if_pos hm.1] at hF
    refine Ev.bind0 (num_eq _) (Ev.if_pos rfl (Ev.bind hA (Ev.bind hP (Ev.bind hC (Ev.bind hD (Ev.bind hE (Ev.bind hF ?_)))))))
    refine Ev.bind0 (num_eq _) (Ev.if_pos rfl (Ev.bind0 (num_eq _) (Ev.if_pos rfl (Ev.bind (EqChain_same _ [] (by simp)) (Ev.if_pos rfl (Ev.bind0 (num_eq _) (Ev.if_pos rfl (Ev.bind0 (num_eq _) (Ev.if_pos rfl (Ev.if_pos ?_ (Ev.bind0 (num_eq _) (Ev.bind0 (num_eq _) (Ev.if_pos rfl (Ev.if_neg ?_ h))))))))))))))
    · show (((⟨900, ⟨#[]⟩, true⟩ : V) :: l).length : Int) = wrap64 ((l.length : Int) + 1)
      rw [wrap_succ l.length (by omega)]
      simp
    · simp
  · rw [if_neg hm]
    exact Ev.bind0 (num_eq _) (Ev.if_neg (by simp) h)
theorem gone_end (j : Int) : Ev (fun k => quorumlaw8_ChainGone.j1 k j false c v ns s) true :=
  Ev.step (fun k => by simp only [quorumlaw8_ChainGone.j1]; rfl) (Ev.if_neg (by simp) (Ev.bind wakes_true (Ev.now true)))
theorem gone_all (hc : c.length ≤ 4611686018427387904) (hb : ∀ x ∈ c, x.f1.length + 1 < 4398046511104) (d : Nat) : ∀ j : Nat, j + d = c.length → Ev (fun k => quorumlaw8_ChainGone.l0 k (j : Int) c v ns s) true := by
  induction d with
  | zero =>
    intro j hj
    exact Ev.step (fun k => by simp only [quorumlaw8_ChainGone.l0]; rfl) (Ev.if_neg (by omega) (gone_end c v ns s j))
  | succ d ih =>
    intro j hj
    have hlt : j < c.length := by omega
    refine Ev.step (fun k => by simp only [quorumlaw8_ChainGone.l0]; rfl) (Ev.if_pos (by omega) ?_)
    by_cases h6 : (j : Int) < 6
    · rw [decide_eq_true h6]
      exact gone_one c v ns s (c[j]).f0 (c[j]).f1 (hb _ (List.getElem_mem hlt)) j (by omega) (ih (j + 1) (by omega)) hlt rfl rfl
    · rw [decide_eq_false h6]
      exact gone_end c v ns s j
end
theorem ChainGone : OpChainGone.Pure := by
  intro c v ns s hc hv hn hs
  have hlen : ∀ x ∈ c, x.f1.length + 1 < 4398046511104 := fun x hx => by
    have h1 := (hc.2.2 x hx).2.2.1
    omega
  obtain ⟨b, hb⟩ := HChainHeavy.heavy_ends c v ns s (by have := hc.2.1; omega) (fun x hx => by have := hlen x hx; omega) (by have := hs.2.1; omega)
  refine Ev.rounds ?_
  unfold quorumlaw8_ChainGone.f
  refine Ev.bind hb ?_
  refine Ev.iff (fun _ => Ev.now true) (fun _ => ?_)
  exact gone_all c v ns s (by have := hc.2.1; omega) hlen c.length 0 (by omega)
end Go.Proofs.Ytafiikiofalpnaa.Pure
