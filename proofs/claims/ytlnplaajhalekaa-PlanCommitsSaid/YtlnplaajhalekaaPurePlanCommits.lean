/- PlanCommits: the pure statement's proof: a commit's locks: of each key that was written one, each of them to certify. -/
import Derived.Test.YtlnplaajhalekaaOpPlanCommits
import Derived.Test.YtlnplaajhalekaaHPendMay
import Derived.Test.YtlnplaajhalekaaHSort
set_option linter.unusedSimpArgs false
set_option linter.unusedVariables false
namespace Go.Proofs.Ytlnplaajhalekaa.Pure
open Go.RowKit Go.Proofs.Ytlnplaajhalekaa.PPlan Go.Proofs.Ytlnplaajhalekaa.OpPlanCommits Go.Proofs.Ytlnplaajhalekaa.HNum Go.Proofs.Ytlnplaajhalekaa.HPendMay Go.Proofs.YtlnplaajhalekaaW.PrintWords Go.Proofs.YtlnplaajhalekaaW.PrintLast
abbrev Lk := S42
abbrev Pd := S31
abbrev Opx := S39
theorem rdl_at (l : List Lk) (j : Nat) (h : j < l.length) : rd_T42 l (j : Int) = l[j] := by simp [rd_T42, h]
theorem rdp_at (l : List Pd) (j : Nat) (h : j < l.length) : rd_T31 l (j : Int) = l[j] := by simp [rd_T31, h]
def lockOf (x : Wr) : Lk := ⟨1, x.f0, ⟨x.f1, x.f1 ++ ⟨#[0]⟩, false⟩, 3⟩
theorem certify_from (t : List Wr) (ht : ∀ x ∈ t, x.f1.size ≤ 12) (hl : t.length ≤ 12) (d : Nat) : ∀ (j : Nat) (acc : List Lk), j + d = t.length → acc.length ≤ j → Ev (fun k => plan_certify.l0 k 1 acc t (t.length : Int) (j : Int)) (acc ++ (t.drop j).map lockOf) := by
  induction d with
  | zero =>
    intro j acc hj ha
    rw [List.drop_eq_nil_of_le (by omega), List.map_nil, List.append_nil]
    exact Ev.step (fun k => by simp only [plan_certify.l0]; rfl) (Ev.if_neg (by omega) (Ev.now acc))
  | succ d ih =>
    intro j acc hj ha
    have hlt : j < t.length := by omega
    have h12 := ht t[j] (List.getElem_mem hlt)
    have hal : key_Alone.f (t[j]).f1 = some ((t[j]).f1, (t[j]).f1 ++ (⟨#[0]⟩ : ByteArray), false) := by unfold key_Alone.f; rw [if_pos (by omega)]
    refine Ev.step (fun k => by simp only [plan_certify.l0]; rfl) (Ev.if_pos (by omega) (Ev.if_pos (by omega) (Ev.if_pos (by omega) ?_)))
    rw [rdw_at t j hlt, wrap_succ j (by omega), hal]
    refine Ev.bind0 rfl (Ev.if_pos (by omega) ?_)
    have h := ih (j + 1) (acc ++ [lockOf t[j]]) (by omega) (by simp; omega)
    rw [List.drop_eq_getElem_cons hlt, List.map_cons]
    rwa [List.append_assoc] at h
theorem valid_size {w : Wr} (h : wOK w = true) : w.f1.size ≤ 12 ∧ HAll.okT w := by
  unfold wOK keyOK at h
  simp only [Bool.and_eq_true, decide_eq_true_eq] at h
  exact ⟨h.2.2.1.2, h.1, h.2.1⟩
theorem locks_ev (L : List Wr) (M : List Int) (hm : May L M) : Ev (fun k => plan_Locks.f k 11 0 (⟨#[]⟩ : ByteArray) (⟨#[]⟩ : ByteArray) (⟨#[]⟩ : ByteArray) (⟨#[]⟩ : ByteArray) false 0 false L M 1) ((HAll.allOf L).map lockOf, 0) := by
  have hok : ∀ x ∈ L, HAll.okT x := fun x hx => (valid_size (hm.each x hx)).2
  have h2 : Ev (fun k => lock_Is.f k 1 0 (⟨#[]⟩ : ByteArray) (⟨#[]⟩ : ByteArray) false 1) true := by
    refine Ev.of (fun k => lock_Is.mono _ _ _ _ _ _ k) (k := 9) ?_
    decide +kernel
  have hall : pend_All.f L M = some (HAll.allOf L) := by unfold pend_All.f; rw [if_pos hm.few]
  have hlen := HAll.all_len L
  have hfew := hm.few
  have h3 : Ev (fun k => plan_certify.f k L M 1) ((HAll.allOf L).map lockOf) := by
    unfold plan_certify.f
    rw [hall]
    refine Ev.bind0 rfl ?_
    have h := certify_from (HAll.allOf L) (fun x hx => (valid_size (hm.each x (HAll.all_mem L hok x hx))).1) (by omega) (HAll.allOf L).length 0 [] (by omega) (Nat.le_refl _)
    simpa using h
  unfold plan_Locks.f
  refine Ev.bind0 (a := true) (by unfold plan_Is.f; exact if_pos ⟨⟨rfl, rfl, rfl, rfl, rfl, rfl, rfl, rfl, rfl⟩, rfl⟩) (Ev.if_pos rfl (Ev.bind (May_ev L M) (Ev.if_pos (by simpa using hm) (Ev.bind h2 (Ev.if_pos rfl (Ev.bind (a := (HAll.allOf L).map lockOf) ?_ (Ev.now _)))))))
  unfold plan_Needs.f
  exact Ev.if_pos ⟨rfl, rfl, rfl, rfl, rfl, rfl, rfl, rfl, rfl⟩ h3
theorem wakes12_true : quorumlaw12_wakes.f = some true := rfl
theorem ex_step {α : Type} {F G : Nat → Option α} (h : ∀ k, F (k + 1) = G k) (hx : ∃ r, Ev G r) : ∃ r, Ev F r := let ⟨r, hr⟩ := hx; ⟨r, Ev.step h hr⟩
theorem ex_pos {α : Type} {c : Prop} [Decidable c] {f g : Nat → Option α} (h : c) (hx : ∃ r, Ev f r) : ∃ r, Ev (fun n => if c then f n else g n) r := let ⟨r, hr⟩ := hx; ⟨r, Ev.if_pos h hr⟩
theorem ex_neg {α : Type} {c : Prop} [Decidable c] {f g : Nat → Option α} (h : ¬ c) (hx : ∃ r, Ev g r) : ∃ r, Ev (fun n => if c then f n else g n) r := let ⟨r, hr⟩ := hx; ⟨r, Ev.if_neg h hr⟩
theorem ex_iff {α : Type} {c : Prop} [Decidable c] {f g : Nat → Option α} (h1 : c → ∃ r, Ev f r) (h2 : ¬ c → ∃ r, Ev g r) : ∃ r, Ev (fun n => if c then f n else g n) r := by
  by_cases h : c
  · exact ex_pos h (h1 h)
  · exact ex_neg h (h2 h)
theorem ex_bind {α β : Type} {o : Nat → Option α} {f : Nat → α → Option β} (hx : ∃ a, Ev o a) (h : ∀ a, ∃ r, Ev (fun n => f n a) r) : ∃ r, Ev (fun n => (o n).bind (f n)) r := let ⟨a, ha⟩ := hx; let ⟨r, hr⟩ := h a; ⟨r, Ev.bind ha hr⟩
theorem ops_from (l : List Opx) (hl : l.length ≤ 4611686018427387904) (d : Nat) : ∀ (j : Nat) (n : Int), j + d = l.length → ∃ r, Ev (fun k => quorumlaw0_OpsWeight.l0 k l n (j : Int)) r := by
  induction d with
  | zero =>
    intro j n hj
    exact ex_step (fun k => by simp only [quorumlaw0_OpsWeight.l0]; rfl) (ex_neg (by omega) ⟨_, Ev.now _⟩)
  | succ d ih =>
    intro j n hj
    refine ex_step (fun k => by simp only [quorumlaw0_OpsWeight.l0]; rfl) (ex_pos (by omega) (ex_iff (fun _ => ex_pos (by omega) ?_) (fun _ => ⟨_, Ev.now _⟩)))
    rw [wrap_succ j (by omega)]
    exact ih (j + 1) _ (by omega)
theorem heavy_from (O : List Opx) (P : List Pd) (N : List Int) (hP : P.length ≤ 4611686018427387904) (hL : ∀ x ∈ P, x.f0.length ≤ 4611686018427387904) (d : Nat) : ∀ (j : Nat) (n : Int), j + d = P.length → ∃ r, Ev (fun k => quorumlaw12_Heavy.l0 k n (j : Int) O P N) r := by
  induction d with
  | zero =>
    intro j n hj
    exact ex_step (fun k => by simp only [quorumlaw12_Heavy.l0]; rfl) (ex_neg (by omega) ⟨_, Ev.now _⟩)
  | succ d ih =>
    intro j n hj
    have hlt : j < P.length := by omega
    refine ex_step (fun k => by simp only [quorumlaw12_Heavy.l0]; rfl) (ex_pos (by omega) (ex_iff (fun _ => ex_pos (by omega) ?_) (fun _ => ⟨_, Ev.now _⟩)))
    rw [wrap_succ j (by omega), rdp_at P j hlt]
    exact ex_bind (weight_ends _ (hL _ (List.getElem_mem hlt))) (fun a => ih (j + 1) _ (by omega))
theorem heavy12_ends (O : List Opx) (P : List Pd) (N : List Int) (hO : O.length ≤ 4611686018427387904) (hP : P.length ≤ 4611686018427387904) (hL : ∀ x ∈ P, x.f0.length ≤ 4611686018427387904) : ∃ b, Ev (fun k => quorumlaw12_Heavy.f k O P N) b := by
  unfold quorumlaw12_Heavy.f
  exact ex_bind (ops_from O hO O.length 0 _ (by omega)) (fun a => heavy_from O P N hP hL P.length 0 _ (by omega))
def matchL (w : Wr) (x : Lk) : Bool := decide (x.f1 = w.f0) && (x.f2.f0.toList == w.f1.toList && (x.f2.f1.toList == (w.f1 ++ (⟨#[0]⟩ : ByteArray)).toList && (x.f2.f2 == false)))
theorem match_same (x w : Wr) : matchL w (lockOf x) = true ↔ HAll.sameK x w := by
  unfold matchL lockOf HAll.sameK
  simp only [Bool.and_eq_true, decide_eq_true_eq, beq_iff_eq, ByteArray.toList_eq]
  constructor
  · exact fun h => ⟨h.1, h.2.1⟩
  · rintro ⟨h1, h2⟩
    have e : x.f1 = w.f1 := ByteArray.ext (Array.toList_inj.1 h2)
    rw [e]
    simp [h1]
section
variable (O : List Opx) (P : List Pd) (N : List Int)
theorem plan_l1 (j : Int) (X : List Lk) (hl : X.length ≤ 12) (hX : ∀ x ∈ X, x.f3 = 3 ∧ x.f0 = 1) (h : Ev (fun k => quorumlaw12_PlanCommits.l2 k j X 0 O P N) true) (d : Nat) : ∀ i : Nat, i + d = X.length → Ev (fun k => quorumlaw12_PlanCommits.l1 k j X (i : Int) O P N) true := by
  induction d with
  | zero =>
    intro i hi
    exact Ev.step (fun k => by simp only [quorumlaw12_PlanCommits.l1]; rfl) (Ev.if_neg (by omega) h)
  | succ d ih =>
    intro i hi
    have hlt : i < X.length := by omega
    have hx := hX X[i] (List.getElem_mem hlt)
    refine Ev.step (fun k => by simp only [quorumlaw12_PlanCommits.l1]; rfl) (Ev.if_pos (by omega) (Ev.if_pos (by omega) ?_))
    rw [rdl_at X i hlt, wrap_succ i (by omega)]
    exact Ev.if_pos hx.1 (Ev.if_pos hx.2 (ih (i + 1) (by omega)))
theorem plan_l3 (j : Nat) (hj : j < P.length) (X : List Lk) (hl : X.length ≤ 12) (i : Nat) (hi : i < (P[j]).f0.length) (hs : ((P[j]).f0[i]).f1.size ≤ 12) (hi2 : i ≤ 12)
    (h : Ev (fun k => quorumlaw12_PlanCommits.l2 k (j : Int) X ((i + 1 : Nat) : Int) O P N) true) (d : Nat) : ∀ q c : Nat, q + d = X.length → c ≤ q → c + (X.drop q).countP (matchL (P[j]).f0[i]) = 1 →
    Ev (fun k => quorumlaw12_PlanCommits.l3 k (j : Int) X (i : Int) (c : Int) (q : Int) O P N) true := by
  induction d with
  | zero =>
    intro q c hq hc hn
    rw [List.drop_eq_nil_of_le (by omega), List.countP_nil] at hn
    refine Ev.step (fun k => by simp only [quorumlaw12_PlanCommits.l3]; rfl) (Ev.if_neg (by omega) (Ev.if_pos (by omega) ?_))
    rw [wrap_succ i (by omega)]
    exact h
  | succ d ih =>
    intro q c hq hc hn
    have hlt : q < X.length := by omega
    have hone : quorumref1_One.f ((P[j]).f0[i]).f1 = some (((P[j]).f0[i]).f1, ((P[j]).f0[i]).f1 ++ (⟨#[0]⟩ : ByteArray), false) := by unfold quorumref1_One.f; rw [if_pos (by omega)]
    rw [List.drop_eq_getElem_cons hlt, List.countP_cons] at hn
    refine Ev.step (fun k => by simp only [quorumlaw12_PlanCommits.l3]; rfl) (Ev.if_pos (by omega) ?_)
    rw [rdp_at P j hj, rdw_at _ i hi, rdl_at X q hlt, wrap_succ q (by omega), wrap_succ c (by omega), hone]
    refine Ev.if_pos (by omega) (Ev.if_pos (by omega) (Ev.if_pos (by omega) (Ev.if_pos (by omega) (Ev.if_pos (by omega) ?_))))
    by_cases hm : matchL (P[j]).f0[i] X[q] = true
    · rw [if_pos hm] at hn
      have hm2 := hm
      unfold matchL at hm2
      rw [Bool.and_eq_true, decide_eq_true_eq] at hm2
      exact Ev.if_pos hm2.1 (Ev.bind0 rfl (Ev.if_pos (by simpa [Bool.and_assoc] using hm2.2) (ih (q + 1) (c + 1) (by omega) (by omega) (by omega))))
    · rw [if_neg hm] at hn
      have hskip := ih (q + 1) c (by omega) (by omega) (by omega)
      refine Ev.iff (fun h1 => Ev.bind0 rfl (Ev.if_neg (fun h2 => hm ?_) hskip)) (fun _ => hskip)
      unfold matchL
      rw [Bool.and_eq_true, decide_eq_true_eq]
      exact ⟨h1, by simpa [Bool.and_assoc] using h2⟩
theorem plan_l2 (j : Nat) (hj : j < P.length) (hj2 : j < 9) (hm : May (P[j]).f0 (P[j]).f1) (h : Ev (fun k => quorumlaw12_PlanCommits.l0 k ((j + 1 : Nat) : Int) O P N) true) (d : Nat) :
    ∀ i : Nat, i + d = (P[j]).f0.length → Ev (fun k => quorumlaw12_PlanCommits.l2 k (j : Int) ((HAll.allOf (P[j]).f0).map lockOf) (i : Int) O P N) true := by
  have hok : ∀ x ∈ (P[j]).f0, HAll.okT x := fun x hx => (valid_size (hm.each x hx)).2
  have hlen := HAll.all_len (P[j]).f0
  have hfew := hm.few
  induction d with
  | zero =>
    intro i hi
    refine Ev.step (fun k => by simp only [quorumlaw12_PlanCommits.l2]; rfl) (Ev.if_pos (by omega) (Ev.if_pos (by omega) ?_))
    rw [rdp_at P j hj, wrap_succ j (by omega)]
    exact Ev.if_neg (by omega) (Ev.if_neg (by rw [List.length_map]; omega) h)
  | succ d ih =>
    intro i hi
    have hlt : i < (P[j]).f0.length := by omega
    refine Ev.step (fun k => by simp only [quorumlaw12_PlanCommits.l2]; rfl) (Ev.if_pos (by omega) (Ev.if_pos (by omega) ?_))
    rw [rdp_at P j hj]
    refine Ev.if_pos (by omega) ?_
    refine plan_l3 O P N j hj _ (by rw [List.length_map]; omega) i hlt (valid_size (hm.each _ (List.getElem_mem hlt))).1 (by omega) (ih (i + 1) (by omega)) _ 0 0 (by rw [Nat.zero_add]) (Nat.le_refl _) ?_
    rw [List.drop_zero, Nat.zero_add, List.countP_map]
    exact HAll.all_one (P[j]).f0 hok _ (List.getElem_mem hlt) _ (fun x hx => match_same x _)
open Classical in
theorem plan_one (j : Nat) (hj : j < P.length) (hj2 : j < 8) (h : Ev (fun k => quorumlaw12_PlanCommits.l0 k ((j + 1 : Nat) : Int) O P N) true) : Ev (fun k => quorumlaw12_PlanCommits.j1 k (j : Int) true O P N) true := by
  refine Ev.step (fun k => by simp only [quorumlaw12_PlanCommits.j1]; rfl) (Ev.if_pos (by simp) (Ev.if_pos (by omega) (Ev.if_pos (by omega) ?_)))
  rw [rdp_at P j hj, wrap_succ j (by omega)]
  refine Ev.bind (ref_ev (P[j]).f0 (P[j]).f1) ?_
  by_cases hm : May (P[j]).f0 (P[j]).f1
  · have hlen := HAll.all_len (P[j]).f0
    have hfew := hm.few
    refine Ev.if_pos (by simpa using hm) (Ev.bind (locks_ev _ _ hm) (Ev.bind0 (show quorumlaw12_num.f 0 = some 0 from rfl) (Ev.if_pos rfl ?_)))
    refine plan_l1 O P N (j : Int) _ (by rw [List.length_map]; omega) (fun x hx => ?_) (plan_l2 O P N j hj (by omega) hm h _ 0 (by rw [Nat.zero_add])) _ 0 (by rw [Nat.zero_add])
    obtain ⟨y, _, rfl⟩ := List.mem_map.1 hx
    exact ⟨rfl, rfl⟩
  · exact Ev.if_neg (by simpa using hm) h
theorem plan_end (j : Int) : Ev (fun k => quorumlaw12_PlanCommits.j1 k j false O P N) true :=
  Ev.step (fun k => by simp only [quorumlaw12_PlanCommits.j1]; rfl) (Ev.if_neg (by simp) (Ev.bind0 wakes12_true (Ev.now true)))
theorem plan_all (d : Nat) : ∀ j : Nat, j + d = 8 → Ev (fun k => quorumlaw12_PlanCommits.l0 k (j : Int) O P N) true := by
  induction d with
  | zero =>
    intro j hj
    refine Ev.step (fun k => by simp only [quorumlaw12_PlanCommits.l0]; rfl) (Ev.iff (fun _ => ?_) (fun _ => plan_end O P N _))
    rw [decide_eq_false (by omega)]
    exact plan_end O P N _
  | succ d ih =>
    intro j hj
    refine Ev.step (fun k => by simp only [quorumlaw12_PlanCommits.l0]; rfl) (Ev.iff (fun h1 => ?_) (fun _ => plan_end O P N _))
    rw [decide_eq_true (by omega)]
    exact plan_one O P N j (by omega) (by omega) (ih (j + 1) (by omega))
end
theorem PlanCommits : OpPlanCommits.Pure := by
  intro O P N hO hP hN
  obtain ⟨b, hb⟩ := heavy12_ends O P N (by have := hO.2.1; omega) (by have := hP.2.1; omega) (fun x hx => by have := (hP.2.2 x hx).1.2.1; omega)
  refine Ev.rounds ?_
  unfold quorumlaw12_PlanCommits.f
  exact Ev.bind hb (Ev.iff (fun _ => Ev.now true) (fun _ => plan_all O P N 8 0 (by omega)))
end Go.Proofs.Ytlnplaajhalekaa.Pure
