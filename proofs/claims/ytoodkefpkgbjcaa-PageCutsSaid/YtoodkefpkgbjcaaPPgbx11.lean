-- PRINTED by print.py (a twelfth state) out of the translation. Not trusted: Lean checks it.
import Derived.Test.YtoodkefpkgbjcaaPPgbx0
namespace Go.Proofs.Ytoodkefpkgbjcaa.PPgb
open Go.RowKit Go.Proofs.YtoodkefpkgbjcaaW.PrintWords Go.Proofs.YtoodkefpkgbjcaaW.PrintLast Go.Proofs.YtoodkefpkgbjcaaW.PrintMore
attribute [local go_sem] max2_int min2_int max_two min_two max_three min_three max_four min_four   -- for this text's walks alone
set_option linter.unusedVariables false
set_option linter.unusedSimpArgs false

/-! ### quorumlaw0_Page: function 87 (by hand) -/
def quorumlaw0_Page.nl0 : Nat → List Int → Int → Option (List Int)
 | 0, _, _ => none
 | k + 1, x0, x2 => if x2 < (x0.length : Int) then (if 0 ≤ x2 then (quorumlaw0_Page.nl0 k (x0.set (x2 : Int).toNat (-99)) (wrap64 (x2 + 1))) else (none)) else (some x0)
def quorumlaw0_Page.nf (k : Nat) (l0 : List Int) : Option (List Int) := quorumlaw0_Page.nl0 k l0 0
theorem quorumlaw0_Page.nmono_l : ∀ k, (∀ y0 y1, LeO (quorumlaw0_Page.nl0 k y0 y1) (quorumlaw0_Page.nl0 (k + 1) y0 y1))
 | 0 => fun _ _ r h => by simp [quorumlaw0_Page.nl0] at h
 | k + 1 => by
  have ih0 := quorumlaw0_Page.nmono_l k
  ·intro y0 y1
   unfold quorumlaw0_Page.nl0
   repeat' first
   | (with_reducible exact ih0 _ _)
   | (with_reducible exact LeO.refl _)
   | (with_reducible exact LeO.none _)
   | (with_reducible refine LeO.ite ?_ ?_)
   | (with_reducible refine LeO.bind ?_ (fun _ => ?_))
   | exact ih0 _ _
   | exact LeO.none _
   | refine LeO.ite ?_ ?_
   | refine LeO.bind ?_ (fun _ => ?_)
theorem quorumlaw0_Page.nmono : ∀ a0 k, LeO (quorumlaw0_Page.nf k a0) (quorumlaw0_Page.nf (k + 1) a0) := by
 intro a0 k
 have ih0 := quorumlaw0_Page.nmono_l k
 unfold quorumlaw0_Page.nf
 repeat' first
   | (with_reducible exact ih0 _ _)
   | (with_reducible exact LeO.refl _)
   | (with_reducible exact LeO.none _)
   | (with_reducible refine LeO.ite ?_ ?_)
   | (with_reducible refine LeO.bind ?_ (fun _ => ?_))
   | exact ih0 _ _
   | exact LeO.none _
   | refine LeO.ite ?_ ?_
   | refine LeO.bind ?_ (fun _ => ?_)
set_option maxHeartbeats 8000000 in
set_option maxRecDepth 100000 in
theorem quorumlaw0_Page.ncalls (k : Nat) (P0_ : Nat → Prop) (u9000_ : Value) (l0 : List Int) (r : List Int) (w0 w : World) (hB : Below w0.heap.size w0 w) (ho0 : Kd.Q (Kd.int .i64) 3 w w0.heap.size P0_ u9000_ l0) (h : quorumlaw0_Page.nf k l0 = some r) :
  Calls Try.prog 133 #[u9000_] w fun e w' => e = .returned (.tuple #[]) ∧ Kd.Q (Kd.int .i64) 3 w' w0.heap.size (fun k_ => (P0_ k_ ∨ w.heap.size ≤ k_)) u9000_ r ∧ Below w0.heap.size w0 w' ∧ Kept w w' (fun k_ => P0_ k_) := by
 have HO0 := mk0 (show Kd.Q (Kd.int .i64) 3 w w0.heap.size (fun k_ => (P0_ k_ ∨ w.heap.size ≤ k_)) u9000_ l0 from Kd.Q_mono ho0 (fun k_ hk => (.inl hk)))
 have HK := mk0 (Kept.refl w (fun k_ => P0_ k_))
 have HW0 := mk0 hB.size
 have HB := mk0 hB
 clear hB
 have H : (quorumlaw0_Page.nl0 k l0 0) = some r := h
 clear h
 have H' := mk0 H
 clear H
 go_enter Try.func133, Try.ntmps133
 go_wp2
 go_loopg [2] k (fun kq v2 w' => ∃ (x0_1 : List Int) (x2_1 : Int), v2 = .int .i64 x2_1 ∧ Fc (quorumlaw0_Page.nl0 kq x0_1 x2_1 = some r) ∧ Fc (kq ≤ k) ∧ Fc (Kd.Q (Kd.int .i64) 3 w' w0.heap.size (fun k_ => (P0_ k_ ∨ w.heap.size ≤ k_)) u9000_ x0_1) ∧ Fc (Kept w w' (fun k_ => P0_ k_)) ∧ Fc (Below w0.heap.size w0 w'))
 case atStart => exact ⟨(l0), (0), (by first | rfl | (simp; done) | (simp [*]; done)), H', ⟨Nat.le_refl _⟩, ⟨by (with_reducible repeat (first | apply Kd.Q_alloc | apply Kd.Q_drewN | apply Kd.Q_drew)); exact HO0.out⟩, ⟨k_ HK⟩, ⟨b_ HB⟩⟩
 case round =>
  clear H'
  try clear c1
  obtain ⟨x0_1, x2_1, rfl, HA, HK1, HO_0, HK, HB⟩ := hrel
  cases gk with
  | zero => exact absurd HA.out (by simp [quorumlaw0_Page.nl0])
  | succ k1 =>
   have H := HA.out
   clear HA
   simp only [quorumlaw0_Page.nl0] at H
   by_cases c2 : x2_1 < (x0_1.length : Int)
   ·rw [if_pos c2] at H
    have c2b0 : decide (x2_1 < (x0_1.length : Int)) = true := decide_eq_true c2
    clear c2
    by_cases c3 : 0 ≤ x2_1
    ·rw [if_pos c3] at H
     have c3b0 : decide (0 ≤ x2_1) = true := decide_eq_true c3
     clear c3
     obtain ⟨y330, hy330⟩ : ∃ y_ : List Int, y_ = (x0_1.set (x2_1 : Int).toNat (-99)) := ⟨_, rfl⟩
     replace H : (quorumlaw0_Page.nl0 k1 y330 (wrap64 (x2_1 + 1))) = some r := by first | (rw [hy330]; with_reducible exact H) | (have H2_ := (Option.bind_some _ _).symm.trans H; rw [hy330]; with_reducible exact H2_) | (have H2_ := (Option.bind_some _ _).symm.trans H; with_reducible exact H2_) | with_reducible exact H | (rw [hy330]; exact H) | exact H
     have Ny330 := mk0 hy330
     clear hy330
     have H' := mk0 H
     clear H
     obtain ⟨Ao5, co5, eo5, _⟩ := Kd.Q_slice HO_0.out
     subst eo5
     have p4 : 0 ≤ (x2_1 : Int) := of_decide_eq_true (by first | (with_reducible assumption) | assumption)
     have q4 : (x2_1 : Int) < ((x0_1.length : Int) : Int) := of_decide_eq_true (by first | (with_reducible assumption) | assumption)
     obtain ⟨go4, oo4, co4, eo4, gb4, gl4, cl4, HG4⟩ := Kd.Q_form HO_0.out (by omega)
     (first | cases eo4 | (injection eo4 with ea_ en_ ec_; (first | subst ea_ | (injection ea_ with ea_; subst ea_)); subst ec_; clear en_))
     have GB4 := mk0 gb4
     have GG4 := mk0 HG4
     clear gb4 gl4 HG4
     have HMgo4 := mk0 (show (P0_ go4 ∨ w.heap.size ≤ go4) from (HO_0.out.1 _ rfl))
     obtain ⟨hx4_0, hf4_0⟩ := Kd.Q_cell 0 HO_0.out (x2_1 : Int) p4 q4
     have HP6 := Kd.Q_putg HO_0.out (x2_1 : Int) p4 q4 (-99)
     replace p4 := eq_true p4
     replace q4 := eq_true q4
     go_wp2_with (first | ((with_reducible refine gate_store (t := 3) (p := 11) rfl ?_); refine store_event (t := 3) (p := 11) (v := ?vo_w7) (w1 := (wr.setCell ⟨go4, oo4 + (x2_1 : Int).toNat, none⟩ (.int .i64 (-99)))) ?hg ?ho ?hn ?hr ?_; (case ho => rfl); (case hg => rfl); (case hn => rfl); (case hr => first | (go_simp; done) | (go_simp; rfl)); intro w7 hw; have hg : wr.grownBy w7 (some go4) := (by rw [hw]; exact HP6.2); have hp_ : Kd.Q (Kd.int .i64) 3 w7 w0.heap.size (fun k_ => (P0_ k_ ∨ w.heap.size ≤ k_)) (.slice (some ⟨go4, oo4, none⟩) x0_1.length co5) y330 := (by rw [hw, Ny330.out]; exact HP6.1); clear HP6; have n0_ := mk0 (hp_); have n1_ := mk0 ((by rw [hw]; exact bs_ (HB.out) GB4.out : Below w0.heap.size w0 w7)); have n2_ := mk0 (Kept.of_grown (S := (fun k_ => P0_ k_)) hg (k_ HK) (fun k_ e_ => (HO_0.out.1 k_ e_))); clear HO_0 HB HK; have HO_0 := n0_; have HB := n1_; have HK := n2_; clear n0_ n1_ n2_; clear hg hw hp_))
     go_roundg k1
     case measure => have := HK1.out; omega
     case rel => exact ⟨(y330), (wrap64 (x2_1 + 1)), (by first | rfl | (simp; done) | (simp [*]; done)), H', ⟨by have := HK1.out; omega⟩, ⟨by (with_reducible repeat (first | apply Kd.Q_alloc | apply Kd.Q_drewN | apply Kd.Q_drew)); exact HO_0.out⟩, ⟨k_ HK⟩, ⟨b_ HB⟩⟩
    ·rw [if_neg c3] at H
     exact absurd H (by simp)
   ·rw [if_neg c2] at H
    have c2b0 : decide (x2_1 < (x0_1.length : Int)) = false := decide_eq_false c2
    clear c2
    obtain rfl := Option.some.inj H
    obtain ⟨Ao8, co8, eo8, _⟩ := Kd.Q_slice HO_0.out
    subst eo8
    go_wp2
    first | go_end0 | ((try simp only [Exit.inBlock, Exit.then]); refine bodyPost_ret (results_none rfl _ _ _) rfl ?_)
    exact ⟨by first | rfl | (simp [errW_none, errW_some] <;> rfl) | (simp [*, errW_none, errW_some] <;> rfl), by (with_reducible repeat (first | apply Kd.Q_alloc | apply Kd.Q_drewN | apply Kd.Q_drew)); exact HO_0.out, b_ HB, k_ HK⟩


def quorumlaw0_Page.l0 : Nat → Int → List ByteArray → List Int → Option (List ByteArray × List Int)
 | 0, _, _, _ => none
 | k + 1, x2, x332000, x332001 => if x2 < (x332000.length : Int) then (if 0 ≤ x2 then (quorumlaw0_Page.l0 k (wrap64 (x2 + 1)) (x332000.set (x2 : Int).toNat (⟨#[115, 112, 111, 105, 108, 116]⟩ : ByteArray)) x332001) else (none)) else ((quorumlaw0_Page.nf k x332001).bind fun t333 => (some (x332000, t333)))
def quorumlaw0_Page.f (k : Nat) (l0_0 : List ByteArray) (l0_1 : List Int) : Option (List ByteArray × List Int) := quorumlaw0_Page.l0 k 0 l0_0 l0_1
theorem quorumlaw0_Page.mono_l : ∀ k, (∀ y0 y1 y2, LeO (quorumlaw0_Page.l0 k y0 y1 y2) (quorumlaw0_Page.l0 (k + 1) y0 y1 y2))
 | 0 => fun _ _ _ r h => by simp [quorumlaw0_Page.l0] at h
 | k + 1 => by
  have ih0 := quorumlaw0_Page.mono_l k
  ·intro y0 y1 y2
   unfold quorumlaw0_Page.l0
   repeat' first
   | (with_reducible exact ih0 _ _ _)
   | (with_reducible exact quorumlaw0_Page.nmono _ _)
   | (with_reducible exact LeO.refl _)
   | (with_reducible exact LeO.none _)
   | (with_reducible refine LeO.ite ?_ ?_)
   | (with_reducible refine LeO.bind ?_ (fun _ => ?_))
   | exact ih0 _ _ _
   | exact quorumlaw0_Page.nmono _ _
   | exact LeO.none _
   | refine LeO.ite ?_ ?_
   | refine LeO.bind ?_ (fun _ => ?_)
theorem quorumlaw0_Page.mono : ∀ a0 a1 k, LeO (quorumlaw0_Page.f k a0 a1) (quorumlaw0_Page.f (k + 1) a0 a1) := by
 intro a0 a1 k
 have ih0 := quorumlaw0_Page.mono_l k
 unfold quorumlaw0_Page.f
 repeat' first
   | (with_reducible exact ih0 _ _ _)
   | (with_reducible exact quorumlaw0_Page.nmono _ _)
   | (with_reducible exact LeO.refl _)
   | (with_reducible exact LeO.none _)
   | (with_reducible refine LeO.ite ?_ ?_)
   | (with_reducible refine LeO.bind ?_ (fun _ => ?_))
   | exact ih0 _ _ _
   | exact quorumlaw0_Page.nmono _ _
   | exact LeO.none _
   | refine LeO.ite ?_ ?_
   | refine LeO.bind ?_ (fun _ => ?_)
set_option maxHeartbeats 8000000 in
set_option maxRecDepth 100000 in
theorem quorumlaw0_Page.calls (k : Nat) (P0_0_ : Nat → Prop) (u9000_ : Value) (l0_0 : List ByteArray) (P0_1_ : Nat → Prop) (u9001_ : Value) (l0_1 : List Int) (r1 : List ByteArray) (r2 : List Int) (w0 w : World) (hB : Below w0.heap.size w0 w) (ho0_0 : Kd.R Kd.string 9 w w0.heap.size P0_0_ u9000_ l0_0) (ho0_1 : Kd.Q (Kd.int .i64) 3 w w0.heap.size P0_1_ u9001_ l0_1) (h : quorumlaw0_Page.f k l0_0 l0_1 = some (r1, r2)) :
  Calls Try.prog 87 #[.agg #[u9000_, u9001_]] w fun e w' => e = .returned (.tuple #[]) ∧ Kd.R Kd.string 9 w' w0.heap.size (fun k_ => ((P0_0_ k_ ∨ P0_1_ k_) ∨ w.heap.size ≤ k_)) u9000_ r1 ∧ Kd.Q (Kd.int .i64) 3 w' w0.heap.size (fun k_ => ((P0_0_ k_ ∨ P0_1_ k_) ∨ w.heap.size ≤ k_)) u9001_ r2 ∧ Below w0.heap.size w0 w' ∧ Kept w w' (fun k_ => P0_0_ k_ ∨ P0_1_ k_) := by
 have hu0 := Try.underlying56
 have HO0_0 := mk0 (show Kd.R Kd.string 9 w w0.heap.size (fun k_ => ((P0_0_ k_ ∨ P0_1_ k_) ∨ w.heap.size ≤ k_)) u9000_ l0_0 from Kd.R_mono ho0_0 (fun k_ hk => (.inl (.inl hk))))
 have HO0_1 := mk0 (show Kd.Q (Kd.int .i64) 3 w w0.heap.size (fun k_ => ((P0_0_ k_ ∨ P0_1_ k_) ∨ w.heap.size ≤ k_)) u9001_ l0_1 from Kd.Q_mono ho0_1 (fun k_ hk => (.inl (.inr hk))))
 have HK := mk0 (Kept.refl w (fun k_ => P0_0_ k_ ∨ P0_1_ k_))
 have HW0 := mk0 hB.size
 have HB := mk0 hB
 clear hB
 have H : (quorumlaw0_Page.l0 k 0 l0_0 l0_1) = some (r1, r2) := h
 clear h
 have H' := mk0 H
 clear H
 obtain ⟨Ao2, co2, eo2⟩ := Kd.R_slice HO0_0.out
 subst eo2
 obtain ⟨Ao3, co3, eo3, _⟩ := Kd.Q_slice HO0_1.out
 subst eo3
 go_enter Try.func87, Try.ntmps87
 go_wp2_with (first | ((with_reducible refine gate_dst (N := 1) rfl ?_); refine box_event ?hg (N := 1) ?hd (cs := #[.slice Ao2 l0_0.length co2, .slice Ao3 l0_1.length co3]) (t := 56) ?hr ?_; (case hd => rfl); (case hg => rfl); (case hr => first | (go_simp; done) | (go_simp; rfl)); intro gb331 hg w4 hbox hb; have n0_ := mk0 (Kd.R_below (r_ HO0_0) hb); have n1_ := mk0 (Kd.Q_below (q_ HO0_1) hb); have n2_ := mk0 (Kept.below (S := (fun k_ => P0_0_ k_ ∨ P0_1_ k_)) (k_ HK) hb); have n3_ := mk0 (bt_ (b_ HB) hb); have n4_ := mk0 (hbox); have n5_ := mk0 ((by rw [hg]; exact (by first | exact HK.out.1 | exact (show Kept w _ (fun k_ => P0_0_ k_ ∨ P0_1_ k_) from k_ HK).1) : w.heap.size ≤ gb331)); have n6_ := mk0 ((by rw [hg]; exact (bz_ (b_ HB)) : w0.heap.size ≤ gb331)); clear HO0_0 HO0_1 HK HB; have HO0_0 := n0_; have HO0_1 := n1_; have HK := n2_; have HB := n3_; have BK331 := n4_; have GW331 := n5_; have GE331 := n6_; clear n0_ n1_ n2_ n3_ n4_ n5_ n6_; clear hb hbox hg))
 go_loopg [2] k (fun kq v2 w' => ∃ (x2_1 : Int) (x332000_1 : List ByteArray), v2 = .int .i64 x2_1 ∧ Fc (quorumlaw0_Page.l0 kq x2_1 x332000_1 l0_1 = some (r1, r2)) ∧ Fc (kq ≤ k) ∧ Fc (Kd.R Kd.string 9 w' w0.heap.size (fun k_ => ((P0_0_ k_ ∨ P0_1_ k_) ∨ w.heap.size ≤ k_)) (.slice Ao2 l0_0.length co2) x332000_1) ∧ Fc (Kd.Q (Kd.int .i64) 3 w' w0.heap.size (fun k_ => ((P0_0_ k_ ∨ P0_1_ k_) ∨ w.heap.size ≤ k_)) (.slice Ao3 l0_1.length co3) l0_1) ∧ Fc (w'.heap[gb331]? = some (.cells #[(.slice Ao2 l0_0.length co2), (.slice Ao3 l0_1.length co3)] 56 (0, 0))) ∧ Fc (Kept w w' (fun k_ => P0_0_ k_ ∨ P0_1_ k_)) ∧ Fc (Below w0.heap.size w0 w'))
 case atStart => exact ⟨(0), (l0_0), (by first | rfl | (simp; done) | (simp [*]; done)), H', ⟨Nat.le_refl _⟩, ⟨by (with_reducible repeat (first | apply Ra_ | apply Rn_ | apply Rd_)); exact HO0_0.out⟩, ⟨by (with_reducible repeat (first | apply Kd.Q_alloc | apply Kd.Q_drewN | apply Kd.Q_drew)); exact HO0_1.out⟩, ⟨h_ BK331⟩, ⟨k_ HK⟩, ⟨b_ HB⟩⟩
 case round =>
  clear H'
  try clear p2
  obtain ⟨x2_1, x332000_1, rfl, HA, HK1, HO_332000, HO_332001, BK331, HK, HB⟩ := hrel
  have hl332000_1 := (Kd.R_reads' HO_332000.out).1
  rw [hl332000_1] at HO_332000
  (try simp only [hl332000_1])
  (try simp only [hl332000_1] at BK331)
  (try simp only [hl332000_1] at HO_332001)
  cases gk with
  | zero => exact absurd HA.out (by simp [quorumlaw0_Page.l0])
  | succ k1 =>
   have H := HA.out
   clear HA
   simp only [quorumlaw0_Page.l0] at H
   by_cases c5 : x2_1 < (x332000_1.length : Int)
   ·rw [if_pos c5] at H
    have c5b0 : decide (x2_1 < (x332000_1.length : Int)) = true := decide_eq_true c5
    clear c5
    by_cases c6 : 0 ≤ x2_1
    ·rw [if_pos c6] at H
     have c6b0 : decide (0 ≤ x2_1) = true := decide_eq_true c6
     clear c6
     obtain ⟨y332, hy332⟩ : ∃ y_ : List ByteArray, y_ = (x332000_1.set (x2_1 : Int).toNat (⟨#[115, 112, 111, 105, 108, 116]⟩ : ByteArray)) := ⟨_, rfl⟩
     replace H : (quorumlaw0_Page.l0 k1 (wrap64 (x2_1 + 1)) y332 l0_1) = some (r1, r2) := by first | (rw [hy332]; with_reducible exact H) | (have H2_ := (Option.bind_some _ _).symm.trans H; rw [hy332]; with_reducible exact H2_) | (have H2_ := (Option.bind_some _ _).symm.trans H; with_reducible exact H2_) | with_reducible exact H | (rw [hy332]; exact H) | exact H
     have Ny332 := mk0 hy332
     clear hy332
     have H' := mk0 H
     clear H
     have hcz8_0 : wr.cell? ⟨gb331, 0, none⟩ = some (.slice Ao2 x332000_1.length co2) := (blk_cell BK331.out 0).trans rfl
     have hcz8_1 : wr.cell? ⟨gb331, 1, none⟩ = some (.slice Ao3 l0_1.length co3) := (blk_cell BK331.out 1).trans rfl
     have hfz8_0 := blk_frozen BK331.out 0
     have hfz8_1 := blk_frozen BK331.out 1
     have p7 : 0 ≤ (x2_1 : Int) := of_decide_eq_true (by first | (with_reducible assumption) | assumption)
     have q7 : (x2_1 : Int) < ((x332000_1.length : Int) : Int) := of_decide_eq_true (by first | (with_reducible assumption) | assumption)
     obtain ⟨go7, co7, eo7, gb7, gl7, cl7, HG7⟩ := Kd.R_form HO_332000.out (by omega)
     (first | cases eo7 | (injection eo7 with ea_ en_ ec_; (first | subst ea_ | (injection ea_ with ea_; subst ea_)); subst ec_; clear en_))
     have GB7 := mk0 gb7
     have GG7 := mk0 HG7
     clear gb7 gl7 HG7
     have HMgo7 := mk0 (show ((P0_0_ go7 ∨ P0_1_ go7) ∨ w.heap.size ≤ go7) from (HO_332000.out.1 _ rfl))
     obtain ⟨hx7_0, hf7_0⟩ := Kd.R_celln (⟨#[]⟩ : ByteArray) HO_332000.out (x2_1 : Int) p7 q7
     replace p7 := eq_true p7
     replace q7 := eq_true q7
     have HP9 := Kd.R_putg HO_332000.out (x2_1 : Int) (⟨#[115, 112, 111, 105, 108, 116]⟩ : ByteArray)
     go_wp2_with (first | ((with_reducible refine gate_store (t := 9) (p := 13) rfl ?_); refine store_event (t := 9) (p := 13) (v := ?vo_w10) (w1 := (wr.setCell ⟨go7, (x2_1 : Int).toNat, none⟩ (.string (⟨#[115, 112, 111, 105, 108, 116]⟩ : ByteArray)))) ?hg ?ho ?hn ?hr ?_; (case ho => rfl); (case hg => rfl); (case hn => rfl); (case hr => first | (go_simp; done) | (go_simp; rfl)); intro w10 hw; have hg : wr.grownBy w10 (some go7) := (by rw [hw]; exact HP9.2); have hp_ : Kd.R Kd.string 9 w10 w0.heap.size (fun k_ => ((P0_0_ k_ ∨ P0_1_ k_) ∨ w.heap.size ≤ k_)) (.slice (some ⟨go7, 0, none⟩) x332000_1.length co2) y332 := (by rw [hw, Ny332.out]; exact HP9.1); clear HP9; have n0_ := mk0 (hp_); have n1_ := mk0 (Kd.Q_over' (v := (.slice (some ⟨go7, 0, none⟩) x332000_1.length co2)) (q_ HO_332001) (Kd.R_typed HO_332000.out) (by decide) hg); have n2_ := mk0 (blk_grown (g := gb331) (o := .cells #[.slice (some ⟨go7, 0, none⟩) x332000_1.length co2, .slice Ao3 l0_1.length co3] 56 (0, 0)) (h_ BK331) hg (Kd.R_ne HO_332000.out BK331.out (by decide))); have n3_ := mk0 ((by rw [hw]; exact bs_ (HB.out) GB7.out : Below w0.heap.size w0 w10)); have n4_ := mk0 (Kept.of_grown (S := (fun k_ => P0_0_ k_ ∨ P0_1_ k_)) hg (k_ HK) (fun k_ e_ => (HO_332000.out.1 k_ e_))); clear HO_332000 HO_332001 BK331 HB HK; have HO_332000 := n0_; have HO_332001 := n1_; have BK331 := n2_; have HB := n3_; have HK := n4_; clear n0_ n1_ n2_ n3_ n4_; clear hg hw hp_))
     (try simp only [← hl332000_1])
     go_roundg k1
     case measure => have := HK1.out; omega
     case rel => exact ⟨(wrap64 (x2_1 + 1)), (y332), (by first | rfl | (simp; done) | (simp [*]; done)), H', ⟨by have := HK1.out; omega⟩, ⟨by (try simp only [hl332000_1]); (with_reducible repeat (first | apply Ra_ | apply Rn_ | apply Rd_)); exact HO_332000.out⟩, ⟨by (try simp only [hl332000_1]); (with_reducible repeat (first | apply Kd.Q_alloc | apply Kd.Q_drewN | apply Kd.Q_drew)); exact HO_332001.out⟩, ⟨by (try simp only [hl332000_1]); (with_reducible repeat (first | refine bN_ ?_ _ | refine bD_ ?_ | refine bA_ ?_ _)); exact BK331.out⟩, ⟨k_ HK⟩, ⟨b_ HB⟩⟩
    ·rw [if_neg c6] at H
     exact absurd H (by simp)
   ·rw [if_neg c5] at H
    have c5b0 : decide (x2_1 < (x332000_1.length : Int)) = false := decide_eq_false c5
    clear c5
    replace H := Option.bind_eq_some_iff.mp H
    obtain ⟨t333, A110, H⟩ := H
    replace H : (some (x332000_1, t333)) = some (r1, r2) := H
    have A11 := mk0 A110
    clear A110
    simp only [Option.some.injEq, Prod.mk.injEq] at H
    obtain ⟨rfl, rfl⟩ := H
    have hcz12_0 : wr.cell? ⟨gb331, 0, none⟩ = some (.slice Ao2 x332000_1.length co2) := (blk_cell BK331.out 0).trans rfl
    have hcz12_1 : wr.cell? ⟨gb331, 1, none⟩ = some (.slice Ao3 l0_1.length co3) := (blk_cell BK331.out 1).trans rfl
    have hfz12_0 := blk_frozen BK331.out 0
    have hfz12_1 := blk_frozen BK331.out 1
    go_wp2_with (first | ((with_reducible refine gate_callee (f := 133) rfl ?_); refine goesL_ (some 16) rfl rfl Try.func133 (by kernel_rfl) rfl #[.slice Ao3 l0_1.length co3] rfl (by (try simp only [List.map_toArray, List.map_cons, List.map_nil]); first | done | rfl | (simp only [List.length_drop, List.length_take]; rfl)) ?_; (with_reducible refine (quorumlaw0_Page.ncalls k1 (fun k_ => some k_ = (.slice Ao3 l0_1.length co3 : Value).ownBlock) (.slice Ao3 l0_1.length co3) l0_1 t333 w0 _ ?side1 ?side2 A11.out).mono ?_); (case side1 => repeat (first | (with_reducible first | exact HB.out | apply bL_ | apply pN_ | apply b1_ | refine bs_ ?_ GE331.out) | exact HB.out)); (case side2 => exact Kd.Q_tight rfl HO_332001.out); rintro e w13 ⟨rfl, hy0, hb, hkp⟩; refine ⟨_, rfl, ?_⟩; have n0_ := mk0 (Kd.R_mono (ok' := fun k_ => ((P0_0_ k_ ∨ P0_1_ k_) ∨ w.heap.size ≤ k_)) (Kd.R_keptB ((Kd.R_apart' HO_332000.out (Kd.Q_typed HO_332001.out) (by decide))) hkp (fun k_ hk_ hs_ => (hk_.2) hs_)) (fun k_ hk_ => hk_.1.1)); have n1_ := mk0 (Q_reok_ rfl hy0 (fun k_ e_ => HO_332001.out.1 k_ e_)); have n2_ := mk0 (blk_kept (h_ BK331) hkp (fun hs_ => (fun e_ => (Kd.Q_ne HO_332001.out BK331.out (by decide)) e_) hs_)); have n3_ := mk0 (Kept.then_ (S := (fun k_ => P0_0_ k_ ∨ P0_1_ k_)) (k_ HK) hkp (fun k_ hs_ => (fun e_ => (HO_332001.out.1 k_ e_.symm)) hs_)); have n4_ := mk0 (hb); clear HO_332000 HO_332001 BK331 HK HB; have HO_332000 := n0_; have HO_332001 := n1_; have BK331 := n2_; have HK := n3_; have HB := n4_; clear n0_ n1_ n2_ n3_ n4_; (try clear hb); (try clear hkp); (try clear hy0)))
    first | go_end0 | ((try simp only [Exit.inBlock, Exit.then]); refine bodyPost_ret (results_none rfl _ _ _) rfl ?_)
    exact ⟨by first | rfl | (simp [errW_none, errW_some] <;> rfl) | (simp [*, errW_none, errW_some] <;> rfl), (by first | exact (r_ HO_332000) | (simp only [hl332000_1]; exact (r_ HO_332000))), (by first | exact (q_ HO_332001) | (simp only [hl332000_1]; exact (q_ HO_332001))), b_ HB, k_ HK⟩


end Go.Proofs.Ytoodkefpkgbjcaa.PPgb
