-- PRINTED by print.py (a twelfth state) out of the translation. Not trusted: Lean checks it.
import Derived.Shelf.SlSorted.Search
import Derived.Test.YtbaecdcfefmcgaaPTbex0
namespace Go.Proofs.Ytbaecdcfefmcgaa.PTbe
open Go.RowKit Go.Proofs.YtbaecdcfefmcgaaW.PrintWords Go.Proofs.YtbaecdcfefmcgaaW.PrintLast Go.Proofs.YtbaecdcfefmcgaaW.PrintMore
attribute [local go_sem] max2_int min2_int max_two min_two max_three min_three max_four min_four   -- for this text's walks alone
set_option maxHeartbeats 8000000
set_option maxRecDepth 100000
set_option linter.unusedVariables false
set_option linter.unusedSimpArgs false
/-! ### quorumref8_place: function 44 -/
mutual
def quorumref8_place.l0 : Nat → ByteArray → Int → List (S99) → Option (Int × Bool)
 | 0, _, _, _ => none
 | k + 1, x1, x6, x141000 => if x6 < (x141000.length : Int) then (if 0 ≤ x6 then (quorumref8_place.j1 k x1 x6 (Op.bytesLess (((rd_T99 x141000 x6).f0).toList) x1.toList) x141000) else (none)) else (quorumref8_place.j1 k x1 x6 false x141000)
def quorumref8_place.j1 : Nat → ByteArray → Int → Bool → List (S99) → Option (Int × Bool)
 | 0, _, _, _, _ => none
 | k + 1, x1, x6, x21, x141000 => if x21 = true then (quorumref8_place.l0 k x1 (wrap64 (x6 + 1)) x141000) else (if x6 < (x141000.length : Int) then (if 0 ≤ x6 then (some (x6, (((rd_T99 x141000 x6).f0).toList == x1.toList))) else (none)) else (some (x6, false)))
end
def quorumref8_place.f (k : Nat) (l0_0 : List (S99)) (a1 : ByteArray) : Option (Int × Bool) := quorumref8_place.l0 k a1 0 l0_0
theorem quorumref8_place.mono_l : ∀ k, (∀ y0 y1 y2, LeO (quorumref8_place.l0 k y0 y1 y2) (quorumref8_place.l0 (k + 1) y0 y1 y2)) ∧ (∀ y0 y1 y2 y3, LeO (quorumref8_place.j1 k y0 y1 y2 y3) (quorumref8_place.j1 (k + 1) y0 y1 y2 y3))
 | 0 => ⟨fun _ _ _ r h => by simp [quorumref8_place.l0] at h, fun _ _ _ _ r h => by simp [quorumref8_place.j1] at h⟩
 | k + 1 => by
  obtain ⟨ih0, ih1⟩ := quorumref8_place.mono_l k
  refine ⟨?_, ?_⟩
  all_goals (intros; first | unfold quorumref8_place.l0 | unfold quorumref8_place.j1)
  all_goals (repeat' first | (with_reducible exact ih0 ..) | (with_reducible exact ih1 ..) | (with_reducible exact LeO.refl _) | (with_reducible exact LeO.none _) | (with_reducible refine LeO.ite ?_ ?_) | (with_reducible refine LeO.bind ?_ (fun _ => ?_)) | exact LeO.none _ | refine LeO.ite ?_ ?_ | refine LeO.bind ?_ (fun _ => ?_))
theorem quorumref8_place.mono : ∀ a0 a1 k, LeO (quorumref8_place.f k a0 a1) (quorumref8_place.f (k + 1) a0 a1) := by
 intro a0 a1 k
 obtain ⟨ih0, ih1⟩ := quorumref8_place.mono_l k
 unfold quorumref8_place.f
 repeat' first | (with_reducible exact ih0 ..) | (with_reducible exact ih1 ..) | (with_reducible exact LeO.refl _) | (with_reducible exact LeO.none _) | (with_reducible refine LeO.ite ?_ ?_) | (with_reducible refine LeO.bind ?_ (fun _ => ?_)) | exact LeO.none _ | refine LeO.ite ?_ ?_ | refine LeO.bind ?_ (fun _ => ?_)
theorem quorumref8_place.calls (k : Nat) (A0_0 : Option Addr) (c0_0 : Nat) (l0_0 : List (S99)) (a1 : ByteArray) (r1 : Int) (r2 : Bool) (w : World) (hr0_0 : Kd.C k99 w A0_0 l0_0.length l0_0) (hc0_0 : l0_0.length ≤ c0_0) (h : quorumref8_place.f k l0_0 a1 = some (r1, r2)) :
  Calls Try.prog 44 #[.agg #[.slice A0_0 l0_0.length c0_0], .string a1] w fun e w' => e = .returned (.tuple #[.int .i64 r1, .bool r2]) ∧ Below w.heap.size w w' := by
 have hu47 := Try.underlying47
 have ap := mk0 hr0_0
 have aU := mk0 hc0_0
 clear hr0_0 hc0_0
 have HB := mk0 (Below.refl w.heap.size w)
 have H : (quorumref8_place.l0 k a1 0 l0_0) = some (r1, r2) := h
 clear h
 have H' := mk0 H
 clear H
 go_enter Try.func44, Try.ntmps44
 go_wp2_with (first | ((with_reducible refine gate_dst (N := 2) rfl ?_); refine bx_ (N := 2) (cs := #[.slice A0_0 l0_0.length c0_0]) (t := 47) (h := ?_); intro ac hg w3 hbox hb; have n2_ := mk0 (gz_ HB hg); have ae := mk0 (gz_ HB hg); replace HB := mk0 (bt_ (b_ HB) hb); have aa := mk0 (hbox); have aq := n2_; have ar := ae; clear n2_ ae; clear hb hbox hg))
 repeat (go_quiet (first | ((with_reducible refine gate_dst (N := 2) rfl ?_); refine bx_ (N := 2) (cs := #[.slice A0_0 l0_0.length c0_0]) (t := 47) (h := ?_); intro ac hg w3 hbox hb; have n2_ := mk0 (gz_ HB hg); have ae := mk0 (gz_ HB hg); replace HB := mk0 (bt_ (b_ HB) hb); have aa := mk0 (hbox); have aq := n2_; have ar := ae; clear n2_ ae; clear hb hbox hg)); try go_wp2_with (first | ((with_reducible refine gate_dst (N := 2) rfl ?_); refine bx_ (N := 2) (cs := #[.slice A0_0 l0_0.length c0_0]) (t := 47) (h := ?_); intro ac hg w3 hbox hb; have n2_ := mk0 (gz_ HB hg); have ae := mk0 (gz_ HB hg); replace HB := mk0 (bt_ (b_ HB) hb); have aa := mk0 (hbox); have aq := n2_; have ar := ae; clear n2_ ae; clear hb hbox hg)))
 go_loopg [6] k (fun kq v6 w' => ∃ (ab : Int), v6 = .int .i64 ab ∧ Fc (quorumref8_place.l0 kq a1 ab l0_0 = some (r1, r2)) ∧ Fc (kq ≤ k) ∧ Fc (w'.heap[ac]? = some (.cells #[(.slice A0_0 l0_0.length c0_0)] 47 (0, 0))) ∧ Fc (Below w.heap.size w w'))
 case atStart => exact ⟨(0), sm_, H', ⟨Nat.le_refl _⟩, ⟨h_ aa⟩, ⟨b_ HB⟩⟩
 case round =>
  clear H'
  obtain ⟨ab, rfl, HA, ay, aa, HB⟩ := hrel
  cases gk with
  | zero => exact absurd HA.out (by simp [quorumref8_place.l0])
  | succ k1 =>
   have H := HA.out
   clear HA
   simp only [quorumref8_place.l0] at H
   as_aux_lemma =>
    have HC4 := mk0 H
    clear H
    go_upto_region 2 with (fail)
    repeat (go_quiet (fail); go_upto_region 2 with (fail))
    go_cut [21] (fun v21 wc => ∃ (kq : Nat) (ad : Bool), v21 = .bool ad ∧ Fc (quorumref8_place.j1 kq a1 ab ad l0_0 = some (r1, r2)) ∧ Fc (kq ≤ k1) ∧ Fc (wc.heap[ac]? = some (.cells #[(.slice A0_0 l0_0.length c0_0)] 47 (0, 0))) ∧ Fc (Below w.heap.size w wc))
    case first =>
     have H := HC4.out
     clear HC4
     by_cases c5 : ab < (l0_0.length : Int)
     ·rw [if_pos c5] at H
      have af := decide_eq_true c5
      clear c5
      (first | rw [af] | (simp only [i64_w, i32_w]; rw [af]) | skip)
      by_cases c6 : 0 ≤ ab
      ·rw [if_pos c6] at H
       have aZ := decide_eq_true c6
       clear c6
       have H' := mk0 H
       clear H
       obtain ⟨aM, aN⟩ := c1_ aa
       have au : 0 ≤ (ab : Int) := od_
       have av : ab < (l0_0.length : Int) := od_
       obtain ⟨aV, aO, aP, aB, ag, ah, ai, aj⟩ := at_T99 ap.out ab au av
       cases aB
       replace ag := (bc_ HB ag :)
       replace ah := (bc_ HB ah :)
       have aC := mk0 aj
       have aD := mk0 ai
       clear aj ai
       replace au := eq_true au
       replace av := eq_true av
       go_wp2
       repeat (go_quiet (fail); try go_wp2)
       go_meet
       case rel => exact ⟨_, ((Op.bytesLess (((rd_T99 l0_0 ab).f0).toList) a1.toList)), sm_, H', ⟨by have := ay.out; first | omega | exact Nat.le_refl _⟩, ⟨h_ aa⟩, ⟨b_ HB⟩⟩
      ·rw [if_neg c6] at H
       exact absurd H (by simp)
     ·rw [if_neg c5] at H
      have af := decide_eq_false c5
      clear c5
      (first | rw [af] | (simp only [i64_w, i32_w]; rw [af]) | skip)
      have H' := mk0 H
      clear H
      obtain ⟨aQ, aR⟩ := c1_ aa
      go_wp2
      repeat (go_quiet (fail); try go_wp2)
      go_meet
      case rel => exact ⟨_, (false), sm_, H', ⟨by have := ay.out; first | omega | exact Nat.le_refl _⟩, ⟨h_ aa⟩, ⟨b_ HB⟩⟩
    case rest =>
     clear HC4
     obtain ⟨kq, ad, rfl, HA, aE, aa, HB⟩ := hcut
     cases kq with
     | zero => exact absurd HA.out (by simp [quorumref8_place.j1])
     | succ aW =>
      have H := HA.out
      clear HA
      simp only [quorumref8_place.j1] at H
      as_aux_lemma =>
       by_cases c9 : ad = true
       ·subst c9
        rw [if_pos rfl] at H
        have H' := mk0 H
        clear H
        go_wp2
        repeat (go_quiet (fail); try go_wp2)
        go_roundg aW
        case measure => have := ay.out; have := aE.out; omega
        case rel => exact ⟨(wrap64 (ab + 1)), sm_, H', ⟨by have := ay.out; have := aE.out; omega⟩, ⟨h_ aa⟩, ⟨b_ HB⟩⟩
       ·replace c9 := Bool.eq_false_iff.mpr c9
        subst c9
        rw [if_neg nf_] at H
        by_cases ao : ab < (l0_0.length : Int)
        ·rw [if_pos ao] at H
         have aA := decide_eq_true ao
         clear ao
         by_cases az : 0 ≤ ab
         ·rw [if_pos az] at H
          have aX := decide_eq_true az
          clear az
          simp only [Option.some.injEq, Prod.mk.injEq] at H
          obtain ⟨rfl, rfl⟩ := H
          obtain ⟨aF, aG⟩ := c1_ aa
          have aw : 0 ≤ (ab : Int) := od_
          have ax : ab < (l0_0.length : Int) := od_
          obtain ⟨aY, aS, aT, aH, ak, al, am, an⟩ := at_T99 ap.out ab aw ax
          cases aH
          replace ak := (bc_ HB ak :)
          replace al := (bc_ HB al :)
          have aI := mk0 an
          have aJ := mk0 am
          clear an am
          replace aw := eq_true aw
          replace ax := eq_true ax
          go_wp2
          repeat (go_quiet (fail); try go_wp2)
          go_ret2
          exact ⟨sa_, b_ HB⟩
         ·rw [if_neg az] at H
          exact absurd H (by simp)
        ·rw [if_neg ao] at H
         have aA := decide_eq_false ao
         clear ao
         simp only [Option.some.injEq, Prod.mk.injEq] at H
         obtain ⟨rfl, rfl⟩ := H
         obtain ⟨aK, aL⟩ := c1_ aa
         go_wp2
         repeat (go_quiet (fail); try go_wp2)
         go_ret2
         exact ⟨sa_, b_ HB⟩
/-! ### quorumref8_newest: function 100 -/
def quorumref8_newest.l0 : Nat → Int → Int → ByteArray → List (S72) → Option (Int)
 | 0, _, _, _, _ => none
 | k + 1, x1, x5, x144000, x144001 => if x5 < (x144001.length : Int) then (if 0 ≤ x5 then (if ((rd_T72 x144001 x5).f0) ≤ x1 then (some x5) else (quorumref8_newest.l0 k x1 (wrap64 (x5 + 1)) x144000 x144001)) else (none)) else (some (-1))
def quorumref8_newest.f (k : Nat) (a0_0 : ByteArray) (l0_1 : List (S72)) (a1 : Int) : Option (Int) := quorumref8_newest.l0 k a1 0 a0_0 l0_1
theorem quorumref8_newest.mono_l : ∀ k, (∀ y0 y1 y2 y3, LeO (quorumref8_newest.l0 k y0 y1 y2 y3) (quorumref8_newest.l0 (k + 1) y0 y1 y2 y3))
 | 0 => fun _ _ _ _ r h => by simp [quorumref8_newest.l0] at h
 | k + 1 => by
  have ih0 := quorumref8_newest.mono_l k
  all_goals (intros; first | unfold quorumref8_newest.l0)
  all_goals (repeat' first | (with_reducible exact ih0 ..) | (with_reducible exact LeO.refl _) | (with_reducible exact LeO.none _) | (with_reducible refine LeO.ite ?_ ?_) | (with_reducible refine LeO.bind ?_ (fun _ => ?_)) | exact LeO.none _ | refine LeO.ite ?_ ?_ | refine LeO.bind ?_ (fun _ => ?_))
theorem quorumref8_newest.mono : ∀ a0 a1 a2 k, LeO (quorumref8_newest.f k a0 a1 a2) (quorumref8_newest.f (k + 1) a0 a1 a2) := by
 intro a0 a1 a2 k
 have ih0 := quorumref8_newest.mono_l k
 unfold quorumref8_newest.f
 repeat' first | (with_reducible exact ih0 ..) | (with_reducible exact LeO.refl _) | (with_reducible exact LeO.none _) | (with_reducible refine LeO.ite ?_ ?_) | (with_reducible refine LeO.bind ?_ (fun _ => ?_)) | exact LeO.none _ | refine LeO.ite ?_ ?_ | refine LeO.bind ?_ (fun _ => ?_)
theorem quorumref8_newest.calls (k : Nat) (a0_0 : ByteArray) (A0_1 : Option Addr) (c0_1 : Nat) (l0_1 : List (S72)) (a1 : Int) (r : Int) (w : World) (hr0_1 : Kd.C k72 w A0_1 l0_1.length l0_1) (hc0_1 : l0_1.length ≤ c0_1) (h : quorumref8_newest.f k a0_0 l0_1 a1 = some r) :
  Calls Try.prog 100 #[.agg #[.string a0_0, .slice A0_1 l0_1.length c0_1], .int .i64 a1] w fun e w' => e = .returned (.int .i64 r) ∧ Below w.heap.size w w' := by
 have hu99 := Try.underlying99
 have ah := mk0 hr0_1
 have aD := mk0 hc0_1
 clear hr0_1 hc0_1
 have HB := mk0 (Below.refl w.heap.size w)
 have H : (quorumref8_newest.l0 k a1 0 a0_0 l0_1) = some r := h
 clear h
 have H' := mk0 H
 clear H
 go_enter Try.func100, Try.ntmps100
 go_wp2_with (first | ((with_reducible refine gate_dst (N := 2) rfl ?_); refine bx_ (N := 2) (cs := #[.string a0_0, .slice A0_1 l0_1.length c0_1]) (t := 99) (h := ?_); intro aj hg w3 hbox hb; have n2_ := mk0 (gz_ HB hg); have al := mk0 (gz_ HB hg); replace HB := mk0 (bt_ (b_ HB) hb); have ae := mk0 (hbox); have aE := al; clear n2_ al; clear hb hbox hg))
 go_loopg [5] k (fun kq v5 w' => ∃ (aa : Int), v5 = .int .i64 aa ∧ Fc (quorumref8_newest.l0 kq a1 aa a0_0 l0_1 = some r) ∧ Fc (kq ≤ k) ∧ Fc (w'.heap[aj]? = some (.cells #[.string a0_0, (.slice A0_1 l0_1.length c0_1)] 99 (0, 0))) ∧ Fc (Below w.heap.size w w'))
 case atStart => exact ⟨(0), sm_, H', ⟨Nat.le_refl _⟩, ⟨h_ ae⟩, ⟨b_ HB⟩⟩
 case round =>
  clear H'
  obtain ⟨aa, rfl, HA, am, ae, HB⟩ := hrel
  cases gk with
  | zero => exact absurd HA.out (by simp [quorumref8_newest.l0])
  | succ k1 =>
   have H := HA.out
   clear HA
   simp only [quorumref8_newest.l0] at H
   as_aux_lemma =>
    by_cases c4 : aa < (l0_1.length : Int)
    ·rw [if_pos c4] at H
     have an := decide_eq_true c4
     clear c4
     by_cases c5 : 0 ≤ aa
     ·rw [if_pos c5] at H
      have aF := decide_eq_true c5
      clear c5
      by_cases c6 : ((rd_T72 l0_1 aa).f0) ≤ a1
      ·rw [if_pos c6] at H
       have ao := decide_eq_true c6
       clear c6
       obtain rfl := Option.some.inj H
       obtain ⟨ap, aq, ar, au⟩ := c2_ ae
       have af : 0 ≤ (aa : Int) := od_
       have ag : aa < (l0_1.length : Int) := od_
       obtain ⟨ak, ai, ab, ac, ad⟩ := at_T72 ah.out aa af ag
       cases ai
       replace ab := (bc_ HB ab :)
       replace ac := (bc_ HB ac :)
       replace ad := (bc_ HB ad :)
       replace af := eq_true af
       replace ag := eq_true ag
       go_wp2
       go_ret
       exact ⟨sa_, b_ HB⟩
      ·rw [if_neg c6] at H
       have ao := decide_eq_false c6
       clear c6
       have H' := mk0 H
       clear H
       obtain ⟨av, aw, ax, ay⟩ := c2_ ae
       have af : 0 ≤ (aa : Int) := od_
       have ag : aa < (l0_1.length : Int) := od_
       obtain ⟨ak, ai, ab, ac, ad⟩ := at_T72 ah.out aa af ag
       cases ai
       replace ab := (bc_ HB ab :)
       replace ac := (bc_ HB ac :)
       replace ad := (bc_ HB ad :)
       replace af := eq_true af
       replace ag := eq_true ag
       go_wp2
       go_roundg k1
       case measure => have := am.out; omega
       case rel => exact ⟨(wrap64 (aa + 1)), sm_, H', ⟨by have := am.out; omega⟩, ⟨h_ ae⟩, ⟨b_ HB⟩⟩
     ·rw [if_neg c5] at H
      exact absurd H (by simp)
    ·rw [if_neg c4] at H
     have an := decide_eq_false c4
     clear c4
     obtain rfl := Option.some.inj H
     obtain ⟨az, aA, aB, aC⟩ := c2_ ae
     go_wp2
     go_ret
     exact ⟨sa_, b_ HB⟩
/-! ### quorumref8_At: function 45 -/
def quorumref8_At.j0 : Nat → Int → Bool → ByteArray → List (S72) → Option (Int × ByteArray × Bool × Bool)
 | 0, _, _, _, _ => none
 | k + 1, x6, x19, x146000, x146001 => if x19 = true then (some (0, (⟨#[]⟩ : ByteArray), false, false)) else (if 0 ≤ x6 then (if x6 < (x146001.length : Int) then (some ((rd_T72 x146001 x6).f0, (rd_T72 x146001 x6).f1, (rd_T72 x146001 x6).f2, true)) else (none)) else (none))
def quorumref8_At.f (k : Nat) (a0_0 : ByteArray) (l0_1 : List (S72)) (a1 : Int) : Option (Int × ByteArray × Bool × Bool) := (quorumref8_newest.f k a0_0 l0_1 a1).bind fun t147 => (if t147 < 0 then (quorumref8_At.j0 k t147 true a0_0 l0_1) else (if 0 ≤ t147 then (if t147 < (l0_1.length : Int) then (quorumref8_At.j0 k t147 ((rd_T72 l0_1 t147).f2) a0_0 l0_1) else (none)) else (none)))
theorem quorumref8_At.mono_l : ∀ k, (∀ y0 y1 y2 y3, LeO (quorumref8_At.j0 k y0 y1 y2 y3) (quorumref8_At.j0 (k + 1) y0 y1 y2 y3))
 | 0 => fun _ _ _ _ r h => by simp [quorumref8_At.j0] at h
 | k + 1 => by
  have ih0 := quorumref8_At.mono_l k
  all_goals (intros; first | unfold quorumref8_At.j0)
  all_goals (repeat' first | (with_reducible exact ih0 ..) | (with_reducible exact quorumref8_newest.mono ..) | (with_reducible exact LeO.refl _) | (with_reducible exact LeO.none _) | (with_reducible refine LeO.ite ?_ ?_) | (with_reducible refine LeO.bind ?_ (fun _ => ?_)) | exact LeO.none _ | refine LeO.ite ?_ ?_ | refine LeO.bind ?_ (fun _ => ?_))
theorem quorumref8_At.mono : ∀ a0 a1 a2 k, LeO (quorumref8_At.f k a0 a1 a2) (quorumref8_At.f (k + 1) a0 a1 a2) := by
 intro a0 a1 a2 k
 have ih0 := quorumref8_At.mono_l k
 unfold quorumref8_At.f
 repeat' first | (with_reducible exact ih0 ..) | (with_reducible exact quorumref8_newest.mono ..) | (with_reducible exact LeO.refl _) | (with_reducible exact LeO.none _) | (with_reducible refine LeO.ite ?_ ?_) | (with_reducible refine LeO.bind ?_ (fun _ => ?_)) | exact LeO.none _ | refine LeO.ite ?_ ?_ | refine LeO.bind ?_ (fun _ => ?_)
theorem quorumref8_At.calls (k : Nat) (a0_0 : ByteArray) (A0_1 : Option Addr) (c0_1 : Nat) (l0_1 : List (S72)) (a1 : Int) (r1 : Int) (r2 : ByteArray) (r3 : Bool) (r4 : Bool) (w : World) (hr0_1 : Kd.C k72 w A0_1 l0_1.length l0_1) (hc0_1 : l0_1.length ≤ c0_1) (h : quorumref8_At.f k a0_0 l0_1 a1 = some (r1, r2, r3, r4)) :
  Calls Try.prog 45 #[.agg #[.string a0_0, .slice A0_1 l0_1.length c0_1], .int .i64 a1] w fun e w' => e = .returned (.tuple #[.agg #[.int .i64 r1, .string r2, .bool r3], .bool r4]) ∧ Below w.heap.size w w' := by
 have hu99 := Try.underlying99
 have hu72 := Try.underlying72
 have ao := mk0 hr0_1
 have aG := mk0 hc0_1
 clear hr0_1 hc0_1
 have HB := mk0 (Below.refl w.heap.size w)
 have H : ((quorumref8_newest.f k a0_0 l0_1 a1).bind fun aa => (if aa < 0 then (quorumref8_At.j0 k aa true a0_0 l0_1) else (if 0 ≤ aa then (if aa < (l0_1.length : Int) then (quorumref8_At.j0 k aa ((rd_T72 l0_1 aa).f2) a0_0 l0_1) else (none)) else (none)))) = some (r1, r2, r3, r4) := h
 clear h
 replace H := ob_ H
 obtain ⟨aa, A3, H⟩ := H
 try dsimp only at H
 have HC4 := mk0 H
 clear H
 go_enter Try.func45, Try.ntmps45
 go_upto_region 2 with (first | ((with_reducible refine gate_dst (N := 2) rfl ?_); refine bx_ (N := 2) (cs := #[.string a0_0, .slice A0_1 l0_1.length c0_1]) (t := 99) (h := ?_); intro aH hg w5 hbox hb; have n2_ := mk0 (gz_ HB hg); have aw := mk0 (gz_ HB hg); replace HB := mk0 (bt_ (b_ HB) hb); have ab := mk0 (hbox); have ba := aw; clear n2_ aw; clear hb hbox hg) | ((with_reducible refine gate_dst (N := 4) rfl ?_); refine bx_ (N := 4) (cs := #[.int .i64 0, .string (⟨#[]⟩ : ByteArray), .bool false]) (t := 72) (h := ?_); intro ag hg w6 hbox hb; have aw := mk0 (gz_ HB hg); have aI := mk0 (gz_ HB hg); have aJ := mk0 (ne1_ ab hg); have aK := mk0 (ne2_ ab hg); replace ab := mk0 (u_ ab hb); replace HB := mk0 (bt_ (b_ HB) hb); have ac := mk0 (hbox); have bb := aI; have ad := aJ; have ae := aK; clear aw aI aJ aK hb hbox hg; have bo := ad.out; have bp := ae.out; obtain ⟨ax, ay, az, aA⟩ := c2_ ab) | ((with_reducible refine gate_callee (f := 100) rfl ?_); refine gL_ (some 9) Try.func100 #[.agg #[.string a0_0, .slice A0_1 l0_1.length c0_1], .int .i64 a1] (h := ?_); (with_reducible refine (quorumref8_newest.calls k a0_0 _ _ l0_1 a1 aa _ ?side1 ?side2 A3.out).mono ?_); (case side1 => exact cb_ ao HB); (case side2 => exact aG.out); rintro e w9 ⟨rfl, hb⟩; refine ⟨_, rfl, ?_⟩; replace ab := mk0 (u_ ab hb); replace ac := mk0 (blk_below (g := ag) (o := .cells #[.int .i64 0, .string (⟨#[]⟩ : ByteArray), .bool false] 72 (0, 0)) (h_ ac) hb); replace HB := mk0 (bt_ (b_ HB) hb); (try clear hb)))
 (try simp only [Act.put, List.setIfInBounds_toArray, List.set_cons_zero, List.set_cons_succ])
 go_cut [19] (fun v19 wc => ∃ (kq : Nat) (ah : Bool), v19 = .bool ah ∧ Fc (quorumref8_At.j0 kq aa ah a0_0 l0_1 = some (r1, r2, r3, r4)) ∧ Fc (kq ≤ k) ∧ Fc (wc.heap[aH]? = some (.cells #[.string a0_0, (.slice A0_1 l0_1.length c0_1)] 99 (0, 0))) ∧ Fc (wc.heap[ag]? = some (.cells #[.int .i64 0, .string (⟨#[]⟩ : ByteArray), .bool false] 72 (0, 0))) ∧ Fc (Below w.heap.size w wc))
 case first =>
  have H := HC4.out
  clear HC4
  by_cases ap : aa < 0
  ·rw [if_pos ap] at H
   have af := decide_eq_true ap
   clear ap
   (first | rw [af] | (simp only [i64_w, i32_w]; rw [af]) | skip)
   have H' := mk0 H
   clear H
   go_wp2
   go_meet
   case rel => exact ⟨_, (true), sm_, H', ⟨by first | omega | exact Nat.le_refl _⟩, ⟨h_ ab⟩, ⟨h_ ac⟩, ⟨b_ HB⟩⟩
  ·rw [if_neg ap] at H
   have af := decide_eq_false ap
   clear ap
   (first | rw [af] | (simp only [i64_w, i32_w]; rw [af]) | skip)
   by_cases aB : 0 ≤ aa
   ·rw [if_pos aB] at H
    have bc := decide_eq_true aB
    clear aB
    by_cases aC : aa < (l0_1.length : Int)
    ·rw [if_pos aC] at H
     have bd := decide_eq_true aC
     clear aC
     have H' := mk0 H
     clear H
     have be := ad.out
     have bf := ae.out
     obtain ⟨aL, aM, aN, aO⟩ := c2_ ab
     have aq : 0 ≤ (aa : Int) := od_
     have ar : aa < (l0_1.length : Int) := od_
     obtain ⟨bg, aP, ai, aj, ak⟩ := at_T72 ao.out aa aq ar
     cases aP
     replace ai := (bc_ HB ai :)
     replace aj := (bc_ HB aj :)
     replace ak := (bc_ HB ak :)
     replace aq := eq_true aq
     replace ar := eq_true ar
     go_wp2
     go_meet
     case rel => exact ⟨_, ((rd_T72 l0_1 aa).f2), sm_, H', ⟨by first | omega | exact Nat.le_refl _⟩, ⟨h_ ab⟩, ⟨h_ ac⟩, ⟨b_ HB⟩⟩
    ·rw [if_neg aC] at H
     exact absurd H (by simp)
   ·rw [if_neg aB] at H
    exact absurd H (by simp)
 case rest =>
  clear HC4
  try clear ax
  try clear ay
  try clear az
  try clear aA
  obtain ⟨kq, ah, rfl, HA, bq, ab, ac, HB⟩ := hcut
  cases kq with
  | zero => exact absurd HA.out (by simp [quorumref8_At.j0])
  | succ br =>
   have H := HA.out
   clear HA
   simp only [quorumref8_At.j0] at H
   as_aux_lemma =>
    by_cases aD : ah = true
    ·subst aD
     rw [if_pos rfl] at H
     simp only [Option.some.injEq, Prod.mk.injEq] at H
     obtain ⟨rfl, rfl, rfl, rfl⟩ := H
     have bh := ae.out
     have bi := ad.out
     obtain ⟨aQ, aR, aS, aT, aU, aV⟩ := c3_ ac
     go_wp2
     refine bodyPost_ret (results_ct rfl _ _ ag 72 #[.int .i64 0, .string (⟨#[]⟩ : ByteArray), .bool false] (0, 0) _ rfl (pu_ (cs := #[.int .i64 0, .string (⟨#[]⟩ : ByteArray), .bool false]) (pu_ (cs := #[.int .i64 0, .string (⟨#[]⟩ : ByteArray), .bool false]) (pu_ (cs := #[.int .i64 0, .string (⟨#[]⟩ : ByteArray), .bool false]) (h_ ac)))) Try.underlying72 rfl (by kernel_rfl)) rfl ?_
     exact ⟨sa_, b_ HB⟩
    ·replace aD := Bool.eq_false_iff.mpr aD
     subst aD
     rw [if_neg nf_] at H
     by_cases aE : 0 ≤ aa
     ·rw [if_pos aE] at H
      have bj := decide_eq_true aE
      clear aE
      by_cases aF : aa < (l0_1.length : Int)
      ·rw [if_pos aF] at H
       have bk := decide_eq_true aF
       clear aF
       simp only [Option.some.injEq, Prod.mk.injEq] at H
       obtain ⟨rfl, rfl, rfl, rfl⟩ := H
       have bl := ad.out
       have bm := ae.out
       obtain ⟨aW, aX, aY, aZ⟩ := c2_ ab
       have au : 0 ≤ (aa : Int) := od_
       have av : aa < (l0_1.length : Int) := od_
       obtain ⟨bn, a3, al, am, an⟩ := at_T72 ao.out aa au av
       cases a3
       replace al := (bc_ HB al :)
       replace am := (bc_ HB am :)
       replace an := (bc_ HB an :)
       replace au := eq_true au
       replace av := eq_true av
       obtain ⟨a4, a5, a6, a7, a8, a9⟩ := c3_ ac
       go_wp2
       refine bodyPost_ret (results_ct rfl _ _ ag 72 #[.int .i64 ((rd_T72 l0_1 aa).f0), .string ((rd_T72 l0_1 aa).f1), .bool ((rd_T72 l0_1 aa).f2)] (0, 0) _ rfl (pu_ (cs := #[.int .i64 ((rd_T72 l0_1 aa).f0), .string ((rd_T72 l0_1 aa).f1), .bool false]) (pu_ (cs := #[.int .i64 ((rd_T72 l0_1 aa).f0), .string (⟨#[]⟩ : ByteArray), .bool false]) (pu_ (cs := #[.int .i64 0, .string (⟨#[]⟩ : ByteArray), .bool false]) (h_ ac)))) Try.underlying72 rfl (by kernel_rfl)) rfl ?_
       exact ⟨sa_, b_ HB⟩
      ·rw [if_neg aF] at H
       exact absurd H (by simp)
     ·rw [if_neg aE] at H
      exact absurd H (by simp)
/-! ### quorumref8_Get: function 20 -/
def quorumref8_Get.f (k : Nat) (l0_0 : List (S99)) (a1 : ByteArray) (a2 : Int) : Option (ByteArray × Bool) := (quorumref8_place.f k l0_0 a1).bind fun bt151 => (if bt151.2 = true then (if 0 ≤ bt151.1 then (if bt151.1 < (l0_0.length : Int) then ((quorumref8_At.f k ((rd_T99 l0_0 bt151.1).f0) ((rd_T99 l0_0 bt151.1).f1) a2).bind fun bt154 => (some (bt154.2.1, bt154.2.2.2))) else (none)) else (none)) else (some ((⟨#[]⟩ : ByteArray), false)))
theorem quorumref8_Get.mono : ∀ a0 a1 a2 k, LeO (quorumref8_Get.f k a0 a1 a2) (quorumref8_Get.f (k + 1) a0 a1 a2) := by
 intro a0 a1 a2 k
 unfold quorumref8_Get.f
 repeat' first | (with_reducible exact quorumref8_At.mono ..) | (with_reducible exact quorumref8_place.mono ..) | (with_reducible exact LeO.refl _) | (with_reducible exact LeO.none _) | (with_reducible refine LeO.ite ?_ ?_) | (with_reducible refine LeO.bind ?_ (fun _ => ?_)) | exact LeO.none _ | refine LeO.ite ?_ ?_ | refine LeO.bind ?_ (fun _ => ?_)
theorem quorumref8_Get.calls (k : Nat) (A0_0 : Option Addr) (c0_0 : Nat) (l0_0 : List (S99)) (a1 : ByteArray) (a2 : Int) (r1 : ByteArray) (r2 : Bool) (w : World) (hr0_0 : Kd.C k99 w A0_0 l0_0.length l0_0) (hc0_0 : l0_0.length ≤ c0_0) (h : quorumref8_Get.f k l0_0 a1 a2 = some (r1, r2)) :
  Calls Try.prog 20 #[.agg #[.slice A0_0 l0_0.length c0_0], .string a1, .int .i64 a2] w fun e w' => e = .returned (.tuple #[.string r1, .bool r2]) ∧ Below w.heap.size w w' := by
 have hu47 := Try.underlying47
 have hu99 := Try.underlying99
 have hu72 := Try.underlying72
 have ag := mk0 hr0_0
 have ak := mk0 hc0_0
 clear hr0_0 hc0_0
 have HB := mk0 (Below.refl w.heap.size w)
 have H : ((quorumref8_place.f k l0_0 a1).bind fun bt151 => (if bt151.2 = true then (if 0 ≤ bt151.1 then (if bt151.1 < (l0_0.length : Int) then ((quorumref8_At.f k ((rd_T99 l0_0 bt151.1).f0) ((rd_T99 l0_0 bt151.1).f1) a2).bind fun bt154 => (some (bt154.2.1, bt154.2.2.2))) else (none)) else (none)) else (some ((⟨#[]⟩ : ByteArray), false)))) = some (r1, r2) := h
 clear h
 replace H := ob_ H
 obtain ⟨⟨ab, ax⟩, A4, H⟩ := H
 try dsimp only at H
 by_cases c5 : ax = true
 ·subst c5
  rw [if_pos rfl] at H
  by_cases c6 : 0 ≤ ab
  ·rw [if_pos c6] at H
   have aX := decide_eq_true c6
   clear c6
   by_cases c7 : ab < (l0_0.length : Int)
   ·rw [if_pos c7] at H
    have aY := decide_eq_true c7
    clear c7
    replace H := ob_ H
    obtain ⟨⟨ay, az, aA, aB⟩, A8, H⟩ := H
    try dsimp only at H
    simp only [Option.some.injEq, Prod.mk.injEq] at H
    obtain ⟨rfl, rfl⟩ := H
    go_enter Try.func20, Try.ntmps20
    go_wp2_with (first | ((with_reducible refine gate_dst (N := 3) rfl ?_); refine bx_ (N := 3) (cs := #[.slice A0_0 l0_0.length c0_0]) (t := 47) (h := ?_); intro ar hg w9 hbox hb; have n2_ := mk0 (gz_ HB hg); have ah := mk0 (gz_ HB hg); replace HB := mk0 (bt_ (b_ HB) hb); have aa := mk0 (hbox); have au := n2_; have av := ah; clear n2_ ah hb hbox hg; obtain ⟨aC, aD⟩ := c1_ aa) | ((with_reducible refine gate_callee (f := 44) rfl ?_); refine gL_ (some 14) Try.func44 #[.agg #[.slice A0_0 l0_0.length c0_0], .string a1] (h := ?_); (with_reducible refine (quorumref8_place.calls k _ _ l0_0 a1 ab true _ ?side1 ?side2 A4.out).mono ?_); (case side1 => exact cb_ ag HB); (case side2 => exact ak.out); rintro e aZ ⟨rfl, hb⟩; refine ⟨_, rfl, ?_⟩; replace aa := mk0 (u_ aa hb); replace HB := mk0 (bt_ (b_ HB) hb); (try clear hb); obtain ⟨aE, aF⟩ := c1_ aa; have al : 0 ≤ (ab : Int) := od_; have am : ab < (l0_0.length : Int) := od_; obtain ⟨aS, ap, aq, aG, ac, ad, ae, af⟩ := at_T99 ag.out ab al am; cases aG; replace ac := (bc_ HB ac :); replace ad := (bc_ HB ad :); have an := mk0 af; have ao := mk0 ae; clear af ae; replace al := eq_true al; replace am := eq_true am) | ((with_reducible refine gate_callee (f := 45) rfl ?_); refine gL_ (some 26) Try.func45 #[.agg #[.string ((rd_T99 l0_0 ab).f0), .slice ap ((rd_T99 l0_0 ab).f1).length aq], .int .i64 a2] (h := ?_); (with_reducible refine (quorumref8_At.calls k ((rd_T99 l0_0 ab).f0) _ _ ((rd_T99 l0_0 ab).f1) a2 ay az aA aB _ ?side1 ?side2 A8.out).mono ?_); (case side1 => exact cb_ an HB); (case side2 => exact ao.out); rintro e a3 ⟨rfl, hb⟩; refine ⟨_, rfl, ?_⟩; replace aa := mk0 (u_ aa hb); replace HB := mk0 (bt_ (b_ HB) hb); (try clear hb)) | ((with_reducible refine gate_dst (N := 10) rfl ?_); refine bx_ (N := 10) (cs := #[.int .i64 0, .string (⟨#[]⟩ : ByteArray), .bool false]) (t := 72) (h := ?_); intro aT hg a4 hbox hb; have ah := mk0 (gz_ HB hg); have aH := mk0 (gz_ HB hg); have aI := mk0 (ne1_ aa hg); have aJ := mk0 (ne2_ aa hg); replace aa := mk0 (u_ aa hb); replace HB := mk0 (bt_ (b_ HB) hb); have aw := mk0 (hbox); have aU := aH; have ai := aI; have aj := aJ; clear ah aH aI aJ hb hbox hg; have aV := aj.out; have aW := ai.out; obtain ⟨aK, aL, aM, aN, aO, aP⟩ := c3_ aw))
    go_ret2
    exact ⟨sa_, b_ HB⟩
   ·rw [if_neg c7] at H
    exact absurd H (by simp)
  ·rw [if_neg c6] at H
   exact absurd H (by simp)
 ·replace c5 := Bool.eq_false_iff.mpr c5
  subst c5
  rw [if_neg nf_] at H
  simp only [Option.some.injEq, Prod.mk.injEq] at H
  obtain ⟨rfl, rfl⟩ := H
  go_enter Try.func20, Try.ntmps20
  go_wp2_with (first | ((with_reducible refine gate_dst (N := 3) rfl ?_); refine bx_ (N := 3) (cs := #[.slice A0_0 l0_0.length c0_0]) (t := 47) (h := ?_); intro ar hg a5 hbox hb; have n2_ := mk0 (gz_ HB hg); have ah := mk0 (gz_ HB hg); replace HB := mk0 (bt_ (b_ HB) hb); have aa := mk0 (hbox); have au := n2_; have av := ah; clear n2_ ah hb hbox hg; obtain ⟨aQ, aR⟩ := c1_ aa) | ((with_reducible refine gate_callee (f := 44) rfl ?_); refine gL_ (some 14) Try.func44 #[.agg #[.slice A0_0 l0_0.length c0_0], .string a1] (h := ?_); (with_reducible refine (quorumref8_place.calls k _ _ l0_0 a1 ab false _ ?side1 ?side2 A4.out).mono ?_); (case side1 => exact cb_ ag HB); (case side2 => exact ak.out); rintro e a6 ⟨rfl, hb⟩; refine ⟨_, rfl, ?_⟩; replace aa := mk0 (u_ aa hb); replace HB := mk0 (bt_ (b_ HB) hb); (try clear hb)))
  go_ret2
  exact ⟨sa_, b_ HB⟩
/-! ### quorumref8_Count: function 75 -/
def quorumref8_Count.l0 : Nat → Int → Int → List (S99) → Option (Int)
 | 0, _, _, _ => none
 | k + 1, x3, x4, x160000 => if x4 < (x160000.length : Int) then (if 0 ≤ x4 then (quorumref8_Count.l0 k (wrap64 (x3 + (((rd_T99 x160000 x4).f1).length : Int))) (wrap64 (x4 + 1)) x160000) else (none)) else (some x3)
def quorumref8_Count.f (k : Nat) (l0_0 : List (S99)) : Option (Int) := quorumref8_Count.l0 k 0 0 l0_0
theorem quorumref8_Count.mono_l : ∀ k, (∀ y0 y1 y2, LeO (quorumref8_Count.l0 k y0 y1 y2) (quorumref8_Count.l0 (k + 1) y0 y1 y2))
 | 0 => fun _ _ _ r h => by simp [quorumref8_Count.l0] at h
 | k + 1 => by
  have ih0 := quorumref8_Count.mono_l k
  all_goals (intros; first | unfold quorumref8_Count.l0)
  all_goals (repeat' first | (with_reducible exact ih0 ..) | (with_reducible exact LeO.refl _) | (with_reducible exact LeO.none _) | (with_reducible refine LeO.ite ?_ ?_) | (with_reducible refine LeO.bind ?_ (fun _ => ?_)) | exact LeO.none _ | refine LeO.ite ?_ ?_ | refine LeO.bind ?_ (fun _ => ?_))
theorem quorumref8_Count.mono : ∀ a0 k, LeO (quorumref8_Count.f k a0) (quorumref8_Count.f (k + 1) a0) := by
 intro a0 k
 have ih0 := quorumref8_Count.mono_l k
 unfold quorumref8_Count.f
 repeat' first | (with_reducible exact ih0 ..) | (with_reducible exact LeO.refl _) | (with_reducible exact LeO.none _) | (with_reducible refine LeO.ite ?_ ?_) | (with_reducible refine LeO.bind ?_ (fun _ => ?_)) | exact LeO.none _ | refine LeO.ite ?_ ?_ | refine LeO.bind ?_ (fun _ => ?_)
theorem quorumref8_Count.calls (k : Nat) (A0_0 : Option Addr) (c0_0 : Nat) (l0_0 : List (S99)) (r : Int) (w : World) (hr0_0 : Kd.C k99 w A0_0 l0_0.length l0_0) (hc0_0 : l0_0.length ≤ c0_0) (h : quorumref8_Count.f k l0_0 = some r) :
  Calls Try.prog 75 #[.agg #[.slice A0_0 l0_0.length c0_0]] w fun e w' => e = .returned (.int .i64 r) ∧ Below w.heap.size w w' := by
 have hu47 := Try.underlying47
 have aj := mk0 hr0_0
 have az := mk0 hc0_0
 clear hr0_0 hc0_0
 have HB := mk0 (Below.refl w.heap.size w)
 have H : (quorumref8_Count.l0 k 0 0 l0_0) = some r := h
 clear h
 have H' := mk0 H
 clear H
 go_enter Try.func75, Try.ntmps75
 go_wp2_with (first | ((with_reducible refine gate_dst (N := 1) rfl ?_); refine bx_ (N := 1) (cs := #[.slice A0_0 l0_0.length c0_0]) (t := 47) (h := ?_); intro ak hg w2 hbox hb; have n2_ := mk0 (gz_ HB hg); have al := mk0 (gz_ HB hg); replace HB := mk0 (bt_ (b_ HB) hb); have ab := mk0 (hbox); have aA := al; clear n2_ al; clear hb hbox hg))
 go_loopg [3, 4] k (fun kq v3 v4 w' => ∃ (ag : Int) (aa : Int), v3 = .int .i64 ag ∧ v4 = .int .i64 aa ∧ Fc (quorumref8_Count.l0 kq ag aa l0_0 = some r) ∧ Fc (kq ≤ k) ∧ Fc (w'.heap[ak]? = some (.cells #[(.slice A0_0 l0_0.length c0_0)] 47 (0, 0))) ∧ Fc (Below w.heap.size w w'))
 case atStart => exact ⟨(0), (0), sm_, sm_, H', ⟨Nat.le_refl _⟩, ⟨h_ ab⟩, ⟨b_ HB⟩⟩
 case round =>
  clear H'
  obtain ⟨ag, aa, rfl, rfl, HA, am, ab, HB⟩ := hrel
  cases gk with
  | zero => exact absurd HA.out (by simp [quorumref8_Count.l0])
  | succ k1 =>
   have H := HA.out
   clear HA
   simp only [quorumref8_Count.l0] at H
   as_aux_lemma =>
    by_cases c3 : aa < (l0_0.length : Int)
    ·rw [if_pos c3] at H
     have an := decide_eq_true c3
     clear c3
     by_cases c4 : 0 ≤ aa
     ·rw [if_pos c4] at H
      have aC := decide_eq_true c4
      clear c4
      have H' := mk0 H
      clear H
      obtain ⟨ar, au⟩ := c1_ ab
      have ah : 0 ≤ (aa : Int) := od_
      have ai : aa < (l0_0.length : Int) := od_
      obtain ⟨aB, av, aw, ao, ac, ad, ae, af⟩ := at_T99 aj.out aa ah ai
      cases ao
      replace ac := (bc_ HB ac :)
      replace ad := (bc_ HB ad :)
      have ap := mk0 af
      have aq := mk0 ae
      clear af ae
      replace ah := eq_true ah
      replace ai := eq_true ai
      go_wp2
      go_roundg k1
      case measure => have := am.out; omega
      case rel => exact ⟨(wrap64 (ag + (((rd_T99 l0_0 aa).f1).length : Int))), (wrap64 (aa + 1)), sm_, sm_, H', ⟨by have := am.out; omega⟩, ⟨h_ ab⟩, ⟨b_ HB⟩⟩
     ·rw [if_neg c4] at H
      exact absurd H (by simp)
    ·rw [if_neg c3] at H
     have an := decide_eq_false c3
     clear c3
     obtain rfl := Option.some.inj H
     obtain ⟨ax, ay⟩ := c1_ ab
     go_wp2
     go_ret
     exact ⟨sa_, b_ HB⟩
/-! ### quorumref0_Between: function 102 -/
def quorumref0_Between.f (a0 : Int) (a1 : Int) (a2 : Int) : Option (Bool) := if a0 ≥ a1 then (some (decide (a0 ≤ a2))) else (some false)
theorem quorumref0_Between.calls (a0 : Int) (a1 : Int) (a2 : Int) (r : Bool) (w : World) (h : quorumref0_Between.f a0 a1 a2 = some r) :
  Calls Try.prog 102 #[.int .i64 a0, .int .i64 a1, .int .i64 a2] w fun e w' => e = .returned (.bool r) ∧ Drawn0 w w' := by
 have H : (if a0 ≥ a1 then (some (decide (a0 ≤ a2))) else (some false)) = some r := h
 clear h
 by_cases c4 : a0 ≥ a1
 ·rw [if_pos c4] at H
  have c4b0 := decide_eq_true c4
  clear c4
  obtain rfl := Option.some.inj H
  go_enter Try.func102, Try.ntmps102
  go_wp2
  go_ret
  exact ⟨by first | rfl | (simp; done) | (simp [*]; done), by repeat (first | exact Drawn0.refl _ | apply Drawn0.step)⟩
 ·rw [if_neg c4] at H
  have c4b0 := decide_eq_false c4
  clear c4
  obtain rfl := Option.some.inj H
  go_enter Try.func102, Try.ntmps102
  go_wp2
  go_ret
  exact ⟨by first | rfl | (simp; done) | (simp [*]; done), by repeat (first | exact Drawn0.refl _ | apply Drawn0.step)⟩
/-! ### quorumref1_Key: function 62 -/
def quorumref1_Key.f (a0 : ByteArray) : Option (Bool) := (quorumref0_Between.f (a0.size : Int) 1 12).bind fun t161 => (some t161)
theorem quorumref1_Key.calls (a0 : ByteArray) (r : Bool) (w : World) (h : quorumref1_Key.f a0 = some r) :
  Calls Try.prog 62 #[.string a0] w fun e w' => e = .returned (.bool r) ∧ Drawn0 w w' := by
 have H : ((quorumref0_Between.f (a0.size : Int) 1 12).bind fun t161 => (some t161)) = some r := h
 clear h
 replace H := ob_ H
 obtain ⟨t161, A2, H⟩ := H
 try dsimp only at H
 obtain rfl := Option.some.inj H
 go_enter Try.func62, Try.ntmps62
 go_wp2_with (first | ((with_reducible refine gate_callee (f := 102) rfl ?_); refine gL_ (some 5) Try.func102 #[.int .i64 (a0.size : Int), .int .i64 1, .int .i64 12] (h := ?_); (with_reducible refine (quorumref0_Between.calls (a0.size : Int) 1 12 t161 _ A2.out).mono ?_); rintro e w' ⟨rfl, ⟨nd, rfl⟩⟩; refine ⟨_, rfl, ?_⟩))
 go_ret
 exact ⟨by first | rfl | (simp; done) | (simp [*]; done), by repeat (first | exact Drawn0.refl _ | apply Drawn0.step)⟩
/-! ### quorumref1_Value: function 93 -/
def quorumref1_Value.f (a0 : ByteArray) : Option (Bool) := some (decide ((a0.size : Int) ≤ 20))
theorem quorumref1_Value.calls (a0 : ByteArray) (r : Bool) (w : World) (h : quorumref1_Value.f a0 = some r) :
  Calls Try.prog 93 #[.string a0] w fun e w' => e = .returned (.bool r) ∧ Drawn0 w w' := by
 have H : (some (decide ((a0.size : Int) ≤ 20))) = some r := h
 clear h
 obtain rfl := Option.some.inj H
 go_enter Try.func93, Try.ntmps93
 go_wp2
 go_ret
 exact ⟨by first | rfl | (simp; done) | (simp [*]; done), by repeat (first | exact Drawn0.refl _ | apply Drawn0.step)⟩
/-! ### quorumref8_Version: function 143 -/
def quorumref8_Version.f (a0_0 : Int) (a0_1 : ByteArray) (a0_2 : Bool) : Option (Bool) := (quorumref0_Between.f a0_0 1 1073741824).bind fun t163 => (if t163 = true then ((quorumref1_Value.f a0_1).bind fun t164 => (if t164 = true then (if a0_2 = true then (some (a0_1.toList == ([] : List UInt8))) else (some true)) else (some false))) else (some false))
theorem quorumref8_Version.calls (a0_0 : Int) (a0_1 : ByteArray) (a0_2 : Bool) (r : Bool) (w : World) (h : quorumref8_Version.f a0_0 a0_1 a0_2 = some r) :
  Calls Try.prog 143 #[.agg #[.int .i64 a0_0, .string a0_1, .bool a0_2]] w fun e w' => e = .returned (.bool r) ∧ Below w.heap.size w w' := by
 have hu72 := Try.underlying72
 have HB := mk0 (Below.refl w.heap.size w)
 have H : ((quorumref0_Between.f a0_0 1 1073741824).bind fun af => (if af = true then ((quorumref1_Value.f a0_1).bind fun ag => (if ag = true then (if a0_2 = true then (some (a0_1.toList == ([] : List UInt8))) else (some true)) else (some false))) else (some false))) = some r := h
 clear h
 replace H := ob_ H
 obtain ⟨af, A2, H⟩ := H
 try dsimp only at H
 by_cases c3 : af = true
 ·subst c3
  rw [if_pos rfl] at H
  replace H := ob_ H
  obtain ⟨ag, A4, H⟩ := H
  try dsimp only at H
  by_cases c5 : ag = true
  ·subst c5
   rw [if_pos rfl] at H
   by_cases c6 : a0_2 = true
   ·subst c6
    rw [if_pos rfl] at H
    obtain rfl := Option.some.inj H
    go_enter Try.func143, Try.ntmps143
    go_wp2_with (first | ((with_reducible refine gate_dst (N := 1) rfl ?_); refine bx_ (N := 1) (cs := #[.int .i64 a0_0, .string a0_1, .bool true]) (t := 72) (h := ?_); intro ac hg w7 hbox hb; have n2_ := mk0 (gz_ HB hg); have ab := mk0 (gz_ HB hg); replace HB := mk0 (bt_ (b_ HB) hb); have aa := mk0 (hbox); have ad := n2_; have ae := ab; clear n2_ ab hb hbox hg; obtain ⟨aB, aC, aD, aE, aF, aG⟩ := c3_ aa) | ((with_reducible refine gate_callee (f := 102) rfl ?_); refine gL_ (some 5) Try.func102 #[.int .i64 a0_0, .int .i64 1, .int .i64 1073741824] (h := ?_); (with_reducible refine (quorumref0_Between.calls a0_0 1 1073741824 true _ A2.out).mono ?_); rintro e w' ⟨rfl, ⟨nd, rfl⟩⟩; refine ⟨_, rfl, ?_⟩) | (go_at_call 93; (with_reducible refine (quorumref1_Value.calls a0_1 true _ A4.out).mono ?_); rintro e w' ⟨rfl, ⟨nd, rfl⟩⟩))
    go_ret
    exact ⟨sa_, b_ HB⟩
   ·replace c6 := Bool.eq_false_iff.mpr c6
    subst c6
    rw [if_neg nf_] at H
    obtain rfl := Option.some.inj H
    go_enter Try.func143, Try.ntmps143
    go_wp2_with (first | ((with_reducible refine gate_dst (N := 1) rfl ?_); refine bx_ (N := 1) (cs := #[.int .i64 a0_0, .string a0_1, .bool false]) (t := 72) (h := ?_); intro ac hg w9 hbox hb; have n2_ := mk0 (gz_ HB hg); have ab := mk0 (gz_ HB hg); replace HB := mk0 (bt_ (b_ HB) hb); have aa := mk0 (hbox); have ad := n2_; have ae := ab; clear n2_ ab hb hbox hg; obtain ⟨ah, ai, aj, ak, al, am⟩ := c3_ aa) | ((with_reducible refine gate_callee (f := 102) rfl ?_); refine gL_ (some 5) Try.func102 #[.int .i64 a0_0, .int .i64 1, .int .i64 1073741824] (h := ?_); (with_reducible refine (quorumref0_Between.calls a0_0 1 1073741824 true _ A2.out).mono ?_); rintro e w' ⟨rfl, ⟨nd, rfl⟩⟩; refine ⟨_, rfl, ?_⟩) | (go_at_call 93; (with_reducible refine (quorumref1_Value.calls a0_1 true _ A4.out).mono ?_); rintro e w' ⟨rfl, ⟨nd, rfl⟩⟩))
    go_ret
    exact ⟨sa_, b_ HB⟩
  ·replace c5 := Bool.eq_false_iff.mpr c5
   subst c5
   rw [if_neg nf_] at H
   obtain rfl := Option.some.inj H
   go_enter Try.func143, Try.ntmps143
   go_wp2_with (first | ((with_reducible refine gate_dst (N := 1) rfl ?_); refine bx_ (N := 1) (cs := #[.int .i64 a0_0, .string a0_1, .bool a0_2]) (t := 72) (h := ?_); intro ac hg aH hbox hb; have n2_ := mk0 (gz_ HB hg); have ab := mk0 (gz_ HB hg); replace HB := mk0 (bt_ (b_ HB) hb); have aa := mk0 (hbox); have ad := n2_; have ae := ab; clear n2_ ab hb hbox hg; obtain ⟨an, ao, ap, aq, ar, au⟩ := c3_ aa) | ((with_reducible refine gate_callee (f := 102) rfl ?_); refine gL_ (some 5) Try.func102 #[.int .i64 a0_0, .int .i64 1, .int .i64 1073741824] (h := ?_); (with_reducible refine (quorumref0_Between.calls a0_0 1 1073741824 true _ A2.out).mono ?_); rintro e w' ⟨rfl, ⟨nd, rfl⟩⟩; refine ⟨_, rfl, ?_⟩) | (go_at_call 93; (with_reducible refine (quorumref1_Value.calls a0_1 false _ A4.out).mono ?_); rintro e w' ⟨rfl, ⟨nd, rfl⟩⟩))
   go_ret
   exact ⟨sa_, b_ HB⟩
 ·replace c3 := Bool.eq_false_iff.mpr c3
  subst c3
  rw [if_neg nf_] at H
  obtain rfl := Option.some.inj H
  go_enter Try.func143, Try.ntmps143
  go_wp2_with (first | ((with_reducible refine gate_dst (N := 1) rfl ?_); refine bx_ (N := 1) (cs := #[.int .i64 a0_0, .string a0_1, .bool a0_2]) (t := 72) (h := ?_); intro ac hg aI hbox hb; have n2_ := mk0 (gz_ HB hg); have ab := mk0 (gz_ HB hg); replace HB := mk0 (bt_ (b_ HB) hb); have aa := mk0 (hbox); have ad := n2_; have ae := ab; clear n2_ ab hb hbox hg; obtain ⟨av, aw, ax, ay, az, aA⟩ := c3_ aa) | ((with_reducible refine gate_callee (f := 102) rfl ?_); refine gL_ (some 5) Try.func102 #[.int .i64 a0_0, .int .i64 1, .int .i64 1073741824] (h := ?_); (with_reducible refine (quorumref0_Between.calls a0_0 1 1073741824 false _ A2.out).mono ?_); rintro e w' ⟨rfl, ⟨nd, rfl⟩⟩; refine ⟨_, rfl, ?_⟩))
  go_ret
  exact ⟨sa_, b_ HB⟩
end Go.Proofs.Ytbaecdcfefmcgaa.PTbe
