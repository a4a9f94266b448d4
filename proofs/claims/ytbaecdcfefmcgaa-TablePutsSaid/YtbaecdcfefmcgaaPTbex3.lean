-- PRINTED by print.py (a twelfth state) out of the translation. Not trusted: Lean checks it.
import Derived.Shelf.SlSorted.Search
import Derived.Test.YtbaecdcfefmcgaaPTbex0
namespace Go.Proofs.Ytbaecdcfefmcgaa.PTbe
open Go.RowKit Go.Proofs.YtbaecdcfefmcgaaW.PrintWords Go.Proofs.YtbaecdcfefmcgaaW.PrintLast Go.Proofs.YtbaecdcfefmcgaaW.PrintMore
attribute [local go_sem] max2_int min2_int max_two min_two max_three min_three max_four min_four   -- for this text's walks alone
set_option maxHeartbeats 8000000
set_option maxRecDepth 100000
set_option linter.unusedVariables false
set_option linter.unusedSimpArgs false
/-! ### key_below: function 174 -/
def key_below.f (a0 : ByteArray) (a1_0 : ByteArray) (a1_1 : ByteArray) (a1_2 : Bool) : Option (Bool) := if a1_2 = true then (some true) else (some (Op.bytesLess a0.toList a1_1.toList))
theorem key_below.calls (a0 : ByteArray) (a1_0 : ByteArray) (a1_1 : ByteArray) (a1_2 : Bool) (r : Bool) (w : World) (h : key_below.f a0 a1_0 a1_1 a1_2 = some r) :
  Calls Try.prog 174 #[.string a0, .agg #[.string a1_0, .string a1_1, .bool a1_2]] w fun e w' => e = .returned (.bool r) ∧ Below w.heap.size w w' := by
 have hu74 := Try.underlying74
 have HB := mk0 (Below.refl w.heap.size w)
 have H : (if a1_2 = true then (some true) else (some (Op.bytesLess a0.toList a1_1.toList))) = some r := h
 clear h
 by_cases c3 : a1_2 = true
 ·subst c3
  rw [if_pos rfl] at H
  obtain rfl := Option.some.inj H
  go_enter Try.func174, Try.ntmps174
  go_wp2_with (first | ((with_reducible refine gate_dst (N := 3) rfl ?_); refine bx_ (N := 3) (cs := #[.string a1_0, .string a1_1, .bool true]) (t := 74) (h := ?_); intro ac hg w4 hbox hb; have n2_ := mk0 (gz_ HB hg); have ab := mk0 (gz_ HB hg); replace HB := mk0 (bt_ (b_ HB) hb); have aa := mk0 (hbox); have ad := n2_; have ae := ab; clear n2_ ab hb hbox hg; obtain ⟨af, ag, ah, ai, aj, ak⟩ := c3_ aa))
  go_ret
  exact ⟨sa_, b_ HB⟩
 ·replace c3 := Bool.eq_false_iff.mpr c3
  subst c3
  rw [if_neg nf_] at H
  obtain rfl := Option.some.inj H
  go_enter Try.func174, Try.ntmps174
  go_wp2_with (first | ((with_reducible refine gate_dst (N := 3) rfl ?_); refine bx_ (N := 3) (cs := #[.string a1_0, .string a1_1, .bool false]) (t := 74) (h := ?_); intro ac hg w6 hbox hb; have n2_ := mk0 (gz_ HB hg); have ab := mk0 (gz_ HB hg); replace HB := mk0 (bt_ (b_ HB) hb); have aa := mk0 (hbox); have ad := n2_; have ae := ab; clear n2_ ab hb hbox hg; obtain ⟨al, am, an, ao, ap, aq⟩ := c3_ aa))
  go_ret
  exact ⟨sa_, b_ HB⟩
/-! ### key_Holds: function 135 -/
def key_Holds.f (a0_0 : ByteArray) (a0_1 : ByteArray) (a0_2 : Bool) (a1 : ByteArray) : Option (Bool) := if ((Op.bytesLess a1.toList a0_0.toList) = true) then (some false) else ((key_below.f a1 a0_0 a0_1 a0_2).bind fun t103 => (some t103))
theorem key_Holds.calls (a0_0 : ByteArray) (a0_1 : ByteArray) (a0_2 : Bool) (a1 : ByteArray) (r : Bool) (w : World) (h : key_Holds.f a0_0 a0_1 a0_2 a1 = some r) :
  Calls Try.prog 135 #[.agg #[.string a0_0, .string a0_1, .bool a0_2], .string a1] w fun e w' => e = .returned (.bool r) ∧ Below w.heap.size w w' := by
 have hu74 := Try.underlying74
 have HB := mk0 (Below.refl w.heap.size w)
 have H : (if ((Op.bytesLess a1.toList a0_0.toList) = true) then (some false) else ((key_below.f a1 a0_0 a0_1 a0_2).bind fun ab => (some ab))) = some r := h
 clear h
 by_cases c3 : ((Op.bytesLess a1.toList a0_0.toList) = true)
 ·rw [if_pos c3] at H
  have ag : (Op.bytesLess a1.toList a0_0.toList) = true := c3
  clear c3
  obtain rfl := Option.some.inj H
  go_enter Try.func135, Try.ntmps135
  go_wp2_with (first | ((with_reducible refine gate_dst (N := 2) rfl ?_); refine bx_ (N := 2) (cs := #[.string a0_0, .string a0_1, .bool a0_2]) (t := 74) (h := ?_); intro ad hg w4 hbox hb; have n2_ := mk0 (gz_ HB hg); have ac := mk0 (gz_ HB hg); replace HB := mk0 (bt_ (b_ HB) hb); have aa := mk0 (hbox); have ae := n2_; have af := ac; clear n2_ ac hb hbox hg; obtain ⟨ah, ai, aj, ak, al, am⟩ := c3_ aa))
  go_ret
  exact ⟨sa_, b_ HB⟩
 ·rw [if_neg c3] at H
  have ag : (Op.bytesLess a1.toList a0_0.toList) = false := by simpa using c3
  clear c3
  replace H := ob_ H
  obtain ⟨ab, A6, H⟩ := H
  try dsimp only at H
  obtain rfl := Option.some.inj H
  go_enter Try.func135, Try.ntmps135
  go_wp2_with (first | ((with_reducible refine gate_dst (N := 2) rfl ?_); refine bx_ (N := 2) (cs := #[.string a0_0, .string a0_1, .bool a0_2]) (t := 74) (h := ?_); intro ad hg w7 hbox hb; have n2_ := mk0 (gz_ HB hg); have ac := mk0 (gz_ HB hg); replace HB := mk0 (bt_ (b_ HB) hb); have aa := mk0 (hbox); have ae := n2_; have af := ac; clear n2_ ac hb hbox hg; obtain ⟨an, ao, ap, aq, ar, au⟩ := c3_ aa) | (go_at_call 174; (with_reducible refine (key_below.calls a1 a0_0 a0_1 a0_2 ab _ A6.out).mono ?_); rintro e w9 ⟨rfl, hb⟩; replace aa := mk0 (u_ aa hb); replace HB := mk0 (bt_ (b_ HB) hb); (try clear hb)))
  go_ret
  exact ⟨sa_, b_ HB⟩
/-! ### quorumlaw0_TableWeight: function 69 -/
mutual
def quorumlaw0_TableWeight.l0 : Nat → Int → Int → List (S99) → Option (Int)
 | 0, _, _, _ => none
 | k + 1, x3, x4, x105000 => if x4 < (x105000.length : Int) then (quorumlaw0_TableWeight.j1 k x3 x4 (decide (x3 < 1048576)) x105000) else (quorumlaw0_TableWeight.j1 k x3 x4 false x105000)
def quorumlaw0_TableWeight.j1 : Nat → Int → Int → Bool → List (S99) → Option (Int)
 | 0, _, _, _, _ => none
 | k + 1, x3, x4, x17, x105000 => if x17 = true then (if 0 ≤ x4 then (if x4 < (x105000.length : Int) then (quorumlaw0_TableWeight.l1 k (wrap64 ((wrap64 (x3 + (((rd_T99 x105000 x4).f1).length : Int))) + (wrap64 ((((rd_T99 x105000 x4).f0).size : Int) / 8)))) x4 0 x105000) else (none)) else (none)) else (some x3)
def quorumlaw0_TableWeight.l1 : Nat → Int → Int → Int → List (S99) → Option (Int)
 | 0, _, _, _, _ => none
 | k + 1, x3, x4, x5, x105000 => if 0 ≤ x4 then (if x4 < (x105000.length : Int) then (if x5 < (((rd_T99 x105000 x4).f1).length : Int) then (quorumlaw0_TableWeight.j3 k x3 x4 x5 (decide (x3 < 1048576)) x105000) else (quorumlaw0_TableWeight.j3 k x3 x4 x5 false x105000)) else (none)) else (none)
def quorumlaw0_TableWeight.j3 : Nat → Int → Int → Int → Bool → List (S99) → Option (Int)
 | 0, _, _, _, _, _ => none
 | k + 1, x3, x4, x5, x50, x105000 => if x50 = true then (if 0 ≤ x4 then (if x4 < (x105000.length : Int) then (if 0 ≤ x5 then (if x5 < (((rd_T99 x105000 x4).f1).length : Int) then (quorumlaw0_TableWeight.l1 k (wrap64 (x3 + (wrap64 ((((rd_T72 ((rd_T99 x105000 x4).f1) x5).f1).size : Int) / 8)))) x4 (wrap64 (x5 + 1)) x105000) else (none)) else (none)) else (none)) else (none)) else (quorumlaw0_TableWeight.l0 k x3 (wrap64 (x4 + 1)) x105000)
end
def quorumlaw0_TableWeight.f (k : Nat) (l0_0 : List (S99)) : Option (Int) := quorumlaw0_TableWeight.l0 k (l0_0.length : Int) 0 l0_0
theorem quorumlaw0_TableWeight.mono_l : ∀ k, (∀ y0 y1 y2, LeO (quorumlaw0_TableWeight.l0 k y0 y1 y2) (quorumlaw0_TableWeight.l0 (k + 1) y0 y1 y2)) ∧ (∀ y0 y1 y2 y3, LeO (quorumlaw0_TableWeight.j1 k y0 y1 y2 y3) (quorumlaw0_TableWeight.j1 (k + 1) y0 y1 y2 y3)) ∧ (∀ y0 y1 y2 y3, LeO (quorumlaw0_TableWeight.l1 k y0 y1 y2 y3) (quorumlaw0_TableWeight.l1 (k + 1) y0 y1 y2 y3)) ∧ (∀ y0 y1 y2 y3 y4, LeO (quorumlaw0_TableWeight.j3 k y0 y1 y2 y3 y4) (quorumlaw0_TableWeight.j3 (k + 1) y0 y1 y2 y3 y4))
 | 0 => ⟨fun _ _ _ r h => by simp [quorumlaw0_TableWeight.l0] at h, fun _ _ _ _ r h => by simp [quorumlaw0_TableWeight.j1] at h, fun _ _ _ _ r h => by simp [quorumlaw0_TableWeight.l1] at h, fun _ _ _ _ _ r h => by simp [quorumlaw0_TableWeight.j3] at h⟩
 | k + 1 => by
  obtain ⟨ih0, ih1, ih2, ih3⟩ := quorumlaw0_TableWeight.mono_l k
  refine ⟨?_, ?_, ?_, ?_⟩
  all_goals (intros; first | unfold quorumlaw0_TableWeight.l0 | unfold quorumlaw0_TableWeight.j1 | unfold quorumlaw0_TableWeight.l1 | unfold quorumlaw0_TableWeight.j3)
  all_goals (repeat' first | (with_reducible exact ih0 ..) | (with_reducible exact ih1 ..) | (with_reducible exact ih2 ..) | (with_reducible exact ih3 ..) | (with_reducible exact LeO.refl _) | (with_reducible exact LeO.none _) | (with_reducible refine LeO.ite ?_ ?_) | (with_reducible refine LeO.bind ?_ (fun _ => ?_)) | exact LeO.none _ | refine LeO.ite ?_ ?_ | refine LeO.bind ?_ (fun _ => ?_))
theorem quorumlaw0_TableWeight.mono : ∀ a0 k, LeO (quorumlaw0_TableWeight.f k a0) (quorumlaw0_TableWeight.f (k + 1) a0) := by
 intro a0 k
 obtain ⟨ih0, ih1, ih2, ih3⟩ := quorumlaw0_TableWeight.mono_l k
 unfold quorumlaw0_TableWeight.f
 repeat' first | (with_reducible exact ih0 ..) | (with_reducible exact ih1 ..) | (with_reducible exact ih2 ..) | (with_reducible exact ih3 ..) | (with_reducible exact LeO.refl _) | (with_reducible exact LeO.none _) | (with_reducible refine LeO.ite ?_ ?_) | (with_reducible refine LeO.bind ?_ (fun _ => ?_)) | exact LeO.none _ | refine LeO.ite ?_ ?_ | refine LeO.bind ?_ (fun _ => ?_)
theorem quorumlaw0_TableWeight.calls (k : Nat) (A0_0 : Option Addr) (c0_0 : Nat) (l0_0 : List (S99)) (r : Int) (w : World) (hr0_0 : Kd.C k99 w A0_0 l0_0.length l0_0) (hc0_0 : l0_0.length ≤ c0_0) (h : quorumlaw0_TableWeight.f k l0_0 = some r) :
  Calls Try.prog 69 #[.agg #[.slice A0_0 l0_0.length c0_0]] w fun e w' => e = .returned (.int .i64 r) ∧ Below w.heap.size w w' := by
 have hu47 := Try.underlying47
 have aq := mk0 hr0_0
 have bR := mk0 hc0_0
 clear hr0_0 hc0_0
 have HB := mk0 (Below.refl w.heap.size w)
 have H : (quorumlaw0_TableWeight.l0 k (l0_0.length : Int) 0 l0_0) = some r := h
 clear h
 have H' := mk0 H
 clear H
 go_enter Try.func69, Try.ntmps69
 go_wp2_with (first | ((with_reducible refine gate_dst (N := 1) rfl ?_); refine bx_ (N := 1) (cs := #[.slice A0_0 l0_0.length c0_0]) (t := 47) (h := ?_); intro an hg w2 hbox hb; have n2_ := mk0 (gz_ HB hg); have ay := mk0 (gz_ HB hg); replace HB := mk0 (bt_ (b_ HB) hb); have ab := mk0 (hbox); have aY := n2_; have aZ := ay; clear n2_ ay hb hbox hg; obtain ⟨aj, ak⟩ := c1_ ab))
 repeat (go_quiet (first | ((with_reducible refine gate_dst (N := 1) rfl ?_); refine bx_ (N := 1) (cs := #[.slice A0_0 l0_0.length c0_0]) (t := 47) (h := ?_); intro an hg w2 hbox hb; have n2_ := mk0 (gz_ HB hg); have ay := mk0 (gz_ HB hg); replace HB := mk0 (bt_ (b_ HB) hb); have ab := mk0 (hbox); have aY := n2_; have aZ := ay; clear n2_ ay hb hbox hg; obtain ⟨aj, ak⟩ := c1_ ab)); try go_wp2_with (first | ((with_reducible refine gate_dst (N := 1) rfl ?_); refine bx_ (N := 1) (cs := #[.slice A0_0 l0_0.length c0_0]) (t := 47) (h := ?_); intro an hg w2 hbox hb; have n2_ := mk0 (gz_ HB hg); have ay := mk0 (gz_ HB hg); replace HB := mk0 (bt_ (b_ HB) hb); have ab := mk0 (hbox); have aY := n2_; have aZ := ay; clear n2_ ay hb hbox hg; obtain ⟨aj, ak⟩ := c1_ ab)))
 go_loopg [3, 4] k (fun kq v3 v4 w' => ∃ (aw : Int) (aa : Int), v3 = .int .i64 aw ∧ v4 = .int .i64 aa ∧ Fc (quorumlaw0_TableWeight.l0 kq aw aa l0_0 = some r) ∧ Fc (kq ≤ k) ∧ Fc (w'.heap[an]? = some (.cells #[(.slice A0_0 l0_0.length c0_0)] 47 (0, 0))) ∧ Fc (Below w.heap.size w w'))
 case atStart => exact ⟨((l0_0.length : Int)), (0), sm_, sm_, H', ⟨Nat.le_refl _⟩, ⟨h_ ab⟩, ⟨b_ HB⟩⟩
 case round =>
  clear H'
  try clear aj
  try clear ak
  obtain ⟨aw, aa, rfl, rfl, HA, az, ab, HB⟩ := hrel
  cases gk with
  | zero => exact absurd HA.out (by simp [quorumlaw0_TableWeight.l0])
  | succ k1 =>
   have H := HA.out
   clear HA
   simp only [quorumlaw0_TableWeight.l0] at H
   as_aux_lemma =>
    have HC4 := mk0 H
    clear H
    go_upto_region 3 with (fail)
    repeat (go_quiet (fail); go_upto_region 3 with (fail))
    go_cut [17] (fun v17 wc => ∃ (kq : Nat) (ax : Bool), v17 = .bool ax ∧ Fc (quorumlaw0_TableWeight.j1 kq aw aa ax l0_0 = some r) ∧ Fc (kq ≤ k1) ∧ Fc (wc.heap[an]? = some (.cells #[(.slice A0_0 l0_0.length c0_0)] 47 (0, 0))) ∧ Fc (Below w.heap.size w wc))
    case first =>
     have H := HC4.out
     clear HC4
     by_cases c5 : aa < (l0_0.length : Int)
     ·rw [if_pos c5] at H
      have aA := decide_eq_true c5
      clear c5
      (first | rw [aA] | (simp only [i64_w, i32_w]; rw [aA]) | skip)
      have H' := mk0 H
      clear H
      obtain ⟨bH, bI⟩ := c1_ ab
      go_wp2
      repeat (go_quiet (fail); try go_wp2)
      go_meet
      case rel => exact ⟨_, (decide (aw < 1048576)), sm_, H', ⟨by have := az.out; first | omega | exact Nat.le_refl _⟩, ⟨h_ ab⟩, ⟨b_ HB⟩⟩
     ·rw [if_neg c5] at H
      have aA := decide_eq_false c5
      clear c5
      (first | rw [aA] | (simp only [i64_w, i32_w]; rw [aA]) | skip)
      have H' := mk0 H
      clear H
      obtain ⟨bJ, bK⟩ := c1_ ab
      go_wp2
      repeat (go_quiet (fail); try go_wp2)
      go_meet
      case rel => exact ⟨_, (false), sm_, H', ⟨by have := az.out; first | omega | exact Nat.le_refl _⟩, ⟨h_ ab⟩, ⟨b_ HB⟩⟩
    case rest =>
     clear HC4
     try clear aj
     try clear ak
     obtain ⟨kq, ax, rfl, HA, aU, ab, HB⟩ := hcut
     cases kq with
     | zero => exact absurd HA.out (by simp [quorumlaw0_TableWeight.j1])
     | succ bq =>
      have H := HA.out
      clear HA
      simp only [quorumlaw0_TableWeight.j1] at H
      as_aux_lemma =>
       by_cases c8 : ax = true
       ·subst c8
        rw [if_pos rfl] at H
        by_cases c9 : 0 ≤ aa
        ·rw [if_pos c9] at H
         have bl := decide_eq_true c9
         clear c9
         by_cases aV : aa < (l0_0.length : Int)
         ·rw [if_pos aV] at H
          have a2 := decide_eq_true aV
          clear aV
          have H' := mk0 H
          clear H
          obtain ⟨aB, aC⟩ := c1_ ab
          have aD : 0 ≤ (aa : Int) := od_
          have aE : aa < (l0_0.length : Int) := od_
          obtain ⟨ao, bL, bM, br, al, ad, aF, aG⟩ := at_T99 aq.out aa aD aE
          cases br
          replace al := (bc_ HB al :)
          replace ad := (bc_ HB ad :)
          have bs := mk0 aG
          have bt := mk0 aF
          clear aG aF
          replace aD := eq_true aD
          replace aE := eq_true aE
          have aH : 0 ≤ (aa : Int) := od_
          have aI : aa < (l0_0.length : Int) := od_
          obtain ⟨bn, bN, bO, bu, am, ae, aJ, aK⟩ := at_T99 aq.out aa aH aI
          obtain rfl : ao = bn := (by injection bu)
          replace am := (bc_ HB am :)
          replace ae := (bc_ HB ae :)
          have bv := mk0 aK
          have bw := mk0 aJ
          clear aK aJ
          replace aH := eq_true aH
          replace aI := eq_true aI
          have ea_ := Option.some.inj (ad.symm.trans ae)
          injection ea_ with ea_ en_ ec_
          subst ea_
          subst ec_
          clear en_
          go_wp2
          repeat (go_quiet (fail); try go_wp2)
          go_loopg [3, 5] bq (fun kq v3 v5 w' => ∃ (ar : Int) (ac : Int), v3 = .int .i64 ar ∧ v5 = .int .i64 ac ∧ Fc (quorumlaw0_TableWeight.l1 kq ar aa ac l0_0 = some r) ∧ Fc (kq ≤ bq) ∧ Fc (w'.heap[an]? = some (.cells #[(.slice (some ao) l0_0.length c0_0)] 47 (0, 0))) ∧ Fc (Below w.heap.size w w'))
          case atStart => exact ⟨(wrap64 ((wrap64 (aw + (((rd_T99 l0_0 aa).f1).length : Int))) + (wrap64 ((((rd_T99 l0_0 aa).f0).size : Int) / 8)))), (0), sm_, sm_, H', ⟨Nat.le_refl _⟩, ⟨h_ ab⟩, ⟨b_ HB⟩⟩
          case round =>
           clear H'
           try clear c8
           try clear c9
           try clear bl
           try clear aV
           try clear a2
           try clear aB
           try clear aj
           try clear aC
           try clear ak
           try clear al
           try clear ad
           try clear am
           try clear ae
           try clear aD
           try clear aH
           try clear aE
           try clear aI
           obtain ⟨ar, ac, rfl, rfl, HA, aW, ab, HB⟩ := hrel
           cases gk with
           | zero => exact absurd HA.out (by simp [quorumlaw0_TableWeight.l1])
           | succ k3 =>
            have H := HA.out
            clear HA
            simp only [quorumlaw0_TableWeight.l1] at H
            as_aux_lemma =>
             have HC12 := mk0 H
             clear H
             go_upto_region 7 with (fail)
             repeat (go_quiet (fail); go_upto_region 7 with (fail))
             go_cut [50] (fun v50 wc => ∃ (kq : Nat) (ap : Bool), v50 = .bool ap ∧ Fc (quorumlaw0_TableWeight.j3 kq ar aa ac ap l0_0 = some r) ∧ Fc (kq ≤ k3) ∧ Fc (wc.heap[an]? = some (.cells #[(.slice (some ao) l0_0.length c0_0)] 47 (0, 0))) ∧ Fc (Below w.heap.size w wc))
             case first =>
              have H := HC12.out
              clear HC12
              by_cases bc : 0 ≤ aa
              ·rw [if_pos bc] at H
               have a3 := decide_eq_true bc
               clear bc
               (first | rw [a3] | (simp only [i64_w, i32_w]; rw [a3]) | skip)
               by_cases bd : aa < (l0_0.length : Int)
               ·rw [if_pos bd] at H
                have bS := decide_eq_true bd
                clear bd
                by_cases aX : ac < (((rd_T99 l0_0 aa).f1).length : Int)
                ·rw [if_pos aX] at H
                 have bo := decide_eq_true aX
                 clear aX
                 have H' := mk0 H
                 clear H
                 obtain ⟨bx, bz⟩ := c1_ ab
                 have au : 0 ≤ (aa : Int) := od_
                 have av : aa < (l0_0.length : Int) := od_
                 obtain ⟨aS, be, bf, a4, af, ag, ah, ai⟩ := at_T99 aq.out aa au av
                 obtain rfl : ao = aS := (by injection a4)
                 replace af := (bc_ HB af :)
                 replace ag := (bc_ HB ag :)
                 have a5 := mk0 ai
                 have a6 := mk0 ah
                 clear ai ah
                 replace au := eq_true au
                 replace av := eq_true av
                 go_wp2
                 repeat (go_quiet (fail); try go_wp2)
                 go_meet
                 case rel => exact ⟨_, (decide (ar < 1048576)), sm_, H', ⟨by have := az.out; have := aU.out; have := aW.out; first | omega | exact Nat.le_refl _⟩, ⟨h_ ab⟩, ⟨b_ HB⟩⟩
                ·rw [if_neg aX] at H
                 have bo := decide_eq_false aX
                 clear aX
                 have H' := mk0 H
                 clear H
                 obtain ⟨bA, bB⟩ := c1_ ab
                 have au : 0 ≤ (aa : Int) := od_
                 have av : aa < (l0_0.length : Int) := od_
                 obtain ⟨aS, be, bf, a4, af, ag, ah, ai⟩ := at_T99 aq.out aa au av
                 obtain rfl : ao = aS := (by injection a4)
                 replace af := (bc_ HB af :)
                 replace ag := (bc_ HB ag :)
                 have a5 := mk0 ai
                 have a6 := mk0 ah
                 clear ai ah
                 replace au := eq_true au
                 replace av := eq_true av
                 go_wp2
                 repeat (go_quiet (fail); try go_wp2)
                 go_meet
                 case rel => exact ⟨_, (false), sm_, H', ⟨by have := az.out; have := aU.out; have := aW.out; first | omega | exact Nat.le_refl _⟩, ⟨h_ ab⟩, ⟨b_ HB⟩⟩
               ·rw [if_neg bd] at H
                exact absurd H (by simp)
              ·rw [if_neg bc] at H
               exact absurd H (by simp)
             case rest =>
              clear HC12
              try clear c8
              try clear c9
              try clear bl
              try clear aV
              try clear a2
              try clear aB
              try clear aj
              try clear aC
              try clear ak
              try clear al
              try clear ad
              try clear am
              try clear ae
              try clear aD
              try clear aH
              try clear aE
              try clear aI
              obtain ⟨kq, ap, rfl, HA, aT, ab, HB⟩ := hcut
              cases kq with
              | zero => exact absurd HA.out (by simp [quorumlaw0_TableWeight.j3])
              | succ bm =>
               have H := HA.out
               clear HA
               simp only [quorumlaw0_TableWeight.j3] at H
               as_aux_lemma =>
                by_cases bg : ap = true
                ·subst bg
                 rw [if_pos rfl] at H
                 by_cases bh : 0 ≤ aa
                 ·rw [if_pos bh] at H
                  have bT := decide_eq_true bh
                  clear bh
                  by_cases bi : aa < (l0_0.length : Int)
                  ·rw [if_pos bi] at H
                   have bU := decide_eq_true bi
                   clear bi
                   by_cases bj : 0 ≤ ac
                   ·rw [if_pos bj] at H
                    have bV := decide_eq_true bj
                    clear bj
                    by_cases bk : ac < (((rd_T99 l0_0 aa).f1).length : Int)
                    ·rw [if_pos bk] at H
                     have bW := decide_eq_true bk
                     clear bk
                     have H' := mk0 H
                     clear H
                     obtain ⟨bC, bD⟩ := c1_ ab
                     have a7 : 0 ≤ (aa : Int) := od_
                     have a8 : aa < (l0_0.length : Int) := od_
                     obtain ⟨bp, bP, bQ, bE, aL, aM, aN, aO⟩ := at_T99 aq.out aa a7 a8
                     obtain rfl : ao = bp := (by injection bE)
                     replace aL := (bc_ HB aL :)
                     replace aM := (bc_ HB aM :)
                     have a9 := mk0 aO
                     have bF := mk0 aN
                     clear aO aN
                     replace a7 := eq_true a7
                     replace a8 := eq_true a8
                     have ba : 0 ≤ (ac : Int) := od_
                     have bb : ac < (((rd_T99 l0_0 aa).f1).length : Int) := od_
                     obtain ⟨bX, bG, aP, aQ, aR⟩ := at_T72 a9.out ac ba bb
                     cases bG
                     replace aP := (bc_ HB aP :)
                     replace aQ := (bc_ HB aQ :)
                     replace aR := (bc_ HB aR :)
                     replace ba := eq_true ba
                     replace bb := eq_true bb
                     go_wp2
                     repeat (go_quiet (fail); try go_wp2)
                     go_roundg bm
                     case measure => have := az.out; have := aU.out; have := aW.out; have := aT.out; omega
                     case rel => exact ⟨(wrap64 (ar + (wrap64 ((((rd_T72 ((rd_T99 l0_0 aa).f1) ac).f1).size : Int) / 8)))), (wrap64 (ac + 1)), sm_, sm_, H', ⟨by have := az.out; have := aU.out; have := aW.out; have := aT.out; omega⟩, ⟨h_ ab⟩, ⟨b_ HB⟩⟩
                    ·rw [if_neg bk] at H
                     exact absurd H (by simp)
                   ·rw [if_neg bj] at H
                    exact absurd H (by simp)
                  ·rw [if_neg bi] at H
                   exact absurd H (by simp)
                 ·rw [if_neg bh] at H
                  exact absurd H (by simp)
                ·replace bg := Bool.eq_false_iff.mpr bg
                 subst bg
                 rw [if_neg nf_] at H
                 have H' := mk0 H
                 clear H
                 go_wp2
                 repeat (go_quiet (fail); try go_wp2)
                 go_roundg bm
                 case measure => have := az.out; have := aU.out; have := aW.out; have := aT.out; omega
                 case rel => exact ⟨(ar), (wrap64 (aa + 1)), sm_, sm_, H', ⟨by have := az.out; have := aU.out; have := aW.out; have := aT.out; omega⟩, ⟨h_ ab⟩, ⟨b_ HB⟩⟩
         ·rw [if_neg aV] at H
          exact absurd H (by simp)
        ·rw [if_neg c9] at H
         exact absurd H (by simp)
       ·replace c8 := Bool.eq_false_iff.mpr c8
        subst c8
        rw [if_neg nf_] at H
        obtain rfl := Option.some.inj H
        go_wp2
        repeat (go_quiet (fail); try go_wp2)
        go_ret
        exact ⟨sa_, b_ HB⟩
end Go.Proofs.Ytbaecdcfefmcgaa.PTbe
