-- PRINTED by print.py (a twelfth state) out of the translation. Not trusted: Lean checks it.
import Derived.Test.YtbaecdcfefmcgaaPTbex0
import Derived.Test.YtbaecdcfefmcgaaPTbex3
namespace Go.Proofs.Ytbaecdcfefmcgaa.PTbe
open Go.RowKit Go.Proofs.YtbaecdcfefmcgaaW.PrintWords Go.Proofs.YtbaecdcfefmcgaaW.PrintLast Go.Proofs.YtbaecdcfefmcgaaW.PrintMore
attribute [local go_sem] max2_int min2_int max_two min_two max_three min_three max_four min_four   -- for this text's walks alone
set_option maxHeartbeats 8000000
set_option maxRecDepth 100000
set_option linter.unusedVariables false
set_option linter.unusedSimpArgs false
/-! ### quorumlaw9_Heavy: function 28 -/
mutual
def quorumlaw9_Heavy.l0 : Nat → Int → Int → List (S99) → List (S76) → Option (Bool)
 | 0, _, _, _, _ => none
 | k + 1, x3, x4, x111000, x111001 => if x4 < (x111001.length : Int) then (quorumlaw9_Heavy.j1 k x3 x4 (decide (x3 < 1048576)) x111000 x111001) else (quorumlaw9_Heavy.j1 k x3 x4 false x111000 x111001)
def quorumlaw9_Heavy.j1 : Nat → Int → Int → Bool → List (S99) → List (S76) → Option (Bool)
 | 0, _, _, _, _, _ => none
 | k + 1, x3, x4, x20, x111000, x111001 => if x20 = true then (if 0 ≤ x4 then (if x4 < (x111001.length : Int) then (quorumlaw9_Heavy.l0 k (wrap64 (x3 + (wrap64 (Int.tdiv (wrap64 ((wrap64 ((wrap64 ((((rd_T76 x111001 x4).f3).size : Int) + (((rd_T76 x111001 x4).f4.f1).size : Int))) + (((rd_T76 x111001 x4).f5.f0).size : Int))) + (((rd_T76 x111001 x4).f5.f1).size : Int))) 8)))) (wrap64 (x4 + 1)) x111000 x111001) else (none)) else (none)) else (some (decide (x3 > 700)))
end
def quorumlaw9_Heavy.f (k : Nat) (l0_0 : List (S99)) (l0_1 : List (S76)) : Option (Bool) := (quorumlaw0_TableWeight.f k l0_0).bind fun t111 => (quorumlaw9_Heavy.l0 k (wrap64 (t111 + (l0_1.length : Int))) 0 l0_0 l0_1)
theorem quorumlaw9_Heavy.mono_l : ∀ k, (∀ y0 y1 y2 y3, LeO (quorumlaw9_Heavy.l0 k y0 y1 y2 y3) (quorumlaw9_Heavy.l0 (k + 1) y0 y1 y2 y3)) ∧ (∀ y0 y1 y2 y3 y4, LeO (quorumlaw9_Heavy.j1 k y0 y1 y2 y3 y4) (quorumlaw9_Heavy.j1 (k + 1) y0 y1 y2 y3 y4))
 | 0 => ⟨fun _ _ _ _ r h => by simp [quorumlaw9_Heavy.l0] at h, fun _ _ _ _ _ r h => by simp [quorumlaw9_Heavy.j1] at h⟩
 | k + 1 => by
  obtain ⟨ih0, ih1⟩ := quorumlaw9_Heavy.mono_l k
  refine ⟨?_, ?_⟩
  all_goals (intros; first | unfold quorumlaw9_Heavy.l0 | unfold quorumlaw9_Heavy.j1)
  all_goals (repeat' first | (with_reducible exact ih0 ..) | (with_reducible exact ih1 ..) | (with_reducible exact quorumlaw0_TableWeight.mono ..) | (with_reducible exact LeO.refl _) | (with_reducible exact LeO.none _) | (with_reducible refine LeO.ite ?_ ?_) | (with_reducible refine LeO.bind ?_ (fun _ => ?_)) | exact LeO.none _ | refine LeO.ite ?_ ?_ | refine LeO.bind ?_ (fun _ => ?_))
theorem quorumlaw9_Heavy.mono : ∀ a0 a1 k, LeO (quorumlaw9_Heavy.f k a0 a1) (quorumlaw9_Heavy.f (k + 1) a0 a1) := by
 intro a0 a1 k
 obtain ⟨ih0, ih1⟩ := quorumlaw9_Heavy.mono_l k
 unfold quorumlaw9_Heavy.f
 repeat' first | (with_reducible exact ih0 ..) | (with_reducible exact ih1 ..) | (with_reducible exact quorumlaw0_TableWeight.mono ..) | (with_reducible exact LeO.refl _) | (with_reducible exact LeO.none _) | (with_reducible refine LeO.ite ?_ ?_) | (with_reducible refine LeO.bind ?_ (fun _ => ?_)) | exact LeO.none _ | refine LeO.ite ?_ ?_ | refine LeO.bind ?_ (fun _ => ?_)
def quorumlaw9_Heavy.T1 : Bool × List (List Nat × List Nat) := (true, [([], []), ([0], [0]), ([1], [1]), ([], []), ([3], [3]), ([4], [4]), ([2, 5], [2, 5]), ([6, 2, 0, 1, 2, 3, 4, 5, 6], [6])])
def quorumlaw9_Heavy.B1 : List Nat := [0, 1, 3, 0, 8, 24, 63, 127]
theorem quorumlaw9_Heavy.tab1 : rtab .any (opsOf Try.f28 1) = quorumlaw9_Heavy.T1 := by kernel_rfl
theorem quorumlaw9_Heavy.bits1 : waitsOk quorumlaw9_Heavy.T1.2 quorumlaw9_Heavy.B1 = true := by kernel_rfl
def quorumlaw9_Heavy.T5 : Bool × List (List Nat × List Nat) := (true, [([], []), ([], []), ([1], [1]), ([], []), ([2, 3], [2, 3]), ([4], [4]), ([5], [5]), ([6], [6]), ([], []), ([8], [8]), ([], []), ([9, 10], [9, 10]), ([11], [11]), ([12], [12]), ([13], [13]), ([14], [14]), ([7, 15], [7, 15]), ([], []), ([17], [17]), ([], []), ([18, 19], [18, 19]), ([20], [20]), ([21], [21]), ([22], [22]), ([23], [23]), ([16, 24], [16, 24]), ([], []), ([26], [26]), ([], []), ([27, 28], [27, 28]), ([29], [29]), ([30], [30]), ([31], [31]), ([32], [32]), ([25, 33], [25, 33]), ([34], [34]), ([0, 35], [0, 35]), ([36, 0, 1, 2, 3, 4, 5, 6, 7, 8, 9, 10, 11, 12, 13, 14, 15, 16, 17, 18, 19, 20, 21, 22, 23, 24, 25, 26, 27, 28, 29, 30, 31, 32, 33, 34, 35, 36], [0, 36])])
def quorumlaw9_Heavy.B5 : List Nat := [0, 0, 2, 0, 14, 30, 62, 126, 0, 256, 0, 1792, 3840, 7936, 16128, 32512, 65534, 0, 131072, 0, 917504, 1966080, 4063232, 8257536, 16646144, 33554430, 0, 67108864, 0, 469762048, 1006632960, 2080374784, 4227858432, 8522825728, 17179869182, 34359738366, 68719476735, 137438953471]
theorem quorumlaw9_Heavy.tab5 : rtab .any (opsOf Try.f28 5) = quorumlaw9_Heavy.T5 := by kernel_rfl
theorem quorumlaw9_Heavy.bits5 : waitsOk quorumlaw9_Heavy.T5.2 quorumlaw9_Heavy.B5 = true := by kernel_rfl
theorem quorumlaw9_Heavy.calls (k : Nat) (A0_0 : Option Addr) (c0_0 : Nat) (l0_0 : List (S99)) (A0_1 : Option Addr) (c0_1 : Nat) (l0_1 : List (S76)) (r : Bool) (w : World) (hr0_0 : Kd.C k99 w A0_0 l0_0.length l0_0) (hc0_0 : l0_0.length ≤ c0_0) (hr0_1 : Kd.C k76 w A0_1 l0_1.length l0_1) (hc0_1 : l0_1.length ≤ c0_1) (h : quorumlaw9_Heavy.f k l0_0 l0_1 = some r) :
  Calls Try.prog 28 #[.agg #[.slice A0_0 l0_0.length c0_0, .slice A0_1 l0_1.length c0_1]] w fun e w' => e = .returned (.bool r) ∧ Below w.heap.size w w' := by
 have hu66 := Try.underlying66
 have hu47 := Try.underlying47
 have b7 := mk0 hr0_0
 have b8 := mk0 hc0_0
 clear hr0_0 hc0_0
 have a7 := mk0 hr0_1
 have cq := mk0 hc0_1
 clear hr0_1 hc0_1
 have HB := mk0 (Below.refl w.heap.size w)
 have H : ((quorumlaw0_TableWeight.f k l0_0).bind fun ba => (quorumlaw9_Heavy.l0 k (wrap64 (ba + (l0_1.length : Int))) 0 l0_0 l0_1)) = some r := h
 clear h
 replace H := ob_ H
 obtain ⟨ba, A2, H⟩ := H
 try dsimp only at H
 have H' := mk0 H
 clear H
 go_enter Try.func28, Try.ntmps28
 try go_wp2_with (first | ((with_reducible refine gate_dst (N := 1) rfl ?_); refine bx_ (N := 1) (cs := #[.slice A0_0 l0_0.length c0_0, .slice A0_1 l0_1.length c0_1]) (t := 66) (h := ?_); intro a5 hg w3 hbox hb; have n2_ := mk0 (gz_ HB hg); have cc := mk0 (gz_ HB hg); replace HB := mk0 (bt_ (b_ HB) hb); have ac := mk0 (hbox); have cr := cc; clear n2_ cc; clear hb hbox hg))
 replace ac := mk0 (bD_ ac.out)
 replace HB := mk0 (b1_ HB.out)
 refine start_ (n := 8) (S := fun w' => w'.cell? ⟨a5, 0, none⟩ = some (.slice A0_0 l0_0.length c0_0) ∧ w'.cell? ⟨a5, 1, none⟩ = some (.slice A0_1 l0_1.length c0_1)) (ds := []) (bt 8 0) (by kernel_rfl) rfl rfl ⟨bk_ ac 0, bk_ ac 1⟩ (fun hHeld => ?_); refine with_tabW quorumlaw9_Heavy.tab1 quorumlaw9_Heavy.bits1 (fun HT_ HW_ => ?_)
 generalize w3.drew = w4 at ac HB hHeld ⊢
 refine pq_ HT_.out 0 5 (bt 8 1) (h := ?_)
 refine pq_ HT_.out 3 8 (bt 8 9) (h := ?_)
 refine tq2_ HT_.out HW_.out 1 6 (bt 8 11) hHeld (h := ?_)
 refine tq2_ HT_.out HW_.out 4 9 (bt 8 27) hHeld (h := ?_)
 refine pq_ HT_.out 5 10 (bt 8 59) (h := ?_)
 refine one_ (i := 2) (N := some 7) (bt 8 63) rfl rfl (one_of HT_.out (by kernel_rfl)) (by decide) (fun K hK => ?_)
 refine goes_ Try.func69 (by kernel_rfl) rfl #[.agg #[.slice A0_0 l0_0.length c0_0]] (by rfl) rfl rfl gs_ ?_
 with_reducible refine (quorumlaw0_TableWeight.calls k _ _ l0_0 ba _ ?side1 ?side2 A2.out).mono ?_
 (case side1 => exact cb_ b7 HB)
 (case side2 => exact b8.out)
 rintro e w5 ⟨rfl, hb⟩
 refine ⟨_, rfl, ?_⟩
 replace ac := mk0 (u_ ac hb)
 replace HB := mk0 (bt_ (b_ HB) hb)
 (try clear hb)
 (try clear hk)
 (try clear hi)
 refine hK.out _ _ ⟨bk_ ac 0, bk_ ac 1⟩ (fun hHeld => ?_)
 clear hK K
 refine norm_ (a' := ?_) ?_ ?_
 rotate_left
 ·show Act.put _ (some 7) _ = _
  simp only [z_]
  rfl
 refine pq_ HT_.out 6 11 (bt 8 127) (h := ?_)
 refine pq_ HT_.out 7 3 (bt 8 255) (h := ?_)
 refine done_ (done_of HT_.out (by kernel_rfl)) ?_
 try go_wp2
 go_loopg [3, 4] k (fun kq v3 v4 w' => ∃ (a6 : Int) (aa : Int), v3 = .int .i64 a6 ∧ v4 = .int .i64 aa ∧ Fc (quorumlaw9_Heavy.l0 kq a6 aa l0_0 l0_1 = some r) ∧ Fc (kq ≤ k) ∧ Fc (w'.heap[a5]? = some (.cells #[(.slice A0_0 l0_0.length c0_0), (.slice A0_1 l0_1.length c0_1)] 66 (0, 0))) ∧ Fc (Below w.heap.size w w'))
 case atStart => exact ⟨(wrap64 (ba + (l0_1.length : Int))), (0), sm_, sm_, H', ⟨Nat.le_refl _⟩, ⟨h_ ac⟩, ⟨b_ HB⟩⟩
 case round =>
  clear H'
  obtain ⟨a6, aa, rfl, rfl, HA, b3, ac, HB⟩ := hrel
  cases gk with
  | zero => exact absurd HA.out (by simp [quorumlaw9_Heavy.l0])
  | succ k1 =>
   have H := HA.out
   clear HA
   simp only [quorumlaw9_Heavy.l0] at H
   as_aux_lemma =>
    have HC6 := mk0 H
    clear H
    go_upto_region 3 with (fail)
    go_cut [20] (fun v20 wc => ∃ (kq : Nat) (a8 : Bool), v20 = .bool a8 ∧ Fc (quorumlaw9_Heavy.j1 kq a6 aa a8 l0_0 l0_1 = some r) ∧ Fc (kq ≤ k1) ∧ Fc (wc.heap[a5]? = some (.cells #[(.slice A0_0 l0_0.length c0_0), (.slice A0_1 l0_1.length c0_1)] 66 (0, 0))) ∧ Fc (Below w.heap.size w wc))
    case first =>
     have H := HC6.out
     clear HC6
     by_cases c7 : aa < (l0_1.length : Int)
     ·rw [if_pos c7] at H
      have a9 := decide_eq_true c7
      clear c7
      (first | rw [a9] | (simp only [i64_w, i32_w]; rw [a9]) | skip)
      have H' := mk0 H
      clear H
      obtain ⟨ci, cj, ck, cl⟩ := c2_ ac
      go_wp2
      go_meet
      case rel => exact ⟨_, (decide (a6 < 1048576)), sm_, H', ⟨by have := b3.out; first | omega | exact Nat.le_refl _⟩, ⟨h_ ac⟩, ⟨b_ HB⟩⟩
     ·rw [if_neg c7] at H
      have a9 := decide_eq_false c7
      clear c7
      (first | rw [a9] | (simp only [i64_w, i32_w]; rw [a9]) | skip)
      have H' := mk0 H
      clear H
      obtain ⟨cm, cn, co, cp⟩ := c2_ ac
      go_wp2
      go_meet
      case rel => exact ⟨_, (false), sm_, H', ⟨by have := b3.out; first | omega | exact Nat.le_refl _⟩, ⟨h_ ac⟩, ⟨b_ HB⟩⟩
    case rest =>
     clear HC6
     obtain ⟨kq, a8, rfl, HA, cd, ac, HB⟩ := hcut
     cases kq with
     | zero => exact absurd HA.out (by simp [quorumlaw9_Heavy.j1])
     | succ ct =>
      have H := HA.out
      clear HA
      simp only [quorumlaw9_Heavy.j1] at H
      as_aux_lemma =>
       by_cases b4 : a8 = true
       ·subst b4
        rw [if_pos rfl] at H
        by_cases b5 : 0 ≤ aa
        ·rw [if_pos b5] at H
         have cu := decide_eq_true b5
         clear b5
         by_cases b6 : aa < (l0_1.length : Int)
         ·rw [if_pos b6] at H
          have cv := decide_eq_true b6
          clear b6
          have H' := mk0 H
          clear H
          try go_wp2
          have bf : 0 ≤ (aa : Int) := od_
          have bg : aa < (l0_1.length : Int) := od_
          obtain ⟨ab, ce, ah, ai, aj, ak, al, am, an, ao, ap, aq, ad⟩ := at_T76 a7.out aa bf bg
          have bb := ad
          have bh := aq
          have bi := ap
          have bj := ao
          have bk := an
          have bl := am
          have bm := al
          have bn := ak
          have bo := aj
          have bp := ai
          have bq := ah
          cases ce
          replace ah := (bc_ HB ah :)
          replace ai := (bc_ HB ai :)
          replace aj := (bc_ HB aj :)
          replace ak := (bc_ HB ak :)
          replace al := (bc_ HB al :)
          replace am := (bc_ HB am :)
          replace an := (bc_ HB an :)
          replace ao := (bc_ HB ao :)
          replace ap := (bc_ HB ap :)
          replace aq := (bc_ HB aq :)
          replace ad := (bc_ HB ad :)
          replace bf := eq_true bf
          replace bg := eq_true bg
          have br : 0 ≤ (aa : Int) := od_
          have bs : aa < (l0_1.length : Int) := od_
          obtain ⟨b9, cf, ar, au, av, aw, ax, ay, az, aA, aC, aD, ae⟩ := at_T76 a7.out aa br bs
          have bc := ae
          have bu := aD
          have bv := aC
          have bw := aA
          have bx := az
          have bz := ay
          have bA := ax
          have bB := aw
          have bC := av
          have bD := au
          have bE := ar
          obtain rfl : ab = b9 := (by injection cf)
          replace ar := (bc_ HB ar :)
          replace au := (bc_ HB au :)
          replace av := (bc_ HB av :)
          replace aw := (bc_ HB aw :)
          replace ax := (bc_ HB ax :)
          replace ay := (bc_ HB ay :)
          replace az := (bc_ HB az :)
          replace aA := (bc_ HB aA :)
          replace aC := (bc_ HB aC :)
          replace aD := (bc_ HB aD :)
          replace ae := (bc_ HB ae :)
          replace br := eq_true br
          replace bs := eq_true bs
          have bF : 0 ≤ (aa : Int) := od_
          have bG : aa < (l0_1.length : Int) := od_
          obtain ⟨ca, cg, aE, aG, aH, aI, aJ, aK, aM, aN, aQ, aR, af⟩ := at_T76 a7.out aa bF bG
          have bd := af
          have bH := aR
          have bI := aQ
          have bJ := aN
          have bK := aM
          have bL := aK
          have bM := aJ
          have bN := aI
          have bO := aH
          have bP := aG
          have bQ := aE
          obtain rfl : ab = ca := (by injection cg)
          replace aE := (bc_ HB aE :)
          replace aG := (bc_ HB aG :)
          replace aH := (bc_ HB aH :)
          replace aI := (bc_ HB aI :)
          replace aJ := (bc_ HB aJ :)
          replace aK := (bc_ HB aK :)
          replace aM := (bc_ HB aM :)
          replace aN := (bc_ HB aN :)
          replace aQ := (bc_ HB aQ :)
          replace aR := (bc_ HB aR :)
          replace af := (bc_ HB af :)
          replace bF := eq_true bF
          replace bG := eq_true bG
          have bR : 0 ≤ (aa : Int) := od_
          have bS : aa < (l0_1.length : Int) := od_
          obtain ⟨cb, ch, aT, aU, aV, aW, aX, aY, aZ, a2, a3, a4, ag⟩ := at_T76 a7.out aa bR bS
          have be := ag
          have bT := a4
          have bU := a3
          have bV := a2
          have bW := aZ
          have bX := aY
          have bY := aX
          have bZ := aW
          have b0 := aV
          have b1 := aU
          have b2 := aT
          obtain rfl : ab = cb := (by injection ch)
          replace aT := (bc_ HB aT :)
          replace aU := (bc_ HB aU :)
          replace aV := (bc_ HB aV :)
          replace aW := (bc_ HB aW :)
          replace aX := (bc_ HB aX :)
          replace aY := (bc_ HB aY :)
          replace aZ := (bc_ HB aZ :)
          replace a2 := (bc_ HB a2 :)
          replace a3 := (bc_ HB a3 :)
          replace a4 := (bc_ HB a4 :)
          replace ag := (bc_ HB ag :)
          replace bR := eq_true bR
          replace bS := eq_true bS
          have hs1_0 : wc.cell? ⟨a5, 0, none⟩ = some (.slice A0_0 l0_0.length c0_0) := bk_ ac 0
          have hs1_1 : wc.cell? ⟨a5, 1, none⟩ = some (.slice (some ab) l0_1.length c0_1) := bk_ ac 1
          have hs1_2 : wc.cell? (ab.add ((aa).toNat * 11)) = some (.int .i64 ((rd_T76 l0_1 aa).f0)) := ((bc_ HB bq :))
          have hs1_3 : wc.cell? ⟨(ab.add ((aa).toNat * 11)).block, (ab.add ((aa).toNat * 11)).off + 1, none⟩ = some (.int .i64 ((rd_T76 l0_1 aa).f1)) := ((bc_ HB bp :))
          have hs1_4 : wc.cell? ⟨(ab.add ((aa).toNat * 11)).block, (ab.add ((aa).toNat * 11)).off + 2, none⟩ = some (.int .i64 ((rd_T76 l0_1 aa).f2)) := ((bc_ HB bo :))
          have hs1_5 : wc.cell? ⟨(ab.add ((aa).toNat * 11)).block, (ab.add ((aa).toNat * 11)).off + 3, none⟩ = some (.string ((rd_T76 l0_1 aa).f3)) := ((bc_ HB bn :))
          have hs1_6 : wc.cell? ⟨(ab.add ((aa).toNat * 11)).block, (ab.add ((aa).toNat * 11)).off + 4, none⟩ = some (.int .i64 ((rd_T76 l0_1 aa).f4.f0)) := ((bc_ HB bm :))
          have hs1_7 : wc.cell? ⟨(ab.add ((aa).toNat * 11)).block, (ab.add ((aa).toNat * 11)).off + 5, none⟩ = some (.string ((rd_T76 l0_1 aa).f4.f1)) := ((bc_ HB bl :))
          have hs1_8 : wc.cell? ⟨(ab.add ((aa).toNat * 11)).block, (ab.add ((aa).toNat * 11)).off + 6, none⟩ = some (.bool ((rd_T76 l0_1 aa).f4.f2)) := ((bc_ HB bk :))
          have hs1_9 : wc.cell? ⟨(ab.add ((aa).toNat * 11)).block, (ab.add ((aa).toNat * 11)).off + 7, none⟩ = some (.string ((rd_T76 l0_1 aa).f5.f0)) := ((bc_ HB bj :))
          have hs1_10 : wc.cell? ⟨(ab.add ((aa).toNat * 11)).block, (ab.add ((aa).toNat * 11)).off + 8, none⟩ = some (.string ((rd_T76 l0_1 aa).f5.f1)) := ((bc_ HB bi :))
          have hs1_11 : wc.cell? ⟨(ab.add ((aa).toNat * 11)).block, (ab.add ((aa).toNat * 11)).off + 9, none⟩ = some (.bool ((rd_T76 l0_1 aa).f5.f2)) := ((bc_ HB bh :))
          have hs1_12 : wc.cell? ⟨(ab.add ((aa).toNat * 11)).block, (ab.add ((aa).toNat * 11)).off + 10, none⟩ = some (.bool ((rd_T76 l0_1 aa).f6)) := ((bc_ HB bb :))
          have hs1_13 : wc.cell? (ab.add ((aa).toNat * 11)) = some (.int .i64 ((rd_T76 l0_1 aa).f0)) := ((bc_ HB bE :))
          have hs1_14 : wc.cell? ⟨(ab.add ((aa).toNat * 11)).block, (ab.add ((aa).toNat * 11)).off + 1, none⟩ = some (.int .i64 ((rd_T76 l0_1 aa).f1)) := ((bc_ HB bD :))
          have hs1_15 : wc.cell? ⟨(ab.add ((aa).toNat * 11)).block, (ab.add ((aa).toNat * 11)).off + 2, none⟩ = some (.int .i64 ((rd_T76 l0_1 aa).f2)) := ((bc_ HB bC :))
          have hs1_16 : wc.cell? ⟨(ab.add ((aa).toNat * 11)).block, (ab.add ((aa).toNat * 11)).off + 3, none⟩ = some (.string ((rd_T76 l0_1 aa).f3)) := ((bc_ HB bB :))
          have hs1_17 : wc.cell? ⟨(ab.add ((aa).toNat * 11)).block, (ab.add ((aa).toNat * 11)).off + 4, none⟩ = some (.int .i64 ((rd_T76 l0_1 aa).f4.f0)) := ((bc_ HB bA :))
          have hs1_18 : wc.cell? ⟨(ab.add ((aa).toNat * 11)).block, (ab.add ((aa).toNat * 11)).off + 5, none⟩ = some (.string ((rd_T76 l0_1 aa).f4.f1)) := ((bc_ HB bz :))
          have hs1_19 : wc.cell? ⟨(ab.add ((aa).toNat * 11)).block, (ab.add ((aa).toNat * 11)).off + 6, none⟩ = some (.bool ((rd_T76 l0_1 aa).f4.f2)) := ((bc_ HB bx :))
          have hs1_20 : wc.cell? ⟨(ab.add ((aa).toNat * 11)).block, (ab.add ((aa).toNat * 11)).off + 7, none⟩ = some (.string ((rd_T76 l0_1 aa).f5.f0)) := ((bc_ HB bw :))
          have hs1_21 : wc.cell? ⟨(ab.add ((aa).toNat * 11)).block, (ab.add ((aa).toNat * 11)).off + 8, none⟩ = some (.string ((rd_T76 l0_1 aa).f5.f1)) := ((bc_ HB bv :))
          have hs1_22 : wc.cell? ⟨(ab.add ((aa).toNat * 11)).block, (ab.add ((aa).toNat * 11)).off + 9, none⟩ = some (.bool ((rd_T76 l0_1 aa).f5.f2)) := ((bc_ HB bu :))
          have hs1_23 : wc.cell? ⟨(ab.add ((aa).toNat * 11)).block, (ab.add ((aa).toNat * 11)).off + 10, none⟩ = some (.bool ((rd_T76 l0_1 aa).f6)) := ((bc_ HB bc :))
          have hs1_24 : wc.cell? (ab.add ((aa).toNat * 11)) = some (.int .i64 ((rd_T76 l0_1 aa).f0)) := ((bc_ HB bQ :))
          have hs1_25 : wc.cell? ⟨(ab.add ((aa).toNat * 11)).block, (ab.add ((aa).toNat * 11)).off + 1, none⟩ = some (.int .i64 ((rd_T76 l0_1 aa).f1)) := ((bc_ HB bP :))
          have hs1_26 : wc.cell? ⟨(ab.add ((aa).toNat * 11)).block, (ab.add ((aa).toNat * 11)).off + 2, none⟩ = some (.int .i64 ((rd_T76 l0_1 aa).f2)) := ((bc_ HB bO :))
          have hs1_27 : wc.cell? ⟨(ab.add ((aa).toNat * 11)).block, (ab.add ((aa).toNat * 11)).off + 3, none⟩ = some (.string ((rd_T76 l0_1 aa).f3)) := ((bc_ HB bN :))
          have hs1_28 : wc.cell? ⟨(ab.add ((aa).toNat * 11)).block, (ab.add ((aa).toNat * 11)).off + 4, none⟩ = some (.int .i64 ((rd_T76 l0_1 aa).f4.f0)) := ((bc_ HB bM :))
          have hs1_29 : wc.cell? ⟨(ab.add ((aa).toNat * 11)).block, (ab.add ((aa).toNat * 11)).off + 5, none⟩ = some (.string ((rd_T76 l0_1 aa).f4.f1)) := ((bc_ HB bL :))
          have hs1_30 : wc.cell? ⟨(ab.add ((aa).toNat * 11)).block, (ab.add ((aa).toNat * 11)).off + 6, none⟩ = some (.bool ((rd_T76 l0_1 aa).f4.f2)) := ((bc_ HB bK :))
          have hs1_31 : wc.cell? ⟨(ab.add ((aa).toNat * 11)).block, (ab.add ((aa).toNat * 11)).off + 7, none⟩ = some (.string ((rd_T76 l0_1 aa).f5.f0)) := ((bc_ HB bJ :))
          have hs1_32 : wc.cell? ⟨(ab.add ((aa).toNat * 11)).block, (ab.add ((aa).toNat * 11)).off + 8, none⟩ = some (.string ((rd_T76 l0_1 aa).f5.f1)) := ((bc_ HB bI :))
          have hs1_33 : wc.cell? ⟨(ab.add ((aa).toNat * 11)).block, (ab.add ((aa).toNat * 11)).off + 9, none⟩ = some (.bool ((rd_T76 l0_1 aa).f5.f2)) := ((bc_ HB bH :))
          have hs1_34 : wc.cell? ⟨(ab.add ((aa).toNat * 11)).block, (ab.add ((aa).toNat * 11)).off + 10, none⟩ = some (.bool ((rd_T76 l0_1 aa).f6)) := ((bc_ HB bd :))
          have hs1_35 : wc.cell? (ab.add ((aa).toNat * 11)) = some (.int .i64 ((rd_T76 l0_1 aa).f0)) := ((bc_ HB b2 :))
          have hs1_36 : wc.cell? ⟨(ab.add ((aa).toNat * 11)).block, (ab.add ((aa).toNat * 11)).off + 1, none⟩ = some (.int .i64 ((rd_T76 l0_1 aa).f1)) := ((bc_ HB b1 :))
          have hs1_37 : wc.cell? ⟨(ab.add ((aa).toNat * 11)).block, (ab.add ((aa).toNat * 11)).off + 2, none⟩ = some (.int .i64 ((rd_T76 l0_1 aa).f2)) := ((bc_ HB b0 :))
          have hs1_38 : wc.cell? ⟨(ab.add ((aa).toNat * 11)).block, (ab.add ((aa).toNat * 11)).off + 3, none⟩ = some (.string ((rd_T76 l0_1 aa).f3)) := ((bc_ HB bZ :))
          have hs1_39 : wc.cell? ⟨(ab.add ((aa).toNat * 11)).block, (ab.add ((aa).toNat * 11)).off + 4, none⟩ = some (.int .i64 ((rd_T76 l0_1 aa).f4.f0)) := ((bc_ HB bY :))
          have hs1_40 : wc.cell? ⟨(ab.add ((aa).toNat * 11)).block, (ab.add ((aa).toNat * 11)).off + 5, none⟩ = some (.string ((rd_T76 l0_1 aa).f4.f1)) := ((bc_ HB bX :))
          have hs1_41 : wc.cell? ⟨(ab.add ((aa).toNat * 11)).block, (ab.add ((aa).toNat * 11)).off + 6, none⟩ = some (.bool ((rd_T76 l0_1 aa).f4.f2)) := ((bc_ HB bW :))
          have hs1_42 : wc.cell? ⟨(ab.add ((aa).toNat * 11)).block, (ab.add ((aa).toNat * 11)).off + 7, none⟩ = some (.string ((rd_T76 l0_1 aa).f5.f0)) := ((bc_ HB bV :))
          have hs1_43 : wc.cell? ⟨(ab.add ((aa).toNat * 11)).block, (ab.add ((aa).toNat * 11)).off + 8, none⟩ = some (.string ((rd_T76 l0_1 aa).f5.f1)) := ((bc_ HB bU :))
          have hs1_44 : wc.cell? ⟨(ab.add ((aa).toNat * 11)).block, (ab.add ((aa).toNat * 11)).off + 9, none⟩ = some (.bool ((rd_T76 l0_1 aa).f5.f2)) := ((bc_ HB bT :))
          have hs1_45 : wc.cell? ⟨(ab.add ((aa).toNat * 11)).block, (ab.add ((aa).toNat * 11)).off + 10, none⟩ = some (.bool ((rd_T76 l0_1 aa).f6)) := ((bc_ HB be :))
          go_quiet (fail)
          clear hs1_0 hs1_1 hs1_2 hs1_3 hs1_4 hs1_5 hs1_6 hs1_7 hs1_8 hs1_9 hs1_10 hs1_11 hs1_12 hs1_13 hs1_14 hs1_15 hs1_16 hs1_17 hs1_18 hs1_19 hs1_20 hs1_21 hs1_22 hs1_23 hs1_24 hs1_25 hs1_26 hs1_27 hs1_28 hs1_29 hs1_30 hs1_31 hs1_32 hs1_33 hs1_34 hs1_35 hs1_36 hs1_37 hs1_38 hs1_39 hs1_40 hs1_41 hs1_42 hs1_43 hs1_44 hs1_45
          generalize hq_ : World.drewN wc _ = cw
          replace ac := mk0 (blk_at hq_ ac.out)
          replace HB := mk0 (below_at hq_ HB.out)
          try replace ah := cell_at hq_ ah
          try replace ai := cell_at hq_ ai
          try replace ad := cell_at hq_ ad
          try replace aj := cell_at hq_ aj
          try replace ak := cell_at hq_ ak
          try replace al := cell_at hq_ al
          try replace am := cell_at hq_ am
          try replace an := cell_at hq_ an
          try replace ao := cell_at hq_ ao
          try replace ap := cell_at hq_ ap
          try replace aq := cell_at hq_ aq
          try replace ar := cell_at hq_ ar
          try replace au := cell_at hq_ au
          try replace ae := cell_at hq_ ae
          try replace av := cell_at hq_ av
          try replace aw := cell_at hq_ aw
          try replace ax := cell_at hq_ ax
          try replace ay := cell_at hq_ ay
          try replace az := cell_at hq_ az
          try replace aA := cell_at hq_ aA
          try replace aC := cell_at hq_ aC
          try replace aD := cell_at hq_ aD
          try replace aE := cell_at hq_ aE
          try replace aG := cell_at hq_ aG
          try replace af := cell_at hq_ af
          try replace aH := cell_at hq_ aH
          try replace aI := cell_at hq_ aI
          try replace aJ := cell_at hq_ aJ
          try replace aK := cell_at hq_ aK
          try replace aM := cell_at hq_ aM
          try replace aN := cell_at hq_ aN
          try replace aQ := cell_at hq_ aQ
          try replace aR := cell_at hq_ aR
          try replace aT := cell_at hq_ aT
          try replace aU := cell_at hq_ aU
          try replace ag := cell_at hq_ ag
          try replace aV := cell_at hq_ aV
          try replace aW := cell_at hq_ aW
          try replace aX := cell_at hq_ aX
          try replace aY := cell_at hq_ aY
          try replace aZ := cell_at hq_ aZ
          try replace a2 := cell_at hq_ a2
          try replace a3 := cell_at hq_ a3
          try replace a4 := cell_at hq_ a4
          clear hq_
          try go_wp2
          go_roundg ct
          case measure => have := b3.out; have := cd.out; omega
          case rel => exact ⟨(wrap64 (a6 + (wrap64 (Int.tdiv (wrap64 ((wrap64 ((wrap64 ((((rd_T76 l0_1 aa).f3).size : Int) + (((rd_T76 l0_1 aa).f4.f1).size : Int))) + (((rd_T76 l0_1 aa).f5.f0).size : Int))) + (((rd_T76 l0_1 aa).f5.f1).size : Int))) 8)))), (wrap64 (aa + 1)), sm_, sm_, H', ⟨by have := b3.out; have := cd.out; omega⟩, ⟨h_ ac⟩, ⟨b_ HB⟩⟩
         ·rw [if_neg b6] at H
          exact absurd H (by simp)
        ·rw [if_neg b5] at H
         exact absurd H (by simp)
       ·replace b4 := Bool.eq_false_iff.mpr b4
        subst b4
        rw [if_neg nf_] at H
        obtain rfl := Option.some.inj H
        go_wp2
        go_ret
        exact ⟨sa_, b_ HB⟩
/-! ### quorumref0_CopyVersions: function 164 -/
def quorumref0_CopyVersions.l0 : Nat → List (S72) → List (S72) → Int → Option ((List (S72)))
 | 0, _, _, _ => none
 | k + 1, x0, x3, x4 => if x4 < (x0.length : Int) then (if 0 ≤ x4 then (if x3.length < 4398046511104 then (quorumref0_CopyVersions.l0 k x0 (x3 ++ [(⟨(rd_T72 x0 x4).f0, (rd_T72 x0 x4).f1, (rd_T72 x0 x4).f2⟩ : S72)]) (wrap64 (x4 + 1))) else (none)) else (none)) else (some x3)
def quorumref0_CopyVersions.f (k : Nat) (l0 : List (S72)) : Option ((List (S72))) := quorumref0_CopyVersions.l0 k l0 ([] : List (S72)) 0
theorem quorumref0_CopyVersions.mono_l : ∀ k, (∀ y0 y1 y2, LeO (quorumref0_CopyVersions.l0 k y0 y1 y2) (quorumref0_CopyVersions.l0 (k + 1) y0 y1 y2))
 | 0 => fun _ _ _ r h => by simp [quorumref0_CopyVersions.l0] at h
 | k + 1 => by
  have ih0 := quorumref0_CopyVersions.mono_l k
  all_goals (intros; first | unfold quorumref0_CopyVersions.l0)
  all_goals (repeat' first | (with_reducible exact ih0 ..) | (with_reducible exact LeO.refl _) | (with_reducible exact LeO.none _) | (with_reducible refine LeO.ite ?_ ?_) | (with_reducible refine LeO.bind ?_ (fun _ => ?_)) | exact LeO.none _ | refine LeO.ite ?_ ?_ | refine LeO.bind ?_ (fun _ => ?_))
theorem quorumref0_CopyVersions.mono : ∀ a0 k, LeO (quorumref0_CopyVersions.f k a0) (quorumref0_CopyVersions.f (k + 1) a0) := by
 intro a0 k
 have ih0 := quorumref0_CopyVersions.mono_l k
 unfold quorumref0_CopyVersions.f
 repeat' first | (with_reducible exact ih0 ..) | (with_reducible exact LeO.refl _) | (with_reducible exact LeO.none _) | (with_reducible refine LeO.ite ?_ ?_) | (with_reducible refine LeO.bind ?_ (fun _ => ?_)) | exact LeO.none _ | refine LeO.ite ?_ ?_ | refine LeO.bind ?_ (fun _ => ?_)
theorem quorumref0_CopyVersions.calls (k : Nat) (A0 : Option Addr) (c0 : Nat) (l0 : List (S72)) (r : List (S72)) (w : World) (hr0 : Kd.C k72 w A0 l0.length l0) (hc0 : l0.length ≤ c0) (h : quorumref0_CopyVersions.f k l0 = some r) :
  Calls Try.prog 164 #[.slice A0 l0.length c0] w fun e w' => ∃ v0_ : Value, e = .returned (v0_) ∧ Kd.R k72 72 w' w.heap.size (fun _ => True) v0_ r ∧ Below w.heap.size w w' := by
 have hu72 := Try.underlying72
 have HR0 := mk0 hr0
 have HC0 := mk0 hc0
 clear hr0 hc0
 have HB := mk0 (Below.refl w.heap.size w)
 have H : (quorumref0_CopyVersions.l0 k l0 ([] : List (S72)) 0) = some r := h
 clear h
 have H' := mk0 H
 clear H
 go_enter Try.func164, Try.ntmps164
 go_wp2
 go_loopg [3, 4] k (fun kq v3 v4 w' => ∃ (ac : List (S72)) (aa : Int), v4 = .int .i64 aa ∧ Fc (quorumref0_CopyVersions.l0 kq l0 ac aa = some r) ∧ Fc (kq ≤ k) ∧ Fc (Kd.R k72 72 w' w.heap.size (fun _ => True) v3 ac) ∧ Fc (Below w.heap.size w w'))
 case atStart => exact ⟨(([] : List (S72))), (0), sm_, H', ⟨Nat.le_refl _⟩, ⟨nl_⟩, ⟨b_ HB⟩⟩
 case round =>
  clear H'
  obtain ⟨ac, aa, rfl, HA, am, ag, HB⟩ := hrel
  cases gk with
  | zero => exact absurd HA.out (by simp [quorumref0_CopyVersions.l0])
  | succ k1 =>
   have H := HA.out
   clear HA
   simp only [quorumref0_CopyVersions.l0] at H
   as_aux_lemma =>
    by_cases c2 : aa < (l0.length : Int)
    ·rw [if_pos c2] at H
     have an := decide_eq_true c2
     clear c2
     by_cases c3 : 0 ≤ aa
     ·rw [if_pos c3] at H
      have aq := decide_eq_true c3
      clear c3
      by_cases c4 : ac.length < 4398046511104
      ·rw [if_pos c4] at H
       have LMc4 := mk0 c4
       clear c4
       obtain ⟨aj, ab⟩ : ∃ y_ : List (S72), y_ = (ac ++ [(⟨(rd_T72 l0 aa).f0, (rd_T72 l0 aa).f1, (rd_T72 l0 aa).f2⟩ : S72)]) := ⟨_, rfl⟩
       replace H : (quorumref0_CopyVersions.l0 k1 l0 aj (wrap64 (aa + 1))) = some r := by first | (rw [ab]; with_reducible exact H) | (have H2_ := (Option.bind_some _ _).symm.trans H; rw [ab]; with_reducible exact H2_) | (have H2_ := (Option.bind_some _ _).symm.trans H; with_reducible exact H2_) | with_reducible exact H | (rw [ab]; exact H) | exact H
       have ak := mk0 ab
       clear ab
       have H' := mk0 H
       clear H
       have ah : 0 ≤ (aa : Int) := od_
       have ai : aa < (l0.length : Int) := od_
       obtain ⟨ap, ao, ad, ae, af⟩ := at_T72 HR0.out aa ah ai
       cases ao
       replace ad := (bc_ HB ad :)
       replace ae := (bc_ HB ae :)
       replace af := (bc_ HB af :)
       replace ah := eq_true ah
       replace ai := eq_true ai
       go_wp2_with (first | ((with_reducible refine gate_builtin (b := .append) (xs := #[.tmp 11, .tmp 16]) rfl ?_); at_builtin; refine Kd.R_append k72 (w0 := w) w.heap.size rfl (.tmp 11) (.tmp 16) 97 72 (.agg #[(.int .i64 0), (.string ⟨#[]⟩), (.bool false)]) 32 rfl Try.underlying97 info72 rfl (by decide) (by omega) u3 ac (⟨(rd_T72 l0 aa).f0, (rd_T72 l0 aa).f1, (rd_T72 l0 aa).f2⟩ : S72) [.int .i64 ((rd_T72 l0 aa).f0), .string ((rd_T72 l0 aa).f1), .bool ((rd_T72 l0 aa).f2)] (fun _ => True) (fun _ => False) rfl rfl ?aP (fun _ hk => hk.elim) ?aF ?aO ?aB ?aS ?aL ?_; (case aP => exact k72_mkM _ _ _ (⟨(rd_T72 l0 aa).f0, (rd_T72 l0 aa).f1, (rd_T72 l0 aa).f2⟩ : S72)); (case aB => exact (b_ HB)); (case aF => exact (fun _ _ => trivial)); (case aO => exact (r_ ag)); (case aS => exact (bz_ (b_ HB))); (case aL => have := LMc4.out; omega); intro ar w5 ho hb hg hat; rw [← ak.out] at ho; replace HB := mk0 (hb); have al := mk0 (ho); clear ag; clear ho hb hg hat))
       go_roundg k1
       case measure => have := am.out; omega
       case rel => exact ⟨(aj), (wrap64 (aa + 1)), sm_, H', ⟨by have := am.out; omega⟩, ⟨r2_ al.out⟩, ⟨b_ HB⟩⟩
      ·rw [if_neg c4] at H
       exact absurd H (by simp)
     ·rw [if_neg c3] at H
      exact absurd H (by simp)
    ·rw [if_neg c2] at H
     have an := decide_eq_false c2
     clear c2
     obtain rfl := Option.some.inj H
     go_wp2
     go_ret
     exact ⟨_, sa_, by (with_reducible repeat (first | apply Ra_ | apply Rn_ | apply Rd_)); exact ag.out, b_ HB⟩
/-! ### quorumref0_CopyChain: function 119 -/
def quorumref0_CopyChain.f (k : Nat) (a0_0 : ByteArray) (l0_1 : List (S72)) : Option (ByteArray × (List (S72))) := (quorumref0_CopyVersions.f k l0_1).bind fun t123 => (some (a0_0, t123))
theorem quorumref0_CopyChain.mono : ∀ a0 a1 k, LeO (quorumref0_CopyChain.f k a0 a1) (quorumref0_CopyChain.f (k + 1) a0 a1) := by
 intro a0 a1 k
 unfold quorumref0_CopyChain.f
 repeat' first | (with_reducible exact quorumref0_CopyVersions.mono ..) | (with_reducible exact LeO.refl _) | (with_reducible exact LeO.none _) | (with_reducible refine LeO.ite ?_ ?_) | (with_reducible refine LeO.bind ?_ (fun _ => ?_)) | exact LeO.none _ | refine LeO.ite ?_ ?_ | refine LeO.bind ?_ (fun _ => ?_)
theorem quorumref0_CopyChain.calls (k : Nat) (a0_0 : ByteArray) (A0_1 : Option Addr) (c0_1 : Nat) (l0_1 : List (S72)) (r1 : ByteArray) (r2 : List (S72)) (w : World) (hr0_1 : Kd.C k72 w A0_1 l0_1.length l0_1) (hc0_1 : l0_1.length ≤ c0_1) (h : quorumref0_CopyChain.f k a0_0 l0_1 = some (r1, r2)) :
  Calls Try.prog 119 #[.agg #[.string a0_0, .slice A0_1 l0_1.length c0_1]] w fun e w' => ∃ v1_ : Value, e = .returned (.agg #[.string r1, v1_]) ∧ Kd.R k72 72 w' w.heap.size (fun _ => True) v1_ r2 ∧ Below w.heap.size w w' := by
 have hu99 := Try.underlying99
 have av := mk0 hr0_1
 have aw := mk0 hc0_1
 clear hr0_1 hc0_1
 have HB := mk0 (Below.refl w.heap.size w)
 have H : ((quorumref0_CopyVersions.f k l0_1).bind fun ag => (some (a0_0, ag))) = some (r1, r2) := h
 clear h
 replace H := ob_ H
 obtain ⟨ag, A2, H⟩ := H
 try dsimp only at H
 simp only [Option.some.injEq, Prod.mk.injEq] at H
 obtain ⟨rfl, rfl⟩ := H
 go_enter Try.func119, Try.ntmps119
 go_wp2_with (first | ((with_reducible refine gate_dst (N := 1) rfl ?_); refine bx_ (N := 1) (cs := #[.string a0_0, .slice A0_1 l0_1.length c0_1]) (t := 99) (h := ?_); intro a4 hg w3 hbox hb; have n2_ := mk0 (gz_ HB hg); have ar := mk0 (gz_ HB hg); replace HB := mk0 (bt_ (b_ HB) hb); have aa := mk0 (hbox); have a5 := ar; clear n2_ ar; clear hb hbox hg) | ((with_reducible refine gate_dst (N := 2) rfl ?_); refine bx_ (N := 2) (cs := #[.string (⟨#[]⟩ : ByteArray), .slice none 0 0]) (t := 99) (h := ?_); intro ab hg w4 hbox hb; have ar := mk0 (gz_ HB hg); have au := mk0 (gz_ HB hg); have am := mk0 (ne1_ aa hg); have an := mk0 (ne2_ aa hg); replace aa := mk0 (u_ aa hb); replace HB := mk0 (bt_ (b_ HB) hb); have ac := mk0 (hbox); have a6 := au; have ai := am; have aj := an; clear ar au am an hb hbox hg; have a8 := ai.out; have a9 := aj.out; obtain ⟨aY, aZ, a2, a3⟩ := c2_ aa) | ((with_reducible refine gate_dst (N := 3) rfl ?_); refine bx_ (N := 3) (cs := #[.string (⟨#[]⟩ : ByteArray), .slice none 0 0]) (t := 99) (h := ?_); intro ah hg w7 hbox hb; have au := mk0 (gz_ HB hg); have am := mk0 (gz_ HB hg); have an := mk0 (ne1_ aa hg); have ax := mk0 (ne2_ aa hg); have ay := mk0 ((by rw [hg]; exact Nat.ne_of_lt (blk_lt (g := ab) (o := .cells #[.string (⟨#[]⟩ : ByteArray), .slice none 0 0] 99 (0, 0)) (h_ ac)) : ab ≠ ah)); have az := mk0 ((by rw [hg]; exact Nat.ne_of_gt (blk_lt (g := ab) (o := .cells #[.string (⟨#[]⟩ : ByteArray), .slice none 0 0] 99 (0, 0)) (h_ ac)) : ah ≠ ab)); replace aa := mk0 (u_ aa hb); replace ac := mk0 (blk_below (g := ab) (o := .cells #[.string (⟨#[]⟩ : ByteArray), .slice none 0 0] 99 (0, 0)) (h_ ac) hb); replace HB := mk0 (bt_ (b_ HB) hb); have af := mk0 (hbox); have a7 := am; have ae := an; have ak := ax; have ad := ay; have al := az; clear au am an ax ay az hb hbox hg; have ba := ak.out; have bb := ae.out; have bc := al.out; have bd := ad.out; obtain ⟨aA, aC, aD, aE⟩ := c2_ af; obtain ⟨aG, aH, aI, aJ⟩ := c2_ aa) | ((with_reducible refine gate_callee (f := 164) rfl ?_); refine gL_ (some 7) Try.func164 #[.slice A0_1 l0_1.length c0_1] (h := ?_); (with_reducible refine (quorumref0_CopyVersions.calls k _ _ l0_1 ag _ ?side1 ?side2 A2.out).mono ?_); (case side1 => exact Kd.C_below av.out (b_ HB)); (case side2 => exact aw.out); rintro e bf ⟨be, rfl, ho0, hb⟩; refine ⟨_, rfl, ?_⟩; have aK := mk0 (Kd.R_lower ho0 (bz_ (b_ HB))); replace aa := mk0 (blk_below (fa_ (fa_ (h_ aa) ae.out) ae.out) hb); replace ac := mk0 (blk_below (g := ab) (o := .cells #[.string (⟨#[]⟩ : ByteArray), .slice none 0 0] 99 (0, 0)) (fa_ (fa_ (h_ ac) ad.out) ad.out) hb); replace af := mk0 (blk_below (g := ah) (o := .cells #[.string a0_0, .slice A0_1 l0_1.length c0_1] 99 (0, 0)) (pu_ (cs := #[.string a0_0, .slice none 0 0]) (pu_ (cs := #[.string (⟨#[]⟩ : ByteArray), .slice none 0 0]) (h_ af))) hb); replace HB := mk0 (bt_ (b_ HB) hb); have ao := aK; clear aK; (try clear hb); (try clear ho0); obtain ⟨ap, aq, aM⟩ := Kd.R_slice ao.out; subst aM; obtain ⟨aN, aQ, aR, aT⟩ := c2_ af; obtain ⟨aU, aV, aW, aX⟩ := c2_ ac))
 refine bodyPost_ret (results_cell_row rfl _ _ ab 99 #[.string a0_0, .slice ap ag.length aq] (0, 0) _ rfl (pu_ (cs := #[.string a0_0, .slice none 0 0]) (pu_ (cs := #[.string (⟨#[]⟩ : ByteArray), .slice none 0 0]) (fa_ (h_ ac) ad.out))) Try.underlying99 rfl (by kernel_rfl)) rfl ?_
 exact ⟨_, sa_, by (with_reducible repeat (first | apply Ra_ | apply Rn_ | apply Rd_)); exact Kd.R_mono (Kd.R_far (p := ⟨ab, 1, none⟩) (Kd.R_far (p := ⟨ab, 0, none⟩) (Kd.R_far (p := ⟨ah, 1, none⟩) (Kd.R_types (Kd.R_types ao.out af.out (by decide)) ac.out (by decide)) (fun _ hk => hk.1.2) (.slice ap ag.length aq)) (fun _ hk => hk.2) (.string a0_0)) (fun _ hk => hk.2) (.slice ap ag.length aq)) (fun _ hk => trivial), b_ HB⟩
/-! ### quorumref0_CopyChains: function 70 -/
def quorumref0_CopyChains.l0 : Nat → List (S99) → List (S99) → Int → Option ((List (S99)))
 | 0, _, _, _ => none
 | k + 1, x0, x3, x4 => if x4 < (x0.length : Int) then (if 0 ≤ x4 then ((quorumref0_CopyChain.f k ((rd_T99 x0 x4).f0) ((rd_T99 x0 x4).f1)).bind fun bt127 => (if x3.length < 3518437208883 then (quorumref0_CopyChains.l0 k x0 (x3 ++ [(⟨bt127.1, bt127.2⟩ : S99)]) (wrap64 (x4 + 1))) else (none))) else (none)) else (some x3)
def quorumref0_CopyChains.f (k : Nat) (l0 : List (S99)) : Option ((List (S99))) := quorumref0_CopyChains.l0 k l0 ([] : List (S99)) 0
theorem quorumref0_CopyChains.mono_l : ∀ k, (∀ y0 y1 y2, LeO (quorumref0_CopyChains.l0 k y0 y1 y2) (quorumref0_CopyChains.l0 (k + 1) y0 y1 y2))
 | 0 => fun _ _ _ r h => by simp [quorumref0_CopyChains.l0] at h
 | k + 1 => by
  have ih0 := quorumref0_CopyChains.mono_l k
  all_goals (intros; first | unfold quorumref0_CopyChains.l0)
  all_goals (repeat' first | (with_reducible exact ih0 ..) | (with_reducible exact quorumref0_CopyChain.mono ..) | (with_reducible exact LeO.refl _) | (with_reducible exact LeO.none _) | (with_reducible refine LeO.ite ?_ ?_) | (with_reducible refine LeO.bind ?_ (fun _ => ?_)) | exact LeO.none _ | refine LeO.ite ?_ ?_ | refine LeO.bind ?_ (fun _ => ?_))
theorem quorumref0_CopyChains.mono : ∀ a0 k, LeO (quorumref0_CopyChains.f k a0) (quorumref0_CopyChains.f (k + 1) a0) := by
 intro a0 k
 have ih0 := quorumref0_CopyChains.mono_l k
 unfold quorumref0_CopyChains.f
 repeat' first | (with_reducible exact ih0 ..) | (with_reducible exact quorumref0_CopyChain.mono ..) | (with_reducible exact LeO.refl _) | (with_reducible exact LeO.none _) | (with_reducible refine LeO.ite ?_ ?_) | (with_reducible refine LeO.bind ?_ (fun _ => ?_)) | exact LeO.none _ | refine LeO.ite ?_ ?_ | refine LeO.bind ?_ (fun _ => ?_)
theorem quorumref0_CopyChains.calls (k : Nat) (A0 : Option Addr) (c0 : Nat) (l0 : List (S99)) (r : List (S99)) (w : World) (hr0 : Kd.C k99 w A0 l0.length l0) (hc0 : l0.length ≤ c0) (h : quorumref0_CopyChains.f k l0 = some r) :
  Calls Try.prog 70 #[.slice A0 l0.length c0] w fun e w' => ∃ v0_ : Value, e = .returned (v0_) ∧ Kd.S k99 99 w' w.heap.size (fun _ => True) v0_ r ∧ Below w.heap.size w w' := by
 have hu99 := Try.underlying99
 have HR0 := mk0 hr0
 have HC0 := mk0 hc0
 clear hr0 hc0
 have HB := mk0 (Below.refl w.heap.size w)
 have H : (quorumref0_CopyChains.l0 k l0 ([] : List (S99)) 0) = some r := h
 clear h
 have H' := mk0 H
 clear H
 go_enter Try.func70, Try.ntmps70
 go_wp2
 go_loopg [3, 4] k (fun kq v3 v4 w' => ∃ (ad : List (S99)) (aa : Int), v4 = .int .i64 aa ∧ Fc (quorumref0_CopyChains.l0 kq l0 ad aa = some r) ∧ Fc (kq ≤ k) ∧ Fc (Kd.S k99 99 w' w.heap.size (fun _ => True) v3 ad) ∧ Fc (Below w.heap.size w w'))
 case atStart => exact ⟨(([] : List (S99))), (0), sm_, H', ⟨Nat.le_refl _⟩, ⟨nl_⟩, ⟨b_ HB⟩⟩
 case round =>
  clear H'
  obtain ⟨ad, aa, rfl, HA, aw, ab, HB⟩ := hrel
  cases gk with
  | zero => exact absurd HA.out (by simp [quorumref0_CopyChains.l0])
  | succ k1 =>
   have H := HA.out
   clear HA
   simp only [quorumref0_CopyChains.l0] at H
   as_aux_lemma =>
    by_cases c2 : aa < (l0.length : Int)
    ·rw [if_pos c2] at H
     have ax := decide_eq_true c2
     clear c2
     by_cases c3 : 0 ≤ aa
     ·rw [if_pos c3] at H
      have aG := decide_eq_true c3
      clear c3
      replace H := ob_ H
      obtain ⟨⟨ag, ae⟩, A4, H⟩ := H
      try dsimp only at H
      by_cases c5 : ad.length < 3518437208883
      ·rw [if_pos c5] at H
       have LMc5 := mk0 c5
       clear c5
       obtain ⟨ar, ac⟩ : ∃ y_ : List (S99), y_ = (ad ++ [(⟨ag, ae⟩ : S99)]) := ⟨_, rfl⟩
       replace H : (quorumref0_CopyChains.l0 k1 l0 ar (wrap64 (aa + 1))) = some r := by first | (rw [ac]; with_reducible exact H) | (have H2_ := (Option.bind_some _ _).symm.trans H; rw [ac]; with_reducible exact H2_) | (have H2_ := (Option.bind_some _ _).symm.trans H; with_reducible exact H2_) | with_reducible exact H | (rw [ac]; exact H) | exact H
       have au := mk0 ac
       clear ac
       have H' := mk0 H
       clear H
       have al : 0 ≤ (aa : Int) := od_
       have am : aa < (l0.length : Int) := od_
       obtain ⟨aD, ap, aq, ay, ah, ai, aj, ak⟩ := at_T99 HR0.out aa al am
       cases ay
       replace ah := (bc_ HB ah :)
       replace ai := (bc_ HB ai :)
       have an := mk0 ak
       have ao := mk0 aj
       clear ak aj
       replace al := eq_true al
       replace am := eq_true am
       go_wp2_with (first | ((with_reducible refine gate_callee (f := 119) rfl ?_); refine gL_ (some 16) Try.func119 #[.agg #[.string ((rd_T99 l0 aa).f0), .slice ap ((rd_T99 l0 aa).f1).length aq]] (h := ?_); (with_reducible refine (quorumref0_CopyChain.calls k1 ((rd_T99 l0 aa).f0) _ _ ((rd_T99 l0 aa).f1) ag ae _ ?side1 ?side2 A4.out).mono ?_); (case side1 => exact cb_ an HB); (case side2 => exact ao.out); rintro e w6 ⟨aH, rfl, ho0, hb⟩; refine ⟨_, rfl, ?_⟩; have az := mk0 (Kd.R_lower ho0 (bz_ (b_ HB))); replace ab := mk0 (Kd.S_elder' (s_ ab) (Kd.R_base ho0) hb); replace HB := mk0 (bt_ (b_ HB) hb); have af := az; clear az; (try clear hb); (try clear ho0); obtain ⟨aA, aC, aE⟩ := Kd.R_slice af.out; subst aE) | ((with_reducible refine gate_builtin (b := .append) (xs := #[.tmp 11, .tmp 17]) rfl ?_); at_builtin; refine Kd.S_append k99 (w0 := w) w.heap.size rfl (.tmp 11) (.tmp 17) 45 99 (.agg #[(.string ⟨#[]⟩), (.slice none 0 0)]) 40 rfl Try.underlying45 info99 rfl (by decide) (by omega) u3 ad (⟨ag, ae⟩ : S99) [.string ag, .slice aA ae.length aC] (fun _ => True) (fun k_ => some k_ = (.slice aA ae.length aC : Value).ownBlock) rfl rfl ?aP (fun k_ hk_ => ((Kd.R_mono (ok' := fun k_ => ((fun _ => True)) k_ ∧ some k_ ≠ (u3 : Value).ownBlock) (Kd.R_apart' (af.out) (Kd.S_typed ab.out) (by decide)) (fun k_ hk => ⟨trivial, hk.2⟩))).1 k_ hk_.symm) ?aF ?aO ?aB ?aS ?aL ?_; (case aP => exact k99_mkM _ _ _ (⟨ag, ae⟩ : S99) (Kd.R_mono (Kd.R_tight rfl (Kd.R_mono (ok' := fun k_ => ((fun _ => True)) k_ ∧ some k_ ≠ (u3 : Value).ownBlock) (Kd.R_apart' (af.out) (Kd.S_typed ab.out) (by decide)) (fun k_ hk => ⟨trivial, hk.2⟩))) (fun _ h_ => h_))); (case aB => exact (b_ HB)); (case aF => exact (fun _ _ => trivial)); (case aO => exact (s2_ (Kd.S_mono ab.out (fun k_ hk => ⟨trivial, fun e_ => hk.2 e_⟩)))); (case aS => exact (bz_ (b_ HB))); (case aL => have := LMc5.out; omega); intro aI w7 ho hb hg hat; rw [← au.out] at ho; replace HB := mk0 (hb); have av := mk0 (ho); clear ab af; clear ho hb hg hat))
       go_roundg k1
       case measure => have := aw.out; omega
       case rel => exact ⟨(ar), (wrap64 (aa + 1)), sm_, H', ⟨by have := aw.out; omega⟩, ⟨s2_ av.out⟩, ⟨b_ HB⟩⟩
      ·rw [if_neg c5] at H
       exact absurd H (by simp)
     ·rw [if_neg c3] at H
      exact absurd H (by simp)
    ·rw [if_neg c2] at H
     have ax := decide_eq_false c2
     clear c2
     obtain rfl := Option.some.inj H
     go_wp2
     go_ret
     exact ⟨_, sa_, by (with_reducible repeat (first | apply Kd.S_alloc | apply Kd.S_drewN | apply Kd.S_drew)); exact ab.out, b_ HB⟩
/-! ### quorumref0_CopyTable: function 29 -/
def quorumref0_CopyTable.f (k : Nat) (l0_0 : List (S99)) : Option ((List (S99))) := (quorumref0_CopyChains.f k l0_0).bind fun t137 => (some t137)
theorem quorumref0_CopyTable.mono : ∀ a0 k, LeO (quorumref0_CopyTable.f k a0) (quorumref0_CopyTable.f (k + 1) a0) := by
 intro a0 k
 unfold quorumref0_CopyTable.f
 repeat' first | (with_reducible exact quorumref0_CopyChains.mono ..) | (with_reducible exact LeO.refl _) | (with_reducible exact LeO.none _) | (with_reducible refine LeO.ite ?_ ?_) | (with_reducible refine LeO.bind ?_ (fun _ => ?_)) | exact LeO.none _ | refine LeO.ite ?_ ?_ | refine LeO.bind ?_ (fun _ => ?_)
theorem quorumref0_CopyTable.calls (k : Nat) (A0_0 : Option Addr) (c0_0 : Nat) (l0_0 : List (S99)) (r : List (S99)) (w : World) (hr0_0 : Kd.C k99 w A0_0 l0_0.length l0_0) (hc0_0 : l0_0.length ≤ c0_0) (h : quorumref0_CopyTable.f k l0_0 = some r) :
  Calls Try.prog 29 #[.agg #[.slice A0_0 l0_0.length c0_0]] w fun e w' => ∃ v0_ : Value, e = .returned (.agg #[v0_]) ∧ Kd.S k99 99 w' w.heap.size (fun _ => True) v0_ r ∧ Below w.heap.size w w' := by
 have hu47 := Try.underlying47
 have av := mk0 hr0_0
 have aw := mk0 hc0_0
 clear hr0_0 hc0_0
 have HB := mk0 (Below.refl w.heap.size w)
 have H : ((quorumref0_CopyChains.f k l0_0).bind fun af => (some af)) = some r := h
 clear h
 replace H := ob_ H
 obtain ⟨af, A2, H⟩ := H
 try dsimp only at H
 obtain rfl := Option.some.inj H
 go_enter Try.func29, Try.ntmps29
 go_wp2_with (first | ((with_reducible refine gate_dst (N := 1) rfl ?_); refine bx_ (N := 1) (cs := #[.slice A0_0 l0_0.length c0_0]) (t := 47) (h := ?_); intro aR hg w3 hbox hb; have n2_ := mk0 (gz_ HB hg); have ar := mk0 (gz_ HB hg); replace HB := mk0 (bt_ (b_ HB) hb); have aa := mk0 (hbox); have aT := ar; clear n2_ ar; clear hb hbox hg) | ((with_reducible refine gate_dst (N := 2) rfl ?_); refine bx_ (N := 2) (cs := #[.slice none 0 0]) (t := 47) (h := ?_); intro ak hg w4 hbox hb; have ar := mk0 (gz_ HB hg); have au := mk0 (gz_ HB hg); have al := mk0 (ne1_ aa hg); have am := mk0 (ne2_ aa hg); replace aa := mk0 (u_ aa hb); replace HB := mk0 (bt_ (b_ HB) hb); have ab := mk0 (hbox); have aU := au; have ag := al; have ah := am; clear ar au al am hb hbox hg; have aW := ag.out; have aX := ah.out; obtain ⟨aN, aQ⟩ := c1_ aa) | ((with_reducible refine gate_dst (N := 3) rfl ?_); refine bx_ (N := 3) (cs := #[.slice none 0 0]) (t := 47) (h := ?_); intro an hg w7 hbox hb; have au := mk0 (gz_ HB hg); have al := mk0 (gz_ HB hg); have am := mk0 (ne1_ aa hg); have ax := mk0 (ne2_ aa hg); have ay := mk0 (ne1_ ab hg); have az := mk0 (ne2_ ab hg); replace aa := mk0 (u_ aa hb); replace ab := mk0 (u_ ab hb); replace HB := mk0 (bt_ (b_ HB) hb); have ad := mk0 (hbox); have aV := al; have ae := am; have ai := ax; have ac := ay; have aj := az; clear au al am ax ay az hb hbox hg; have aY := ai.out; have aZ := ae.out; have a2 := aj.out; have a3 := ac.out; obtain ⟨aA, aC⟩ := c1_ ad; obtain ⟨aD, aE⟩ := c1_ aa) | ((with_reducible refine gate_callee (f := 70) rfl ?_); refine gL_ (some 7) Try.func70 #[.slice A0_0 l0_0.length c0_0] (h := ?_); (with_reducible refine (quorumref0_CopyChains.calls k _ _ l0_0 af _ ?side1 ?side2 A2.out).mono ?_); (case side1 => exact Kd.C_below av.out (b_ HB)); (case side2 => exact aw.out); rintro e a5 ⟨a4, rfl, ho0, hb⟩; refine ⟨_, rfl, ?_⟩; have aG := mk0 (Kd.S_lower ho0 (bz_ (b_ HB))); replace aa := mk0 (blk_below (fa_ (h_ aa) ae.out) hb); replace ab := mk0 (blk_below (fa_ (h_ ab) ac.out) hb); replace ad := mk0 (blk_below (g := an) (o := .cells #[.slice A0_0 l0_0.length c0_0] 47 (0, 0)) (pu_ (cs := #[.slice none 0 0]) (h_ ad)) hb); replace HB := mk0 (bt_ (b_ HB) hb); have ao := aG; clear aG; (try clear hb); (try clear ho0); obtain ⟨ap, aq, aH⟩ := Kd.S_slice ao.out; subst aH; obtain ⟨aI, aJ⟩ := c1_ ad; obtain ⟨aK, aM⟩ := c1_ ab))
 refine bodyPost_ret (results_cell_row rfl _ _ ak 47 #[.slice ap af.length aq] (0, 0) _ rfl (pu_ (cs := #[.slice none 0 0]) (fa_ (h_ ab) ac.out)) Try.underlying47 rfl (by kernel_rfl)) rfl ?_
 exact ⟨_, sa_, by (with_reducible repeat (first | apply Kd.S_alloc | apply Kd.S_drewN | apply Kd.S_drew)); exact Kd.S_mono (Kd.S_far (p := ⟨ak, 0, none⟩) (Kd.S_far (p := ⟨an, 0, none⟩) (Kd.S_types (Kd.S_types ao.out ad.out (by decide)) ab.out (by decide)) (fun _ hk => hk.1.2) (.slice ap af.length aq)) (fun _ hk => hk.2) (.slice ap af.length aq)) (fun _ hk => trivial), b_ HB⟩
end Go.Proofs.Ytbaecdcfefmcgaa.PTbe
